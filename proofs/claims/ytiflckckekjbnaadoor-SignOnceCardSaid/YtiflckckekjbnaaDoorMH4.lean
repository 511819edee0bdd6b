/- Texts of a proof, one behind the other: L2 L3 L4 L5 L6. -/
import Derived.Test.YtiflckckekjbnaaDoorMH3
/- Mirrors. -/
namespace Go.Proofs.YtiflckckekjbnaaDoor
open Go Go.Sx Go.RowKit
set_option linter.all false
set_option maxHeartbeats 400000
set_option maxRecDepth 100000
/- math/bits.Mul64 -/
def math_bits_Mul64 (p0 : Int) (p1 : Int) : Option (Int × Int) :=
 bnd (bitsV .and .u64 p0 4294967295) fun z3 =>
 bnd (shrV .u64 p0 32) fun z5 =>
 bnd (bitsV .and .u64 p1 4294967295) fun z7 =>
 bnd (shrV .u64 p1 32) fun z9 =>
 bnd (IntKind.wrap .u64 (z3 * z7)) fun z11 =>
 bnd (IntKind.wrap .u64 (z5 * z7)) fun z13 =>
 bnd (shrV .u64 z11 32) fun z14 =>
 bnd (IntKind.wrap .u64 (z13 + z14)) fun z15 =>
 bnd (bitsV .and .u64 z15 4294967295) fun z17 =>
 bnd (shrV .u64 z15 32) fun z19 =>
 bnd (IntKind.wrap .u64 (z3 * z9)) fun z21 =>
 bnd (IntKind.wrap .u64 (z17 + z21)) fun z22 =>
 bnd (IntKind.wrap .u64 (z5 * z9)) fun z24 =>
 bnd (IntKind.wrap .u64 (z24 + z19)) fun z25 =>
 bnd (shrV .u64 z22 32) fun z26 =>
 bnd (IntKind.wrap .u64 (z25 + z26)) fun z27 =>
 bnd (IntKind.wrap .u64 (p0 * p1)) fun z29 =>
 some (z27, z29)
theorem math_bits_Mul64_spec {W : World} {r : Int × Int} {p0 : Int} {p1 : Int} (h : math_bits_Mul64 p0 p1 = some r)  :
    Calls Tryd.prog 96 [.int .u64 (p0), .int .u64 (p1)].toArray W (ret1 W (.tuple #[.int .u64 (r.1), .int .u64 (r.2)])) := by
  unfold math_bits_Mul64 at h
  refine calls_val mo ok96 rfl ?_
  refine wc_seq ?_
  refine wc_ops ?_
  refine wj_q _ (q_mv rfl) ?_
  refine wj_q _ (q_mv rfl) ?_
  refine wj_nil ?_
  refine wc_seq ?_
  revert h
  refine bnd_i fun z3 ez3 => ?_
  intro h
  refine wc_ops ?_
  refine wj_q _ (q_mv rfl) ?_
  refine wj_q _ (iz ez3 (q_bin rfl rfl rfl)) ?_
  refine wj_q _ (q_mv rfl) ?_
  refine wj_nil ?_
  refine wc_seq ?_
  revert h
  refine bnd_i fun z5 ez5 => ?_
  intro h
  refine wc_ops ?_
  refine wj_q _ (q_mv rfl) ?_
  refine wj_q _ (iz ez5 (q_shr rfl rfl (by decide))) ?_
  refine wj_q _ (q_mv rfl) ?_
  refine wj_nil ?_
  refine wc_seq ?_
  revert h
  refine bnd_i fun z7 ez7 => ?_
  intro h
  refine wc_ops ?_
  refine wj_q _ (q_mv rfl) ?_
  refine wj_q _ (iz ez7 (q_bin rfl rfl rfl)) ?_
  refine wj_q _ (q_mv rfl) ?_
  refine wj_nil ?_
  refine wc_seq ?_
  revert h
  refine bnd_i fun z9 ez9 => ?_
  intro h
  refine wc_ops ?_
  refine wj_q _ (q_mv rfl) ?_
  refine wj_q _ (iz ez9 (q_shr rfl rfl (by decide))) ?_
  refine wj_q _ (q_mv rfl) ?_
  refine wj_nil ?_
  refine wc_seq ?_
  revert h
  refine bnd_i fun z11 ez11 => ?_
  intro h
  refine wc_ops ?_
  refine wj_q _ (q_mv rfl) ?_
  refine wj_q _ (q_mv rfl) ?_
  refine wj_q _ (iz ez11 (q_bin rfl rfl rfl)) ?_
  refine wj_q _ (q_mv rfl) ?_
  refine wj_nil ?_
  refine wc_seq ?_
  revert h
  refine bnd_i fun z13 ez13 => ?_
  refine bnd_i fun z14 ez14 => ?_
  refine bnd_i fun z15 ez15 => ?_
  intro h
  refine wc_ops ?_
  refine wj_q _ (q_mv rfl) ?_
  refine wj_q _ (q_mv rfl) ?_
  refine wj_q _ (iz ez13 (q_bin rfl rfl rfl)) ?_
  refine wj_q _ (q_mv rfl) ?_
  refine wj_q _ (iz ez14 (q_shr rfl rfl (by decide))) ?_
  refine wj_q _ (iz ez15 (q_bin rfl rfl rfl)) ?_
  refine wj_q _ (q_mv rfl) ?_
  refine wj_nil ?_
  refine wc_seq ?_
  revert h
  refine bnd_i fun z17 ez17 => ?_
  intro h
  refine wc_ops ?_
  refine wj_q _ (q_mv rfl) ?_
  refine wj_q _ (iz ez17 (q_bin rfl rfl rfl)) ?_
  refine wj_q _ (q_mv rfl) ?_
  refine wj_nil ?_
  refine wc_seq ?_
  revert h
  refine bnd_i fun z19 ez19 => ?_
  intro h
  refine wc_ops ?_
  refine wj_q _ (q_mv rfl) ?_
  refine wj_q _ (iz ez19 (q_shr rfl rfl (by decide))) ?_
  refine wj_q _ (q_mv rfl) ?_
  refine wj_nil ?_
  refine wc_seq ?_
  revert h
  refine bnd_i fun z21 ez21 => ?_
  refine bnd_i fun z22 ez22 => ?_
  intro h
  refine wc_ops ?_
  refine wj_q _ (q_mv rfl) ?_
  refine wj_q _ (q_mv rfl) ?_
  refine wj_q _ (q_mv rfl) ?_
  refine wj_q _ (iz ez21 (q_bin rfl rfl rfl)) ?_
  refine wj_q _ (iz ez22 (q_bin rfl rfl rfl)) ?_
  refine wj_q _ (q_mv rfl) ?_
  refine wj_nil ?_
  refine wc_seq ?_
  revert h
  refine bnd_i fun z24 ez24 => ?_
  refine bnd_i fun z25 ez25 => ?_
  refine bnd_i fun z26 ez26 => ?_
  refine bnd_i fun z27 ez27 => ?_
  intro h
  refine wc_ops ?_
  refine wj_q _ (q_mv rfl) ?_
  refine wj_q _ (q_mv rfl) ?_
  refine wj_q _ (iz ez24 (q_bin rfl rfl rfl)) ?_
  refine wj_q _ (q_mv rfl) ?_
  refine wj_q _ (iz ez25 (q_bin rfl rfl rfl)) ?_
  refine wj_q _ (q_mv rfl) ?_
  refine wj_q _ (iz ez26 (q_shr rfl rfl (by decide))) ?_
  refine wj_q _ (iz ez27 (q_bin rfl rfl rfl)) ?_
  refine wj_q _ (q_mv rfl) ?_
  refine wj_nil ?_
  refine wc_seq ?_
  revert h
  refine bnd_i fun z29 ez29 => ?_
  intro h
  refine wc_ops ?_
  refine wj_q _ (q_mv rfl) ?_
  refine wj_q _ (q_mv rfl) ?_
  refine wj_q _ (iz ez29 (q_bin rfl rfl rfl)) ?_
  refine wj_q _ (q_mv rfl) ?_
  refine wj_nil ?_
  refine wc_ret ?_
  revert h; refine ret_i fun h => ?_
  subst h
  exact ⟨_, (.cons (.tmp rfl) (.cons (.tmp rfl) .nil)), rfl⟩
/- (*farebox/field.wide).add -/
def field_wide_add (p0 : List Int) (o : Nat) (L : Nat) (p1 : Int) (p2 : Int) : Option ((List Int)) :=
 opt (math_bits_Mul64 p1 p2) fun y2 =>
 chk (decide (o + 1 < L)) <|
 bnd (p0.getD (o + 1) 0) fun z6 =>
 chk (addOk z6 y2.2 0) <|
 bnd (addLo z6 y2.2 0) fun z8 =>
 bnd (addHi z6 y2.2 0) fun z9 =>
 chk (decide (o + 1 < L)) <|
 bnd (setD p0 (o + 1) z8) fun l11 =>
 chk (decide (o + 0 < L)) <|
 bnd (l11.getD (o + 0) 0) fun z14 =>
 chk (addOk z14 y2.1 z9) <|
 bnd (addLo z14 y2.1 z9) fun z16 =>
 bnd (addHi z14 y2.1 z9) fun z17 =>
 chk (decide (o + 0 < L)) <|
 bnd (setD l11 (o + 0) z16) fun l19 =>
 some l19
theorem field_wide_add_spec {W : World} {r : (List Int)} {p0 : List Int} {o : Nat} {L : Nat} {p1 : Int} {p2 : Int} {b : Nat} {T : TypeId} (h : field_wide_add p0 o L p1 p2 = some r) (h0 : Sat W [b] (ck b T [.ints .u64 L (p0)] :: []) W) :
    Calls Tryd.prog 77 [.pointer (some ⟨b, o, none⟩), .int .u64 (p1), .int .u64 (p2)].toArray W (retS W [b] (fun v Ms => v = .tuple #[] ∧ Ms = [.one (ck b T [.ints .u64 L (r)])])) := by
  unfold field_wide_add at h
  refine calls_memT mo ok77 rfl h0 ?_
  refine wc_seq ?_
  revert h
  refine opt_i fun y2 ey2 => ?_
  intro h
  refine wc_ops ?_
  refine wj_q _ (q_mv rfl) ?_
  refine wj_q _ (q_mv rfl) ?_
  refine wj_q _ (q_call (vs := [.int .u64 (p1), .int .u64 (p2)]) (v := .tuple #[.int .u64 (y2.1), .int .u64 (y2.2)]) rfl (fun w hw => math_bits_Mul64_spec (r := y2) (p0 := p1) (p1 := p2) ey2 )) ?_
  refine wj_q _ (q_mv rfl) ?_
  refine wj_q _ (q_ext rfl rfl) ?_
  refine wj_q _ (q_ext rfl rfl) ?_
  refine wj_q _ (q_mv rfl) ?_
  refine wj_q _ (q_mv rfl) ?_
  refine wj_nil ?_
  refine wc_seq ?_
  refine wc_ops ?_
  refine wj_q _ (q_mv rfl) ?_
  refine wj_nil ?_
  refine wc_seq ?_
  revert h
  refine chk_i fun c5 => ?_
  refine bnd_i fun z6 ez6 => ?_
  refine chk_i fun c7 => ?_
  refine bnd_i fun z8 ez8 => ?_
  refine bnd_i fun z9 ez9 => ?_
  refine chk_i fun c10 => ?_
  refine bnd_i fun l11 el11 => ?_
  intro h
  refine wc_ops ?_
  refine wj_q _ (q_mv rfl) ?_
  refine wj_q _ (q_mv rfl) ?_
  refine wj_q _ (q_nilc rfl) ?_
  refine wj_q _ (q_fa rfl) ?_
  refine wj_q _ (q_ldxz (base := 0) (i := o + 1) ez6 rfl .here rfl (by omega) c5) ?_
  refine wj_q _ (q_mv rfl) ?_
  refine wj_q _ (q_xcall rfl ext_add (xadd ez8 ez9 c7)) ?_
  refine wj_q _ (q_mv rfl) ?_
  refine wj_q _ (q_ext rfl rfl) ?_
  refine wj_q _ (q_ext rfl rfl) ?_
  refine wj_q _ (q_nilc rfl) ?_
  refine wj_q _ (q_fa rfl) ?_
  refine wj_e (ef_stxz (base := 0) (i := o + 1) (q := [.ints .u64 L l11]) el11 rfl rfl rfl (by omega) c10 (by simp [segSet, Seg.width]) .here ?_)
  refine wj_q _ (q_mv rfl) ?_
  refine wj_nil ?_
  revert h
  refine chk_i fun c13 => ?_
  refine bnd_i fun z14 ez14 => ?_
  refine chk_i fun c15 => ?_
  refine bnd_i fun z16 ez16 => ?_
  refine bnd_i fun z17 ez17 => ?_
  refine chk_i fun c18 => ?_
  refine bnd_i fun l19 el19 => ?_
  intro h
  refine wc_ops ?_
  refine wj_q _ (q_mv rfl) ?_
  refine wj_q _ (q_mv rfl) ?_
  refine wj_q _ (q_nilc rfl) ?_
  refine wj_q _ (q_fa rfl) ?_
  refine wj_q _ (q_ldxz (base := 0) (i := o + 0) ez14 rfl .here rfl (by omega) c13) ?_
  refine wj_q _ (q_mv rfl) ?_
  refine wj_q _ (q_mv rfl) ?_
  refine wj_q _ (q_xcall rfl ext_add (xadd ez16 ez17 c15)) ?_
  refine wj_q _ (q_mv rfl) ?_
  refine wj_q _ (q_ext rfl rfl) ?_
  refine wj_q _ (q_ext rfl rfl) ?_
  refine wj_q _ (q_nilc rfl) ?_
  refine wj_q _ (q_fa rfl) ?_
  refine wj_e (ef_stxz (base := 0) (i := o + 0) (q := [.ints .u64 L l19]) el19 rfl rfl rfl (by omega) c18 (by simp [segSet, Seg.width]) .here ?_)
  refine wj_nil ?_
  revert h; refine ret_i fun h => ?_
  subst h
  exact ⟨_, _, .nil, (.one .here .nil), ⟨_, rfl, ⟨rfl, rfl⟩⟩⟩
/- farebox/field.Mul -/
def field_Mul_b2 (y7 : (List Int)) (i1369 : Int) (z1377 : Int) (k1520 : (List Int) → Option ((List Int))) (k1613 : (Int) → (List Int) → Option ((List Int))) (i1611 : Int) (a1612 : List Int) : Option ((List Int)) :=
 br ((decide (i1611 < 5))) (
 jn (fun (a1637 : List Int) => bnd (IntKind.wrap .i64 (i1611 + 1)) fun z1660 =>
 k1613 z1660 a1637) fun k1638 => chk (inB i1611 5) <|
 bnd (y7.getD (i1611).toNat 0) fun z1641 =>
 bnd (IntKind.wrap .i64 (i1369 + i1611)) fun z1643 =>
 br ((decide (z1643 < 5))) (
 bnd (IntKind.wrap .i64 (i1369 + i1611)) fun z1646 =>
 chk (inB z1646 5) <|
 opt (field_wide_add a1612 (0 + (z1646).toNat * 2) 10 z1377 z1641) fun y1648 =>
 k1638 y1648
 ) (
 bnd (IntKind.wrap .i64 (i1369 + i1611)) fun z1652 =>
 bnd (IntKind.wrap .i64 (z1652 - 5)) fun z1653 =>
 chk (inB z1653 5) <|
 bnd (IntKind.wrap .u64 (19 * z1641)) fun z1655 =>
 opt (field_wide_add a1612 (0 + (z1653).toNat * 2) 10 z1377 z1655) fun y1656 =>
 k1638 y1656
 )
 ) (
 k1520 a1612
 )
def field_Mul_l2 (y7 : (List Int)) (i1369 : Int) (z1377 : Int) (k1520 : (List Int) → Option ((List Int))) : Nat → (Int) → (List Int) → Option ((List Int))
  | 0, _, _ => none
  | n + 1, i1611, a1612 => field_Mul_b2 y7 i1369 z1377 k1520 (field_Mul_l2 y7 i1369 z1377 k1520 n) i1611 a1612
def field_Mul_b1 (y6 : (List Int)) (y7 : (List Int)) (k837 : (List Int) → Option ((List Int))) (k1371 : (Int) → (List Int) → Option ((List Int))) (i1369 : Int) (a1370 : List Int) : Option ((List Int)) :=
 br ((decide (i1369 < 5))) (
 chk (inB i1369 5) <|
 bnd (y6.getD (i1369).toNat 0) fun z1377 =>
 jn (fun (a1519 : List Int) => bnd (IntKind.wrap .i64 (i1369 + 1)) fun z1662 =>
 k1371 z1662 a1519) fun k1520 => field_Mul_l2 y7 i1369 z1377 k1520 big 0 a1370
 ) (
 k837 a1370
 )
def field_Mul_l1 (y6 : (List Int)) (y7 : (List Int)) (k837 : (List Int) → Option ((List Int))) : Nat → (Int) → (List Int) → Option ((List Int))
  | 0, _, _ => none
  | n + 1, i1369, a1370 => field_Mul_b1 y6 y7 k837 (field_Mul_l1 y6 y7 k837 n) i1369 a1370
def field_Mul_b3 (a836 : List Int) (k1742 : (Int) → (List Int) → Option ((List Int))) (k1791 : (Int) → (Int) → (List Int) → Option ((List Int))) (i1788 : Int) (i1789 : Int) (a1790 : List Int) : Option ((List Int)) :=
 br ((decide (i1788 < 5))) (
 chk (inB i1788 5) <|
 bnd (tk a836 ((i1788).toNat * 2) 2) fun l1797 =>
 bnd (l1797.getD 1 0) fun z1800 =>
 chk (addOk z1800 i1789 0) <|
 bnd (addLo z1800 i1789 0) fun z1802 =>
 bnd (addHi z1800 i1789 0) fun z1803 =>
 bnd (bitsV .and .u64 z1802 2251799813685247) fun z1805 =>
 chk (inB i1788 5) <|
 bnd (setD a1790 (i1788).toNat z1805) fun l1807 =>
 bnd (l1797.getD 0 0) fun z1809 =>
 bnd (IntKind.wrap .u64 (z1809 + z1803)) fun z1810 =>
 bnd (shlV .u64 z1810 13) fun z1811 =>
 bnd (shrV .u64 z1802 51) fun z1812 =>
 bnd (bitsV .or .u64 z1811 z1812) fun z1813 =>
 bnd (IntKind.wrap .i64 (i1788 + 1)) fun z1815 =>
 k1791 z1815 z1813 l1807
 ) (
 k1742 i1789 a1790
 )
def field_Mul_l3 (a836 : List Int) (k1742 : (Int) → (List Int) → Option ((List Int))) : Nat → (Int) → (Int) → (List Int) → Option ((List Int))
  | 0, _, _, _ => none
  | n + 1, i1788, i1789, a1790 => field_Mul_b3 a836 k1742 (field_Mul_l3 a836 k1742 n) i1788 i1789 a1790
def field_Mul (p0 : List Int) (p1 : List Int) : Option ((List Int)) :=
 opt (field_carry p0) fun y6 =>
 opt (field_carry p1) fun y7 =>
 jn (fun (a836 : List Int) => jn (fun (i1740 : Int) (a1741 : List Int) => opt (field_wide_add (List.replicate 2 0) 0 2 i1740 19) fun y1819 =>
 bnd (y1819.getD 1 0) fun z1823 =>
 bnd (a1741.getD 0 0) fun z1824 =>
 chk (addOk z1823 z1824 0) <|
 bnd (addLo z1823 z1824 0) fun z1826 =>
 bnd (addHi z1823 z1824 0) fun z1827 =>
 bnd (bitsV .and .u64 z1826 2251799813685247) fun z1829 =>
 bnd (setD a1741 0 z1829) fun l1830 =>
 bnd (l1830.getD 1 0) fun z1832 =>
 bnd (y1819.getD 0 0) fun z1833 =>
 bnd (IntKind.wrap .u64 (z1833 + z1827)) fun z1834 =>
 bnd (shlV .u64 z1834 13) fun z1835 =>
 bnd (shrV .u64 z1826 51) fun z1836 =>
 bnd (bitsV .or .u64 z1835 z1836) fun z1837 =>
 bnd (IntKind.wrap .u64 (z1832 + z1837)) fun z1838 =>
 bnd (setD l1830 1 z1838) fun l1839 =>
 opt (field_reduce l1839) fun y1841 =>
 some y1841) fun k1742 => field_Mul_l3 a836 k1742 big 0 0 (List.replicate 5 0)) fun k837 => field_Mul_l1 y6 y7 k837 big 0 (List.replicate 10 0)
theorem field_Mul_spec {W : World} {r : (List Int)} {p0 : List Int} {p1 : List Int} (h : field_Mul p0 p1 = some r)  :
    Calls Tryd.prog 39 [agg [.ints .u64 5 (p0)], agg [.ints .u64 5 (p1)]].toArray W (ret1 W (agg [.ints .u64 5 (r)])) := by
  unfold field_Mul at h
  refine calls_val mo ok39 rfl ?_
  refine wc_seq ?_
  refine wc_ops ?_
  refine wj_e (ef_bx (s := [.ints .u64 5 (p0)]) rfl fun b2 hb2 => ?_)
  refine wj_e (ef_bx (s := [.ints .u64 5 (p1)]) rfl fun b3 hb3 => ?_)
  refine wj_e (ef_al fun b4 hb4 => ?_)
  refine wj_nil ?_
  refine wc_seq ?_
  revert h
  refine opt_i fun y6 ey6 => ?_
  refine opt_i fun y7 ey7 => ?_
  intro h
  refine wc_draw ?_
  refine ws_q1 _ (q_ld (p := [.ints .u64 5 (p0)]) rfl (.there (.there .here)) rfl) ?_
  refine ws_p1 _ (q_call (vs := [agg [.ints .u64 5 (p0)]]) (v := agg [.ints .u64 5 (y6)]) rfl (fun w hw => field_carry_spec (r := y6) (p0 := p0) ey6 )) ?_
  refine ws_q1 _ (q_ld (p := [.ints .u64 5 (p1)]) rfl (.there .here) rfl) ?_
  refine ws_p1 _ (q_call (vs := [agg [.ints .u64 5 (p1)]]) (v := agg [.ints .u64 5 (y7)]) rfl (fun w hw => field_carry_spec (r := y7) (p0 := p1) ey7 )) ?_
  refine ws_eL rfl (ef_st (q := [.ints .u64 5 (y6)]) rfl rfl rfl rfl rfl (.there (.there .here)) ?_)
  refine ws_eM rfl (ef_st (q := [.ints .u64 5 (y7)]) rfl rfl rfl rfl rfl (.there .here) ?_)
  refine ws_nil ?_
  refine wc_seq ?_
  refine wc_ops ?_
  refine wj_e (ef_al fun b9 hb9 => ?_)
  refine wj_nil ?_
  refine wc_seq ?_
  refine wc_seq ?_
  refine wc_ops ?_
  refine wj_q _ (q_ld (p := [.ints .u64 5 (y6)]) rfl (.there (.there (.there .here))) rfl) ?_
  refine wj_q _ (q_mv rfl) ?_
  refine wj_nil ?_
  revert h
  refine jn_i fun k837 qk837 => ?_
  intro h
  refine wc_mono2 (G := fun t m => ∃ (a836 : List Int), k837 a836 = some r ∧ Fit [(4, .pointer (some ⟨b4, 0, none⟩)), (5, .pointer (some ⟨b9, 0, none⟩))] (ck b9 129 [.ints .u64 10 (a836)] :: (ck b4 58 [.ints .u64 5 ((List.replicate 5 0))] :: (ck b3 58 [.ints .u64 5 (y7)] :: (ck b2 58 [.ints .u64 5 (y6)] :: [])))) t m) ?_ ?_
  · refine wc_block ?_
    refine wc_loopJ (fun n1372 t m => ∃ (i1369 : Int) (a1370 : List Int), field_Mul_l1 y6 y7 k837 n1372 i1369 a1370 = some r ∧ Fit [(3, .pointer (some ⟨b3, 0, none⟩)), (4, .pointer (some ⟨b4, 0, none⟩)), (5, .pointer (some ⟨b9, 0, none⟩)), (23, agg [.ints .u64 5 (y6)]), (24, .int .i64 (i1369))] (ck b9 129 [.ints .u64 10 (a1370)] :: (ck b4 58 [.ints .u64 5 ((List.replicate 5 0))] :: (ck b3 58 [.ints .u64 5 (y7)] :: (ck b2 58 [.ints .u64 5 (y6)] :: [])))) t m) big ?_ ?_
    · exact ⟨0, (List.replicate 10 0), h, ⟨⟨rfl, rfl, rfl, rfl, rfl, trivial⟩, (.one .here (.one .here (.one .here (.one .here .nil))))⟩⟩
    · rintro n1372 t m ⟨i1369, a1370, h, hF⟩
      refine wc_fit hF ?_
      clear hF
      rcases n1372 with _ | n1372
      · exact none_i h
      have h : field_Mul_b1 y6 y7 k837 (field_Mul_l1 y6 y7 k837 n1372) i1369 a1370 = some r := h
      unfold field_Mul_b1 at h
      obtain ⟨k1371, qk1371⟩ : ∃ k, k = field_Mul_l1 y6 y7 k837 n1372 := ⟨_, rfl⟩
      try rw [← qk1371] at h
      refine wc_seq ?_
      refine wc_ops ?_
      refine wj_q _ (q_bin rfl rfl rfl) ?_
      refine wj_nil ?_
      refine wc_seq ?_
      refine wc_if (c := (decide (i1369 < 5))) rfl (fun d1374 => ?_) (fun d1374 => ?_)
      · have h := br_t h d1374
        refine wc_skip ?_
        refine wc_seq ?_
        refine wc_block ?_
        refine wc_seq ?_
        revert h
        refine chk_i fun c1376 => ?_
        refine bnd_i fun z1377 ez1377 => ?_
        intro h
        refine wc_ops ?_
        refine wj_q _ (q_mv rfl) ?_
        refine wj_q _ (iz ez1377 (q_idxi (len := 5) rfl rfl (inB_z c1376))) ?_
        refine wj_q _ (q_mv rfl) ?_
        refine wj_q _ (q_mv rfl) ?_
        refine wj_nil ?_
        refine wc_seq ?_
        refine wc_ops ?_
        refine wj_q _ (q_ld (p := [.ints .u64 5 (y7)]) rfl (.there (.there .here)) rfl) ?_
        refine wj_q _ (q_mv rfl) ?_
        refine wj_nil ?_
        revert h
        refine jn_i fun k1520 qk1520 => ?_
        intro h
        refine wc_mono2 (G := fun t m => ∃ (a1519 : List Int), k1520 a1519 = some r ∧ Fit [(3, .pointer (some ⟨b3, 0, none⟩)), (4, .pointer (some ⟨b4, 0, none⟩)), (5, .pointer (some ⟨b9, 0, none⟩)), (23, agg [.ints .u64 5 (y6)]), (24, .int .i64 (i1369))] (ck b9 129 [.ints .u64 10 (a1519)] :: (ck b4 58 [.ints .u64 5 ((List.replicate 5 0))] :: (ck b3 58 [.ints .u64 5 (y7)] :: (ck b2 58 [.ints .u64 5 (y6)] :: [])))) t m) ?_ ?_
        · refine wc_block ?_
          refine wc_loopJ (fun n1614 t m => ∃ (i1611 : Int) (a1612 : List Int), field_Mul_l2 y7 i1369 z1377 k1520 n1614 i1611 a1612 = some r ∧ Fit [(3, .pointer (some ⟨b3, 0, none⟩)), (4, .pointer (some ⟨b4, 0, none⟩)), (5, .pointer (some ⟨b9, 0, none⟩)), (6, .int .i64 (i1369)), (7, .int .u64 (z1377)), (23, agg [.ints .u64 5 (y6)]), (24, .int .i64 (i1369)), (28, agg [.ints .u64 5 (y7)]), (29, .int .i64 (i1611))] (ck b9 129 [.ints .u64 10 (a1612)] :: (ck b4 58 [.ints .u64 5 ((List.replicate 5 0))] :: (ck b3 58 [.ints .u64 5 (y7)] :: (ck b2 58 [.ints .u64 5 (y6)] :: [])))) t m) big ?_ ?_
          · exact ⟨0, a1370, h, ⟨⟨rfl, rfl, rfl, rfl, rfl, rfl, rfl, rfl, rfl, trivial⟩, (.one .here (.one .here (.one .here (.one .here .nil))))⟩⟩
          · rintro n1614 t m ⟨i1611, a1612, h, hF⟩
            refine wc_fit hF ?_
            clear hF
            rcases n1614 with _ | n1614
            · exact none_i h
            have h : field_Mul_b2 y7 i1369 z1377 k1520 (field_Mul_l2 y7 i1369 z1377 k1520 n1614) i1611 a1612 = some r := h
            unfold field_Mul_b2 at h
            obtain ⟨k1613, qk1613⟩ : ∃ k, k = field_Mul_l2 y7 i1369 z1377 k1520 n1614 := ⟨_, rfl⟩
            try rw [← qk1613] at h
            refine wc_seq ?_
            refine wc_ops ?_
            refine wj_q _ (q_bin rfl rfl rfl) ?_
            refine wj_nil ?_
            refine wc_seq ?_
            refine wc_if (c := (decide (i1611 < 5))) rfl (fun d1616 => ?_) (fun d1616 => ?_)
            · have h := br_t h d1616
              refine wc_skip ?_
              refine wc_seq ?_
              revert h
              refine jn_i fun k1638 qk1638 => ?_
              intro h
              refine wc_mono2 (G := fun t m => ∃ (a1637 : List Int), k1638 a1637 = some r ∧ Fit [(3, .pointer (some ⟨b3, 0, none⟩)), (4, .pointer (some ⟨b4, 0, none⟩)), (5, .pointer (some ⟨b9, 0, none⟩)), (6, .int .i64 (i1369)), (7, .int .u64 (z1377)), (23, agg [.ints .u64 5 (y6)]), (24, .int .i64 (i1369)), (28, agg [.ints .u64 5 (y7)]), (29, .int .i64 (i1611))] (ck b9 129 [.ints .u64 10 (a1637)] :: (ck b4 58 [.ints .u64 5 ((List.replicate 5 0))] :: (ck b3 58 [.ints .u64 5 (y7)] :: (ck b2 58 [.ints .u64 5 (y6)] :: [])))) t m) ?_ ?_
              · refine wc_block ?_
                refine wc_seq ?_
                revert h
                refine chk_i fun c1640 => ?_
                refine bnd_i fun z1641 ez1641 => ?_
                intro h
                refine wc_ops ?_
                refine wj_q _ (q_mv rfl) ?_
                refine wj_q _ (iz ez1641 (q_idxi (len := 5) rfl rfl (inB_z c1640))) ?_
                refine wj_q _ (q_mv rfl) ?_
                refine wj_q _ (q_mv rfl) ?_
                refine wj_nil ?_
                refine wc_seq ?_
                revert h
                refine bnd_i fun z1643 ez1643 => ?_
                intro h
                refine wc_ops ?_
                refine wj_q _ (q_mv rfl) ?_
                refine wj_q _ (q_mv rfl) ?_
                refine wj_q _ (iz ez1643 (q_bin rfl rfl rfl)) ?_
                refine wj_q _ (q_bin rfl rfl rfl) ?_
                refine wj_nil ?_
                refine wc_if (c := (decide (z1643 < 5))) rfl (fun d1644 => ?_) (fun d1644 => ?_)
                · have h := br_t h d1644
                  revert h
                  refine bnd_i fun z1646 ez1646 => ?_
                  refine chk_i fun c1647 => ?_
                  refine opt_i fun y1648 ey1648 => ?_
                  intro h
                  refine wc_ops ?_
                  refine wj_q _ (q_mv rfl) ?_
                  refine wj_q _ (q_mv rfl) ?_
                  refine wj_q _ (iz ez1646 (q_bin rfl rfl rfl)) ?_
                  refine wj_q _ (q_ia rfl rfl (inB_z c1647)) ?_
                  refine wj_q _ (q_mv rfl) ?_
                  refine wj_q _ (q_mv rfl) ?_
                  refine wj_e (ef_callS (mS := [_]) rfl (Take1.perm .here) (fun w hw => field_wide_add_spec (b := b9) (r := y1648) (p0 := a1612) (o := (0 + (z1646).toNat * 2)) (L := 10) (p1 := z1377) (p2 := z1641) ey1648 (sat_own hw (mS := [_]) (Take1.perm .here)) ) fun v1649 Msv1649 R1650 => ?_)
                  obtain ⟨rfl, rfl⟩ := R1650
                  refine wj_nil ?_
                  exact ⟨y1648, h, ⟨⟨rfl, rfl, rfl, rfl, rfl, rfl, rfl, rfl, rfl, trivial⟩, (.one .here (.one .here (.one .here (.one .here .nil))))⟩⟩
                · have h := br_f h d1644
                  revert h
                  refine bnd_i fun z1652 ez1652 => ?_
                  refine bnd_i fun z1653 ez1653 => ?_
                  refine chk_i fun c1654 => ?_
                  refine bnd_i fun z1655 ez1655 => ?_
                  refine opt_i fun y1656 ey1656 => ?_
                  intro h
                  refine wc_ops ?_
                  refine wj_q _ (q_mv rfl) ?_
                  refine wj_q _ (q_mv rfl) ?_
                  refine wj_q _ (iz ez1652 (q_bin rfl rfl rfl)) ?_
                  refine wj_q _ (iz ez1653 (q_bin rfl rfl rfl)) ?_
                  refine wj_q _ (q_ia rfl rfl (inB_z c1654)) ?_
                  refine wj_q _ (q_mv rfl) ?_
                  refine wj_q _ (q_mv rfl) ?_
                  refine wj_q _ (iz ez1655 (q_bin rfl rfl rfl)) ?_
                  refine wj_e (ef_callS (mS := [_]) rfl (Take1.perm .here) (fun w hw => field_wide_add_spec (b := b9) (r := y1656) (p0 := a1612) (o := (0 + (z1653).toNat * 2)) (L := 10) (p1 := z1377) (p2 := z1655) ey1656 (sat_own hw (mS := [_]) (Take1.perm .here)) ) fun v1657 Msv1657 R1658 => ?_)
                  obtain ⟨rfl, rfl⟩ := R1658
                  refine wj_nil ?_
                  exact ⟨y1656, h, ⟨⟨rfl, rfl, rfl, rfl, rfl, rfl, rfl, rfl, rfl, trivial⟩, (.one .here (.one .here (.one .here (.one .here .nil))))⟩⟩
              · rintro t m ⟨a1637, h, hF⟩
                refine wc_fit hF ?_
                clear hF
                subst qk1638
                revert h
                refine bnd_i fun z1660 ez1660 => ?_
                intro h
                refine wc_ops ?_
                refine wj_q _ (iz ez1660 (q_bin rfl rfl rfl)) ?_
                refine wj_q _ (q_mv rfl) ?_
                refine wj_nil ?_
                rw [qk1613] at h
                exact ⟨n1614, Nat.lt_succ_self _, z1660, a1637, h, ⟨⟨rfl, rfl, rfl, rfl, rfl, rfl, rfl, rfl, rfl, trivial⟩, (.one .here (.one .here (.one .here (.one .here .nil))))⟩⟩
            · have h := br_f h d1616
              refine wc_exit _ rfl ?_
              exact ⟨a1612, h, ⟨⟨rfl, rfl, rfl, rfl, rfl, trivial⟩, (.one .here (.one .here (.one .here (.one .here .nil))))⟩⟩
        · rintro t m ⟨a1519, h, hF⟩
          refine wc_fit hF ?_
          clear hF
          subst qk1520
          revert h
          refine bnd_i fun z1662 ez1662 => ?_
          intro h
          refine wc_ops ?_
          refine wj_q _ (iz ez1662 (q_bin rfl rfl rfl)) ?_
          refine wj_q _ (q_mv rfl) ?_
          refine wj_nil ?_
          rw [qk1371] at h
          exact ⟨n1372, Nat.lt_succ_self _, z1662, a1519, h, ⟨⟨rfl, rfl, rfl, rfl, rfl, trivial⟩, (.one .here (.one .here (.one .here (.one .here .nil))))⟩⟩
      · have h := br_f h d1374
        refine wc_exit _ rfl ?_
        exact ⟨a1370, h, ⟨⟨rfl, rfl, trivial⟩, (.one .here (.one .here (.one .here (.one .here .nil))))⟩⟩
  · rintro t m ⟨a836, h, hF⟩
    refine wc_fit hF ?_
    clear hF
    subst qk837
    refine wc_seq ?_
    refine wc_ops ?_
    refine wj_e (ef_al fun b1664 hb1664 => ?_)
    refine wj_nil ?_
    refine wc_seq ?_
    refine wc_ops ?_
    refine wj_q _ (q_mv rfl) ?_
    refine wj_nil ?_
    refine wc_seq ?_
    refine wc_seq ?_
    refine wc_ops ?_
    refine wj_q _ (q_ld (p := [.ints .u64 10 (a836)]) rfl (.there .here) rfl) ?_
    refine wj_q _ (q_mv rfl) ?_
    refine wj_nil ?_
    revert h
    refine jn_i fun k1742 qk1742 => ?_
    intro h
    refine wc_mono2 (G := fun t m => ∃ (i1740 : Int) (a1741 : List Int), k1742 i1740 a1741 = some r ∧ Fit [(4, .pointer (some ⟨b4, 0, none⟩)), (10, .pointer (some ⟨b1664, 0, none⟩)), (11, .int .u64 (i1740))] (ck b1664 58 [.ints .u64 5 (a1741)] :: (ck b9 129 [.ints .u64 10 (a836)] :: (ck b4 58 [.ints .u64 5 ((List.replicate 5 0))] :: (ck b3 58 [.ints .u64 5 (y7)] :: (ck b2 58 [.ints .u64 5 (y6)] :: []))))) t m) ?_ ?_
    · refine wc_block ?_
      refine wc_loopJ (fun n1792 t m => ∃ (i1788 : Int) (i1789 : Int) (a1790 : List Int), field_Mul_l3 a836 k1742 n1792 i1788 i1789 a1790 = some r ∧ Fit [(4, .pointer (some ⟨b4, 0, none⟩)), (10, .pointer (some ⟨b1664, 0, none⟩)), (11, .int .u64 (i1789)), (55, agg [.ints .u64 10 (a836)]), (56, .int .i64 (i1788))] (ck b1664 58 [.ints .u64 5 (a1790)] :: (ck b9 129 [.ints .u64 10 (a836)] :: (ck b4 58 [.ints .u64 5 ((List.replicate 5 0))] :: (ck b3 58 [.ints .u64 5 (y7)] :: (ck b2 58 [.ints .u64 5 (y6)] :: []))))) t m) big ?_ ?_
      · exact ⟨0, 0, (List.replicate 5 0), h, ⟨⟨rfl, rfl, rfl, rfl, rfl, trivial⟩, (.one .here (.one .here (.one .here (.one .here (.one .here .nil)))))⟩⟩
      · rintro n1792 t m ⟨i1788, i1789, a1790, h, hF⟩
        refine wc_fit hF ?_
        clear hF
        rcases n1792 with _ | n1792
        · exact none_i h
        have h : field_Mul_b3 a836 k1742 (field_Mul_l3 a836 k1742 n1792) i1788 i1789 a1790 = some r := h
        unfold field_Mul_b3 at h
        obtain ⟨k1791, qk1791⟩ : ∃ k, k = field_Mul_l3 a836 k1742 n1792 := ⟨_, rfl⟩
        try rw [← qk1791] at h
        refine wc_seq ?_
        refine wc_ops ?_
        refine wj_q _ (q_bin rfl rfl rfl) ?_
        refine wj_nil ?_
        refine wc_seq ?_
        refine wc_if (c := (decide (i1788 < 5))) rfl (fun d1794 => ?_) (fun d1794 => ?_)
        · have h := br_t h d1794
          refine wc_skip ?_
          refine wc_seq ?_
          refine wc_block ?_
          refine wc_seq ?_
          revert h
          refine chk_i fun c1796 => ?_
          refine bnd_i fun l1797 el1797 => ?_
          intro h
          refine wc_ops ?_
          refine wj_q _ (q_mv rfl) ?_
          refine wj_q _ (az (fun z => agg [.ints .u64 2 z]) el1797 (q_idxf (len := 5) (w := 2) rfl rfl (inB_z c1796))) ?_
          refine wj_e (ef_al fun b1798 hb1798 => ?_)
          refine wj_q _ (q_mv rfl) ?_
          refine wj_e (ef_st (q := [.ints .u64 2 (l1797)]) rfl rfl rfl rfl rfl .here ?_)
          refine wj_nil ?_
          refine wc_seq ?_
          revert h
          refine bnd_i fun z1800 ez1800 => ?_
          refine chk_i fun c1801 => ?_
          refine bnd_i fun z1802 ez1802 => ?_
          refine bnd_i fun z1803 ez1803 => ?_
          intro h
          refine wc_ops ?_
          refine wj_q _ (q_fa rfl) ?_
          refine wj_q _ (iz ez1800 (q_ld1 rfl .here rfl)) ?_
          refine wj_q _ (q_mv rfl) ?_
          refine wj_q _ (q_xcall rfl ext_add (xadd ez1802 ez1803 c1801)) ?_
          refine wj_q _ (q_mv rfl) ?_
          refine wj_q _ (q_ext rfl rfl) ?_
          refine wj_q _ (q_ext rfl rfl) ?_
          refine wj_q _ (q_mv rfl) ?_
          refine wj_q _ (q_mv rfl) ?_
          refine wj_nil ?_
          refine wc_seq ?_
          revert h
          refine bnd_i fun z1805 ez1805 => ?_
          refine chk_i fun c1806 => ?_
          refine bnd_i fun l1807 el1807 => ?_
          intro h
          refine wc_ops ?_
          refine wj_q _ (q_mv rfl) ?_
          refine wj_q _ (q_mv rfl) ?_
          refine wj_q _ (iz ez1805 (q_bin rfl rfl rfl)) ?_
          refine wj_q _ (q_ia rfl rfl (inB_z c1806)) ?_
          refine wj_e (ef_stiz (q := [.ints .u64 5 (l1807)]) (base := 0) el1807 rfl rfl rfl (inB_n c1806) rfl (.there .here) ?_)
          refine wj_nil ?_
          revert h
          refine bnd_i fun z1809 ez1809 => ?_
          refine bnd_i fun z1810 ez1810 => ?_
          refine bnd_i fun z1811 ez1811 => ?_
          refine bnd_i fun z1812 ez1812 => ?_
          refine bnd_i fun z1813 ez1813 => ?_
          intro h
          refine wc_ops ?_
          refine wj_q _ (q_fa rfl) ?_
          refine wj_q _ (iz ez1809 (q_ld1 rfl .here rfl)) ?_
          refine wj_q _ (q_mv rfl) ?_
          refine wj_q _ (iz ez1810 (q_bin rfl rfl rfl)) ?_
          refine wj_q _ (iz ez1811 (q_shl rfl rfl (by decide))) ?_
          refine wj_q _ (q_mv rfl) ?_
          refine wj_q _ (iz ez1812 (q_shr rfl rfl (by decide))) ?_
          refine wj_q _ (iz ez1813 (q_bin rfl rfl rfl)) ?_
          refine wj_q _ (q_mv rfl) ?_
          refine wj_nil ?_
          revert h
          refine bnd_i fun z1815 ez1815 => ?_
          intro h
          refine wc_ops ?_
          refine wj_q _ (iz ez1815 (q_bin rfl rfl rfl)) ?_
          refine wj_q _ (q_mv rfl) ?_
          refine wj_nil ?_
          rw [qk1791] at h
          exact ⟨n1792, Nat.lt_succ_self _, z1815, z1813, l1807, h, ⟨⟨rfl, rfl, rfl, rfl, rfl, trivial⟩, (.one (.there .here) (.one (.there .here) (.one (.there .here) (.one (.there .here) (.one (.there .here) .nil)))))⟩⟩
        · have h := br_f h d1794
          refine wc_exit _ rfl ?_
          exact ⟨i1789, a1790, h, ⟨⟨rfl, rfl, rfl, trivial⟩, (.one .here (.one .here (.one .here (.one .here (.one .here .nil)))))⟩⟩
    · rintro t m ⟨i1740, a1741, h, hF⟩
      refine wc_fit hF ?_
      clear hF
      subst qk1742
      refine wc_seq ?_
      refine wc_ops ?_
      refine wj_e (ef_al fun b1817 hb1817 => ?_)
      refine wj_nil ?_
      refine wc_seq ?_
      revert h
      refine opt_i fun y1819 ey1819 => ?_
      intro h
      refine wc_ops ?_
      refine wj_q _ (q_mv rfl) ?_
      refine wj_e (ef_callS (mS := [_]) rfl (Take1.perm .here) (fun w hw => field_wide_add_spec (b := b1817) (r := y1819) (p0 := (List.replicate 2 0)) (o := 0) (L := 2) (p1 := i1740) (p2 := 19) ey1819 (sat_own hw (mS := [_]) (Take1.perm .here)) ) fun v1820 Msv1820 R1821 => ?_)
      obtain ⟨rfl, rfl⟩ := R1821
      refine wj_nil ?_
      refine wc_seq ?_
      revert h
      refine bnd_i fun z1823 ez1823 => ?_
      refine bnd_i fun z1824 ez1824 => ?_
      refine chk_i fun c1825 => ?_
      refine bnd_i fun z1826 ez1826 => ?_
      refine bnd_i fun z1827 ez1827 => ?_
      intro h
      refine wc_ops ?_
      refine wj_q _ (q_fa rfl) ?_
      refine wj_q _ (iz ez1823 (q_ld1 rfl .here rfl)) ?_
      refine wj_q _ (q_ia rfl rfl (by decide)) ?_
      refine wj_q _ (iz ez1824 (q_ld1 rfl (.there .here) rfl)) ?_
      refine wj_q _ (q_xcall rfl ext_add (xadd ez1826 ez1827 c1825)) ?_
      refine wj_q _ (q_mv rfl) ?_
      refine wj_q _ (q_ext rfl rfl) ?_
      refine wj_q _ (q_ext rfl rfl) ?_
      refine wj_q _ (q_mv rfl) ?_
      refine wj_q _ (q_mv rfl) ?_
      refine wj_nil ?_
      refine wc_seq ?_
      revert h
      refine bnd_i fun z1829 ez1829 => ?_
      refine bnd_i fun l1830 el1830 => ?_
      intro h
      refine wc_ops ?_
      refine wj_q _ (q_mv rfl) ?_
      refine wj_q _ (iz ez1829 (q_bin rfl rfl rfl)) ?_
      refine wj_q _ (q_ia rfl rfl (by decide)) ?_
      refine wj_e (ef_st1z (q := [.ints .u64 5 (l1830)]) (congrArg (fun z => ([.ints .u64 5 (z)] : List Seg)) el1830.symm) rfl rfl rfl rfl (.there .here) ?_)
      refine wj_nil ?_
      refine wc_seq ?_
      revert h
      refine bnd_i fun z1832 ez1832 => ?_
      refine bnd_i fun z1833 ez1833 => ?_
      refine bnd_i fun z1834 ez1834 => ?_
      refine bnd_i fun z1835 ez1835 => ?_
      refine bnd_i fun z1836 ez1836 => ?_
      refine bnd_i fun z1837 ez1837 => ?_
      refine bnd_i fun z1838 ez1838 => ?_
      refine bnd_i fun l1839 el1839 => ?_
      intro h
      refine wc_ops ?_
      refine wj_q _ (q_ia rfl rfl (by decide)) ?_
      refine wj_q _ (iz ez1832 (q_ld1 rfl (.there .here) rfl)) ?_
      refine wj_q _ (q_fa rfl) ?_
      refine wj_q _ (iz ez1833 (q_ld1 rfl .here rfl)) ?_
      refine wj_q _ (q_mv rfl) ?_
      refine wj_q _ (iz ez1834 (q_bin rfl rfl rfl)) ?_
      refine wj_q _ (iz ez1835 (q_shl rfl rfl (by decide))) ?_
      refine wj_q _ (q_mv rfl) ?_
      refine wj_q _ (iz ez1836 (q_shr rfl rfl (by decide))) ?_
      refine wj_q _ (iz ez1837 (q_bin rfl rfl rfl)) ?_
      refine wj_q _ (iz ez1838 (q_bin rfl rfl rfl)) ?_
      refine wj_q _ (q_ia rfl rfl (by decide)) ?_
      refine wj_e (ef_st1z (q := [.ints .u64 5 (l1839)]) (congrArg (fun z => ([.ints .u64 5 (z)] : List Seg)) el1839.symm) rfl rfl rfl rfl (.there .here) ?_)
      refine wj_nil ?_
      refine wc_seq ?_
      revert h
      refine opt_i fun y1841 ey1841 => ?_
      intro h
      refine wc_ops ?_
      refine wj_q _ (q_ld (p := [.ints .u64 5 (l1839)]) rfl (.there .here) rfl) ?_
      refine wj_q _ (q_call (vs := [agg [.ints .u64 5 (l1839)]]) (v := agg [.ints .u64 5 (y1841)]) rfl (fun w hw => field_reduce_spec (r := y1841) (p0 := l1839) ey1841 )) ?_
      refine wj_e (ef_st (q := [.ints .u64 5 (y1841)]) rfl rfl rfl rfl rfl (.there (.there (.there .here))) ?_)
      refine wj_nil ?_
      refine wc_ret ?_
      revert h; refine ret_i fun h => ?_
      subst h
      exact ⟨_, (.cons (.agg rfl (.there (.there (.there .here))) rfl) .nil), rfl⟩
/- farebox/field.Square -/
def field_Square (p0 : List Int) : Option ((List Int)) :=
 opt (field_Mul p0 p0) fun y5 =>
 some y5
theorem field_Square_spec {W : World} {r : (List Int)} {p0 : List Int} (h : field_Square p0 = some r)  :
    Calls Tryd.prog 34 [agg [.ints .u64 5 (p0)]].toArray W (ret1 W (agg [.ints .u64 5 (r)])) := by
  unfold field_Square at h
  refine calls_val mo ok34 rfl ?_
  refine wc_seq ?_
  refine wc_ops ?_
  refine wj_e (ef_bx (s := [.ints .u64 5 (p0)]) rfl fun b2 hb2 => ?_)
  refine wj_e (ef_al fun b3 hb3 => ?_)
  refine wj_nil ?_
  refine wc_seq ?_
  revert h
  refine opt_i fun y5 ey5 => ?_
  intro h
  refine wc_ops ?_
  refine wj_q _ (q_ld (p := [.ints .u64 5 (p0)]) rfl (.there .here) rfl) ?_
  refine wj_q _ (q_ld (p := [.ints .u64 5 (p0)]) rfl (.there .here) rfl) ?_
  refine wj_q _ (q_call (vs := [agg [.ints .u64 5 (p0)], agg [.ints .u64 5 (p0)]]) (v := agg [.ints .u64 5 (y5)]) rfl (fun w hw => field_Mul_spec (r := y5) (p0 := p0) (p1 := p0) ey5 )) ?_
  refine wj_e (ef_st (q := [.ints .u64 5 (y5)]) rfl rfl rfl rfl rfl .here ?_)
  refine wj_nil ?_
  refine wc_ret ?_
  revert h; refine ret_i fun h => ?_
  subst h
  exact ⟨_, (.cons (.agg rfl .here rfl) .nil), rfl⟩
/- farebox/curve.unit -/
def curve_unit  : Option ((List Int)) :=
 bnd (([1, 0, 0, 0, 0] : List Int)) fun z4 =>
 some z4
theorem curve_unit_spec {W : World} {r : (List Int)} (h : curve_unit  = some r)  :
    Calls Tryd.prog 35 [].toArray W (ret1 W (agg [.ints .u64 5 (r)])) := by
  unfold curve_unit at h
  refine calls_val mo ok35 rfl ?_
  refine wc_seq ?_
  refine wc_ops ?_
  refine wj_e (ef_al fun b2 hb2 => ?_)
  refine wj_nil ?_
  refine wc_seq ?_
  revert h
  refine bnd_i fun z4 ez4 => ?_
  intro h
  refine wc_ops ?_
  refine wj_q _ (az (fun z => agg [.ints .u64 5 z]) ez4 (q_bd (.one rfl rfl rfl BdR.nil))) ?_
  refine wj_e (ef_st (q := [.ints .u64 5 (z4)]) rfl rfl rfl rfl rfl .here ?_)
  refine wj_nil ?_
  refine wc_ret ?_
  revert h; refine ret_i fun h => ?_
  subst h
  exact ⟨_, (.cons (.agg rfl .here rfl) .nil), rfl⟩
/- farebox/field.IsZero -/
def field_IsZero (p0 : List Int) : Option (Bool) :=
 opt (field_reduce p0) fun y4 =>
 bnd (([0, 0, 0, 0, 0] : List Int)) fun z5 =>
 some (ieq 5 y4 z5)
theorem field_IsZero_spec {W : World} {r : Bool} {p0 : List Int} (h : field_IsZero p0 = some r)  :
    Calls Tryd.prog 41 [agg [.ints .u64 5 (p0)]].toArray W (ret1 W (.bool (r))) := by
  unfold field_IsZero at h
  refine calls_val mo ok41 rfl ?_
  refine wc_seq ?_
  refine wc_ops ?_
  refine wj_e (ef_bx (s := [.ints .u64 5 (p0)]) rfl fun b2 hb2 => ?_)
  refine wj_q _ (q_mv rfl) ?_
  refine wj_nil ?_
  refine wc_seq ?_
  revert h
  refine opt_i fun y4 ey4 => ?_
  refine bnd_i fun z5 ez5 => ?_
  intro h
  refine wc_ops ?_
  refine wj_q _ (q_ld (p := [.ints .u64 5 (p0)]) rfl .here rfl) ?_
  refine wj_q _ (q_call (vs := [agg [.ints .u64 5 (p0)]]) (v := agg [.ints .u64 5 (y4)]) rfl (fun w hw => field_reduce_spec (r := y4) (p0 := p0) ey4 )) ?_
  refine wj_q _ (az (fun z => agg [.ints .u64 5 z]) ez5 (q_bd BdR.nil)) ?_
  refine wj_q _ (q_eqa rfl rfl rfl rfl _ (eqc_last eqc_ints)) ?_
  refine wj_q _ (q_mv rfl) ?_
  refine wj_nil ?_
  refine wc_ret ?_
  revert h; refine ret_i fun h => ?_
  subst h
  exact ⟨_, (.cons (.tmp rfl) .nil), rfl⟩
/- farebox/field.Neg -/
def field_Neg_b1 (y5 : (List Int)) (k45 : (List Int) → Option ((List Int))) (k66 : (Int) → (List Int) → Option ((List Int))) (i64 : Int) (a65 : List Int) : Option ((List Int)) :=
 br ((decide (i64 < 5))) (
 chk (inB i64 5) <|
 bnd (y5.getD (i64).toNat 0) fun z72 =>
 bnd (IntKind.wrap .u64 (4503599627370494 - z72)) fun z73 =>
 chk (inB i64 5) <|
 bnd (setD a65 (i64).toNat z73) fun l75 =>
 bnd (IntKind.wrap .i64 (i64 + 1)) fun z77 =>
 k66 z77 l75
 ) (
 k45 a65
 )
def field_Neg_l1 (y5 : (List Int)) (k45 : (List Int) → Option ((List Int))) : Nat → (Int) → (List Int) → Option ((List Int))
  | 0, _, _ => none
  | n + 1, i64, a65 => field_Neg_b1 y5 k45 (field_Neg_l1 y5 k45 n) i64 a65
def field_Neg (p0 : List Int) : Option ((List Int)) :=
 opt (field_reduce p0) fun y5 =>
 bnd (y5.getD 0 0) fun z7 =>
 bnd (IntKind.wrap .u64 (4503599627370458 - z7)) fun z8 =>
 bnd (([z8, 0, 0, 0, 0] : List Int)) fun z9 =>
 jn (fun (a44 : List Int) => opt (field_reduce a44) fun y79 =>
 some y79) fun k45 => field_Neg_l1 y5 k45 big 1 z9
theorem field_Neg_spec {W : World} {r : (List Int)} {p0 : List Int} (h : field_Neg p0 = some r)  :
    Calls Tryd.prog 42 [agg [.ints .u64 5 (p0)]].toArray W (ret1 W (agg [.ints .u64 5 (r)])) := by
  unfold field_Neg at h
  refine calls_val mo ok42 rfl ?_
  refine wc_seq ?_
  refine wc_ops ?_
  refine wj_e (ef_bx (s := [.ints .u64 5 (p0)]) rfl fun b2 hb2 => ?_)
  refine wj_e (ef_al fun b3 hb3 => ?_)
  refine wj_nil ?_
  refine wc_seq ?_
  revert h
  refine opt_i fun y5 ey5 => ?_
  intro h
  refine wc_ops ?_
  refine wj_q _ (q_ld (p := [.ints .u64 5 (p0)]) rfl (.there .here) rfl) ?_
  refine wj_q _ (q_call (vs := [agg [.ints .u64 5 (p0)]]) (v := agg [.ints .u64 5 (y5)]) rfl (fun w hw => field_reduce_spec (r := y5) (p0 := p0) ey5 )) ?_
  refine wj_e (ef_st (q := [.ints .u64 5 (y5)]) rfl rfl rfl rfl rfl (.there .here) ?_)
  refine wj_nil ?_
  refine wc_seq ?_
  revert h
  refine bnd_i fun z7 ez7 => ?_
  refine bnd_i fun z8 ez8 => ?_
  refine bnd_i fun z9 ez9 => ?_
  intro h
  refine wc_ops ?_
  refine wj_q _ (q_ia rfl rfl (by decide)) ?_
  refine wj_q _ (iz ez7 (q_ld1 rfl (.there .here) rfl)) ?_
  refine wj_q _ (iz ez8 (q_bin rfl rfl rfl)) ?_
  refine wj_q _ (az (fun z => agg [.ints .u64 5 z]) ez9 (q_bd (.one rfl rfl rfl BdR.nil))) ?_
  refine wj_e (ef_al fun b10 hb10 => ?_)
  refine wj_e (ef_st (q := [.ints .u64 5 (z9)]) rfl rfl rfl rfl rfl .here ?_)
  refine wj_nil ?_
  refine wc_seq ?_
  refine wc_seq ?_
  refine wc_ops ?_
  refine wj_q _ (q_mv rfl) ?_
  refine wj_nil ?_
  revert h
  refine jn_i fun k45 qk45 => ?_
  intro h
  refine wc_mono2 (G := fun t m => ∃ (a44 : List Int), k45 a44 = some r ∧ Fit [(2, .pointer (some ⟨b3, 0, none⟩)), (3, .pointer (some ⟨b10, 0, none⟩))] (ck b10 58 [.ints .u64 5 (a44)] :: (ck b3 58 [.ints .u64 5 ((List.replicate 5 0))] :: (ck b2 58 [.ints .u64 5 (y5)] :: []))) t m) ?_ ?_
  · refine wc_block ?_
    refine wc_loopJ (fun n67 t m => ∃ (i64 : Int) (a65 : List Int), field_Neg_l1 y5 k45 n67 i64 a65 = some r ∧ Fit [(1, .pointer (some ⟨b2, 0, none⟩)), (2, .pointer (some ⟨b3, 0, none⟩)), (3, .pointer (some ⟨b10, 0, none⟩)), (4, .int .i64 (i64))] (ck b10 58 [.ints .u64 5 (a65)] :: (ck b3 58 [.ints .u64 5 ((List.replicate 5 0))] :: (ck b2 58 [.ints .u64 5 (y5)] :: []))) t m) big ?_ ?_
    · exact ⟨1, z9, h, ⟨⟨rfl, rfl, rfl, rfl, trivial⟩, (.one .here (.one .here (.one .here .nil)))⟩⟩
    · rintro n67 t m ⟨i64, a65, h, hF⟩
      refine wc_fit hF ?_
      clear hF
      rcases n67 with _ | n67
      · exact none_i h
      have h : field_Neg_b1 y5 k45 (field_Neg_l1 y5 k45 n67) i64 a65 = some r := h
      unfold field_Neg_b1 at h
      obtain ⟨k66, qk66⟩ : ∃ k, k = field_Neg_l1 y5 k45 n67 := ⟨_, rfl⟩
      try rw [← qk66] at h
      refine wc_seq ?_
      refine wc_seq ?_
      refine wc_ops ?_
      refine wj_q _ (q_mv rfl) ?_
      refine wj_q _ (q_bin rfl rfl rfl) ?_
      refine wj_nil ?_
      refine wc_if (c := (decide (i64 < 5))) rfl (fun d69 => ?_) (fun d69 => ?_)
      · have h := br_t h d69
        refine wc_skip ?_
        refine wc_seq ?_
        refine wc_block ?_
        revert h
        refine chk_i fun c71 => ?_
        refine bnd_i fun z72 ez72 => ?_
        refine bnd_i fun z73 ez73 => ?_
        refine chk_i fun c74 => ?_
        refine bnd_i fun l75 el75 => ?_
        intro h
        refine wc_ops ?_
        refine wj_q _ (q_mv rfl) ?_
        refine wj_q _ (q_mv rfl) ?_
        refine wj_q _ (q_ia rfl rfl (inB_z c71)) ?_
        refine wj_q _ (iz ez72 (q_ldi (base := 0) rfl (.there (.there .here)) rfl (inB_n c71))) ?_
        refine wj_q _ (iz ez73 (q_bin rfl rfl rfl)) ?_
        refine wj_q _ (q_ia rfl rfl (inB_z c74)) ?_
        refine wj_e (ef_stiz (q := [.ints .u64 5 (l75)]) (base := 0) el75 rfl rfl rfl (inB_n c74) rfl .here ?_)
        refine wj_nil ?_
        revert h
        refine bnd_i fun z77 ez77 => ?_
        intro h
        refine wc_ops ?_
        refine wj_q _ (q_mv rfl) ?_
        refine wj_q _ (iz ez77 (q_bin rfl rfl rfl)) ?_
        refine wj_q _ (q_mv rfl) ?_
        refine wj_nil ?_
        rw [qk66] at h
        exact ⟨n67, Nat.lt_succ_self _, z77, l75, h, ⟨⟨rfl, rfl, rfl, rfl, trivial⟩, (.one .here (.one .here (.one .here .nil)))⟩⟩
      · have h := br_f h d69
        refine wc_exit _ rfl ?_
        exact ⟨a65, h, ⟨⟨rfl, rfl, trivial⟩, (.one .here (.one .here (.one .here .nil)))⟩⟩
  · rintro t m ⟨a44, h, hF⟩
    refine wc_fit hF ?_
    clear hF
    subst qk45
    refine wc_seq ?_
    revert h
    refine opt_i fun y79 ey79 => ?_
    intro h
    refine wc_ops ?_
    refine wj_q _ (q_ld (p := [.ints .u64 5 (a44)]) rfl .here rfl) ?_
    refine wj_q _ (q_call (vs := [agg [.ints .u64 5 (a44)]]) (v := agg [.ints .u64 5 (y79)]) rfl (fun w hw => field_reduce_spec (r := y79) (p0 := a44) ey79 )) ?_
    refine wj_e (ef_st (q := [.ints .u64 5 (y79)]) rfl rfl rfl rfl rfl (.there .here) ?_)
    refine wj_nil ?_
    refine wc_ret ?_
    revert h; refine ret_i fun h => ?_
    subst h
    exact ⟨_, (.cons (.agg rfl (.there .here) rfl) .nil), rfl⟩
end Go.Proofs.YtiflckckekjbnaaDoor
/- Mirrors. -/
namespace Go.Proofs.YtiflckckekjbnaaDoor
open Go Go.Sx Go.RowKit
set_option linter.all false
set_option maxHeartbeats 400000
set_option maxRecDepth 100000
/- farebox/field.IsOdd -/
def field_IsOdd (p0 : List Int) : Option (Bool) :=
 opt (field_reduce p0) fun y4 =>
 bnd (y4.getD 0 0) fun z5 =>
 bnd (bitsV .and .u64 z5 1) fun z6 =>
 some (z6 == 1)
theorem field_IsOdd_spec {W : World} {r : Bool} {p0 : List Int} (h : field_IsOdd p0 = some r)  :
    Calls Tryd.prog 51 [agg [.ints .u64 5 (p0)]].toArray W (ret1 W (.bool (r))) := by
  unfold field_IsOdd at h
  refine calls_val mo ok51 rfl ?_
  refine wc_seq ?_
  refine wc_ops ?_
  refine wj_e (ef_bx (s := [.ints .u64 5 (p0)]) rfl fun b2 hb2 => ?_)
  refine wj_q _ (q_mv rfl) ?_
  refine wj_nil ?_
  refine wc_seq ?_
  revert h
  refine opt_i fun y4 ey4 => ?_
  refine bnd_i fun z5 ez5 => ?_
  refine bnd_i fun z6 ez6 => ?_
  intro h
  refine wc_ops ?_
  refine wj_q _ (q_ld (p := [.ints .u64 5 (p0)]) rfl .here rfl) ?_
  refine wj_q _ (q_call (vs := [agg [.ints .u64 5 (p0)]]) (v := agg [.ints .u64 5 (y4)]) rfl (fun w hw => field_reduce_spec (r := y4) (p0 := p0) ey4 )) ?_
  refine wj_q _ (iz ez5 (q_idxi (len := 5) (z := 0) rfl rfl (by decide))) ?_
  refine wj_q _ (iz ez6 (q_bin rfl rfl rfl)) ?_
  refine wj_q _ (q_bin rfl rfl rfl) ?_
  refine wj_q _ (q_mv rfl) ?_
  refine wj_nil ?_
  refine wc_ret ?_
  revert h; refine ret_i fun h => ?_
  subst h
  exact ⟨_, (.cons (.tmp rfl) .nil), rfl⟩
/- farebox/field.Small -/
def field_Small (p0 : Int) : Option ((List Int)) :=
 bnd (([p0, 0, 0, 0, 0] : List Int)) fun z4 =>
 opt (field_reduce z4) fun y5 =>
 some y5
theorem field_Small_spec {W : World} {r : (List Int)} {p0 : Int} (h : field_Small p0 = some r)  :
    Calls Tryd.prog 74 [.int .u64 (p0)].toArray W (ret1 W (agg [.ints .u64 5 (r)])) := by
  unfold field_Small at h
  refine calls_val mo ok74 rfl ?_
  refine wc_seq ?_
  refine wc_ops ?_
  refine wj_e (ef_al fun b2 hb2 => ?_)
  refine wj_nil ?_
  refine wc_seq ?_
  revert h
  refine bnd_i fun z4 ez4 => ?_
  refine opt_i fun y5 ey5 => ?_
  intro h
  refine wc_ops ?_
  refine wj_q _ (q_mv rfl) ?_
  refine wj_q _ (az (fun z => agg [.ints .u64 5 z]) ez4 (q_bd (.one rfl rfl rfl BdR.nil))) ?_
  refine wj_q _ (q_call (vs := [agg [.ints .u64 5 (z4)]]) (v := agg [.ints .u64 5 (y5)]) rfl (fun w hw => field_reduce_spec (r := y5) (p0 := z4) ey5 )) ?_
  refine wj_e (ef_st (q := [.ints .u64 5 (y5)]) rfl rfl rfl rfl rfl .here ?_)
  refine wj_nil ?_
  refine wc_ret ?_
  revert h; refine ret_i fun h => ?_
  subst h
  exact ⟨_, (.cons (.agg rfl .here rfl) .nil), rfl⟩
/- farebox/field.Pow -/
def field_Pow_b1 (p0 : List Int) (p1 : List Int) (k102 : (List Int) → Option ((List Int))) (k161 : (Int) → (List Int) → Option ((List Int))) (i159 : Int) (a160 : List Int) : Option ((List Int)) :=
 br ((decide (i159 ≥ 0))) (
 jn (fun (a178 : List Int) => bnd (IntKind.wrap .i64 (i159 - 1)) fun z194 =>
 k161 z194 a178) fun k179 => opt (field_Square a160) fun y181 =>
 bnd (IntKind.wrap .i64 (Int.tdiv i159 8)) fun z183 =>
 chk (inB z183 32) <|
 bnd (p1.getD (z183).toNat 0) fun z185 =>
 bnd (Int.tmod i159 8) fun z186 =>
 chk (decide (0 ≤ z186)) <|
 bnd (shrV .u8 z185 z186) fun z188 =>
 bnd (bitsV .and .u8 z188 1) fun z189 =>
 br ((z189 == 1)) (
 opt (field_Mul y181 p0) fun y192 =>
 k179 y192
 ) (
 k179 y181
 )
 ) (
 k102 a160
 )
def field_Pow_l1 (p0 : List Int) (p1 : List Int) (k102 : (List Int) → Option ((List Int))) : Nat → (Int) → (List Int) → Option ((List Int))
  | 0, _, _ => none
  | n + 1, i159, a160 => field_Pow_b1 p0 p1 k102 (field_Pow_l1 p0 p1 k102 n) i159 a160
def field_Pow (p0 : List Int) (p1 : List Int) : Option ((List Int)) :=
 opt (field_Small 1) fun y6 =>
 jn (fun (a101 : List Int) => some a101) fun k102 => field_Pow_l1 p0 p1 k102 big 255 y6
theorem field_Pow_spec {W : World} {r : (List Int)} {p0 : List Int} {p1 : List Int} (h : field_Pow p0 p1 = some r)  :
    Calls Tryd.prog 71 [agg [.ints .u64 5 (p0)], agg [.ints .u8 32 (p1)]].toArray W (ret1 W (agg [.ints .u64 5 (r)])) := by
  unfold field_Pow at h
  refine calls_val mo ok71 rfl ?_
  refine wc_seq ?_
  refine wc_ops ?_
  refine wj_e (ef_bx (s := [.ints .u64 5 (p0)]) rfl fun b2 hb2 => ?_)
  refine wj_e (ef_bx (s := [.ints .u8 32 (p1)]) rfl fun b3 hb3 => ?_)
  refine wj_e (ef_al fun b4 hb4 => ?_)
  refine wj_nil ?_
  refine wc_seq ?_
  revert h
  refine opt_i fun y6 ey6 => ?_
  intro h
  refine wc_ops ?_
  refine wj_q _ (q_call (vs := [.int .u64 1]) (v := agg [.ints .u64 5 (y6)]) rfl (fun w hw => field_Small_spec (r := y6) (p0 := 1) ey6 )) ?_
  refine wj_e (ef_al fun b7 hb7 => ?_)
  refine wj_e (ef_st (q := [.ints .u64 5 (y6)]) rfl rfl rfl rfl rfl .here ?_)
  refine wj_nil ?_
  refine wc_seq ?_
  refine wc_seq ?_
  refine wc_ops ?_
  refine wj_q _ (q_mv rfl) ?_
  refine wj_nil ?_
  revert h
  refine jn_i fun k102 qk102 => ?_
  intro h
  refine wc_mono2 (G := fun t m => ∃ (a101 : List Int), k102 a101 = some r ∧ Fit [(4, .pointer (some ⟨b4, 0, none⟩)), (5, .pointer (some ⟨b7, 0, none⟩))] (ck b7 58 [.ints .u64 5 (a101)] :: (ck b4 58 [.ints .u64 5 ((List.replicate 5 0))] :: (ck b3 26 [.ints .u8 32 (p1)] :: (ck b2 58 [.ints .u64 5 (p0)] :: [])))) t m) ?_ ?_
  · refine wc_block ?_
    refine wc_loopJ (fun n162 t m => ∃ (i159 : Int) (a160 : List Int), field_Pow_l1 p0 p1 k102 n162 i159 a160 = some r ∧ Fit [(2, .pointer (some ⟨b2, 0, none⟩)), (3, .pointer (some ⟨b3, 0, none⟩)), (4, .pointer (some ⟨b4, 0, none⟩)), (5, .pointer (some ⟨b7, 0, none⟩)), (6, .int .i64 (i159))] (ck b7 58 [.ints .u64 5 (a160)] :: (ck b4 58 [.ints .u64 5 ((List.replicate 5 0))] :: (ck b3 26 [.ints .u8 32 (p1)] :: (ck b2 58 [.ints .u64 5 (p0)] :: [])))) t m) big ?_ ?_
    · exact ⟨255, y6, h, ⟨⟨rfl, rfl, rfl, rfl, rfl, trivial⟩, (.one .here (.one .here (.one .here (.one .here .nil))))⟩⟩
    · rintro n162 t m ⟨i159, a160, h, hF⟩
      refine wc_fit hF ?_
      clear hF
      rcases n162 with _ | n162
      · exact none_i h
      have h : field_Pow_b1 p0 p1 k102 (field_Pow_l1 p0 p1 k102 n162) i159 a160 = some r := h
      unfold field_Pow_b1 at h
      obtain ⟨k161, qk161⟩ : ∃ k, k = field_Pow_l1 p0 p1 k102 n162 := ⟨_, rfl⟩
      try rw [← qk161] at h
      refine wc_seq ?_
      refine wc_seq ?_
      refine wc_ops ?_
      refine wj_q _ (q_mv rfl) ?_
      refine wj_q _ (q_bin rfl rfl rfl) ?_
      refine wj_nil ?_
      refine wc_if (c := (decide (i159 ≥ 0))) rfl (fun d164 => ?_) (fun d164 => ?_)
      · have h := br_t h d164
        refine wc_skip ?_
        refine wc_seq ?_
        revert h
        refine jn_i fun k179 qk179 => ?_
        intro h
        refine wc_mono2 (G := fun t m => ∃ (a178 : List Int), k179 a178 = some r ∧ Fit [(2, .pointer (some ⟨b2, 0, none⟩)), (3, .pointer (some ⟨b3, 0, none⟩)), (4, .pointer (some ⟨b4, 0, none⟩)), (5, .pointer (some ⟨b7, 0, none⟩)), (6, .int .i64 (i159))] (ck b7 58 [.ints .u64 5 (a178)] :: (ck b4 58 [.ints .u64 5 ((List.replicate 5 0))] :: (ck b3 26 [.ints .u8 32 (p1)] :: (ck b2 58 [.ints .u64 5 (p0)] :: [])))) t m) ?_ ?_
        · refine wc_block ?_
          refine wc_seq ?_
          revert h
          refine opt_i fun y181 ey181 => ?_
          intro h
          refine wc_ops ?_
          refine wj_q _ (q_ld (p := [.ints .u64 5 (a160)]) rfl .here rfl) ?_
          refine wj_q _ (q_call (vs := [agg [.ints .u64 5 (a160)]]) (v := agg [.ints .u64 5 (y181)]) rfl (fun w hw => field_Square_spec (r := y181) (p0 := a160) ey181 )) ?_
          refine wj_e (ef_st (q := [.ints .u64 5 (y181)]) rfl rfl rfl rfl rfl .here ?_)
          refine wj_nil ?_
          refine wc_seq ?_
          revert h
          refine bnd_i fun z183 ez183 => ?_
          refine chk_i fun c184 => ?_
          refine bnd_i fun z185 ez185 => ?_
          refine bnd_i fun z186 ez186 => ?_
          refine chk_i fun c187 => ?_
          refine bnd_i fun z188 ez188 => ?_
          refine bnd_i fun z189 ez189 => ?_
          intro h
          refine wc_ops ?_
          refine wj_q _ (q_mv rfl) ?_
          refine wj_q _ (iz ez183 (q_quo rfl rfl (by decide))) ?_
          refine wj_q _ (q_ia rfl rfl (inB_z c184)) ?_
          refine wj_q _ (iz ez185 (q_ldi (base := 0) rfl (.there (.there .here)) rfl (inB_n c184))) ?_
          refine wj_q _ (q_mv rfl) ?_
          refine wj_q _ (iz ez186 (q_rem rfl rfl (by decide))) ?_
          refine wj_q _ (iz ez188 (q_shr rfl rfl (of_decide_eq_true c187))) ?_
          refine wj_q _ (iz ez189 (q_bin rfl rfl rfl)) ?_
          refine wj_q _ (q_bin rfl rfl rfl) ?_
          refine wj_nil ?_
          refine wc_if (c := (z189 == 1)) rfl (fun d190 => ?_) (fun d190 => ?_)
          · have h := br_t h d190
            revert h
            refine opt_i fun y192 ey192 => ?_
            intro h
            refine wc_ops ?_
            refine wj_q _ (q_ld (p := [.ints .u64 5 (y181)]) rfl .here rfl) ?_
            refine wj_q _ (q_ld (p := [.ints .u64 5 (p0)]) rfl (.there (.there (.there .here))) rfl) ?_
            refine wj_q _ (q_call (vs := [agg [.ints .u64 5 (y181)], agg [.ints .u64 5 (p0)]]) (v := agg [.ints .u64 5 (y192)]) rfl (fun w hw => field_Mul_spec (r := y192) (p0 := y181) (p1 := p0) ey192 )) ?_
            refine wj_e (ef_st (q := [.ints .u64 5 (y192)]) rfl rfl rfl rfl rfl .here ?_)
            refine wj_nil ?_
            exact ⟨y192, h, ⟨⟨rfl, rfl, rfl, rfl, rfl, trivial⟩, (.one .here (.one .here (.one .here (.one .here .nil))))⟩⟩
          · have h := br_f h d190
            refine wc_skip ?_
            exact ⟨y181, h, ⟨⟨rfl, rfl, rfl, rfl, rfl, trivial⟩, (.one .here (.one .here (.one .here (.one .here .nil))))⟩⟩
        · rintro t m ⟨a178, h, hF⟩
          refine wc_fit hF ?_
          clear hF
          subst qk179
          revert h
          refine bnd_i fun z194 ez194 => ?_
          intro h
          refine wc_ops ?_
          refine wj_q _ (q_mv rfl) ?_
          refine wj_q _ (iz ez194 (q_bin rfl rfl rfl)) ?_
          refine wj_q _ (q_mv rfl) ?_
          refine wj_nil ?_
          rw [qk161] at h
          exact ⟨n162, Nat.lt_succ_self _, z194, a178, h, ⟨⟨rfl, rfl, rfl, rfl, rfl, trivial⟩, (.one .here (.one .here (.one .here (.one .here .nil))))⟩⟩
      · have h := br_f h d164
        refine wc_exit _ rfl ?_
        exact ⟨a160, h, ⟨⟨rfl, rfl, trivial⟩, (.one .here (.one .here (.one .here (.one .here .nil))))⟩⟩
  · rintro t m ⟨a101, h, hF⟩
    refine wc_fit hF ?_
    clear hF
    subst qk102
    refine wc_seq ?_
    refine wc_ops ?_
    refine wj_q _ (q_ld (p := [.ints .u64 5 (a101)]) rfl .here rfl) ?_
    refine wj_e (ef_st (q := [.ints .u64 5 (a101)]) rfl rfl rfl rfl rfl (.there .here) ?_)
    refine wj_nil ?_
    refine wc_ret ?_
    revert h; refine ret_i fun h => ?_
    subst h
    exact ⟨_, (.cons (.agg rfl (.there .here) rfl) .nil), rfl⟩
/- farebox/field.power -/
def field_power_b1 (k34 : (List Int) → Option ((List Int))) (k52 : (Int) → (List Int) → Option ((List Int))) (i50 : Int) (a51 : List Int) : Option ((List Int)) :=
 br ((decide (i50 < 32))) (
 chk (inB i50 32) <|
 bnd (setD a51 (i50).toNat 255) fun l59 =>
 bnd (IntKind.wrap .i64 (i50 + 1)) fun z61 =>
 k52 z61 l59
 ) (
 k34 a51
 )
def field_power_l1 (k34 : (List Int) → Option ((List Int))) : Nat → (Int) → (List Int) → Option ((List Int))
  | 0, _, _ => none
  | n + 1, i50, a51 => field_power_b1 k34 (field_power_l1 k34 n) i50 a51
def field_power (p0 : Int) (p1 : Int) : Option ((List Int)) :=
 jn (fun (a33 : List Int) => bnd (setD a33 0 p0) fun l63 =>
 bnd (setD l63 31 p1) fun l64 =>
 some l64) fun k34 => field_power_l1 k34 big 0 (List.replicate 32 0)
theorem field_power_spec {W : World} {r : (List Int)} {p0 : Int} {p1 : Int} (h : field_power p0 p1 = some r)  :
    Calls Tryd.prog 72 [.int .u8 (p0), .int .u8 (p1)].toArray W (ret1 W (agg [.ints .u8 32 (r)])) := by
  unfold field_power at h
  refine calls_val mo ok72 rfl ?_
  refine wc_seq ?_
  refine wc_ops ?_
  refine wj_e (ef_al fun b2 hb2 => ?_)
  refine wj_nil ?_
  refine wc_seq ?_
  refine wc_ops ?_
  refine wj_e (ef_al fun b4 hb4 => ?_)
  refine wj_nil ?_
  refine wc_seq ?_
  refine wc_seq ?_
  refine wc_ops ?_
  refine wj_q _ (q_mv rfl) ?_
  refine wj_nil ?_
  revert h
  refine jn_i fun k34 qk34 => ?_
  intro h
  refine wc_mono2 (G := fun t m => ∃ (a33 : List Int), k34 a33 = some r ∧ Fit [(0, .int .u8 (p0)), (1, .int .u8 (p1)), (4, .pointer (some ⟨b2, 0, none⟩)), (5, .pointer (some ⟨b4, 0, none⟩))] (ck b4 26 [.ints .u8 32 (a33)] :: (ck b2 26 [.ints .u8 32 ((List.replicate 32 0))] :: [])) t m) ?_ ?_
  · refine wc_block ?_
    refine wc_loopJ (fun n53 t m => ∃ (i50 : Int) (a51 : List Int), field_power_l1 k34 n53 i50 a51 = some r ∧ Fit [(0, .int .u8 (p0)), (1, .int .u8 (p1)), (4, .pointer (some ⟨b2, 0, none⟩)), (5, .pointer (some ⟨b4, 0, none⟩)), (7, .int .i64 (i50))] (ck b4 26 [.ints .u8 32 (a51)] :: (ck b2 26 [.ints .u8 32 ((List.replicate 32 0))] :: [])) t m) big ?_ ?_
    · exact ⟨0, (List.replicate 32 0), h, ⟨⟨rfl, rfl, rfl, rfl, rfl, trivial⟩, (.one .here (.one .here .nil))⟩⟩
    · rintro n53 t m ⟨i50, a51, h, hF⟩
      refine wc_fit hF ?_
      clear hF
      rcases n53 with _ | n53
      · exact none_i h
      have h : field_power_b1 k34 (field_power_l1 k34 n53) i50 a51 = some r := h
      unfold field_power_b1 at h
      obtain ⟨k52, qk52⟩ : ∃ k, k = field_power_l1 k34 n53 := ⟨_, rfl⟩
      try rw [← qk52] at h
      refine wc_seq ?_
      refine wc_ops ?_
      refine wj_q _ (q_bin rfl rfl rfl) ?_
      refine wj_nil ?_
      refine wc_seq ?_
      refine wc_if (c := (decide (i50 < 32))) rfl (fun d55 => ?_) (fun d55 => ?_)
      · have h := br_t h d55
        refine wc_skip ?_
        refine wc_seq ?_
        refine wc_block ?_
        refine wc_seq ?_
        refine wc_ops ?_
        refine wj_q _ (q_mv rfl) ?_
        refine wj_q _ (q_mv rfl) ?_
        refine wj_nil ?_
        revert h
        refine chk_i fun c58 => ?_
        refine bnd_i fun l59 el59 => ?_
        intro h
        refine wc_ops ?_
        refine wj_q _ (q_mv rfl) ?_
        refine wj_q _ (q_ia rfl rfl (inB_z c58)) ?_
        refine wj_e (ef_stiz (q := [.ints .u8 32 (l59)]) (base := 0) el59 rfl rfl rfl (inB_n c58) rfl .here ?_)
        refine wj_nil ?_
        revert h
        refine bnd_i fun z61 ez61 => ?_
        intro h
        refine wc_ops ?_
        refine wj_q _ (iz ez61 (q_bin rfl rfl rfl)) ?_
        refine wj_q _ (q_mv rfl) ?_
        refine wj_nil ?_
        rw [qk52] at h
        exact ⟨n53, Nat.lt_succ_self _, z61, l59, h, ⟨⟨rfl, rfl, rfl, rfl, rfl, trivial⟩, (.one .here (.one .here .nil))⟩⟩
      · have h := br_f h d55
        refine wc_exit _ rfl ?_
        exact ⟨a51, h, ⟨⟨rfl, rfl, rfl, rfl, trivial⟩, (.one .here (.one .here .nil))⟩⟩
  · rintro t m ⟨a33, h, hF⟩
    refine wc_fit hF ?_
    clear hF
    subst qk34
    refine wc_seq ?_
    revert h
    refine bnd_i fun l63 el63 => ?_
    refine bnd_i fun l64 el64 => ?_
    intro h
    refine wc_ops ?_
    refine wj_q _ (q_mv rfl) ?_
    refine wj_q _ (q_mv rfl) ?_
    refine wj_q _ (q_ia rfl rfl (by decide)) ?_
    refine wj_e (ef_st1z (q := [.ints .u8 32 (l63)]) (congrArg (fun z => ([.ints .u8 32 (z)] : List Seg)) el63.symm) rfl rfl rfl rfl .here ?_)
    refine wj_q _ (q_ia rfl rfl (by decide)) ?_
    refine wj_e (ef_st1z (q := [.ints .u8 32 (l64)]) (congrArg (fun z => ([.ints .u8 32 (z)] : List Seg)) el64.symm) rfl rfl rfl rfl .here ?_)
    refine wj_nil ?_
    refine wc_seq ?_
    refine wc_ops ?_
    refine wj_q _ (q_ld (p := [.ints .u8 32 (l64)]) rfl .here rfl) ?_
    refine wj_e (ef_st (q := [.ints .u8 32 (l64)]) rfl rfl rfl rfl rfl (.there .here) ?_)
    refine wj_nil ?_
    refine wc_ret ?_
    revert h; refine ret_i fun h => ?_
    subst h
    exact ⟨_, (.cons (.agg rfl (.there .here) rfl) .nil), rfl⟩
/- farebox/field.Equal -/
def field_Equal (p0 : List Int) (p1 : List Int) : Option (Bool) :=
 opt (field_reduce p0) fun y5 =>
 opt (field_reduce p1) fun y6 =>
 some (ieq 5 y5 y6)
theorem field_Equal_spec {W : World} {r : Bool} {p0 : List Int} {p1 : List Int} (h : field_Equal p0 p1 = some r)  :
    Calls Tryd.prog 73 [agg [.ints .u64 5 (p0)], agg [.ints .u64 5 (p1)]].toArray W (ret1 W (.bool (r))) := by
  unfold field_Equal at h
  refine calls_val mo ok73 rfl ?_
  refine wc_seq ?_
  refine wc_ops ?_
  refine wj_e (ef_bx (s := [.ints .u64 5 (p0)]) rfl fun b2 hb2 => ?_)
  refine wj_e (ef_bx (s := [.ints .u64 5 (p1)]) rfl fun b3 hb3 => ?_)
  refine wj_q _ (q_mv rfl) ?_
  refine wj_nil ?_
  refine wc_seq ?_
  revert h
  refine opt_i fun y5 ey5 => ?_
  refine opt_i fun y6 ey6 => ?_
  intro h
  refine wc_draw ?_
  refine ws_q1 _ (q_ld (p := [.ints .u64 5 (p0)]) rfl (.there .here) rfl) ?_
  refine ws_p1 _ (q_call (vs := [agg [.ints .u64 5 (p0)]]) (v := agg [.ints .u64 5 (y5)]) rfl (fun w hw => field_reduce_spec (r := y5) (p0 := p0) ey5 )) ?_
  refine ws_q1 _ (q_ld (p := [.ints .u64 5 (p1)]) rfl .here rfl) ?_
  refine ws_p1 _ (q_call (vs := [agg [.ints .u64 5 (p1)]]) (v := agg [.ints .u64 5 (y6)]) rfl (fun w hw => field_reduce_spec (r := y6) (p0 := p1) ey6 )) ?_
  refine ws_p1 _ (q_eqa rfl rfl rfl rfl _ (eqc_last eqc_ints)) ?_
  refine ws_p1 _ (q_mv rfl) ?_
  refine ws_nil ?_
  refine wc_ret ?_
  revert h; refine ret_i fun h => ?_
  subst h
  exact ⟨_, (.cons (.tmp rfl) .nil), rfl⟩
/- farebox/field.Select -/
def field_Select (p0 : Bool) (p1 : List Int) (p2 : List Int) : Option ((List Int)) :=
 br (p0) (
 opt (field_reduce p1) fun y8 =>
 some y8
 ) (
 opt (field_reduce p2) fun y10 =>
 some y10
 )
theorem field_Select_spec {W : World} {r : (List Int)} {p0 : Bool} {p1 : List Int} {p2 : List Int} (h : field_Select p0 p1 p2 = some r)  :
    Calls Tryd.prog 75 [.bool (p0), agg [.ints .u64 5 (p1)], agg [.ints .u64 5 (p2)]].toArray W (ret1 W (agg [.ints .u64 5 (r)])) := by
  unfold field_Select at h
  refine calls_val mo ok75 rfl ?_
  refine wc_seq ?_
  refine wc_ops ?_
  refine wj_e (ef_bx (s := [.ints .u64 5 (p1)]) rfl fun b2 hb2 => ?_)
  refine wj_e (ef_bx (s := [.ints .u64 5 (p2)]) rfl fun b3 hb3 => ?_)
  refine wj_e (ef_al fun b4 hb4 => ?_)
  refine wj_nil ?_
  refine wc_seq ?_
  refine wc_seq ?_
  refine wc_ops ?_
  refine wj_q _ (q_mv rfl) ?_
  refine wj_nil ?_
  refine wc_if (c := p0) rfl (fun d6 => ?_) (fun d6 => ?_)
  · have h := br_t h d6
    refine wc_seq ?_
    revert h
    refine opt_i fun y8 ey8 => ?_
    intro h
    refine wc_ops ?_
    refine wj_q _ (q_ld (p := [.ints .u64 5 (p1)]) rfl (.there (.there .here)) rfl) ?_
    refine wj_q _ (q_call (vs := [agg [.ints .u64 5 (p1)]]) (v := agg [.ints .u64 5 (y8)]) rfl (fun w hw => field_reduce_spec (r := y8) (p0 := p1) ey8 )) ?_
    refine wj_e (ef_st (q := [.ints .u64 5 (y8)]) rfl rfl rfl rfl rfl .here ?_)
    refine wj_nil ?_
    refine wc_ret ?_
    revert h; refine ret_i fun h => ?_
    subst h
    exact ⟨_, (.cons (.agg rfl .here rfl) .nil), rfl⟩
  · have h := br_f h d6
    refine wc_skip ?_
    refine wc_seq ?_
    revert h
    refine opt_i fun y10 ey10 => ?_
    intro h
    refine wc_ops ?_
    refine wj_q _ (q_ld (p := [.ints .u64 5 (p2)]) rfl (.there .here) rfl) ?_
    refine wj_q _ (q_call (vs := [agg [.ints .u64 5 (p2)]]) (v := agg [.ints .u64 5 (y10)]) rfl (fun w hw => field_reduce_spec (r := y10) (p0 := p2) ey10 )) ?_
    refine wj_e (ef_st (q := [.ints .u64 5 (y10)]) rfl rfl rfl rfl rfl .here ?_)
    refine wj_nil ?_
    refine wc_ret ?_
    revert h; refine ret_i fun h => ?_
    subst h
    exact ⟨_, (.cons (.agg rfl .here rfl) .nil), rfl⟩
/- farebox/field.SqrtRatio -/
def field_SqrtRatio (p0 : List Int) (p1 : List Int) : Option ((List Int) × Bool) :=
 opt (field_IsZero p1) fun y6 =>
 br (y6) (
 bnd (([0, 0, 0, 0, 0] : List Int)) fun z9 =>
 opt (field_IsZero p0) fun y10 =>
 some (z9, y10)
 ) (
 opt (field_Square p1) fun y12 =>
 opt (field_Mul y12 p1) fun y13 =>
 opt (field_Square y13) fun y16 =>
 opt (field_Mul p0 y16) fun y17 =>
 opt (field_Mul y17 p1) fun y18 =>
 opt (field_Mul p0 y13) fun y21 =>
 opt (field_power 253 15) fun y22 =>
 opt (field_Pow y18 y22) fun y23 =>
 opt (field_Mul y21 y23) fun y24 =>
 opt (field_Square y24) fun y27 =>
 opt (field_Mul p1 y27) fun y28 =>
 jn (fun (a44 : List Int) => opt (field_IsOdd a44) fun y61 =>
 opt (field_Neg a44) fun y62 =>
 opt (field_Select y61 y62 a44) fun y63 =>
 some (y63, true)) fun k45 => opt (field_Equal y28 p0) fun y47 =>
 br (y47) (
 k45 y24
 ) (
 opt (field_Neg p0) fun y50 =>
 opt (field_Equal y28 y50) fun y51 =>
 br (y51) (
 opt (field_Small 2) fun y54 =>
 opt (field_power 251 31) fun y55 =>
 opt (field_Pow y54 y55) fun y56 =>
 opt (field_Mul y24 y56) fun y57 =>
 k45 y57
 ) (
 bnd (([0, 0, 0, 0, 0] : List Int)) fun z59 =>
 some (z59, false)
 )
 )
 )
theorem field_SqrtRatio_spec {W : World} {r : (List Int) × Bool} {p0 : List Int} {p1 : List Int} (h : field_SqrtRatio p0 p1 = some r)  :
    Calls Tryd.prog 36 [agg [.ints .u64 5 (p0)], agg [.ints .u64 5 (p1)]].toArray W (ret1 W (.tuple #[agg [.ints .u64 5 (r.1)], .bool (r.2)])) := by
  unfold field_SqrtRatio at h
  refine calls_val mo ok36 rfl ?_
  refine wc_seq ?_
  refine wc_ops ?_
  refine wj_e (ef_bx (s := [.ints .u64 5 (p0)]) rfl fun b2 hb2 => ?_)
  refine wj_e (ef_bx (s := [.ints .u64 5 (p1)]) rfl fun b3 hb3 => ?_)
  refine wj_e (ef_al fun b4 hb4 => ?_)
  refine wj_q _ (q_mv rfl) ?_
  refine wj_nil ?_
  refine wc_seq ?_
  refine wc_seq ?_
  revert h
  refine opt_i fun y6 ey6 => ?_
  intro h
  refine wc_ops ?_
  refine wj_q _ (q_ld (p := [.ints .u64 5 (p1)]) rfl (.there .here) rfl) ?_
  refine wj_q _ (q_call (vs := [agg [.ints .u64 5 (p1)]]) (v := .bool (y6)) rfl (fun w hw => field_IsZero_spec (r := y6) (p0 := p1) ey6 )) ?_
  refine wj_nil ?_
  refine wc_if (c := y6) rfl (fun d7 => ?_) (fun d7 => ?_)
  · have h := br_t h d7
    refine wc_seq ?_
    revert h
    refine bnd_i fun z9 ez9 => ?_
    refine opt_i fun y10 ey10 => ?_
    intro h
    refine wc_ops ?_
    refine wj_q _ (az (fun z => agg [.ints .u64 5 z]) ez9 (q_bd BdR.nil)) ?_
    refine wj_q _ (q_ld (p := [.ints .u64 5 (p0)]) rfl (.there (.there .here)) rfl) ?_
    refine wj_q _ (q_call (vs := [agg [.ints .u64 5 (p0)]]) (v := .bool (y10)) rfl (fun w hw => field_IsZero_spec (r := y10) (p0 := p0) ey10 )) ?_
    refine wj_e (ef_st (q := [.ints .u64 5 (z9)]) rfl rfl rfl rfl rfl .here ?_)
    refine wj_q _ (q_mv rfl) ?_
    refine wj_nil ?_
    refine wc_ret ?_
    revert h; refine ret_i fun h => ?_
    subst h
    exact ⟨_, (.cons (.agg rfl .here rfl) (.cons (.tmp rfl) .nil)), rfl⟩
  · have h := br_f h d7
    refine wc_skip ?_
    refine wc_seq ?_
    revert h
    refine opt_i fun y12 ey12 => ?_
    refine opt_i fun y13 ey13 => ?_
    intro h
    refine wc_draw ?_
    refine ws_q1 _ (q_ld (p := [.ints .u64 5 (p1)]) rfl (.there .here) rfl) ?_
    refine ws_p1 _ (q_call (vs := [agg [.ints .u64 5 (p1)]]) (v := agg [.ints .u64 5 (y12)]) rfl (fun w hw => field_Square_spec (r := y12) (p0 := p1) ey12 )) ?_
    refine ws_q1 _ (q_ld (p := [.ints .u64 5 (p1)]) rfl (.there .here) rfl) ?_
    refine ws_p1 _ (q_call (vs := [agg [.ints .u64 5 (y12)], agg [.ints .u64 5 (p1)]]) (v := agg [.ints .u64 5 (y13)]) rfl (fun w hw => field_Mul_spec (r := y13) (p0 := y12) (p1 := p1) ey13 )) ?_
    refine ws_e1 (ef_al fun b14 hb14 => ⟨(by repeat (first | exact Sup.refl _ | apply Sup.cons | apply Sup.app)), ?_⟩)
    refine ws_eL rfl (ef_st (q := [.ints .u64 5 (y13)]) rfl rfl rfl rfl rfl .here ?_)
    refine ws_nil ?_
    refine wc_seq ?_
    revert h
    refine opt_i fun y16 ey16 => ?_
    refine opt_i fun y17 ey17 => ?_
    refine opt_i fun y18 ey18 => ?_
    intro h
    refine wc_draw ?_
    refine ws_q1 _ (q_ld (p := [.ints .u64 5 (p0)]) rfl (.there (.there (.there .here))) rfl) ?_
    refine ws_q1 _ (q_ld (p := [.ints .u64 5 (y13)]) rfl .here rfl) ?_
    refine ws_p1 _ (q_call (vs := [agg [.ints .u64 5 (y13)]]) (v := agg [.ints .u64 5 (y16)]) rfl (fun w hw => field_Square_spec (r := y16) (p0 := y13) ey16 )) ?_
    refine ws_p1 _ (q_call (vs := [agg [.ints .u64 5 (p0)], agg [.ints .u64 5 (y16)]]) (v := agg [.ints .u64 5 (y17)]) rfl (fun w hw => field_Mul_spec (r := y17) (p0 := p0) (p1 := y16) ey17 )) ?_
    refine ws_q1 _ (q_ld (p := [.ints .u64 5 (p1)]) rfl (.there (.there .here)) rfl) ?_
    refine ws_p1 _ (q_call (vs := [agg [.ints .u64 5 (y17)], agg [.ints .u64 5 (p1)]]) (v := agg [.ints .u64 5 (y18)]) rfl (fun w hw => field_Mul_spec (r := y18) (p0 := y17) (p1 := p1) ey18 )) ?_
    refine ws_e1 (ef_al fun b19 hb19 => ⟨(by repeat (first | exact Sup.refl _ | apply Sup.cons | apply Sup.app)), ?_⟩)
    refine ws_eL rfl (ef_st (q := [.ints .u64 5 (y18)]) rfl rfl rfl rfl rfl .here ?_)
    refine ws_nil ?_
    refine wc_seq ?_
    revert h
    refine opt_i fun y21 ey21 => ?_
    refine opt_i fun y22 ey22 => ?_
    refine opt_i fun y23 ey23 => ?_
    refine opt_i fun y24 ey24 => ?_
    intro h
    refine wc_draw ?_
    refine ws_q1 _ (q_ld (p := [.ints .u64 5 (p0)]) rfl (.there (.there (.there (.there .here)))) rfl) ?_
    refine ws_q1 _ (q_ld (p := [.ints .u64 5 (y13)]) rfl (.there .here) rfl) ?_
    refine ws_p1 _ (q_call (vs := [agg [.ints .u64 5 (p0)], agg [.ints .u64 5 (y13)]]) (v := agg [.ints .u64 5 (y21)]) rfl (fun w hw => field_Mul_spec (r := y21) (p0 := p0) (p1 := y13) ey21 )) ?_
    refine ws_p1 _ (q_call (vs := [.int .u8 253, .int .u8 15]) (v := agg [.ints .u8 32 (y22)]) rfl (fun w hw => field_power_spec (r := y22) (p0 := 253) (p1 := 15) ey22 )) ?_
    refine ws_q1 _ (q_ld (p := [.ints .u64 5 (y18)]) rfl .here rfl) ?_
    refine ws_p1 _ (q_call (vs := [agg [.ints .u64 5 (y18)], agg [.ints .u8 32 (y22)]]) (v := agg [.ints .u64 5 (y23)]) rfl (fun w hw => field_Pow_spec (r := y23) (p0 := y18) (p1 := y22) ey23 )) ?_
    refine ws_p1 _ (q_call (vs := [agg [.ints .u64 5 (y21)], agg [.ints .u64 5 (y23)]]) (v := agg [.ints .u64 5 (y24)]) rfl (fun w hw => field_Mul_spec (r := y24) (p0 := y21) (p1 := y23) ey24 )) ?_
    refine ws_e1 (ef_al fun b25 hb25 => ⟨(by repeat (first | exact Sup.refl _ | apply Sup.cons | apply Sup.app)), ?_⟩)
    refine ws_eL rfl (ef_st (q := [.ints .u64 5 (y24)]) rfl rfl rfl rfl rfl .here ?_)
    refine ws_nil ?_
    refine wc_seq ?_
    refine wc_seq ?_
    revert h
    refine opt_i fun y27 ey27 => ?_
    refine opt_i fun y28 ey28 => ?_
    intro h
    refine wc_draw ?_
    refine ws_q1 _ (q_ld (p := [.ints .u64 5 (p1)]) rfl (.there (.there (.there (.there .here)))) rfl) ?_
    refine ws_q1 _ (q_ld (p := [.ints .u64 5 (y24)]) rfl .here rfl) ?_
    refine ws_p1 _ (q_call (vs := [agg [.ints .u64 5 (y24)]]) (v := agg [.ints .u64 5 (y27)]) rfl (fun w hw => field_Square_spec (r := y27) (p0 := y24) ey27 )) ?_
    refine ws_p1 _ (q_call (vs := [agg [.ints .u64 5 (p1)], agg [.ints .u64 5 (y27)]]) (v := agg [.ints .u64 5 (y28)]) rfl (fun w hw => field_Mul_spec (r := y28) (p0 := p1) (p1 := y27) ey28 )) ?_
    refine ws_e1 (ef_al fun b29 hb29 => ⟨(by repeat (first | exact Sup.refl _ | apply Sup.cons | apply Sup.app)), ?_⟩)
    refine ws_eL rfl (ef_st (q := [.ints .u64 5 (y28)]) rfl rfl rfl rfl rfl .here ?_)
    refine ws_nil ?_
    revert h
    refine jn_i fun k45 qk45 => ?_
    intro h
    refine wc_mono2 (G := fun t m => ∃ (a44 : List Int), k45 a44 = some r ∧ Fit [(4, .pointer (some ⟨b4, 0, none⟩)), (8, .pointer (some ⟨b25, 0, none⟩))] (ck b29 58 [.ints .u64 5 (y28)] :: (ck b25 58 [.ints .u64 5 (a44)] :: (ck b19 58 [.ints .u64 5 (y18)] :: (ck b14 58 [.ints .u64 5 (y13)] :: (ck b4 58 [.ints .u64 5 ((List.replicate 5 0))] :: (ck b3 58 [.ints .u64 5 (p1)] :: (ck b2 58 [.ints .u64 5 (p0)] :: []))))))) t m) ?_ ?_
    · refine wc_block ?_
      refine wc_seq ?_
      revert h
      refine opt_i fun y47 ey47 => ?_
      intro h
      refine wc_ops ?_
      refine wj_q _ (q_ld (p := [.ints .u64 5 (y28)]) rfl .here rfl) ?_
      refine wj_q _ (q_ld (p := [.ints .u64 5 (p0)]) rfl (.there (.there (.there (.there (.there (.there .here)))))) rfl) ?_
      refine wj_q _ (q_call (vs := [agg [.ints .u64 5 (y28)], agg [.ints .u64 5 (p0)]]) (v := .bool (y47)) rfl (fun w hw => field_Equal_spec (r := y47) (p0 := y28) (p1 := p0) ey47 )) ?_
      refine wj_q _ (q_mv rfl) ?_
      refine wj_nil ?_
      refine wc_if (c := y47) rfl (fun d48 => ?_) (fun d48 => ?_)
      · have h := br_t h d48
        refine wc_skip ?_
        exact ⟨y24, h, ⟨⟨rfl, rfl, trivial⟩, (.one .here (.one .here (.one .here (.one .here (.one .here (.one .here (.one .here .nil)))))))⟩⟩
      · have h := br_f h d48
        refine wc_seq ?_
        revert h
        refine opt_i fun y50 ey50 => ?_
        refine opt_i fun y51 ey51 => ?_
        intro h
        refine wc_draw ?_
        refine ws_q1 _ (q_ld (p := [.ints .u64 5 (y28)]) rfl .here rfl) ?_
        refine ws_q1 _ (q_ld (p := [.ints .u64 5 (p0)]) rfl (.there (.there (.there (.there (.there (.there .here)))))) rfl) ?_
        refine ws_p1 _ (q_call (vs := [agg [.ints .u64 5 (p0)]]) (v := agg [.ints .u64 5 (y50)]) rfl (fun w hw => field_Neg_spec (r := y50) (p0 := p0) ey50 )) ?_
        refine ws_p1 _ (q_call (vs := [agg [.ints .u64 5 (y28)], agg [.ints .u64 5 (y50)]]) (v := .bool (y51)) rfl (fun w hw => field_Equal_spec (r := y51) (p0 := y28) (p1 := y50) ey51 )) ?_
        refine ws_p1 _ (q_mv rfl) ?_
        refine ws_nil ?_
        refine wc_if (c := y51) rfl (fun d52 => ?_) (fun d52 => ?_)
        · have h := br_t h d52
          revert h
          refine opt_i fun y54 ey54 => ?_
          refine opt_i fun y55 ey55 => ?_
          refine opt_i fun y56 ey56 => ?_
          refine opt_i fun y57 ey57 => ?_
          intro h
          refine wc_draw ?_
          refine ws_p1 _ (q_call (vs := [.int .u64 2]) (v := agg [.ints .u64 5 (y54)]) rfl (fun w hw => field_Small_spec (r := y54) (p0 := 2) ey54 )) ?_
          refine ws_p1 _ (q_call (vs := [.int .u8 251, .int .u8 31]) (v := agg [.ints .u8 32 (y55)]) rfl (fun w hw => field_power_spec (r := y55) (p0 := 251) (p1 := 31) ey55 )) ?_
          refine ws_p1 _ (q_call (vs := [agg [.ints .u64 5 (y54)], agg [.ints .u8 32 (y55)]]) (v := agg [.ints .u64 5 (y56)]) rfl (fun w hw => field_Pow_spec (r := y56) (p0 := y54) (p1 := y55) ey56 )) ?_
          refine ws_q1 _ (q_ld (p := [.ints .u64 5 (y24)]) rfl (.there .here) rfl) ?_
          refine ws_p1 _ (q_call (vs := [agg [.ints .u64 5 (y24)], agg [.ints .u64 5 (y56)]]) (v := agg [.ints .u64 5 (y57)]) rfl (fun w hw => field_Mul_spec (r := y57) (p0 := y24) (p1 := y56) ey57 )) ?_
          refine ws_eL rfl (ef_st (q := [.ints .u64 5 (y57)]) rfl rfl rfl rfl rfl (.there .here) ?_)
          refine ws_nil ?_
          exact ⟨y57, h, ⟨⟨rfl, rfl, trivial⟩, (.one .here (.one .here (.one .here (.one .here (.one .here (.one .here (.one .here .nil)))))))⟩⟩
        · have h := br_f h d52
          refine wc_seq ?_
          revert h
          refine bnd_i fun z59 ez59 => ?_
          intro h
          refine wc_ops ?_
          refine wj_q _ (az (fun z => agg [.ints .u64 5 z]) ez59 (q_bd BdR.nil)) ?_
          refine wj_e (ef_st (q := [.ints .u64 5 (z59)]) rfl rfl rfl rfl rfl (.there (.there (.there (.there .here)))) ?_)
          refine wj_q _ (q_mv rfl) ?_
          refine wj_nil ?_
          refine wc_ret ?_
          revert h; refine ret_i fun h => ?_
          subst h
          exact ⟨_, (.cons (.agg rfl (.there (.there (.there (.there .here)))) rfl) (.cons (.tmp rfl) .nil)), rfl⟩
    · rintro t m ⟨a44, h, hF⟩
      refine wc_fit hF ?_
      clear hF
      subst qk45
      refine wc_seq ?_
      revert h
      refine opt_i fun y61 ey61 => ?_
      refine opt_i fun y62 ey62 => ?_
      refine opt_i fun y63 ey63 => ?_
      intro h
      refine wc_draw ?_
      refine ws_q1 _ (q_ld (p := [.ints .u64 5 (a44)]) rfl (.there .here) rfl) ?_
      refine ws_p1 _ (q_call (vs := [agg [.ints .u64 5 (a44)]]) (v := .bool (y61)) rfl (fun w hw => field_IsOdd_spec (r := y61) (p0 := a44) ey61 )) ?_
      refine ws_q1 _ (q_ld (p := [.ints .u64 5 (a44)]) rfl (.there .here) rfl) ?_
      refine ws_p1 _ (q_call (vs := [agg [.ints .u64 5 (a44)]]) (v := agg [.ints .u64 5 (y62)]) rfl (fun w hw => field_Neg_spec (r := y62) (p0 := a44) ey62 )) ?_
      refine ws_q1 _ (q_ld (p := [.ints .u64 5 (a44)]) rfl (.there .here) rfl) ?_
      refine ws_p1 _ (q_call (vs := [.bool (y61), agg [.ints .u64 5 (y62)], agg [.ints .u64 5 (a44)]]) (v := agg [.ints .u64 5 (y63)]) rfl (fun w hw => field_Select_spec (r := y63) (p0 := y61) (p1 := y62) (p2 := a44) ey63 )) ?_
      refine ws_eL rfl (ef_st (q := [.ints .u64 5 (y63)]) rfl rfl rfl rfl rfl (.there (.there (.there (.there .here)))) ?_)
      refine ws_p1 _ (q_mv rfl) ?_
      refine ws_nil ?_
      refine wc_ret ?_
      revert h; refine ret_i fun h => ?_
      subst h
      exact ⟨_, (.cons (.agg rfl (.there (.there (.there (.there .here)))) rfl) (.cons (.tmp rfl) .nil)), rfl⟩
/- farebox/field.Add -/
def field_Add_b1 (y7 : (List Int)) (k50 : (List Int) → Option ((List Int))) (k76 : (Int) → (List Int) → Option ((List Int))) (i74 : Int) (a75 : List Int) : Option ((List Int)) :=
 br ((decide (i74 < 5))) (
 chk (inB i74 5) <|
 chk (inB i74 5) <|
 bnd (a75.getD (i74).toNat 0) fun z84 =>
 bnd (y7.getD (i74).toNat 0) fun z85 =>
 bnd (IntKind.wrap .u64 (z84 + z85)) fun z86 =>
 chk (inB i74 5) <|
 bnd (setD a75 (i74).toNat z86) fun l88 =>
 bnd (IntKind.wrap .i64 (i74 + 1)) fun z90 =>
 k76 z90 l88
 ) (
 k50 a75
 )
def field_Add_l1 (y7 : (List Int)) (k50 : (List Int) → Option ((List Int))) : Nat → (Int) → (List Int) → Option ((List Int))
  | 0, _, _ => none
  | n + 1, i74, a75 => field_Add_b1 y7 k50 (field_Add_l1 y7 k50 n) i74 a75
def field_Add (p0 : List Int) (p1 : List Int) : Option ((List Int)) :=
 opt (field_carry p0) fun y6 =>
 opt (field_carry p1) fun y7 =>
 jn (fun (a49 : List Int) => opt (field_reduce a49) fun y92 =>
 some y92) fun k50 => field_Add_l1 y7 k50 big 0 y6
theorem field_Add_spec {W : World} {r : (List Int)} {p0 : List Int} {p1 : List Int} (h : field_Add p0 p1 = some r)  :
    Calls Tryd.prog 38 [agg [.ints .u64 5 (p0)], agg [.ints .u64 5 (p1)]].toArray W (ret1 W (agg [.ints .u64 5 (r)])) := by
  unfold field_Add at h
  refine calls_val mo ok38 rfl ?_
  refine wc_seq ?_
  refine wc_ops ?_
  refine wj_e (ef_bx (s := [.ints .u64 5 (p0)]) rfl fun b2 hb2 => ?_)
  refine wj_e (ef_bx (s := [.ints .u64 5 (p1)]) rfl fun b3 hb3 => ?_)
  refine wj_e (ef_al fun b4 hb4 => ?_)
  refine wj_nil ?_
  refine wc_seq ?_
  revert h
  refine opt_i fun y6 ey6 => ?_
  refine opt_i fun y7 ey7 => ?_
  intro h
  refine wc_draw ?_
  refine ws_q1 _ (q_ld (p := [.ints .u64 5 (p0)]) rfl (.there (.there .here)) rfl) ?_
  refine ws_p1 _ (q_call (vs := [agg [.ints .u64 5 (p0)]]) (v := agg [.ints .u64 5 (y6)]) rfl (fun w hw => field_carry_spec (r := y6) (p0 := p0) ey6 )) ?_
  refine ws_q1 _ (q_ld (p := [.ints .u64 5 (p1)]) rfl (.there .here) rfl) ?_
  refine ws_p1 _ (q_call (vs := [agg [.ints .u64 5 (p1)]]) (v := agg [.ints .u64 5 (y7)]) rfl (fun w hw => field_carry_spec (r := y7) (p0 := p1) ey7 )) ?_
  refine ws_eL rfl (ef_st (q := [.ints .u64 5 (y6)]) rfl rfl rfl rfl rfl (.there (.there .here)) ?_)
  refine ws_eM rfl (ef_st (q := [.ints .u64 5 (y7)]) rfl rfl rfl rfl rfl (.there .here) ?_)
  refine ws_nil ?_
  refine wc_seq ?_
  refine wc_seq ?_
  refine wc_ops ?_
  refine wj_q _ (q_mv rfl) ?_
  refine wj_nil ?_
  revert h
  refine jn_i fun k50 qk50 => ?_
  intro h
  refine wc_mono2 (G := fun t m => ∃ (a49 : List Int), k50 a49 = some r ∧ Fit [(2, .pointer (some ⟨b2, 0, none⟩)), (4, .pointer (some ⟨b4, 0, none⟩))] (ck b4 58 [.ints .u64 5 ((List.replicate 5 0))] :: (ck b3 58 [.ints .u64 5 (y7)] :: (ck b2 58 [.ints .u64 5 (a49)] :: []))) t m) ?_ ?_
  · refine wc_block ?_
    refine wc_loopJ (fun n77 t m => ∃ (i74 : Int) (a75 : List Int), field_Add_l1 y7 k50 n77 i74 a75 = some r ∧ Fit [(2, .pointer (some ⟨b2, 0, none⟩)), (3, .pointer (some ⟨b3, 0, none⟩)), (4, .pointer (some ⟨b4, 0, none⟩)), (10, .int .i64 (i74))] (ck b4 58 [.ints .u64 5 ((List.replicate 5 0))] :: (ck b3 58 [.ints .u64 5 (y7)] :: (ck b2 58 [.ints .u64 5 (a75)] :: []))) t m) big ?_ ?_
    · exact ⟨0, y6, h, ⟨⟨rfl, rfl, rfl, rfl, trivial⟩, (.one .here (.one .here (.one .here .nil)))⟩⟩
    · rintro n77 t m ⟨i74, a75, h, hF⟩
      refine wc_fit hF ?_
      clear hF
      rcases n77 with _ | n77
      · exact none_i h
      have h : field_Add_b1 y7 k50 (field_Add_l1 y7 k50 n77) i74 a75 = some r := h
      unfold field_Add_b1 at h
      obtain ⟨k76, qk76⟩ : ∃ k, k = field_Add_l1 y7 k50 n77 := ⟨_, rfl⟩
      try rw [← qk76] at h
      refine wc_seq ?_
      refine wc_ops ?_
      refine wj_q _ (q_bin rfl rfl rfl) ?_
      refine wj_nil ?_
      refine wc_seq ?_
      refine wc_if (c := (decide (i74 < 5))) rfl (fun d79 => ?_) (fun d79 => ?_)
      · have h := br_t h d79
        refine wc_skip ?_
        refine wc_seq ?_
        refine wc_block ?_
        refine wc_seq ?_
        refine wc_ops ?_
        refine wj_q _ (q_mv rfl) ?_
        refine wj_q _ (q_mv rfl) ?_
        refine wj_nil ?_
        revert h
        refine chk_i fun c82 => ?_
        refine chk_i fun c83 => ?_
        refine bnd_i fun z84 ez84 => ?_
        refine bnd_i fun z85 ez85 => ?_
        refine bnd_i fun z86 ez86 => ?_
        refine chk_i fun c87 => ?_
        refine bnd_i fun l88 el88 => ?_
        intro h
        refine wc_draw ?_
        refine ws_p1 _ (q_mv rfl) ?_
        refine ws_p1 _ (q_ia rfl rfl (inB_z c82)) ?_
        refine ws_p1 _ (q_mv rfl) ?_
        refine ws_p1 _ (q_ia rfl rfl (inB_z c83)) ?_
        refine ws_q1 _ (iz ez84 (q_ldi (base := 0) rfl (.there (.there .here)) rfl (inB_n c82))) ?_
        refine ws_q1 _ (iz ez85 (q_ldi (base := 0) rfl (.there .here) rfl (inB_n c83))) ?_
        refine ws_p1 _ (iz ez86 (q_bin rfl rfl rfl)) ?_
        refine ws_p1 _ (q_ia rfl rfl (inB_z c87)) ?_
        refine ws_eL rfl (ef_stiz (q := [.ints .u64 5 (l88)]) (base := 0) el88 rfl rfl rfl (inB_n c87) rfl (.there (.there .here)) ?_)
        refine ws_nil ?_
        revert h
        refine bnd_i fun z90 ez90 => ?_
        intro h
        refine wc_ops ?_
        refine wj_q _ (iz ez90 (q_bin rfl rfl rfl)) ?_
        refine wj_q _ (q_mv rfl) ?_
        refine wj_nil ?_
        rw [qk76] at h
        exact ⟨n77, Nat.lt_succ_self _, z90, l88, h, ⟨⟨rfl, rfl, rfl, rfl, trivial⟩, (.one .here (.one .here (.one .here .nil)))⟩⟩
      · have h := br_f h d79
        refine wc_exit _ rfl ?_
        exact ⟨a75, h, ⟨⟨rfl, rfl, trivial⟩, (.one .here (.one .here (.one .here .nil)))⟩⟩
  · rintro t m ⟨a49, h, hF⟩
    refine wc_fit hF ?_
    clear hF
    subst qk50
    refine wc_seq ?_
    revert h
    refine opt_i fun y92 ey92 => ?_
    intro h
    refine wc_ops ?_
    refine wj_q _ (q_ld (p := [.ints .u64 5 (a49)]) rfl (.there (.there .here)) rfl) ?_
    refine wj_q _ (q_call (vs := [agg [.ints .u64 5 (a49)]]) (v := agg [.ints .u64 5 (y92)]) rfl (fun w hw => field_reduce_spec (r := y92) (p0 := a49) ey92 )) ?_
    refine wj_e (ef_st (q := [.ints .u64 5 (y92)]) rfl rfl rfl rfl rfl .here ?_)
    refine wj_nil ?_
    refine wc_ret ?_
    revert h; refine ret_i fun h => ?_
    subst h
    exact ⟨_, (.cons (.agg rfl .here rfl) .nil), rfl⟩
/- farebox/field.Sub -/
def field_Sub (p0 : List Int) (p1 : List Int) : Option ((List Int)) :=
 opt (field_Neg p1) fun y6 =>
 opt (field_Add p0 y6) fun y7 =>
 some y7
theorem field_Sub_spec {W : World} {r : (List Int)} {p0 : List Int} {p1 : List Int} (h : field_Sub p0 p1 = some r)  :
    Calls Tryd.prog 37 [agg [.ints .u64 5 (p0)], agg [.ints .u64 5 (p1)]].toArray W (ret1 W (agg [.ints .u64 5 (r)])) := by
  unfold field_Sub at h
  refine calls_val mo ok37 rfl ?_
  refine wc_seq ?_
  refine wc_ops ?_
  refine wj_e (ef_bx (s := [.ints .u64 5 (p0)]) rfl fun b2 hb2 => ?_)
  refine wj_e (ef_bx (s := [.ints .u64 5 (p1)]) rfl fun b3 hb3 => ?_)
  refine wj_e (ef_al fun b4 hb4 => ?_)
  refine wj_nil ?_
  refine wc_seq ?_
  revert h
  refine opt_i fun y6 ey6 => ?_
  refine opt_i fun y7 ey7 => ?_
  intro h
  refine wc_draw ?_
  refine ws_q1 _ (q_ld (p := [.ints .u64 5 (p0)]) rfl (.there (.there .here)) rfl) ?_
  refine ws_q1 _ (q_ld (p := [.ints .u64 5 (p1)]) rfl (.there .here) rfl) ?_
  refine ws_p1 _ (q_call (vs := [agg [.ints .u64 5 (p1)]]) (v := agg [.ints .u64 5 (y6)]) rfl (fun w hw => field_Neg_spec (r := y6) (p0 := p1) ey6 )) ?_
  refine ws_p1 _ (q_call (vs := [agg [.ints .u64 5 (p0)], agg [.ints .u64 5 (y6)]]) (v := agg [.ints .u64 5 (y7)]) rfl (fun w hw => field_Add_spec (r := y7) (p0 := p0) (p1 := y6) ey7 )) ?_
  refine ws_eL rfl (ef_st (q := [.ints .u64 5 (y7)]) rfl rfl rfl rfl rfl .here ?_)
  refine ws_nil ?_
  refine wc_ret ?_
  revert h; refine ret_i fun h => ?_
  subst h
  exact ⟨_, (.cons (.agg rfl .here rfl) .nil), rfl⟩
/- farebox/curve.limbs -/
def curve_limbs  : Option ((List Int)) :=
 bnd (([929955233495203, 466365720129213, 1662059464998953, 2033849074728123, 1442794654840575] : List Int)) fun z4 =>
 some z4
theorem curve_limbs_spec {W : World} {r : (List Int)} (h : curve_limbs  = some r)  :
    Calls Tryd.prog 40 [].toArray W (ret1 W (agg [.ints .u64 5 (r)])) := by
  unfold curve_limbs at h
  refine calls_val mo ok40 rfl ?_
  refine wc_seq ?_
  refine wc_ops ?_
  refine wj_e (ef_al fun b2 hb2 => ?_)
  refine wj_nil ?_
  refine wc_seq ?_
  revert h
  refine bnd_i fun z4 ez4 => ?_
  intro h
  refine wc_ops ?_
  refine wj_q _ (az (fun z => agg [.ints .u64 5 z]) ez4 (q_bd (.one rfl rfl rfl (.one rfl rfl rfl (.one rfl rfl rfl (.one rfl rfl rfl (.one rfl rfl rfl BdR.nil))))))) ?_
  refine wj_e (ef_st (q := [.ints .u64 5 (z4)]) rfl rfl rfl rfl rfl .here ?_)
  refine wj_nil ?_
  refine wc_ret ?_
  revert h; refine ret_i fun h => ?_
  subst h
  exact ⟨_, (.cons (.agg rfl .here rfl) .nil), rfl⟩
end Go.Proofs.YtiflckckekjbnaaDoor
/- Mirrors. -/
namespace Go.Proofs.YtiflckckekjbnaaDoor
open Go Go.Sx Go.RowKit
set_option linter.all false
set_option maxHeartbeats 400000
set_option maxRecDepth 100000
/- farebox/curve.Decode -/
structure api_Point where
  gX : List Int
  gY : List Int
  gZ : List Int
  gT : List Int
def api_Point_z : api_Point := ⟨(List.replicate 5 0), (List.replicate 5 0), (List.replicate 5 0), (List.replicate 5 0)⟩
def curve_Decode (p0 : List Int) : Option (api_Point × Bool) :=
 bnd (p0.getD 31 0) fun z5 =>
 bnd (shrV .u8 z5 7) fun z6 =>
 bnd (p0.getD 31 0) fun z8 =>
 bnd (bitsV .and .u8 z8 127) fun z9 =>
 bnd (setD p0 31 z9) fun l10 =>
 opt (field_Canonical l10) fun y12 =>
 br ((!y12)) (
 some ((⟨(List.replicate 5 0), (List.replicate 5 0), (List.replicate 5 0), (List.replicate 5 0)⟩ : api_Point), false)
 ) (
 opt (field_FromBytes l10) fun y16 =>
 opt (field_Square y16) fun y19 =>
 opt (curve_unit) fun y22 =>
 opt (field_Sub y19 y22) fun y25 =>
 opt (curve_limbs) fun y26 =>
 opt (field_Mul y26 y19) fun y27 =>
 opt (field_Add y27 y22) fun y28 =>
 opt (field_SqrtRatio y25 y28) fun y29 =>
 chk (imp (!(!y29.2)) (imp (z6 == 1) ((field_IsZero y29.1).isSome))) <|
 br (((!y29.2) || ((z6 == 1) && ((field_IsZero y29.1).getD false)))) (
 some ((⟨(List.replicate 5 0), (List.replicate 5 0), (List.replicate 5 0), (List.replicate 5 0)⟩ : api_Point), false)
 ) (
 jn (fun (a39 : List Int) => opt (field_Mul a39 y16) fun y45 =>
 some ((⟨a39, y16, y22, y45⟩ : api_Point), true)) fun k40 => br ((z6 == 1)) (
 opt (field_Neg y29.1) fun y43 =>
 k40 y43
 ) (
 k40 y29.1
 )
 )
 )
theorem curve_Decode_spec {W : World} {r : api_Point × Bool} {p0 : List Int} (h : curve_Decode p0 = some r)  :
    Calls Tryd.prog 18 [agg [.ints .u8 32 (p0)]].toArray W (ret1 W (.tuple #[agg [.ints .u64 5 (r.1.gX), .ints .u64 5 (r.1.gY), .ints .u64 5 (r.1.gZ), .ints .u64 5 (r.1.gT)], .bool (r.2)])) := by
  unfold curve_Decode at h
  refine calls_val mo ok18 rfl ?_
  refine wc_seq ?_
  refine wc_ops ?_
  refine wj_e (ef_bx (s := [.ints .u8 32 (p0)]) rfl fun b2 hb2 => ?_)
  refine wj_e (ef_al fun b3 hb3 => ?_)
  refine wj_q _ (q_mv rfl) ?_
  refine wj_nil ?_
  refine wc_seq ?_
  revert h
  refine bnd_i fun z5 ez5 => ?_
  refine bnd_i fun z6 ez6 => ?_
  intro h
  refine wc_ops ?_
  refine wj_q _ (q_ia rfl rfl (by decide)) ?_
  refine wj_q _ (iz ez5 (q_ld1 rfl (.there .here) rfl)) ?_
  refine wj_q _ (iz ez6 (q_shr rfl rfl (by decide))) ?_
  refine wj_q _ (q_bin rfl rfl rfl) ?_
  refine wj_q _ (q_mv rfl) ?_
  refine wj_nil ?_
  refine wc_seq ?_
  revert h
  refine bnd_i fun z8 ez8 => ?_
  refine bnd_i fun z9 ez9 => ?_
  refine bnd_i fun l10 el10 => ?_
  intro h
  refine wc_ops ?_
  refine wj_q _ (q_ia rfl rfl (by decide)) ?_
  refine wj_q _ (iz ez8 (q_ld1 rfl (.there .here) rfl)) ?_
  refine wj_q _ (iz ez9 (q_bin rfl rfl rfl)) ?_
  refine wj_q _ (q_ia rfl rfl (by decide)) ?_
  refine wj_e (ef_st1z (q := [.ints .u8 32 (l10)]) (congrArg (fun z => ([.ints .u8 32 (z)] : List Seg)) el10.symm) rfl rfl rfl rfl (.there .here) ?_)
  refine wj_nil ?_
  refine wc_seq ?_
  refine wc_seq ?_
  revert h
  refine opt_i fun y12 ey12 => ?_
  intro h
  refine wc_ops ?_
  refine wj_q _ (q_ld (p := [.ints .u8 32 (l10)]) rfl (.there .here) rfl) ?_
  refine wj_q _ (q_call (vs := [agg [.ints .u8 32 (l10)]]) (v := .bool (y12)) rfl (fun w hw => field_Canonical_spec (r := y12) (p0 := l10) ey12 )) ?_
  refine wj_q _ (q_un rfl rfl) ?_
  refine wj_nil ?_
  refine wc_if (c := (!y12)) rfl (fun d13 => ?_) (fun d13 => ?_)
  · have h := br_t h d13
    refine wc_seq ?_
    refine wc_ops ?_
    refine wj_q _ (q_bd (q := [.ints .u64 5 ((List.replicate 5 0)), .ints .u64 5 ((List.replicate 5 0)), .ints .u64 5 ((List.replicate 5 0)), .ints .u64 5 ((List.replicate 5 0))]) BdR.nil) ?_
    refine wj_e (ef_st (q := [.ints .u64 5 ((List.replicate 5 0)), .ints .u64 5 ((List.replicate 5 0)), .ints .u64 5 ((List.replicate 5 0)), .ints .u64 5 ((List.replicate 5 0))]) rfl rfl rfl rfl rfl .here ?_)
    refine wj_q _ (q_mv rfl) ?_
    refine wj_nil ?_
    refine wc_ret ?_
    revert h; refine ret_i fun h => ?_
    subst h
    exact ⟨_, (.cons (.agg rfl .here rfl) (.cons (.tmp rfl) .nil)), rfl⟩
  · have h := br_f h d13
    refine wc_skip ?_
    refine wc_seq ?_
    revert h
    refine opt_i fun y16 ey16 => ?_
    intro h
    refine wc_ops ?_
    refine wj_q _ (q_ld (p := [.ints .u8 32 (l10)]) rfl (.there .here) rfl) ?_
    refine wj_q _ (q_call (vs := [agg [.ints .u8 32 (l10)]]) (v := agg [.ints .u64 5 (y16)]) rfl (fun w hw => field_FromBytes_spec (r := y16) (p0 := l10) ey16 )) ?_
    refine wj_e (ef_al fun b17 hb17 => ?_)
    refine wj_e (ef_st (q := [.ints .u64 5 (y16)]) rfl rfl rfl rfl rfl .here ?_)
    refine wj_nil ?_
    refine wc_seq ?_
    revert h
    refine opt_i fun y19 ey19 => ?_
    intro h
    refine wc_ops ?_
    refine wj_q _ (q_ld (p := [.ints .u64 5 (y16)]) rfl .here rfl) ?_
    refine wj_q _ (q_call (vs := [agg [.ints .u64 5 (y16)]]) (v := agg [.ints .u64 5 (y19)]) rfl (fun w hw => field_Square_spec (r := y19) (p0 := y16) ey19 )) ?_
    refine wj_e (ef_al fun b20 hb20 => ?_)
    refine wj_e (ef_st (q := [.ints .u64 5 (y19)]) rfl rfl rfl rfl rfl .here ?_)
    refine wj_nil ?_
    refine wc_seq ?_
    revert h
    refine opt_i fun y22 ey22 => ?_
    intro h
    refine wc_ops ?_
    refine wj_q _ (q_call (vs := []) (v := agg [.ints .u64 5 (y22)]) rfl (fun w hw => curve_unit_spec (r := y22) ey22 )) ?_
    refine wj_e (ef_al fun b23 hb23 => ?_)
    refine wj_e (ef_st (q := [.ints .u64 5 (y22)]) rfl rfl rfl rfl rfl .here ?_)
    refine wj_nil ?_
    refine wc_seq ?_
    revert h
    refine opt_i fun y25 ey25 => ?_
    refine opt_i fun y26 ey26 => ?_
    refine opt_i fun y27 ey27 => ?_
    refine opt_i fun y28 ey28 => ?_
    refine opt_i fun y29 ey29 => ?_
    intro h
    refine wc_draw ?_
    refine ws_q1 _ (q_ld (p := [.ints .u64 5 (y19)]) rfl (.there .here) rfl) ?_
    refine ws_q1 _ (q_ld (p := [.ints .u64 5 (y22)]) rfl .here rfl) ?_
    refine ws_p1 _ (q_call (vs := [agg [.ints .u64 5 (y19)], agg [.ints .u64 5 (y22)]]) (v := agg [.ints .u64 5 (y25)]) rfl (fun w hw => field_Sub_spec (r := y25) (p0 := y19) (p1 := y22) ey25 )) ?_
    refine ws_p1 _ (q_call (vs := []) (v := agg [.ints .u64 5 (y26)]) rfl (fun w hw => curve_limbs_spec (r := y26) ey26 )) ?_
    refine ws_q1 _ (q_ld (p := [.ints .u64 5 (y19)]) rfl (.there .here) rfl) ?_
    refine ws_p1 _ (q_call (vs := [agg [.ints .u64 5 (y26)], agg [.ints .u64 5 (y19)]]) (v := agg [.ints .u64 5 (y27)]) rfl (fun w hw => field_Mul_spec (r := y27) (p0 := y26) (p1 := y19) ey27 )) ?_
    refine ws_q1 _ (q_ld (p := [.ints .u64 5 (y22)]) rfl .here rfl) ?_
    refine ws_p1 _ (q_call (vs := [agg [.ints .u64 5 (y27)], agg [.ints .u64 5 (y22)]]) (v := agg [.ints .u64 5 (y28)]) rfl (fun w hw => field_Add_spec (r := y28) (p0 := y27) (p1 := y22) ey28 )) ?_
    refine ws_p1 _ (q_call (vs := [agg [.ints .u64 5 (y25)], agg [.ints .u64 5 (y28)]]) (v := .tuple #[agg [.ints .u64 5 (y29.1)], .bool (y29.2)]) rfl (fun w hw => field_SqrtRatio_spec (r := y29) (p0 := y25) (p1 := y28) ey29 )) ?_
    refine ws_p1 _ (q_mv rfl) ?_
    refine ws_p1 _ (q_ext rfl rfl) ?_
    refine ws_p1 _ (q_ext rfl rfl) ?_
    refine ws_e1 (ef_al fun b30 hb30 => ⟨(by repeat (first | exact Sup.refl _ | apply Sup.cons | apply Sup.app)), ?_⟩)
    refine ws_eL rfl (ef_st (q := [.ints .u64 5 (y29.1)]) rfl rfl rfl rfl rfl .here ?_)
    refine ws_p1 _ (q_mv rfl) ?_
    refine ws_nil ?_
    refine wc_seq ?_
    refine wc_seq ?_
    revert h
    refine chk_i fun c32 => ?_
    intro h
    refine wc_ops ?_
    refine wj_q _ (q_mv rfl) ?_
    refine wj_q _ (q_un rfl rfl) ?_
    refine wj_q _ (q_mv rfl) ?_
    refine wj_or rfl rfl rfl (fun hg1 => qj_g rfl _ (q_mv rfl) (qj_g rfl _ (q_mv rfl) (qj_and rfl (fun _ h => by cases h; rfl) rfl rfl (fun hg2 => qj_g rfl _ (q_ld (p := [.ints .u64 5 (y29.1)]) rfl .here rfl) (qj_g rfl _ (q_call (vs := [agg [.ints .u64 5 (y29.1)]]) (v := .bool (((field_IsZero y29.1).getD false))) rfl (fun w hw => field_IsZero_spec (r := ((field_IsZero y29.1).getD false)) (p0 := y29.1) (getD_some (z := false) (imp_t (imp_f c32 hg1) hg2)) )) (qj_nil))) (fun hg2 => rfl) rfl (qj_nil)))) (fun hg1 => rfl) rfl ?_
    refine wj_nil ?_
    refine wc_if (c := ((!y29.2) || ((z6 == 1) && ((field_IsZero y29.1).getD false)))) rfl (fun d33 => ?_) (fun d33 => ?_)
    · have h := br_t h d33
      refine wc_seq ?_
      refine wc_ops ?_
      refine wj_q _ (q_bd (q := [.ints .u64 5 ((List.replicate 5 0)), .ints .u64 5 ((List.replicate 5 0)), .ints .u64 5 ((List.replicate 5 0)), .ints .u64 5 ((List.replicate 5 0))]) BdR.nil) ?_
      refine wj_e (ef_st (q := [.ints .u64 5 ((List.replicate 5 0)), .ints .u64 5 ((List.replicate 5 0)), .ints .u64 5 ((List.replicate 5 0)), .ints .u64 5 ((List.replicate 5 0))]) rfl rfl rfl rfl rfl (.there (.there (.there (.there .here)))) ?_)
      refine wj_q _ (q_mv rfl) ?_
      refine wj_nil ?_
      refine wc_ret ?_
      revert h; refine ret_i fun h => ?_
      subst h
      exact ⟨_, (.cons (.agg rfl (.there (.there (.there (.there .here)))) rfl) (.cons (.tmp rfl) .nil)), rfl⟩
    · have h := br_f h d33
      refine wc_skip ?_
      refine wc_seq ?_
      refine wc_seq ?_
      refine wc_ops ?_
      refine wj_q _ (q_mv rfl) ?_
      refine wj_nil ?_
      revert h
      refine jn_i fun k40 qk40 => ?_
      intro h
      refine wc_mono2 (G := fun t m => ∃ (a39 : List Int), k40 a39 = some r ∧ Fit [(2, .pointer (some ⟨b3, 0, none⟩)), (5, .pointer (some ⟨b17, 0, none⟩)), (7, .pointer (some ⟨b23, 0, none⟩)), (8, .pointer (some ⟨b30, 0, none⟩))] (ck b30 58 [.ints .u64 5 (a39)] :: (ck b23 58 [.ints .u64 5 (y22)] :: (ck b20 58 [.ints .u64 5 (y19)] :: (ck b17 58 [.ints .u64 5 (y16)] :: (ck b3 60 [.ints .u64 5 ((List.replicate 5 0)), .ints .u64 5 ((List.replicate 5 0)), .ints .u64 5 ((List.replicate 5 0)), .ints .u64 5 ((List.replicate 5 0))] :: (ck b2 27 [.ints .u8 32 (l10)] :: [])))))) t m) ?_ ?_
      · refine wc_if (c := (z6 == 1)) rfl (fun d41 => ?_) (fun d41 => ?_)
        · have h := br_t h d41
          revert h
          refine opt_i fun y43 ey43 => ?_
          intro h
          refine wc_ops ?_
          refine wj_q _ (q_ld (p := [.ints .u64 5 (y29.1)]) rfl .here rfl) ?_
          refine wj_q _ (q_call (vs := [agg [.ints .u64 5 (y29.1)]]) (v := agg [.ints .u64 5 (y43)]) rfl (fun w hw => field_Neg_spec (r := y43) (p0 := y29.1) ey43 )) ?_
          refine wj_e (ef_st (q := [.ints .u64 5 (y43)]) rfl rfl rfl rfl rfl .here ?_)
          refine wj_nil ?_
          exact ⟨y43, h, ⟨⟨rfl, rfl, rfl, rfl, trivial⟩, (.one .here (.one .here (.one .here (.one .here (.one .here (.one .here .nil))))))⟩⟩
        · have h := br_f h d41
          refine wc_skip ?_
          exact ⟨y29.1, h, ⟨⟨rfl, rfl, rfl, rfl, trivial⟩, (.one .here (.one .here (.one .here (.one .here (.one .here (.one .here .nil))))))⟩⟩
      · rintro t m ⟨a39, h, hF⟩
        refine wc_fit hF ?_
        clear hF
        subst qk40
        refine wc_seq ?_
        revert h
        refine opt_i fun y45 ey45 => ?_
        intro h
        refine wc_draw ?_
        refine ws_q1 _ (q_ld (p := [.ints .u64 5 (a39)]) rfl .here rfl) ?_
        refine ws_q1 _ (q_ld (p := [.ints .u64 5 (y16)]) rfl (.there (.there (.there .here))) rfl) ?_
        refine ws_q1 _ (q_ld (p := [.ints .u64 5 (y22)]) rfl (.there .here) rfl) ?_
        refine ws_q1 _ (q_ld (p := [.ints .u64 5 (a39)]) rfl .here rfl) ?_
        refine ws_q1 _ (q_ld (p := [.ints .u64 5 (y16)]) rfl (.there (.there (.there .here))) rfl) ?_
        refine ws_p1 _ (q_call (vs := [agg [.ints .u64 5 (a39)], agg [.ints .u64 5 (y16)]]) (v := agg [.ints .u64 5 (y45)]) rfl (fun w hw => field_Mul_spec (r := y45) (p0 := a39) (p1 := y16) ey45 )) ?_
        refine ws_p1 _ (q_bd (q := [.ints .u64 5 (a39), .ints .u64 5 (y16), .ints .u64 5 (y22), .ints .u64 5 (y45)]) (.agg rfl rfl rfl (.agg rfl rfl rfl (.agg rfl rfl rfl (.agg rfl rfl rfl BdR.nil))))) ?_
        refine ws_eL rfl (ef_st (q := [.ints .u64 5 (a39), .ints .u64 5 (y16), .ints .u64 5 (y22), .ints .u64 5 (y45)]) rfl rfl rfl rfl rfl (.there (.there (.there (.there .here)))) ?_)
        refine ws_p1 _ (q_mv rfl) ?_
        refine ws_nil ?_
        refine wc_ret ?_
        revert h; refine ret_i fun h => ?_
        subst h
        exact ⟨_, (.cons (.agg rfl (.there (.there (.there (.there .here)))) rfl) (.cons (.tmp rfl) .nil)), rfl⟩
/- farebox/scalar.minus -/
def scalar_minus_b1 (p1 : List Int) (k57 : (Int) → (List Int) → Option ((List Int) × Int)) (k89 : (Int) → (Int) → (List Int) → Option ((List Int) × Int)) (i86 : Int) (i87 : Int) (a88 : List Int) : Option ((List Int) × Int) :=
 br ((decide (i87 < 4))) (
 chk (inB i87 4) <|
 chk (inB i87 4) <|
 bnd (a88.getD (i87).toNat 0) fun z97 =>
 bnd (p1.getD (i87).toNat 0) fun z98 =>
 chk (subOk z97 z98 i86) <|
 bnd (subLo z97 z98 i86) fun z100 =>
 bnd (subHi z97 z98 i86) fun z101 =>
 chk (inB i87 4) <|
 bnd (setD a88 (i87).toNat z100) fun l103 =>
 bnd (IntKind.wrap .i64 (i87 + 1)) fun z105 =>
 k89 z101 z105 l103
 ) (
 k57 i86 a88
 )
def scalar_minus_l1 (p1 : List Int) (k57 : (Int) → (List Int) → Option ((List Int) × Int)) : Nat → (Int) → (Int) → (List Int) → Option ((List Int) × Int)
  | 0, _, _, _ => none
  | n + 1, i86, i87, a88 => scalar_minus_b1 p1 k57 (scalar_minus_l1 p1 k57 n) i86 i87 a88
def scalar_minus (p0 : List Int) (p1 : List Int) : Option ((List Int) × Int) :=
 jn (fun (i55 : Int) (a56 : List Int) => some (a56, i55)) fun k57 => scalar_minus_l1 p1 k57 big 0 0 p0
theorem scalar_minus_spec {W : World} {r : (List Int) × Int} {p0 : List Int} {p1 : List Int} (h : scalar_minus p0 p1 = some r)  :
    Calls Tryd.prog 43 [agg [.ints .u64 4 (p0)], agg [.ints .u64 4 (p1)]].toArray W (ret1 W (.tuple #[agg [.ints .u64 4 (r.1)], .int .u64 (r.2)])) := by
  unfold scalar_minus at h
  refine calls_val mo ok43 rfl ?_
  refine wc_seq ?_
  refine wc_ops ?_
  refine wj_e (ef_bx (s := [.ints .u64 4 (p0)]) rfl fun b2 hb2 => ?_)
  refine wj_e (ef_bx (s := [.ints .u64 4 (p1)]) rfl fun b3 hb3 => ?_)
  refine wj_e (ef_al fun b4 hb4 => ?_)
  refine wj_q _ (q_mv rfl) ?_
  refine wj_nil ?_
  refine wc_seq ?_
  refine wc_ops ?_
  refine wj_q _ (q_mv rfl) ?_
  refine wj_nil ?_
  refine wc_seq ?_
  refine wc_seq ?_
  refine wc_ops ?_
  refine wj_q _ (q_mv rfl) ?_
  refine wj_nil ?_
  revert h
  refine jn_i fun k57 qk57 => ?_
  intro h
  refine wc_mono2 (G := fun t m => ∃ (i55 : Int) (a56 : List Int), k57 i55 a56 = some r ∧ Fit [(2, .pointer (some ⟨b2, 0, none⟩)), (4, .pointer (some ⟨b4, 0, none⟩)), (6, .int .u64 (i55))] (ck b4 93 [.ints .u64 4 ((List.replicate 4 0))] :: (ck b3 93 [.ints .u64 4 (p1)] :: (ck b2 93 [.ints .u64 4 (a56)] :: []))) t m) ?_ ?_
  · refine wc_block ?_
    refine wc_loopJ (fun n90 t m => ∃ (i86 : Int) (i87 : Int) (a88 : List Int), scalar_minus_l1 p1 k57 n90 i86 i87 a88 = some r ∧ Fit [(2, .pointer (some ⟨b2, 0, none⟩)), (3, .pointer (some ⟨b3, 0, none⟩)), (4, .pointer (some ⟨b4, 0, none⟩)), (6, .int .u64 (i86)), (8, .int .i64 (i87))] (ck b4 93 [.ints .u64 4 ((List.replicate 4 0))] :: (ck b3 93 [.ints .u64 4 (p1)] :: (ck b2 93 [.ints .u64 4 (a88)] :: []))) t m) big ?_ ?_
    · exact ⟨0, 0, p0, h, ⟨⟨rfl, rfl, rfl, rfl, rfl, trivial⟩, (.one .here (.one .here (.one .here .nil)))⟩⟩
    · rintro n90 t m ⟨i86, i87, a88, h, hF⟩
      refine wc_fit hF ?_
      clear hF
      rcases n90 with _ | n90
      · exact none_i h
      have h : scalar_minus_b1 p1 k57 (scalar_minus_l1 p1 k57 n90) i86 i87 a88 = some r := h
      unfold scalar_minus_b1 at h
      obtain ⟨k89, qk89⟩ : ∃ k, k = scalar_minus_l1 p1 k57 n90 := ⟨_, rfl⟩
      try rw [← qk89] at h
      refine wc_seq ?_
      refine wc_ops ?_
      refine wj_q _ (q_bin rfl rfl rfl) ?_
      refine wj_nil ?_
      refine wc_seq ?_
      refine wc_if (c := (decide (i87 < 4))) rfl (fun d92 => ?_) (fun d92 => ?_)
      · have h := br_t h d92
        refine wc_skip ?_
        refine wc_seq ?_
        refine wc_block ?_
        refine wc_seq ?_
        refine wc_ops ?_
        refine wj_q _ (q_mv rfl) ?_
        refine wj_q _ (q_mv rfl) ?_
        refine wj_nil ?_
        revert h
        refine chk_i fun c95 => ?_
        refine chk_i fun c96 => ?_
        refine bnd_i fun z97 ez97 => ?_
        refine bnd_i fun z98 ez98 => ?_
        refine chk_i fun c99 => ?_
        refine bnd_i fun z100 ez100 => ?_
        refine bnd_i fun z101 ez101 => ?_
        refine chk_i fun c102 => ?_
        refine bnd_i fun l103 el103 => ?_
        intro h
        refine wc_draw ?_
        refine ws_p1 _ (q_mv rfl) ?_
        refine ws_p1 _ (q_mv rfl) ?_
        refine ws_p1 _ (q_ia rfl rfl (inB_z c95)) ?_
        refine ws_p1 _ (q_mv rfl) ?_
        refine ws_p1 _ (q_ia rfl rfl (inB_z c96)) ?_
        refine ws_p1 _ (q_mv rfl) ?_
        refine ws_q1 _ (iz ez97 (q_ldi (base := 0) rfl (.there (.there .here)) rfl (inB_n c95))) ?_
        refine ws_q1 _ (iz ez98 (q_ldi (base := 0) rfl (.there .here) rfl (inB_n c96))) ?_
        refine ws_p1 _ (q_xcall rfl ext_sub (xsub ez100 ez101 c99)) ?_
        refine ws_p1 _ (q_mv rfl) ?_
        refine ws_p1 _ (q_ext rfl rfl) ?_
        refine ws_p1 _ (q_ext rfl rfl) ?_
        refine ws_p1 _ (q_ia rfl rfl (inB_z c102)) ?_
        refine ws_eL rfl (ef_stiz (q := [.ints .u64 4 (l103)]) (base := 0) el103 rfl rfl rfl (inB_n c102) rfl (.there (.there .here)) ?_)
        refine ws_p1 _ (q_mv rfl) ?_
        refine ws_nil ?_
        revert h
        refine bnd_i fun z105 ez105 => ?_
        intro h
        refine wc_ops ?_
        refine wj_q _ (iz ez105 (q_bin rfl rfl rfl)) ?_
        refine wj_q _ (q_mv rfl) ?_
        refine wj_nil ?_
        rw [qk89] at h
        exact ⟨n90, Nat.lt_succ_self _, z101, z105, l103, h, ⟨⟨rfl, rfl, rfl, rfl, rfl, trivial⟩, (.one .here (.one .here (.one .here .nil)))⟩⟩
      · have h := br_f h d92
        refine wc_exit _ rfl ?_
        exact ⟨i86, a88, h, ⟨⟨rfl, rfl, rfl, trivial⟩, (.one .here (.one .here (.one .here .nil)))⟩⟩
  · rintro t m ⟨i55, a56, h, hF⟩
    refine wc_fit hF ?_
    clear hF
    subst qk57
    refine wc_seq ?_
    refine wc_ops ?_
    refine wj_q _ (q_ld (p := [.ints .u64 4 (a56)]) rfl (.there (.there .here)) rfl) ?_
    refine wj_q _ (q_mv rfl) ?_
    refine wj_e (ef_st (q := [.ints .u64 4 (a56)]) rfl rfl rfl rfl rfl .here ?_)
    refine wj_q _ (q_mv rfl) ?_
    refine wj_nil ?_
    refine wc_ret ?_
    revert h; refine ret_i fun h => ?_
    subst h
    exact ⟨_, (.cons (.agg rfl .here rfl) (.cons (.tmp rfl) .nil)), rfl⟩
/- farebox/bits.width[uint64] -/
def bits_width_uint64_b1 (k29 : (Int) → Option (Int)) (k45 : (Int) → (Int) → Option (Int)) (i43 : Int) (i44 : Int) : Option (Int) :=
 br ((i44 != 0)) (
 bnd (IntKind.wrap .i64 (i43 + 1)) fun z50 =>
 bnd (shrV .u64 i44 1) fun z52 =>
 k45 z50 z52
 ) (
 k29 i43
 )
def bits_width_uint64_l1 (k29 : (Int) → Option (Int)) : Nat → (Int) → (Int) → Option (Int)
  | 0, _, _ => none
  | n + 1, i43, i44 => bits_width_uint64_b1 k29 (bits_width_uint64_l1 k29 n) i43 i44
def bits_width_uint64  : Option (Int) :=
 bnd (bitsV .xor .u64 18446744073709551615 0) fun z4 =>
 jn (fun (i28 : Int) => some i28) fun k29 => bits_width_uint64_l1 k29 big 0 z4
theorem bits_width_uint64_spec {W : World} {r : Int} (h : bits_width_uint64  = some r)  :
    Calls Tryd.prog 103 [].toArray W (ret1 W (.int .i64 (r))) := by
  unfold bits_width_uint64 at h
  refine calls_val mo ok103 rfl ?_
  refine wc_seq ?_
  refine wc_ops ?_
  refine wj_q _ (q_mv rfl) ?_
  refine wj_nil ?_
  refine wc_seq ?_
  refine wc_ops ?_
  refine wj_q _ (q_mv rfl) ?_
  refine wj_nil ?_
  refine wc_seq ?_
  refine wc_seq ?_
  revert h
  refine bnd_i fun z4 ez4 => ?_
  intro h
  refine wc_ops ?_
  refine wj_q _ (q_conv rfl) ?_
  refine wj_q _ (iz ez4 (q_un rfl rfl)) ?_
  refine wj_q _ (q_mv rfl) ?_
  refine wj_nil ?_
  revert h
  refine jn_i fun k29 qk29 => ?_
  intro h
  refine wc_mono2 (G := fun t m => ∃ (i28 : Int), k29 i28 = some r ∧ Fit [(1, .int .i64 (i28))] [] t m) ?_ ?_
  · refine wc_block ?_
    refine wc_loopJ (fun n46 t m => ∃ (i43 : Int) (i44 : Int), bits_width_uint64_l1 k29 n46 i43 i44 = some r ∧ Fit [(1, .int .i64 (i43)), (2, .int .u64 (i44))] [] t m) big ?_ ?_
    · exact ⟨0, z4, h, ⟨⟨rfl, rfl, trivial⟩, .nil⟩⟩
    · rintro n46 t m ⟨i43, i44, h, hF⟩
      refine wc_fit hF ?_
      clear hF
      rcases n46 with _ | n46
      · exact none_i h
      have h : bits_width_uint64_b1 k29 (bits_width_uint64_l1 k29 n46) i43 i44 = some r := h
      unfold bits_width_uint64_b1 at h
      obtain ⟨k45, qk45⟩ : ∃ k, k = bits_width_uint64_l1 k29 n46 := ⟨_, rfl⟩
      try rw [← qk45] at h
      refine wc_seq ?_
      refine wc_seq ?_
      refine wc_ops ?_
      refine wj_q _ (q_mv rfl) ?_
      refine wj_q _ (q_bin rfl rfl rfl) ?_
      refine wj_nil ?_
      refine wc_if (c := (i44 != 0)) rfl (fun d48 => ?_) (fun d48 => ?_)
      · have h := br_t h d48
        refine wc_skip ?_
        refine wc_seq ?_
        refine wc_block ?_
        revert h
        refine bnd_i fun z50 ez50 => ?_
        intro h
        refine wc_ops ?_
        refine wj_q _ (q_mv rfl) ?_
        refine wj_q _ (iz ez50 (q_bin rfl rfl rfl)) ?_
        refine wj_q _ (q_mv rfl) ?_
        refine wj_nil ?_
        revert h
        refine bnd_i fun z52 ez52 => ?_
        intro h
        refine wc_ops ?_
        refine wj_q _ (q_mv rfl) ?_
        refine wj_q _ (iz ez52 (q_shr rfl rfl (by decide))) ?_
        refine wj_q _ (q_mv rfl) ?_
        refine wj_nil ?_
        rw [qk45] at h
        exact ⟨n46, Nat.lt_succ_self _, z50, z52, h, ⟨⟨rfl, rfl, trivial⟩, .nil⟩⟩
      · have h := br_f h d48
        refine wc_exit _ rfl ?_
        exact ⟨i43, h, ⟨⟨rfl, trivial⟩, .nil⟩⟩
  · rintro t m ⟨i28, h, hF⟩
    refine wc_fit hF ?_
    clear hF
    subst qk29
    refine wc_seq ?_
    refine wc_ops ?_
    refine wj_q _ (q_mv rfl) ?_
    refine wj_q _ (q_mv rfl) ?_
    refine wj_nil ?_
    refine wc_ret ?_
    revert h; refine ret_i fun h => ?_
    subst h
    exact ⟨_, (.cons (.tmp rfl) .nil), rfl⟩
/- farebox/bits.piece[uint64] -/
def bits_piece_uint64 (p0 : List Int) (p1 : Int) : Option ((Bool × List Int)) :=
 opt (bits_width_uint64) fun y3 =>
 bnd (IntKind.wrap .i64 (Int.tdiv y3 8)) fun z4 =>
 br (((decide (p1 < 0)) || (decide (p1 > IntKind.wrap .i64 ((p0.length : Int) - z4))))) (
 some (true, [])
 ) (
 bnd (IntKind.wrap .i64 (p1 + z4)) fun z9 =>
 chk (cutB p1 z9 p0.length) <|
 chk (decide (0 < ((p0.drop (p1).toNat).take ((z9).toNat - (p1).toNat)).length)) <|
 some (false, ((p0.drop (p1).toNat).take ((z9).toNat - (p1).toNat)))
 )
theorem bits_piece_uint64_spec {W : World} {r : (Bool × List Int)} {p0 : List Int} {p1 : Int} {v0 : Value} (h : bits_piece_uint64 p0 p1 = some r) (A0 : RdSl (El.int .u8) W v0 p0) :
    Calls Tryd.prog 97 [v0, .int .i64 (p1)].toArray W (retS W [] (fun v Ms => ∃ (u0 : Value), v = u0 ∧ Ms = [] ∧ Shp u0 (r.2).length ∧ isNilV u0 = r.1 ∧ (∀ W, RdSl (El.int .u8) W v0 p0 → RdSl (El.int .u8) W u0 r.2))) := by
  unfold bits_piece_uint64 at h
  refine calls_memT mo ok97 rfl (sat0 _) ?_
  refine wc_seq ?_
  refine wc_ops ?_
  refine wj_q _ (q_mv rfl) ?_
  refine wj_nil ?_
  refine wc_seq ?_
  revert h
  refine opt_i fun y3 ey3 => ?_
  refine bnd_i fun z4 ez4 => ?_
  intro h
  refine wc_ops ?_
  refine wj_q _ (q_call (vs := []) (v := .int .i64 (y3)) rfl (fun w hw => bits_width_uint64_spec (r := y3) ey3 )) ?_
  refine wj_q _ (iz ez4 (q_quo rfl rfl (by decide))) ?_
  refine wj_q _ (q_mv rfl) ?_
  refine wj_nil ?_
  refine wc_seq ?_
  refine wc_seq ?_
  refine wc_ops ?_
  refine wj_q _ (q_mv rfl) ?_
  refine wj_q _ (q_bin rfl rfl rfl) ?_
  refine wj_q _ (q_mv rfl) ?_
  refine wj_or rfl rfl rfl (fun hg1 => qj_g rfl _ (q_mv rfl) (qj_g rfl _ (q_mv rfl) (qj_g rfl _ (q_lenP rfl (Shp.rd A0)) (qj_g rfl _ (q_mv rfl) (qj_g rfl _ (iz rfl (q_bin rfl rfl rfl)) (qj_g rfl _ (q_bin rfl rfl rfl) (qj_nil))))))) (fun hg1 => rfl) rfl ?_
  refine wj_nil ?_
  refine wc_if (c := ((decide (p1 < 0)) || (decide (p1 > IntKind.wrap .i64 ((p0.length : Int) - z4))))) rfl (fun d6 => ?_) (fun d6 => ?_)
  · have h := br_t h d6
    refine wc_seq ?_
    refine wc_ops ?_
    refine wj_q _ (q_mv rfl) ?_
    refine wj_nil ?_
    refine wc_ret ?_
    revert h; refine ret_i fun h => ?_
    subst h
    exact ⟨_, _, (.cons (.tmp rfl) .nil), .nil, ⟨_, rfl, ⟨(.slice none 0 0), rfl, rfl, Shp.nil, rfl, view_nil⟩⟩⟩
  · have h := br_f h d6
    refine wc_skip ?_
    refine wc_seq ?_
    revert h
    refine bnd_i fun z9 ez9 => ?_
    refine chk_i fun c10 => ?_
    intro h
    refine wc_ops ?_
    refine wj_q _ (q_mv rfl) ?_
    refine wj_q _ (q_mv rfl) ?_
    refine wj_q _ (q_mv rfl) ?_
    refine wj_q _ (q_mv rfl) ?_
    refine wj_q _ (iz ez9 (q_bin rfl rfl rfl)) ?_
    refine wj_q _ (q_slsP (lz := p1) (hz := z9) rfl (Shp.rd A0) (.yes rfl) (.yes rfl) c10) ?_
    refine wj_q _ (q_mv rfl) ?_
    refine wj_nil ?_
    refine wc_ret ?_
    revert h
    refine chk_i fun c11 => ?_
    intro h
    revert h; refine ret_i fun h => ?_
    subst h
    exact ⟨_, _, (.cons (.tmp rfl) .nil), .nil, ⟨_, rfl, ⟨(cutSl 1 v0 (p1).toNat (z9).toNat), rfl, rfl, (Shp.cut (Shp.rd A0) (lz := p1) (hz := z9) c10), (Shp.notnil (Shp.cut (Shp.rd A0) (lz := p1) (hz := z9) c10) c11), (fun W A0 => (rdcut A0 (lz := p1) (hz := z9) c10))⟩⟩⟩
/- farebox/bits.LoadLE[uint64] -/
def bits_LoadLE_uint64_b1 (y4 : (Bool × List Int)) (k55 : (Int) → Option (Int × Bool)) (k83 : (Int) → (Int) → Option (Int × Bool)) (i81 : Int) (i82 : Int) : Option (Int × Bool) :=
 br ((decide (i82 < (y4.2.length : Int)))) (
 chk (inB i82 y4.2.length) <|
 bnd (y4.2.getD (i82).toNat 0) fun z89 =>
 bnd (IntKind.wrap .u64 z89) fun z91 =>
 bnd (IntKind.wrap .i64 (8 * i82)) fun z92 =>
 chk (decide (0 ≤ z92)) <|
 bnd (shlV .u64 z91 z92) fun z94 =>
 bnd (bitsV .or .u64 i81 z94) fun z95 =>
 bnd (IntKind.wrap .i64 (i82 + 1)) fun z97 =>
 k83 z95 z97
 ) (
 k55 i81
 )
def bits_LoadLE_uint64_l1 (y4 : (Bool × List Int)) (k55 : (Int) → Option (Int × Bool)) : Nat → (Int) → (Int) → Option (Int × Bool)
  | 0, _, _ => none
  | n + 1, i81, i82 => bits_LoadLE_uint64_b1 y4 k55 (bits_LoadLE_uint64_l1 y4 k55 n) i81 i82
def bits_LoadLE_uint64 (p0 : List Int) (p1 : Int) : Option (Int × Bool) :=
 opt (bits_piece_uint64 p0 p1) fun y4 =>
 jn (fun (i54 : Int) => some (i54, (!y4.1))) fun k55 => bits_LoadLE_uint64_l1 y4 k55 big 0 0
theorem bits_LoadLE_uint64_spec {W : World} {r : Int × Bool} {p0 : List Int} {p1 : Int} {v0 : Value} (h : bits_LoadLE_uint64 p0 p1 = some r) (A0 : RdSl (El.int .u8) W v0 p0) :
    Calls Tryd.prog 80 [v0, .int .i64 (p1)].toArray W (ret1 W (.tuple #[.int .u64 (r.1), .bool (r.2)])) := by
  unfold bits_LoadLE_uint64 at h
  refine calls_val mo ok80 rfl ?_
  refine wc_seq ?_
  refine wc_ops ?_
  refine wj_q _ (q_mv rfl) ?_
  refine wj_q _ (q_mv rfl) ?_
  refine wj_nil ?_
  refine wc_seq ?_
  refine wc_ops ?_
  refine wj_q _ (q_mv rfl) ?_
  refine wj_nil ?_
  refine wc_seq ?_
  revert h
  refine opt_i fun y4 ey4 => ?_
  intro h
  refine wc_ops ?_
  refine wj_q _ (q_mv rfl) ?_
  refine wj_q _ (q_mv rfl) ?_
  refine wj_e (ef_callS0 rfl (fun w hw => bits_piece_uint64_spec (r := y4) (p0 := p0) (p1 := p1) ey4 ((rd_arg A0 apart0) w hw)) fun v5 Msv5 R6 => ?_)
  obtain ⟨_, rfl, rfl, P10, N8, H9⟩ := R6
  refine wj_q _ (q_mv rfl) ?_
  refine wj_nil ?_
  refine wc_seq ?_
  refine wc_seq ?_
  refine wc_ops ?_
  refine wj_q _ (q_mv rfl) ?_
  refine wj_q _ (q_lenP rfl P10) ?_
  refine wj_q _ (q_mv rfl) ?_
  refine wj_nil ?_
  revert h
  refine jn_i fun k55 qk55 => ?_
  intro h
  refine wc_mono2 (G := fun t m => ∃ (i54 : Int), k55 i54 = some r ∧ Fit [(6, .int .u64 (i54)), (7, v5)] [] t m) ?_ ?_
  · refine wc_block ?_
    refine wc_loopJ (fun n84 t m => ∃ (i81 : Int) (i82 : Int), bits_LoadLE_uint64_l1 y4 k55 n84 i81 i82 = some r ∧ Fit [(6, .int .u64 (i81)), (7, v5), (13, v5), (14, .int .i64 ((y4.2.length : Int))), (15, .int .i64 (i82))] [] t m) big ?_ ?_
    · exact ⟨0, 0, h, ⟨⟨rfl, rfl, rfl, rfl, rfl, trivial⟩, .nil⟩⟩
    · rintro n84 t m ⟨i81, i82, h, hF⟩
      refine wc_fit hF ?_
      clear hF
      rcases n84 with _ | n84
      · exact none_i h
      have h : bits_LoadLE_uint64_b1 y4 k55 (bits_LoadLE_uint64_l1 y4 k55 n84) i81 i82 = some r := h
      unfold bits_LoadLE_uint64_b1 at h
      obtain ⟨k83, qk83⟩ : ∃ k, k = bits_LoadLE_uint64_l1 y4 k55 n84 := ⟨_, rfl⟩
      try rw [← qk83] at h
      refine wc_seq ?_
      refine wc_ops ?_
      refine wj_q _ (q_bin rfl rfl rfl) ?_
      refine wj_nil ?_
      refine wc_seq ?_
      refine wc_if (c := (decide (i82 < (y4.2.length : Int)))) rfl (fun d86 => ?_) (fun d86 => ?_)
      · have h := br_t h d86
        refine wc_skip ?_
        refine wc_seq ?_
        refine wc_block ?_
        refine wc_seq ?_
        revert h
        refine chk_i fun c88 => ?_
        refine bnd_i fun z89 ez89 => ?_
        intro h
        refine wc_ops ?_
        refine wj_q _ (q_mv rfl) ?_
        refine wj_q _ (q_iasP rfl rfl P10 c88) ?_
        refine wj_q _ (iz ez89 (q_ldM10 (E := (El.int .u8)) (s := [.one (.int .u8 (y4.2.getD (i82).toNat 0))]) rfl (rd_view H9 (rd_arg A0 apart0)) (inB_n c88) rfl rfl)) ?_
        refine wj_q _ (q_mv rfl) ?_
        refine wj_q _ (q_mv rfl) ?_
        refine wj_nil ?_
        revert h
        refine bnd_i fun z91 ez91 => ?_
        refine bnd_i fun z92 ez92 => ?_
        refine chk_i fun c93 => ?_
        refine bnd_i fun z94 ez94 => ?_
        refine bnd_i fun z95 ez95 => ?_
        intro h
        refine wc_ops ?_
        refine wj_q _ (q_mv rfl) ?_
        refine wj_q _ (q_mv rfl) ?_
        refine wj_q _ (iz ez91 (q_conv rfl)) ?_
        refine wj_q _ (q_mv rfl) ?_
        refine wj_q _ (iz ez92 (q_bin rfl rfl rfl)) ?_
        refine wj_q _ (iz ez94 (q_shl rfl rfl (of_decide_eq_true c93))) ?_
        refine wj_q _ (iz ez95 (q_bin rfl rfl rfl)) ?_
        refine wj_q _ (q_mv rfl) ?_
        refine wj_nil ?_
        revert h
        refine bnd_i fun z97 ez97 => ?_
        intro h
        refine wc_ops ?_
        refine wj_q _ (iz ez97 (q_bin rfl rfl rfl)) ?_
        refine wj_q _ (q_mv rfl) ?_
        refine wj_nil ?_
        rw [qk83] at h
        exact ⟨n84, Nat.lt_succ_self _, z95, z97, h, ⟨⟨rfl, rfl, rfl, rfl, rfl, trivial⟩, .nil⟩⟩
      · have h := br_f h d86
        refine wc_exit _ rfl ?_
        exact ⟨i81, h, ⟨⟨rfl, rfl, trivial⟩, .nil⟩⟩
  · rintro t m ⟨i54, h, hF⟩
    refine wc_fit hF ?_
    clear hF
    subst qk55
    refine wc_seq ?_
    refine wc_ops ?_
    refine wj_q _ (q_mv rfl) ?_
    refine wj_q _ (q_mv rfl) ?_
    refine wj_q _ (q_isnP rfl P10 N8) ?_
    refine wj_q _ (q_mv rfl) ?_
    refine wj_q _ (q_mv rfl) ?_
    refine wj_nil ?_
    refine wc_ret ?_
    revert h; refine ret_i fun h => ?_
    subst h
    exact ⟨_, (.cons (.tmp rfl) (.cons (.tmp rfl) .nil)), rfl⟩
/- farebox/scalar.load -/
def scalar_load_b1 (p0 : List Int) (k40 : (List Int) → Option ((List Int))) (k61 : (Int) → (List Int) → Option ((List Int))) (i59 : Int) (a60 : List Int) : Option ((List Int)) :=
 br ((decide (i59 < 4))) (
 bnd (IntKind.wrap .i64 (8 * i59)) fun z67 =>
 opt (bits_LoadLE_uint64 (tk p0 0 32) z67) fun y68 =>
 chk (inB i59 4) <|
 bnd (setD a60 (i59).toNat y68.1) fun l70 =>
 bnd (IntKind.wrap .i64 (i59 + 1)) fun z72 =>
 k61 z72 l70
 ) (
 k40 a60
 )
def scalar_load_l1 (p0 : List Int) (k40 : (List Int) → Option ((List Int))) : Nat → (Int) → (List Int) → Option ((List Int))
  | 0, _, _ => none
  | n + 1, i59, a60 => scalar_load_b1 p0 k40 (scalar_load_l1 p0 k40 n) i59 a60
def scalar_load (p0 : List Int) : Option ((List Int)) :=
 jn (fun (a39 : List Int) => some a39) fun k40 => scalar_load_l1 p0 k40 big 0 (List.replicate 4 0)
theorem scalar_load_spec {W : World} {r : (List Int)} {p0 : List Int} (h : scalar_load p0 = some r)  :
    Calls Tryd.prog 44 [agg [.ints .u8 32 (p0)]].toArray W (ret1 W (agg [.ints .u64 4 (r)])) := by
  unfold scalar_load at h
  refine calls_val mo ok44 rfl ?_
  refine wc_seq ?_
  refine wc_ops ?_
  refine wj_e (ef_bx (s := [.ints .u8 32 (p0)]) rfl fun b2 hb2 => ?_)
  refine wj_e (ef_al fun b3 hb3 => ?_)
  refine wj_nil ?_
  refine wc_seq ?_
  refine wc_ops ?_
  refine wj_e (ef_al fun b5 hb5 => ?_)
  refine wj_nil ?_
  refine wc_seq ?_
  refine wc_seq ?_
  refine wc_ops ?_
  refine wj_q _ (q_mv rfl) ?_
  refine wj_nil ?_
  revert h
  refine jn_i fun k40 qk40 => ?_
  intro h
  refine wc_mono2 (G := fun t m => ∃ (a39 : List Int), k40 a39 = some r ∧ Fit [(2, .pointer (some ⟨b3, 0, none⟩)), (3, .pointer (some ⟨b5, 0, none⟩))] (ck b5 93 [.ints .u64 4 (a39)] :: (ck b3 93 [.ints .u64 4 ((List.replicate 4 0))] :: (ck b2 63 [.ints .u8 32 (p0)] :: []))) t m) ?_ ?_
  · refine wc_block ?_
    refine wc_loopJ (fun n62 t m => ∃ (i59 : Int) (a60 : List Int), scalar_load_l1 p0 k40 n62 i59 a60 = some r ∧ Fit [(1, .pointer (some ⟨b2, 0, none⟩)), (2, .pointer (some ⟨b3, 0, none⟩)), (3, .pointer (some ⟨b5, 0, none⟩)), (5, .int .i64 (i59))] (ck b5 93 [.ints .u64 4 (a60)] :: (ck b3 93 [.ints .u64 4 ((List.replicate 4 0))] :: (ck b2 63 [.ints .u8 32 (p0)] :: []))) t m) big ?_ ?_
    · exact ⟨0, (List.replicate 4 0), h, ⟨⟨rfl, rfl, rfl, rfl, trivial⟩, (.one .here (.one .here (.one .here .nil)))⟩⟩
    · rintro n62 t m ⟨i59, a60, h, hF⟩
      refine wc_fit hF ?_
      clear hF
      rcases n62 with _ | n62
      · exact none_i h
      have h : scalar_load_b1 p0 k40 (scalar_load_l1 p0 k40 n62) i59 a60 = some r := h
      unfold scalar_load_b1 at h
      obtain ⟨k61, qk61⟩ : ∃ k, k = scalar_load_l1 p0 k40 n62 := ⟨_, rfl⟩
      try rw [← qk61] at h
      refine wc_seq ?_
      refine wc_ops ?_
      refine wj_q _ (q_bin rfl rfl rfl) ?_
      refine wj_nil ?_
      refine wc_seq ?_
      refine wc_if (c := (decide (i59 < 4))) rfl (fun d64 => ?_) (fun d64 => ?_)
      · have h := br_t h d64
        refine wc_skip ?_
        refine wc_seq ?_
        refine wc_block ?_
        refine wc_seq ?_
        refine wc_ops ?_
        refine wj_q _ (q_mv rfl) ?_
        refine wj_q _ (q_mv rfl) ?_
        refine wj_nil ?_
        revert h
        refine bnd_i fun z67 ez67 => ?_
        refine opt_i fun y68 ey68 => ?_
        refine chk_i fun c69 => ?_
        refine bnd_i fun l70 el70 => ?_
        intro h
        refine wc_ops ?_
        refine wj_q _ (q_mv rfl) ?_
        refine wj_q _ (q_sla rfl .no .no .no (by simp) (by decide)) ?_
        refine wj_q _ (q_mv rfl) ?_
        refine wj_q _ (iz ez67 (q_bin rfl rfl rfl)) ?_
        refine wj_q _ (q_call (vs := [(.slice (some (slAddr b2 0 0 32 1)) (32 - 0) (32 - 0)), .int .i64 (z67)]) (v := .tuple #[.int .u64 (y68.1), .bool (y68.2)]) rfl (fun w hw => bits_LoadLE_uint64_spec (r := y68) (p0 := (tk p0 0 32)) (p1 := z67) ey68 ((rd_blk_i (s := [.ints .u8 32 (p0)]) (N := 32) (k := .u8) (base := 0) (lo := 0) (hi := 32) (mz := 32) (.there (.there .here)) rfl (by decide)) w hw))) ?_
        refine wj_q _ (q_mv rfl) ?_
        refine wj_q _ (q_ext rfl rfl) ?_
        refine wj_q _ (q_ext rfl rfl) ?_
        refine wj_q _ (q_ia rfl rfl (inB_z c69)) ?_
        refine wj_e (ef_stiz (q := [.ints .u64 4 (l70)]) (base := 0) el70 rfl rfl rfl (inB_n c69) rfl .here ?_)
        refine wj_nil ?_
        revert h
        refine bnd_i fun z72 ez72 => ?_
        intro h
        refine wc_ops ?_
        refine wj_q _ (iz ez72 (q_bin rfl rfl rfl)) ?_
        refine wj_q _ (q_mv rfl) ?_
        refine wj_nil ?_
        rw [qk61] at h
        exact ⟨n62, Nat.lt_succ_self _, z72, l70, h, ⟨⟨rfl, rfl, rfl, rfl, trivial⟩, (.one .here (.one .here (.one .here .nil)))⟩⟩
      · have h := br_f h d64
        refine wc_exit _ rfl ?_
        exact ⟨a60, h, ⟨⟨rfl, rfl, trivial⟩, (.one .here (.one .here (.one .here .nil)))⟩⟩
  · rintro t m ⟨a39, h, hF⟩
    refine wc_fit hF ?_
    clear hF
    subst qk40
    refine wc_seq ?_
    refine wc_ops ?_
    refine wj_q _ (q_ld (p := [.ints .u64 4 (a39)]) rfl .here rfl) ?_
    refine wj_e (ef_st (q := [.ints .u64 4 (a39)]) rfl rfl rfl rfl rfl (.there .here) ?_)
    refine wj_nil ?_
    refine wc_ret ?_
    revert h; refine ret_i fun h => ?_
    subst h
    exact ⟨_, (.cons (.agg rfl (.there .here) rfl) .nil), rfl⟩
/- farebox/scalar.Canonical -/
def scalar_Canonical (p0 : List Int) : Option (Bool) :=
 opt (scalar_load p0) fun y4 =>
 opt (scalar_minus y4 G_order) fun y5 =>
 some (y5.2 == 1)
theorem scalar_Canonical_spec {W : World} {r : Bool} {p0 : List Int} (h : scalar_Canonical p0 = some r) (hG : Globs W) :
    Calls Tryd.prog 19 [agg [.ints .u8 32 (p0)]].toArray W (ret1 W (.bool (r))) := by
  unfold scalar_Canonical at h
  refine calls_val mo ok19 rfl ?_
  refine wc_seq ?_
  refine wc_ops ?_
  refine wj_e (ef_bx (s := [.ints .u8 32 (p0)]) rfl fun b2 hb2 => ?_)
  refine wj_q _ (q_mv rfl) ?_
  refine wj_nil ?_
  refine wc_seq ?_
  revert h
  refine opt_i fun y4 ey4 => ?_
  refine opt_i fun y5 ey5 => ?_
  intro h
  refine wc_draw ?_
  refine ws_q1 _ (q_ld (p := [.ints .u8 32 (p0)]) rfl .here rfl) ?_
  refine ws_p1 _ (q_call (vs := [agg [.ints .u8 32 (p0)]]) (v := agg [.ints .u64 4 (y4)]) rfl (fun w hw => scalar_load_spec (r := y4) (p0 := p0) ey4 )) ?_
  refine ws_q1 _ (q_mem (o0 := 0) (off := 0) rfl (hG.g0) (by simp) rfl) ?_
  refine ws_p1 _ (q_call (vs := [agg [.ints .u64 4 (y4)], agg [.ints .u64 4 (G_order)]]) (v := .tuple #[agg [.ints .u64 4 (y5.1)], .int .u64 (y5.2)]) rfl (fun w hw => scalar_minus_spec (r := y5) (p0 := y4) (p1 := G_order) ey5 )) ?_
  refine ws_p1 _ (q_mv rfl) ?_
  refine ws_p1 _ (q_ext rfl rfl) ?_
  refine ws_p1 _ (q_ext rfl rfl) ?_
  refine ws_e1 (ef_al fun b6 hb6 => ⟨(by repeat (first | exact Sup.refl _ | apply Sup.cons | apply Sup.app)), ?_⟩)
  refine ws_eL rfl (ef_st (q := [.ints .u64 4 (y5.1)]) rfl rfl rfl rfl rfl .here ?_)
  refine ws_p1 _ (q_mv rfl) ?_
  refine ws_nil ?_
  refine wc_seq ?_
  refine wc_ops ?_
  refine wj_q _ (q_mv rfl) ?_
  refine wj_q _ (q_bin rfl rfl rfl) ?_
  refine wj_q _ (q_mv rfl) ?_
  refine wj_nil ?_
  refine wc_ret ?_
  revert h; refine ret_i fun h => ?_
  subst h
  exact ⟨_, (.cons (.tmp rfl) .nil), rfl⟩
/- farebox/sha512.New -/
structure sha512_Digest where
  gstate : List Int
  gheld : List Int
  ghave : Int
  glength : Int
def sha512_Digest_z : sha512_Digest := ⟨(List.replicate 8 0), (List.replicate 128 0), 0, 0⟩
def sha512_New  : Option (sha512_Digest) :=
 some (⟨G_first, (List.replicate 128 0), 0, 0⟩ : sha512_Digest)
theorem sha512_New_spec {W : World} {r : sha512_Digest} (h : sha512_New  = some r) (hG : Globs W) :
    Calls Tryd.prog 45 [].toArray W (retS W [] (fun v Ms => ∃ (b0 : Nat) (T0 : TypeId), v = .pointer (some ⟨b0, 0, none⟩) ∧ Ms = [.one (ck b0 T0 [.ints .u64 8 (r.gstate), .ints .u8 128 (r.gheld), .one (.int .i64 (r.ghave)), .one (.int .u64 (r.glength))])])) := by
  unfold sha512_New at h
  refine calls_memT mo ok45 rfl (sat0 _) ?_
  refine wc_seq ?_
  refine wc_ops ?_
  refine wj_q _ (q_mv rfl) ?_
  refine wj_nil ?_
  refine wc_seq ?_
  refine wc_ops ?_
  refine wj_q _ (q_mem (o0 := 0) (off := 0) rfl (hG.g1) (by simp) rfl) ?_
  refine wj_q _ (q_bd (q := [.ints .u64 8 (G_first), .ints .u8 128 ((List.replicate 128 0)), .one (.int .i64 (0)), .one (.int .u64 (0))]) (.agg rfl rfl rfl BdR.nil)) ?_
  refine wj_e (ef_bx (s := [.ints .u64 8 (G_first), .ints .u8 128 ((List.replicate 128 0)), .one (.int .i64 (0)), .one (.int .u64 (0))]) rfl fun b3 hb3 => ?_)
  refine wj_q _ (q_mv rfl) ?_
  refine wj_nil ?_
  refine wc_ret ?_
  revert h; refine ret_i fun h => ?_
  subst h
  exact ⟨_, _, (.cons (.tmp rfl) .nil), (.one .here .nil), ⟨_, rfl, ⟨b3, 138, rfl, rfl⟩⟩⟩
/- farebox/bits.LoadBE[uint64] -/
def bits_LoadBE_uint64_b1 (y4 : (Bool × List Int)) (k50 : (Int) → Option (Int × Bool)) (k75 : (Int) → (Int) → Option (Int × Bool)) (i73 : Int) (i74 : Int) : Option (Int × Bool) :=
 br ((decide (i74 < (y4.2.length : Int)))) (
 chk (inB i74 y4.2.length) <|
 bnd (y4.2.getD (i74).toNat 0) fun z81 =>
 bnd (shlV .u64 i73 8) fun z83 =>
 bnd (IntKind.wrap .u64 z81) fun z84 =>
 bnd (bitsV .or .u64 z83 z84) fun z85 =>
 bnd (IntKind.wrap .i64 (i74 + 1)) fun z87 =>
 k75 z85 z87
 ) (
 k50 i73
 )
def bits_LoadBE_uint64_l1 (y4 : (Bool × List Int)) (k50 : (Int) → Option (Int × Bool)) : Nat → (Int) → (Int) → Option (Int × Bool)
  | 0, _, _ => none
  | n + 1, i73, i74 => bits_LoadBE_uint64_b1 y4 k50 (bits_LoadBE_uint64_l1 y4 k50 n) i73 i74
def bits_LoadBE_uint64 (p0 : List Int) (p1 : Int) : Option (Int × Bool) :=
 opt (bits_piece_uint64 p0 p1) fun y4 =>
 jn (fun (i49 : Int) => some (i49, (!y4.1))) fun k50 => bits_LoadBE_uint64_l1 y4 k50 big 0 0
theorem bits_LoadBE_uint64_spec {W : World} {r : Int × Bool} {p0 : List Int} {p1 : Int} {v0 : Value} (h : bits_LoadBE_uint64 p0 p1 = some r) (A0 : RdSl (El.int .u8) W v0 p0) :
    Calls Tryd.prog 105 [v0, .int .i64 (p1)].toArray W (ret1 W (.tuple #[.int .u64 (r.1), .bool (r.2)])) := by
  unfold bits_LoadBE_uint64 at h
  refine calls_val mo ok105 rfl ?_
  refine wc_seq ?_
  refine wc_ops ?_
  refine wj_q _ (q_mv rfl) ?_
  refine wj_q _ (q_mv rfl) ?_
  refine wj_nil ?_
  refine wc_seq ?_
  refine wc_ops ?_
  refine wj_q _ (q_mv rfl) ?_
  refine wj_nil ?_
  refine wc_seq ?_
  revert h
  refine opt_i fun y4 ey4 => ?_
  intro h
  refine wc_ops ?_
  refine wj_q _ (q_mv rfl) ?_
  refine wj_q _ (q_mv rfl) ?_
  refine wj_e (ef_callS0 rfl (fun w hw => bits_piece_uint64_spec (r := y4) (p0 := p0) (p1 := p1) ey4 ((rd_arg A0 apart0) w hw)) fun v5 Msv5 R6 => ?_)
  obtain ⟨_, rfl, rfl, P10, N8, H9⟩ := R6
  refine wj_q _ (q_mv rfl) ?_
  refine wj_nil ?_
  refine wc_seq ?_
  refine wc_seq ?_
  refine wc_ops ?_
  refine wj_q _ (q_mv rfl) ?_
  refine wj_q _ (q_lenP rfl P10) ?_
  refine wj_q _ (q_mv rfl) ?_
  refine wj_nil ?_
  revert h
  refine jn_i fun k50 qk50 => ?_
  intro h
  refine wc_mono2 (G := fun t m => ∃ (i49 : Int), k50 i49 = some r ∧ Fit [(6, .int .u64 (i49)), (7, v5)] [] t m) ?_ ?_
  · refine wc_block ?_
    refine wc_loopJ (fun n76 t m => ∃ (i73 : Int) (i74 : Int), bits_LoadBE_uint64_l1 y4 k50 n76 i73 i74 = some r ∧ Fit [(6, .int .u64 (i73)), (7, v5), (13, v5), (14, .int .i64 ((y4.2.length : Int))), (15, .int .i64 (i74))] [] t m) big ?_ ?_
    · exact ⟨0, 0, h, ⟨⟨rfl, rfl, rfl, rfl, rfl, trivial⟩, .nil⟩⟩
    · rintro n76 t m ⟨i73, i74, h, hF⟩
      refine wc_fit hF ?_
      clear hF
      rcases n76 with _ | n76
      · exact none_i h
      have h : bits_LoadBE_uint64_b1 y4 k50 (bits_LoadBE_uint64_l1 y4 k50 n76) i73 i74 = some r := h
      unfold bits_LoadBE_uint64_b1 at h
      obtain ⟨k75, qk75⟩ : ∃ k, k = bits_LoadBE_uint64_l1 y4 k50 n76 := ⟨_, rfl⟩
      try rw [← qk75] at h
      refine wc_seq ?_
      refine wc_ops ?_
      refine wj_q _ (q_bin rfl rfl rfl) ?_
      refine wj_nil ?_
      refine wc_seq ?_
      refine wc_if (c := (decide (i74 < (y4.2.length : Int)))) rfl (fun d78 => ?_) (fun d78 => ?_)
      · have h := br_t h d78
        refine wc_skip ?_
        refine wc_seq ?_
        refine wc_block ?_
        refine wc_seq ?_
        revert h
        refine chk_i fun c80 => ?_
        refine bnd_i fun z81 ez81 => ?_
        intro h
        refine wc_ops ?_
        refine wj_q _ (q_iasP rfl rfl P10 c80) ?_
        refine wj_q _ (iz ez81 (q_ldM10 (E := (El.int .u8)) (s := [.one (.int .u8 (y4.2.getD (i74).toNat 0))]) rfl (rd_view H9 (rd_arg A0 apart0)) (inB_n c80) rfl rfl)) ?_
        refine wj_q _ (q_mv rfl) ?_
        refine wj_nil ?_
        revert h
        refine bnd_i fun z83 ez83 => ?_
        refine bnd_i fun z84 ez84 => ?_
        refine bnd_i fun z85 ez85 => ?_
        intro h
        refine wc_ops ?_
        refine wj_q _ (q_mv rfl) ?_
        refine wj_q _ (iz ez83 (q_shl rfl rfl (by decide))) ?_
        refine wj_q _ (q_mv rfl) ?_
        refine wj_q _ (iz ez84 (q_conv rfl)) ?_
        refine wj_q _ (iz ez85 (q_bin rfl rfl rfl)) ?_
        refine wj_q _ (q_mv rfl) ?_
        refine wj_nil ?_
        revert h
        refine bnd_i fun z87 ez87 => ?_
        intro h
        refine wc_ops ?_
        refine wj_q _ (iz ez87 (q_bin rfl rfl rfl)) ?_
        refine wj_q _ (q_mv rfl) ?_
        refine wj_nil ?_
        rw [qk75] at h
        exact ⟨n76, Nat.lt_succ_self _, z85, z87, h, ⟨⟨rfl, rfl, rfl, rfl, rfl, trivial⟩, .nil⟩⟩
      · have h := br_f h d78
        refine wc_exit _ rfl ?_
        exact ⟨i73, h, ⟨⟨rfl, rfl, trivial⟩, .nil⟩⟩
  · rintro t m ⟨i49, h, hF⟩
    refine wc_fit hF ?_
    clear hF
    subst qk50
    refine wc_seq ?_
    refine wc_ops ?_
    refine wj_q _ (q_mv rfl) ?_
    refine wj_q _ (q_mv rfl) ?_
    refine wj_q _ (q_isnP rfl P10 N8) ?_
    refine wj_q _ (q_mv rfl) ?_
    refine wj_q _ (q_mv rfl) ?_
    refine wj_nil ?_
    refine wc_ret ?_
    revert h; refine ret_i fun h => ?_
    subst h
    exact ⟨_, (.cons (.tmp rfl) (.cons (.tmp rfl) .nil)), rfl⟩
end Go.Proofs.YtiflckckekjbnaaDoor
/- Mirrors. -/
namespace Go.Proofs.YtiflckckekjbnaaDoor
open Go Go.Sx Go.RowKit
set_option linter.all false
set_option maxHeartbeats 400000
set_option maxRecDepth 100000
/- farebox/bits.RotR[uint64] -/
def bits_RotR_uint64 (p0 : Int) (p1 : Int) : Option (Int) :=
 opt (bits_width_uint64) fun y3 =>
 bnd (IntKind.wrap .u64 p1) fun z5 =>
 bnd (IntKind.wrap .i64 (y3 - 1)) fun z6 =>
 bnd (IntKind.wrap .u64 z6) fun z7 =>
 bnd (bitsV .and .u64 z5 z7) fun z8 =>
 chk (decide (0 ≤ z8)) <|
 bnd (shrV .u64 p0 z8) fun z11 =>
 bnd (IntKind.wrap .u64 y3) fun z12 =>
 bnd (IntKind.wrap .u64 (z12 - z8)) fun z13 =>
 chk (decide (0 ≤ z13)) <|
 bnd (shlV .u64 p0 z13) fun z15 =>
 bnd (bitsV .or .u64 z11 z15) fun z16 =>
 some z16
theorem bits_RotR_uint64_spec {W : World} {r : Int} {p0 : Int} {p1 : Int} (h : bits_RotR_uint64 p0 p1 = some r)  :
    Calls Tryd.prog 107 [.int .u64 (p0), .int .i64 (p1)].toArray W (ret1 W (.int .u64 (r))) := by
  unfold bits_RotR_uint64 at h
  refine calls_val mo ok107 rfl ?_
  refine wc_seq ?_
  refine wc_ops ?_
  refine wj_q _ (q_mv rfl) ?_
  refine wj_nil ?_
  refine wc_seq ?_
  revert h
  refine opt_i fun y3 ey3 => ?_
  intro h
  refine wc_ops ?_
  refine wj_q _ (q_call (vs := []) (v := .int .i64 (y3)) rfl (fun w hw => bits_width_uint64_spec (r := y3) ey3 )) ?_
  refine wj_q _ (q_mv rfl) ?_
  refine wj_nil ?_
  refine wc_seq ?_
  revert h
  refine bnd_i fun z5 ez5 => ?_
  refine bnd_i fun z6 ez6 => ?_
  refine bnd_i fun z7 ez7 => ?_
  refine bnd_i fun z8 ez8 => ?_
  intro h
  refine wc_ops ?_
  refine wj_q _ (q_mv rfl) ?_
  refine wj_q _ (iz ez5 (q_conv rfl)) ?_
  refine wj_q _ (q_mv rfl) ?_
  refine wj_q _ (iz ez6 (q_bin rfl rfl rfl)) ?_
  refine wj_q _ (iz ez7 (q_conv rfl)) ?_
  refine wj_q _ (iz ez8 (q_bin rfl rfl rfl)) ?_
  refine wj_q _ (q_mv rfl) ?_
  refine wj_nil ?_
  refine wc_seq ?_
  revert h
  refine chk_i fun c10 => ?_
  refine bnd_i fun z11 ez11 => ?_
  refine bnd_i fun z12 ez12 => ?_
  refine bnd_i fun z13 ez13 => ?_
  refine chk_i fun c14 => ?_
  refine bnd_i fun z15 ez15 => ?_
  refine bnd_i fun z16 ez16 => ?_
  intro h
  refine wc_ops ?_
  refine wj_q _ (q_mv rfl) ?_
  refine wj_q _ (q_mv rfl) ?_
  refine wj_q _ (iz ez11 (q_shr rfl rfl (of_decide_eq_true c10))) ?_
  refine wj_q _ (q_mv rfl) ?_
  refine wj_q _ (q_mv rfl) ?_
  refine wj_q _ (iz ez12 (q_conv rfl)) ?_
  refine wj_q _ (q_mv rfl) ?_
  refine wj_q _ (iz ez13 (q_bin rfl rfl rfl)) ?_
  refine wj_q _ (iz ez15 (q_shl rfl rfl (of_decide_eq_true c14))) ?_
  refine wj_q _ (iz ez16 (q_bin rfl rfl rfl)) ?_
  refine wj_q _ (q_mv rfl) ?_
  refine wj_nil ?_
  refine wc_ret ?_
  revert h; refine ret_i fun h => ?_
  subst h
  exact ⟨_, (.cons (.tmp rfl) .nil), rfl⟩
/- farebox/sha512.bend -/
def sha512_bend (p0 : Int) (p1 : Int) (p2 : Int) (p3 : Int) : Option (Int) :=
 opt (bits_RotR_uint64 p0 p1) fun y3 =>
 opt (bits_RotR_uint64 p0 p2) fun y4 =>
 bnd (bitsV .xor .u64 y3 y4) fun z5 =>
 chk (decide (0 ≤ p3)) <|
 bnd (shrV .u64 p0 p3) fun z7 =>
 bnd (bitsV .xor .u64 z5 z7) fun z8 =>
 some z8
theorem sha512_bend_spec {W : World} {r : Int} {p0 : Int} {p1 : Int} {p2 : Int} {p3 : Int} (h : sha512_bend p0 p1 p2 p3 = some r)  :
    Calls Tryd.prog 106 [.int .u64 (p0), .int .i64 (p1), .int .i64 (p2), .int .i64 (p3)].toArray W (ret1 W (.int .u64 (r))) := by
  unfold sha512_bend at h
  refine calls_val mo ok106 rfl ?_
  refine wc_seq ?_
  refine wc_ops ?_
  refine wj_q _ (q_mv rfl) ?_
  refine wj_nil ?_
  refine wc_seq ?_
  revert h
  refine opt_i fun y3 ey3 => ?_
  refine opt_i fun y4 ey4 => ?_
  refine bnd_i fun z5 ez5 => ?_
  refine chk_i fun c6 => ?_
  refine bnd_i fun z7 ez7 => ?_
  refine bnd_i fun z8 ez8 => ?_
  intro h
  refine wc_draw ?_
  refine ws_p1 _ (q_mv rfl) ?_
  refine ws_p1 _ (q_mv rfl) ?_
  refine ws_p1 _ (q_call (vs := [.int .u64 (p0), .int .i64 (p1)]) (v := .int .u64 (y3)) rfl (fun w hw => bits_RotR_uint64_spec (r := y3) (p0 := p0) (p1 := p1) ey3 )) ?_
  refine ws_p1 _ (q_mv rfl) ?_
  refine ws_p1 _ (q_mv rfl) ?_
  refine ws_p1 _ (q_call (vs := [.int .u64 (p0), .int .i64 (p2)]) (v := .int .u64 (y4)) rfl (fun w hw => bits_RotR_uint64_spec (r := y4) (p0 := p0) (p1 := p2) ey4 )) ?_
  refine ws_p1 _ (iz ez5 (q_bin rfl rfl rfl)) ?_
  refine ws_p1 _ (q_mv rfl) ?_
  refine ws_p1 _ (q_mv rfl) ?_
  refine ws_p1 _ (iz ez7 (q_shr rfl rfl (of_decide_eq_true c6))) ?_
  refine ws_p1 _ (iz ez8 (q_bin rfl rfl rfl)) ?_
  refine ws_p1 _ (q_mv rfl) ?_
  refine ws_nil ?_
  refine wc_ret ?_
  revert h; refine ret_i fun h => ?_
  subst h
  exact ⟨_, (.cons (.tmp rfl) .nil), rfl⟩
/- farebox/sha512.Schedule -/
def sha512_Schedule_b1 (p0 : List Int) (k152 : (List Int) → Option ((List Int))) (k233 : (Int) → (List Int) → Option ((List Int))) (i231 : Int) (a232 : List Int) : Option ((List Int)) :=
 br ((decide (i231 < 80))) (
 jn (fun (a265 : List Int) => bnd (IntKind.wrap .i64 (i231 + 1)) fun z296 =>
 k233 z296 a265) fun k266 => br ((decide (i231 < 16))) (
 bnd (IntKind.wrap .i64 (8 * i231)) fun z271 =>
 opt (bits_LoadBE_uint64 (tk p0 0 128) z271) fun y272 =>
 chk (inB i231 80) <|
 bnd (setD a232 (i231).toNat y272.1) fun l274 =>
 k266 l274
 ) (
 bnd (IntKind.wrap .i64 (i231 - 2)) fun z276 =>
 chk (inB z276 80) <|
 bnd (IntKind.wrap .i64 (i231 - 7)) fun z278 =>
 chk (inB z278 80) <|
 bnd (IntKind.wrap .i64 (i231 - 15)) fun z280 =>
 chk (inB z280 80) <|
 bnd (IntKind.wrap .i64 (i231 - 16)) fun z282 =>
 chk (inB z282 80) <|
 bnd (a232.getD (z276).toNat 0) fun z284 =>
 opt (sha512_bend z284 19 61 6) fun y285 =>
 bnd (a232.getD (z278).toNat 0) fun z286 =>
 bnd (IntKind.wrap .u64 (y285 + z286)) fun z287 =>
 bnd (a232.getD (z280).toNat 0) fun z288 =>
 opt (sha512_bend z288 1 8 7) fun y289 =>
 bnd (IntKind.wrap .u64 (z287 + y289)) fun z290 =>
 bnd (a232.getD (z282).toNat 0) fun z291 =>
 bnd (IntKind.wrap .u64 (z290 + z291)) fun z292 =>
 chk (inB i231 80) <|
 bnd (setD a232 (i231).toNat z292) fun l294 =>
 k266 l294
 )
 ) (
 k152 a232
 )
def sha512_Schedule_l1 (p0 : List Int) (k152 : (List Int) → Option ((List Int))) : Nat → (Int) → (List Int) → Option ((List Int))
  | 0, _, _ => none
  | n + 1, i231, a232 => sha512_Schedule_b1 p0 k152 (sha512_Schedule_l1 p0 k152 n) i231 a232
def sha512_Schedule (p0 : List Int) : Option ((List Int)) :=
 jn (fun (a151 : List Int) => some a151) fun k152 => sha512_Schedule_l1 p0 k152 big 0 (List.replicate 80 0)
theorem sha512_Schedule_spec {W : World} {r : (List Int)} {p0 : List Int} (h : sha512_Schedule p0 = some r)  :
    Calls Tryd.prog 98 [agg [.ints .u8 128 (p0)]].toArray W (ret1 W (agg [.ints .u64 80 (r)])) := by
  unfold sha512_Schedule at h
  refine calls_val mo ok98 rfl ?_
  refine wc_seq ?_
  refine wc_ops ?_
  refine wj_e (ef_bx (s := [.ints .u8 128 (p0)]) rfl fun b2 hb2 => ?_)
  refine wj_e (ef_al fun b3 hb3 => ?_)
  refine wj_nil ?_
  refine wc_seq ?_
  refine wc_ops ?_
  refine wj_e (ef_al fun b5 hb5 => ?_)
  refine wj_nil ?_
  refine wc_seq ?_
  refine wc_seq ?_
  refine wc_ops ?_
  refine wj_q _ (q_mv rfl) ?_
  refine wj_nil ?_
  revert h
  refine jn_i fun k152 qk152 => ?_
  intro h
  refine wc_mono2 (G := fun t m => ∃ (a151 : List Int), k152 a151 = some r ∧ Fit [(2, .pointer (some ⟨b3, 0, none⟩)), (3, .pointer (some ⟨b5, 0, none⟩))] (ck b5 155 [.ints .u64 80 (a151)] :: (ck b3 155 [.ints .u64 80 ((List.replicate 80 0))] :: (ck b2 136 [.ints .u8 128 (p0)] :: []))) t m) ?_ ?_
  · refine wc_block ?_
    refine wc_loopJ (fun n234 t m => ∃ (i231 : Int) (a232 : List Int), sha512_Schedule_l1 p0 k152 n234 i231 a232 = some r ∧ Fit [(1, .pointer (some ⟨b2, 0, none⟩)), (2, .pointer (some ⟨b3, 0, none⟩)), (3, .pointer (some ⟨b5, 0, none⟩)), (5, .int .i64 (i231))] (ck b5 155 [.ints .u64 80 (a232)] :: (ck b3 155 [.ints .u64 80 ((List.replicate 80 0))] :: (ck b2 136 [.ints .u8 128 (p0)] :: []))) t m) big ?_ ?_
    · exact ⟨0, (List.replicate 80 0), h, ⟨⟨rfl, rfl, rfl, rfl, trivial⟩, (.one .here (.one .here (.one .here .nil)))⟩⟩
    · rintro n234 t m ⟨i231, a232, h, hF⟩
      refine wc_fit hF ?_
      clear hF
      rcases n234 with _ | n234
      · exact none_i h
      have h : sha512_Schedule_b1 p0 k152 (sha512_Schedule_l1 p0 k152 n234) i231 a232 = some r := h
      unfold sha512_Schedule_b1 at h
      obtain ⟨k233, qk233⟩ : ∃ k, k = sha512_Schedule_l1 p0 k152 n234 := ⟨_, rfl⟩
      try rw [← qk233] at h
      refine wc_seq ?_
      refine wc_ops ?_
      refine wj_q _ (q_bin rfl rfl rfl) ?_
      refine wj_nil ?_
      refine wc_seq ?_
      refine wc_if (c := (decide (i231 < 80))) rfl (fun d236 => ?_) (fun d236 => ?_)
      · have h := br_t h d236
        refine wc_skip ?_
        refine wc_seq ?_
        revert h
        refine jn_i fun k266 qk266 => ?_
        intro h
        refine wc_mono2 (G := fun t m => ∃ (a265 : List Int), k266 a265 = some r ∧ Fit [(1, .pointer (some ⟨b2, 0, none⟩)), (2, .pointer (some ⟨b3, 0, none⟩)), (3, .pointer (some ⟨b5, 0, none⟩)), (5, .int .i64 (i231))] (ck b5 155 [.ints .u64 80 (a265)] :: (ck b3 155 [.ints .u64 80 ((List.replicate 80 0))] :: (ck b2 136 [.ints .u8 128 (p0)] :: []))) t m) ?_ ?_
        · refine wc_block ?_
          refine wc_seq ?_
          refine wc_ops ?_
          refine wj_q _ (q_mv rfl) ?_
          refine wj_q _ (q_mv rfl) ?_
          refine wj_nil ?_
          refine wc_seq ?_
          refine wc_seq ?_
          refine wc_ops ?_
          refine wj_q _ (q_mv rfl) ?_
          refine wj_q _ (q_bin rfl rfl rfl) ?_
          refine wj_nil ?_
          refine wc_if (c := (decide (i231 < 16))) rfl (fun d269 => ?_) (fun d269 => ?_)
          · have h := br_t h d269
            refine wc_seq ?_
            revert h
            refine bnd_i fun z271 ez271 => ?_
            refine opt_i fun y272 ey272 => ?_
            refine chk_i fun c273 => ?_
            refine bnd_i fun l274 el274 => ?_
            intro h
            refine wc_ops ?_
            refine wj_q _ (q_mv rfl) ?_
            refine wj_q _ (q_sla rfl .no .no .no (by simp) (by decide)) ?_
            refine wj_q _ (q_mv rfl) ?_
            refine wj_q _ (iz ez271 (q_bin rfl rfl rfl)) ?_
            refine wj_q _ (q_call (vs := [(.slice (some (slAddr b2 0 0 128 1)) (128 - 0) (128 - 0)), .int .i64 (z271)]) (v := .tuple #[.int .u64 (y272.1), .bool (y272.2)]) rfl (fun w hw => bits_LoadBE_uint64_spec (r := y272) (p0 := (tk p0 0 128)) (p1 := z271) ey272 ((rd_blk_i (s := [.ints .u8 128 (p0)]) (N := 128) (k := .u8) (base := 0) (lo := 0) (hi := 128) (mz := 128) (.there (.there .here)) rfl (by decide)) w hw))) ?_
            refine wj_q _ (q_mv rfl) ?_
            refine wj_q _ (q_ext rfl rfl) ?_
            refine wj_q _ (q_ext rfl rfl) ?_
            refine wj_q _ (q_ia rfl rfl (inB_z c273)) ?_
            refine wj_e (ef_stiz (q := [.ints .u64 80 (l274)]) (base := 0) el274 rfl rfl rfl (inB_n c273) rfl .here ?_)
            refine wj_nil ?_
            refine wc_exit _ rfl ?_
            exact ⟨l274, h, ⟨⟨rfl, rfl, rfl, rfl, trivial⟩, (.one .here (.one .here (.one .here .nil)))⟩⟩
          · have h := br_f h d269
            refine wc_skip ?_
            revert h
            refine bnd_i fun z276 ez276 => ?_
            refine chk_i fun c277 => ?_
            refine bnd_i fun z278 ez278 => ?_
            refine chk_i fun c279 => ?_
            refine bnd_i fun z280 ez280 => ?_
            refine chk_i fun c281 => ?_
            refine bnd_i fun z282 ez282 => ?_
            refine chk_i fun c283 => ?_
            refine bnd_i fun z284 ez284 => ?_
            refine opt_i fun y285 ey285 => ?_
            refine bnd_i fun z286 ez286 => ?_
            refine bnd_i fun z287 ez287 => ?_
            refine bnd_i fun z288 ez288 => ?_
            refine opt_i fun y289 ey289 => ?_
            refine bnd_i fun z290 ez290 => ?_
            refine bnd_i fun z291 ez291 => ?_
            refine bnd_i fun z292 ez292 => ?_
            refine chk_i fun c293 => ?_
            refine bnd_i fun l294 el294 => ?_
            intro h
            refine wc_draw ?_
            refine ws_p1 _ (q_mv rfl) ?_
            refine ws_p1 _ (q_mv rfl) ?_
            refine ws_p1 _ (iz ez276 (q_bin rfl rfl rfl)) ?_
            refine ws_p1 _ (q_ia rfl rfl (inB_z c277)) ?_
            refine ws_p1 _ (q_mv rfl) ?_
            refine ws_p1 _ (iz ez278 (q_bin rfl rfl rfl)) ?_
            refine ws_p1 _ (q_ia rfl rfl (inB_z c279)) ?_
            refine ws_p1 _ (q_mv rfl) ?_
            refine ws_p1 _ (iz ez280 (q_bin rfl rfl rfl)) ?_
            refine ws_p1 _ (q_ia rfl rfl (inB_z c281)) ?_
            refine ws_p1 _ (q_mv rfl) ?_
            refine ws_p1 _ (iz ez282 (q_bin rfl rfl rfl)) ?_
            refine ws_p1 _ (q_ia rfl rfl (inB_z c283)) ?_
            refine ws_q1 _ (iz ez284 (q_ldi (base := 0) rfl .here rfl (inB_n c277))) ?_
            refine ws_p1 _ (q_call (vs := [.int .u64 (z284), .int .i64 19, .int .i64 61, .int .i64 6]) (v := .int .u64 (y285)) rfl (fun w hw => sha512_bend_spec (r := y285) (p0 := z284) (p1 := 19) (p2 := 61) (p3 := 6) ey285 )) ?_
            refine ws_q1 _ (iz ez286 (q_ldi (base := 0) rfl .here rfl (inB_n c279))) ?_
            refine ws_p1 _ (iz ez287 (q_bin rfl rfl rfl)) ?_
            refine ws_q1 _ (iz ez288 (q_ldi (base := 0) rfl .here rfl (inB_n c281))) ?_
            refine ws_p1 _ (q_call (vs := [.int .u64 (z288), .int .i64 1, .int .i64 8, .int .i64 7]) (v := .int .u64 (y289)) rfl (fun w hw => sha512_bend_spec (r := y289) (p0 := z288) (p1 := 1) (p2 := 8) (p3 := 7) ey289 )) ?_
            refine ws_p1 _ (iz ez290 (q_bin rfl rfl rfl)) ?_
            refine ws_q1 _ (iz ez291 (q_ldi (base := 0) rfl .here rfl (inB_n c283))) ?_
            refine ws_p1 _ (iz ez292 (q_bin rfl rfl rfl)) ?_
            refine ws_p1 _ (q_ia rfl rfl (inB_z c293)) ?_
            refine ws_eL rfl (ef_stiz (q := [.ints .u64 80 (l294)]) (base := 0) el294 rfl rfl rfl (inB_n c293) rfl .here ?_)
            refine ws_nil ?_
            exact ⟨l294, h, ⟨⟨rfl, rfl, rfl, rfl, trivial⟩, (.one .here (.one .here (.one .here .nil)))⟩⟩
        · rintro t m ⟨a265, h, hF⟩
          refine wc_fit hF ?_
          clear hF
          subst qk266
          revert h
          refine bnd_i fun z296 ez296 => ?_
          intro h
          refine wc_ops ?_
          refine wj_q _ (iz ez296 (q_bin rfl rfl rfl)) ?_
          refine wj_q _ (q_mv rfl) ?_
          refine wj_nil ?_
          rw [qk233] at h
          exact ⟨n234, Nat.lt_succ_self _, z296, a265, h, ⟨⟨rfl, rfl, rfl, rfl, trivial⟩, (.one .here (.one .here (.one .here .nil)))⟩⟩
      · have h := br_f h d236
        refine wc_exit _ rfl ?_
        exact ⟨a232, h, ⟨⟨rfl, rfl, trivial⟩, (.one .here (.one .here (.one .here .nil)))⟩⟩
  · rintro t m ⟨a151, h, hF⟩
    refine wc_fit hF ?_
    clear hF
    subst qk152
    refine wc_seq ?_
    refine wc_ops ?_
    refine wj_q _ (q_ld (p := [.ints .u64 80 (a151)]) rfl .here rfl) ?_
    refine wj_e (ef_st (q := [.ints .u64 80 (a151)]) rfl rfl rfl rfl rfl (.there .here) ?_)
    refine wj_nil ?_
    refine wc_ret ?_
    revert h; refine ret_i fun h => ?_
    subst h
    exact ⟨_, (.cons (.agg rfl (.there .here) rfl) .nil), rfl⟩
/- farebox/sha512.mix -/
def sha512_mix (p0 : Int) (p1 : Int) (p2 : Int) (p3 : Int) : Option (Int) :=
 opt (bits_RotR_uint64 p0 p1) fun y3 =>
 opt (bits_RotR_uint64 p0 p2) fun y4 =>
 bnd (bitsV .xor .u64 y3 y4) fun z5 =>
 opt (bits_RotR_uint64 p0 p3) fun y6 =>
 bnd (bitsV .xor .u64 z5 y6) fun z7 =>
 some z7
theorem sha512_mix_spec {W : World} {r : Int} {p0 : Int} {p1 : Int} {p2 : Int} {p3 : Int} (h : sha512_mix p0 p1 p2 p3 = some r)  :
    Calls Tryd.prog 99 [.int .u64 (p0), .int .i64 (p1), .int .i64 (p2), .int .i64 (p3)].toArray W (ret1 W (.int .u64 (r))) := by
  unfold sha512_mix at h
  refine calls_val mo ok99 rfl ?_
  refine wc_seq ?_
  refine wc_ops ?_
  refine wj_q _ (q_mv rfl) ?_
  refine wj_nil ?_
  refine wc_seq ?_
  revert h
  refine opt_i fun y3 ey3 => ?_
  refine opt_i fun y4 ey4 => ?_
  refine bnd_i fun z5 ez5 => ?_
  refine opt_i fun y6 ey6 => ?_
  refine bnd_i fun z7 ez7 => ?_
  intro h
  refine wc_ops ?_
  refine wj_q _ (q_mv rfl) ?_
  refine wj_q _ (q_mv rfl) ?_
  refine wj_q _ (q_call (vs := [.int .u64 (p0), .int .i64 (p1)]) (v := .int .u64 (y3)) rfl (fun w hw => bits_RotR_uint64_spec (r := y3) (p0 := p0) (p1 := p1) ey3 )) ?_
  refine wj_q _ (q_mv rfl) ?_
  refine wj_q _ (q_mv rfl) ?_
  refine wj_q _ (q_call (vs := [.int .u64 (p0), .int .i64 (p2)]) (v := .int .u64 (y4)) rfl (fun w hw => bits_RotR_uint64_spec (r := y4) (p0 := p0) (p1 := p2) ey4 )) ?_
  refine wj_q _ (iz ez5 (q_bin rfl rfl rfl)) ?_
  refine wj_q _ (q_mv rfl) ?_
  refine wj_q _ (q_mv rfl) ?_
  refine wj_q _ (q_call (vs := [.int .u64 (p0), .int .i64 (p3)]) (v := .int .u64 (y6)) rfl (fun w hw => bits_RotR_uint64_spec (r := y6) (p0 := p0) (p1 := p3) ey6 )) ?_
  refine wj_q _ (iz ez7 (q_bin rfl rfl rfl)) ?_
  refine wj_q _ (q_mv rfl) ?_
  refine wj_nil ?_
  refine wc_ret ?_
  revert h; refine ret_i fun h => ?_
  subst h
  exact ⟨_, (.cons (.tmp rfl) .nil), rfl⟩
/- farebox/sha512.Block -/
def sha512_Block_b1 (y6 : (List Int)) (k133 : (Int) → (Int) → (Int) → (Int) → (Int) → (Int) → (Int) → (Int) → Option ((List Int))) (k208 : (Int) → (Int) → (Int) → (Int) → (Int) → (Int) → (Int) → (Int) → (Int) → Option ((List Int))) (i199 : Int) (i200 : Int) (i201 : Int) (i202 : Int) (i203 : Int) (i204 : Int) (i205 : Int) (i206 : Int) (i207 : Int) : Option ((List Int)) :=
 br ((decide (i207 < 80))) (
 chk (inB i207 80) <|
 bnd (G_table.getD (i207).toNat 0) fun z214 =>
 opt (sha512_mix i203 14 18 41) fun y216 =>
 bnd (IntKind.wrap .u64 (i206 + y216)) fun z217 =>
 bnd (bitsV .and .u64 i203 i204) fun z218 =>
 bnd (bitsV .xor .u64 18446744073709551615 i203) fun z219 =>
 bnd (bitsV .and .u64 z219 i205) fun z220 =>
 bnd (bitsV .xor .u64 z218 z220) fun z221 =>
 bnd (IntKind.wrap .u64 (z217 + z221)) fun z222 =>
 bnd (IntKind.wrap .u64 (z222 + z214)) fun z223 =>
 chk (inB i207 80) <|
 bnd (y6.getD (i207).toNat 0) fun z225 =>
 bnd (IntKind.wrap .u64 (z223 + z225)) fun z226 =>
 opt (sha512_mix i199 28 34 39) fun y228 =>
 bnd (bitsV .and .u64 i199 i200) fun z229 =>
 bnd (bitsV .and .u64 i199 i201) fun z230 =>
 bnd (bitsV .xor .u64 z229 z230) fun z231 =>
 bnd (bitsV .and .u64 i200 i201) fun z232 =>
 bnd (bitsV .xor .u64 z231 z232) fun z233 =>
 bnd (IntKind.wrap .u64 (y228 + z233)) fun z234 =>
 bnd (IntKind.wrap .u64 (i202 + z226)) fun z236 =>
 bnd (IntKind.wrap .u64 (z226 + z234)) fun z237 =>
 bnd (IntKind.wrap .i64 (i207 + 1)) fun z239 =>
 k208 z237 i199 i200 i201 z236 i203 i204 i205 z239
 ) (
 k133 i199 i200 i201 i202 i203 i204 i205 i206
 )
def sha512_Block_l1 (y6 : (List Int)) (k133 : (Int) → (Int) → (Int) → (Int) → (Int) → (Int) → (Int) → (Int) → Option ((List Int))) : Nat → (Int) → (Int) → (Int) → (Int) → (Int) → (Int) → (Int) → (Int) → (Int) → Option ((List Int))
  | 0, _, _, _, _, _, _, _, _, _ => none
  | n + 1, i199, i200, i201, i202, i203, i204, i205, i206, i207 => sha512_Block_b1 y6 k133 (sha512_Block_l1 y6 k133 n) i199 i200 i201 i202 i203 i204 i205 i206 i207
def sha512_Block_b2 (z241 : List Int) (k283 : (List Int) → Option ((List Int))) (k309 : (Int) → (List Int) → Option ((List Int))) (i307 : Int) (a308 : List Int) : Option ((List Int)) :=
 br ((decide (i307 < 8))) (
 chk (inB i307 8) <|
 bnd (z241.getD (i307).toNat 0) fun z315 =>
 chk (inB i307 8) <|
 bnd (a308.getD (i307).toNat 0) fun z318 =>
 bnd (IntKind.wrap .u64 (z318 + z315)) fun z319 =>
 chk (inB i307 8) <|
 bnd (setD a308 (i307).toNat z319) fun l321 =>
 bnd (IntKind.wrap .i64 (i307 + 1)) fun z323 =>
 k309 z323 l321
 ) (
 k283 a308
 )
def sha512_Block_l2 (z241 : List Int) (k283 : (List Int) → Option ((List Int))) : Nat → (Int) → (List Int) → Option ((List Int))
  | 0, _, _ => none
  | n + 1, i307, a308 => sha512_Block_b2 z241 k283 (sha512_Block_l2 z241 k283 n) i307 a308
def sha512_Block (p0 : List Int) (p1 : List Int) : Option ((List Int)) :=
 opt (sha512_Schedule p1) fun y6 =>
 bnd (p0.getD 0 0) fun z9 =>
 bnd (p0.getD 1 0) fun z10 =>
 bnd (p0.getD 2 0) fun z11 =>
 bnd (p0.getD 3 0) fun z12 =>
 bnd (p0.getD 4 0) fun z14 =>
 bnd (p0.getD 5 0) fun z15 =>
 bnd (p0.getD 6 0) fun z16 =>
 bnd (p0.getD 7 0) fun z17 =>
 jn (fun (i125 : Int) (i126 : Int) (i127 : Int) (i128 : Int) (i129 : Int) (i130 : Int) (i131 : Int) (i132 : Int) => bnd (([i125, i126, i127, i128, i129, i130, i131, i132] : List Int)) fun z241 =>
 jn (fun (a282 : List Int) => some a282) fun k283 => sha512_Block_l2 z241 k283 big 0 p0) fun k133 => sha512_Block_l1 y6 k133 big z9 z10 z11 z12 z14 z15 z16 z17 0
theorem sha512_Block_spec {W : World} {r : (List Int)} {p0 : List Int} {p1 : List Int} (h : sha512_Block p0 p1 = some r) (hG : Globs W) :
    Calls Tryd.prog 81 [agg [.ints .u64 8 (p0)], agg [.ints .u8 128 (p1)]].toArray W (ret1 W (agg [.ints .u64 8 (r)])) := by
  unfold sha512_Block at h
  refine calls_val mo ok81 rfl ?_
  refine wc_seq ?_
  refine wc_ops ?_
  refine wj_e (ef_bx (s := [.ints .u64 8 (p0)]) rfl fun b2 hb2 => ?_)
  refine wj_e (ef_bx (s := [.ints .u8 128 (p1)]) rfl fun b3 hb3 => ?_)
  refine wj_e (ef_al fun b4 hb4 => ?_)
  refine wj_nil ?_
  refine wc_seq ?_
  revert h
  refine opt_i fun y6 ey6 => ?_
  intro h
  refine wc_ops ?_
  refine wj_q _ (q_ld (p := [.ints .u8 128 (p1)]) rfl (.there .here) rfl) ?_
  refine wj_q _ (q_call (vs := [agg [.ints .u8 128 (p1)]]) (v := agg [.ints .u64 80 (y6)]) rfl (fun w hw => sha512_Schedule_spec (r := y6) (p0 := p1) ey6 )) ?_
  refine wj_e (ef_al fun b7 hb7 => ?_)
  refine wj_e (ef_st (q := [.ints .u64 80 (y6)]) rfl rfl rfl rfl rfl .here ?_)
  refine wj_nil ?_
  refine wc_seq ?_
  revert h
  refine bnd_i fun z9 ez9 => ?_
  refine bnd_i fun z10 ez10 => ?_
  refine bnd_i fun z11 ez11 => ?_
  refine bnd_i fun z12 ez12 => ?_
  intro h
  refine wc_draw ?_
  refine ws_p1 _ (q_ia rfl rfl (by decide)) ?_
  refine ws_p1 _ (q_ia rfl rfl (by decide)) ?_
  refine ws_p1 _ (q_ia rfl rfl (by decide)) ?_
  refine ws_p1 _ (q_ia rfl rfl (by decide)) ?_
  refine ws_q1 _ (iz ez9 (q_ld1 rfl (.there (.there (.there .here))) rfl)) ?_
  refine ws_p1 _ (q_mv rfl) ?_
  refine ws_q1 _ (iz ez10 (q_ld1 rfl (.there (.there (.there .here))) rfl)) ?_
  refine ws_p1 _ (q_mv rfl) ?_
  refine ws_q1 _ (iz ez11 (q_ld1 rfl (.there (.there (.there .here))) rfl)) ?_
  refine ws_p1 _ (q_mv rfl) ?_
  refine ws_q1 _ (iz ez12 (q_ld1 rfl (.there (.there (.there .here))) rfl)) ?_
  refine ws_p1 _ (q_mv rfl) ?_
  refine ws_nil ?_
  refine wc_seq ?_
  revert h
  refine bnd_i fun z14 ez14 => ?_
  refine bnd_i fun z15 ez15 => ?_
  refine bnd_i fun z16 ez16 => ?_
  refine bnd_i fun z17 ez17 => ?_
  intro h
  refine wc_draw ?_
  refine ws_p1 _ (q_ia rfl rfl (by decide)) ?_
  refine ws_p1 _ (q_ia rfl rfl (by decide)) ?_
  refine ws_p1 _ (q_ia rfl rfl (by decide)) ?_
  refine ws_p1 _ (q_ia rfl rfl (by decide)) ?_
  refine ws_q1 _ (iz ez14 (q_ld1 rfl (.there (.there (.there .here))) rfl)) ?_
  refine ws_p1 _ (q_mv rfl) ?_
  refine ws_q1 _ (iz ez15 (q_ld1 rfl (.there (.there (.there .here))) rfl)) ?_
  refine ws_p1 _ (q_mv rfl) ?_
  refine ws_q1 _ (iz ez16 (q_ld1 rfl (.there (.there (.there .here))) rfl)) ?_
  refine ws_p1 _ (q_mv rfl) ?_
  refine ws_q1 _ (iz ez17 (q_ld1 rfl (.there (.there (.there .here))) rfl)) ?_
  refine ws_p1 _ (q_mv rfl) ?_
  refine ws_nil ?_
  refine wc_seq ?_
  refine wc_seq ?_
  refine wc_ops ?_
  refine wj_q _ (q_mem (o0 := 0) (off := 0) rfl (hG.g2) (by simp) rfl) ?_
  refine wj_q _ (q_mv rfl) ?_
  refine wj_nil ?_
  revert h
  refine jn_i fun k133 qk133 => ?_
  intro h
  refine wc_mono2 (G := fun t m => ∃ (i125 : Int) (i126 : Int) (i127 : Int) (i128 : Int) (i129 : Int) (i130 : Int) (i131 : Int) (i132 : Int), k133 i125 i126 i127 i128 i129 i130 i131 i132 = some r ∧ Fit [(2, .pointer (some ⟨b2, 0, none⟩)), (4, .pointer (some ⟨b4, 0, none⟩)), (6, .int .u64 (i125)), (7, .int .u64 (i126)), (8, .int .u64 (i127)), (9, .int .u64 (i128)), (10, .int .u64 (i129)), (11, .int .u64 (i130)), (12, .int .u64 (i131)), (13, .int .u64 (i132))] (ck b7 155 [.ints .u64 80 (y6)] :: (ck b4 135 [.ints .u64 8 ((List.replicate 8 0))] :: (ck b3 136 [.ints .u8 128 (p1)] :: (ck b2 135 [.ints .u64 8 (p0)] :: [])))) t m) ?_ ?_
  · refine wc_block ?_
    refine wc_loopJ (fun n209 t m => ∃ (i199 : Int) (i200 : Int) (i201 : Int) (i202 : Int) (i203 : Int) (i204 : Int) (i205 : Int) (i206 : Int) (i207 : Int), sha512_Block_l1 y6 k133 n209 i199 i200 i201 i202 i203 i204 i205 i206 i207 = some r ∧ Fit [(2, .pointer (some ⟨b2, 0, none⟩)), (4, .pointer (some ⟨b4, 0, none⟩)), (5, .pointer (some ⟨b7, 0, none⟩)), (6, .int .u64 (i199)), (7, .int .u64 (i200)), (8, .int .u64 (i201)), (9, .int .u64 (i202)), (10, .int .u64 (i203)), (11, .int .u64 (i204)), (12, .int .u64 (i205)), (13, .int .u64 (i206)), (38, agg [.ints .u64 80 (G_table)]), (39, .int .i64 (i207))] (ck b7 155 [.ints .u64 80 (y6)] :: (ck b4 135 [.ints .u64 8 ((List.replicate 8 0))] :: (ck b3 136 [.ints .u8 128 (p1)] :: (ck b2 135 [.ints .u64 8 (p0)] :: [])))) t m) big ?_ ?_
    · exact ⟨z9, z10, z11, z12, z14, z15, z16, z17, 0, h, ⟨⟨rfl, rfl, rfl, rfl, rfl, rfl, rfl, rfl, rfl, rfl, rfl, rfl, rfl, trivial⟩, (.one .here (.one .here (.one .here (.one .here .nil))))⟩⟩
    · rintro n209 t m ⟨i199, i200, i201, i202, i203, i204, i205, i206, i207, h, hF⟩
      refine wc_fit hF ?_
      clear hF
      rcases n209 with _ | n209
      · exact none_i h
      have h : sha512_Block_b1 y6 k133 (sha512_Block_l1 y6 k133 n209) i199 i200 i201 i202 i203 i204 i205 i206 i207 = some r := h
      unfold sha512_Block_b1 at h
      obtain ⟨k208, qk208⟩ : ∃ k, k = sha512_Block_l1 y6 k133 n209 := ⟨_, rfl⟩
      try rw [← qk208] at h
      refine wc_seq ?_
      refine wc_ops ?_
      refine wj_q _ (q_bin rfl rfl rfl) ?_
      refine wj_nil ?_
      refine wc_seq ?_
      refine wc_if (c := (decide (i207 < 80))) rfl (fun d211 => ?_) (fun d211 => ?_)
      · have h := br_t h d211
        refine wc_skip ?_
        refine wc_seq ?_
        refine wc_block ?_
        refine wc_seq ?_
        revert h
        refine chk_i fun c213 => ?_
        refine bnd_i fun z214 ez214 => ?_
        intro h
        refine wc_ops ?_
        refine wj_q _ (q_mv rfl) ?_
        refine wj_q _ (iz ez214 (q_idxi (len := 80) rfl rfl (inB_z c213))) ?_
        refine wj_q _ (q_mv rfl) ?_
        refine wj_q _ (q_mv rfl) ?_
        refine wj_nil ?_
        refine wc_seq ?_
        revert h
        refine opt_i fun y216 ey216 => ?_
        refine bnd_i fun z217 ez217 => ?_
        refine bnd_i fun z218 ez218 => ?_
        refine bnd_i fun z219 ez219 => ?_
        refine bnd_i fun z220 ez220 => ?_
        refine bnd_i fun z221 ez221 => ?_
        refine bnd_i fun z222 ez222 => ?_
        refine bnd_i fun z223 ez223 => ?_
        refine chk_i fun c224 => ?_
        refine bnd_i fun z225 ez225 => ?_
        refine bnd_i fun z226 ez226 => ?_
        intro h
        refine wc_draw ?_
        refine ws_p1 _ (q_mv rfl) ?_
        refine ws_p1 _ (q_mv rfl) ?_
        refine ws_p1 _ (q_call (vs := [.int .u64 (i203), .int .i64 14, .int .i64 18, .int .i64 41]) (v := .int .u64 (y216)) rfl (fun w hw => sha512_mix_spec (r := y216) (p0 := i203) (p1 := 14) (p2 := 18) (p3 := 41) ey216 )) ?_
        refine ws_p1 _ (iz ez217 (q_bin rfl rfl rfl)) ?_
        refine ws_p1 _ (q_mv rfl) ?_
        refine ws_p1 _ (q_mv rfl) ?_
        refine ws_p1 _ (iz ez218 (q_bin rfl rfl rfl)) ?_
        refine ws_p1 _ (q_mv rfl) ?_
        refine ws_p1 _ (iz ez219 (q_un rfl rfl)) ?_
        refine ws_p1 _ (q_mv rfl) ?_
        refine ws_p1 _ (iz ez220 (q_bin rfl rfl rfl)) ?_
        refine ws_p1 _ (iz ez221 (q_bin rfl rfl rfl)) ?_
        refine ws_p1 _ (iz ez222 (q_bin rfl rfl rfl)) ?_
        refine ws_p1 _ (q_mv rfl) ?_
        refine ws_p1 _ (iz ez223 (q_bin rfl rfl rfl)) ?_
        refine ws_p1 _ (q_mv rfl) ?_
        refine ws_p1 _ (q_ia rfl rfl (inB_z c224)) ?_
        refine ws_q1 _ (iz ez225 (q_ldi (base := 0) rfl .here rfl (inB_n c224))) ?_
        refine ws_p1 _ (iz ez226 (q_bin rfl rfl rfl)) ?_
        refine ws_p1 _ (q_mv rfl) ?_
        refine ws_nil ?_
        refine wc_seq ?_
        revert h
        refine opt_i fun y228 ey228 => ?_
        refine bnd_i fun z229 ez229 => ?_
        refine bnd_i fun z230 ez230 => ?_
        refine bnd_i fun z231 ez231 => ?_
        refine bnd_i fun z232 ez232 => ?_
        refine bnd_i fun z233 ez233 => ?_
        refine bnd_i fun z234 ez234 => ?_
        intro h
        refine wc_ops ?_
        refine wj_q _ (q_mv rfl) ?_
        refine wj_q _ (q_call (vs := [.int .u64 (i199), .int .i64 28, .int .i64 34, .int .i64 39]) (v := .int .u64 (y228)) rfl (fun w hw => sha512_mix_spec (r := y228) (p0 := i199) (p1 := 28) (p2 := 34) (p3 := 39) ey228 )) ?_
        refine wj_q _ (q_mv rfl) ?_
        refine wj_q _ (q_mv rfl) ?_
        refine wj_q _ (iz ez229 (q_bin rfl rfl rfl)) ?_
        refine wj_q _ (q_mv rfl) ?_
        refine wj_q _ (q_mv rfl) ?_
        refine wj_q _ (iz ez230 (q_bin rfl rfl rfl)) ?_
        refine wj_q _ (iz ez231 (q_bin rfl rfl rfl)) ?_
        refine wj_q _ (q_mv rfl) ?_
        refine wj_q _ (q_mv rfl) ?_
        refine wj_q _ (iz ez232 (q_bin rfl rfl rfl)) ?_
        refine wj_q _ (iz ez233 (q_bin rfl rfl rfl)) ?_
        refine wj_q _ (iz ez234 (q_bin rfl rfl rfl)) ?_
        refine wj_q _ (q_mv rfl) ?_
        refine wj_nil ?_
        revert h
        refine bnd_i fun z236 ez236 => ?_
        refine bnd_i fun z237 ez237 => ?_
        intro h
        refine wc_ops ?_
        refine wj_q _ (q_mv rfl) ?_
        refine wj_q _ (q_mv rfl) ?_
        refine wj_q _ (q_mv rfl) ?_
        refine wj_q _ (q_mv rfl) ?_
        refine wj_q _ (q_mv rfl) ?_
        refine wj_q _ (iz ez236 (q_bin rfl rfl rfl)) ?_
        refine wj_q _ (q_mv rfl) ?_
        refine wj_q _ (q_mv rfl) ?_
        refine wj_q _ (q_mv rfl) ?_
        refine wj_q _ (q_mv rfl) ?_
        refine wj_q _ (q_mv rfl) ?_
        refine wj_q _ (iz ez237 (q_bin rfl rfl rfl)) ?_
        refine wj_q _ (q_mv rfl) ?_
        refine wj_q _ (q_mv rfl) ?_
        refine wj_q _ (q_mv rfl) ?_
        refine wj_q _ (q_mv rfl) ?_
        refine wj_q _ (q_mv rfl) ?_
        refine wj_q _ (q_mv rfl) ?_
        refine wj_q _ (q_mv rfl) ?_
        refine wj_q _ (q_mv rfl) ?_
        refine wj_nil ?_
        revert h
        refine bnd_i fun z239 ez239 => ?_
        intro h
        refine wc_ops ?_
        refine wj_q _ (iz ez239 (q_bin rfl rfl rfl)) ?_
        refine wj_q _ (q_mv rfl) ?_
        refine wj_nil ?_
        rw [qk208] at h
        exact ⟨n209, Nat.lt_succ_self _, z237, i199, i200, i201, z236, i203, i204, i205, z239, h, ⟨⟨rfl, rfl, rfl, rfl, rfl, rfl, rfl, rfl, rfl, rfl, rfl, rfl, rfl, trivial⟩, (.one .here (.one .here (.one .here (.one .here .nil))))⟩⟩
      · have h := br_f h d211
        refine wc_exit _ rfl ?_
        exact ⟨i199, i200, i201, i202, i203, i204, i205, i206, h, ⟨⟨rfl, rfl, rfl, rfl, rfl, rfl, rfl, rfl, rfl, rfl, trivial⟩, (.one .here (.one .here (.one .here (.one .here .nil))))⟩⟩
  · rintro t m ⟨i125, i126, i127, i128, i129, i130, i131, i132, h, hF⟩
    refine wc_fit hF ?_
    clear hF
    subst qk133
    refine wc_seq ?_
    refine wc_seq ?_
    revert h
    refine bnd_i fun z241 ez241 => ?_
    intro h
    refine wc_ops ?_
    refine wj_q _ (q_mv rfl) ?_
    refine wj_q _ (q_mv rfl) ?_
    refine wj_q _ (q_mv rfl) ?_
    refine wj_q _ (q_mv rfl) ?_
    refine wj_q _ (q_mv rfl) ?_
    refine wj_q _ (q_mv rfl) ?_
    refine wj_q _ (q_mv rfl) ?_
    refine wj_q _ (q_mv rfl) ?_
    refine wj_q _ (az (fun z => agg [.ints .u64 8 z]) ez241 (q_bd (.one rfl rfl rfl (.one rfl rfl rfl (.one rfl rfl rfl (.one rfl rfl rfl (.one rfl rfl rfl (.one rfl rfl rfl (.one rfl rfl rfl (.one rfl rfl rfl BdR.nil)))))))))) ?_
    refine wj_q _ (q_mv rfl) ?_
    refine wj_nil ?_
    revert h
    refine jn_i fun k283 qk283 => ?_
    intro h
    refine wc_mono2 (G := fun t m => ∃ (a282 : List Int), k283 a282 = some r ∧ Fit [(2, .pointer (some ⟨b2, 0, none⟩)), (4, .pointer (some ⟨b4, 0, none⟩))] (ck b7 155 [.ints .u64 80 (y6)] :: (ck b4 135 [.ints .u64 8 ((List.replicate 8 0))] :: (ck b3 136 [.ints .u8 128 (p1)] :: (ck b2 135 [.ints .u64 8 (a282)] :: [])))) t m) ?_ ?_
    · refine wc_block ?_
      refine wc_loopJ (fun n310 t m => ∃ (i307 : Int) (a308 : List Int), sha512_Block_l2 z241 k283 n310 i307 a308 = some r ∧ Fit [(2, .pointer (some ⟨b2, 0, none⟩)), (4, .pointer (some ⟨b4, 0, none⟩)), (97, agg [.ints .u64 8 (z241)]), (98, .int .i64 (i307))] (ck b7 155 [.ints .u64 80 (y6)] :: (ck b4 135 [.ints .u64 8 ((List.replicate 8 0))] :: (ck b3 136 [.ints .u8 128 (p1)] :: (ck b2 135 [.ints .u64 8 (a308)] :: [])))) t m) big ?_ ?_
      · exact ⟨0, p0, h, ⟨⟨rfl, rfl, rfl, rfl, trivial⟩, (.one .here (.one .here (.one .here (.one .here .nil))))⟩⟩
      · rintro n310 t m ⟨i307, a308, h, hF⟩
        refine wc_fit hF ?_
        clear hF
        rcases n310 with _ | n310
        · exact none_i h
        have h : sha512_Block_b2 z241 k283 (sha512_Block_l2 z241 k283 n310) i307 a308 = some r := h
        unfold sha512_Block_b2 at h
        obtain ⟨k309, qk309⟩ : ∃ k, k = sha512_Block_l2 z241 k283 n310 := ⟨_, rfl⟩
        try rw [← qk309] at h
        refine wc_seq ?_
        refine wc_ops ?_
        refine wj_q _ (q_bin rfl rfl rfl) ?_
        refine wj_nil ?_
        refine wc_seq ?_
        refine wc_if (c := (decide (i307 < 8))) rfl (fun d312 => ?_) (fun d312 => ?_)
        · have h := br_t h d312
          refine wc_skip ?_
          refine wc_seq ?_
          refine wc_block ?_
          refine wc_seq ?_
          revert h
          refine chk_i fun c314 => ?_
          refine bnd_i fun z315 ez315 => ?_
          intro h
          refine wc_ops ?_
          refine wj_q _ (q_mv rfl) ?_
          refine wj_q _ (iz ez315 (q_idxi (len := 8) rfl rfl (inB_z c314))) ?_
          refine wj_q _ (q_mv rfl) ?_
          refine wj_q _ (q_mv rfl) ?_
          refine wj_nil ?_
          revert h
          refine chk_i fun c317 => ?_
          refine bnd_i fun z318 ez318 => ?_
          refine bnd_i fun z319 ez319 => ?_
          refine chk_i fun c320 => ?_
          refine bnd_i fun l321 el321 => ?_
          intro h
          refine wc_ops ?_
          refine wj_q _ (q_mv rfl) ?_
          refine wj_q _ (q_ia rfl rfl (inB_z c317)) ?_
          refine wj_q _ (iz ez318 (q_ldi (base := 0) rfl (.there (.there (.there .here))) rfl (inB_n c317))) ?_
          refine wj_q _ (q_mv rfl) ?_
          refine wj_q _ (iz ez319 (q_bin rfl rfl rfl)) ?_
          refine wj_q _ (q_ia rfl rfl (inB_z c320)) ?_
          refine wj_e (ef_stiz (q := [.ints .u64 8 (l321)]) (base := 0) el321 rfl rfl rfl (inB_n c320) rfl (.there (.there (.there .here))) ?_)
          refine wj_nil ?_
          revert h
          refine bnd_i fun z323 ez323 => ?_
          intro h
          refine wc_ops ?_
          refine wj_q _ (iz ez323 (q_bin rfl rfl rfl)) ?_
          refine wj_q _ (q_mv rfl) ?_
          refine wj_nil ?_
          rw [qk309] at h
          exact ⟨n310, Nat.lt_succ_self _, z323, l321, h, ⟨⟨rfl, rfl, rfl, rfl, trivial⟩, (.one .here (.one .here (.one .here (.one .here .nil))))⟩⟩
        · have h := br_f h d312
          refine wc_exit _ rfl ?_
          exact ⟨a308, h, ⟨⟨rfl, rfl, trivial⟩, (.one .here (.one .here (.one .here (.one .here .nil))))⟩⟩
    · rintro t m ⟨a282, h, hF⟩
      refine wc_fit hF ?_
      clear hF
      subst qk283
      refine wc_seq ?_
      refine wc_ops ?_
      refine wj_q _ (q_ld (p := [.ints .u64 8 (a282)]) rfl (.there (.there (.there .here))) rfl) ?_
      refine wj_e (ef_st (q := [.ints .u64 8 (a282)]) rfl rfl rfl rfl rfl (.there .here) ?_)
      refine wj_nil ?_
      refine wc_ret ?_
      revert h; refine ret_i fun h => ?_
      subst h
      exact ⟨_, (.cons (.agg rfl (.there .here) rfl) .nil), rfl⟩
/- (*farebox/sha512.Digest).Write -/
def sha512_Digest_Write_b1 (z3 : Int) (k44 : (List (Int)) → (List Int) → (List Int) → (Int) → Option (sha512_Digest)) (l39 : List (Int)) (a41 : List Int) (a42 : List Int) (i43 : Int) : Option (sha512_Digest) :=
 br ((decide ((l39.length : Int) > 0))) (
 chk (cutB i43 128 128) <|
 bnd (wr a42 (i43).toNat (l39.take (128 - (i43).toNat))) fun l50 =>
 chk (cutB ((Nat.min l39.length (128 - (i43).toNat) : Nat) : Int) (l39.length : Int) l39.length) <|
 bnd (IntKind.wrap .i64 (i43 + ((Nat.min l39.length (128 - (i43).toNat) : Nat) : Int))) fun z54 =>
 br ((z54 == 128)) (
 opt (sha512_Block a41 l50) fun y58 =>
 k44 ((l39.drop (((Nat.min l39.length (128 - (i43).toNat) : Nat) : Int)).toNat).take (((l39.length : Int)).toNat - (((Nat.min l39.length (128 - (i43).toNat) : Nat) : Int)).toNat)) y58 l50 0
 ) (
 k44 ((l39.drop (((Nat.min l39.length (128 - (i43).toNat) : Nat) : Int)).toNat).take (((l39.length : Int)).toNat - (((Nat.min l39.length (128 - (i43).toNat) : Nat) : Int)).toNat)) a41 l50 z54
 )
 ) (
 some (⟨a41, a42, i43, z3⟩ : sha512_Digest)
 )
def sha512_Digest_Write_l1 (z3 : Int) : Nat → (List (Int)) → (List Int) → (List Int) → (Int) → Option (sha512_Digest)
  | 0, _, _, _, _ => none
  | n + 1, l39, a41, a42, i43 => sha512_Digest_Write_b1 z3 (sha512_Digest_Write_l1 z3 n) l39 a41 a42 i43
def sha512_Digest_Write (p0 : sha512_Digest) (p1 : List Int) : Option (sha512_Digest) :=
 bnd (IntKind.wrap .u64 (p1.length : Int)) fun z2 =>
 bnd (IntKind.wrap .u64 (p0.glength + z2)) fun z3 =>
 sha512_Digest_Write_l1 z3 big p1 p0.gstate p0.gheld p0.ghave
theorem sha512_Digest_Write_spec {W : World} {r : sha512_Digest} {p0 : sha512_Digest} {p1 : List Int} {v1 : Value} {b : Nat} {T : TypeId} (h : sha512_Digest_Write p0 p1 = some r) (h0 : Sat W [b] (ck b T [.ints .u64 8 (p0.gstate), .ints .u8 128 (p0.gheld), .one (.int .i64 (p0.ghave)), .one (.int .u64 (p0.glength))] :: []) W) (hG : Globs W) (hS : ∀ g, g < ng → g ∉ [b]) (A1 : RdSl (El.int .u8) W v1 p1 ∧ Apart v1 p1 [b]) :
    Calls Tryd.prog 46 [.pointer (some ⟨b, 0, none⟩), v1].toArray W (retS W [b] (fun v Ms => v = .tuple #[] ∧ Ms = [.one (ck b T [.ints .u64 8 (r.gstate), .ints .u8 128 (r.gheld), .one (.int .i64 (r.ghave)), .one (.int .u64 (r.glength))])])) := by
  unfold sha512_Digest_Write at h
  refine calls_memT mo ok46 rfl h0 ?_
  refine wc_seq ?_
  revert h
  refine bnd_i fun z2 ez2 => ?_
  refine bnd_i fun z3 ez3 => ?_
  intro h
  refine wc_ops ?_
  refine wj_q _ (q_mv rfl) ?_
  refine wj_q _ (q_nilc rfl) ?_
  refine wj_q _ (q_fa rfl) ?_
  refine wj_q _ (q_ld1 rfl .here rfl) ?_
  refine wj_q _ (q_mv rfl) ?_
  refine wj_q _ (q_lenP rfl (Shp.rd A1.1)) ?_
  refine wj_q _ (iz ez2 (q_conv rfl)) ?_
  refine wj_q _ (iz ez3 (q_bin rfl rfl rfl)) ?_
  refine wj_q _ (q_nilc rfl) ?_
  refine wj_q _ (q_fa rfl) ?_
  refine wj_e (ef_st1 (q := [.ints .u64 8 (p0.gstate), .ints .u8 128 (p0.gheld), .one (.int .i64 (p0.ghave)), .one (.int .u64 (z3))]) rfl rfl rfl rfl .here ?_)
  refine wj_nil ?_
  refine wc_block ?_
  refine wc_loopJ (fun n45 t m => ∃ (l39 : List (Int)) (a41 : List Int) (a42 : List Int) (i43 : Int) (v38 : Value), sha512_Digest_Write_l1 z3 n45 l39 a41 a42 i43 = some r ∧ (RdSl (El.int .u8) W v38 l39 ∧ Apart v38 l39 [b]) ∧ Fit [(0, .pointer (some ⟨b, 0, none⟩)), (1, v38)] (ck b T [.ints .u64 8 (a41), .ints .u8 128 (a42), .one (.int .i64 (i43)), .one (.int .u64 (z3))] :: []) t m) big ?_ ?_
  · exact ⟨p1, p0.gstate, p0.gheld, p0.ghave, v1, h, A1, ⟨⟨rfl, rfl, trivial⟩, (.one .here .nil)⟩⟩
  · rintro n45 t m ⟨l39, a41, a42, i43, v38, h, A40, hF⟩
    refine wc_fit hF ?_
    clear hF
    rcases n45 with _ | n45
    · exact none_i h
    have h : sha512_Digest_Write_b1 z3 (sha512_Digest_Write_l1 z3 n45) l39 a41 a42 i43 = some r := h
    unfold sha512_Digest_Write_b1 at h
    obtain ⟨k44, qk44⟩ : ∃ k, k = sha512_Digest_Write_l1 z3 n45 := ⟨_, rfl⟩
    try rw [← qk44] at h
    refine wc_seq ?_
    refine wc_seq ?_
    refine wc_ops ?_
    refine wj_q _ (q_mv rfl) ?_
    refine wj_q _ (q_lenP rfl (Shp.rd A40.1)) ?_
    refine wj_q _ (q_bin rfl rfl rfl) ?_
    refine wj_nil ?_
    refine wc_if (c := (decide ((l39.length : Int) > 0))) rfl (fun d47 => ?_) (fun d47 => ?_)
    · have h := br_t h d47
      refine wc_skip ?_
      refine wc_block ?_
      refine wc_seq ?_
      revert h
      refine chk_i fun c49 => ?_
      refine bnd_i fun l50 el50 => ?_
      intro h
      refine wc_draw ?_
      refine ws_p1 _ (q_mv rfl) ?_
      refine ws_p1 _ (q_nilc rfl) ?_
      refine ws_p1 _ (q_fa rfl) ?_
      refine ws_p1 _ (q_mv rfl) ?_
      refine ws_p1 _ (q_nilc rfl) ?_
      refine ws_p1 _ (q_fa rfl) ?_
      refine ws_p1 _ (q_mv rfl) ?_
      refine ws_q1 _ (q_ld1 rfl .here rfl) ?_
      refine ws_p1 _ (q_sla rfl (.yes rfl) .no .no (by simp) (cut4 c49)) ?_
      refine ws_eL rfl (ef_cpyB (q := [.ints .u64 8 (a41), .ints .u8 128 (l50), .one (.int .i64 (i43)), .one (.int .u64 (z3))]) (lo := (i43).toNat) (hi := 128) (mz := 128) (base := 8) el50 rfl rfl (rd_arg A40.1 A40.2) rfl (cutn c49) rfl .here ?_)
      refine ws_p1 _ (q_mv rfl) ?_
      refine ws_nil ?_
      refine wc_seq ?_
      revert h
      refine chk_i fun c52 => ?_
      intro h
      refine wc_ops ?_
      refine wj_q _ (q_mv rfl) ?_
      refine wj_q _ (q_mv rfl) ?_
      refine wj_q _ (q_slsP (lz := ((Nat.min l39.length (128 - (i43).toNat) : Nat) : Int)) (hz := (l39.length : Int)) rfl (Shp.rd A40.1) (.yes rfl) .no c52) ?_
      refine wj_q _ (q_mv rfl) ?_
      refine wj_nil ?_
      refine wc_seq ?_
      revert h
      refine bnd_i fun z54 ez54 => ?_
      intro h
      refine wc_ops ?_
      refine wj_q _ (q_mv rfl) ?_
      refine wj_q _ (q_nilc rfl) ?_
      refine wj_q _ (q_fa rfl) ?_
      refine wj_q _ (q_ld1 rfl .here rfl) ?_
      refine wj_q _ (q_mv rfl) ?_
      refine wj_q _ (iz ez54 (q_bin rfl rfl rfl)) ?_
      refine wj_q _ (q_nilc rfl) ?_
      refine wj_q _ (q_fa rfl) ?_
      refine wj_e (ef_st1 (q := [.ints .u64 8 (a41), .ints .u8 128 (l50), .one (.int .i64 (z54)), .one (.int .u64 (z3))]) rfl rfl rfl rfl .here ?_)
      refine wj_nil ?_
      refine wc_seq ?_
      refine wc_ops ?_
      refine wj_q _ (q_mv rfl) ?_
      refine wj_q _ (q_nilc rfl) ?_
      refine wj_q _ (q_fa rfl) ?_
      refine wj_q _ (q_ld1 rfl .here rfl) ?_
      refine wj_q _ (q_bin rfl rfl rfl) ?_
      refine wj_nil ?_
      refine wc_if (c := (z54 == 128)) rfl (fun d56 => ?_) (fun d56 => ?_)
      · have h := br_t h d56
        refine wc_seq ?_
        revert h
        refine opt_i fun y58 ey58 => ?_
        intro h
        refine wc_draw ?_
        refine ws_p1 _ (q_mv rfl) ?_
        refine ws_p1 _ (q_mv rfl) ?_
        refine ws_p1 _ (q_nilc rfl) ?_
        refine ws_p1 _ (q_fa rfl) ?_
        refine ws_p1 _ (q_mv rfl) ?_
        refine ws_p1 _ (q_nilc rfl) ?_
        refine ws_p1 _ (q_fa rfl) ?_
        refine ws_q1 _ (q_ld (p := [.ints .u64 8 (a41)]) rfl .here rfl) ?_
        refine ws_q1 _ (q_ld (p := [.ints .u8 128 (l50)]) rfl .here rfl) ?_
        refine ws_p1 _ (q_call (vs := [agg [.ints .u64 8 (a41)], agg [.ints .u8 128 (l50)]]) (v := agg [.ints .u64 8 (y58)]) rfl (fun w hw => sha512_Block_spec (r := y58) (p0 := a41) (p1 := l50) ey58 (hG.at hw hS))) ?_
        refine ws_p1 _ (q_nilc rfl) ?_
        refine ws_p1 _ (q_fa rfl) ?_
        refine ws_eL rfl (ef_st (q := [.ints .u64 8 (y58), .ints .u8 128 (l50), .one (.int .i64 (z54)), .one (.int .u64 (z3))]) rfl rfl rfl rfl rfl .here ?_)
        refine ws_nil ?_
        refine wc_ops ?_
        refine wj_q _ (q_mv rfl) ?_
        refine wj_q _ (q_nilc rfl) ?_
        refine wj_q _ (q_fa rfl) ?_
        refine wj_e (ef_st1 (q := [.ints .u64 8 (y58), .ints .u8 128 (l50), .one (.int .i64 (0)), .one (.int .u64 (z3))]) rfl rfl rfl rfl .here ?_)
        refine wj_nil ?_
        rw [qk44] at h
        exact ⟨n45, Nat.lt_succ_self _, ((l39.drop (((Nat.min l39.length (128 - (i43).toNat) : Nat) : Int)).toNat).take (((l39.length : Int)).toNat - (((Nat.min l39.length (128 - (i43).toNat) : Nat) : Int)).toNat)), y58, l50, 0, (cutSl 1 v38 (((Nat.min l39.length (128 - (i43).toNat) : Nat) : Int)).toNat ((l39.length : Int)).toNat), h, (rdcutS A40 (lz := ((Nat.min l39.length (128 - (i43).toNat) : Nat) : Int)) (hz := (l39.length : Int)) c52), ⟨⟨rfl, rfl, trivial⟩, (.one .here .nil)⟩⟩
      · have h := br_f h d56
        refine wc_skip ?_
        rw [qk44] at h
        exact ⟨n45, Nat.lt_succ_self _, ((l39.drop (((Nat.min l39.length (128 - (i43).toNat) : Nat) : Int)).toNat).take (((l39.length : Int)).toNat - (((Nat.min l39.length (128 - (i43).toNat) : Nat) : Int)).toNat)), a41, l50, z54, (cutSl 1 v38 (((Nat.min l39.length (128 - (i43).toNat) : Nat) : Int)).toNat ((l39.length : Int)).toNat), h, (rdcutS A40 (lz := ((Nat.min l39.length (128 - (i43).toNat) : Nat) : Int)) (hz := (l39.length : Int)) c52), ⟨⟨rfl, rfl, trivial⟩, (.one .here .nil)⟩⟩
    · have h := br_f h d47
      refine wc_exit _ rfl ?_
      revert h; refine ret_i fun h => ?_
      subst h
      exact ⟨_, _, .nil, (.one .here .nil), ⟨_, rfl, ⟨rfl, rfl⟩⟩⟩
end Go.Proofs.YtiflckckekjbnaaDoor
/- Mirrors. -/
namespace Go.Proofs.YtiflckckekjbnaaDoor
open Go Go.Sx Go.RowKit
set_option linter.all false
set_option maxHeartbeats 400000
set_option maxRecDepth 100000
/- farebox/bits.StoreLE[uint64] -/
def bits_StoreLE_uint64_b1 (z4 : Int) (k66 : (List (Int)) → Option ((List Int))) (k104 : (Int) → (Int) → (List (Int)) → Option ((List Int))) (i98 : Int) (i99 : Int) (l102 : List (Int)) : Option ((List Int)) :=
 br ((decide (i99 < ((List.replicate (z4).toNat 0 : List (Int)).length : Int)))) (
 bnd (IntKind.wrap .u8 i98) fun z110 =>
 chk (inB i99 l102.length) <|
 bnd (setG 0 l102 (i99).toNat z110) fun l112 =>
 bnd (shrV .u64 i98 8) fun z116 =>
 bnd (IntKind.wrap .i64 (i99 + 1)) fun z118 =>
 k104 z116 z118 l112
 ) (
 k66 l102
 )
def bits_StoreLE_uint64_l1 (z4 : Int) (k66 : (List (Int)) → Option ((List Int))) : Nat → (Int) → (Int) → (List (Int)) → Option ((List Int))
  | 0, _, _, _ => none
  | n + 1, i98, i99, l102 => bits_StoreLE_uint64_b1 z4 k66 (bits_StoreLE_uint64_l1 z4 k66 n) i98 i99 l102
def bits_StoreLE_uint64 (p0 : Int) : Option ((List Int)) :=
 opt (bits_width_uint64) fun y3 =>
 bnd (IntKind.wrap .i64 (Int.tdiv y3 8)) fun z4 =>
 chk (mkB 1 z4 z4) <|
 jn (fun (l64 : List (Int)) => some l64) fun k66 => bits_StoreLE_uint64_l1 z4 k66 big p0 0 (List.replicate (z4).toNat 0 : List (Int))
theorem bits_StoreLE_uint64_spec {W : World} {r : (List Int)} {p0 : Int} (h : bits_StoreLE_uint64 p0 = some r)  :
    Calls Tryd.prog 100 [.int .u64 (p0)].toArray W (retS W [] (fun v Ms => ∃ (u0 : Value) (M0 : List Chunk), v = u0 ∧ Ms = [.all M0] ∧ OwnSl (El.int .u8) u0 M0 r)) := by
  unfold bits_StoreLE_uint64 at h
  refine calls_memT mo ok100 rfl (sat0 _) ?_
  refine wc_seq ?_
  refine wc_ops ?_
  refine wj_q _ (q_mv rfl) ?_
  refine wj_nil ?_
  refine wc_seq ?_
  revert h
  refine opt_i fun y3 ey3 => ?_
  refine bnd_i fun z4 ez4 => ?_
  refine chk_i fun c5 => ?_
  intro h
  refine wc_ops ?_
  refine wj_q _ (q_call (vs := []) (v := .int .i64 (y3)) rfl (fun w hw => bits_width_uint64_spec (r := y3) ey3 )) ?_
  refine wj_q _ (iz ez4 (q_quo rfl rfl (by decide))) ?_
  refine wj_e (ef_mksO (E := (El.int .u8)) rfl rfl rfl c5 fun v6 ms7 O8 => ?_)
  refine wj_q _ (q_mv rfl) ?_
  refine wj_nil ?_
  refine wc_seq ?_
  refine wc_seq ?_
  refine wc_ops ?_
  refine wj_q _ (q_mv rfl) ?_
  refine wj_q _ (q_lenP rfl (Shp.own O8)) ?_
  refine wj_q _ (q_mv rfl) ?_
  refine wj_nil ?_
  revert h
  refine jn_i fun k66 qk66 => ?_
  intro h
  refine wc_mono2 (G := fun t m => ∃ (l64 : List (Int)) (v62 : Value) (ms63 : List Chunk), k66 l64 = some r ∧ OwnSl (El.int .u8) v62 ms63 l64 ∧ Fit [(3, v62)] (ms63 ++ []) t m) ?_ ?_
  · refine wc_block ?_
    refine wc_loopJ (fun n105 t m => ∃ (i98 : Int) (i99 : Int) (l102 : List (Int)) (v100 : Value) (ms101 : List Chunk), bits_StoreLE_uint64_l1 z4 k66 n105 i98 i99 l102 = some r ∧ OwnSl (El.int .u8) v100 ms101 l102 ∧ Fit [(0, .int .u64 (i98)), (3, v100), (9, .int .i64 (((List.replicate (z4).toNat 0 : List (Int)).length : Int))), (10, .int .i64 (i99))] (ms101 ++ []) t m) big ?_ ?_
    · exact ⟨p0, 0, (List.replicate (z4).toNat 0 : List (Int)), v6, ms7, h, O8, ⟨⟨rfl, rfl, rfl, rfl, trivial⟩, (.all .here .nil)⟩⟩
    · rintro n105 t m ⟨i98, i99, l102, v100, ms101, h, O103, hF⟩
      refine wc_fit hF ?_
      clear hF
      rcases n105 with _ | n105
      · exact none_i h
      have h : bits_StoreLE_uint64_b1 z4 k66 (bits_StoreLE_uint64_l1 z4 k66 n105) i98 i99 l102 = some r := h
      unfold bits_StoreLE_uint64_b1 at h
      obtain ⟨k104, qk104⟩ : ∃ k, k = bits_StoreLE_uint64_l1 z4 k66 n105 := ⟨_, rfl⟩
      try rw [← qk104] at h
      refine wc_seq ?_
      refine wc_ops ?_
      refine wj_q _ (q_bin rfl rfl rfl) ?_
      refine wj_nil ?_
      refine wc_seq ?_
      refine wc_if (c := (decide (i99 < ((List.replicate (z4).toNat 0 : List (Int)).length : Int)))) rfl (fun d107 => ?_) (fun d107 => ?_)
      · have h := br_t h d107
        refine wc_skip ?_
        refine wc_seq ?_
        refine wc_block ?_
        refine wc_seq ?_
        refine wc_ops ?_
        refine wj_q _ (q_mv rfl) ?_
        refine wj_q _ (q_mv rfl) ?_
        refine wj_nil ?_
        refine wc_seq ?_
        revert h
        refine bnd_i fun z110 ez110 => ?_
        refine chk_i fun c111 => ?_
        refine bnd_i fun l112 el112 => ?_
        intro h
        refine wc_ops ?_
        refine wj_q _ (q_mv rfl) ?_
        refine wj_q _ (q_mv rfl) ?_
        refine wj_q _ (q_mv rfl) ?_
        refine wj_q _ (iz ez110 (q_conv rfl)) ?_
        refine wj_q _ (q_iasP rfl rfl (Shp.own O103) c111) ?_
        refine wj_e (ef_stO (E := (El.int .u8)) el112 O103 .here rfl rfl rfl (inB_n c111) fun ms113 O114 => ?_)
        refine wj_nil ?_
        revert h
        refine bnd_i fun z116 ez116 => ?_
        intro h
        refine wc_ops ?_
        refine wj_q _ (q_mv rfl) ?_
        refine wj_q _ (iz ez116 (q_shr rfl rfl (by decide))) ?_
        refine wj_q _ (q_mv rfl) ?_
        refine wj_nil ?_
        revert h
        refine bnd_i fun z118 ez118 => ?_
        intro h
        refine wc_ops ?_
        refine wj_q _ (iz ez118 (q_bin rfl rfl rfl)) ?_
        refine wj_q _ (q_mv rfl) ?_
        refine wj_nil ?_
        rw [qk104] at h
        exact ⟨n105, Nat.lt_succ_self _, z116, z118, l112, v100, ms113, h, O114, ⟨⟨rfl, rfl, rfl, rfl, trivial⟩, (.all .here .nil)⟩⟩
      · have h := br_f h d107
        refine wc_exit _ rfl ?_
        exact ⟨l102, v100, ms101, h, O103, ⟨⟨rfl, trivial⟩, (.all .here .nil)⟩⟩
  · rintro t m ⟨l64, v62, ms63, h, O65, hF⟩
    refine wc_fit hF ?_
    clear hF
    subst qk66
    refine wc_seq ?_
    refine wc_ops ?_
    refine wj_q _ (q_mv rfl) ?_
    refine wj_q _ (q_mv rfl) ?_
    refine wj_nil ?_
    refine wc_ret ?_
    revert h; refine ret_i fun h => ?_
    subst h
    exact ⟨_, _, (.cons (.tmp rfl) .nil), (.all .here .nil), ⟨_, rfl, ⟨v62, ms63, rfl, rfl, O65⟩⟩⟩
/- farebox/scalar.store -/
def scalar_store_b1 (p0 : List Int) (k60 : (List Int) → Option ((List Int))) (k94 : (Int) → (List Int) → Option ((List Int))) (i92 : Int) (a93 : List Int) : Option ((List Int)) :=
 br ((decide (i92 < 4))) (
 chk (inB i92 4) <|
 bnd (p0.getD (i92).toNat 0) fun z100 =>
 bnd (IntKind.wrap .i64 (8 * i92)) fun z102 =>
 chk (cutB z102 32 32) <|
 opt (bits_StoreLE_uint64 z100) fun y104 =>
 bnd (wr a93 (z102).toNat (y104.take (32 - (z102).toNat))) fun l110 =>
 bnd (IntKind.wrap .i64 (i92 + 1)) fun z112 =>
 k94 z112 l110
 ) (
 k60 a93
 )
def scalar_store_l1 (p0 : List Int) (k60 : (List Int) → Option ((List Int))) : Nat → (Int) → (List Int) → Option ((List Int))
  | 0, _, _ => none
  | n + 1, i92, a93 => scalar_store_b1 p0 k60 (scalar_store_l1 p0 k60 n) i92 a93
def scalar_store (p0 : List Int) : Option ((List Int)) :=
 jn (fun (a59 : List Int) => some a59) fun k60 => scalar_store_l1 p0 k60 big 0 (List.replicate 32 0)
theorem scalar_store_spec {W : World} {r : (List Int)} {p0 : List Int} (h : scalar_store p0 = some r)  :
    Calls Tryd.prog 82 [agg [.ints .u64 4 (p0)]].toArray W (ret1 W (agg [.ints .u8 32 (r)])) := by
  unfold scalar_store at h
  refine calls_val mo ok82 rfl ?_
  refine wc_seq ?_
  refine wc_ops ?_
  refine wj_e (ef_bx (s := [.ints .u64 4 (p0)]) rfl fun b2 hb2 => ?_)
  refine wj_e (ef_al fun b3 hb3 => ?_)
  refine wj_nil ?_
  refine wc_seq ?_
  refine wc_ops ?_
  refine wj_e (ef_al fun b5 hb5 => ?_)
  refine wj_nil ?_
  refine wc_seq ?_
  refine wc_seq ?_
  refine wc_ops ?_
  refine wj_q _ (q_ld (p := [.ints .u64 4 (p0)]) rfl (.there (.there .here)) rfl) ?_
  refine wj_q _ (q_mv rfl) ?_
  refine wj_nil ?_
  revert h
  refine jn_i fun k60 qk60 => ?_
  intro h
  refine wc_mono2 (G := fun t m => ∃ (a59 : List Int), k60 a59 = some r ∧ Fit [(2, .pointer (some ⟨b3, 0, none⟩)), (3, .pointer (some ⟨b5, 0, none⟩))] (ck b5 63 [.ints .u8 32 (a59)] :: (ck b3 63 [.ints .u8 32 ((List.replicate 32 0))] :: (ck b2 93 [.ints .u64 4 (p0)] :: []))) t m) ?_ ?_
  · refine wc_block ?_
    refine wc_loopJ (fun n95 t m => ∃ (i92 : Int) (a93 : List Int), scalar_store_l1 p0 k60 n95 i92 a93 = some r ∧ Fit [(2, .pointer (some ⟨b3, 0, none⟩)), (3, .pointer (some ⟨b5, 0, none⟩)), (6, agg [.ints .u64 4 (p0)]), (7, .int .i64 (i92))] (ck b5 63 [.ints .u8 32 (a93)] :: (ck b3 63 [.ints .u8 32 ((List.replicate 32 0))] :: (ck b2 93 [.ints .u64 4 (p0)] :: []))) t m) big ?_ ?_
    · exact ⟨0, (List.replicate 32 0), h, ⟨⟨rfl, rfl, rfl, rfl, trivial⟩, (.one .here (.one .here (.one .here .nil)))⟩⟩
    · rintro n95 t m ⟨i92, a93, h, hF⟩
      refine wc_fit hF ?_
      clear hF
      rcases n95 with _ | n95
      · exact none_i h
      have h : scalar_store_b1 p0 k60 (scalar_store_l1 p0 k60 n95) i92 a93 = some r := h
      unfold scalar_store_b1 at h
      obtain ⟨k94, qk94⟩ : ∃ k, k = scalar_store_l1 p0 k60 n95 := ⟨_, rfl⟩
      try rw [← qk94] at h
      refine wc_seq ?_
      refine wc_ops ?_
      refine wj_q _ (q_bin rfl rfl rfl) ?_
      refine wj_nil ?_
      refine wc_seq ?_
      refine wc_if (c := (decide (i92 < 4))) rfl (fun d97 => ?_) (fun d97 => ?_)
      · have h := br_t h d97
        refine wc_skip ?_
        refine wc_seq ?_
        refine wc_block ?_
        refine wc_seq ?_
        revert h
        refine chk_i fun c99 => ?_
        refine bnd_i fun z100 ez100 => ?_
        intro h
        refine wc_ops ?_
        refine wj_q _ (q_mv rfl) ?_
        refine wj_q _ (iz ez100 (q_idxi (len := 4) rfl rfl (inB_z c99))) ?_
        refine wj_q _ (q_mv rfl) ?_
        refine wj_q _ (q_mv rfl) ?_
        refine wj_nil ?_
        revert h
        refine bnd_i fun z102 ez102 => ?_
        refine chk_i fun c103 => ?_
        refine opt_i fun y104 ey104 => ?_
        refine bnd_i fun l110 el110 => ?_
        intro h
        refine wc_draw ?_
        refine ws_p1 _ (q_mv rfl) ?_
        refine ws_p1 _ (iz ez102 (q_bin rfl rfl rfl)) ?_
        refine ws_p1 _ (q_sla rfl (.yes rfl) .no .no (by simp) (cut4 c103)) ?_
        refine ws_p1 _ (q_mv rfl) ?_
        refine ws_e1 (ef_callS0 rfl (fun w hw => bits_StoreLE_uint64_spec (r := y104) (p0 := z100) ey104 ) fun v105 Msv105 R106 => ?_)
        obtain ⟨_, ms108, rfl, rfl, O109⟩ := R106
        refine ⟨(by repeat (first | exact Sup.refl _ | apply Sup.cons | apply Sup.app)), ?_⟩
        refine ws_eL rfl (ef_cpyB (q := [.ints .u8 32 (l110)]) (lo := (z102).toNat) (hi := 32) (mz := 32) (base := 0) el110 rfl rfl (rd_own O109 .here) rfl (cutn c103) rfl (.app .here) ?_)
        refine ws_nil ?_
        revert h
        refine bnd_i fun z112 ez112 => ?_
        intro h
        refine wc_ops ?_
        refine wj_q _ (iz ez112 (q_bin rfl rfl rfl)) ?_
        refine wj_q _ (q_mv rfl) ?_
        refine wj_nil ?_
        rw [qk94] at h
        exact ⟨n95, Nat.lt_succ_self _, z112, l110, h, ⟨⟨rfl, rfl, rfl, rfl, trivial⟩, (.one (.app .here) (.one (.app .here) (.one (.app .here) .nil)))⟩⟩
      · have h := br_f h d97
        refine wc_exit _ rfl ?_
        exact ⟨a93, h, ⟨⟨rfl, rfl, trivial⟩, (.one .here (.one .here (.one .here .nil)))⟩⟩
  · rintro t m ⟨a59, h, hF⟩
    refine wc_fit hF ?_
    clear hF
    subst qk60
    refine wc_seq ?_
    refine wc_ops ?_
    refine wj_q _ (q_ld (p := [.ints .u8 32 (a59)]) rfl .here rfl) ?_
    refine wj_e (ef_st (q := [.ints .u8 32 (a59)]) rfl rfl rfl rfl rfl (.there .here) ?_)
    refine wj_nil ?_
    refine wc_ret ?_
    revert h; refine ret_i fun h => ?_
    subst h
    exact ⟨_, (.cons (.agg rfl (.there .here) rfl) .nil), rfl⟩
/- farebox/scalar.plus -/
def scalar_plus_b1 (p1 : List Int) (k57 : (Int) → (List Int) → Option ((List Int) × Int)) (k89 : (Int) → (Int) → (List Int) → Option ((List Int) × Int)) (i86 : Int) (i87 : Int) (a88 : List Int) : Option ((List Int) × Int) :=
 br ((decide (i87 < 4))) (
 chk (inB i87 4) <|
 chk (inB i87 4) <|
 bnd (a88.getD (i87).toNat 0) fun z97 =>
 bnd (p1.getD (i87).toNat 0) fun z98 =>
 chk (addOk z97 z98 i86) <|
 bnd (addLo z97 z98 i86) fun z100 =>
 bnd (addHi z97 z98 i86) fun z101 =>
 chk (inB i87 4) <|
 bnd (setD a88 (i87).toNat z100) fun l103 =>
 bnd (IntKind.wrap .i64 (i87 + 1)) fun z105 =>
 k89 z101 z105 l103
 ) (
 k57 i86 a88
 )
def scalar_plus_l1 (p1 : List Int) (k57 : (Int) → (List Int) → Option ((List Int) × Int)) : Nat → (Int) → (Int) → (List Int) → Option ((List Int) × Int)
  | 0, _, _, _ => none
  | n + 1, i86, i87, a88 => scalar_plus_b1 p1 k57 (scalar_plus_l1 p1 k57 n) i86 i87 a88
def scalar_plus (p0 : List Int) (p1 : List Int) : Option ((List Int) × Int) :=
 jn (fun (i55 : Int) (a56 : List Int) => some (a56, i55)) fun k57 => scalar_plus_l1 p1 k57 big 0 0 p0
theorem scalar_plus_spec {W : World} {r : (List Int) × Int} {p0 : List Int} {p1 : List Int} (h : scalar_plus p0 p1 = some r)  :
    Calls Tryd.prog 89 [agg [.ints .u64 4 (p0)], agg [.ints .u64 4 (p1)]].toArray W (ret1 W (.tuple #[agg [.ints .u64 4 (r.1)], .int .u64 (r.2)])) := by
  unfold scalar_plus at h
  refine calls_val mo ok89 rfl ?_
  refine wc_seq ?_
  refine wc_ops ?_
  refine wj_e (ef_bx (s := [.ints .u64 4 (p0)]) rfl fun b2 hb2 => ?_)
  refine wj_e (ef_bx (s := [.ints .u64 4 (p1)]) rfl fun b3 hb3 => ?_)
  refine wj_e (ef_al fun b4 hb4 => ?_)
  refine wj_q _ (q_mv rfl) ?_
  refine wj_nil ?_
  refine wc_seq ?_
  refine wc_ops ?_
  refine wj_q _ (q_mv rfl) ?_
  refine wj_nil ?_
  refine wc_seq ?_
  refine wc_seq ?_
  refine wc_ops ?_
  refine wj_q _ (q_mv rfl) ?_
  refine wj_nil ?_
  revert h
  refine jn_i fun k57 qk57 => ?_
  intro h
  refine wc_mono2 (G := fun t m => ∃ (i55 : Int) (a56 : List Int), k57 i55 a56 = some r ∧ Fit [(2, .pointer (some ⟨b2, 0, none⟩)), (4, .pointer (some ⟨b4, 0, none⟩)), (6, .int .u64 (i55))] (ck b4 93 [.ints .u64 4 ((List.replicate 4 0))] :: (ck b3 93 [.ints .u64 4 (p1)] :: (ck b2 93 [.ints .u64 4 (a56)] :: []))) t m) ?_ ?_
  · refine wc_block ?_
    refine wc_loopJ (fun n90 t m => ∃ (i86 : Int) (i87 : Int) (a88 : List Int), scalar_plus_l1 p1 k57 n90 i86 i87 a88 = some r ∧ Fit [(2, .pointer (some ⟨b2, 0, none⟩)), (3, .pointer (some ⟨b3, 0, none⟩)), (4, .pointer (some ⟨b4, 0, none⟩)), (6, .int .u64 (i86)), (8, .int .i64 (i87))] (ck b4 93 [.ints .u64 4 ((List.replicate 4 0))] :: (ck b3 93 [.ints .u64 4 (p1)] :: (ck b2 93 [.ints .u64 4 (a88)] :: []))) t m) big ?_ ?_
    · exact ⟨0, 0, p0, h, ⟨⟨rfl, rfl, rfl, rfl, rfl, trivial⟩, (.one .here (.one .here (.one .here .nil)))⟩⟩
    · rintro n90 t m ⟨i86, i87, a88, h, hF⟩
      refine wc_fit hF ?_
      clear hF
      rcases n90 with _ | n90
      · exact none_i h
      have h : scalar_plus_b1 p1 k57 (scalar_plus_l1 p1 k57 n90) i86 i87 a88 = some r := h
      unfold scalar_plus_b1 at h
      obtain ⟨k89, qk89⟩ : ∃ k, k = scalar_plus_l1 p1 k57 n90 := ⟨_, rfl⟩
      try rw [← qk89] at h
      refine wc_seq ?_
      refine wc_ops ?_
      refine wj_q _ (q_bin rfl rfl rfl) ?_
      refine wj_nil ?_
      refine wc_seq ?_
      refine wc_if (c := (decide (i87 < 4))) rfl (fun d92 => ?_) (fun d92 => ?_)
      · have h := br_t h d92
        refine wc_skip ?_
        refine wc_seq ?_
        refine wc_block ?_
        refine wc_seq ?_
        refine wc_ops ?_
        refine wj_q _ (q_mv rfl) ?_
        refine wj_q _ (q_mv rfl) ?_
        refine wj_nil ?_
        revert h
        refine chk_i fun c95 => ?_
        refine chk_i fun c96 => ?_
        refine bnd_i fun z97 ez97 => ?_
        refine bnd_i fun z98 ez98 => ?_
        refine chk_i fun c99 => ?_
        refine bnd_i fun z100 ez100 => ?_
        refine bnd_i fun z101 ez101 => ?_
        refine chk_i fun c102 => ?_
        refine bnd_i fun l103 el103 => ?_
        intro h
        refine wc_draw ?_
        refine ws_p1 _ (q_mv rfl) ?_
        refine ws_p1 _ (q_mv rfl) ?_
        refine ws_p1 _ (q_ia rfl rfl (inB_z c95)) ?_
        refine ws_p1 _ (q_mv rfl) ?_
        refine ws_p1 _ (q_ia rfl rfl (inB_z c96)) ?_
        refine ws_p1 _ (q_mv rfl) ?_
        refine ws_q1 _ (iz ez97 (q_ldi (base := 0) rfl (.there (.there .here)) rfl (inB_n c95))) ?_
        refine ws_q1 _ (iz ez98 (q_ldi (base := 0) rfl (.there .here) rfl (inB_n c96))) ?_
        refine ws_p1 _ (q_xcall rfl ext_add (xadd ez100 ez101 c99)) ?_
        refine ws_p1 _ (q_mv rfl) ?_
        refine ws_p1 _ (q_ext rfl rfl) ?_
        refine ws_p1 _ (q_ext rfl rfl) ?_
        refine ws_p1 _ (q_ia rfl rfl (inB_z c102)) ?_
        refine ws_eL rfl (ef_stiz (q := [.ints .u64 4 (l103)]) (base := 0) el103 rfl rfl rfl (inB_n c102) rfl (.there (.there .here)) ?_)
        refine ws_p1 _ (q_mv rfl) ?_
        refine ws_nil ?_
        revert h
        refine bnd_i fun z105 ez105 => ?_
        intro h
        refine wc_ops ?_
        refine wj_q _ (iz ez105 (q_bin rfl rfl rfl)) ?_
        refine wj_q _ (q_mv rfl) ?_
        refine wj_nil ?_
        rw [qk89] at h
        exact ⟨n90, Nat.lt_succ_self _, z101, z105, l103, h, ⟨⟨rfl, rfl, rfl, rfl, rfl, trivial⟩, (.one .here (.one .here (.one .here .nil)))⟩⟩
      · have h := br_f h d92
        refine wc_exit _ rfl ?_
        exact ⟨i86, a88, h, ⟨⟨rfl, rfl, rfl, trivial⟩, (.one .here (.one .here (.one .here .nil)))⟩⟩
  · rintro t m ⟨i55, a56, h, hF⟩
    refine wc_fit hF ?_
    clear hF
    subst qk57
    refine wc_seq ?_
    refine wc_ops ?_
    refine wj_q _ (q_ld (p := [.ints .u64 4 (a56)]) rfl (.there (.there .here)) rfl) ?_
    refine wj_q _ (q_mv rfl) ?_
    refine wj_e (ef_st (q := [.ints .u64 4 (a56)]) rfl rfl rfl rfl rfl .here ?_)
    refine wj_q _ (q_mv rfl) ?_
    refine wj_nil ?_
    refine wc_ret ?_
    revert h; refine ret_i fun h => ?_
    subst h
    exact ⟨_, (.cons (.agg rfl .here rfl) (.cons (.tmp rfl) .nil)), rfl⟩
/- farebox/scalar.below -/
def scalar_below_b2 (k297 : (List Int) → Option ((List Int))) (a491 : List Int) (k541 : Unit → Option ((List Int))) (k570 : (Int) → Option ((List Int))) (i569 : Int) : Option ((List Int)) :=
 br ((decide (i569 ≥ 0))) (
 chk (inB i569 4) <|
 chk (inB i569 4) <|
 bnd (a491.getD (i569).toNat 0) fun z577 =>
 bnd (G_order.getD (i569).toNat 0) fun z578 =>
 br ((decide (z577 < z578))) (
 k297 a491
 ) (
 chk (inB i569 4) <|
 chk (inB i569 4) <|
 bnd (a491.getD (i569).toNat 0) fun z583 =>
 bnd (G_order.getD (i569).toNat 0) fun z584 =>
 br ((decide (z583 > z584))) (
 k541 ()
 ) (
 bnd (IntKind.wrap .i64 (i569 - 1)) fun z587 =>
 k570 z587
 )
 )
 ) (
 k541 ()
 )
def scalar_below_l2 (k297 : (List Int) → Option ((List Int))) (a491 : List Int) (k541 : Unit → Option ((List Int))) : Nat → (Int) → Option ((List Int))
  | 0, _ => none
  | n + 1, i569 => scalar_below_b2 k297 a491 k541 (scalar_below_l2 k297 a491 k541 n) i569
def scalar_below_b1 (k297 : (List Int) → Option ((List Int))) (k492 : (List Int) → Option ((List Int))) (a491 : List Int) : Option ((List Int)) :=
 jn (fun (_ : Unit) => opt (scalar_minus a491 G_order) fun y589 =>
 k492 y589.1) fun k541 => scalar_below_l2 k297 a491 k541 big 3
def scalar_below_l1 (k297 : (List Int) → Option ((List Int))) : Nat → (List Int) → Option ((List Int))
  | 0, _ => none
  | n + 1, a491 => scalar_below_b1 k297 (scalar_below_l1 k297 n) a491
def scalar_below (p0 : List Int) : Option ((List Int)) :=
 jn (fun (a296 : List Int) => some a296) fun k297 => scalar_below_l1 k297 big p0
theorem scalar_below_spec {W : World} {r : (List Int)} {p0 : List Int} (h : scalar_below p0 = some r) (hG : Globs W) :
    Calls Tryd.prog 91 [agg [.ints .u64 4 (p0)]].toArray W (ret1 W (agg [.ints .u64 4 (r)])) := by
  unfold scalar_below at h
  refine calls_val mo ok91 rfl ?_
  refine wc_seq ?_
  refine wc_ops ?_
  refine wj_e (ef_bx (s := [.ints .u64 4 (p0)]) rfl fun b2 hb2 => ?_)
  refine wj_e (ef_al fun b3 hb3 => ?_)
  refine wj_nil ?_
  refine wc_scope ?_
  refine wc_seq ?_
  refine wc_lbl ?_
  refine wc_seq ?_
  revert h
  refine jn_i fun k297 qk297 => ?_
  intro h
  refine wc_mono2 (G := fun t m => ∃ (a296 : List Int), k297 a296 = some r ∧ Fit [(1, .pointer (some ⟨b2, 0, none⟩)), (2, .pointer (some ⟨b3, 0, none⟩))] (ck b3 93 [.ints .u64 4 ((List.replicate 4 0))] :: (ck b2 93 [.ints .u64 4 (a296)] :: [])) t m) ?_ ?_
  · refine wc_block ?_
    refine wc_loopJ (fun n493 t m => ∃ (a491 : List Int), scalar_below_l1 k297 n493 a491 = some r ∧ Fit [(1, .pointer (some ⟨b2, 0, none⟩)), (2, .pointer (some ⟨b3, 0, none⟩))] (ck b3 93 [.ints .u64 4 ((List.replicate 4 0))] :: (ck b2 93 [.ints .u64 4 (a491)] :: [])) t m) big ?_ ?_
    · exact ⟨p0, h, ⟨⟨rfl, rfl, trivial⟩, (.one .here (.one .here .nil))⟩⟩
    · rintro n493 t m ⟨a491, h, hF⟩
      refine wc_fit hF ?_
      clear hF
      rcases n493 with _ | n493
      · exact none_i h
      have h : scalar_below_b1 k297 (scalar_below_l1 k297 n493) a491 = some r := h
      unfold scalar_below_b1 at h
      obtain ⟨k492, qk492⟩ : ∃ k, k = scalar_below_l1 k297 n493 := ⟨_, rfl⟩
      try rw [← qk492] at h
      refine wc_block ?_
      refine wc_seq ?_
      refine wc_seq ?_
      refine wc_ops ?_
      refine wj_q _ (q_mv rfl) ?_
      refine wj_nil ?_
      revert h
      refine jn_i fun k541 qk541 => ?_
      intro h
      refine wc_mono2 (G := fun t m => k541 () = some r ∧ Fit [(1, .pointer (some ⟨b2, 0, none⟩)), (2, .pointer (some ⟨b3, 0, none⟩))] (ck b3 93 [.ints .u64 4 ((List.replicate 4 0))] :: (ck b2 93 [.ints .u64 4 (a491)] :: [])) t m) ?_ ?_
      · refine wc_block ?_
        refine wc_loopJ (fun n571 t m => ∃ (i569 : Int), scalar_below_l2 k297 a491 k541 n571 i569 = some r ∧ Fit [(1, .pointer (some ⟨b2, 0, none⟩)), (2, .pointer (some ⟨b3, 0, none⟩)), (3, .int .i64 (i569))] (ck b3 93 [.ints .u64 4 ((List.replicate 4 0))] :: (ck b2 93 [.ints .u64 4 (a491)] :: [])) t m) big ?_ ?_
        · exact ⟨3, h, ⟨⟨rfl, rfl, rfl, trivial⟩, (.one .here (.one .here .nil))⟩⟩
        · rintro n571 t m ⟨i569, h, hF⟩
          refine wc_fit hF ?_
          clear hF
          rcases n571 with _ | n571
          · exact none_i h
          have h : scalar_below_b2 k297 a491 k541 (scalar_below_l2 k297 a491 k541 n571) i569 = some r := h
          unfold scalar_below_b2 at h
          obtain ⟨k570, qk570⟩ : ∃ k, k = scalar_below_l2 k297 a491 k541 n571 := ⟨_, rfl⟩
          try rw [← qk570] at h
          refine wc_seq ?_
          refine wc_seq ?_
          refine wc_ops ?_
          refine wj_q _ (q_mv rfl) ?_
          refine wj_q _ (q_bin rfl rfl rfl) ?_
          refine wj_nil ?_
          refine wc_if (c := (decide (i569 ≥ 0))) rfl (fun d573 => ?_) (fun d573 => ?_)
          · have h := br_t h d573
            refine wc_skip ?_
            refine wc_seq ?_
            refine wc_block ?_
            refine wc_seq ?_
            refine wc_seq ?_
            revert h
            refine chk_i fun c575 => ?_
            refine chk_i fun c576 => ?_
            refine bnd_i fun z577 ez577 => ?_
            refine bnd_i fun z578 ez578 => ?_
            intro h
            refine wc_draw ?_
            refine ws_p1 _ (q_mv rfl) ?_
            refine ws_p1 _ (q_ia rfl rfl (inB_z c575)) ?_
            refine ws_p1 _ (q_mv rfl) ?_
            refine ws_p1 _ (q_ia rfl rfl (inB_z c576)) ?_
            refine ws_q1 _ (iz ez577 (q_ldi (base := 0) rfl (.there .here) rfl (inB_n c575))) ?_
            refine ws_q1 _ (iz ez578 (q_memi rfl (hG.g0) (by simp) (inB_n c576))) ?_
            refine ws_p1 _ (q_bin rfl rfl rfl) ?_
            refine ws_nil ?_
            refine wc_if (c := (decide (z577 < z578))) rfl (fun d579 => ?_) (fun d579 => ?_)
            · have h := br_t h d579
              refine wc_exit _ rfl ?_
              exact ⟨a491, h, ⟨⟨rfl, rfl, trivial⟩, (.one .here (.one .here .nil))⟩⟩
            · have h := br_f h d579
              refine wc_skip ?_
              refine wc_seq ?_
              revert h
              refine chk_i fun c581 => ?_
              refine chk_i fun c582 => ?_
              refine bnd_i fun z583 ez583 => ?_
              refine bnd_i fun z584 ez584 => ?_
              intro h
              refine wc_draw ?_
              refine ws_p1 _ (q_mv rfl) ?_
              refine ws_p1 _ (q_ia rfl rfl (inB_z c581)) ?_
              refine ws_p1 _ (q_mv rfl) ?_
              refine ws_p1 _ (q_ia rfl rfl (inB_z c582)) ?_
              refine ws_q1 _ (iz ez583 (q_ldi (base := 0) rfl (.there .here) rfl (inB_n c581))) ?_
              refine ws_q1 _ (iz ez584 (q_memi rfl (hG.g0) (by simp) (inB_n c582))) ?_
              refine ws_p1 _ (q_bin rfl rfl rfl) ?_
              refine ws_nil ?_
              refine wc_if (c := (decide (z583 > z584))) rfl (fun d585 => ?_) (fun d585 => ?_)
              · have h := br_t h d585
                refine wc_exit _ rfl ?_
                exact ⟨h, ⟨⟨rfl, rfl, trivial⟩, (.one .here (.one .here .nil))⟩⟩
              · have h := br_f h d585
                refine wc_skip ?_
                revert h
                refine bnd_i fun z587 ez587 => ?_
                intro h
                refine wc_ops ?_
                refine wj_q _ (q_mv rfl) ?_
                refine wj_q _ (iz ez587 (q_bin rfl rfl rfl)) ?_
                refine wj_q _ (q_mv rfl) ?_
                refine wj_nil ?_
                rw [qk570] at h
                exact ⟨n571, Nat.lt_succ_self _, z587, h, ⟨⟨rfl, rfl, rfl, trivial⟩, (.one .here (.one .here .nil))⟩⟩
          · have h := br_f h d573
            refine wc_exit _ rfl ?_
            exact ⟨h, ⟨⟨rfl, rfl, trivial⟩, (.one .here (.one .here .nil))⟩⟩
      · rintro t m ⟨h, hF⟩
        refine wc_fit hF ?_
        clear hF
        subst qk541
        revert h
        refine opt_i fun y589 ey589 => ?_
        intro h
        refine wc_ops ?_
        refine wj_q _ (q_ld (p := [.ints .u64 4 (a491)]) rfl (.there .here) rfl) ?_
        refine wj_q _ (q_mem (o0 := 0) (off := 0) rfl (hG.g0) (by simp) rfl) ?_
        refine wj_q _ (q_call (vs := [agg [.ints .u64 4 (a491)], agg [.ints .u64 4 (G_order)]]) (v := .tuple #[agg [.ints .u64 4 (y589.1)], .int .u64 (y589.2)]) rfl (fun w hw => scalar_minus_spec (r := y589) (p0 := a491) (p1 := G_order) ey589 )) ?_
        refine wj_q _ (q_mv rfl) ?_
        refine wj_q _ (q_ext rfl rfl) ?_
        refine wj_q _ (q_ext rfl rfl) ?_
        refine wj_e (ef_st (q := [.ints .u64 4 (y589.1)]) rfl rfl rfl rfl rfl (.there .here) ?_)
        refine wj_nil ?_
        rw [qk492] at h
        exact ⟨n493, Nat.lt_succ_self _, y589.1, h, ⟨⟨rfl, rfl, trivial⟩, (.one .here (.one .here .nil))⟩⟩
  · rintro t m ⟨a296, h, hF⟩
    refine wc_fit hF ?_
    clear hF
    subst qk297
    refine wc_seq ?_
    refine wc_ops ?_
    refine wj_q _ (q_ld (p := [.ints .u64 4 (a296)]) rfl (.there .here) rfl) ?_
    refine wj_e (ef_st (q := [.ints .u64 4 (a296)]) rfl rfl rfl rfl rfl .here ?_)
    refine wj_nil ?_
    refine wc_ret ?_
    revert h; refine ret_i fun h => ?_
    subst h
    exact ⟨_, (.cons (.agg rfl .here rfl) .nil), rfl⟩
/- farebox/scalar.times -/
def scalar_times_b2 (p1 : List Int) (i1130 : Int) (z1137 : Int) (k1245 : (List (Int)) → (Int) → Option ((List Int))) (k1315 : (List (Int)) → (Int) → (Int) → Option ((List Int))) (l1311 : List (Int)) (i1313 : Int) (i1314 : Int) : Option ((List Int)) :=
 br ((decide (i1314 < (p1.length : Int)))) (
 chk (inB i1314 p1.length) <|
 bnd (p1.getD (i1314).toNat 0) fun z1321 =>
 opt (math_bits_Mul64 z1137 z1321) fun y1323 =>
 bnd (IntKind.wrap .i64 (i1130 + i1314)) fun z1325 =>
 chk (inB z1325 l1311.length) <|
 bnd (l1311.getD (z1325).toNat 0) fun z1327 =>
 chk (addOk y1323.2 z1327 0) <|
 bnd (addLo y1323.2 z1327 0) fun z1329 =>
 bnd (addHi y1323.2 z1327 0) fun z1330 =>
 bnd (IntKind.wrap .u64 (y1323.1 + z1330)) fun z1332 =>
 chk (addOk z1329 i1313 0) <|
 bnd (addLo z1329 i1313 0) fun z1335 =>
 bnd (addHi z1329 i1313 0) fun z1336 =>
 bnd (IntKind.wrap .i64 (i1130 + i1314)) fun z1338 =>
 bnd (IntKind.wrap .u64 (z1332 + z1336)) fun z1339 =>
 chk (inB z1338 l1311.length) <|
 bnd (setG 0 l1311 (z1338).toNat z1335) fun l1341 =>
 bnd (IntKind.wrap .i64 (i1314 + 1)) fun z1345 =>
 k1315 l1341 z1339 z1345
 ) (
 k1245 l1311 i1313
 )
def scalar_times_l2 (p1 : List Int) (i1130 : Int) (z1137 : Int) (k1245 : (List (Int)) → (Int) → Option ((List Int))) : Nat → (List (Int)) → (Int) → (Int) → Option ((List Int))
  | 0, _, _, _ => none
  | n + 1, l1311, i1313, i1314 => scalar_times_b2 p1 i1130 z1137 k1245 (scalar_times_l2 p1 i1130 z1137 k1245 n) l1311 i1313 i1314
def scalar_times_b1 (p0 : List Int) (p1 : List Int) (k683 : (List (Int)) → Option ((List Int))) (k1131 : (List (Int)) → (Int) → Option ((List Int))) (l1128 : List (Int)) (i1130 : Int) : Option ((List Int)) :=
 br ((decide (i1130 < (p0.length : Int)))) (
 chk (inB i1130 p0.length) <|
 bnd (p0.getD (i1130).toNat 0) fun z1137 =>
 jn (fun (l1242 : List (Int)) (i1244 : Int) => bnd (IntKind.wrap .i64 (i1130 + (p1.length : Int))) fun z1347 =>
 chk (inB z1347 l1242.length) <|
 bnd (setG 0 l1242 (z1347).toNat i1244) fun l1349 =>
 bnd (IntKind.wrap .i64 (i1130 + 1)) fun z1353 =>
 k1131 l1349 z1353) fun k1245 => scalar_times_l2 p1 i1130 z1137 k1245 big l1128 0 0
 ) (
 k683 l1128
 )
def scalar_times_l1 (p0 : List Int) (p1 : List Int) (k683 : (List (Int)) → Option ((List Int))) : Nat → (List (Int)) → (Int) → Option ((List Int))
  | 0, _, _ => none
  | n + 1, l1128, i1130 => scalar_times_b1 p0 p1 k683 (scalar_times_l1 p0 p1 k683 n) l1128 i1130
def scalar_times (p0 : List Int) (p1 : List Int) : Option ((List Int)) :=
 bnd (IntKind.wrap .i64 ((p0.length : Int) + (p1.length : Int))) fun z3 =>
 chk (mkB 8 z3 z3) <|
 jn (fun (l681 : List (Int)) => some l681) fun k683 => scalar_times_l1 p0 p1 k683 big (List.replicate (z3).toNat 0 : List (Int)) 0
theorem scalar_times_spec {W : World} {r : (List Int)} {p0 : List Int} {p1 : List Int} {v0 : Value} {v1 : Value} (h : scalar_times p0 p1 = some r) (A0 : RdSl (El.int .u64) W v0 p0) (A1 : RdSl (El.int .u64) W v1 p1) :
    Calls Tryd.prog 92 [v0, v1].toArray W (retS W [] (fun v Ms => ∃ (u0 : Value) (M0 : List Chunk), v = u0 ∧ Ms = [.all M0] ∧ OwnSl (El.int .u64) u0 M0 r)) := by
  unfold scalar_times at h
  refine calls_memT mo ok92 rfl (sat0 _) ?_
  refine wc_seq ?_
  refine wc_ops ?_
  refine wj_q _ (q_mv rfl) ?_
  refine wj_nil ?_
  refine wc_seq ?_
  revert h
  refine bnd_i fun z3 ez3 => ?_
  refine chk_i fun c4 => ?_
  intro h
  refine wc_ops ?_
  refine wj_q _ (q_mv rfl) ?_
  refine wj_q _ (q_lenP rfl (Shp.rd A0)) ?_
  refine wj_q _ (q_mv rfl) ?_
  refine wj_q _ (q_lenP rfl (Shp.rd A1)) ?_
  refine wj_q _ (iz ez3 (q_bin rfl rfl rfl)) ?_
  refine wj_e (ef_mksO (E := (El.int .u64)) rfl rfl rfl c4 fun v5 ms6 O7 => ?_)
  refine wj_q _ (q_mv rfl) ?_
  refine wj_nil ?_
  refine wc_seq ?_
  refine wc_seq ?_
  refine wc_ops ?_
  refine wj_q _ (q_mv rfl) ?_
  refine wj_q _ (q_lenP rfl (Shp.rd A0)) ?_
  refine wj_q _ (q_mv rfl) ?_
  refine wj_nil ?_
  revert h
  refine jn_i fun k683 qk683 => ?_
  intro h
  refine wc_mono2 (G := fun t m => ∃ (l681 : List (Int)) (v679 : Value) (ms680 : List Chunk), k683 l681 = some r ∧ OwnSl (El.int .u64) v679 ms680 l681 ∧ Fit [(5, v679)] (ms680 ++ []) t m) ?_ ?_
  · refine wc_block ?_
    refine wc_loopJ (fun n1132 t m => ∃ (l1128 : List (Int)) (i1130 : Int) (v1126 : Value) (ms1127 : List Chunk), scalar_times_l1 p0 p1 k683 n1132 l1128 i1130 = some r ∧ OwnSl (El.int .u64) v1126 ms1127 l1128 ∧ Fit [(1, v1), (5, v1126), (20, v0), (21, .int .i64 ((p0.length : Int))), (22, .int .i64 (i1130))] (ms1127 ++ []) t m) big ?_ ?_
    · exact ⟨(List.replicate (z3).toNat 0 : List (Int)), 0, v5, ms6, h, O7, ⟨⟨rfl, rfl, rfl, rfl, rfl, trivial⟩, (.all .here .nil)⟩⟩
    · rintro n1132 t m ⟨l1128, i1130, v1126, ms1127, h, O1129, hF⟩
      refine wc_fit hF ?_
      clear hF
      rcases n1132 with _ | n1132
      · exact none_i h
      have h : scalar_times_b1 p0 p1 k683 (scalar_times_l1 p0 p1 k683 n1132) l1128 i1130 = some r := h
      unfold scalar_times_b1 at h
      obtain ⟨k1131, qk1131⟩ : ∃ k, k = scalar_times_l1 p0 p1 k683 n1132 := ⟨_, rfl⟩
      try rw [← qk1131] at h
      refine wc_seq ?_
      refine wc_ops ?_
      refine wj_q _ (q_bin rfl rfl rfl) ?_
      refine wj_nil ?_
      refine wc_seq ?_
      refine wc_if (c := (decide (i1130 < (p0.length : Int)))) rfl (fun d1134 => ?_) (fun d1134 => ?_)
      · have h := br_t h d1134
        refine wc_skip ?_
        refine wc_seq ?_
        refine wc_block ?_
        refine wc_seq ?_
        revert h
        refine chk_i fun c1136 => ?_
        refine bnd_i fun z1137 ez1137 => ?_
        intro h
        refine wc_ops ?_
        refine wj_q _ (q_mv rfl) ?_
        refine wj_q _ (q_iasP rfl rfl (Shp.rd A0) c1136) ?_
        refine wj_q _ (iz ez1137 (q_ldM10 (E := (El.int .u64)) (s := [.one (.int .u64 (p0.getD (i1130).toNat 0))]) rfl (rd_arg A0 apart0) (inB_n c1136) rfl rfl)) ?_
        refine wj_q _ (q_mv rfl) ?_
        refine wj_q _ (q_mv rfl) ?_
        refine wj_nil ?_
        refine wc_seq ?_
        refine wc_ops ?_
        refine wj_q _ (q_mv rfl) ?_
        refine wj_nil ?_
        refine wc_seq ?_
        refine wc_seq ?_
        refine wc_ops ?_
        refine wj_q _ (q_mv rfl) ?_
        refine wj_q _ (q_lenP rfl (Shp.rd A1)) ?_
        refine wj_q _ (q_mv rfl) ?_
        refine wj_nil ?_
        revert h
        refine jn_i fun k1245 qk1245 => ?_
        intro h
        refine wc_mono2 (G := fun t m => ∃ (l1242 : List (Int)) (i1244 : Int) (v1240 : Value) (ms1241 : List Chunk), k1245 l1242 i1244 = some r ∧ OwnSl (El.int .u64) v1240 ms1241 l1242 ∧ Fit [(1, v1), (5, v1240), (6, .int .i64 (i1130)), (8, .int .u64 (i1244)), (20, v0), (21, .int .i64 ((p0.length : Int))), (22, .int .i64 (i1130))] (ms1241 ++ []) t m) ?_ ?_
        · refine wc_block ?_
          refine wc_loopJ (fun n1316 t m => ∃ (l1311 : List (Int)) (i1313 : Int) (i1314 : Int) (v1309 : Value) (ms1310 : List Chunk), scalar_times_l2 p1 i1130 z1137 k1245 n1316 l1311 i1313 i1314 = some r ∧ OwnSl (El.int .u64) v1309 ms1310 l1311 ∧ Fit [(1, v1), (5, v1309), (6, .int .i64 (i1130)), (7, .int .u64 (z1137)), (8, .int .u64 (i1313)), (20, v0), (21, .int .i64 ((p0.length : Int))), (22, .int .i64 (i1130)), (27, v1), (28, .int .i64 ((p1.length : Int))), (29, .int .i64 (i1314))] (ms1310 ++ []) t m) big ?_ ?_
          · exact ⟨l1128, 0, 0, v1126, ms1127, h, O1129, ⟨⟨rfl, rfl, rfl, rfl, rfl, rfl, rfl, rfl, rfl, rfl, rfl, trivial⟩, (.all .here .nil)⟩⟩
          · rintro n1316 t m ⟨l1311, i1313, i1314, v1309, ms1310, h, O1312, hF⟩
            refine wc_fit hF ?_
            clear hF
            rcases n1316 with _ | n1316
            · exact none_i h
            have h : scalar_times_b2 p1 i1130 z1137 k1245 (scalar_times_l2 p1 i1130 z1137 k1245 n1316) l1311 i1313 i1314 = some r := h
            unfold scalar_times_b2 at h
            obtain ⟨k1315, qk1315⟩ : ∃ k, k = scalar_times_l2 p1 i1130 z1137 k1245 n1316 := ⟨_, rfl⟩
            try rw [← qk1315] at h
            refine wc_seq ?_
            refine wc_ops ?_
            refine wj_q _ (q_bin rfl rfl rfl) ?_
            refine wj_nil ?_
            refine wc_seq ?_
            refine wc_if (c := (decide (i1314 < (p1.length : Int)))) rfl (fun d1318 => ?_) (fun d1318 => ?_)
            · have h := br_t h d1318
              refine wc_skip ?_
              refine wc_seq ?_
              refine wc_block ?_
              refine wc_seq ?_
              revert h
              refine chk_i fun c1320 => ?_
              refine bnd_i fun z1321 ez1321 => ?_
              intro h
              refine wc_ops ?_
              refine wj_q _ (q_mv rfl) ?_
              refine wj_q _ (q_iasP rfl rfl (Shp.rd A1) c1320) ?_
              refine wj_q _ (iz ez1321 (q_ldM10 (E := (El.int .u64)) (s := [.one (.int .u64 (p1.getD (i1314).toNat 0))]) rfl (rd_arg A1 apart0) (inB_n c1320) rfl rfl)) ?_
              refine wj_q _ (q_mv rfl) ?_
              refine wj_q _ (q_mv rfl) ?_
              refine wj_nil ?_
              refine wc_seq ?_
              revert h
              refine opt_i fun y1323 ey1323 => ?_
              intro h
              refine wc_ops ?_
              refine wj_q _ (q_mv rfl) ?_
              refine wj_q _ (q_mv rfl) ?_
              refine wj_q _ (q_call (vs := [.int .u64 (z1137), .int .u64 (z1321)]) (v := .tuple #[.int .u64 (y1323.1), .int .u64 (y1323.2)]) rfl (fun w hw => math_bits_Mul64_spec (r := y1323) (p0 := z1137) (p1 := z1321) ey1323 )) ?_
              refine wj_q _ (q_mv rfl) ?_
              refine wj_q _ (q_ext rfl rfl) ?_
              refine wj_q _ (q_ext rfl rfl) ?_
              refine wj_q _ (q_mv rfl) ?_
              refine wj_q _ (q_mv rfl) ?_
              refine wj_nil ?_
              refine wc_seq ?_
              revert h
              refine bnd_i fun z1325 ez1325 => ?_
              refine chk_i fun c1326 => ?_
              refine bnd_i fun z1327 ez1327 => ?_
              refine chk_i fun c1328 => ?_
              refine bnd_i fun z1329 ez1329 => ?_
              refine bnd_i fun z1330 ez1330 => ?_
              intro h
              refine wc_ops ?_
              refine wj_q _ (q_mv rfl) ?_
              refine wj_q _ (q_mv rfl) ?_
              refine wj_q _ (q_mv rfl) ?_
              refine wj_q _ (q_mv rfl) ?_
              refine wj_q _ (iz ez1325 (q_bin rfl rfl rfl)) ?_
              refine wj_q _ (q_iasP rfl rfl (Shp.own O1312) c1326) ?_
              refine wj_q _ (iz ez1327 (q_ldM10 (E := (El.int .u64)) (s := [.one (.int .u64 (l1311.getD (z1325).toNat 0))]) rfl (rd_own O1312 .here) (inB_n c1326) rfl rfl)) ?_
              refine wj_q _ (q_xcall rfl ext_add (xadd ez1329 ez1330 c1328)) ?_
              refine wj_q _ (q_mv rfl) ?_
              refine wj_q _ (q_ext rfl rfl) ?_
              refine wj_q _ (q_ext rfl rfl) ?_
              refine wj_q _ (q_mv rfl) ?_
              refine wj_q _ (q_mv rfl) ?_
              refine wj_nil ?_
              refine wc_seq ?_
              revert h
              refine bnd_i fun z1332 ez1332 => ?_
              intro h
              refine wc_ops ?_
              refine wj_q _ (q_mv rfl) ?_
              refine wj_q _ (q_mv rfl) ?_
              refine wj_q _ (iz ez1332 (q_bin rfl rfl rfl)) ?_
              refine wj_q _ (q_mv rfl) ?_
              refine wj_nil ?_
              refine wc_seq ?_
              revert h
              refine chk_i fun c1334 => ?_
              refine bnd_i fun z1335 ez1335 => ?_
              refine bnd_i fun z1336 ez1336 => ?_
              intro h
              refine wc_ops ?_
              refine wj_q _ (q_mv rfl) ?_
              refine wj_q _ (q_mv rfl) ?_
              refine wj_q _ (q_xcall rfl ext_add (xadd ez1335 ez1336 c1334)) ?_
              refine wj_q _ (q_mv rfl) ?_
              refine wj_q _ (q_ext rfl rfl) ?_
              refine wj_q _ (q_ext rfl rfl) ?_
              refine wj_q _ (q_mv rfl) ?_
              refine wj_q _ (q_mv rfl) ?_
              refine wj_nil ?_
              revert h
              refine bnd_i fun z1338 ez1338 => ?_
              refine bnd_i fun z1339 ez1339 => ?_
              refine chk_i fun c1340 => ?_
              refine bnd_i fun l1341 el1341 => ?_
              intro h
              refine wc_ops ?_
              refine wj_q _ (q_mv rfl) ?_
              refine wj_q _ (q_mv rfl) ?_
              refine wj_q _ (q_mv rfl) ?_
              refine wj_q _ (iz ez1338 (q_bin rfl rfl rfl)) ?_
              refine wj_q _ (q_mv rfl) ?_
              refine wj_q _ (q_mv rfl) ?_
              refine wj_q _ (q_mv rfl) ?_
              refine wj_q _ (iz ez1339 (q_bin rfl rfl rfl)) ?_
              refine wj_q _ (q_iasP rfl rfl (Shp.own O1312) c1340) ?_
              refine wj_e (ef_stO (E := (El.int .u64)) el1341 O1312 .here rfl rfl rfl (inB_n c1340) fun ms1342 O1343 => ?_)
              refine wj_q _ (q_mv rfl) ?_
              refine wj_nil ?_
              revert h
              refine bnd_i fun z1345 ez1345 => ?_
              intro h
              refine wc_ops ?_
              refine wj_q _ (iz ez1345 (q_bin rfl rfl rfl)) ?_
              refine wj_q _ (q_mv rfl) ?_
              refine wj_nil ?_
              rw [qk1315] at h
              exact ⟨n1316, Nat.lt_succ_self _, l1341, z1339, z1345, v1309, ms1342, h, O1343, ⟨⟨rfl, rfl, rfl, rfl, rfl, rfl, rfl, rfl, rfl, rfl, rfl, trivial⟩, (.all .here .nil)⟩⟩
            · have h := br_f h d1318
              refine wc_exit _ rfl ?_
              exact ⟨l1311, i1313, v1309, ms1310, h, O1312, ⟨⟨rfl, rfl, rfl, rfl, rfl, rfl, rfl, trivial⟩, (.all .here .nil)⟩⟩
        · rintro t m ⟨l1242, i1244, v1240, ms1241, h, O1243, hF⟩
          refine wc_fit hF ?_
          clear hF
          subst qk1245
          revert h
          refine bnd_i fun z1347 ez1347 => ?_
          refine chk_i fun c1348 => ?_
          refine bnd_i fun l1349 el1349 => ?_
          intro h
          refine wc_ops ?_
          refine wj_q _ (q_mv rfl) ?_
          refine wj_q _ (q_mv rfl) ?_
          refine wj_q _ (q_mv rfl) ?_
          refine wj_q _ (q_lenP rfl (Shp.rd A1)) ?_
          refine wj_q _ (iz ez1347 (q_bin rfl rfl rfl)) ?_
          refine wj_q _ (q_mv rfl) ?_
          refine wj_q _ (q_iasP rfl rfl (Shp.own O1243) c1348) ?_
          refine wj_e (ef_stO (E := (El.int .u64)) el1349 O1243 .here rfl rfl rfl (inB_n c1348) fun ms1350 O1351 => ?_)
          refine wj_nil ?_
          revert h
          refine bnd_i fun z1353 ez1353 => ?_
          intro h
          refine wc_ops ?_
          refine wj_q _ (iz ez1353 (q_bin rfl rfl rfl)) ?_
          refine wj_q _ (q_mv rfl) ?_
          refine wj_nil ?_
          rw [qk1131] at h
          exact ⟨n1132, Nat.lt_succ_self _, l1349, z1353, v1240, ms1350, h, O1351, ⟨⟨rfl, rfl, rfl, rfl, rfl, trivial⟩, (.all .here .nil)⟩⟩
      · have h := br_f h d1134
        refine wc_exit _ rfl ?_
        exact ⟨l1128, v1126, ms1127, h, O1129, ⟨⟨rfl, trivial⟩, (.all .here .nil)⟩⟩
  · rintro t m ⟨l681, v679, ms680, h, O682, hF⟩
    refine wc_fit hF ?_
    clear hF
    subst qk683
    refine wc_seq ?_
    refine wc_ops ?_
    refine wj_q _ (q_mv rfl) ?_
    refine wj_q _ (q_mv rfl) ?_
    refine wj_nil ?_
    refine wc_ret ?_
    revert h; refine ret_i fun h => ?_
    subst h
    exact ⟨_, _, (.cons (.tmp rfl) .nil), (.all .here .nil), ⟨_, rfl, ⟨v679, ms680, rfl, rfl, O682⟩⟩⟩
end Go.Proofs.YtiflckckekjbnaaDoor
