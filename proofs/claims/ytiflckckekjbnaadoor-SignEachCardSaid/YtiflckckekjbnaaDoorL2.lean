/- Mirrors. -/
import Derived.Test.YtiflckckekjbnaaDoorL1
namespace Go.Proofs.YtiflckckekjbnaaDoor
open Go Go.Sx Go.RowKit
set_option linter.all false
set_option maxHeartbeats 400000
set_option maxRecDepth 100000
/- math/bits.Mul64 -/
def math_bits_Mul64 (p0 : Int) (p1 : Int) : Option (Int × Int) :=
 bnd (bitsV .and .u64 p0 4294967295) fun z3 =>
 bnd (shrV .u64 p0 32) fun z5 =>
 bnd (bitsV .and .u64 p1 4294967295) fun z7 =>
 bnd (shrV .u64 p1 32) fun z9 =>
 bnd (IntKind.wrap .u64 (z3 * z7)) fun z11 =>
 bnd (IntKind.wrap .u64 (z5 * z7)) fun z13 =>
 bnd (shrV .u64 z11 32) fun z14 =>
 bnd (IntKind.wrap .u64 (z13 + z14)) fun z15 =>
 bnd (bitsV .and .u64 z15 4294967295) fun z17 =>
 bnd (shrV .u64 z15 32) fun z19 =>
 bnd (IntKind.wrap .u64 (z3 * z9)) fun z21 =>
 bnd (IntKind.wrap .u64 (z17 + z21)) fun z22 =>
 bnd (IntKind.wrap .u64 (z5 * z9)) fun z24 =>
 bnd (IntKind.wrap .u64 (z24 + z19)) fun z25 =>
 bnd (shrV .u64 z22 32) fun z26 =>
 bnd (IntKind.wrap .u64 (z25 + z26)) fun z27 =>
 bnd (IntKind.wrap .u64 (p0 * p1)) fun z29 =>
 some (z27, z29)
theorem math_bits_Mul64_spec {W : World} {r : Int × Int} {p0 : Int} {p1 : Int} (h : math_bits_Mul64 p0 p1 = some r)  :
    Calls Tryd.prog 96 [.int .u64 (p0), .int .u64 (p1)].toArray W (ret1 W (.tuple #[.int .u64 (r.1), .int .u64 (r.2)])) := by
  unfold math_bits_Mul64 at h
  refine calls_val mo ok96 rfl ?_
  refine wc_seq ?_
  refine wc_ops ?_
  refine wj_q _ (q_mv rfl) ?_
  refine wj_q _ (q_mv rfl) ?_
  refine wj_nil ?_
  refine wc_seq ?_
  revert h
  refine bnd_i fun z3 ez3 => ?_
  intro h
  refine wc_ops ?_
  refine wj_q _ (q_mv rfl) ?_
  refine wj_q _ (iz ez3 (q_bin rfl rfl rfl)) ?_
  refine wj_q _ (q_mv rfl) ?_
  refine wj_nil ?_
  refine wc_seq ?_
  revert h
  refine bnd_i fun z5 ez5 => ?_
  intro h
  refine wc_ops ?_
  refine wj_q _ (q_mv rfl) ?_
  refine wj_q _ (iz ez5 (q_shr rfl rfl (by decide))) ?_
  refine wj_q _ (q_mv rfl) ?_
  refine wj_nil ?_
  refine wc_seq ?_
  revert h
  refine bnd_i fun z7 ez7 => ?_
  intro h
  refine wc_ops ?_
  refine wj_q _ (q_mv rfl) ?_
  refine wj_q _ (iz ez7 (q_bin rfl rfl rfl)) ?_
  refine wj_q _ (q_mv rfl) ?_
  refine wj_nil ?_
  refine wc_seq ?_
  revert h
  refine bnd_i fun z9 ez9 => ?_
  intro h
  refine wc_ops ?_
  refine wj_q _ (q_mv rfl) ?_
  refine wj_q _ (iz ez9 (q_shr rfl rfl (by decide))) ?_
  refine wj_q _ (q_mv rfl) ?_
  refine wj_nil ?_
  refine wc_seq ?_
  revert h
  refine bnd_i fun z11 ez11 => ?_
  intro h
  refine wc_ops ?_
  refine wj_q _ (q_mv rfl) ?_
  refine wj_q _ (q_mv rfl) ?_
  refine wj_q _ (iz ez11 (q_bin rfl rfl rfl)) ?_
  refine wj_q _ (q_mv rfl) ?_
  refine wj_nil ?_
  refine wc_seq ?_
  revert h
  refine bnd_i fun z13 ez13 => ?_
  refine bnd_i fun z14 ez14 => ?_
  refine bnd_i fun z15 ez15 => ?_
  intro h
  refine wc_ops ?_
  refine wj_q _ (q_mv rfl) ?_
  refine wj_q _ (q_mv rfl) ?_
  refine wj_q _ (iz ez13 (q_bin rfl rfl rfl)) ?_
  refine wj_q _ (q_mv rfl) ?_
  refine wj_q _ (iz ez14 (q_shr rfl rfl (by decide))) ?_
  refine wj_q _ (iz ez15 (q_bin rfl rfl rfl)) ?_
  refine wj_q _ (q_mv rfl) ?_
  refine wj_nil ?_
  refine wc_seq ?_
  revert h
  refine bnd_i fun z17 ez17 => ?_
  intro h
  refine wc_ops ?_
  refine wj_q _ (q_mv rfl) ?_
  refine wj_q _ (iz ez17 (q_bin rfl rfl rfl)) ?_
  refine wj_q _ (q_mv rfl) ?_
  refine wj_nil ?_
  refine wc_seq ?_
  revert h
  refine bnd_i fun z19 ez19 => ?_
  intro h
  refine wc_ops ?_
  refine wj_q _ (q_mv rfl) ?_
  refine wj_q _ (iz ez19 (q_shr rfl rfl (by decide))) ?_
  refine wj_q _ (q_mv rfl) ?_
  refine wj_nil ?_
  refine wc_seq ?_
  revert h
  refine bnd_i fun z21 ez21 => ?_
  refine bnd_i fun z22 ez22 => ?_
  intro h
  refine wc_ops ?_
  refine wj_q _ (q_mv rfl) ?_
  refine wj_q _ (q_mv rfl) ?_
  refine wj_q _ (q_mv rfl) ?_
  refine wj_q _ (iz ez21 (q_bin rfl rfl rfl)) ?_
  refine wj_q _ (iz ez22 (q_bin rfl rfl rfl)) ?_
  refine wj_q _ (q_mv rfl) ?_
  refine wj_nil ?_
  refine wc_seq ?_
  revert h
  refine bnd_i fun z24 ez24 => ?_
  refine bnd_i fun z25 ez25 => ?_
  refine bnd_i fun z26 ez26 => ?_
  refine bnd_i fun z27 ez27 => ?_
  intro h
  refine wc_ops ?_
  refine wj_q _ (q_mv rfl) ?_
  refine wj_q _ (q_mv rfl) ?_
  refine wj_q _ (iz ez24 (q_bin rfl rfl rfl)) ?_
  refine wj_q _ (q_mv rfl) ?_
  refine wj_q _ (iz ez25 (q_bin rfl rfl rfl)) ?_
  refine wj_q _ (q_mv rfl) ?_
  refine wj_q _ (iz ez26 (q_shr rfl rfl (by decide))) ?_
  refine wj_q _ (iz ez27 (q_bin rfl rfl rfl)) ?_
  refine wj_q _ (q_mv rfl) ?_
  refine wj_nil ?_
  refine wc_seq ?_
  revert h
  refine bnd_i fun z29 ez29 => ?_
  intro h
  refine wc_ops ?_
  refine wj_q _ (q_mv rfl) ?_
  refine wj_q _ (q_mv rfl) ?_
  refine wj_q _ (iz ez29 (q_bin rfl rfl rfl)) ?_
  refine wj_q _ (q_mv rfl) ?_
  refine wj_nil ?_
  refine wc_ret ?_
  revert h; refine ret_i fun h => ?_
  subst h
  exact ⟨_, (.cons (.tmp rfl) (.cons (.tmp rfl) .nil)), rfl⟩
/- (*farebox/field.wide).add -/
def field_wide_add (p0 : List Int) (o : Nat) (L : Nat) (p1 : Int) (p2 : Int) : Option ((List Int)) :=
 opt (math_bits_Mul64 p1 p2) fun y2 =>
 chk (decide (o + 1 < L)) <|
 bnd (p0.getD (o + 1) 0) fun z6 =>
 chk (addOk z6 y2.2 0) <|
 bnd (addLo z6 y2.2 0) fun z8 =>
 bnd (addHi z6 y2.2 0) fun z9 =>
 chk (decide (o + 1 < L)) <|
 bnd (setD p0 (o + 1) z8) fun l11 =>
 chk (decide (o + 0 < L)) <|
 bnd (l11.getD (o + 0) 0) fun z14 =>
 chk (addOk z14 y2.1 z9) <|
 bnd (addLo z14 y2.1 z9) fun z16 =>
 bnd (addHi z14 y2.1 z9) fun z17 =>
 chk (decide (o + 0 < L)) <|
 bnd (setD l11 (o + 0) z16) fun l19 =>
 some l19
theorem field_wide_add_spec {W : World} {r : (List Int)} {p0 : List Int} {o : Nat} {L : Nat} {p1 : Int} {p2 : Int} {b : Nat} {T : TypeId} (h : field_wide_add p0 o L p1 p2 = some r) (h0 : Sat W [b] (ck b T [.ints .u64 L (p0)] :: []) W) :
    Calls Tryd.prog 77 [.pointer (some ⟨b, o, none⟩), .int .u64 (p1), .int .u64 (p2)].toArray W (retS W [b] (fun v Ms => v = .tuple #[] ∧ Ms = [.one (ck b T [.ints .u64 L (r)])])) := by
  unfold field_wide_add at h
  refine calls_memT mo ok77 rfl h0 ?_
  refine wc_seq ?_
  revert h
  refine opt_i fun y2 ey2 => ?_
  intro h
  refine wc_ops ?_
  refine wj_q _ (q_mv rfl) ?_
  refine wj_q _ (q_mv rfl) ?_
  refine wj_q _ (q_call (vs := [.int .u64 (p1), .int .u64 (p2)]) (v := .tuple #[.int .u64 (y2.1), .int .u64 (y2.2)]) rfl (fun w hw => math_bits_Mul64_spec (r := y2) (p0 := p1) (p1 := p2) ey2 )) ?_
  refine wj_q _ (q_mv rfl) ?_
  refine wj_q _ (q_ext rfl rfl) ?_
  refine wj_q _ (q_ext rfl rfl) ?_
  refine wj_q _ (q_mv rfl) ?_
  refine wj_q _ (q_mv rfl) ?_
  refine wj_nil ?_
  refine wc_seq ?_
  refine wc_ops ?_
  refine wj_q _ (q_mv rfl) ?_
  refine wj_nil ?_
  refine wc_seq ?_
  revert h
  refine chk_i fun c5 => ?_
  refine bnd_i fun z6 ez6 => ?_
  refine chk_i fun c7 => ?_
  refine bnd_i fun z8 ez8 => ?_
  refine bnd_i fun z9 ez9 => ?_
  refine chk_i fun c10 => ?_
  refine bnd_i fun l11 el11 => ?_
  intro h
  refine wc_ops ?_
  refine wj_q _ (q_mv rfl) ?_
  refine wj_q _ (q_mv rfl) ?_
  refine wj_q _ (q_nilc rfl) ?_
  refine wj_q _ (q_fa rfl) ?_
  refine wj_q _ (q_ldxz (base := 0) (i := o + 1) ez6 rfl .here rfl (by omega) c5) ?_
  refine wj_q _ (q_mv rfl) ?_
  refine wj_q _ (q_xcall rfl ext_add (xadd ez8 ez9 c7)) ?_
  refine wj_q _ (q_mv rfl) ?_
  refine wj_q _ (q_ext rfl rfl) ?_
  refine wj_q _ (q_ext rfl rfl) ?_
  refine wj_q _ (q_nilc rfl) ?_
  refine wj_q _ (q_fa rfl) ?_
  refine wj_e (ef_stxz (base := 0) (i := o + 1) (q := [.ints .u64 L l11]) el11 rfl rfl rfl (by omega) c10 (by simp [segSet, Seg.width]) .here ?_)
  refine wj_q _ (q_mv rfl) ?_
  refine wj_nil ?_
  revert h
  refine chk_i fun c13 => ?_
  refine bnd_i fun z14 ez14 => ?_
  refine chk_i fun c15 => ?_
  refine bnd_i fun z16 ez16 => ?_
  refine bnd_i fun z17 ez17 => ?_
  refine chk_i fun c18 => ?_
  refine bnd_i fun l19 el19 => ?_
  intro h
  refine wc_ops ?_
  refine wj_q _ (q_mv rfl) ?_
  refine wj_q _ (q_mv rfl) ?_
  refine wj_q _ (q_nilc rfl) ?_
  refine wj_q _ (q_fa rfl) ?_
  refine wj_q _ (q_ldxz (base := 0) (i := o + 0) ez14 rfl .here rfl (by omega) c13) ?_
  refine wj_q _ (q_mv rfl) ?_
  refine wj_q _ (q_mv rfl) ?_
  refine wj_q _ (q_xcall rfl ext_add (xadd ez16 ez17 c15)) ?_
  refine wj_q _ (q_mv rfl) ?_
  refine wj_q _ (q_ext rfl rfl) ?_
  refine wj_q _ (q_ext rfl rfl) ?_
  refine wj_q _ (q_nilc rfl) ?_
  refine wj_q _ (q_fa rfl) ?_
  refine wj_e (ef_stxz (base := 0) (i := o + 0) (q := [.ints .u64 L l19]) el19 rfl rfl rfl (by omega) c18 (by simp [segSet, Seg.width]) .here ?_)
  refine wj_nil ?_
  revert h; refine ret_i fun h => ?_
  subst h
  exact ⟨_, _, .nil, (.one .here .nil), ⟨_, rfl, ⟨rfl, rfl⟩⟩⟩
/- farebox/field.Mul -/
def field_Mul_b2 (y7 : (List Int)) (i1369 : Int) (z1377 : Int) (k1520 : (List Int) → Option ((List Int))) (k1613 : (Int) → (List Int) → Option ((List Int))) (i1611 : Int) (a1612 : List Int) : Option ((List Int)) :=
 br ((decide (i1611 < 5))) (
 jn (fun (a1637 : List Int) => bnd (IntKind.wrap .i64 (i1611 + 1)) fun z1660 =>
 k1613 z1660 a1637) fun k1638 => chk (inB i1611 5) <|
 bnd (y7.getD (i1611).toNat 0) fun z1641 =>
 bnd (IntKind.wrap .i64 (i1369 + i1611)) fun z1643 =>
 br ((decide (z1643 < 5))) (
 bnd (IntKind.wrap .i64 (i1369 + i1611)) fun z1646 =>
 chk (inB z1646 5) <|
 opt (field_wide_add a1612 (0 + (z1646).toNat * 2) 10 z1377 z1641) fun y1648 =>
 k1638 y1648
 ) (
 bnd (IntKind.wrap .i64 (i1369 + i1611)) fun z1652 =>
 bnd (IntKind.wrap .i64 (z1652 - 5)) fun z1653 =>
 chk (inB z1653 5) <|
 bnd (IntKind.wrap .u64 (19 * z1641)) fun z1655 =>
 opt (field_wide_add a1612 (0 + (z1653).toNat * 2) 10 z1377 z1655) fun y1656 =>
 k1638 y1656
 )
 ) (
 k1520 a1612
 )
def field_Mul_l2 (y7 : (List Int)) (i1369 : Int) (z1377 : Int) (k1520 : (List Int) → Option ((List Int))) : Nat → (Int) → (List Int) → Option ((List Int))
  | 0, _, _ => none
  | n + 1, i1611, a1612 => field_Mul_b2 y7 i1369 z1377 k1520 (field_Mul_l2 y7 i1369 z1377 k1520 n) i1611 a1612
def field_Mul_b1 (y6 : (List Int)) (y7 : (List Int)) (k837 : (List Int) → Option ((List Int))) (k1371 : (Int) → (List Int) → Option ((List Int))) (i1369 : Int) (a1370 : List Int) : Option ((List Int)) :=
 br ((decide (i1369 < 5))) (
 chk (inB i1369 5) <|
 bnd (y6.getD (i1369).toNat 0) fun z1377 =>
 jn (fun (a1519 : List Int) => bnd (IntKind.wrap .i64 (i1369 + 1)) fun z1662 =>
 k1371 z1662 a1519) fun k1520 => field_Mul_l2 y7 i1369 z1377 k1520 big 0 a1370
 ) (
 k837 a1370
 )
def field_Mul_l1 (y6 : (List Int)) (y7 : (List Int)) (k837 : (List Int) → Option ((List Int))) : Nat → (Int) → (List Int) → Option ((List Int))
  | 0, _, _ => none
  | n + 1, i1369, a1370 => field_Mul_b1 y6 y7 k837 (field_Mul_l1 y6 y7 k837 n) i1369 a1370
def field_Mul_b3 (a836 : List Int) (k1742 : (Int) → (List Int) → Option ((List Int))) (k1791 : (Int) → (Int) → (List Int) → Option ((List Int))) (i1788 : Int) (i1789 : Int) (a1790 : List Int) : Option ((List Int)) :=
 br ((decide (i1788 < 5))) (
 chk (inB i1788 5) <|
 bnd (tk a836 ((i1788).toNat * 2) 2) fun l1797 =>
 bnd (l1797.getD 1 0) fun z1800 =>
 chk (addOk z1800 i1789 0) <|
 bnd (addLo z1800 i1789 0) fun z1802 =>
 bnd (addHi z1800 i1789 0) fun z1803 =>
 bnd (bitsV .and .u64 z1802 2251799813685247) fun z1805 =>
 chk (inB i1788 5) <|
 bnd (setD a1790 (i1788).toNat z1805) fun l1807 =>
 bnd (l1797.getD 0 0) fun z1809 =>
 bnd (IntKind.wrap .u64 (z1809 + z1803)) fun z1810 =>
 bnd (shlV .u64 z1810 13) fun z1811 =>
 bnd (shrV .u64 z1802 51) fun z1812 =>
 bnd (bitsV .or .u64 z1811 z1812) fun z1813 =>
 bnd (IntKind.wrap .i64 (i1788 + 1)) fun z1815 =>
 k1791 z1815 z1813 l1807
 ) (
 k1742 i1789 a1790
 )
def field_Mul_l3 (a836 : List Int) (k1742 : (Int) → (List Int) → Option ((List Int))) : Nat → (Int) → (Int) → (List Int) → Option ((List Int))
  | 0, _, _, _ => none
  | n + 1, i1788, i1789, a1790 => field_Mul_b3 a836 k1742 (field_Mul_l3 a836 k1742 n) i1788 i1789 a1790
def field_Mul (p0 : List Int) (p1 : List Int) : Option ((List Int)) :=
 opt (field_carry p0) fun y6 =>
 opt (field_carry p1) fun y7 =>
 jn (fun (a836 : List Int) => jn (fun (i1740 : Int) (a1741 : List Int) => opt (field_wide_add (List.replicate 2 0) 0 2 i1740 19) fun y1819 =>
 bnd (y1819.getD 1 0) fun z1823 =>
 bnd (a1741.getD 0 0) fun z1824 =>
 chk (addOk z1823 z1824 0) <|
 bnd (addLo z1823 z1824 0) fun z1826 =>
 bnd (addHi z1823 z1824 0) fun z1827 =>
 bnd (bitsV .and .u64 z1826 2251799813685247) fun z1829 =>
 bnd (setD a1741 0 z1829) fun l1830 =>
 bnd (l1830.getD 1 0) fun z1832 =>
 bnd (y1819.getD 0 0) fun z1833 =>
 bnd (IntKind.wrap .u64 (z1833 + z1827)) fun z1834 =>
 bnd (shlV .u64 z1834 13) fun z1835 =>
 bnd (shrV .u64 z1826 51) fun z1836 =>
 bnd (bitsV .or .u64 z1835 z1836) fun z1837 =>
 bnd (IntKind.wrap .u64 (z1832 + z1837)) fun z1838 =>
 bnd (setD l1830 1 z1838) fun l1839 =>
 opt (field_reduce l1839) fun y1841 =>
 some y1841) fun k1742 => field_Mul_l3 a836 k1742 big 0 0 (List.replicate 5 0)) fun k837 => field_Mul_l1 y6 y7 k837 big 0 (List.replicate 10 0)
theorem field_Mul_spec {W : World} {r : (List Int)} {p0 : List Int} {p1 : List Int} (h : field_Mul p0 p1 = some r)  :
    Calls Tryd.prog 39 [agg [.ints .u64 5 (p0)], agg [.ints .u64 5 (p1)]].toArray W (ret1 W (agg [.ints .u64 5 (r)])) := by
  unfold field_Mul at h
  refine calls_val mo ok39 rfl ?_
  refine wc_seq ?_
  refine wc_ops ?_
  refine wj_e (ef_bx (s := [.ints .u64 5 (p0)]) rfl fun b2 hb2 => ?_)
  refine wj_e (ef_bx (s := [.ints .u64 5 (p1)]) rfl fun b3 hb3 => ?_)
  refine wj_e (ef_al fun b4 hb4 => ?_)
  refine wj_nil ?_
  refine wc_seq ?_
  revert h
  refine opt_i fun y6 ey6 => ?_
  refine opt_i fun y7 ey7 => ?_
  intro h
  refine wc_draw ?_
  refine ws_q1 _ (q_ld (p := [.ints .u64 5 (p0)]) rfl (.there (.there .here)) rfl) ?_
  refine ws_p1 _ (q_call (vs := [agg [.ints .u64 5 (p0)]]) (v := agg [.ints .u64 5 (y6)]) rfl (fun w hw => field_carry_spec (r := y6) (p0 := p0) ey6 )) ?_
  refine ws_q1 _ (q_ld (p := [.ints .u64 5 (p1)]) rfl (.there .here) rfl) ?_
  refine ws_p1 _ (q_call (vs := [agg [.ints .u64 5 (p1)]]) (v := agg [.ints .u64 5 (y7)]) rfl (fun w hw => field_carry_spec (r := y7) (p0 := p1) ey7 )) ?_
  refine ws_eL rfl (ef_st (q := [.ints .u64 5 (y6)]) rfl rfl rfl rfl rfl (.there (.there .here)) ?_)
  refine ws_eM rfl (ef_st (q := [.ints .u64 5 (y7)]) rfl rfl rfl rfl rfl (.there .here) ?_)
  refine ws_nil ?_
  refine wc_seq ?_
  refine wc_ops ?_
  refine wj_e (ef_al fun b9 hb9 => ?_)
  refine wj_nil ?_
  refine wc_seq ?_
  refine wc_seq ?_
  refine wc_ops ?_
  refine wj_q _ (q_ld (p := [.ints .u64 5 (y6)]) rfl (.there (.there (.there .here))) rfl) ?_
  refine wj_q _ (q_mv rfl) ?_
  refine wj_nil ?_
  revert h
  refine jn_i fun k837 qk837 => ?_
  intro h
  refine wc_mono2 (G := fun t m => ∃ (a836 : List Int), k837 a836 = some r ∧ Fit [(4, .pointer (some ⟨b4, 0, none⟩)), (5, .pointer (some ⟨b9, 0, none⟩))] (ck b9 129 [.ints .u64 10 (a836)] :: (ck b4 58 [.ints .u64 5 ((List.replicate 5 0))] :: (ck b3 58 [.ints .u64 5 (y7)] :: (ck b2 58 [.ints .u64 5 (y6)] :: [])))) t m) ?_ ?_
  · refine wc_block ?_
    refine wc_loopJ (fun n1372 t m => ∃ (i1369 : Int) (a1370 : List Int), field_Mul_l1 y6 y7 k837 n1372 i1369 a1370 = some r ∧ Fit [(3, .pointer (some ⟨b3, 0, none⟩)), (4, .pointer (some ⟨b4, 0, none⟩)), (5, .pointer (some ⟨b9, 0, none⟩)), (23, agg [.ints .u64 5 (y6)]), (24, .int .i64 (i1369))] (ck b9 129 [.ints .u64 10 (a1370)] :: (ck b4 58 [.ints .u64 5 ((List.replicate 5 0))] :: (ck b3 58 [.ints .u64 5 (y7)] :: (ck b2 58 [.ints .u64 5 (y6)] :: [])))) t m) big ?_ ?_
    · exact ⟨0, (List.replicate 10 0), h, ⟨⟨rfl, rfl, rfl, rfl, rfl, trivial⟩, (.one .here (.one .here (.one .here (.one .here .nil))))⟩⟩
    · rintro n1372 t m ⟨i1369, a1370, h, hF⟩
      refine wc_fit hF ?_
      clear hF
      rcases n1372 with _ | n1372
      · exact none_i h
      have h : field_Mul_b1 y6 y7 k837 (field_Mul_l1 y6 y7 k837 n1372) i1369 a1370 = some r := h
      unfold field_Mul_b1 at h
      obtain ⟨k1371, qk1371⟩ : ∃ k, k = field_Mul_l1 y6 y7 k837 n1372 := ⟨_, rfl⟩
      try rw [← qk1371] at h
      refine wc_seq ?_
      refine wc_ops ?_
      refine wj_q _ (q_bin rfl rfl rfl) ?_
      refine wj_nil ?_
      refine wc_seq ?_
      refine wc_if (c := (decide (i1369 < 5))) rfl (fun d1374 => ?_) (fun d1374 => ?_)
      · have h := br_t h d1374
        refine wc_skip ?_
        refine wc_seq ?_
        refine wc_block ?_
        refine wc_seq ?_
        revert h
        refine chk_i fun c1376 => ?_
        refine bnd_i fun z1377 ez1377 => ?_
        intro h
        refine wc_ops ?_
        refine wj_q _ (q_mv rfl) ?_
        refine wj_q _ (iz ez1377 (q_idxi (len := 5) rfl rfl (inB_z c1376))) ?_
        refine wj_q _ (q_mv rfl) ?_
        refine wj_q _ (q_mv rfl) ?_
        refine wj_nil ?_
        refine wc_seq ?_
        refine wc_ops ?_
        refine wj_q _ (q_ld (p := [.ints .u64 5 (y7)]) rfl (.there (.there .here)) rfl) ?_
        refine wj_q _ (q_mv rfl) ?_
        refine wj_nil ?_
        revert h
        refine jn_i fun k1520 qk1520 => ?_
        intro h
        refine wc_mono2 (G := fun t m => ∃ (a1519 : List Int), k1520 a1519 = some r ∧ Fit [(3, .pointer (some ⟨b3, 0, none⟩)), (4, .pointer (some ⟨b4, 0, none⟩)), (5, .pointer (some ⟨b9, 0, none⟩)), (23, agg [.ints .u64 5 (y6)]), (24, .int .i64 (i1369))] (ck b9 129 [.ints .u64 10 (a1519)] :: (ck b4 58 [.ints .u64 5 ((List.replicate 5 0))] :: (ck b3 58 [.ints .u64 5 (y7)] :: (ck b2 58 [.ints .u64 5 (y6)] :: [])))) t m) ?_ ?_
        · refine wc_block ?_
          refine wc_loopJ (fun n1614 t m => ∃ (i1611 : Int) (a1612 : List Int), field_Mul_l2 y7 i1369 z1377 k1520 n1614 i1611 a1612 = some r ∧ Fit [(3, .pointer (some ⟨b3, 0, none⟩)), (4, .pointer (some ⟨b4, 0, none⟩)), (5, .pointer (some ⟨b9, 0, none⟩)), (6, .int .i64 (i1369)), (7, .int .u64 (z1377)), (23, agg [.ints .u64 5 (y6)]), (24, .int .i64 (i1369)), (28, agg [.ints .u64 5 (y7)]), (29, .int .i64 (i1611))] (ck b9 129 [.ints .u64 10 (a1612)] :: (ck b4 58 [.ints .u64 5 ((List.replicate 5 0))] :: (ck b3 58 [.ints .u64 5 (y7)] :: (ck b2 58 [.ints .u64 5 (y6)] :: [])))) t m) big ?_ ?_
          · exact ⟨0, a1370, h, ⟨⟨rfl, rfl, rfl, rfl, rfl, rfl, rfl, rfl, rfl, trivial⟩, (.one .here (.one .here (.one .here (.one .here .nil))))⟩⟩
          · rintro n1614 t m ⟨i1611, a1612, h, hF⟩
            refine wc_fit hF ?_
            clear hF
            rcases n1614 with _ | n1614
            · exact none_i h
            have h : field_Mul_b2 y7 i1369 z1377 k1520 (field_Mul_l2 y7 i1369 z1377 k1520 n1614) i1611 a1612 = some r := h
            unfold field_Mul_b2 at h
            obtain ⟨k1613, qk1613⟩ : ∃ k, k = field_Mul_l2 y7 i1369 z1377 k1520 n1614 := ⟨_, rfl⟩
            try rw [← qk1613] at h
            refine wc_seq ?_
            refine wc_ops ?_
            refine wj_q _ (q_bin rfl rfl rfl) ?_
            refine wj_nil ?_
            refine wc_seq ?_
            refine wc_if (c := (decide (i1611 < 5))) rfl (fun d1616 => ?_) (fun d1616 => ?_)
            · have h := br_t h d1616
              refine wc_skip ?_
              refine wc_seq ?_
              revert h
              refine jn_i fun k1638 qk1638 => ?_
              intro h
              refine wc_mono2 (G := fun t m => ∃ (a1637 : List Int), k1638 a1637 = some r ∧ Fit [(3, .pointer (some ⟨b3, 0, none⟩)), (4, .pointer (some ⟨b4, 0, none⟩)), (5, .pointer (some ⟨b9, 0, none⟩)), (6, .int .i64 (i1369)), (7, .int .u64 (z1377)), (23, agg [.ints .u64 5 (y6)]), (24, .int .i64 (i1369)), (28, agg [.ints .u64 5 (y7)]), (29, .int .i64 (i1611))] (ck b9 129 [.ints .u64 10 (a1637)] :: (ck b4 58 [.ints .u64 5 ((List.replicate 5 0))] :: (ck b3 58 [.ints .u64 5 (y7)] :: (ck b2 58 [.ints .u64 5 (y6)] :: [])))) t m) ?_ ?_
              · refine wc_block ?_
                refine wc_seq ?_
                revert h
                refine chk_i fun c1640 => ?_
                refine bnd_i fun z1641 ez1641 => ?_
                intro h
                refine wc_ops ?_
                refine wj_q _ (q_mv rfl) ?_
                refine wj_q _ (iz ez1641 (q_idxi (len := 5) rfl rfl (inB_z c1640))) ?_
                refine wj_q _ (q_mv rfl) ?_
                refine wj_q _ (q_mv rfl) ?_
                refine wj_nil ?_
                refine wc_seq ?_
                revert h
                refine bnd_i fun z1643 ez1643 => ?_
                intro h
                refine wc_ops ?_
                refine wj_q _ (q_mv rfl) ?_
                refine wj_q _ (q_mv rfl) ?_
                refine wj_q _ (iz ez1643 (q_bin rfl rfl rfl)) ?_
                refine wj_q _ (q_bin rfl rfl rfl) ?_
                refine wj_nil ?_
                refine wc_if (c := (decide (z1643 < 5))) rfl (fun d1644 => ?_) (fun d1644 => ?_)
                · have h := br_t h d1644
                  revert h
                  refine bnd_i fun z1646 ez1646 => ?_
                  refine chk_i fun c1647 => ?_
                  refine opt_i fun y1648 ey1648 => ?_
                  intro h
                  refine wc_ops ?_
                  refine wj_q _ (q_mv rfl) ?_
                  refine wj_q _ (q_mv rfl) ?_
                  refine wj_q _ (iz ez1646 (q_bin rfl rfl rfl)) ?_
                  refine wj_q _ (q_ia rfl rfl (inB_z c1647)) ?_
                  refine wj_q _ (q_mv rfl) ?_
                  refine wj_q _ (q_mv rfl) ?_
                  refine wj_e (ef_callS (mS := [_]) rfl (Take1.perm .here) (fun w hw => field_wide_add_spec (b := b9) (r := y1648) (p0 := a1612) (o := (0 + (z1646).toNat * 2)) (L := 10) (p1 := z1377) (p2 := z1641) ey1648 (sat_own hw (mS := [_]) (Take1.perm .here)) ) fun v1649 Msv1649 R1650 => ?_)
                  obtain ⟨rfl, rfl⟩ := R1650
                  refine wj_nil ?_
                  exact ⟨y1648, h, ⟨⟨rfl, rfl, rfl, rfl, rfl, rfl, rfl, rfl, rfl, trivial⟩, (.one .here (.one .here (.one .here (.one .here .nil))))⟩⟩
                · have h := br_f h d1644
                  revert h
                  refine bnd_i fun z1652 ez1652 => ?_
                  refine bnd_i fun z1653 ez1653 => ?_
                  refine chk_i fun c1654 => ?_
                  refine bnd_i fun z1655 ez1655 => ?_
                  refine opt_i fun y1656 ey1656 => ?_
                  intro h
                  refine wc_ops ?_
                  refine wj_q _ (q_mv rfl) ?_
                  refine wj_q _ (q_mv rfl) ?_
                  refine wj_q _ (iz ez1652 (q_bin rfl rfl rfl)) ?_
                  refine wj_q _ (iz ez1653 (q_bin rfl rfl rfl)) ?_
                  refine wj_q _ (q_ia rfl rfl (inB_z c1654)) ?_
                  refine wj_q _ (q_mv rfl) ?_
                  refine wj_q _ (q_mv rfl) ?_
                  refine wj_q _ (iz ez1655 (q_bin rfl rfl rfl)) ?_
                  refine wj_e (ef_callS (mS := [_]) rfl (Take1.perm .here) (fun w hw => field_wide_add_spec (b := b9) (r := y1656) (p0 := a1612) (o := (0 + (z1653).toNat * 2)) (L := 10) (p1 := z1377) (p2 := z1655) ey1656 (sat_own hw (mS := [_]) (Take1.perm .here)) ) fun v1657 Msv1657 R1658 => ?_)
                  obtain ⟨rfl, rfl⟩ := R1658
                  refine wj_nil ?_
                  exact ⟨y1656, h, ⟨⟨rfl, rfl, rfl, rfl, rfl, rfl, rfl, rfl, rfl, trivial⟩, (.one .here (.one .here (.one .here (.one .here .nil))))⟩⟩
              · rintro t m ⟨a1637, h, hF⟩
                refine wc_fit hF ?_
                clear hF
                subst qk1638
                revert h
                refine bnd_i fun z1660 ez1660 => ?_
                intro h
                refine wc_ops ?_
                refine wj_q _ (iz ez1660 (q_bin rfl rfl rfl)) ?_
                refine wj_q _ (q_mv rfl) ?_
                refine wj_nil ?_
                rw [qk1613] at h
                exact ⟨n1614, Nat.lt_succ_self _, z1660, a1637, h, ⟨⟨rfl, rfl, rfl, rfl, rfl, rfl, rfl, rfl, rfl, trivial⟩, (.one .here (.one .here (.one .here (.one .here .nil))))⟩⟩
            · have h := br_f h d1616
              refine wc_exit _ rfl ?_
              exact ⟨a1612, h, ⟨⟨rfl, rfl, rfl, rfl, rfl, trivial⟩, (.one .here (.one .here (.one .here (.one .here .nil))))⟩⟩
        · rintro t m ⟨a1519, h, hF⟩
          refine wc_fit hF ?_
          clear hF
          subst qk1520
          revert h
          refine bnd_i fun z1662 ez1662 => ?_
          intro h
          refine wc_ops ?_
          refine wj_q _ (iz ez1662 (q_bin rfl rfl rfl)) ?_
          refine wj_q _ (q_mv rfl) ?_
          refine wj_nil ?_
          rw [qk1371] at h
          exact ⟨n1372, Nat.lt_succ_self _, z1662, a1519, h, ⟨⟨rfl, rfl, rfl, rfl, rfl, trivial⟩, (.one .here (.one .here (.one .here (.one .here .nil))))⟩⟩
      · have h := br_f h d1374
        refine wc_exit _ rfl ?_
        exact ⟨a1370, h, ⟨⟨rfl, rfl, trivial⟩, (.one .here (.one .here (.one .here (.one .here .nil))))⟩⟩
  · rintro t m ⟨a836, h, hF⟩
    refine wc_fit hF ?_
    clear hF
    subst qk837
    refine wc_seq ?_
    refine wc_ops ?_
    refine wj_e (ef_al fun b1664 hb1664 => ?_)
    refine wj_nil ?_
    refine wc_seq ?_
    refine wc_ops ?_
    refine wj_q _ (q_mv rfl) ?_
    refine wj_nil ?_
    refine wc_seq ?_
    refine wc_seq ?_
    refine wc_ops ?_
    refine wj_q _ (q_ld (p := [.ints .u64 10 (a836)]) rfl (.there .here) rfl) ?_
    refine wj_q _ (q_mv rfl) ?_
    refine wj_nil ?_
    revert h
    refine jn_i fun k1742 qk1742 => ?_
    intro h
    refine wc_mono2 (G := fun t m => ∃ (i1740 : Int) (a1741 : List Int), k1742 i1740 a1741 = some r ∧ Fit [(4, .pointer (some ⟨b4, 0, none⟩)), (10, .pointer (some ⟨b1664, 0, none⟩)), (11, .int .u64 (i1740))] (ck b1664 58 [.ints .u64 5 (a1741)] :: (ck b9 129 [.ints .u64 10 (a836)] :: (ck b4 58 [.ints .u64 5 ((List.replicate 5 0))] :: (ck b3 58 [.ints .u64 5 (y7)] :: (ck b2 58 [.ints .u64 5 (y6)] :: []))))) t m) ?_ ?_
    · refine wc_block ?_
      refine wc_loopJ (fun n1792 t m => ∃ (i1788 : Int) (i1789 : Int) (a1790 : List Int), field_Mul_l3 a836 k1742 n1792 i1788 i1789 a1790 = some r ∧ Fit [(4, .pointer (some ⟨b4, 0, none⟩)), (10, .pointer (some ⟨b1664, 0, none⟩)), (11, .int .u64 (i1789)), (55, agg [.ints .u64 10 (a836)]), (56, .int .i64 (i1788))] (ck b1664 58 [.ints .u64 5 (a1790)] :: (ck b9 129 [.ints .u64 10 (a836)] :: (ck b4 58 [.ints .u64 5 ((List.replicate 5 0))] :: (ck b3 58 [.ints .u64 5 (y7)] :: (ck b2 58 [.ints .u64 5 (y6)] :: []))))) t m) big ?_ ?_
      · exact ⟨0, 0, (List.replicate 5 0), h, ⟨⟨rfl, rfl, rfl, rfl, rfl, trivial⟩, (.one .here (.one .here (.one .here (.one .here (.one .here .nil)))))⟩⟩
      · rintro n1792 t m ⟨i1788, i1789, a1790, h, hF⟩
        refine wc_fit hF ?_
        clear hF
        rcases n1792 with _ | n1792
        · exact none_i h
        have h : field_Mul_b3 a836 k1742 (field_Mul_l3 a836 k1742 n1792) i1788 i1789 a1790 = some r := h
        unfold field_Mul_b3 at h
        obtain ⟨k1791, qk1791⟩ : ∃ k, k = field_Mul_l3 a836 k1742 n1792 := ⟨_, rfl⟩
        try rw [← qk1791] at h
        refine wc_seq ?_
        refine wc_ops ?_
        refine wj_q _ (q_bin rfl rfl rfl) ?_
        refine wj_nil ?_
        refine wc_seq ?_
        refine wc_if (c := (decide (i1788 < 5))) rfl (fun d1794 => ?_) (fun d1794 => ?_)
        · have h := br_t h d1794
          refine wc_skip ?_
          refine wc_seq ?_
          refine wc_block ?_
          refine wc_seq ?_
          revert h
          refine chk_i fun c1796 => ?_
          refine bnd_i fun l1797 el1797 => ?_
          intro h
          refine wc_ops ?_
          refine wj_q _ (q_mv rfl) ?_
          refine wj_q _ (az (fun z => agg [.ints .u64 2 z]) el1797 (q_idxf (len := 5) (w := 2) rfl rfl (inB_z c1796))) ?_
          refine wj_e (ef_al fun b1798 hb1798 => ?_)
          refine wj_q _ (q_mv rfl) ?_
          refine wj_e (ef_st (q := [.ints .u64 2 (l1797)]) rfl rfl rfl rfl rfl .here ?_)
          refine wj_nil ?_
          refine wc_seq ?_
          revert h
          refine bnd_i fun z1800 ez1800 => ?_
          refine chk_i fun c1801 => ?_
          refine bnd_i fun z1802 ez1802 => ?_
          refine bnd_i fun z1803 ez1803 => ?_
          intro h
          refine wc_ops ?_
          refine wj_q _ (q_fa rfl) ?_
          refine wj_q _ (iz ez1800 (q_ld1 rfl .here rfl)) ?_
          refine wj_q _ (q_mv rfl) ?_
          refine wj_q _ (q_xcall rfl ext_add (xadd ez1802 ez1803 c1801)) ?_
          refine wj_q _ (q_mv rfl) ?_
          refine wj_q _ (q_ext rfl rfl) ?_
          refine wj_q _ (q_ext rfl rfl) ?_
          refine wj_q _ (q_mv rfl) ?_
          refine wj_q _ (q_mv rfl) ?_
          refine wj_nil ?_
          refine wc_seq ?_
          revert h
          refine bnd_i fun z1805 ez1805 => ?_
          refine chk_i fun c1806 => ?_
          refine bnd_i fun l1807 el1807 => ?_
          intro h
          refine wc_ops ?_
          refine wj_q _ (q_mv rfl) ?_
          refine wj_q _ (q_mv rfl) ?_
          refine wj_q _ (iz ez1805 (q_bin rfl rfl rfl)) ?_
          refine wj_q _ (q_ia rfl rfl (inB_z c1806)) ?_
          refine wj_e (ef_stiz (q := [.ints .u64 5 (l1807)]) (base := 0) el1807 rfl rfl rfl (inB_n c1806) rfl (.there .here) ?_)
          refine wj_nil ?_
          revert h
          refine bnd_i fun z1809 ez1809 => ?_
          refine bnd_i fun z1810 ez1810 => ?_
          refine bnd_i fun z1811 ez1811 => ?_
          refine bnd_i fun z1812 ez1812 => ?_
          refine bnd_i fun z1813 ez1813 => ?_
          intro h
          refine wc_ops ?_
          refine wj_q _ (q_fa rfl) ?_
          refine wj_q _ (iz ez1809 (q_ld1 rfl .here rfl)) ?_
          refine wj_q _ (q_mv rfl) ?_
          refine wj_q _ (iz ez1810 (q_bin rfl rfl rfl)) ?_
          refine wj_q _ (iz ez1811 (q_shl rfl rfl (by decide))) ?_
          refine wj_q _ (q_mv rfl) ?_
          refine wj_q _ (iz ez1812 (q_shr rfl rfl (by decide))) ?_
          refine wj_q _ (iz ez1813 (q_bin rfl rfl rfl)) ?_
          refine wj_q _ (q_mv rfl) ?_
          refine wj_nil ?_
          revert h
          refine bnd_i fun z1815 ez1815 => ?_
          intro h
          refine wc_ops ?_
          refine wj_q _ (iz ez1815 (q_bin rfl rfl rfl)) ?_
          refine wj_q _ (q_mv rfl) ?_
          refine wj_nil ?_
          rw [qk1791] at h
          exact ⟨n1792, Nat.lt_succ_self _, z1815, z1813, l1807, h, ⟨⟨rfl, rfl, rfl, rfl, rfl, trivial⟩, (.one (.there .here) (.one (.there .here) (.one (.there .here) (.one (.there .here) (.one (.there .here) .nil)))))⟩⟩
        · have h := br_f h d1794
          refine wc_exit _ rfl ?_
          exact ⟨i1789, a1790, h, ⟨⟨rfl, rfl, rfl, trivial⟩, (.one .here (.one .here (.one .here (.one .here (.one .here .nil)))))⟩⟩
    · rintro t m ⟨i1740, a1741, h, hF⟩
      refine wc_fit hF ?_
      clear hF
      subst qk1742
      refine wc_seq ?_
      refine wc_ops ?_
      refine wj_e (ef_al fun b1817 hb1817 => ?_)
      refine wj_nil ?_
      refine wc_seq ?_
      revert h
      refine opt_i fun y1819 ey1819 => ?_
      intro h
      refine wc_ops ?_
      refine wj_q _ (q_mv rfl) ?_
      refine wj_e (ef_callS (mS := [_]) rfl (Take1.perm .here) (fun w hw => field_wide_add_spec (b := b1817) (r := y1819) (p0 := (List.replicate 2 0)) (o := 0) (L := 2) (p1 := i1740) (p2 := 19) ey1819 (sat_own hw (mS := [_]) (Take1.perm .here)) ) fun v1820 Msv1820 R1821 => ?_)
      obtain ⟨rfl, rfl⟩ := R1821
      refine wj_nil ?_
      refine wc_seq ?_
      revert h
      refine bnd_i fun z1823 ez1823 => ?_
      refine bnd_i fun z1824 ez1824 => ?_
      refine chk_i fun c1825 => ?_
      refine bnd_i fun z1826 ez1826 => ?_
      refine bnd_i fun z1827 ez1827 => ?_
      intro h
      refine wc_ops ?_
      refine wj_q _ (q_fa rfl) ?_
      refine wj_q _ (iz ez1823 (q_ld1 rfl .here rfl)) ?_
      refine wj_q _ (q_ia rfl rfl (by decide)) ?_
      refine wj_q _ (iz ez1824 (q_ld1 rfl (.there .here) rfl)) ?_
      refine wj_q _ (q_xcall rfl ext_add (xadd ez1826 ez1827 c1825)) ?_
      refine wj_q _ (q_mv rfl) ?_
      refine wj_q _ (q_ext rfl rfl) ?_
      refine wj_q _ (q_ext rfl rfl) ?_
      refine wj_q _ (q_mv rfl) ?_
      refine wj_q _ (q_mv rfl) ?_
      refine wj_nil ?_
      refine wc_seq ?_
      revert h
      refine bnd_i fun z1829 ez1829 => ?_
      refine bnd_i fun l1830 el1830 => ?_
      intro h
      refine wc_ops ?_
      refine wj_q _ (q_mv rfl) ?_
      refine wj_q _ (iz ez1829 (q_bin rfl rfl rfl)) ?_
      refine wj_q _ (q_ia rfl rfl (by decide)) ?_
      refine wj_e (ef_st1z (q := [.ints .u64 5 (l1830)]) (congrArg (fun z => ([.ints .u64 5 (z)] : List Seg)) el1830.symm) rfl rfl rfl rfl (.there .here) ?_)
      refine wj_nil ?_
      refine wc_seq ?_
      revert h
      refine bnd_i fun z1832 ez1832 => ?_
      refine bnd_i fun z1833 ez1833 => ?_
      refine bnd_i fun z1834 ez1834 => ?_
      refine bnd_i fun z1835 ez1835 => ?_
      refine bnd_i fun z1836 ez1836 => ?_
      refine bnd_i fun z1837 ez1837 => ?_
      refine bnd_i fun z1838 ez1838 => ?_
      refine bnd_i fun l1839 el1839 => ?_
      intro h
      refine wc_ops ?_
      refine wj_q _ (q_ia rfl rfl (by decide)) ?_
      refine wj_q _ (iz ez1832 (q_ld1 rfl (.there .here) rfl)) ?_
      refine wj_q _ (q_fa rfl) ?_
      refine wj_q _ (iz ez1833 (q_ld1 rfl .here rfl)) ?_
      refine wj_q _ (q_mv rfl) ?_
      refine wj_q _ (iz ez1834 (q_bin rfl rfl rfl)) ?_
      refine wj_q _ (iz ez1835 (q_shl rfl rfl (by decide))) ?_
      refine wj_q _ (q_mv rfl) ?_
      refine wj_q _ (iz ez1836 (q_shr rfl rfl (by decide))) ?_
      refine wj_q _ (iz ez1837 (q_bin rfl rfl rfl)) ?_
      refine wj_q _ (iz ez1838 (q_bin rfl rfl rfl)) ?_
      refine wj_q _ (q_ia rfl rfl (by decide)) ?_
      refine wj_e (ef_st1z (q := [.ints .u64 5 (l1839)]) (congrArg (fun z => ([.ints .u64 5 (z)] : List Seg)) el1839.symm) rfl rfl rfl rfl (.there .here) ?_)
      refine wj_nil ?_
      refine wc_seq ?_
      revert h
      refine opt_i fun y1841 ey1841 => ?_
      intro h
      refine wc_ops ?_
      refine wj_q _ (q_ld (p := [.ints .u64 5 (l1839)]) rfl (.there .here) rfl) ?_
      refine wj_q _ (q_call (vs := [agg [.ints .u64 5 (l1839)]]) (v := agg [.ints .u64 5 (y1841)]) rfl (fun w hw => field_reduce_spec (r := y1841) (p0 := l1839) ey1841 )) ?_
      refine wj_e (ef_st (q := [.ints .u64 5 (y1841)]) rfl rfl rfl rfl rfl (.there (.there (.there .here))) ?_)
      refine wj_nil ?_
      refine wc_ret ?_
      revert h; refine ret_i fun h => ?_
      subst h
      exact ⟨_, (.cons (.agg rfl (.there (.there (.there .here))) rfl) .nil), rfl⟩
/- farebox/field.Square -/
def field_Square (p0 : List Int) : Option ((List Int)) :=
 opt (field_Mul p0 p0) fun y5 =>
 some y5
theorem field_Square_spec {W : World} {r : (List Int)} {p0 : List Int} (h : field_Square p0 = some r)  :
    Calls Tryd.prog 34 [agg [.ints .u64 5 (p0)]].toArray W (ret1 W (agg [.ints .u64 5 (r)])) := by
  unfold field_Square at h
  refine calls_val mo ok34 rfl ?_
  refine wc_seq ?_
  refine wc_ops ?_
  refine wj_e (ef_bx (s := [.ints .u64 5 (p0)]) rfl fun b2 hb2 => ?_)
  refine wj_e (ef_al fun b3 hb3 => ?_)
  refine wj_nil ?_
  refine wc_seq ?_
  revert h
  refine opt_i fun y5 ey5 => ?_
  intro h
  refine wc_ops ?_
  refine wj_q _ (q_ld (p := [.ints .u64 5 (p0)]) rfl (.there .here) rfl) ?_
  refine wj_q _ (q_ld (p := [.ints .u64 5 (p0)]) rfl (.there .here) rfl) ?_
  refine wj_q _ (q_call (vs := [agg [.ints .u64 5 (p0)], agg [.ints .u64 5 (p0)]]) (v := agg [.ints .u64 5 (y5)]) rfl (fun w hw => field_Mul_spec (r := y5) (p0 := p0) (p1 := p0) ey5 )) ?_
  refine wj_e (ef_st (q := [.ints .u64 5 (y5)]) rfl rfl rfl rfl rfl .here ?_)
  refine wj_nil ?_
  refine wc_ret ?_
  revert h; refine ret_i fun h => ?_
  subst h
  exact ⟨_, (.cons (.agg rfl .here rfl) .nil), rfl⟩
/- farebox/curve.unit -/
def curve_unit  : Option ((List Int)) :=
 bnd (([1, 0, 0, 0, 0] : List Int)) fun z4 =>
 some z4
theorem curve_unit_spec {W : World} {r : (List Int)} (h : curve_unit  = some r)  :
    Calls Tryd.prog 35 [].toArray W (ret1 W (agg [.ints .u64 5 (r)])) := by
  unfold curve_unit at h
  refine calls_val mo ok35 rfl ?_
  refine wc_seq ?_
  refine wc_ops ?_
  refine wj_e (ef_al fun b2 hb2 => ?_)
  refine wj_nil ?_
  refine wc_seq ?_
  revert h
  refine bnd_i fun z4 ez4 => ?_
  intro h
  refine wc_ops ?_
  refine wj_q _ (az (fun z => agg [.ints .u64 5 z]) ez4 (q_bd (.one rfl rfl rfl BdR.nil))) ?_
  refine wj_e (ef_st (q := [.ints .u64 5 (z4)]) rfl rfl rfl rfl rfl .here ?_)
  refine wj_nil ?_
  refine wc_ret ?_
  revert h; refine ret_i fun h => ?_
  subst h
  exact ⟨_, (.cons (.agg rfl .here rfl) .nil), rfl⟩
/- farebox/field.IsZero -/
def field_IsZero (p0 : List Int) : Option (Bool) :=
 opt (field_reduce p0) fun y4 =>
 bnd (([0, 0, 0, 0, 0] : List Int)) fun z5 =>
 some (ieq 5 y4 z5)
theorem field_IsZero_spec {W : World} {r : Bool} {p0 : List Int} (h : field_IsZero p0 = some r)  :
    Calls Tryd.prog 41 [agg [.ints .u64 5 (p0)]].toArray W (ret1 W (.bool (r))) := by
  unfold field_IsZero at h
  refine calls_val mo ok41 rfl ?_
  refine wc_seq ?_
  refine wc_ops ?_
  refine wj_e (ef_bx (s := [.ints .u64 5 (p0)]) rfl fun b2 hb2 => ?_)
  refine wj_q _ (q_mv rfl) ?_
  refine wj_nil ?_
  refine wc_seq ?_
  revert h
  refine opt_i fun y4 ey4 => ?_
  refine bnd_i fun z5 ez5 => ?_
  intro h
  refine wc_ops ?_
  refine wj_q _ (q_ld (p := [.ints .u64 5 (p0)]) rfl .here rfl) ?_
  refine wj_q _ (q_call (vs := [agg [.ints .u64 5 (p0)]]) (v := agg [.ints .u64 5 (y4)]) rfl (fun w hw => field_reduce_spec (r := y4) (p0 := p0) ey4 )) ?_
  refine wj_q _ (az (fun z => agg [.ints .u64 5 z]) ez5 (q_bd BdR.nil)) ?_
  refine wj_q _ (q_eqa rfl rfl rfl rfl _ (eqc_last eqc_ints)) ?_
  refine wj_q _ (q_mv rfl) ?_
  refine wj_nil ?_
  refine wc_ret ?_
  revert h; refine ret_i fun h => ?_
  subst h
  exact ⟨_, (.cons (.tmp rfl) .nil), rfl⟩
/- farebox/field.Neg -/
def field_Neg_b1 (y5 : (List Int)) (k45 : (List Int) → Option ((List Int))) (k66 : (Int) → (List Int) → Option ((List Int))) (i64 : Int) (a65 : List Int) : Option ((List Int)) :=
 br ((decide (i64 < 5))) (
 chk (inB i64 5) <|
 bnd (y5.getD (i64).toNat 0) fun z72 =>
 bnd (IntKind.wrap .u64 (4503599627370494 - z72)) fun z73 =>
 chk (inB i64 5) <|
 bnd (setD a65 (i64).toNat z73) fun l75 =>
 bnd (IntKind.wrap .i64 (i64 + 1)) fun z77 =>
 k66 z77 l75
 ) (
 k45 a65
 )
def field_Neg_l1 (y5 : (List Int)) (k45 : (List Int) → Option ((List Int))) : Nat → (Int) → (List Int) → Option ((List Int))
  | 0, _, _ => none
  | n + 1, i64, a65 => field_Neg_b1 y5 k45 (field_Neg_l1 y5 k45 n) i64 a65
def field_Neg (p0 : List Int) : Option ((List Int)) :=
 opt (field_reduce p0) fun y5 =>
 bnd (y5.getD 0 0) fun z7 =>
 bnd (IntKind.wrap .u64 (4503599627370458 - z7)) fun z8 =>
 bnd (([z8, 0, 0, 0, 0] : List Int)) fun z9 =>
 jn (fun (a44 : List Int) => opt (field_reduce a44) fun y79 =>
 some y79) fun k45 => field_Neg_l1 y5 k45 big 1 z9
theorem field_Neg_spec {W : World} {r : (List Int)} {p0 : List Int} (h : field_Neg p0 = some r)  :
    Calls Tryd.prog 42 [agg [.ints .u64 5 (p0)]].toArray W (ret1 W (agg [.ints .u64 5 (r)])) := by
  unfold field_Neg at h
  refine calls_val mo ok42 rfl ?_
  refine wc_seq ?_
  refine wc_ops ?_
  refine wj_e (ef_bx (s := [.ints .u64 5 (p0)]) rfl fun b2 hb2 => ?_)
  refine wj_e (ef_al fun b3 hb3 => ?_)
  refine wj_nil ?_
  refine wc_seq ?_
  revert h
  refine opt_i fun y5 ey5 => ?_
  intro h
  refine wc_ops ?_
  refine wj_q _ (q_ld (p := [.ints .u64 5 (p0)]) rfl (.there .here) rfl) ?_
  refine wj_q _ (q_call (vs := [agg [.ints .u64 5 (p0)]]) (v := agg [.ints .u64 5 (y5)]) rfl (fun w hw => field_reduce_spec (r := y5) (p0 := p0) ey5 )) ?_
  refine wj_e (ef_st (q := [.ints .u64 5 (y5)]) rfl rfl rfl rfl rfl (.there .here) ?_)
  refine wj_nil ?_
  refine wc_seq ?_
  revert h
  refine bnd_i fun z7 ez7 => ?_
  refine bnd_i fun z8 ez8 => ?_
  refine bnd_i fun z9 ez9 => ?_
  intro h
  refine wc_ops ?_
  refine wj_q _ (q_ia rfl rfl (by decide)) ?_
  refine wj_q _ (iz ez7 (q_ld1 rfl (.there .here) rfl)) ?_
  refine wj_q _ (iz ez8 (q_bin rfl rfl rfl)) ?_
  refine wj_q _ (az (fun z => agg [.ints .u64 5 z]) ez9 (q_bd (.one rfl rfl rfl BdR.nil))) ?_
  refine wj_e (ef_al fun b10 hb10 => ?_)
  refine wj_e (ef_st (q := [.ints .u64 5 (z9)]) rfl rfl rfl rfl rfl .here ?_)
  refine wj_nil ?_
  refine wc_seq ?_
  refine wc_seq ?_
  refine wc_ops ?_
  refine wj_q _ (q_mv rfl) ?_
  refine wj_nil ?_
  revert h
  refine jn_i fun k45 qk45 => ?_
  intro h
  refine wc_mono2 (G := fun t m => ∃ (a44 : List Int), k45 a44 = some r ∧ Fit [(2, .pointer (some ⟨b3, 0, none⟩)), (3, .pointer (some ⟨b10, 0, none⟩))] (ck b10 58 [.ints .u64 5 (a44)] :: (ck b3 58 [.ints .u64 5 ((List.replicate 5 0))] :: (ck b2 58 [.ints .u64 5 (y5)] :: []))) t m) ?_ ?_
  · refine wc_block ?_
    refine wc_loopJ (fun n67 t m => ∃ (i64 : Int) (a65 : List Int), field_Neg_l1 y5 k45 n67 i64 a65 = some r ∧ Fit [(1, .pointer (some ⟨b2, 0, none⟩)), (2, .pointer (some ⟨b3, 0, none⟩)), (3, .pointer (some ⟨b10, 0, none⟩)), (4, .int .i64 (i64))] (ck b10 58 [.ints .u64 5 (a65)] :: (ck b3 58 [.ints .u64 5 ((List.replicate 5 0))] :: (ck b2 58 [.ints .u64 5 (y5)] :: []))) t m) big ?_ ?_
    · exact ⟨1, z9, h, ⟨⟨rfl, rfl, rfl, rfl, trivial⟩, (.one .here (.one .here (.one .here .nil)))⟩⟩
    · rintro n67 t m ⟨i64, a65, h, hF⟩
      refine wc_fit hF ?_
      clear hF
      rcases n67 with _ | n67
      · exact none_i h
      have h : field_Neg_b1 y5 k45 (field_Neg_l1 y5 k45 n67) i64 a65 = some r := h
      unfold field_Neg_b1 at h
      obtain ⟨k66, qk66⟩ : ∃ k, k = field_Neg_l1 y5 k45 n67 := ⟨_, rfl⟩
      try rw [← qk66] at h
      refine wc_seq ?_
      refine wc_seq ?_
      refine wc_ops ?_
      refine wj_q _ (q_mv rfl) ?_
      refine wj_q _ (q_bin rfl rfl rfl) ?_
      refine wj_nil ?_
      refine wc_if (c := (decide (i64 < 5))) rfl (fun d69 => ?_) (fun d69 => ?_)
      · have h := br_t h d69
        refine wc_skip ?_
        refine wc_seq ?_
        refine wc_block ?_
        revert h
        refine chk_i fun c71 => ?_
        refine bnd_i fun z72 ez72 => ?_
        refine bnd_i fun z73 ez73 => ?_
        refine chk_i fun c74 => ?_
        refine bnd_i fun l75 el75 => ?_
        intro h
        refine wc_ops ?_
        refine wj_q _ (q_mv rfl) ?_
        refine wj_q _ (q_mv rfl) ?_
        refine wj_q _ (q_ia rfl rfl (inB_z c71)) ?_
        refine wj_q _ (iz ez72 (q_ldi (base := 0) rfl (.there (.there .here)) rfl (inB_n c71))) ?_
        refine wj_q _ (iz ez73 (q_bin rfl rfl rfl)) ?_
        refine wj_q _ (q_ia rfl rfl (inB_z c74)) ?_
        refine wj_e (ef_stiz (q := [.ints .u64 5 (l75)]) (base := 0) el75 rfl rfl rfl (inB_n c74) rfl .here ?_)
        refine wj_nil ?_
        revert h
        refine bnd_i fun z77 ez77 => ?_
        intro h
        refine wc_ops ?_
        refine wj_q _ (q_mv rfl) ?_
        refine wj_q _ (iz ez77 (q_bin rfl rfl rfl)) ?_
        refine wj_q _ (q_mv rfl) ?_
        refine wj_nil ?_
        rw [qk66] at h
        exact ⟨n67, Nat.lt_succ_self _, z77, l75, h, ⟨⟨rfl, rfl, rfl, rfl, trivial⟩, (.one .here (.one .here (.one .here .nil)))⟩⟩
      · have h := br_f h d69
        refine wc_exit _ rfl ?_
        exact ⟨a65, h, ⟨⟨rfl, rfl, trivial⟩, (.one .here (.one .here (.one .here .nil)))⟩⟩
  · rintro t m ⟨a44, h, hF⟩
    refine wc_fit hF ?_
    clear hF
    subst qk45
    refine wc_seq ?_
    revert h
    refine opt_i fun y79 ey79 => ?_
    intro h
    refine wc_ops ?_
    refine wj_q _ (q_ld (p := [.ints .u64 5 (a44)]) rfl .here rfl) ?_
    refine wj_q _ (q_call (vs := [agg [.ints .u64 5 (a44)]]) (v := agg [.ints .u64 5 (y79)]) rfl (fun w hw => field_reduce_spec (r := y79) (p0 := a44) ey79 )) ?_
    refine wj_e (ef_st (q := [.ints .u64 5 (y79)]) rfl rfl rfl rfl rfl (.there .here) ?_)
    refine wj_nil ?_
    refine wc_ret ?_
    revert h; refine ret_i fun h => ?_
    subst h
    exact ⟨_, (.cons (.agg rfl (.there .here) rfl) .nil), rfl⟩
end Go.Proofs.YtiflckckekjbnaaDoor
