/- Mirrors. -/
import Derived.Test.YtiflckckekjbnaaDoorL9
namespace Go.Proofs.YtiflckckekjbnaaDoor
open Go Go.Sx Go.RowKit
set_option linter.all false
set_option maxHeartbeats 400000
set_option maxRecDepth 100000
/- farebox/sign.Verify -/
def sign_Verify (p0 : List Int) (p1 : List Int) (p2 : List Int) : Option (Bool) :=
 opt (curve_Decode p0) fun y5 =>
 chk (decide (32 ≤ (tk p2 32 (64 - 32)).length)) <|
 bnd (tk (tk p2 32 (64 - 32)) 0 32) fun z9 =>
 chk (imp (!(!y5.2)) ((scalar_Canonical z9).isSome)) <|
 br (((!y5.2) || (!((scalar_Canonical z9).getD false)))) (
 some false
 ) (
 jn (fun (a22 : List Int) => opt (curve_Neg y5.1) fun y31 =>
 opt (curve_Combine a22 y31 z9) fun y32 =>
 opt (curve_Encode y32) fun y33 =>
 chk (decide (32 ≤ (tk p2 0 32).length)) <|
 bnd (tk (tk p2 0 32) 0 32) fun z37 =>
 some (ieq 32 y33 z37)) fun k23 => opt (sign_hash [(tk p2 0 32), (tk p0 0 32), p1]) fun y28 =>
 k23 y28
 )
theorem sign_Verify_spec {W : World} {r : Bool} {p0 : List Int} {p1 : List Int} {p2 : List Int} {v1 : Value} (h : sign_Verify p0 p1 p2 = some r) (hG : Globs W) (A1 : RdSl (El.int .u8) W v1 p1) :
    Calls Tryd.prog 7 [agg [.ints .u8 32 (p0)], v1, agg [.ints .u8 64 (p2)]].toArray W (ret1 W (.bool (r))) := by
  unfold sign_Verify at h
  refine calls_val mo ok7 rfl ?_
  refine wc_seq ?_
  refine wc_ops ?_
  refine wj_e (ef_bx (s := [.ints .u8 32 (p0)]) rfl fun b2 hb2 => ?_)
  refine wj_e (ef_bx (s := [.ints .u8 64 (p2)]) rfl fun b3 hb3 => ?_)
  refine wj_q _ (q_mv rfl) ?_
  refine wj_nil ?_
  refine wc_seq ?_
  revert h
  refine opt_i fun y5 ey5 => ?_
  intro h
  refine wc_ops ?_
  refine wj_q _ (q_ld (p := [.ints .u8 32 (p0)]) rfl (.there .here) rfl) ?_
  refine wj_q _ (q_call (vs := [agg [.ints .u8 32 (p0)]]) (v := .tuple #[agg [.ints .u64 5 (y5.1.gX), .ints .u64 5 (y5.1.gY), .ints .u64 5 (y5.1.gZ), .ints .u64 5 (y5.1.gT)], .bool (y5.2)]) rfl (fun w hw => curve_Decode_spec (r := y5) (p0 := p0) ey5 )) ?_
  refine wj_q _ (q_mv rfl) ?_
  refine wj_q _ (q_ext rfl rfl) ?_
  refine wj_q _ (q_ext rfl rfl) ?_
  refine wj_e (ef_al fun b6 hb6 => ?_)
  refine wj_e (ef_st (q := [.ints .u64 5 (y5.1.gX), .ints .u64 5 (y5.1.gY), .ints .u64 5 (y5.1.gZ), .ints .u64 5 (y5.1.gT)]) rfl rfl rfl rfl rfl .here ?_)
  refine wj_q _ (q_mv rfl) ?_
  refine wj_nil ?_
  refine wc_seq ?_
  revert h
  refine chk_i fun c8 => ?_
  refine bnd_i fun z9 ez9 => ?_
  intro h
  refine wc_ops ?_
  refine wj_q _ (q_sla rfl (.yes rfl) .no .no (by simp) (by decide)) ?_
  refine wj_q _ (q_s2aP rfl (Shp.blk (lo := 32) (hi := 64) (mz := 64) (by decide) (by simp [tk_length])) (by decide) c8) ?_
  refine wj_q _ (az (fun z => agg [.ints .u8 32 z]) ez9 (q_ldS rfl (rd_blk_i (s := [.ints .u8 64 (p2)]) (N := 64) (k := .u8) (base := 0) (lo := 32) (hi := 64) (mz := 64) (.there .here) rfl (by decide)) (by decide) c8)) ?_
  refine wj_e (ef_al fun b10 hb10 => ?_)
  refine wj_e (ef_st (q := [.ints .u8 32 (z9)]) rfl rfl rfl rfl rfl .here ?_)
  refine wj_nil ?_
  refine wc_seq ?_
  refine wc_seq ?_
  revert h
  refine chk_i fun c12 => ?_
  intro h
  refine wc_ops ?_
  refine wj_q _ (q_mv rfl) ?_
  refine wj_q _ (q_un rfl rfl) ?_
  refine wj_q _ (q_mv rfl) ?_
  refine wj_or rfl rfl rfl (fun hg1 => qj_g rfl _ (q_ld (p := [.ints .u8 32 (z9)]) rfl .here rfl) (qj_g rfl _ (q_call (vs := [agg [.ints .u8 32 (z9)]]) (v := .bool (((scalar_Canonical z9).getD false))) rfl (fun w hw => scalar_Canonical_spec (r := ((scalar_Canonical z9).getD false)) (p0 := z9) (getD_some (z := false) (imp_f c12 hg1)) (hG.at hw (by simp)))) (qj_g rfl _ (q_un rfl rfl) (qj_nil)))) (fun hg1 => rfl) rfl ?_
  refine wj_nil ?_
  refine wc_if (c := ((!y5.2) || (!((scalar_Canonical z9).getD false)))) rfl (fun d13 => ?_) (fun d13 => ?_)
  · have h := br_t h d13
    refine wc_seq ?_
    refine wc_ops ?_
    refine wj_q _ (q_mv rfl) ?_
    refine wj_nil ?_
    refine wc_ret ?_
    revert h; refine ret_i fun h => ?_
    subst h
    exact ⟨_, (.cons (.tmp rfl) .nil), rfl⟩
  · have h := br_f h d13
    refine wc_skip ?_
    refine wc_seq ?_
    revert h
    refine jn_i fun k23 qk23 => ?_
    intro h
    refine wc_mono2 (G := fun t m => ∃ (a22 : List Int) (b21 : Nat), k23 a22 = some r ∧ Fit [(5, .pointer (some ⟨b3, 0, none⟩)), (7, .pointer (some ⟨b6, 0, none⟩)), (9, .pointer (some ⟨b10, 0, none⟩)), (10, .pointer (some ⟨b21, 0, none⟩))] (ck b21 63 [.ints .u8 32 (a22)] :: (ck b10 63 [.ints .u8 32 (z9)] :: (ck b6 60 [.ints .u64 5 (y5.1.gX), .ints .u64 5 (y5.1.gY), .ints .u64 5 (y5.1.gZ), .ints .u64 5 (y5.1.gT)] :: (ck b3 30 [.ints .u8 64 (p2)] :: (ck b2 27 [.ints .u8 32 (p0)] :: []))))) t m) ?_ ?_
    · revert h
      refine opt_i fun y28 ey28 => ?_
      intro h
      refine wc_draw ?_
      refine ws_p1 _ (q_sla rfl .no (.yes rfl) .no (by simp) (by decide)) ?_
      refine ws_p1 _ (q_sla rfl .no .no .no (by simp) (by decide)) ?_
      refine ws_p1 _ (q_mv rfl) ?_
      refine ws_two (ef_bsO (E := El.sl) (xs := [unS (.slice (some (slAddr b3 0 0 64 1)) (32 - 0) (64 - 0)), unS (.slice (some (slAddr b2 0 0 32 1)) (32 - 0) (32 - 0)), unS v1]) (.one rfl (IsSl.cells ⟨_, _, _, rfl⟩) rfl (.one rfl (IsSl.cells ⟨_, _, _, rfl⟩) rfl (.one rfl (IsSl.cells (Shp.isSl (Shp.rd A1))) rfl BdR.nil))) (.cons (p := [.one (.slice (some (slAddr b3 0 0 64 1)) (32 - 0) (64 - 0))]) (sl_cell ⟨_, _, _, rfl⟩) (.cons (p := [.one (.slice (some (slAddr b2 0 0 32 1)) (32 - 0) (32 - 0))]) (sl_cell ⟨_, _, _, rfl⟩) (.cons (p := [.one v1]) (sl_cell (Shp.isSl (Shp.rd A1))) .nil))) rfl fun v25 ms26 O27 => ⟨(by repeat (first | exact Sup.refl _ | apply Sup.cons | apply Sup.app)), ?_⟩) (ef_al fun b29 hb29 => ⟨(by repeat (first | exact Sup.refl _ | apply Sup.cons | apply Sup.app)), ?_⟩)
      · refine ws_two (ef_q _ (q_call (vs := [v25]) (v := agg [.ints .u8 32 (y28)]) rfl (fun w hw => sign_hash_spec (r := y28) (p0 := [(tk p2 0 32), (tk p0 0 32), p1]) ey28 (hG.at hw (by simp)) (rd_own O27 .here w hw) (.cons (rd_unS ((rd_blk_i (s := [.ints .u8 64 (p2)]) (N := 64) (k := .u8) (base := 0) (lo := 0) (hi := 32) (mz := 64) (.app (.there (.there .here))) rfl (by decide)) w hw)) (.cons (rd_unS ((rd_blk_i (s := [.ints .u8 32 (p0)]) (N := 32) (k := .u8) (base := 0) (lo := 0) (hi := 32) (mz := 32) (.app (.there (.there (.there .here)))) rfl (by decide)) w hw)) (.cons (rd_unS ((rd_arg A1 apart0) w hw)) .nil))))) ⟨(by repeat (first | exact Sup.refl _ | apply Sup.cons | apply Sup.app)), ?_⟩) (ef_al fun b29 hb29 => ⟨(by repeat (first | exact Sup.refl _ | apply Sup.cons | apply Sup.app)), ?_⟩)
        · refine ws_e1 (ef_al fun b29 hb29 => ⟨(by repeat (first | exact Sup.refl _ | apply Sup.cons | apply Sup.app)), ?_⟩)
          refine ws_eL rfl (ef_st (q := [.ints .u8 32 (y28)]) rfl rfl rfl rfl rfl .here ?_)
          refine ws_nil ?_
          exact ⟨y28, b29, h, ⟨⟨rfl, rfl, rfl, rfl, trivial⟩, (.one .here (.one (.app .here) (.one (.app .here) (.one (.app .here) (.one (.app .here) .nil)))))⟩⟩
        · refine ws_eq _ (q_call (vs := [v25]) (v := agg [.ints .u8 32 (y28)]) rfl (fun w hw => sign_hash_spec (r := y28) (p0 := [(tk p2 0 32), (tk p0 0 32), p1]) ey28 (hG.at hw (by simp)) (rd_own O27 (.there .here) w hw) (.cons (rd_unS ((rd_blk_i (s := [.ints .u8 64 (p2)]) (N := 64) (k := .u8) (base := 0) (lo := 0) (hi := 32) (mz := 64) (.there (.app (.there (.there .here)))) rfl (by decide)) w hw)) (.cons (rd_unS ((rd_blk_i (s := [.ints .u8 32 (p0)]) (N := 32) (k := .u8) (base := 0) (lo := 0) (hi := 32) (mz := 32) (.there (.app (.there (.there (.there .here))))) rfl (by decide)) w hw)) (.cons (rd_unS ((rd_arg A1 apart0) w hw)) .nil))))) ?_ (by repeat (first | exact Sup.refl _ | apply Sup.cons | apply Sup.app))
          refine ws_eL rfl (ef_st (q := [.ints .u8 32 (y28)]) rfl rfl rfl rfl rfl .here ?_)
          refine ws_nil ?_
          exact ⟨y28, b29, h, ⟨⟨rfl, rfl, rfl, rfl, trivial⟩, (.one .here (.one (.app .here) (.one (.app .here) (.one (.app .here) (.one (.app .here) .nil)))))⟩⟩
      · refine ws_e1 (ef_bsO (E := El.sl) (xs := [unS (.slice (some (slAddr b3 0 0 64 1)) (32 - 0) (64 - 0)), unS (.slice (some (slAddr b2 0 0 32 1)) (32 - 0) (32 - 0)), unS v1]) (.one rfl (IsSl.cells ⟨_, _, _, rfl⟩) rfl (.one rfl (IsSl.cells ⟨_, _, _, rfl⟩) rfl (.one rfl (IsSl.cells (Shp.isSl (Shp.rd A1))) rfl BdR.nil))) (.cons (p := [.one (.slice (some (slAddr b3 0 0 64 1)) (32 - 0) (64 - 0))]) (sl_cell ⟨_, _, _, rfl⟩) (.cons (p := [.one (.slice (some (slAddr b2 0 0 32 1)) (32 - 0) (32 - 0))]) (sl_cell ⟨_, _, _, rfl⟩) (.cons (p := [.one v1]) (sl_cell (Shp.isSl (Shp.rd A1))) .nil))) rfl fun v25 ms26 O27 => ⟨(by repeat (first | exact Sup.refl _ | apply Sup.cons | apply Sup.app)), ?_⟩)
        refine ws_eq _ (q_call (vs := [v25]) (v := agg [.ints .u8 32 (y28)]) rfl (fun w hw => sign_hash_spec (r := y28) (p0 := [(tk p2 0 32), (tk p0 0 32), p1]) ey28 (hG.at hw (by simp)) (rd_own O27 .here w hw) (.cons (rd_unS ((rd_blk_i (s := [.ints .u8 64 (p2)]) (N := 64) (k := .u8) (base := 0) (lo := 0) (hi := 32) (mz := 64) (.app (.there (.there (.there .here)))) rfl (by decide)) w hw)) (.cons (rd_unS ((rd_blk_i (s := [.ints .u8 32 (p0)]) (N := 32) (k := .u8) (base := 0) (lo := 0) (hi := 32) (mz := 32) (.app (.there (.there (.there (.there .here))))) rfl (by decide)) w hw)) (.cons (rd_unS ((rd_arg A1 apart0) w hw)) .nil))))) ?_ (by repeat (first | exact Sup.refl _ | apply Sup.cons | apply Sup.app))
        refine ws_eL rfl (ef_st (q := [.ints .u8 32 (y28)]) rfl rfl rfl rfl rfl (.app .here) ?_)
        refine ws_nil ?_
        exact ⟨y28, b29, h, ⟨⟨rfl, rfl, rfl, rfl, trivial⟩, (.one (.app .here) (.one (.app .here) (.one (.app .here) (.one (.app .here) (.one (.app .here) .nil)))))⟩⟩
    · rintro t m ⟨a22, b21, h, hF⟩
      refine wc_fit hF ?_
      clear hF
      subst qk23
      refine wc_seq ?_
      revert h
      refine opt_i fun y31 ey31 => ?_
      refine opt_i fun y32 ey32 => ?_
      refine opt_i fun y33 ey33 => ?_
      intro h
      refine wc_draw ?_
      refine ws_q1 _ (q_ld (p := [.ints .u8 32 (a22)]) rfl .here rfl) ?_
      refine ws_q1 _ (q_ld (p := [.ints .u64 5 (y5.1.gX), .ints .u64 5 (y5.1.gY), .ints .u64 5 (y5.1.gZ), .ints .u64 5 (y5.1.gT)]) rfl (.there (.there .here)) rfl) ?_
      refine ws_p1 _ (q_call (vs := [agg [.ints .u64 5 (y5.1.gX), .ints .u64 5 (y5.1.gY), .ints .u64 5 (y5.1.gZ), .ints .u64 5 (y5.1.gT)]]) (v := agg [.ints .u64 5 (y31.gX), .ints .u64 5 (y31.gY), .ints .u64 5 (y31.gZ), .ints .u64 5 (y31.gT)]) rfl (fun w hw => curve_Neg_spec (r := y31) (p0 := y5.1) ey31 )) ?_
      refine ws_q1 _ (q_ld (p := [.ints .u8 32 (z9)]) rfl (.there .here) rfl) ?_
      refine ws_p1 _ (q_call (vs := [agg [.ints .u8 32 (a22)], agg [.ints .u64 5 (y31.gX), .ints .u64 5 (y31.gY), .ints .u64 5 (y31.gZ), .ints .u64 5 (y31.gT)], agg [.ints .u8 32 (z9)]]) (v := agg [.ints .u64 5 (y32.gX), .ints .u64 5 (y32.gY), .ints .u64 5 (y32.gZ), .ints .u64 5 (y32.gT)]) rfl (fun w hw => curve_Combine_spec (r := y32) (p0 := a22) (p1 := y31) (p2 := z9) ey32 )) ?_
      refine ws_p1 _ (q_call (vs := [agg [.ints .u64 5 (y32.gX), .ints .u64 5 (y32.gY), .ints .u64 5 (y32.gZ), .ints .u64 5 (y32.gT)]]) (v := agg [.ints .u8 32 (y33)]) rfl (fun w hw => curve_Encode_spec (r := y33) (p0 := y32) ey33 )) ?_
      refine ws_e1 (ef_al fun b34 hb34 => ⟨(by repeat (first | exact Sup.refl _ | apply Sup.cons | apply Sup.app)), ?_⟩)
      refine ws_eL rfl (ef_st (q := [.ints .u8 32 (y33)]) rfl rfl rfl rfl rfl .here ?_)
      refine ws_nil ?_
      refine wc_seq ?_
      revert h
      refine chk_i fun c36 => ?_
      refine bnd_i fun z37 ez37 => ?_
      intro h
      refine wc_draw ?_
      refine ws_p1 _ (q_sla rfl .no (.yes rfl) .no (by simp) (by decide)) ?_
      refine ws_p1 _ (q_s2aP rfl (Shp.blk (lo := 0) (hi := 32) (mz := 64) (by decide) (by simp [tk_length])) (by decide) c36) ?_
      refine ws_q1 _ (q_ld (p := [.ints .u8 32 (y33)]) rfl .here rfl) ?_
      refine ws_q1 _ (az (fun z => agg [.ints .u8 32 z]) ez37 (q_ldS rfl (rd_blk_i (s := [.ints .u8 64 (p2)]) (N := 64) (k := .u8) (base := 0) (lo := 0) (hi := 32) (mz := 64) (.there (.there (.there (.there .here)))) rfl (by decide)) (by decide) c36)) ?_
      refine ws_p1 _ (q_eqa rfl rfl rfl rfl _ (eqc_last eqc_ints)) ?_
      refine ws_p1 _ (q_mv rfl) ?_
      refine ws_nil ?_
      refine wc_ret ?_
      revert h; refine ret_i fun h => ?_
      subst h
      exact ⟨_, (.cons (.tmp rfl) .nil), rfl⟩
/- farebox/sign.VerifyAll -/
abbrev E_a32_El_int_u8 : El (List Int) := ⟨32, fun x => cells [.ints .u8 32 (x)], fun x => by rw [cells_length]; rfl, fun x => (ones_cons ones_ints ones_nil), by decide, (List.replicate 32 0)⟩
abbrev E_a64_El_int_u8 : El (List Int) := ⟨64, fun x => cells [.ints .u8 64 (x)], fun x => by rw [cells_length]; rfl, fun x => (ones_cons ones_ints ones_nil), by decide, (List.replicate 64 0)⟩
def sign_VerifyAll_b1 (p0 : List (List Int)) (p1 : List (List Int)) (p2 : List (List Int)) (k52 : Unit → Option (Int × Bool)) (k82 : (Int) → Option (Int × Bool)) (i81 : Int) : Option (Int × Bool) :=
 br ((decide (i81 < (p0.length : Int)))) (
 chk (inB i81 p0.length) <|
 bnd (p0.getD (i81).toNat (List.replicate 32 0)) fun x89 =>
 chk (inB i81 p1.length) <|
 chk (inB i81 p2.length) <|
 bnd (p2.getD (i81).toNat (List.replicate 64 0)) fun x92 =>
 opt (sign_Verify x89 (p1.getD (i81).toNat []) x92) fun y93 =>
 br ((!y93)) (
 some (i81, false)
 ) (
 bnd (IntKind.wrap .i64 (i81 + 1)) fun z97 =>
 k82 z97
 )
 ) (
 k52 ()
 )
def sign_VerifyAll_l1 (p0 : List (List Int)) (p1 : List (List Int)) (p2 : List (List Int)) (k52 : Unit → Option (Int × Bool)) : Nat → (Int) → Option (Int × Bool)
  | 0, _ => none
  | n + 1, i81 => sign_VerifyAll_b1 p0 p1 p2 k52 (sign_VerifyAll_l1 p0 p1 p2 k52 n) i81
def sign_VerifyAll (p0 : List (List Int)) (p1 : List (List Int)) (p2 : List (List Int)) : Option (Int × Bool) :=
 br ((((p1.length : Int) != (p0.length : Int)) || ((p2.length : Int) != (p0.length : Int)))) (
 some ((-1), false)
 ) (
 jn (fun (_ : Unit) => some ((p0.length : Int), true)) fun k52 => sign_VerifyAll_l1 p0 p1 p2 k52 big 0
 )
theorem sign_VerifyAll_spec {W : World} {r : Int × Bool} {p0 : List (List Int)} {p1 : List (List Int)} {p2 : List (List Int)} {v0 : Value} {v1 : Value} {us1 : List SlT} {v2 : Value} (h : sign_VerifyAll p0 p1 p2 = some r) (hG : Globs W) (A0 : RdSl E_a32_El_int_u8 W v0 p0) (A1 : RdSl El.sl W v1 us1) (B1 : RdAll (El.int .u8) W us1 p1) (A2 : RdSl E_a64_El_int_u8 W v2 p2) :
    Calls Tryd.prog 8 [v0, v1, v2].toArray W (ret1 W (.tuple #[.int .i64 (r.1), .bool (r.2)])) := by
  unfold sign_VerifyAll at h
  refine calls_val mo ok8 rfl ?_
  refine wc_seq ?_
  refine wc_ops ?_
  refine wj_q _ (q_mv rfl) ?_
  refine wj_q _ (q_mv rfl) ?_
  refine wj_nil ?_
  refine wc_seq ?_
  refine wc_ops ?_
  refine wj_q _ (q_mv rfl) ?_
  refine wj_q _ (q_lenP rfl (Shp.rd A0)) ?_
  refine wj_q _ (q_mv rfl) ?_
  refine wj_nil ?_
  refine wc_seq ?_
  refine wc_seq ?_
  refine wc_ops ?_
  refine wj_q _ (q_mv rfl) ?_
  refine wj_q _ ((len_nlP (q_lenP rfl (Shp.rd A1)) (RdAll.len B1))) ?_
  refine wj_q _ (q_mv rfl) ?_
  refine wj_q _ (q_bin rfl rfl rfl) ?_
  refine wj_q _ (q_mv rfl) ?_
  refine wj_or rfl rfl rfl (fun hg1 => qj_g rfl _ (q_mv rfl) (qj_g rfl _ (q_lenP rfl (Shp.rd A2)) (qj_g rfl _ (q_mv rfl) (qj_g rfl _ (q_bin rfl rfl rfl) (qj_nil))))) (fun hg1 => rfl) rfl ?_
  refine wj_nil ?_
  refine wc_if (c := (((p1.length : Int) != (p0.length : Int)) || ((p2.length : Int) != (p0.length : Int)))) rfl (fun d4 => ?_) (fun d4 => ?_)
  · have h := br_t h d4
    refine wc_seq ?_
    refine wc_ops ?_
    refine wj_q _ (q_mv rfl) ?_
    refine wj_q _ (q_mv rfl) ?_
    refine wj_nil ?_
    refine wc_ret ?_
    revert h; refine ret_i fun h => ?_
    subst h
    exact ⟨_, (.cons (.tmp rfl) (.cons (.tmp rfl) .nil)), rfl⟩
  · have h := br_f h d4
    refine wc_skip ?_
    refine wc_seq ?_
    refine wc_seq ?_
    refine wc_ops ?_
    refine wj_q _ (q_mv rfl) ?_
    refine wj_q _ (q_mv rfl) ?_
    refine wj_nil ?_
    revert h
    refine jn_i fun k52 qk52 => ?_
    intro h
    refine wc_mono2 (G := fun t m => k52 () = some r ∧ Fit [(8, .int .i64 ((p0.length : Int)))] [] t m) ?_ ?_
    · refine wc_block ?_
      refine wc_loopJ (fun n83 t m => ∃ (i81 : Int), sign_VerifyAll_l1 p0 p1 p2 k52 n83 i81 = some r ∧ Fit [(0, v0), (1, v1), (2, v2), (8, .int .i64 ((p0.length : Int))), (22, .int .i64 ((p0.length : Int))), (23, .int .i64 (i81))] [] t m) big ?_ ?_
      · exact ⟨0, h, ⟨⟨rfl, rfl, rfl, rfl, rfl, rfl, trivial⟩, .nil⟩⟩
      · rintro n83 t m ⟨i81, h, hF⟩
        refine wc_fit hF ?_
        clear hF
        rcases n83 with _ | n83
        · exact none_i h
        have h : sign_VerifyAll_b1 p0 p1 p2 k52 (sign_VerifyAll_l1 p0 p1 p2 k52 n83) i81 = some r := h
        unfold sign_VerifyAll_b1 at h
        obtain ⟨k82, qk82⟩ : ∃ k, k = sign_VerifyAll_l1 p0 p1 p2 k52 n83 := ⟨_, rfl⟩
        try rw [← qk82] at h
        refine wc_seq ?_
        refine wc_ops ?_
        refine wj_q _ (q_bin rfl rfl rfl) ?_
        refine wj_nil ?_
        refine wc_seq ?_
        refine wc_if (c := (decide (i81 < (p0.length : Int)))) rfl (fun d85 => ?_) (fun d85 => ?_)
        · have h := br_t h d85
          refine wc_skip ?_
          refine wc_seq ?_
          refine wc_block ?_
          refine wc_seq ?_
          refine wc_ops ?_
          refine wj_q _ (q_mv rfl) ?_
          refine wj_q _ (q_mv rfl) ?_
          refine wj_nil ?_
          refine wc_seq ?_
          revert h
          refine chk_i fun c88 => ?_
          refine bnd_i fun x89 ex89 => ?_
          refine chk_i fun c90 => ?_
          refine chk_i fun c91 => ?_
          refine bnd_i fun x92 ex92 => ?_
          refine opt_i fun y93 ey93 => ?_
          intro h
          refine wc_draw ?_
          refine ws_p1 _ (q_mv rfl) ?_
          refine ws_p1 _ (q_mv rfl) ?_
          refine ws_p1 _ (q_iasP rfl rfl (Shp.rd A0) c88) ?_
          refine ws_p1 _ (q_mv rfl) ?_
          refine ws_p1 _ (q_mv rfl) ?_
          refine ws_p1 _ (q_iasP rfl rfl (Shp.rd A1) (all_len B1 c90)) ?_
          refine ws_p1 _ (q_mv rfl) ?_
          refine ws_p1 _ (q_mv rfl) ?_
          refine ws_p1 _ (q_iasP rfl rfl (Shp.rd A2) c91) ?_
          refine ws_q1 _ (az (fun (x89 : List Int) => agg [.ints .u8 32 (x89)]) ex89 (q_ldM0 (E := E_a32_El_int_u8) (s := [.ints .u8 32 ((p0.getD (i81).toNat (List.replicate 32 0)))]) rfl (rd_arg A0 apart0) (inB_n c88) rfl rfl)) ?_
          refine ws_q1 _ (q_ldM10 (E := El.sl) (s := [.one (slV (us1.getD (i81).toNat (none, 0, 0)))]) rfl (rd_arg A1 apart0) (inB_n (all_len B1 c90)) rfl rfl) ?_
          refine ws_q1 _ (az (fun (x92 : List Int) => agg [.ints .u8 64 (x92)]) ex92 (q_ldM0 (E := E_a64_El_int_u8) (s := [.ints .u8 64 ((p2.getD (i81).toNat (List.replicate 64 0)))]) rfl (rd_arg A2 apart0) (inB_n c91) rfl rfl)) ?_
          refine ws_q1 _ (q_call (vs := [agg [.ints .u8 32 (x89)], (slV (us1.getD (i81).toNat (none, 0, 0))), agg [.ints .u8 64 (x92)]]) (v := .bool (y93)) rfl (fun w hw => sign_Verify_spec (r := y93) (p0 := x89) (p1 := (p1.getD (i81).toNat [])) (p2 := x92) ey93 (hG.at hw (by simp)) ((rd_arg (RdAll.get B1 _ (inB_n c90)) apart0) w hw))) ?_
          refine ws_p1 _ (q_un rfl rfl) ?_
          refine ws_nil ?_
          refine wc_if (c := (!y93)) rfl (fun d94 => ?_) (fun d94 => ?_)
          · have h := br_t h d94
            refine wc_seq ?_
            refine wc_ops ?_
            refine wj_q _ (q_mv rfl) ?_
            refine wj_q _ (q_mv rfl) ?_
            refine wj_q _ (q_mv rfl) ?_
            refine wj_nil ?_
            refine wc_ret ?_
            revert h; refine ret_i fun h => ?_
            subst h
            exact ⟨_, (.cons (.tmp rfl) (.cons (.tmp rfl) .nil)), rfl⟩
          · have h := br_f h d94
            refine wc_skip ?_
            revert h
            refine bnd_i fun z97 ez97 => ?_
            intro h
            refine wc_ops ?_
            refine wj_q _ (iz ez97 (q_bin rfl rfl rfl)) ?_
            refine wj_q _ (q_mv rfl) ?_
            refine wj_nil ?_
            rw [qk82] at h
            exact ⟨n83, Nat.lt_succ_self _, z97, h, ⟨⟨rfl, rfl, rfl, rfl, rfl, rfl, trivial⟩, .nil⟩⟩
        · have h := br_f h d85
          refine wc_exit _ rfl ?_
          exact ⟨h, ⟨⟨rfl, trivial⟩, .nil⟩⟩
    · rintro t m ⟨h, hF⟩
      refine wc_fit hF ?_
      clear hF
      subst qk52
      refine wc_seq ?_
      refine wc_ops ?_
      refine wj_q _ (q_mv rfl) ?_
      refine wj_q _ (q_mv rfl) ?_
      refine wj_q _ (q_mv rfl) ?_
      refine wj_nil ?_
      refine wc_ret ?_
      revert h; refine ret_i fun h => ?_
      subst h
      exact ⟨_, (.cons (.tmp rfl) (.cons (.tmp rfl) .nil)), rfl⟩
/- farebox/sha512.Sum -/
def sha512_Sum (p0 : List Int) : Option ((List Int)) :=
 opt (sha512_New ) fun y4 =>
 opt (sha512_Digest_Write y4 p0) fun y10 =>
 opt (sha512_Digest_Sum y10) fun y14 =>
 some y14.1
theorem sha512_Sum_spec {W : World} {r : (List Int)} {p0 : List Int} {v0 : Value} (h : sha512_Sum p0 = some r) (hG : Globs W) (A0 : RdSl (El.int .u8) W v0 p0) :
    Calls Tryd.prog 58 [v0].toArray W (ret1 W (agg [.ints .u8 64 (r)])) := by
  unfold sha512_Sum at h
  refine calls_val mo ok58 rfl ?_
  refine wc_seq ?_
  refine wc_ops ?_
  refine wj_e (ef_al fun b2 hb2 => ?_)
  refine wj_nil ?_
  refine wc_seq ?_
  revert h
  refine opt_i fun y4 ey4 => ?_
  intro h
  refine wc_ops ?_
  refine wj_e (ef_callS0 rfl (fun w hw => sha512_New_spec (r := y4) ey4 (hG.at hw (by simp))) fun v5 Msv5 R6 => ?_)
  obtain ⟨b7, T8, rfl, rfl⟩ := R6
  refine wj_q _ (q_mv rfl) ?_
  refine wj_nil ?_
  refine wc_seq ?_
  revert h
  refine opt_i fun y10 ey10 => ?_
  intro h
  refine wc_ops ?_
  refine wj_q _ (q_mv rfl) ?_
  refine wj_q _ (q_mv rfl) ?_
  refine wj_e (ef_callS (mS := [_]) rfl (Take1.perm .here) (fun w hw => sha512_Digest_Write_spec (b := b7) (r := y10) (p0 := y4) (p1 := p0) ey10 (sat_own hw (mS := [_]) (Take1.perm .here)) (hG.at hw (by simp)) (hG.ap (by simp) .here hw) ⟨(rd_arg A0 apart0) w hw, (apart_arg (E := (El.int .u8)) A0 .here hw)⟩) fun v11 Msv11 R12 => ?_)
  obtain ⟨rfl, rfl⟩ := R12
  refine wj_nil ?_
  refine wc_seq ?_
  revert h
  refine opt_i fun y14 ey14 => ?_
  intro h
  refine wc_ops ?_
  refine wj_q _ (q_mv rfl) ?_
  refine wj_e (ef_callS (mS := [_]) rfl (Take1.perm .here) (fun w hw => sha512_Digest_Sum_spec (b := b7) (r := y14) (p0 := y10) ey14 (sat_own hw (mS := [_]) (Take1.perm .here)) (hG.at hw (by simp)) (hG.ap (by simp) .here hw)) fun v15 Msv15 R16 => ?_)
  obtain ⟨rfl, rfl⟩ := R16
  refine wj_e (ef_st (q := [.ints .u8 64 (y14.1)]) rfl rfl rfl rfl rfl (.there .here) ?_)
  refine wj_nil ?_
  refine wc_ret ?_
  revert h; refine ret_i fun h => ?_
  subst h
  exact ⟨_, (.cons (.agg rfl (.there .here) rfl) .nil), rfl⟩
/- farebox/scalar.Clamp -/
def scalar_Clamp (p0 : List Int) : Option ((List Int)) :=
 bnd (p0.getD 0 0) fun z5 =>
 bnd (bitsV .andNot .u8 z5 7) fun z6 =>
 bnd (setD p0 0 z6) fun l7 =>
 bnd (l7.getD 31 0) fun z9 =>
 bnd (bitsV .and .u8 z9 127) fun z10 =>
 bnd (bitsV .or .u8 z10 64) fun z11 =>
 bnd (setD l7 31 z11) fun l12 =>
 some l12
theorem scalar_Clamp_spec {W : World} {r : (List Int)} {p0 : List Int} (h : scalar_Clamp p0 = some r)  :
    Calls Tryd.prog 59 [agg [.ints .u8 32 (p0)]].toArray W (ret1 W (agg [.ints .u8 32 (r)])) := by
  unfold scalar_Clamp at h
  refine calls_val mo ok59 rfl ?_
  refine wc_seq ?_
  refine wc_ops ?_
  refine wj_e (ef_bx (s := [.ints .u8 32 (p0)]) rfl fun b2 hb2 => ?_)
  refine wj_e (ef_al fun b3 hb3 => ?_)
  refine wj_nil ?_
  refine wc_seq ?_
  revert h
  refine bnd_i fun z5 ez5 => ?_
  refine bnd_i fun z6 ez6 => ?_
  refine bnd_i fun l7 el7 => ?_
  intro h
  refine wc_ops ?_
  refine wj_q _ (q_ia rfl rfl (by decide)) ?_
  refine wj_q _ (iz ez5 (q_ld1 rfl (.there .here) rfl)) ?_
  refine wj_q _ (iz ez6 (q_bin rfl rfl rfl)) ?_
  refine wj_q _ (q_ia rfl rfl (by decide)) ?_
  refine wj_e (ef_st1z (q := [.ints .u8 32 (l7)]) (congrArg (fun z => ([.ints .u8 32 (z)] : List Seg)) el7.symm) rfl rfl rfl rfl (.there .here) ?_)
  refine wj_nil ?_
  refine wc_seq ?_
  revert h
  refine bnd_i fun z9 ez9 => ?_
  refine bnd_i fun z10 ez10 => ?_
  refine bnd_i fun z11 ez11 => ?_
  refine bnd_i fun l12 el12 => ?_
  intro h
  refine wc_ops ?_
  refine wj_q _ (q_ia rfl rfl (by decide)) ?_
  refine wj_q _ (iz ez9 (q_ld1 rfl (.there .here) rfl)) ?_
  refine wj_q _ (iz ez10 (q_bin rfl rfl rfl)) ?_
  refine wj_q _ (iz ez11 (q_bin rfl rfl rfl)) ?_
  refine wj_q _ (q_ia rfl rfl (by decide)) ?_
  refine wj_e (ef_st1z (q := [.ints .u8 32 (l12)]) (congrArg (fun z => ([.ints .u8 32 (z)] : List Seg)) el12.symm) rfl rfl rfl rfl (.there .here) ?_)
  refine wj_nil ?_
  refine wc_seq ?_
  refine wc_ops ?_
  refine wj_q _ (q_ld (p := [.ints .u8 32 (l12)]) rfl (.there .here) rfl) ?_
  refine wj_e (ef_st (q := [.ints .u8 32 (l12)]) rfl rfl rfl rfl rfl .here ?_)
  refine wj_nil ?_
  refine wc_ret ?_
  revert h; refine ret_i fun h => ?_
  subst h
  exact ⟨_, (.cons (.agg rfl .here rfl) .nil), rfl⟩
/- farebox/sign.halves -/
def sign_halves (p0 : List Int) : Option ((List Int) × (List Int)) :=
 opt (sha512_Sum (tk p0 0 32)) fun y5 =>
 chk (decide (32 ≤ (tk y5 0 32).length)) <|
 bnd (tk (tk y5 0 32) 0 32) fun z9 =>
 opt (scalar_Clamp z9) fun y10 =>
 some (y10, (tk y5 32 (64 - 32)))
theorem sign_halves_spec {W : World} {r : (List Int) × (List Int)} {p0 : List Int} (h : sign_halves p0 = some r) (hG : Globs W) :
    Calls Tryd.prog 24 [agg [.ints .u8 32 (p0)]].toArray W (retS W [] (fun v Ms => ∃ (u1 : Value) (M1 : List Chunk), v = .tuple #[agg [.ints .u8 32 (r.1)], u1] ∧ Ms = [.all M1] ∧ OwnSl (El.int .u8) u1 M1 r.2)) := by
  unfold sign_halves at h
  refine calls_memT mo ok24 rfl (sat0 _) ?_
  refine wc_seq ?_
  refine wc_ops ?_
  refine wj_e (ef_bx (s := [.ints .u8 32 (p0)]) rfl fun b2 hb2 => ?_)
  refine wj_e (ef_al fun b3 hb3 => ?_)
  refine wj_q _ (q_mv rfl) ?_
  refine wj_nil ?_
  refine wc_seq ?_
  revert h
  refine opt_i fun y5 ey5 => ?_
  intro h
  refine wc_ops ?_
  refine wj_q _ (q_sla rfl .no .no .no (by simp) (by decide)) ?_
  refine wj_q _ (q_call (vs := [(.slice (some (slAddr b2 0 0 32 1)) (32 - 0) (32 - 0))]) (v := agg [.ints .u8 64 (y5)]) rfl (fun w hw => sha512_Sum_spec (r := y5) (p0 := (tk p0 0 32)) ey5 (hG.at hw (by simp)) ((rd_blk_i (s := [.ints .u8 32 (p0)]) (N := 32) (k := .u8) (base := 0) (lo := 0) (hi := 32) (mz := 32) (.there .here) rfl (by decide)) w hw))) ?_
  refine wj_e (ef_al fun b6 hb6 => ?_)
  refine wj_e (ef_st (q := [.ints .u8 64 (y5)]) rfl rfl rfl rfl rfl .here ?_)
  refine wj_nil ?_
  refine wc_seq ?_
  revert h
  refine chk_i fun c8 => ?_
  refine bnd_i fun z9 ez9 => ?_
  refine opt_i fun y10 ey10 => ?_
  intro h
  refine wc_draw ?_
  refine ws_p1 _ (q_sla rfl .no (.yes rfl) .no (by simp) (by decide)) ?_
  refine ws_p1 _ (q_s2aP rfl (Shp.blk (lo := 0) (hi := 32) (mz := 64) (by decide) (by simp [tk_length])) (by decide) c8) ?_
  refine ws_p1 _ (q_sla rfl (.yes rfl) .no .no (by simp) (by decide)) ?_
  refine ws_q1 _ (az (fun z => agg [.ints .u8 32 z]) ez9 (q_ldS rfl (rd_blk_i (s := [.ints .u8 64 (y5)]) (N := 64) (k := .u8) (base := 0) (lo := 0) (hi := 32) (mz := 64) .here rfl (by decide)) (by decide) c8)) ?_
  refine ws_p1 _ (q_call (vs := [agg [.ints .u8 32 (z9)]]) (v := agg [.ints .u8 32 (y10)]) rfl (fun w hw => scalar_Clamp_spec (r := y10) (p0 := z9) ey10 )) ?_
  refine ws_eL rfl (ef_st (q := [.ints .u8 32 (y10)]) rfl rfl rfl rfl rfl (.there .here) ?_)
  refine ws_p1 _ (q_mv rfl) ?_
  refine ws_nil ?_
  refine wc_ret ?_
  revert h; refine ret_i fun h => ?_
  subst h
  exact ⟨_, _, (.cons (.agg rfl (.there .here) rfl) (.cons (.tmp rfl) .nil)), (.one .here .nil), ⟨_, rfl, ⟨(.slice (some (slAddr b6 0 32 64 1)) (64 - 32) (64 - 32)), [ck b6 101 [.ints .u8 64 (y5)]], rfl, rfl, (own_blk_i (s := [.ints .u8 64 (y5)]) (N := 64) (k := .u8) (base := 0) (lo := 32) (hi := 64) (mz := 64) rfl (by decide))⟩⟩⟩
/- farebox/curve.Mul -/
def curve_Mul_b2 (k433 : (List Int) → (List Int) → (List Int) → (List Int) → Option (api_Point)) (k454 : (Int) → (List Int) → (List Int) → (List Int) → (List Int) → Option (api_Point)) (i449 : Int) (a450 : List Int) (a451 : List Int) (a452 : List Int) (a453 : List Int) : Option (api_Point) :=
 br ((decide (i449 < 4))) (
 opt (curve_Double (⟨a450, a451, a452, a453⟩ : api_Point)) fun y459 =>
 bnd (IntKind.wrap .i64 (i449 + 1)) fun z461 =>
 k454 z461 y459.gX y459.gY y459.gZ y459.gT
 ) (
 k433 a450 a451 a452 a453
 )
def curve_Mul_l2 (k433 : (List Int) → (List Int) → (List Int) → (List Int) → Option (api_Point)) : Nat → (Int) → (List Int) → (List Int) → (List Int) → (List Int) → Option (api_Point)
  | 0, _, _, _, _, _ => none
  | n + 1, i449, a450, a451, a452, a453 => curve_Mul_b2 k433 (curve_Mul_l2 k433 n) i449 a450 a451 a452 a453
def curve_Mul_b1 (p0 : List Int) (y6 : (List (api_Point))) (k242 : (List Int) → (List Int) → (List Int) → (List Int) → Option (api_Point)) (k395 : (Int) → (List Int) → (List Int) → (List Int) → (List Int) → Option (api_Point)) (i390 : Int) (a391 : List Int) (a392 : List Int) (a393 : List Int) (a394 : List Int) : Option (api_Point) :=
 br ((decide (i390 < 64))) (
 jn (fun (a429 : List Int) (a430 : List Int) (a431 : List Int) (a432 : List Int) => opt (curve_nibble p0 i390) fun y463 =>
 chk (inB y463 16) <|
 bnd (y6.getD (y463).toNat api_Point_z) fun x465 =>
 opt (curve_Add (⟨a429, a430, a431, a432⟩ : api_Point) x465) fun y466 =>
 bnd (IntKind.wrap .i64 (i390 + 1)) fun z468 =>
 k395 z468 y466.gX y466.gY y466.gZ y466.gT) fun k433 => curve_Mul_l2 k433 big 0 a391 a392 a393 a394
 ) (
 k242 a391 a392 a393 a394
 )
def curve_Mul_l1 (p0 : List Int) (y6 : (List (api_Point))) (k242 : (List Int) → (List Int) → (List Int) → (List Int) → Option (api_Point)) : Nat → (Int) → (List Int) → (List Int) → (List Int) → (List Int) → Option (api_Point)
  | 0, _, _, _, _, _ => none
  | n + 1, i390, a391, a392, a393, a394 => curve_Mul_b1 p0 y6 k242 (curve_Mul_l1 p0 y6 k242 n) i390 a391 a392 a393 a394
def curve_Mul (p0 : List Int) (p1 : api_Point) : Option (api_Point) :=
 opt (curve_multiples p1) fun y6 =>
 opt (curve_Zero) fun y9 =>
 jn (fun (a238 : List Int) (a239 : List Int) (a240 : List Int) (a241 : List Int) => some (⟨a238, a239, a240, a241⟩ : api_Point)) fun k242 => curve_Mul_l1 p0 y6 k242 big 0 y9.gX y9.gY y9.gZ y9.gT
theorem curve_Mul_spec {W : World} {r : api_Point} {p0 : List Int} {p1 : api_Point} (h : curve_Mul p0 p1 = some r)  :
    Calls Tryd.prog 60 [agg [.ints .u8 32 (p0)], agg [.ints .u64 5 (p1.gX), .ints .u64 5 (p1.gY), .ints .u64 5 (p1.gZ), .ints .u64 5 (p1.gT)]].toArray W (ret1 W (agg [.ints .u64 5 (r.gX), .ints .u64 5 (r.gY), .ints .u64 5 (r.gZ), .ints .u64 5 (r.gT)])) := by
  unfold curve_Mul at h
  refine calls_val mo ok60 rfl ?_
  refine wc_seq ?_
  refine wc_ops ?_
  refine wj_e (ef_bx (s := [.ints .u8 32 (p0)]) rfl fun b2 hb2 => ?_)
  refine wj_e (ef_bx (s := [.ints .u64 5 (p1.gX), .ints .u64 5 (p1.gY), .ints .u64 5 (p1.gZ), .ints .u64 5 (p1.gT)]) rfl fun b3 hb3 => ?_)
  refine wj_e (ef_al fun b4 hb4 => ?_)
  refine wj_nil ?_
  refine wc_seq ?_
  revert h
  refine opt_i fun y6 ey6 => ?_
  intro h
  refine wc_ops ?_
  refine wj_q _ (q_ld (p := [.ints .u64 5 (p1.gX), .ints .u64 5 (p1.gY), .ints .u64 5 (p1.gZ), .ints .u64 5 (p1.gT)]) rfl (.there .here) rfl) ?_
  refine wj_q _ (q_call (vs := [agg [.ints .u64 5 (p1.gX), .ints .u64 5 (p1.gY), .ints .u64 5 (p1.gZ), .ints .u64 5 (p1.gT)]]) (v := agg [.rows 20 16 (rowE E_api_Point (y6))]) rfl (fun w hw => curve_multiples_spec (r := y6) (p0 := p1) ey6 )) ?_
  refine wj_e (ef_al2 (z' := [.rows 20 16 (rowE E_api_Point ((List.replicate 16 api_Point_z)))]) (alz_rows (E := E_api_Point) rfl rfl) fun b7 hb7 => ?_)
  refine wj_e (ef_stg (q := [.rows 20 16 (rowE E_api_Point (y6))]) rfl rfl rfl rfl (ones_cons (ones_rows (E := E_api_Point)) ones_nil) .here ?_)
  refine wj_nil ?_
  refine wc_seq ?_
  revert h
  refine opt_i fun y9 ey9 => ?_
  intro h
  refine wc_ops ?_
  refine wj_q _ (q_call (vs := []) (v := agg [.ints .u64 5 (y9.gX), .ints .u64 5 (y9.gY), .ints .u64 5 (y9.gZ), .ints .u64 5 (y9.gT)]) rfl (fun w hw => curve_Zero_spec (r := y9) ey9 )) ?_
  refine wj_e (ef_al fun b10 hb10 => ?_)
  refine wj_e (ef_st (q := [.ints .u64 5 (y9.gX), .ints .u64 5 (y9.gY), .ints .u64 5 (y9.gZ), .ints .u64 5 (y9.gT)]) rfl rfl rfl rfl rfl .here ?_)
  refine wj_nil ?_
  refine wc_seq ?_
  refine wc_seq ?_
  refine wc_ops ?_
  refine wj_q _ (q_mv rfl) ?_
  refine wj_nil ?_
  revert h
  refine jn_i fun k242 qk242 => ?_
  intro h
  refine wc_mono2 (G := fun t m => ∃ (a238 : List Int) (a239 : List Int) (a240 : List Int) (a241 : List Int), k242 a238 a239 a240 a241 = some r ∧ Fit [(4, .pointer (some ⟨b4, 0, none⟩)), (6, .pointer (some ⟨b10, 0, none⟩))] (ck b10 60 [.ints .u64 5 (a238), .ints .u64 5 (a239), .ints .u64 5 (a240), .ints .u64 5 (a241)] :: (ck b7 105 [.rows 20 16 (rowE E_api_Point (y6))] :: (ck b4 60 [.ints .u64 5 ((List.replicate 5 0)), .ints .u64 5 ((List.replicate 5 0)), .ints .u64 5 ((List.replicate 5 0)), .ints .u64 5 ((List.replicate 5 0))] :: (ck b3 60 [.ints .u64 5 (p1.gX), .ints .u64 5 (p1.gY), .ints .u64 5 (p1.gZ), .ints .u64 5 (p1.gT)] :: (ck b2 63 [.ints .u8 32 (p0)] :: []))))) t m) ?_ ?_
  · refine wc_block ?_
    refine wc_loopJ (fun n396 t m => ∃ (i390 : Int) (a391 : List Int) (a392 : List Int) (a393 : List Int) (a394 : List Int), curve_Mul_l1 p0 y6 k242 n396 i390 a391 a392 a393 a394 = some r ∧ Fit [(2, .pointer (some ⟨b2, 0, none⟩)), (4, .pointer (some ⟨b4, 0, none⟩)), (5, .pointer (some ⟨b7, 0, none⟩)), (6, .pointer (some ⟨b10, 0, none⟩)), (11, .int .i64 (i390))] (ck b10 60 [.ints .u64 5 (a391), .ints .u64 5 (a392), .ints .u64 5 (a393), .ints .u64 5 (a394)] :: (ck b7 105 [.rows 20 16 (rowE E_api_Point (y6))] :: (ck b4 60 [.ints .u64 5 ((List.replicate 5 0)), .ints .u64 5 ((List.replicate 5 0)), .ints .u64 5 ((List.replicate 5 0)), .ints .u64 5 ((List.replicate 5 0))] :: (ck b3 60 [.ints .u64 5 (p1.gX), .ints .u64 5 (p1.gY), .ints .u64 5 (p1.gZ), .ints .u64 5 (p1.gT)] :: (ck b2 63 [.ints .u8 32 (p0)] :: []))))) t m) big ?_ ?_
    · exact ⟨0, y9.gX, y9.gY, y9.gZ, y9.gT, h, ⟨⟨rfl, rfl, rfl, rfl, rfl, trivial⟩, (.one .here (.one .here (.one .here (.one .here (.one .here .nil)))))⟩⟩
    · rintro n396 t m ⟨i390, a391, a392, a393, a394, h, hF⟩
      refine wc_fit hF ?_
      clear hF
      rcases n396 with _ | n396
      · exact none_i h
      have h : curve_Mul_b1 p0 y6 k242 (curve_Mul_l1 p0 y6 k242 n396) i390 a391 a392 a393 a394 = some r := h
      unfold curve_Mul_b1 at h
      obtain ⟨k395, qk395⟩ : ∃ k, k = curve_Mul_l1 p0 y6 k242 n396 := ⟨_, rfl⟩
      try rw [← qk395] at h
      refine wc_seq ?_
      refine wc_ops ?_
      refine wj_q _ (q_bin rfl rfl rfl) ?_
      refine wj_nil ?_
      refine wc_seq ?_
      refine wc_if (c := (decide (i390 < 64))) rfl (fun d398 => ?_) (fun d398 => ?_)
      · have h := br_t h d398
        refine wc_skip ?_
        refine wc_seq ?_
        refine wc_block ?_
        refine wc_seq ?_
        refine wc_ops ?_
        refine wj_q _ (q_mv rfl) ?_
        refine wj_q _ (q_mv rfl) ?_
        refine wj_nil ?_
        refine wc_seq ?_
        refine wc_seq ?_
        refine wc_ops ?_
        refine wj_q _ (q_mv rfl) ?_
        refine wj_nil ?_
        revert h
        refine jn_i fun k433 qk433 => ?_
        intro h
        refine wc_mono2 (G := fun t m => ∃ (a429 : List Int) (a430 : List Int) (a431 : List Int) (a432 : List Int), k433 a429 a430 a431 a432 = some r ∧ Fit [(2, .pointer (some ⟨b2, 0, none⟩)), (4, .pointer (some ⟨b4, 0, none⟩)), (5, .pointer (some ⟨b7, 0, none⟩)), (6, .pointer (some ⟨b10, 0, none⟩)), (7, .int .i64 (i390)), (11, .int .i64 (i390))] (ck b10 60 [.ints .u64 5 (a429), .ints .u64 5 (a430), .ints .u64 5 (a431), .ints .u64 5 (a432)] :: (ck b7 105 [.rows 20 16 (rowE E_api_Point (y6))] :: (ck b4 60 [.ints .u64 5 ((List.replicate 5 0)), .ints .u64 5 ((List.replicate 5 0)), .ints .u64 5 ((List.replicate 5 0)), .ints .u64 5 ((List.replicate 5 0))] :: (ck b3 60 [.ints .u64 5 (p1.gX), .ints .u64 5 (p1.gY), .ints .u64 5 (p1.gZ), .ints .u64 5 (p1.gT)] :: (ck b2 63 [.ints .u8 32 (p0)] :: []))))) t m) ?_ ?_
        · refine wc_block ?_
          refine wc_loopJ (fun n455 t m => ∃ (i449 : Int) (a450 : List Int) (a451 : List Int) (a452 : List Int) (a453 : List Int), curve_Mul_l2 k433 n455 i449 a450 a451 a452 a453 = some r ∧ Fit [(2, .pointer (some ⟨b2, 0, none⟩)), (4, .pointer (some ⟨b4, 0, none⟩)), (5, .pointer (some ⟨b7, 0, none⟩)), (6, .pointer (some ⟨b10, 0, none⟩)), (7, .int .i64 (i390)), (11, .int .i64 (i390)), (14, .int .i64 (i449))] (ck b10 60 [.ints .u64 5 (a450), .ints .u64 5 (a451), .ints .u64 5 (a452), .ints .u64 5 (a453)] :: (ck b7 105 [.rows 20 16 (rowE E_api_Point (y6))] :: (ck b4 60 [.ints .u64 5 ((List.replicate 5 0)), .ints .u64 5 ((List.replicate 5 0)), .ints .u64 5 ((List.replicate 5 0)), .ints .u64 5 ((List.replicate 5 0))] :: (ck b3 60 [.ints .u64 5 (p1.gX), .ints .u64 5 (p1.gY), .ints .u64 5 (p1.gZ), .ints .u64 5 (p1.gT)] :: (ck b2 63 [.ints .u8 32 (p0)] :: []))))) t m) big ?_ ?_
          · exact ⟨0, a391, a392, a393, a394, h, ⟨⟨rfl, rfl, rfl, rfl, rfl, rfl, rfl, trivial⟩, (.one .here (.one .here (.one .here (.one .here (.one .here .nil)))))⟩⟩
          · rintro n455 t m ⟨i449, a450, a451, a452, a453, h, hF⟩
            refine wc_fit hF ?_
            clear hF
            rcases n455 with _ | n455
            · exact none_i h
            have h : curve_Mul_b2 k433 (curve_Mul_l2 k433 n455) i449 a450 a451 a452 a453 = some r := h
            unfold curve_Mul_b2 at h
            obtain ⟨k454, qk454⟩ : ∃ k, k = curve_Mul_l2 k433 n455 := ⟨_, rfl⟩
            try rw [← qk454] at h
            refine wc_seq ?_
            refine wc_ops ?_
            refine wj_q _ (q_bin rfl rfl rfl) ?_
            refine wj_nil ?_
            refine wc_seq ?_
            refine wc_if (c := (decide (i449 < 4))) rfl (fun d457 => ?_) (fun d457 => ?_)
            · have h := br_t h d457
              refine wc_skip ?_
              refine wc_seq ?_
              refine wc_block ?_
              revert h
              refine opt_i fun y459 ey459 => ?_
              intro h
              refine wc_ops ?_
              refine wj_q _ (q_ld (p := [.ints .u64 5 (a450), .ints .u64 5 (a451), .ints .u64 5 (a452), .ints .u64 5 (a453)]) rfl .here rfl) ?_
              refine wj_q _ (q_call (vs := [agg [.ints .u64 5 (a450), .ints .u64 5 (a451), .ints .u64 5 (a452), .ints .u64 5 (a453)]]) (v := agg [.ints .u64 5 (y459.gX), .ints .u64 5 (y459.gY), .ints .u64 5 (y459.gZ), .ints .u64 5 (y459.gT)]) rfl (fun w hw => curve_Double_spec (r := y459) (p0 := (⟨a450, a451, a452, a453⟩ : api_Point)) ey459 )) ?_
              refine wj_e (ef_st (q := [.ints .u64 5 (y459.gX), .ints .u64 5 (y459.gY), .ints .u64 5 (y459.gZ), .ints .u64 5 (y459.gT)]) rfl rfl rfl rfl rfl .here ?_)
              refine wj_nil ?_
              revert h
              refine bnd_i fun z461 ez461 => ?_
              intro h
              refine wc_ops ?_
              refine wj_q _ (iz ez461 (q_bin rfl rfl rfl)) ?_
              refine wj_q _ (q_mv rfl) ?_
              refine wj_nil ?_
              rw [qk454] at h
              exact ⟨n455, Nat.lt_succ_self _, z461, y459.gX, y459.gY, y459.gZ, y459.gT, h, ⟨⟨rfl, rfl, rfl, rfl, rfl, rfl, rfl, trivial⟩, (.one .here (.one .here (.one .here (.one .here (.one .here .nil)))))⟩⟩
            · have h := br_f h d457
              refine wc_exit _ rfl ?_
              exact ⟨a450, a451, a452, a453, h, ⟨⟨rfl, rfl, rfl, rfl, rfl, rfl, trivial⟩, (.one .here (.one .here (.one .here (.one .here (.one .here .nil)))))⟩⟩
        · rintro t m ⟨a429, a430, a431, a432, h, hF⟩
          refine wc_fit hF ?_
          clear hF
          subst qk433
          revert h
          refine opt_i fun y463 ey463 => ?_
          refine chk_i fun c464 => ?_
          refine bnd_i fun x465 ex465 => ?_
          refine opt_i fun y466 ey466 => ?_
          intro h
          refine wc_draw ?_
          refine ws_p1 _ (q_mv rfl) ?_
          refine ws_q1 _ (q_ld (p := [.ints .u64 5 (a429), .ints .u64 5 (a430), .ints .u64 5 (a431), .ints .u64 5 (a432)]) rfl .here rfl) ?_
          refine ws_q1 _ (q_ld (p := [.ints .u8 32 (p0)]) rfl (.there (.there (.there (.there .here)))) rfl) ?_
          refine ws_p1 _ (q_call (vs := [agg [.ints .u8 32 (p0)], .int .i64 (i390)]) (v := .int .u8 (y463)) rfl (fun w hw => curve_nibble_spec (r := y463) (p0 := p0) (p1 := i390) ey463 )) ?_
          refine ws_p1 _ (q_ia rfl rfl (inB_z c464)) ?_
          refine ws_q1 _ (az (fun x465 => agg [.ints .u64 5 (x465.gX), .ints .u64 5 (x465.gY), .ints .u64 5 (x465.gZ), .ints .u64 5 (x465.gT)]) ex465 (q_ldr0 (base := 0) (w := 20) rfl (.there .here) rfl (inB_n c464) rfl rfl rfl)) ?_
          refine ws_p1 _ (q_call (vs := [agg [.ints .u64 5 (a429), .ints .u64 5 (a430), .ints .u64 5 (a431), .ints .u64 5 (a432)], agg [.ints .u64 5 (x465.gX), .ints .u64 5 (x465.gY), .ints .u64 5 (x465.gZ), .ints .u64 5 (x465.gT)]]) (v := agg [.ints .u64 5 (y466.gX), .ints .u64 5 (y466.gY), .ints .u64 5 (y466.gZ), .ints .u64 5 (y466.gT)]) rfl (fun w hw => curve_Add_spec (r := y466) (p0 := (⟨a429, a430, a431, a432⟩ : api_Point)) (p1 := x465) ey466 )) ?_
          refine ws_eL rfl (ef_st (q := [.ints .u64 5 (y466.gX), .ints .u64 5 (y466.gY), .ints .u64 5 (y466.gZ), .ints .u64 5 (y466.gT)]) rfl rfl rfl rfl rfl .here ?_)
          refine ws_nil ?_
          revert h
          refine bnd_i fun z468 ez468 => ?_
          intro h
          refine wc_ops ?_
          refine wj_q _ (iz ez468 (q_bin rfl rfl rfl)) ?_
          refine wj_q _ (q_mv rfl) ?_
          refine wj_nil ?_
          rw [qk395] at h
          exact ⟨n396, Nat.lt_succ_self _, z468, y466.gX, y466.gY, y466.gZ, y466.gT, h, ⟨⟨rfl, rfl, rfl, rfl, rfl, trivial⟩, (.one .here (.one .here (.one .here (.one .here (.one .here .nil)))))⟩⟩
      · have h := br_f h d398
        refine wc_exit _ rfl ?_
        exact ⟨a391, a392, a393, a394, h, ⟨⟨rfl, rfl, trivial⟩, (.one .here (.one .here (.one .here (.one .here (.one .here .nil)))))⟩⟩
  · rintro t m ⟨a238, a239, a240, a241, h, hF⟩
    refine wc_fit hF ?_
    clear hF
    subst qk242
    refine wc_seq ?_
    refine wc_ops ?_
    refine wj_q _ (q_ld (p := [.ints .u64 5 (a238), .ints .u64 5 (a239), .ints .u64 5 (a240), .ints .u64 5 (a241)]) rfl .here rfl) ?_
    refine wj_e (ef_st (q := [.ints .u64 5 (a238), .ints .u64 5 (a239), .ints .u64 5 (a240), .ints .u64 5 (a241)]) rfl rfl rfl rfl rfl (.there (.there .here)) ?_)
    refine wj_nil ?_
    refine wc_ret ?_
    revert h; refine ret_i fun h => ?_
    subst h
    exact ⟨_, (.cons (.agg rfl (.there (.there .here)) rfl) .nil), rfl⟩
end Go.Proofs.YtiflckckekjbnaaDoor
