/- Mirrors. -/
import Derived.Test.YtiflckckekjbnaaDoorL2
namespace Go.Proofs.YtiflckckekjbnaaDoor
open Go Go.Sx Go.RowKit
set_option linter.all false
set_option maxHeartbeats 400000
set_option maxRecDepth 100000
/- farebox/field.IsOdd -/
def field_IsOdd (p0 : List Int) : Option (Bool) :=
 opt (field_reduce p0) fun y4 =>
 bnd (y4.getD 0 0) fun z5 =>
 bnd (bitsV .and .u64 z5 1) fun z6 =>
 some (z6 == 1)
theorem field_IsOdd_spec {W : World} {r : Bool} {p0 : List Int} (h : field_IsOdd p0 = some r)  :
    Calls Tryd.prog 51 [agg [.ints .u64 5 (p0)]].toArray W (ret1 W (.bool (r))) := by
  unfold field_IsOdd at h
  refine calls_val mo ok51 rfl ?_
  refine wc_seq ?_
  refine wc_ops ?_
  refine wj_e (ef_bx (s := [.ints .u64 5 (p0)]) rfl fun b2 hb2 => ?_)
  refine wj_q _ (q_mv rfl) ?_
  refine wj_nil ?_
  refine wc_seq ?_
  revert h
  refine opt_i fun y4 ey4 => ?_
  refine bnd_i fun z5 ez5 => ?_
  refine bnd_i fun z6 ez6 => ?_
  intro h
  refine wc_ops ?_
  refine wj_q _ (q_ld (p := [.ints .u64 5 (p0)]) rfl .here rfl) ?_
  refine wj_q _ (q_call (vs := [agg [.ints .u64 5 (p0)]]) (v := agg [.ints .u64 5 (y4)]) rfl (fun w hw => field_reduce_spec (r := y4) (p0 := p0) ey4 )) ?_
  refine wj_q _ (iz ez5 (q_idxi (len := 5) (z := 0) rfl rfl (by decide))) ?_
  refine wj_q _ (iz ez6 (q_bin rfl rfl rfl)) ?_
  refine wj_q _ (q_bin rfl rfl rfl) ?_
  refine wj_q _ (q_mv rfl) ?_
  refine wj_nil ?_
  refine wc_ret ?_
  revert h; refine ret_i fun h => ?_
  subst h
  exact ⟨_, (.cons (.tmp rfl) .nil), rfl⟩
/- farebox/field.Small -/
def field_Small (p0 : Int) : Option ((List Int)) :=
 bnd (([p0, 0, 0, 0, 0] : List Int)) fun z4 =>
 opt (field_reduce z4) fun y5 =>
 some y5
theorem field_Small_spec {W : World} {r : (List Int)} {p0 : Int} (h : field_Small p0 = some r)  :
    Calls Tryd.prog 74 [.int .u64 (p0)].toArray W (ret1 W (agg [.ints .u64 5 (r)])) := by
  unfold field_Small at h
  refine calls_val mo ok74 rfl ?_
  refine wc_seq ?_
  refine wc_ops ?_
  refine wj_e (ef_al fun b2 hb2 => ?_)
  refine wj_nil ?_
  refine wc_seq ?_
  revert h
  refine bnd_i fun z4 ez4 => ?_
  refine opt_i fun y5 ey5 => ?_
  intro h
  refine wc_ops ?_
  refine wj_q _ (q_mv rfl) ?_
  refine wj_q _ (az (fun z => agg [.ints .u64 5 z]) ez4 (q_bd (.one rfl rfl rfl BdR.nil))) ?_
  refine wj_q _ (q_call (vs := [agg [.ints .u64 5 (z4)]]) (v := agg [.ints .u64 5 (y5)]) rfl (fun w hw => field_reduce_spec (r := y5) (p0 := z4) ey5 )) ?_
  refine wj_e (ef_st (q := [.ints .u64 5 (y5)]) rfl rfl rfl rfl rfl .here ?_)
  refine wj_nil ?_
  refine wc_ret ?_
  revert h; refine ret_i fun h => ?_
  subst h
  exact ⟨_, (.cons (.agg rfl .here rfl) .nil), rfl⟩
/- farebox/field.Pow -/
def field_Pow_b1 (p0 : List Int) (p1 : List Int) (k102 : (List Int) → Option ((List Int))) (k161 : (Int) → (List Int) → Option ((List Int))) (i159 : Int) (a160 : List Int) : Option ((List Int)) :=
 br ((decide (i159 ≥ 0))) (
 jn (fun (a178 : List Int) => bnd (IntKind.wrap .i64 (i159 - 1)) fun z194 =>
 k161 z194 a178) fun k179 => opt (field_Square a160) fun y181 =>
 bnd (IntKind.wrap .i64 (Int.tdiv i159 8)) fun z183 =>
 chk (inB z183 32) <|
 bnd (p1.getD (z183).toNat 0) fun z185 =>
 bnd (Int.tmod i159 8) fun z186 =>
 chk (decide (0 ≤ z186)) <|
 bnd (shrV .u8 z185 z186) fun z188 =>
 bnd (bitsV .and .u8 z188 1) fun z189 =>
 br ((z189 == 1)) (
 opt (field_Mul y181 p0) fun y192 =>
 k179 y192
 ) (
 k179 y181
 )
 ) (
 k102 a160
 )
def field_Pow_l1 (p0 : List Int) (p1 : List Int) (k102 : (List Int) → Option ((List Int))) : Nat → (Int) → (List Int) → Option ((List Int))
  | 0, _, _ => none
  | n + 1, i159, a160 => field_Pow_b1 p0 p1 k102 (field_Pow_l1 p0 p1 k102 n) i159 a160
def field_Pow (p0 : List Int) (p1 : List Int) : Option ((List Int)) :=
 opt (field_Small 1) fun y6 =>
 jn (fun (a101 : List Int) => some a101) fun k102 => field_Pow_l1 p0 p1 k102 big 255 y6
theorem field_Pow_spec {W : World} {r : (List Int)} {p0 : List Int} {p1 : List Int} (h : field_Pow p0 p1 = some r)  :
    Calls Tryd.prog 71 [agg [.ints .u64 5 (p0)], agg [.ints .u8 32 (p1)]].toArray W (ret1 W (agg [.ints .u64 5 (r)])) := by
  unfold field_Pow at h
  refine calls_val mo ok71 rfl ?_
  refine wc_seq ?_
  refine wc_ops ?_
  refine wj_e (ef_bx (s := [.ints .u64 5 (p0)]) rfl fun b2 hb2 => ?_)
  refine wj_e (ef_bx (s := [.ints .u8 32 (p1)]) rfl fun b3 hb3 => ?_)
  refine wj_e (ef_al fun b4 hb4 => ?_)
  refine wj_nil ?_
  refine wc_seq ?_
  revert h
  refine opt_i fun y6 ey6 => ?_
  intro h
  refine wc_ops ?_
  refine wj_q _ (q_call (vs := [.int .u64 1]) (v := agg [.ints .u64 5 (y6)]) rfl (fun w hw => field_Small_spec (r := y6) (p0 := 1) ey6 )) ?_
  refine wj_e (ef_al fun b7 hb7 => ?_)
  refine wj_e (ef_st (q := [.ints .u64 5 (y6)]) rfl rfl rfl rfl rfl .here ?_)
  refine wj_nil ?_
  refine wc_seq ?_
  refine wc_seq ?_
  refine wc_ops ?_
  refine wj_q _ (q_mv rfl) ?_
  refine wj_nil ?_
  revert h
  refine jn_i fun k102 qk102 => ?_
  intro h
  refine wc_mono2 (G := fun t m => ∃ (a101 : List Int), k102 a101 = some r ∧ Fit [(4, .pointer (some ⟨b4, 0, none⟩)), (5, .pointer (some ⟨b7, 0, none⟩))] (ck b7 58 [.ints .u64 5 (a101)] :: (ck b4 58 [.ints .u64 5 ((List.replicate 5 0))] :: (ck b3 26 [.ints .u8 32 (p1)] :: (ck b2 58 [.ints .u64 5 (p0)] :: [])))) t m) ?_ ?_
  · refine wc_block ?_
    refine wc_loopJ (fun n162 t m => ∃ (i159 : Int) (a160 : List Int), field_Pow_l1 p0 p1 k102 n162 i159 a160 = some r ∧ Fit [(2, .pointer (some ⟨b2, 0, none⟩)), (3, .pointer (some ⟨b3, 0, none⟩)), (4, .pointer (some ⟨b4, 0, none⟩)), (5, .pointer (some ⟨b7, 0, none⟩)), (6, .int .i64 (i159))] (ck b7 58 [.ints .u64 5 (a160)] :: (ck b4 58 [.ints .u64 5 ((List.replicate 5 0))] :: (ck b3 26 [.ints .u8 32 (p1)] :: (ck b2 58 [.ints .u64 5 (p0)] :: [])))) t m) big ?_ ?_
    · exact ⟨255, y6, h, ⟨⟨rfl, rfl, rfl, rfl, rfl, trivial⟩, (.one .here (.one .here (.one .here (.one .here .nil))))⟩⟩
    · rintro n162 t m ⟨i159, a160, h, hF⟩
      refine wc_fit hF ?_
      clear hF
      rcases n162 with _ | n162
      · exact none_i h
      have h : field_Pow_b1 p0 p1 k102 (field_Pow_l1 p0 p1 k102 n162) i159 a160 = some r := h
      unfold field_Pow_b1 at h
      obtain ⟨k161, qk161⟩ : ∃ k, k = field_Pow_l1 p0 p1 k102 n162 := ⟨_, rfl⟩
      try rw [← qk161] at h
      refine wc_seq ?_
      refine wc_seq ?_
      refine wc_ops ?_
      refine wj_q _ (q_mv rfl) ?_
      refine wj_q _ (q_bin rfl rfl rfl) ?_
      refine wj_nil ?_
      refine wc_if (c := (decide (i159 ≥ 0))) rfl (fun d164 => ?_) (fun d164 => ?_)
      · have h := br_t h d164
        refine wc_skip ?_
        refine wc_seq ?_
        revert h
        refine jn_i fun k179 qk179 => ?_
        intro h
        refine wc_mono2 (G := fun t m => ∃ (a178 : List Int), k179 a178 = some r ∧ Fit [(2, .pointer (some ⟨b2, 0, none⟩)), (3, .pointer (some ⟨b3, 0, none⟩)), (4, .pointer (some ⟨b4, 0, none⟩)), (5, .pointer (some ⟨b7, 0, none⟩)), (6, .int .i64 (i159))] (ck b7 58 [.ints .u64 5 (a178)] :: (ck b4 58 [.ints .u64 5 ((List.replicate 5 0))] :: (ck b3 26 [.ints .u8 32 (p1)] :: (ck b2 58 [.ints .u64 5 (p0)] :: [])))) t m) ?_ ?_
        · refine wc_block ?_
          refine wc_seq ?_
          revert h
          refine opt_i fun y181 ey181 => ?_
          intro h
          refine wc_ops ?_
          refine wj_q _ (q_ld (p := [.ints .u64 5 (a160)]) rfl .here rfl) ?_
          refine wj_q _ (q_call (vs := [agg [.ints .u64 5 (a160)]]) (v := agg [.ints .u64 5 (y181)]) rfl (fun w hw => field_Square_spec (r := y181) (p0 := a160) ey181 )) ?_
          refine wj_e (ef_st (q := [.ints .u64 5 (y181)]) rfl rfl rfl rfl rfl .here ?_)
          refine wj_nil ?_
          refine wc_seq ?_
          revert h
          refine bnd_i fun z183 ez183 => ?_
          refine chk_i fun c184 => ?_
          refine bnd_i fun z185 ez185 => ?_
          refine bnd_i fun z186 ez186 => ?_
          refine chk_i fun c187 => ?_
          refine bnd_i fun z188 ez188 => ?_
          refine bnd_i fun z189 ez189 => ?_
          intro h
          refine wc_ops ?_
          refine wj_q _ (q_mv rfl) ?_
          refine wj_q _ (iz ez183 (q_quo rfl rfl (by decide))) ?_
          refine wj_q _ (q_ia rfl rfl (inB_z c184)) ?_
          refine wj_q _ (iz ez185 (q_ldi (base := 0) rfl (.there (.there .here)) rfl (inB_n c184))) ?_
          refine wj_q _ (q_mv rfl) ?_
          refine wj_q _ (iz ez186 (q_rem rfl rfl (by decide))) ?_
          refine wj_q _ (iz ez188 (q_shr rfl rfl (of_decide_eq_true c187))) ?_
          refine wj_q _ (iz ez189 (q_bin rfl rfl rfl)) ?_
          refine wj_q _ (q_bin rfl rfl rfl) ?_
          refine wj_nil ?_
          refine wc_if (c := (z189 == 1)) rfl (fun d190 => ?_) (fun d190 => ?_)
          · have h := br_t h d190
            revert h
            refine opt_i fun y192 ey192 => ?_
            intro h
            refine wc_ops ?_
            refine wj_q _ (q_ld (p := [.ints .u64 5 (y181)]) rfl .here rfl) ?_
            refine wj_q _ (q_ld (p := [.ints .u64 5 (p0)]) rfl (.there (.there (.there .here))) rfl) ?_
            refine wj_q _ (q_call (vs := [agg [.ints .u64 5 (y181)], agg [.ints .u64 5 (p0)]]) (v := agg [.ints .u64 5 (y192)]) rfl (fun w hw => field_Mul_spec (r := y192) (p0 := y181) (p1 := p0) ey192 )) ?_
            refine wj_e (ef_st (q := [.ints .u64 5 (y192)]) rfl rfl rfl rfl rfl .here ?_)
            refine wj_nil ?_
            exact ⟨y192, h, ⟨⟨rfl, rfl, rfl, rfl, rfl, trivial⟩, (.one .here (.one .here (.one .here (.one .here .nil))))⟩⟩
          · have h := br_f h d190
            refine wc_skip ?_
            exact ⟨y181, h, ⟨⟨rfl, rfl, rfl, rfl, rfl, trivial⟩, (.one .here (.one .here (.one .here (.one .here .nil))))⟩⟩
        · rintro t m ⟨a178, h, hF⟩
          refine wc_fit hF ?_
          clear hF
          subst qk179
          revert h
          refine bnd_i fun z194 ez194 => ?_
          intro h
          refine wc_ops ?_
          refine wj_q _ (q_mv rfl) ?_
          refine wj_q _ (iz ez194 (q_bin rfl rfl rfl)) ?_
          refine wj_q _ (q_mv rfl) ?_
          refine wj_nil ?_
          rw [qk161] at h
          exact ⟨n162, Nat.lt_succ_self _, z194, a178, h, ⟨⟨rfl, rfl, rfl, rfl, rfl, trivial⟩, (.one .here (.one .here (.one .here (.one .here .nil))))⟩⟩
      · have h := br_f h d164
        refine wc_exit _ rfl ?_
        exact ⟨a160, h, ⟨⟨rfl, rfl, trivial⟩, (.one .here (.one .here (.one .here (.one .here .nil))))⟩⟩
  · rintro t m ⟨a101, h, hF⟩
    refine wc_fit hF ?_
    clear hF
    subst qk102
    refine wc_seq ?_
    refine wc_ops ?_
    refine wj_q _ (q_ld (p := [.ints .u64 5 (a101)]) rfl .here rfl) ?_
    refine wj_e (ef_st (q := [.ints .u64 5 (a101)]) rfl rfl rfl rfl rfl (.there .here) ?_)
    refine wj_nil ?_
    refine wc_ret ?_
    revert h; refine ret_i fun h => ?_
    subst h
    exact ⟨_, (.cons (.agg rfl (.there .here) rfl) .nil), rfl⟩
/- farebox/field.power -/
def field_power_b1 (k34 : (List Int) → Option ((List Int))) (k52 : (Int) → (List Int) → Option ((List Int))) (i50 : Int) (a51 : List Int) : Option ((List Int)) :=
 br ((decide (i50 < 32))) (
 chk (inB i50 32) <|
 bnd (setD a51 (i50).toNat 255) fun l59 =>
 bnd (IntKind.wrap .i64 (i50 + 1)) fun z61 =>
 k52 z61 l59
 ) (
 k34 a51
 )
def field_power_l1 (k34 : (List Int) → Option ((List Int))) : Nat → (Int) → (List Int) → Option ((List Int))
  | 0, _, _ => none
  | n + 1, i50, a51 => field_power_b1 k34 (field_power_l1 k34 n) i50 a51
def field_power (p0 : Int) (p1 : Int) : Option ((List Int)) :=
 jn (fun (a33 : List Int) => bnd (setD a33 0 p0) fun l63 =>
 bnd (setD l63 31 p1) fun l64 =>
 some l64) fun k34 => field_power_l1 k34 big 0 (List.replicate 32 0)
theorem field_power_spec {W : World} {r : (List Int)} {p0 : Int} {p1 : Int} (h : field_power p0 p1 = some r)  :
    Calls Tryd.prog 72 [.int .u8 (p0), .int .u8 (p1)].toArray W (ret1 W (agg [.ints .u8 32 (r)])) := by
  unfold field_power at h
  refine calls_val mo ok72 rfl ?_
  refine wc_seq ?_
  refine wc_ops ?_
  refine wj_e (ef_al fun b2 hb2 => ?_)
  refine wj_nil ?_
  refine wc_seq ?_
  refine wc_ops ?_
  refine wj_e (ef_al fun b4 hb4 => ?_)
  refine wj_nil ?_
  refine wc_seq ?_
  refine wc_seq ?_
  refine wc_ops ?_
  refine wj_q _ (q_mv rfl) ?_
  refine wj_nil ?_
  revert h
  refine jn_i fun k34 qk34 => ?_
  intro h
  refine wc_mono2 (G := fun t m => ∃ (a33 : List Int), k34 a33 = some r ∧ Fit [(0, .int .u8 (p0)), (1, .int .u8 (p1)), (4, .pointer (some ⟨b2, 0, none⟩)), (5, .pointer (some ⟨b4, 0, none⟩))] (ck b4 26 [.ints .u8 32 (a33)] :: (ck b2 26 [.ints .u8 32 ((List.replicate 32 0))] :: [])) t m) ?_ ?_
  · refine wc_block ?_
    refine wc_loopJ (fun n53 t m => ∃ (i50 : Int) (a51 : List Int), field_power_l1 k34 n53 i50 a51 = some r ∧ Fit [(0, .int .u8 (p0)), (1, .int .u8 (p1)), (4, .pointer (some ⟨b2, 0, none⟩)), (5, .pointer (some ⟨b4, 0, none⟩)), (7, .int .i64 (i50))] (ck b4 26 [.ints .u8 32 (a51)] :: (ck b2 26 [.ints .u8 32 ((List.replicate 32 0))] :: [])) t m) big ?_ ?_
    · exact ⟨0, (List.replicate 32 0), h, ⟨⟨rfl, rfl, rfl, rfl, rfl, trivial⟩, (.one .here (.one .here .nil))⟩⟩
    · rintro n53 t m ⟨i50, a51, h, hF⟩
      refine wc_fit hF ?_
      clear hF
      rcases n53 with _ | n53
      · exact none_i h
      have h : field_power_b1 k34 (field_power_l1 k34 n53) i50 a51 = some r := h
      unfold field_power_b1 at h
      obtain ⟨k52, qk52⟩ : ∃ k, k = field_power_l1 k34 n53 := ⟨_, rfl⟩
      try rw [← qk52] at h
      refine wc_seq ?_
      refine wc_ops ?_
      refine wj_q _ (q_bin rfl rfl rfl) ?_
      refine wj_nil ?_
      refine wc_seq ?_
      refine wc_if (c := (decide (i50 < 32))) rfl (fun d55 => ?_) (fun d55 => ?_)
      · have h := br_t h d55
        refine wc_skip ?_
        refine wc_seq ?_
        refine wc_block ?_
        refine wc_seq ?_
        refine wc_ops ?_
        refine wj_q _ (q_mv rfl) ?_
        refine wj_q _ (q_mv rfl) ?_
        refine wj_nil ?_
        revert h
        refine chk_i fun c58 => ?_
        refine bnd_i fun l59 el59 => ?_
        intro h
        refine wc_ops ?_
        refine wj_q _ (q_mv rfl) ?_
        refine wj_q _ (q_ia rfl rfl (inB_z c58)) ?_
        refine wj_e (ef_stiz (q := [.ints .u8 32 (l59)]) (base := 0) el59 rfl rfl rfl (inB_n c58) rfl .here ?_)
        refine wj_nil ?_
        revert h
        refine bnd_i fun z61 ez61 => ?_
        intro h
        refine wc_ops ?_
        refine wj_q _ (iz ez61 (q_bin rfl rfl rfl)) ?_
        refine wj_q _ (q_mv rfl) ?_
        refine wj_nil ?_
        rw [qk52] at h
        exact ⟨n53, Nat.lt_succ_self _, z61, l59, h, ⟨⟨rfl, rfl, rfl, rfl, rfl, trivial⟩, (.one .here (.one .here .nil))⟩⟩
      · have h := br_f h d55
        refine wc_exit _ rfl ?_
        exact ⟨a51, h, ⟨⟨rfl, rfl, rfl, rfl, trivial⟩, (.one .here (.one .here .nil))⟩⟩
  · rintro t m ⟨a33, h, hF⟩
    refine wc_fit hF ?_
    clear hF
    subst qk34
    refine wc_seq ?_
    revert h
    refine bnd_i fun l63 el63 => ?_
    refine bnd_i fun l64 el64 => ?_
    intro h
    refine wc_ops ?_
    refine wj_q _ (q_mv rfl) ?_
    refine wj_q _ (q_mv rfl) ?_
    refine wj_q _ (q_ia rfl rfl (by decide)) ?_
    refine wj_e (ef_st1z (q := [.ints .u8 32 (l63)]) (congrArg (fun z => ([.ints .u8 32 (z)] : List Seg)) el63.symm) rfl rfl rfl rfl .here ?_)
    refine wj_q _ (q_ia rfl rfl (by decide)) ?_
    refine wj_e (ef_st1z (q := [.ints .u8 32 (l64)]) (congrArg (fun z => ([.ints .u8 32 (z)] : List Seg)) el64.symm) rfl rfl rfl rfl .here ?_)
    refine wj_nil ?_
    refine wc_seq ?_
    refine wc_ops ?_
    refine wj_q _ (q_ld (p := [.ints .u8 32 (l64)]) rfl .here rfl) ?_
    refine wj_e (ef_st (q := [.ints .u8 32 (l64)]) rfl rfl rfl rfl rfl (.there .here) ?_)
    refine wj_nil ?_
    refine wc_ret ?_
    revert h; refine ret_i fun h => ?_
    subst h
    exact ⟨_, (.cons (.agg rfl (.there .here) rfl) .nil), rfl⟩
/- farebox/field.Equal -/
def field_Equal (p0 : List Int) (p1 : List Int) : Option (Bool) :=
 opt (field_reduce p0) fun y5 =>
 opt (field_reduce p1) fun y6 =>
 some (ieq 5 y5 y6)
theorem field_Equal_spec {W : World} {r : Bool} {p0 : List Int} {p1 : List Int} (h : field_Equal p0 p1 = some r)  :
    Calls Tryd.prog 73 [agg [.ints .u64 5 (p0)], agg [.ints .u64 5 (p1)]].toArray W (ret1 W (.bool (r))) := by
  unfold field_Equal at h
  refine calls_val mo ok73 rfl ?_
  refine wc_seq ?_
  refine wc_ops ?_
  refine wj_e (ef_bx (s := [.ints .u64 5 (p0)]) rfl fun b2 hb2 => ?_)
  refine wj_e (ef_bx (s := [.ints .u64 5 (p1)]) rfl fun b3 hb3 => ?_)
  refine wj_q _ (q_mv rfl) ?_
  refine wj_nil ?_
  refine wc_seq ?_
  revert h
  refine opt_i fun y5 ey5 => ?_
  refine opt_i fun y6 ey6 => ?_
  intro h
  refine wc_draw ?_
  refine ws_q1 _ (q_ld (p := [.ints .u64 5 (p0)]) rfl (.there .here) rfl) ?_
  refine ws_p1 _ (q_call (vs := [agg [.ints .u64 5 (p0)]]) (v := agg [.ints .u64 5 (y5)]) rfl (fun w hw => field_reduce_spec (r := y5) (p0 := p0) ey5 )) ?_
  refine ws_q1 _ (q_ld (p := [.ints .u64 5 (p1)]) rfl .here rfl) ?_
  refine ws_p1 _ (q_call (vs := [agg [.ints .u64 5 (p1)]]) (v := agg [.ints .u64 5 (y6)]) rfl (fun w hw => field_reduce_spec (r := y6) (p0 := p1) ey6 )) ?_
  refine ws_p1 _ (q_eqa rfl rfl rfl rfl _ (eqc_last eqc_ints)) ?_
  refine ws_p1 _ (q_mv rfl) ?_
  refine ws_nil ?_
  refine wc_ret ?_
  revert h; refine ret_i fun h => ?_
  subst h
  exact ⟨_, (.cons (.tmp rfl) .nil), rfl⟩
/- farebox/field.Select -/
def field_Select (p0 : Bool) (p1 : List Int) (p2 : List Int) : Option ((List Int)) :=
 br (p0) (
 opt (field_reduce p1) fun y8 =>
 some y8
 ) (
 opt (field_reduce p2) fun y10 =>
 some y10
 )
theorem field_Select_spec {W : World} {r : (List Int)} {p0 : Bool} {p1 : List Int} {p2 : List Int} (h : field_Select p0 p1 p2 = some r)  :
    Calls Tryd.prog 75 [.bool (p0), agg [.ints .u64 5 (p1)], agg [.ints .u64 5 (p2)]].toArray W (ret1 W (agg [.ints .u64 5 (r)])) := by
  unfold field_Select at h
  refine calls_val mo ok75 rfl ?_
  refine wc_seq ?_
  refine wc_ops ?_
  refine wj_e (ef_bx (s := [.ints .u64 5 (p1)]) rfl fun b2 hb2 => ?_)
  refine wj_e (ef_bx (s := [.ints .u64 5 (p2)]) rfl fun b3 hb3 => ?_)
  refine wj_e (ef_al fun b4 hb4 => ?_)
  refine wj_nil ?_
  refine wc_seq ?_
  refine wc_seq ?_
  refine wc_ops ?_
  refine wj_q _ (q_mv rfl) ?_
  refine wj_nil ?_
  refine wc_if (c := p0) rfl (fun d6 => ?_) (fun d6 => ?_)
  · have h := br_t h d6
    refine wc_seq ?_
    revert h
    refine opt_i fun y8 ey8 => ?_
    intro h
    refine wc_ops ?_
    refine wj_q _ (q_ld (p := [.ints .u64 5 (p1)]) rfl (.there (.there .here)) rfl) ?_
    refine wj_q _ (q_call (vs := [agg [.ints .u64 5 (p1)]]) (v := agg [.ints .u64 5 (y8)]) rfl (fun w hw => field_reduce_spec (r := y8) (p0 := p1) ey8 )) ?_
    refine wj_e (ef_st (q := [.ints .u64 5 (y8)]) rfl rfl rfl rfl rfl .here ?_)
    refine wj_nil ?_
    refine wc_ret ?_
    revert h; refine ret_i fun h => ?_
    subst h
    exact ⟨_, (.cons (.agg rfl .here rfl) .nil), rfl⟩
  · have h := br_f h d6
    refine wc_skip ?_
    refine wc_seq ?_
    revert h
    refine opt_i fun y10 ey10 => ?_
    intro h
    refine wc_ops ?_
    refine wj_q _ (q_ld (p := [.ints .u64 5 (p2)]) rfl (.there .here) rfl) ?_
    refine wj_q _ (q_call (vs := [agg [.ints .u64 5 (p2)]]) (v := agg [.ints .u64 5 (y10)]) rfl (fun w hw => field_reduce_spec (r := y10) (p0 := p2) ey10 )) ?_
    refine wj_e (ef_st (q := [.ints .u64 5 (y10)]) rfl rfl rfl rfl rfl .here ?_)
    refine wj_nil ?_
    refine wc_ret ?_
    revert h; refine ret_i fun h => ?_
    subst h
    exact ⟨_, (.cons (.agg rfl .here rfl) .nil), rfl⟩
/- farebox/field.SqrtRatio -/
def field_SqrtRatio (p0 : List Int) (p1 : List Int) : Option ((List Int) × Bool) :=
 opt (field_IsZero p1) fun y6 =>
 br (y6) (
 bnd (([0, 0, 0, 0, 0] : List Int)) fun z9 =>
 opt (field_IsZero p0) fun y10 =>
 some (z9, y10)
 ) (
 opt (field_Square p1) fun y12 =>
 opt (field_Mul y12 p1) fun y13 =>
 opt (field_Square y13) fun y16 =>
 opt (field_Mul p0 y16) fun y17 =>
 opt (field_Mul y17 p1) fun y18 =>
 opt (field_Mul p0 y13) fun y21 =>
 opt (field_power 253 15) fun y22 =>
 opt (field_Pow y18 y22) fun y23 =>
 opt (field_Mul y21 y23) fun y24 =>
 opt (field_Square y24) fun y27 =>
 opt (field_Mul p1 y27) fun y28 =>
 jn (fun (a44 : List Int) => opt (field_IsOdd a44) fun y61 =>
 opt (field_Neg a44) fun y62 =>
 opt (field_Select y61 y62 a44) fun y63 =>
 some (y63, true)) fun k45 => opt (field_Equal y28 p0) fun y47 =>
 br (y47) (
 k45 y24
 ) (
 opt (field_Neg p0) fun y50 =>
 opt (field_Equal y28 y50) fun y51 =>
 br (y51) (
 opt (field_Small 2) fun y54 =>
 opt (field_power 251 31) fun y55 =>
 opt (field_Pow y54 y55) fun y56 =>
 opt (field_Mul y24 y56) fun y57 =>
 k45 y57
 ) (
 bnd (([0, 0, 0, 0, 0] : List Int)) fun z59 =>
 some (z59, false)
 )
 )
 )
theorem field_SqrtRatio_spec {W : World} {r : (List Int) × Bool} {p0 : List Int} {p1 : List Int} (h : field_SqrtRatio p0 p1 = some r)  :
    Calls Tryd.prog 36 [agg [.ints .u64 5 (p0)], agg [.ints .u64 5 (p1)]].toArray W (ret1 W (.tuple #[agg [.ints .u64 5 (r.1)], .bool (r.2)])) := by
  unfold field_SqrtRatio at h
  refine calls_val mo ok36 rfl ?_
  refine wc_seq ?_
  refine wc_ops ?_
  refine wj_e (ef_bx (s := [.ints .u64 5 (p0)]) rfl fun b2 hb2 => ?_)
  refine wj_e (ef_bx (s := [.ints .u64 5 (p1)]) rfl fun b3 hb3 => ?_)
  refine wj_e (ef_al fun b4 hb4 => ?_)
  refine wj_q _ (q_mv rfl) ?_
  refine wj_nil ?_
  refine wc_seq ?_
  refine wc_seq ?_
  revert h
  refine opt_i fun y6 ey6 => ?_
  intro h
  refine wc_ops ?_
  refine wj_q _ (q_ld (p := [.ints .u64 5 (p1)]) rfl (.there .here) rfl) ?_
  refine wj_q _ (q_call (vs := [agg [.ints .u64 5 (p1)]]) (v := .bool (y6)) rfl (fun w hw => field_IsZero_spec (r := y6) (p0 := p1) ey6 )) ?_
  refine wj_nil ?_
  refine wc_if (c := y6) rfl (fun d7 => ?_) (fun d7 => ?_)
  · have h := br_t h d7
    refine wc_seq ?_
    revert h
    refine bnd_i fun z9 ez9 => ?_
    refine opt_i fun y10 ey10 => ?_
    intro h
    refine wc_ops ?_
    refine wj_q _ (az (fun z => agg [.ints .u64 5 z]) ez9 (q_bd BdR.nil)) ?_
    refine wj_q _ (q_ld (p := [.ints .u64 5 (p0)]) rfl (.there (.there .here)) rfl) ?_
    refine wj_q _ (q_call (vs := [agg [.ints .u64 5 (p0)]]) (v := .bool (y10)) rfl (fun w hw => field_IsZero_spec (r := y10) (p0 := p0) ey10 )) ?_
    refine wj_e (ef_st (q := [.ints .u64 5 (z9)]) rfl rfl rfl rfl rfl .here ?_)
    refine wj_q _ (q_mv rfl) ?_
    refine wj_nil ?_
    refine wc_ret ?_
    revert h; refine ret_i fun h => ?_
    subst h
    exact ⟨_, (.cons (.agg rfl .here rfl) (.cons (.tmp rfl) .nil)), rfl⟩
  · have h := br_f h d7
    refine wc_skip ?_
    refine wc_seq ?_
    revert h
    refine opt_i fun y12 ey12 => ?_
    refine opt_i fun y13 ey13 => ?_
    intro h
    refine wc_draw ?_
    refine ws_q1 _ (q_ld (p := [.ints .u64 5 (p1)]) rfl (.there .here) rfl) ?_
    refine ws_p1 _ (q_call (vs := [agg [.ints .u64 5 (p1)]]) (v := agg [.ints .u64 5 (y12)]) rfl (fun w hw => field_Square_spec (r := y12) (p0 := p1) ey12 )) ?_
    refine ws_q1 _ (q_ld (p := [.ints .u64 5 (p1)]) rfl (.there .here) rfl) ?_
    refine ws_p1 _ (q_call (vs := [agg [.ints .u64 5 (y12)], agg [.ints .u64 5 (p1)]]) (v := agg [.ints .u64 5 (y13)]) rfl (fun w hw => field_Mul_spec (r := y13) (p0 := y12) (p1 := p1) ey13 )) ?_
    refine ws_e1 (ef_al fun b14 hb14 => ⟨(by repeat (first | exact Sup.refl _ | apply Sup.cons | apply Sup.app)), ?_⟩)
    refine ws_eL rfl (ef_st (q := [.ints .u64 5 (y13)]) rfl rfl rfl rfl rfl .here ?_)
    refine ws_nil ?_
    refine wc_seq ?_
    revert h
    refine opt_i fun y16 ey16 => ?_
    refine opt_i fun y17 ey17 => ?_
    refine opt_i fun y18 ey18 => ?_
    intro h
    refine wc_draw ?_
    refine ws_q1 _ (q_ld (p := [.ints .u64 5 (p0)]) rfl (.there (.there (.there .here))) rfl) ?_
    refine ws_q1 _ (q_ld (p := [.ints .u64 5 (y13)]) rfl .here rfl) ?_
    refine ws_p1 _ (q_call (vs := [agg [.ints .u64 5 (y13)]]) (v := agg [.ints .u64 5 (y16)]) rfl (fun w hw => field_Square_spec (r := y16) (p0 := y13) ey16 )) ?_
    refine ws_p1 _ (q_call (vs := [agg [.ints .u64 5 (p0)], agg [.ints .u64 5 (y16)]]) (v := agg [.ints .u64 5 (y17)]) rfl (fun w hw => field_Mul_spec (r := y17) (p0 := p0) (p1 := y16) ey17 )) ?_
    refine ws_q1 _ (q_ld (p := [.ints .u64 5 (p1)]) rfl (.there (.there .here)) rfl) ?_
    refine ws_p1 _ (q_call (vs := [agg [.ints .u64 5 (y17)], agg [.ints .u64 5 (p1)]]) (v := agg [.ints .u64 5 (y18)]) rfl (fun w hw => field_Mul_spec (r := y18) (p0 := y17) (p1 := p1) ey18 )) ?_
    refine ws_e1 (ef_al fun b19 hb19 => ⟨(by repeat (first | exact Sup.refl _ | apply Sup.cons | apply Sup.app)), ?_⟩)
    refine ws_eL rfl (ef_st (q := [.ints .u64 5 (y18)]) rfl rfl rfl rfl rfl .here ?_)
    refine ws_nil ?_
    refine wc_seq ?_
    revert h
    refine opt_i fun y21 ey21 => ?_
    refine opt_i fun y22 ey22 => ?_
    refine opt_i fun y23 ey23 => ?_
    refine opt_i fun y24 ey24 => ?_
    intro h
    refine wc_draw ?_
    refine ws_q1 _ (q_ld (p := [.ints .u64 5 (p0)]) rfl (.there (.there (.there (.there .here)))) rfl) ?_
    refine ws_q1 _ (q_ld (p := [.ints .u64 5 (y13)]) rfl (.there .here) rfl) ?_
    refine ws_p1 _ (q_call (vs := [agg [.ints .u64 5 (p0)], agg [.ints .u64 5 (y13)]]) (v := agg [.ints .u64 5 (y21)]) rfl (fun w hw => field_Mul_spec (r := y21) (p0 := p0) (p1 := y13) ey21 )) ?_
    refine ws_p1 _ (q_call (vs := [.int .u8 253, .int .u8 15]) (v := agg [.ints .u8 32 (y22)]) rfl (fun w hw => field_power_spec (r := y22) (p0 := 253) (p1 := 15) ey22 )) ?_
    refine ws_q1 _ (q_ld (p := [.ints .u64 5 (y18)]) rfl .here rfl) ?_
    refine ws_p1 _ (q_call (vs := [agg [.ints .u64 5 (y18)], agg [.ints .u8 32 (y22)]]) (v := agg [.ints .u64 5 (y23)]) rfl (fun w hw => field_Pow_spec (r := y23) (p0 := y18) (p1 := y22) ey23 )) ?_
    refine ws_p1 _ (q_call (vs := [agg [.ints .u64 5 (y21)], agg [.ints .u64 5 (y23)]]) (v := agg [.ints .u64 5 (y24)]) rfl (fun w hw => field_Mul_spec (r := y24) (p0 := y21) (p1 := y23) ey24 )) ?_
    refine ws_e1 (ef_al fun b25 hb25 => ⟨(by repeat (first | exact Sup.refl _ | apply Sup.cons | apply Sup.app)), ?_⟩)
    refine ws_eL rfl (ef_st (q := [.ints .u64 5 (y24)]) rfl rfl rfl rfl rfl .here ?_)
    refine ws_nil ?_
    refine wc_seq ?_
    refine wc_seq ?_
    revert h
    refine opt_i fun y27 ey27 => ?_
    refine opt_i fun y28 ey28 => ?_
    intro h
    refine wc_draw ?_
    refine ws_q1 _ (q_ld (p := [.ints .u64 5 (p1)]) rfl (.there (.there (.there (.there .here)))) rfl) ?_
    refine ws_q1 _ (q_ld (p := [.ints .u64 5 (y24)]) rfl .here rfl) ?_
    refine ws_p1 _ (q_call (vs := [agg [.ints .u64 5 (y24)]]) (v := agg [.ints .u64 5 (y27)]) rfl (fun w hw => field_Square_spec (r := y27) (p0 := y24) ey27 )) ?_
    refine ws_p1 _ (q_call (vs := [agg [.ints .u64 5 (p1)], agg [.ints .u64 5 (y27)]]) (v := agg [.ints .u64 5 (y28)]) rfl (fun w hw => field_Mul_spec (r := y28) (p0 := p1) (p1 := y27) ey28 )) ?_
    refine ws_e1 (ef_al fun b29 hb29 => ⟨(by repeat (first | exact Sup.refl _ | apply Sup.cons | apply Sup.app)), ?_⟩)
    refine ws_eL rfl (ef_st (q := [.ints .u64 5 (y28)]) rfl rfl rfl rfl rfl .here ?_)
    refine ws_nil ?_
    revert h
    refine jn_i fun k45 qk45 => ?_
    intro h
    refine wc_mono2 (G := fun t m => ∃ (a44 : List Int), k45 a44 = some r ∧ Fit [(4, .pointer (some ⟨b4, 0, none⟩)), (8, .pointer (some ⟨b25, 0, none⟩))] (ck b29 58 [.ints .u64 5 (y28)] :: (ck b25 58 [.ints .u64 5 (a44)] :: (ck b19 58 [.ints .u64 5 (y18)] :: (ck b14 58 [.ints .u64 5 (y13)] :: (ck b4 58 [.ints .u64 5 ((List.replicate 5 0))] :: (ck b3 58 [.ints .u64 5 (p1)] :: (ck b2 58 [.ints .u64 5 (p0)] :: []))))))) t m) ?_ ?_
    · refine wc_block ?_
      refine wc_seq ?_
      revert h
      refine opt_i fun y47 ey47 => ?_
      intro h
      refine wc_ops ?_
      refine wj_q _ (q_ld (p := [.ints .u64 5 (y28)]) rfl .here rfl) ?_
      refine wj_q _ (q_ld (p := [.ints .u64 5 (p0)]) rfl (.there (.there (.there (.there (.there (.there .here)))))) rfl) ?_
      refine wj_q _ (q_call (vs := [agg [.ints .u64 5 (y28)], agg [.ints .u64 5 (p0)]]) (v := .bool (y47)) rfl (fun w hw => field_Equal_spec (r := y47) (p0 := y28) (p1 := p0) ey47 )) ?_
      refine wj_q _ (q_mv rfl) ?_
      refine wj_nil ?_
      refine wc_if (c := y47) rfl (fun d48 => ?_) (fun d48 => ?_)
      · have h := br_t h d48
        refine wc_skip ?_
        exact ⟨y24, h, ⟨⟨rfl, rfl, trivial⟩, (.one .here (.one .here (.one .here (.one .here (.one .here (.one .here (.one .here .nil)))))))⟩⟩
      · have h := br_f h d48
        refine wc_seq ?_
        revert h
        refine opt_i fun y50 ey50 => ?_
        refine opt_i fun y51 ey51 => ?_
        intro h
        refine wc_draw ?_
        refine ws_q1 _ (q_ld (p := [.ints .u64 5 (y28)]) rfl .here rfl) ?_
        refine ws_q1 _ (q_ld (p := [.ints .u64 5 (p0)]) rfl (.there (.there (.there (.there (.there (.there .here)))))) rfl) ?_
        refine ws_p1 _ (q_call (vs := [agg [.ints .u64 5 (p0)]]) (v := agg [.ints .u64 5 (y50)]) rfl (fun w hw => field_Neg_spec (r := y50) (p0 := p0) ey50 )) ?_
        refine ws_p1 _ (q_call (vs := [agg [.ints .u64 5 (y28)], agg [.ints .u64 5 (y50)]]) (v := .bool (y51)) rfl (fun w hw => field_Equal_spec (r := y51) (p0 := y28) (p1 := y50) ey51 )) ?_
        refine ws_p1 _ (q_mv rfl) ?_
        refine ws_nil ?_
        refine wc_if (c := y51) rfl (fun d52 => ?_) (fun d52 => ?_)
        · have h := br_t h d52
          revert h
          refine opt_i fun y54 ey54 => ?_
          refine opt_i fun y55 ey55 => ?_
          refine opt_i fun y56 ey56 => ?_
          refine opt_i fun y57 ey57 => ?_
          intro h
          refine wc_draw ?_
          refine ws_p1 _ (q_call (vs := [.int .u64 2]) (v := agg [.ints .u64 5 (y54)]) rfl (fun w hw => field_Small_spec (r := y54) (p0 := 2) ey54 )) ?_
          refine ws_p1 _ (q_call (vs := [.int .u8 251, .int .u8 31]) (v := agg [.ints .u8 32 (y55)]) rfl (fun w hw => field_power_spec (r := y55) (p0 := 251) (p1 := 31) ey55 )) ?_
          refine ws_p1 _ (q_call (vs := [agg [.ints .u64 5 (y54)], agg [.ints .u8 32 (y55)]]) (v := agg [.ints .u64 5 (y56)]) rfl (fun w hw => field_Pow_spec (r := y56) (p0 := y54) (p1 := y55) ey56 )) ?_
          refine ws_q1 _ (q_ld (p := [.ints .u64 5 (y24)]) rfl (.there .here) rfl) ?_
          refine ws_p1 _ (q_call (vs := [agg [.ints .u64 5 (y24)], agg [.ints .u64 5 (y56)]]) (v := agg [.ints .u64 5 (y57)]) rfl (fun w hw => field_Mul_spec (r := y57) (p0 := y24) (p1 := y56) ey57 )) ?_
          refine ws_eL rfl (ef_st (q := [.ints .u64 5 (y57)]) rfl rfl rfl rfl rfl (.there .here) ?_)
          refine ws_nil ?_
          exact ⟨y57, h, ⟨⟨rfl, rfl, trivial⟩, (.one .here (.one .here (.one .here (.one .here (.one .here (.one .here (.one .here .nil)))))))⟩⟩
        · have h := br_f h d52
          refine wc_seq ?_
          revert h
          refine bnd_i fun z59 ez59 => ?_
          intro h
          refine wc_ops ?_
          refine wj_q _ (az (fun z => agg [.ints .u64 5 z]) ez59 (q_bd BdR.nil)) ?_
          refine wj_e (ef_st (q := [.ints .u64 5 (z59)]) rfl rfl rfl rfl rfl (.there (.there (.there (.there .here)))) ?_)
          refine wj_q _ (q_mv rfl) ?_
          refine wj_nil ?_
          refine wc_ret ?_
          revert h; refine ret_i fun h => ?_
          subst h
          exact ⟨_, (.cons (.agg rfl (.there (.there (.there (.there .here)))) rfl) (.cons (.tmp rfl) .nil)), rfl⟩
    · rintro t m ⟨a44, h, hF⟩
      refine wc_fit hF ?_
      clear hF
      subst qk45
      refine wc_seq ?_
      revert h
      refine opt_i fun y61 ey61 => ?_
      refine opt_i fun y62 ey62 => ?_
      refine opt_i fun y63 ey63 => ?_
      intro h
      refine wc_draw ?_
      refine ws_q1 _ (q_ld (p := [.ints .u64 5 (a44)]) rfl (.there .here) rfl) ?_
      refine ws_p1 _ (q_call (vs := [agg [.ints .u64 5 (a44)]]) (v := .bool (y61)) rfl (fun w hw => field_IsOdd_spec (r := y61) (p0 := a44) ey61 )) ?_
      refine ws_q1 _ (q_ld (p := [.ints .u64 5 (a44)]) rfl (.there .here) rfl) ?_
      refine ws_p1 _ (q_call (vs := [agg [.ints .u64 5 (a44)]]) (v := agg [.ints .u64 5 (y62)]) rfl (fun w hw => field_Neg_spec (r := y62) (p0 := a44) ey62 )) ?_
      refine ws_q1 _ (q_ld (p := [.ints .u64 5 (a44)]) rfl (.there .here) rfl) ?_
      refine ws_p1 _ (q_call (vs := [.bool (y61), agg [.ints .u64 5 (y62)], agg [.ints .u64 5 (a44)]]) (v := agg [.ints .u64 5 (y63)]) rfl (fun w hw => field_Select_spec (r := y63) (p0 := y61) (p1 := y62) (p2 := a44) ey63 )) ?_
      refine ws_eL rfl (ef_st (q := [.ints .u64 5 (y63)]) rfl rfl rfl rfl rfl (.there (.there (.there (.there .here)))) ?_)
      refine ws_p1 _ (q_mv rfl) ?_
      refine ws_nil ?_
      refine wc_ret ?_
      revert h; refine ret_i fun h => ?_
      subst h
      exact ⟨_, (.cons (.agg rfl (.there (.there (.there (.there .here)))) rfl) (.cons (.tmp rfl) .nil)), rfl⟩
/- farebox/field.Add -/
def field_Add_b1 (y7 : (List Int)) (k50 : (List Int) → Option ((List Int))) (k76 : (Int) → (List Int) → Option ((List Int))) (i74 : Int) (a75 : List Int) : Option ((List Int)) :=
 br ((decide (i74 < 5))) (
 chk (inB i74 5) <|
 chk (inB i74 5) <|
 bnd (a75.getD (i74).toNat 0) fun z84 =>
 bnd (y7.getD (i74).toNat 0) fun z85 =>
 bnd (IntKind.wrap .u64 (z84 + z85)) fun z86 =>
 chk (inB i74 5) <|
 bnd (setD a75 (i74).toNat z86) fun l88 =>
 bnd (IntKind.wrap .i64 (i74 + 1)) fun z90 =>
 k76 z90 l88
 ) (
 k50 a75
 )
def field_Add_l1 (y7 : (List Int)) (k50 : (List Int) → Option ((List Int))) : Nat → (Int) → (List Int) → Option ((List Int))
  | 0, _, _ => none
  | n + 1, i74, a75 => field_Add_b1 y7 k50 (field_Add_l1 y7 k50 n) i74 a75
def field_Add (p0 : List Int) (p1 : List Int) : Option ((List Int)) :=
 opt (field_carry p0) fun y6 =>
 opt (field_carry p1) fun y7 =>
 jn (fun (a49 : List Int) => opt (field_reduce a49) fun y92 =>
 some y92) fun k50 => field_Add_l1 y7 k50 big 0 y6
theorem field_Add_spec {W : World} {r : (List Int)} {p0 : List Int} {p1 : List Int} (h : field_Add p0 p1 = some r)  :
    Calls Tryd.prog 38 [agg [.ints .u64 5 (p0)], agg [.ints .u64 5 (p1)]].toArray W (ret1 W (agg [.ints .u64 5 (r)])) := by
  unfold field_Add at h
  refine calls_val mo ok38 rfl ?_
  refine wc_seq ?_
  refine wc_ops ?_
  refine wj_e (ef_bx (s := [.ints .u64 5 (p0)]) rfl fun b2 hb2 => ?_)
  refine wj_e (ef_bx (s := [.ints .u64 5 (p1)]) rfl fun b3 hb3 => ?_)
  refine wj_e (ef_al fun b4 hb4 => ?_)
  refine wj_nil ?_
  refine wc_seq ?_
  revert h
  refine opt_i fun y6 ey6 => ?_
  refine opt_i fun y7 ey7 => ?_
  intro h
  refine wc_draw ?_
  refine ws_q1 _ (q_ld (p := [.ints .u64 5 (p0)]) rfl (.there (.there .here)) rfl) ?_
  refine ws_p1 _ (q_call (vs := [agg [.ints .u64 5 (p0)]]) (v := agg [.ints .u64 5 (y6)]) rfl (fun w hw => field_carry_spec (r := y6) (p0 := p0) ey6 )) ?_
  refine ws_q1 _ (q_ld (p := [.ints .u64 5 (p1)]) rfl (.there .here) rfl) ?_
  refine ws_p1 _ (q_call (vs := [agg [.ints .u64 5 (p1)]]) (v := agg [.ints .u64 5 (y7)]) rfl (fun w hw => field_carry_spec (r := y7) (p0 := p1) ey7 )) ?_
  refine ws_eL rfl (ef_st (q := [.ints .u64 5 (y6)]) rfl rfl rfl rfl rfl (.there (.there .here)) ?_)
  refine ws_eM rfl (ef_st (q := [.ints .u64 5 (y7)]) rfl rfl rfl rfl rfl (.there .here) ?_)
  refine ws_nil ?_
  refine wc_seq ?_
  refine wc_seq ?_
  refine wc_ops ?_
  refine wj_q _ (q_mv rfl) ?_
  refine wj_nil ?_
  revert h
  refine jn_i fun k50 qk50 => ?_
  intro h
  refine wc_mono2 (G := fun t m => ∃ (a49 : List Int), k50 a49 = some r ∧ Fit [(2, .pointer (some ⟨b2, 0, none⟩)), (4, .pointer (some ⟨b4, 0, none⟩))] (ck b4 58 [.ints .u64 5 ((List.replicate 5 0))] :: (ck b3 58 [.ints .u64 5 (y7)] :: (ck b2 58 [.ints .u64 5 (a49)] :: []))) t m) ?_ ?_
  · refine wc_block ?_
    refine wc_loopJ (fun n77 t m => ∃ (i74 : Int) (a75 : List Int), field_Add_l1 y7 k50 n77 i74 a75 = some r ∧ Fit [(2, .pointer (some ⟨b2, 0, none⟩)), (3, .pointer (some ⟨b3, 0, none⟩)), (4, .pointer (some ⟨b4, 0, none⟩)), (10, .int .i64 (i74))] (ck b4 58 [.ints .u64 5 ((List.replicate 5 0))] :: (ck b3 58 [.ints .u64 5 (y7)] :: (ck b2 58 [.ints .u64 5 (a75)] :: []))) t m) big ?_ ?_
    · exact ⟨0, y6, h, ⟨⟨rfl, rfl, rfl, rfl, trivial⟩, (.one .here (.one .here (.one .here .nil)))⟩⟩
    · rintro n77 t m ⟨i74, a75, h, hF⟩
      refine wc_fit hF ?_
      clear hF
      rcases n77 with _ | n77
      · exact none_i h
      have h : field_Add_b1 y7 k50 (field_Add_l1 y7 k50 n77) i74 a75 = some r := h
      unfold field_Add_b1 at h
      obtain ⟨k76, qk76⟩ : ∃ k, k = field_Add_l1 y7 k50 n77 := ⟨_, rfl⟩
      try rw [← qk76] at h
      refine wc_seq ?_
      refine wc_ops ?_
      refine wj_q _ (q_bin rfl rfl rfl) ?_
      refine wj_nil ?_
      refine wc_seq ?_
      refine wc_if (c := (decide (i74 < 5))) rfl (fun d79 => ?_) (fun d79 => ?_)
      · have h := br_t h d79
        refine wc_skip ?_
        refine wc_seq ?_
        refine wc_block ?_
        refine wc_seq ?_
        refine wc_ops ?_
        refine wj_q _ (q_mv rfl) ?_
        refine wj_q _ (q_mv rfl) ?_
        refine wj_nil ?_
        revert h
        refine chk_i fun c82 => ?_
        refine chk_i fun c83 => ?_
        refine bnd_i fun z84 ez84 => ?_
        refine bnd_i fun z85 ez85 => ?_
        refine bnd_i fun z86 ez86 => ?_
        refine chk_i fun c87 => ?_
        refine bnd_i fun l88 el88 => ?_
        intro h
        refine wc_draw ?_
        refine ws_p1 _ (q_mv rfl) ?_
        refine ws_p1 _ (q_ia rfl rfl (inB_z c82)) ?_
        refine ws_p1 _ (q_mv rfl) ?_
        refine ws_p1 _ (q_ia rfl rfl (inB_z c83)) ?_
        refine ws_q1 _ (iz ez84 (q_ldi (base := 0) rfl (.there (.there .here)) rfl (inB_n c82))) ?_
        refine ws_q1 _ (iz ez85 (q_ldi (base := 0) rfl (.there .here) rfl (inB_n c83))) ?_
        refine ws_p1 _ (iz ez86 (q_bin rfl rfl rfl)) ?_
        refine ws_p1 _ (q_ia rfl rfl (inB_z c87)) ?_
        refine ws_eL rfl (ef_stiz (q := [.ints .u64 5 (l88)]) (base := 0) el88 rfl rfl rfl (inB_n c87) rfl (.there (.there .here)) ?_)
        refine ws_nil ?_
        revert h
        refine bnd_i fun z90 ez90 => ?_
        intro h
        refine wc_ops ?_
        refine wj_q _ (iz ez90 (q_bin rfl rfl rfl)) ?_
        refine wj_q _ (q_mv rfl) ?_
        refine wj_nil ?_
        rw [qk76] at h
        exact ⟨n77, Nat.lt_succ_self _, z90, l88, h, ⟨⟨rfl, rfl, rfl, rfl, trivial⟩, (.one .here (.one .here (.one .here .nil)))⟩⟩
      · have h := br_f h d79
        refine wc_exit _ rfl ?_
        exact ⟨a75, h, ⟨⟨rfl, rfl, trivial⟩, (.one .here (.one .here (.one .here .nil)))⟩⟩
  · rintro t m ⟨a49, h, hF⟩
    refine wc_fit hF ?_
    clear hF
    subst qk50
    refine wc_seq ?_
    revert h
    refine opt_i fun y92 ey92 => ?_
    intro h
    refine wc_ops ?_
    refine wj_q _ (q_ld (p := [.ints .u64 5 (a49)]) rfl (.there (.there .here)) rfl) ?_
    refine wj_q _ (q_call (vs := [agg [.ints .u64 5 (a49)]]) (v := agg [.ints .u64 5 (y92)]) rfl (fun w hw => field_reduce_spec (r := y92) (p0 := a49) ey92 )) ?_
    refine wj_e (ef_st (q := [.ints .u64 5 (y92)]) rfl rfl rfl rfl rfl .here ?_)
    refine wj_nil ?_
    refine wc_ret ?_
    revert h; refine ret_i fun h => ?_
    subst h
    exact ⟨_, (.cons (.agg rfl .here rfl) .nil), rfl⟩
/- farebox/field.Sub -/
def field_Sub (p0 : List Int) (p1 : List Int) : Option ((List Int)) :=
 opt (field_Neg p1) fun y6 =>
 opt (field_Add p0 y6) fun y7 =>
 some y7
theorem field_Sub_spec {W : World} {r : (List Int)} {p0 : List Int} {p1 : List Int} (h : field_Sub p0 p1 = some r)  :
    Calls Tryd.prog 37 [agg [.ints .u64 5 (p0)], agg [.ints .u64 5 (p1)]].toArray W (ret1 W (agg [.ints .u64 5 (r)])) := by
  unfold field_Sub at h
  refine calls_val mo ok37 rfl ?_
  refine wc_seq ?_
  refine wc_ops ?_
  refine wj_e (ef_bx (s := [.ints .u64 5 (p0)]) rfl fun b2 hb2 => ?_)
  refine wj_e (ef_bx (s := [.ints .u64 5 (p1)]) rfl fun b3 hb3 => ?_)
  refine wj_e (ef_al fun b4 hb4 => ?_)
  refine wj_nil ?_
  refine wc_seq ?_
  revert h
  refine opt_i fun y6 ey6 => ?_
  refine opt_i fun y7 ey7 => ?_
  intro h
  refine wc_draw ?_
  refine ws_q1 _ (q_ld (p := [.ints .u64 5 (p0)]) rfl (.there (.there .here)) rfl) ?_
  refine ws_q1 _ (q_ld (p := [.ints .u64 5 (p1)]) rfl (.there .here) rfl) ?_
  refine ws_p1 _ (q_call (vs := [agg [.ints .u64 5 (p1)]]) (v := agg [.ints .u64 5 (y6)]) rfl (fun w hw => field_Neg_spec (r := y6) (p0 := p1) ey6 )) ?_
  refine ws_p1 _ (q_call (vs := [agg [.ints .u64 5 (p0)], agg [.ints .u64 5 (y6)]]) (v := agg [.ints .u64 5 (y7)]) rfl (fun w hw => field_Add_spec (r := y7) (p0 := p0) (p1 := y6) ey7 )) ?_
  refine ws_eL rfl (ef_st (q := [.ints .u64 5 (y7)]) rfl rfl rfl rfl rfl .here ?_)
  refine ws_nil ?_
  refine wc_ret ?_
  revert h; refine ret_i fun h => ?_
  subst h
  exact ⟨_, (.cons (.agg rfl .here rfl) .nil), rfl⟩
/- farebox/curve.limbs -/
def curve_limbs  : Option ((List Int)) :=
 bnd (([929955233495203, 466365720129213, 1662059464998953, 2033849074728123, 1442794654840575] : List Int)) fun z4 =>
 some z4
theorem curve_limbs_spec {W : World} {r : (List Int)} (h : curve_limbs  = some r)  :
    Calls Tryd.prog 40 [].toArray W (ret1 W (agg [.ints .u64 5 (r)])) := by
  unfold curve_limbs at h
  refine calls_val mo ok40 rfl ?_
  refine wc_seq ?_
  refine wc_ops ?_
  refine wj_e (ef_al fun b2 hb2 => ?_)
  refine wj_nil ?_
  refine wc_seq ?_
  revert h
  refine bnd_i fun z4 ez4 => ?_
  intro h
  refine wc_ops ?_
  refine wj_q _ (az (fun z => agg [.ints .u64 5 z]) ez4 (q_bd (.one rfl rfl rfl (.one rfl rfl rfl (.one rfl rfl rfl (.one rfl rfl rfl (.one rfl rfl rfl BdR.nil))))))) ?_
  refine wj_e (ef_st (q := [.ints .u64 5 (z4)]) rfl rfl rfl rfl rfl .here ?_)
  refine wj_nil ?_
  refine wc_ret ?_
  revert h; refine ret_i fun h => ?_
  subst h
  exact ⟨_, (.cons (.agg rfl .here rfl) .nil), rfl⟩
end Go.Proofs.YtiflckckekjbnaaDoor
