/- Mirrors. -/
import Derived.Test.YtiflckckekjbnaaDoorL3
namespace Go.Proofs.YtiflckckekjbnaaDoor
open Go Go.Sx Go.RowKit
set_option linter.all false
set_option maxHeartbeats 400000
set_option maxRecDepth 100000
/- farebox/curve.Decode -/
structure api_Point where
  gX : List Int
  gY : List Int
  gZ : List Int
  gT : List Int
def api_Point_z : api_Point := ⟨(List.replicate 5 0), (List.replicate 5 0), (List.replicate 5 0), (List.replicate 5 0)⟩
def curve_Decode (p0 : List Int) : Option (api_Point × Bool) :=
 bnd (p0.getD 31 0) fun z5 =>
 bnd (shrV .u8 z5 7) fun z6 =>
 bnd (p0.getD 31 0) fun z8 =>
 bnd (bitsV .and .u8 z8 127) fun z9 =>
 bnd (setD p0 31 z9) fun l10 =>
 opt (field_Canonical l10) fun y12 =>
 br ((!y12)) (
 some ((⟨(List.replicate 5 0), (List.replicate 5 0), (List.replicate 5 0), (List.replicate 5 0)⟩ : api_Point), false)
 ) (
 opt (field_FromBytes l10) fun y16 =>
 opt (field_Square y16) fun y19 =>
 opt (curve_unit) fun y22 =>
 opt (field_Sub y19 y22) fun y25 =>
 opt (curve_limbs) fun y26 =>
 opt (field_Mul y26 y19) fun y27 =>
 opt (field_Add y27 y22) fun y28 =>
 opt (field_SqrtRatio y25 y28) fun y29 =>
 chk (imp (!(!y29.2)) (imp (z6 == 1) ((field_IsZero y29.1).isSome))) <|
 br (((!y29.2) || ((z6 == 1) && ((field_IsZero y29.1).getD false)))) (
 some ((⟨(List.replicate 5 0), (List.replicate 5 0), (List.replicate 5 0), (List.replicate 5 0)⟩ : api_Point), false)
 ) (
 jn (fun (a39 : List Int) => opt (field_Mul a39 y16) fun y45 =>
 some ((⟨a39, y16, y22, y45⟩ : api_Point), true)) fun k40 => br ((z6 == 1)) (
 opt (field_Neg y29.1) fun y43 =>
 k40 y43
 ) (
 k40 y29.1
 )
 )
 )
theorem curve_Decode_spec {W : World} {r : api_Point × Bool} {p0 : List Int} (h : curve_Decode p0 = some r)  :
    Calls Tryd.prog 18 [agg [.ints .u8 32 (p0)]].toArray W (ret1 W (.tuple #[agg [.ints .u64 5 (r.1.gX), .ints .u64 5 (r.1.gY), .ints .u64 5 (r.1.gZ), .ints .u64 5 (r.1.gT)], .bool (r.2)])) := by
  unfold curve_Decode at h
  refine calls_val mo ok18 rfl ?_
  refine wc_seq ?_
  refine wc_ops ?_
  refine wj_e (ef_bx (s := [.ints .u8 32 (p0)]) rfl fun b2 hb2 => ?_)
  refine wj_e (ef_al fun b3 hb3 => ?_)
  refine wj_q _ (q_mv rfl) ?_
  refine wj_nil ?_
  refine wc_seq ?_
  revert h
  refine bnd_i fun z5 ez5 => ?_
  refine bnd_i fun z6 ez6 => ?_
  intro h
  refine wc_ops ?_
  refine wj_q _ (q_ia rfl rfl (by decide)) ?_
  refine wj_q _ (iz ez5 (q_ld1 rfl (.there .here) rfl)) ?_
  refine wj_q _ (iz ez6 (q_shr rfl rfl (by decide))) ?_
  refine wj_q _ (q_bin rfl rfl rfl) ?_
  refine wj_q _ (q_mv rfl) ?_
  refine wj_nil ?_
  refine wc_seq ?_
  revert h
  refine bnd_i fun z8 ez8 => ?_
  refine bnd_i fun z9 ez9 => ?_
  refine bnd_i fun l10 el10 => ?_
  intro h
  refine wc_ops ?_
  refine wj_q _ (q_ia rfl rfl (by decide)) ?_
  refine wj_q _ (iz ez8 (q_ld1 rfl (.there .here) rfl)) ?_
  refine wj_q _ (iz ez9 (q_bin rfl rfl rfl)) ?_
  refine wj_q _ (q_ia rfl rfl (by decide)) ?_
  refine wj_e (ef_st1z (q := [.ints .u8 32 (l10)]) (congrArg (fun z => ([.ints .u8 32 (z)] : List Seg)) el10.symm) rfl rfl rfl rfl (.there .here) ?_)
  refine wj_nil ?_
  refine wc_seq ?_
  refine wc_seq ?_
  revert h
  refine opt_i fun y12 ey12 => ?_
  intro h
  refine wc_ops ?_
  refine wj_q _ (q_ld (p := [.ints .u8 32 (l10)]) rfl (.there .here) rfl) ?_
  refine wj_q _ (q_call (vs := [agg [.ints .u8 32 (l10)]]) (v := .bool (y12)) rfl (fun w hw => field_Canonical_spec (r := y12) (p0 := l10) ey12 )) ?_
  refine wj_q _ (q_un rfl rfl) ?_
  refine wj_nil ?_
  refine wc_if (c := (!y12)) rfl (fun d13 => ?_) (fun d13 => ?_)
  · have h := br_t h d13
    refine wc_seq ?_
    refine wc_ops ?_
    refine wj_q _ (q_bd (q := [.ints .u64 5 ((List.replicate 5 0)), .ints .u64 5 ((List.replicate 5 0)), .ints .u64 5 ((List.replicate 5 0)), .ints .u64 5 ((List.replicate 5 0))]) BdR.nil) ?_
    refine wj_e (ef_st (q := [.ints .u64 5 ((List.replicate 5 0)), .ints .u64 5 ((List.replicate 5 0)), .ints .u64 5 ((List.replicate 5 0)), .ints .u64 5 ((List.replicate 5 0))]) rfl rfl rfl rfl rfl .here ?_)
    refine wj_q _ (q_mv rfl) ?_
    refine wj_nil ?_
    refine wc_ret ?_
    revert h; refine ret_i fun h => ?_
    subst h
    exact ⟨_, (.cons (.agg rfl .here rfl) (.cons (.tmp rfl) .nil)), rfl⟩
  · have h := br_f h d13
    refine wc_skip ?_
    refine wc_seq ?_
    revert h
    refine opt_i fun y16 ey16 => ?_
    intro h
    refine wc_ops ?_
    refine wj_q _ (q_ld (p := [.ints .u8 32 (l10)]) rfl (.there .here) rfl) ?_
    refine wj_q _ (q_call (vs := [agg [.ints .u8 32 (l10)]]) (v := agg [.ints .u64 5 (y16)]) rfl (fun w hw => field_FromBytes_spec (r := y16) (p0 := l10) ey16 )) ?_
    refine wj_e (ef_al fun b17 hb17 => ?_)
    refine wj_e (ef_st (q := [.ints .u64 5 (y16)]) rfl rfl rfl rfl rfl .here ?_)
    refine wj_nil ?_
    refine wc_seq ?_
    revert h
    refine opt_i fun y19 ey19 => ?_
    intro h
    refine wc_ops ?_
    refine wj_q _ (q_ld (p := [.ints .u64 5 (y16)]) rfl .here rfl) ?_
    refine wj_q _ (q_call (vs := [agg [.ints .u64 5 (y16)]]) (v := agg [.ints .u64 5 (y19)]) rfl (fun w hw => field_Square_spec (r := y19) (p0 := y16) ey19 )) ?_
    refine wj_e (ef_al fun b20 hb20 => ?_)
    refine wj_e (ef_st (q := [.ints .u64 5 (y19)]) rfl rfl rfl rfl rfl .here ?_)
    refine wj_nil ?_
    refine wc_seq ?_
    revert h
    refine opt_i fun y22 ey22 => ?_
    intro h
    refine wc_ops ?_
    refine wj_q _ (q_call (vs := []) (v := agg [.ints .u64 5 (y22)]) rfl (fun w hw => curve_unit_spec (r := y22) ey22 )) ?_
    refine wj_e (ef_al fun b23 hb23 => ?_)
    refine wj_e (ef_st (q := [.ints .u64 5 (y22)]) rfl rfl rfl rfl rfl .here ?_)
    refine wj_nil ?_
    refine wc_seq ?_
    revert h
    refine opt_i fun y25 ey25 => ?_
    refine opt_i fun y26 ey26 => ?_
    refine opt_i fun y27 ey27 => ?_
    refine opt_i fun y28 ey28 => ?_
    refine opt_i fun y29 ey29 => ?_
    intro h
    refine wc_draw ?_
    refine ws_q1 _ (q_ld (p := [.ints .u64 5 (y19)]) rfl (.there .here) rfl) ?_
    refine ws_q1 _ (q_ld (p := [.ints .u64 5 (y22)]) rfl .here rfl) ?_
    refine ws_p1 _ (q_call (vs := [agg [.ints .u64 5 (y19)], agg [.ints .u64 5 (y22)]]) (v := agg [.ints .u64 5 (y25)]) rfl (fun w hw => field_Sub_spec (r := y25) (p0 := y19) (p1 := y22) ey25 )) ?_
    refine ws_p1 _ (q_call (vs := []) (v := agg [.ints .u64 5 (y26)]) rfl (fun w hw => curve_limbs_spec (r := y26) ey26 )) ?_
    refine ws_q1 _ (q_ld (p := [.ints .u64 5 (y19)]) rfl (.there .here) rfl) ?_
    refine ws_p1 _ (q_call (vs := [agg [.ints .u64 5 (y26)], agg [.ints .u64 5 (y19)]]) (v := agg [.ints .u64 5 (y27)]) rfl (fun w hw => field_Mul_spec (r := y27) (p0 := y26) (p1 := y19) ey27 )) ?_
    refine ws_q1 _ (q_ld (p := [.ints .u64 5 (y22)]) rfl .here rfl) ?_
    refine ws_p1 _ (q_call (vs := [agg [.ints .u64 5 (y27)], agg [.ints .u64 5 (y22)]]) (v := agg [.ints .u64 5 (y28)]) rfl (fun w hw => field_Add_spec (r := y28) (p0 := y27) (p1 := y22) ey28 )) ?_
    refine ws_p1 _ (q_call (vs := [agg [.ints .u64 5 (y25)], agg [.ints .u64 5 (y28)]]) (v := .tuple #[agg [.ints .u64 5 (y29.1)], .bool (y29.2)]) rfl (fun w hw => field_SqrtRatio_spec (r := y29) (p0 := y25) (p1 := y28) ey29 )) ?_
    refine ws_p1 _ (q_mv rfl) ?_
    refine ws_p1 _ (q_ext rfl rfl) ?_
    refine ws_p1 _ (q_ext rfl rfl) ?_
    refine ws_e1 (ef_al fun b30 hb30 => ⟨(by repeat (first | exact Sup.refl _ | apply Sup.cons | apply Sup.app)), ?_⟩)
    refine ws_eL rfl (ef_st (q := [.ints .u64 5 (y29.1)]) rfl rfl rfl rfl rfl .here ?_)
    refine ws_p1 _ (q_mv rfl) ?_
    refine ws_nil ?_
    refine wc_seq ?_
    refine wc_seq ?_
    revert h
    refine chk_i fun c32 => ?_
    intro h
    refine wc_ops ?_
    refine wj_q _ (q_mv rfl) ?_
    refine wj_q _ (q_un rfl rfl) ?_
    refine wj_q _ (q_mv rfl) ?_
    refine wj_or rfl rfl rfl (fun hg1 => qj_g rfl _ (q_mv rfl) (qj_g rfl _ (q_mv rfl) (qj_and rfl (fun _ h => by cases h; rfl) rfl rfl (fun hg2 => qj_g rfl _ (q_ld (p := [.ints .u64 5 (y29.1)]) rfl .here rfl) (qj_g rfl _ (q_call (vs := [agg [.ints .u64 5 (y29.1)]]) (v := .bool (((field_IsZero y29.1).getD false))) rfl (fun w hw => field_IsZero_spec (r := ((field_IsZero y29.1).getD false)) (p0 := y29.1) (getD_some (z := false) (imp_t (imp_f c32 hg1) hg2)) )) (qj_nil))) (fun hg2 => rfl) rfl (qj_nil)))) (fun hg1 => rfl) rfl ?_
    refine wj_nil ?_
    refine wc_if (c := ((!y29.2) || ((z6 == 1) && ((field_IsZero y29.1).getD false)))) rfl (fun d33 => ?_) (fun d33 => ?_)
    · have h := br_t h d33
      refine wc_seq ?_
      refine wc_ops ?_
      refine wj_q _ (q_bd (q := [.ints .u64 5 ((List.replicate 5 0)), .ints .u64 5 ((List.replicate 5 0)), .ints .u64 5 ((List.replicate 5 0)), .ints .u64 5 ((List.replicate 5 0))]) BdR.nil) ?_
      refine wj_e (ef_st (q := [.ints .u64 5 ((List.replicate 5 0)), .ints .u64 5 ((List.replicate 5 0)), .ints .u64 5 ((List.replicate 5 0)), .ints .u64 5 ((List.replicate 5 0))]) rfl rfl rfl rfl rfl (.there (.there (.there (.there .here)))) ?_)
      refine wj_q _ (q_mv rfl) ?_
      refine wj_nil ?_
      refine wc_ret ?_
      revert h; refine ret_i fun h => ?_
      subst h
      exact ⟨_, (.cons (.agg rfl (.there (.there (.there (.there .here)))) rfl) (.cons (.tmp rfl) .nil)), rfl⟩
    · have h := br_f h d33
      refine wc_skip ?_
      refine wc_seq ?_
      refine wc_seq ?_
      refine wc_ops ?_
      refine wj_q _ (q_mv rfl) ?_
      refine wj_nil ?_
      revert h
      refine jn_i fun k40 qk40 => ?_
      intro h
      refine wc_mono2 (G := fun t m => ∃ (a39 : List Int), k40 a39 = some r ∧ Fit [(2, .pointer (some ⟨b3, 0, none⟩)), (5, .pointer (some ⟨b17, 0, none⟩)), (7, .pointer (some ⟨b23, 0, none⟩)), (8, .pointer (some ⟨b30, 0, none⟩))] (ck b30 58 [.ints .u64 5 (a39)] :: (ck b23 58 [.ints .u64 5 (y22)] :: (ck b20 58 [.ints .u64 5 (y19)] :: (ck b17 58 [.ints .u64 5 (y16)] :: (ck b3 60 [.ints .u64 5 ((List.replicate 5 0)), .ints .u64 5 ((List.replicate 5 0)), .ints .u64 5 ((List.replicate 5 0)), .ints .u64 5 ((List.replicate 5 0))] :: (ck b2 27 [.ints .u8 32 (l10)] :: [])))))) t m) ?_ ?_
      · refine wc_if (c := (z6 == 1)) rfl (fun d41 => ?_) (fun d41 => ?_)
        · have h := br_t h d41
          revert h
          refine opt_i fun y43 ey43 => ?_
          intro h
          refine wc_ops ?_
          refine wj_q _ (q_ld (p := [.ints .u64 5 (y29.1)]) rfl .here rfl) ?_
          refine wj_q _ (q_call (vs := [agg [.ints .u64 5 (y29.1)]]) (v := agg [.ints .u64 5 (y43)]) rfl (fun w hw => field_Neg_spec (r := y43) (p0 := y29.1) ey43 )) ?_
          refine wj_e (ef_st (q := [.ints .u64 5 (y43)]) rfl rfl rfl rfl rfl .here ?_)
          refine wj_nil ?_
          exact ⟨y43, h, ⟨⟨rfl, rfl, rfl, rfl, trivial⟩, (.one .here (.one .here (.one .here (.one .here (.one .here (.one .here .nil))))))⟩⟩
        · have h := br_f h d41
          refine wc_skip ?_
          exact ⟨y29.1, h, ⟨⟨rfl, rfl, rfl, rfl, trivial⟩, (.one .here (.one .here (.one .here (.one .here (.one .here (.one .here .nil))))))⟩⟩
      · rintro t m ⟨a39, h, hF⟩
        refine wc_fit hF ?_
        clear hF
        subst qk40
        refine wc_seq ?_
        revert h
        refine opt_i fun y45 ey45 => ?_
        intro h
        refine wc_draw ?_
        refine ws_q1 _ (q_ld (p := [.ints .u64 5 (a39)]) rfl .here rfl) ?_
        refine ws_q1 _ (q_ld (p := [.ints .u64 5 (y16)]) rfl (.there (.there (.there .here))) rfl) ?_
        refine ws_q1 _ (q_ld (p := [.ints .u64 5 (y22)]) rfl (.there .here) rfl) ?_
        refine ws_q1 _ (q_ld (p := [.ints .u64 5 (a39)]) rfl .here rfl) ?_
        refine ws_q1 _ (q_ld (p := [.ints .u64 5 (y16)]) rfl (.there (.there (.there .here))) rfl) ?_
        refine ws_p1 _ (q_call (vs := [agg [.ints .u64 5 (a39)], agg [.ints .u64 5 (y16)]]) (v := agg [.ints .u64 5 (y45)]) rfl (fun w hw => field_Mul_spec (r := y45) (p0 := a39) (p1 := y16) ey45 )) ?_
        refine ws_p1 _ (q_bd (q := [.ints .u64 5 (a39), .ints .u64 5 (y16), .ints .u64 5 (y22), .ints .u64 5 (y45)]) (.agg rfl rfl rfl (.agg rfl rfl rfl (.agg rfl rfl rfl (.agg rfl rfl rfl BdR.nil))))) ?_
        refine ws_eL rfl (ef_st (q := [.ints .u64 5 (a39), .ints .u64 5 (y16), .ints .u64 5 (y22), .ints .u64 5 (y45)]) rfl rfl rfl rfl rfl (.there (.there (.there (.there .here)))) ?_)
        refine ws_p1 _ (q_mv rfl) ?_
        refine ws_nil ?_
        refine wc_ret ?_
        revert h; refine ret_i fun h => ?_
        subst h
        exact ⟨_, (.cons (.agg rfl (.there (.there (.there (.there .here)))) rfl) (.cons (.tmp rfl) .nil)), rfl⟩
/- farebox/scalar.minus -/
def scalar_minus_b1 (p1 : List Int) (k57 : (Int) → (List Int) → Option ((List Int) × Int)) (k89 : (Int) → (Int) → (List Int) → Option ((List Int) × Int)) (i86 : Int) (i87 : Int) (a88 : List Int) : Option ((List Int) × Int) :=
 br ((decide (i87 < 4))) (
 chk (inB i87 4) <|
 chk (inB i87 4) <|
 bnd (a88.getD (i87).toNat 0) fun z97 =>
 bnd (p1.getD (i87).toNat 0) fun z98 =>
 chk (subOk z97 z98 i86) <|
 bnd (subLo z97 z98 i86) fun z100 =>
 bnd (subHi z97 z98 i86) fun z101 =>
 chk (inB i87 4) <|
 bnd (setD a88 (i87).toNat z100) fun l103 =>
 bnd (IntKind.wrap .i64 (i87 + 1)) fun z105 =>
 k89 z101 z105 l103
 ) (
 k57 i86 a88
 )
def scalar_minus_l1 (p1 : List Int) (k57 : (Int) → (List Int) → Option ((List Int) × Int)) : Nat → (Int) → (Int) → (List Int) → Option ((List Int) × Int)
  | 0, _, _, _ => none
  | n + 1, i86, i87, a88 => scalar_minus_b1 p1 k57 (scalar_minus_l1 p1 k57 n) i86 i87 a88
def scalar_minus (p0 : List Int) (p1 : List Int) : Option ((List Int) × Int) :=
 jn (fun (i55 : Int) (a56 : List Int) => some (a56, i55)) fun k57 => scalar_minus_l1 p1 k57 big 0 0 p0
theorem scalar_minus_spec {W : World} {r : (List Int) × Int} {p0 : List Int} {p1 : List Int} (h : scalar_minus p0 p1 = some r)  :
    Calls Tryd.prog 43 [agg [.ints .u64 4 (p0)], agg [.ints .u64 4 (p1)]].toArray W (ret1 W (.tuple #[agg [.ints .u64 4 (r.1)], .int .u64 (r.2)])) := by
  unfold scalar_minus at h
  refine calls_val mo ok43 rfl ?_
  refine wc_seq ?_
  refine wc_ops ?_
  refine wj_e (ef_bx (s := [.ints .u64 4 (p0)]) rfl fun b2 hb2 => ?_)
  refine wj_e (ef_bx (s := [.ints .u64 4 (p1)]) rfl fun b3 hb3 => ?_)
  refine wj_e (ef_al fun b4 hb4 => ?_)
  refine wj_q _ (q_mv rfl) ?_
  refine wj_nil ?_
  refine wc_seq ?_
  refine wc_ops ?_
  refine wj_q _ (q_mv rfl) ?_
  refine wj_nil ?_
  refine wc_seq ?_
  refine wc_seq ?_
  refine wc_ops ?_
  refine wj_q _ (q_mv rfl) ?_
  refine wj_nil ?_
  revert h
  refine jn_i fun k57 qk57 => ?_
  intro h
  refine wc_mono2 (G := fun t m => ∃ (i55 : Int) (a56 : List Int), k57 i55 a56 = some r ∧ Fit [(2, .pointer (some ⟨b2, 0, none⟩)), (4, .pointer (some ⟨b4, 0, none⟩)), (6, .int .u64 (i55))] (ck b4 93 [.ints .u64 4 ((List.replicate 4 0))] :: (ck b3 93 [.ints .u64 4 (p1)] :: (ck b2 93 [.ints .u64 4 (a56)] :: []))) t m) ?_ ?_
  · refine wc_block ?_
    refine wc_loopJ (fun n90 t m => ∃ (i86 : Int) (i87 : Int) (a88 : List Int), scalar_minus_l1 p1 k57 n90 i86 i87 a88 = some r ∧ Fit [(2, .pointer (some ⟨b2, 0, none⟩)), (3, .pointer (some ⟨b3, 0, none⟩)), (4, .pointer (some ⟨b4, 0, none⟩)), (6, .int .u64 (i86)), (8, .int .i64 (i87))] (ck b4 93 [.ints .u64 4 ((List.replicate 4 0))] :: (ck b3 93 [.ints .u64 4 (p1)] :: (ck b2 93 [.ints .u64 4 (a88)] :: []))) t m) big ?_ ?_
    · exact ⟨0, 0, p0, h, ⟨⟨rfl, rfl, rfl, rfl, rfl, trivial⟩, (.one .here (.one .here (.one .here .nil)))⟩⟩
    · rintro n90 t m ⟨i86, i87, a88, h, hF⟩
      refine wc_fit hF ?_
      clear hF
      rcases n90 with _ | n90
      · exact none_i h
      have h : scalar_minus_b1 p1 k57 (scalar_minus_l1 p1 k57 n90) i86 i87 a88 = some r := h
      unfold scalar_minus_b1 at h
      obtain ⟨k89, qk89⟩ : ∃ k, k = scalar_minus_l1 p1 k57 n90 := ⟨_, rfl⟩
      try rw [← qk89] at h
      refine wc_seq ?_
      refine wc_ops ?_
      refine wj_q _ (q_bin rfl rfl rfl) ?_
      refine wj_nil ?_
      refine wc_seq ?_
      refine wc_if (c := (decide (i87 < 4))) rfl (fun d92 => ?_) (fun d92 => ?_)
      · have h := br_t h d92
        refine wc_skip ?_
        refine wc_seq ?_
        refine wc_block ?_
        refine wc_seq ?_
        refine wc_ops ?_
        refine wj_q _ (q_mv rfl) ?_
        refine wj_q _ (q_mv rfl) ?_
        refine wj_nil ?_
        revert h
        refine chk_i fun c95 => ?_
        refine chk_i fun c96 => ?_
        refine bnd_i fun z97 ez97 => ?_
        refine bnd_i fun z98 ez98 => ?_
        refine chk_i fun c99 => ?_
        refine bnd_i fun z100 ez100 => ?_
        refine bnd_i fun z101 ez101 => ?_
        refine chk_i fun c102 => ?_
        refine bnd_i fun l103 el103 => ?_
        intro h
        refine wc_draw ?_
        refine ws_p1 _ (q_mv rfl) ?_
        refine ws_p1 _ (q_mv rfl) ?_
        refine ws_p1 _ (q_ia rfl rfl (inB_z c95)) ?_
        refine ws_p1 _ (q_mv rfl) ?_
        refine ws_p1 _ (q_ia rfl rfl (inB_z c96)) ?_
        refine ws_p1 _ (q_mv rfl) ?_
        refine ws_q1 _ (iz ez97 (q_ldi (base := 0) rfl (.there (.there .here)) rfl (inB_n c95))) ?_
        refine ws_q1 _ (iz ez98 (q_ldi (base := 0) rfl (.there .here) rfl (inB_n c96))) ?_
        refine ws_p1 _ (q_xcall rfl ext_sub (xsub ez100 ez101 c99)) ?_
        refine ws_p1 _ (q_mv rfl) ?_
        refine ws_p1 _ (q_ext rfl rfl) ?_
        refine ws_p1 _ (q_ext rfl rfl) ?_
        refine ws_p1 _ (q_ia rfl rfl (inB_z c102)) ?_
        refine ws_eL rfl (ef_stiz (q := [.ints .u64 4 (l103)]) (base := 0) el103 rfl rfl rfl (inB_n c102) rfl (.there (.there .here)) ?_)
        refine ws_p1 _ (q_mv rfl) ?_
        refine ws_nil ?_
        revert h
        refine bnd_i fun z105 ez105 => ?_
        intro h
        refine wc_ops ?_
        refine wj_q _ (iz ez105 (q_bin rfl rfl rfl)) ?_
        refine wj_q _ (q_mv rfl) ?_
        refine wj_nil ?_
        rw [qk89] at h
        exact ⟨n90, Nat.lt_succ_self _, z101, z105, l103, h, ⟨⟨rfl, rfl, rfl, rfl, rfl, trivial⟩, (.one .here (.one .here (.one .here .nil)))⟩⟩
      · have h := br_f h d92
        refine wc_exit _ rfl ?_
        exact ⟨i86, a88, h, ⟨⟨rfl, rfl, rfl, trivial⟩, (.one .here (.one .here (.one .here .nil)))⟩⟩
  · rintro t m ⟨i55, a56, h, hF⟩
    refine wc_fit hF ?_
    clear hF
    subst qk57
    refine wc_seq ?_
    refine wc_ops ?_
    refine wj_q _ (q_ld (p := [.ints .u64 4 (a56)]) rfl (.there (.there .here)) rfl) ?_
    refine wj_q _ (q_mv rfl) ?_
    refine wj_e (ef_st (q := [.ints .u64 4 (a56)]) rfl rfl rfl rfl rfl .here ?_)
    refine wj_q _ (q_mv rfl) ?_
    refine wj_nil ?_
    refine wc_ret ?_
    revert h; refine ret_i fun h => ?_
    subst h
    exact ⟨_, (.cons (.agg rfl .here rfl) (.cons (.tmp rfl) .nil)), rfl⟩
/- farebox/bits.width[uint64] -/
def bits_width_uint64_b1 (k29 : (Int) → Option (Int)) (k45 : (Int) → (Int) → Option (Int)) (i43 : Int) (i44 : Int) : Option (Int) :=
 br ((i44 != 0)) (
 bnd (IntKind.wrap .i64 (i43 + 1)) fun z50 =>
 bnd (shrV .u64 i44 1) fun z52 =>
 k45 z50 z52
 ) (
 k29 i43
 )
def bits_width_uint64_l1 (k29 : (Int) → Option (Int)) : Nat → (Int) → (Int) → Option (Int)
  | 0, _, _ => none
  | n + 1, i43, i44 => bits_width_uint64_b1 k29 (bits_width_uint64_l1 k29 n) i43 i44
def bits_width_uint64  : Option (Int) :=
 bnd (bitsV .xor .u64 18446744073709551615 0) fun z4 =>
 jn (fun (i28 : Int) => some i28) fun k29 => bits_width_uint64_l1 k29 big 0 z4
theorem bits_width_uint64_spec {W : World} {r : Int} (h : bits_width_uint64  = some r)  :
    Calls Tryd.prog 103 [].toArray W (ret1 W (.int .i64 (r))) := by
  unfold bits_width_uint64 at h
  refine calls_val mo ok103 rfl ?_
  refine wc_seq ?_
  refine wc_ops ?_
  refine wj_q _ (q_mv rfl) ?_
  refine wj_nil ?_
  refine wc_seq ?_
  refine wc_ops ?_
  refine wj_q _ (q_mv rfl) ?_
  refine wj_nil ?_
  refine wc_seq ?_
  refine wc_seq ?_
  revert h
  refine bnd_i fun z4 ez4 => ?_
  intro h
  refine wc_ops ?_
  refine wj_q _ (q_conv rfl) ?_
  refine wj_q _ (iz ez4 (q_un rfl rfl)) ?_
  refine wj_q _ (q_mv rfl) ?_
  refine wj_nil ?_
  revert h
  refine jn_i fun k29 qk29 => ?_
  intro h
  refine wc_mono2 (G := fun t m => ∃ (i28 : Int), k29 i28 = some r ∧ Fit [(1, .int .i64 (i28))] [] t m) ?_ ?_
  · refine wc_block ?_
    refine wc_loopJ (fun n46 t m => ∃ (i43 : Int) (i44 : Int), bits_width_uint64_l1 k29 n46 i43 i44 = some r ∧ Fit [(1, .int .i64 (i43)), (2, .int .u64 (i44))] [] t m) big ?_ ?_
    · exact ⟨0, z4, h, ⟨⟨rfl, rfl, trivial⟩, .nil⟩⟩
    · rintro n46 t m ⟨i43, i44, h, hF⟩
      refine wc_fit hF ?_
      clear hF
      rcases n46 with _ | n46
      · exact none_i h
      have h : bits_width_uint64_b1 k29 (bits_width_uint64_l1 k29 n46) i43 i44 = some r := h
      unfold bits_width_uint64_b1 at h
      obtain ⟨k45, qk45⟩ : ∃ k, k = bits_width_uint64_l1 k29 n46 := ⟨_, rfl⟩
      try rw [← qk45] at h
      refine wc_seq ?_
      refine wc_seq ?_
      refine wc_ops ?_
      refine wj_q _ (q_mv rfl) ?_
      refine wj_q _ (q_bin rfl rfl rfl) ?_
      refine wj_nil ?_
      refine wc_if (c := (i44 != 0)) rfl (fun d48 => ?_) (fun d48 => ?_)
      · have h := br_t h d48
        refine wc_skip ?_
        refine wc_seq ?_
        refine wc_block ?_
        revert h
        refine bnd_i fun z50 ez50 => ?_
        intro h
        refine wc_ops ?_
        refine wj_q _ (q_mv rfl) ?_
        refine wj_q _ (iz ez50 (q_bin rfl rfl rfl)) ?_
        refine wj_q _ (q_mv rfl) ?_
        refine wj_nil ?_
        revert h
        refine bnd_i fun z52 ez52 => ?_
        intro h
        refine wc_ops ?_
        refine wj_q _ (q_mv rfl) ?_
        refine wj_q _ (iz ez52 (q_shr rfl rfl (by decide))) ?_
        refine wj_q _ (q_mv rfl) ?_
        refine wj_nil ?_
        rw [qk45] at h
        exact ⟨n46, Nat.lt_succ_self _, z50, z52, h, ⟨⟨rfl, rfl, trivial⟩, .nil⟩⟩
      · have h := br_f h d48
        refine wc_exit _ rfl ?_
        exact ⟨i43, h, ⟨⟨rfl, trivial⟩, .nil⟩⟩
  · rintro t m ⟨i28, h, hF⟩
    refine wc_fit hF ?_
    clear hF
    subst qk29
    refine wc_seq ?_
    refine wc_ops ?_
    refine wj_q _ (q_mv rfl) ?_
    refine wj_q _ (q_mv rfl) ?_
    refine wj_nil ?_
    refine wc_ret ?_
    revert h; refine ret_i fun h => ?_
    subst h
    exact ⟨_, (.cons (.tmp rfl) .nil), rfl⟩
/- farebox/bits.piece[uint64] -/
def bits_piece_uint64 (p0 : List Int) (p1 : Int) : Option ((Bool × List Int)) :=
 opt (bits_width_uint64) fun y3 =>
 bnd (IntKind.wrap .i64 (Int.tdiv y3 8)) fun z4 =>
 br (((decide (p1 < 0)) || (decide (p1 > IntKind.wrap .i64 ((p0.length : Int) - z4))))) (
 some (true, [])
 ) (
 bnd (IntKind.wrap .i64 (p1 + z4)) fun z9 =>
 chk (cutB p1 z9 p0.length) <|
 chk (decide (0 < ((p0.drop (p1).toNat).take ((z9).toNat - (p1).toNat)).length)) <|
 some (false, ((p0.drop (p1).toNat).take ((z9).toNat - (p1).toNat)))
 )
theorem bits_piece_uint64_spec {W : World} {r : (Bool × List Int)} {p0 : List Int} {p1 : Int} {v0 : Value} (h : bits_piece_uint64 p0 p1 = some r) (A0 : RdSl (El.int .u8) W v0 p0) :
    Calls Tryd.prog 97 [v0, .int .i64 (p1)].toArray W (retS W [] (fun v Ms => ∃ (u0 : Value), v = u0 ∧ Ms = [] ∧ Shp u0 (r.2).length ∧ isNilV u0 = r.1 ∧ (∀ W, RdSl (El.int .u8) W v0 p0 → RdSl (El.int .u8) W u0 r.2))) := by
  unfold bits_piece_uint64 at h
  refine calls_memT mo ok97 rfl (sat0 _) ?_
  refine wc_seq ?_
  refine wc_ops ?_
  refine wj_q _ (q_mv rfl) ?_
  refine wj_nil ?_
  refine wc_seq ?_
  revert h
  refine opt_i fun y3 ey3 => ?_
  refine bnd_i fun z4 ez4 => ?_
  intro h
  refine wc_ops ?_
  refine wj_q _ (q_call (vs := []) (v := .int .i64 (y3)) rfl (fun w hw => bits_width_uint64_spec (r := y3) ey3 )) ?_
  refine wj_q _ (iz ez4 (q_quo rfl rfl (by decide))) ?_
  refine wj_q _ (q_mv rfl) ?_
  refine wj_nil ?_
  refine wc_seq ?_
  refine wc_seq ?_
  refine wc_ops ?_
  refine wj_q _ (q_mv rfl) ?_
  refine wj_q _ (q_bin rfl rfl rfl) ?_
  refine wj_q _ (q_mv rfl) ?_
  refine wj_or rfl rfl rfl (fun hg1 => qj_g rfl _ (q_mv rfl) (qj_g rfl _ (q_mv rfl) (qj_g rfl _ (q_lenP rfl (Shp.rd A0)) (qj_g rfl _ (q_mv rfl) (qj_g rfl _ (iz rfl (q_bin rfl rfl rfl)) (qj_g rfl _ (q_bin rfl rfl rfl) (qj_nil))))))) (fun hg1 => rfl) rfl ?_
  refine wj_nil ?_
  refine wc_if (c := ((decide (p1 < 0)) || (decide (p1 > IntKind.wrap .i64 ((p0.length : Int) - z4))))) rfl (fun d6 => ?_) (fun d6 => ?_)
  · have h := br_t h d6
    refine wc_seq ?_
    refine wc_ops ?_
    refine wj_q _ (q_mv rfl) ?_
    refine wj_nil ?_
    refine wc_ret ?_
    revert h; refine ret_i fun h => ?_
    subst h
    exact ⟨_, _, (.cons (.tmp rfl) .nil), .nil, ⟨_, rfl, ⟨(.slice none 0 0), rfl, rfl, Shp.nil, rfl, view_nil⟩⟩⟩
  · have h := br_f h d6
    refine wc_skip ?_
    refine wc_seq ?_
    revert h
    refine bnd_i fun z9 ez9 => ?_
    refine chk_i fun c10 => ?_
    intro h
    refine wc_ops ?_
    refine wj_q _ (q_mv rfl) ?_
    refine wj_q _ (q_mv rfl) ?_
    refine wj_q _ (q_mv rfl) ?_
    refine wj_q _ (q_mv rfl) ?_
    refine wj_q _ (iz ez9 (q_bin rfl rfl rfl)) ?_
    refine wj_q _ (q_slsP (lz := p1) (hz := z9) rfl (Shp.rd A0) (.yes rfl) (.yes rfl) c10) ?_
    refine wj_q _ (q_mv rfl) ?_
    refine wj_nil ?_
    refine wc_ret ?_
    revert h
    refine chk_i fun c11 => ?_
    intro h
    revert h; refine ret_i fun h => ?_
    subst h
    exact ⟨_, _, (.cons (.tmp rfl) .nil), .nil, ⟨_, rfl, ⟨(cutSl 1 v0 (p1).toNat (z9).toNat), rfl, rfl, (Shp.cut (Shp.rd A0) (lz := p1) (hz := z9) c10), (Shp.notnil (Shp.cut (Shp.rd A0) (lz := p1) (hz := z9) c10) c11), (fun W A0 => (rdcut A0 (lz := p1) (hz := z9) c10))⟩⟩⟩
/- farebox/bits.LoadLE[uint64] -/
def bits_LoadLE_uint64_b1 (y4 : (Bool × List Int)) (k55 : (Int) → Option (Int × Bool)) (k83 : (Int) → (Int) → Option (Int × Bool)) (i81 : Int) (i82 : Int) : Option (Int × Bool) :=
 br ((decide (i82 < (y4.2.length : Int)))) (
 chk (inB i82 y4.2.length) <|
 bnd (y4.2.getD (i82).toNat 0) fun z89 =>
 bnd (IntKind.wrap .u64 z89) fun z91 =>
 bnd (IntKind.wrap .i64 (8 * i82)) fun z92 =>
 chk (decide (0 ≤ z92)) <|
 bnd (shlV .u64 z91 z92) fun z94 =>
 bnd (bitsV .or .u64 i81 z94) fun z95 =>
 bnd (IntKind.wrap .i64 (i82 + 1)) fun z97 =>
 k83 z95 z97
 ) (
 k55 i81
 )
def bits_LoadLE_uint64_l1 (y4 : (Bool × List Int)) (k55 : (Int) → Option (Int × Bool)) : Nat → (Int) → (Int) → Option (Int × Bool)
  | 0, _, _ => none
  | n + 1, i81, i82 => bits_LoadLE_uint64_b1 y4 k55 (bits_LoadLE_uint64_l1 y4 k55 n) i81 i82
def bits_LoadLE_uint64 (p0 : List Int) (p1 : Int) : Option (Int × Bool) :=
 opt (bits_piece_uint64 p0 p1) fun y4 =>
 jn (fun (i54 : Int) => some (i54, (!y4.1))) fun k55 => bits_LoadLE_uint64_l1 y4 k55 big 0 0
theorem bits_LoadLE_uint64_spec {W : World} {r : Int × Bool} {p0 : List Int} {p1 : Int} {v0 : Value} (h : bits_LoadLE_uint64 p0 p1 = some r) (A0 : RdSl (El.int .u8) W v0 p0) :
    Calls Tryd.prog 80 [v0, .int .i64 (p1)].toArray W (ret1 W (.tuple #[.int .u64 (r.1), .bool (r.2)])) := by
  unfold bits_LoadLE_uint64 at h
  refine calls_val mo ok80 rfl ?_
  refine wc_seq ?_
  refine wc_ops ?_
  refine wj_q _ (q_mv rfl) ?_
  refine wj_q _ (q_mv rfl) ?_
  refine wj_nil ?_
  refine wc_seq ?_
  refine wc_ops ?_
  refine wj_q _ (q_mv rfl) ?_
  refine wj_nil ?_
  refine wc_seq ?_
  revert h
  refine opt_i fun y4 ey4 => ?_
  intro h
  refine wc_ops ?_
  refine wj_q _ (q_mv rfl) ?_
  refine wj_q _ (q_mv rfl) ?_
  refine wj_e (ef_callS0 rfl (fun w hw => bits_piece_uint64_spec (r := y4) (p0 := p0) (p1 := p1) ey4 ((rd_arg A0 apart0) w hw)) fun v5 Msv5 R6 => ?_)
  obtain ⟨_, rfl, rfl, P10, N8, H9⟩ := R6
  refine wj_q _ (q_mv rfl) ?_
  refine wj_nil ?_
  refine wc_seq ?_
  refine wc_seq ?_
  refine wc_ops ?_
  refine wj_q _ (q_mv rfl) ?_
  refine wj_q _ (q_lenP rfl P10) ?_
  refine wj_q _ (q_mv rfl) ?_
  refine wj_nil ?_
  revert h
  refine jn_i fun k55 qk55 => ?_
  intro h
  refine wc_mono2 (G := fun t m => ∃ (i54 : Int), k55 i54 = some r ∧ Fit [(6, .int .u64 (i54)), (7, v5)] [] t m) ?_ ?_
  · refine wc_block ?_
    refine wc_loopJ (fun n84 t m => ∃ (i81 : Int) (i82 : Int), bits_LoadLE_uint64_l1 y4 k55 n84 i81 i82 = some r ∧ Fit [(6, .int .u64 (i81)), (7, v5), (13, v5), (14, .int .i64 ((y4.2.length : Int))), (15, .int .i64 (i82))] [] t m) big ?_ ?_
    · exact ⟨0, 0, h, ⟨⟨rfl, rfl, rfl, rfl, rfl, trivial⟩, .nil⟩⟩
    · rintro n84 t m ⟨i81, i82, h, hF⟩
      refine wc_fit hF ?_
      clear hF
      rcases n84 with _ | n84
      · exact none_i h
      have h : bits_LoadLE_uint64_b1 y4 k55 (bits_LoadLE_uint64_l1 y4 k55 n84) i81 i82 = some r := h
      unfold bits_LoadLE_uint64_b1 at h
      obtain ⟨k83, qk83⟩ : ∃ k, k = bits_LoadLE_uint64_l1 y4 k55 n84 := ⟨_, rfl⟩
      try rw [← qk83] at h
      refine wc_seq ?_
      refine wc_ops ?_
      refine wj_q _ (q_bin rfl rfl rfl) ?_
      refine wj_nil ?_
      refine wc_seq ?_
      refine wc_if (c := (decide (i82 < (y4.2.length : Int)))) rfl (fun d86 => ?_) (fun d86 => ?_)
      · have h := br_t h d86
        refine wc_skip ?_
        refine wc_seq ?_
        refine wc_block ?_
        refine wc_seq ?_
        revert h
        refine chk_i fun c88 => ?_
        refine bnd_i fun z89 ez89 => ?_
        intro h
        refine wc_ops ?_
        refine wj_q _ (q_mv rfl) ?_
        refine wj_q _ (q_iasP rfl rfl P10 c88) ?_
        refine wj_q _ (iz ez89 (q_ldM10 (E := (El.int .u8)) (s := [.one (.int .u8 (y4.2.getD (i82).toNat 0))]) rfl (rd_view H9 (rd_arg A0 apart0)) (inB_n c88) rfl rfl)) ?_
        refine wj_q _ (q_mv rfl) ?_
        refine wj_q _ (q_mv rfl) ?_
        refine wj_nil ?_
        revert h
        refine bnd_i fun z91 ez91 => ?_
        refine bnd_i fun z92 ez92 => ?_
        refine chk_i fun c93 => ?_
        refine bnd_i fun z94 ez94 => ?_
        refine bnd_i fun z95 ez95 => ?_
        intro h
        refine wc_ops ?_
        refine wj_q _ (q_mv rfl) ?_
        refine wj_q _ (q_mv rfl) ?_
        refine wj_q _ (iz ez91 (q_conv rfl)) ?_
        refine wj_q _ (q_mv rfl) ?_
        refine wj_q _ (iz ez92 (q_bin rfl rfl rfl)) ?_
        refine wj_q _ (iz ez94 (q_shl rfl rfl (of_decide_eq_true c93))) ?_
        refine wj_q _ (iz ez95 (q_bin rfl rfl rfl)) ?_
        refine wj_q _ (q_mv rfl) ?_
        refine wj_nil ?_
        revert h
        refine bnd_i fun z97 ez97 => ?_
        intro h
        refine wc_ops ?_
        refine wj_q _ (iz ez97 (q_bin rfl rfl rfl)) ?_
        refine wj_q _ (q_mv rfl) ?_
        refine wj_nil ?_
        rw [qk83] at h
        exact ⟨n84, Nat.lt_succ_self _, z95, z97, h, ⟨⟨rfl, rfl, rfl, rfl, rfl, trivial⟩, .nil⟩⟩
      · have h := br_f h d86
        refine wc_exit _ rfl ?_
        exact ⟨i81, h, ⟨⟨rfl, rfl, trivial⟩, .nil⟩⟩
  · rintro t m ⟨i54, h, hF⟩
    refine wc_fit hF ?_
    clear hF
    subst qk55
    refine wc_seq ?_
    refine wc_ops ?_
    refine wj_q _ (q_mv rfl) ?_
    refine wj_q _ (q_mv rfl) ?_
    refine wj_q _ (q_isnP rfl P10 N8) ?_
    refine wj_q _ (q_mv rfl) ?_
    refine wj_q _ (q_mv rfl) ?_
    refine wj_nil ?_
    refine wc_ret ?_
    revert h; refine ret_i fun h => ?_
    subst h
    exact ⟨_, (.cons (.tmp rfl) (.cons (.tmp rfl) .nil)), rfl⟩
/- farebox/scalar.load -/
def scalar_load_b1 (p0 : List Int) (k40 : (List Int) → Option ((List Int))) (k61 : (Int) → (List Int) → Option ((List Int))) (i59 : Int) (a60 : List Int) : Option ((List Int)) :=
 br ((decide (i59 < 4))) (
 bnd (IntKind.wrap .i64 (8 * i59)) fun z67 =>
 opt (bits_LoadLE_uint64 (tk p0 0 32) z67) fun y68 =>
 chk (inB i59 4) <|
 bnd (setD a60 (i59).toNat y68.1) fun l70 =>
 bnd (IntKind.wrap .i64 (i59 + 1)) fun z72 =>
 k61 z72 l70
 ) (
 k40 a60
 )
def scalar_load_l1 (p0 : List Int) (k40 : (List Int) → Option ((List Int))) : Nat → (Int) → (List Int) → Option ((List Int))
  | 0, _, _ => none
  | n + 1, i59, a60 => scalar_load_b1 p0 k40 (scalar_load_l1 p0 k40 n) i59 a60
def scalar_load (p0 : List Int) : Option ((List Int)) :=
 jn (fun (a39 : List Int) => some a39) fun k40 => scalar_load_l1 p0 k40 big 0 (List.replicate 4 0)
theorem scalar_load_spec {W : World} {r : (List Int)} {p0 : List Int} (h : scalar_load p0 = some r)  :
    Calls Tryd.prog 44 [agg [.ints .u8 32 (p0)]].toArray W (ret1 W (agg [.ints .u64 4 (r)])) := by
  unfold scalar_load at h
  refine calls_val mo ok44 rfl ?_
  refine wc_seq ?_
  refine wc_ops ?_
  refine wj_e (ef_bx (s := [.ints .u8 32 (p0)]) rfl fun b2 hb2 => ?_)
  refine wj_e (ef_al fun b3 hb3 => ?_)
  refine wj_nil ?_
  refine wc_seq ?_
  refine wc_ops ?_
  refine wj_e (ef_al fun b5 hb5 => ?_)
  refine wj_nil ?_
  refine wc_seq ?_
  refine wc_seq ?_
  refine wc_ops ?_
  refine wj_q _ (q_mv rfl) ?_
  refine wj_nil ?_
  revert h
  refine jn_i fun k40 qk40 => ?_
  intro h
  refine wc_mono2 (G := fun t m => ∃ (a39 : List Int), k40 a39 = some r ∧ Fit [(2, .pointer (some ⟨b3, 0, none⟩)), (3, .pointer (some ⟨b5, 0, none⟩))] (ck b5 93 [.ints .u64 4 (a39)] :: (ck b3 93 [.ints .u64 4 ((List.replicate 4 0))] :: (ck b2 63 [.ints .u8 32 (p0)] :: []))) t m) ?_ ?_
  · refine wc_block ?_
    refine wc_loopJ (fun n62 t m => ∃ (i59 : Int) (a60 : List Int), scalar_load_l1 p0 k40 n62 i59 a60 = some r ∧ Fit [(1, .pointer (some ⟨b2, 0, none⟩)), (2, .pointer (some ⟨b3, 0, none⟩)), (3, .pointer (some ⟨b5, 0, none⟩)), (5, .int .i64 (i59))] (ck b5 93 [.ints .u64 4 (a60)] :: (ck b3 93 [.ints .u64 4 ((List.replicate 4 0))] :: (ck b2 63 [.ints .u8 32 (p0)] :: []))) t m) big ?_ ?_
    · exact ⟨0, (List.replicate 4 0), h, ⟨⟨rfl, rfl, rfl, rfl, trivial⟩, (.one .here (.one .here (.one .here .nil)))⟩⟩
    · rintro n62 t m ⟨i59, a60, h, hF⟩
      refine wc_fit hF ?_
      clear hF
      rcases n62 with _ | n62
      · exact none_i h
      have h : scalar_load_b1 p0 k40 (scalar_load_l1 p0 k40 n62) i59 a60 = some r := h
      unfold scalar_load_b1 at h
      obtain ⟨k61, qk61⟩ : ∃ k, k = scalar_load_l1 p0 k40 n62 := ⟨_, rfl⟩
      try rw [← qk61] at h
      refine wc_seq ?_
      refine wc_ops ?_
      refine wj_q _ (q_bin rfl rfl rfl) ?_
      refine wj_nil ?_
      refine wc_seq ?_
      refine wc_if (c := (decide (i59 < 4))) rfl (fun d64 => ?_) (fun d64 => ?_)
      · have h := br_t h d64
        refine wc_skip ?_
        refine wc_seq ?_
        refine wc_block ?_
        refine wc_seq ?_
        refine wc_ops ?_
        refine wj_q _ (q_mv rfl) ?_
        refine wj_q _ (q_mv rfl) ?_
        refine wj_nil ?_
        revert h
        refine bnd_i fun z67 ez67 => ?_
        refine opt_i fun y68 ey68 => ?_
        refine chk_i fun c69 => ?_
        refine bnd_i fun l70 el70 => ?_
        intro h
        refine wc_ops ?_
        refine wj_q _ (q_mv rfl) ?_
        refine wj_q _ (q_sla rfl .no .no .no (by simp) (by decide)) ?_
        refine wj_q _ (q_mv rfl) ?_
        refine wj_q _ (iz ez67 (q_bin rfl rfl rfl)) ?_
        refine wj_q _ (q_call (vs := [(.slice (some (slAddr b2 0 0 32 1)) (32 - 0) (32 - 0)), .int .i64 (z67)]) (v := .tuple #[.int .u64 (y68.1), .bool (y68.2)]) rfl (fun w hw => bits_LoadLE_uint64_spec (r := y68) (p0 := (tk p0 0 32)) (p1 := z67) ey68 ((rd_blk_i (s := [.ints .u8 32 (p0)]) (N := 32) (k := .u8) (base := 0) (lo := 0) (hi := 32) (mz := 32) (.there (.there .here)) rfl (by decide)) w hw))) ?_
        refine wj_q _ (q_mv rfl) ?_
        refine wj_q _ (q_ext rfl rfl) ?_
        refine wj_q _ (q_ext rfl rfl) ?_
        refine wj_q _ (q_ia rfl rfl (inB_z c69)) ?_
        refine wj_e (ef_stiz (q := [.ints .u64 4 (l70)]) (base := 0) el70 rfl rfl rfl (inB_n c69) rfl .here ?_)
        refine wj_nil ?_
        revert h
        refine bnd_i fun z72 ez72 => ?_
        intro h
        refine wc_ops ?_
        refine wj_q _ (iz ez72 (q_bin rfl rfl rfl)) ?_
        refine wj_q _ (q_mv rfl) ?_
        refine wj_nil ?_
        rw [qk61] at h
        exact ⟨n62, Nat.lt_succ_self _, z72, l70, h, ⟨⟨rfl, rfl, rfl, rfl, trivial⟩, (.one .here (.one .here (.one .here .nil)))⟩⟩
      · have h := br_f h d64
        refine wc_exit _ rfl ?_
        exact ⟨a60, h, ⟨⟨rfl, rfl, trivial⟩, (.one .here (.one .here (.one .here .nil)))⟩⟩
  · rintro t m ⟨a39, h, hF⟩
    refine wc_fit hF ?_
    clear hF
    subst qk40
    refine wc_seq ?_
    refine wc_ops ?_
    refine wj_q _ (q_ld (p := [.ints .u64 4 (a39)]) rfl .here rfl) ?_
    refine wj_e (ef_st (q := [.ints .u64 4 (a39)]) rfl rfl rfl rfl rfl (.there .here) ?_)
    refine wj_nil ?_
    refine wc_ret ?_
    revert h; refine ret_i fun h => ?_
    subst h
    exact ⟨_, (.cons (.agg rfl (.there .here) rfl) .nil), rfl⟩
/- farebox/scalar.Canonical -/
def scalar_Canonical (p0 : List Int) : Option (Bool) :=
 opt (scalar_load p0) fun y4 =>
 opt (scalar_minus y4 G_order) fun y5 =>
 some (y5.2 == 1)
theorem scalar_Canonical_spec {W : World} {r : Bool} {p0 : List Int} (h : scalar_Canonical p0 = some r) (hG : Globs W) :
    Calls Tryd.prog 19 [agg [.ints .u8 32 (p0)]].toArray W (ret1 W (.bool (r))) := by
  unfold scalar_Canonical at h
  refine calls_val mo ok19 rfl ?_
  refine wc_seq ?_
  refine wc_ops ?_
  refine wj_e (ef_bx (s := [.ints .u8 32 (p0)]) rfl fun b2 hb2 => ?_)
  refine wj_q _ (q_mv rfl) ?_
  refine wj_nil ?_
  refine wc_seq ?_
  revert h
  refine opt_i fun y4 ey4 => ?_
  refine opt_i fun y5 ey5 => ?_
  intro h
  refine wc_draw ?_
  refine ws_q1 _ (q_ld (p := [.ints .u8 32 (p0)]) rfl .here rfl) ?_
  refine ws_p1 _ (q_call (vs := [agg [.ints .u8 32 (p0)]]) (v := agg [.ints .u64 4 (y4)]) rfl (fun w hw => scalar_load_spec (r := y4) (p0 := p0) ey4 )) ?_
  refine ws_q1 _ (q_mem (o0 := 0) (off := 0) rfl (hG.g0) (by simp) rfl) ?_
  refine ws_p1 _ (q_call (vs := [agg [.ints .u64 4 (y4)], agg [.ints .u64 4 (G_order)]]) (v := .tuple #[agg [.ints .u64 4 (y5.1)], .int .u64 (y5.2)]) rfl (fun w hw => scalar_minus_spec (r := y5) (p0 := y4) (p1 := G_order) ey5 )) ?_
  refine ws_p1 _ (q_mv rfl) ?_
  refine ws_p1 _ (q_ext rfl rfl) ?_
  refine ws_p1 _ (q_ext rfl rfl) ?_
  refine ws_e1 (ef_al fun b6 hb6 => ⟨(by repeat (first | exact Sup.refl _ | apply Sup.cons | apply Sup.app)), ?_⟩)
  refine ws_eL rfl (ef_st (q := [.ints .u64 4 (y5.1)]) rfl rfl rfl rfl rfl .here ?_)
  refine ws_p1 _ (q_mv rfl) ?_
  refine ws_nil ?_
  refine wc_seq ?_
  refine wc_ops ?_
  refine wj_q _ (q_mv rfl) ?_
  refine wj_q _ (q_bin rfl rfl rfl) ?_
  refine wj_q _ (q_mv rfl) ?_
  refine wj_nil ?_
  refine wc_ret ?_
  revert h; refine ret_i fun h => ?_
  subst h
  exact ⟨_, (.cons (.tmp rfl) .nil), rfl⟩
/- farebox/sha512.New -/
structure sha512_Digest where
  gstate : List Int
  gheld : List Int
  ghave : Int
  glength : Int
def sha512_Digest_z : sha512_Digest := ⟨(List.replicate 8 0), (List.replicate 128 0), 0, 0⟩
def sha512_New  : Option (sha512_Digest) :=
 some (⟨G_first, (List.replicate 128 0), 0, 0⟩ : sha512_Digest)
theorem sha512_New_spec {W : World} {r : sha512_Digest} (h : sha512_New  = some r) (hG : Globs W) :
    Calls Tryd.prog 45 [].toArray W (retS W [] (fun v Ms => ∃ (b0 : Nat) (T0 : TypeId), v = .pointer (some ⟨b0, 0, none⟩) ∧ Ms = [.one (ck b0 T0 [.ints .u64 8 (r.gstate), .ints .u8 128 (r.gheld), .one (.int .i64 (r.ghave)), .one (.int .u64 (r.glength))])])) := by
  unfold sha512_New at h
  refine calls_memT mo ok45 rfl (sat0 _) ?_
  refine wc_seq ?_
  refine wc_ops ?_
  refine wj_q _ (q_mv rfl) ?_
  refine wj_nil ?_
  refine wc_seq ?_
  refine wc_ops ?_
  refine wj_q _ (q_mem (o0 := 0) (off := 0) rfl (hG.g1) (by simp) rfl) ?_
  refine wj_q _ (q_bd (q := [.ints .u64 8 (G_first), .ints .u8 128 ((List.replicate 128 0)), .one (.int .i64 (0)), .one (.int .u64 (0))]) (.agg rfl rfl rfl BdR.nil)) ?_
  refine wj_e (ef_bx (s := [.ints .u64 8 (G_first), .ints .u8 128 ((List.replicate 128 0)), .one (.int .i64 (0)), .one (.int .u64 (0))]) rfl fun b3 hb3 => ?_)
  refine wj_q _ (q_mv rfl) ?_
  refine wj_nil ?_
  refine wc_ret ?_
  revert h; refine ret_i fun h => ?_
  subst h
  exact ⟨_, _, (.cons (.tmp rfl) .nil), (.one .here .nil), ⟨_, rfl, ⟨b3, 138, rfl, rfl⟩⟩⟩
/- farebox/bits.LoadBE[uint64] -/
def bits_LoadBE_uint64_b1 (y4 : (Bool × List Int)) (k50 : (Int) → Option (Int × Bool)) (k75 : (Int) → (Int) → Option (Int × Bool)) (i73 : Int) (i74 : Int) : Option (Int × Bool) :=
 br ((decide (i74 < (y4.2.length : Int)))) (
 chk (inB i74 y4.2.length) <|
 bnd (y4.2.getD (i74).toNat 0) fun z81 =>
 bnd (shlV .u64 i73 8) fun z83 =>
 bnd (IntKind.wrap .u64 z81) fun z84 =>
 bnd (bitsV .or .u64 z83 z84) fun z85 =>
 bnd (IntKind.wrap .i64 (i74 + 1)) fun z87 =>
 k75 z85 z87
 ) (
 k50 i73
 )
def bits_LoadBE_uint64_l1 (y4 : (Bool × List Int)) (k50 : (Int) → Option (Int × Bool)) : Nat → (Int) → (Int) → Option (Int × Bool)
  | 0, _, _ => none
  | n + 1, i73, i74 => bits_LoadBE_uint64_b1 y4 k50 (bits_LoadBE_uint64_l1 y4 k50 n) i73 i74
def bits_LoadBE_uint64 (p0 : List Int) (p1 : Int) : Option (Int × Bool) :=
 opt (bits_piece_uint64 p0 p1) fun y4 =>
 jn (fun (i49 : Int) => some (i49, (!y4.1))) fun k50 => bits_LoadBE_uint64_l1 y4 k50 big 0 0
theorem bits_LoadBE_uint64_spec {W : World} {r : Int × Bool} {p0 : List Int} {p1 : Int} {v0 : Value} (h : bits_LoadBE_uint64 p0 p1 = some r) (A0 : RdSl (El.int .u8) W v0 p0) :
    Calls Tryd.prog 105 [v0, .int .i64 (p1)].toArray W (ret1 W (.tuple #[.int .u64 (r.1), .bool (r.2)])) := by
  unfold bits_LoadBE_uint64 at h
  refine calls_val mo ok105 rfl ?_
  refine wc_seq ?_
  refine wc_ops ?_
  refine wj_q _ (q_mv rfl) ?_
  refine wj_q _ (q_mv rfl) ?_
  refine wj_nil ?_
  refine wc_seq ?_
  refine wc_ops ?_
  refine wj_q _ (q_mv rfl) ?_
  refine wj_nil ?_
  refine wc_seq ?_
  revert h
  refine opt_i fun y4 ey4 => ?_
  intro h
  refine wc_ops ?_
  refine wj_q _ (q_mv rfl) ?_
  refine wj_q _ (q_mv rfl) ?_
  refine wj_e (ef_callS0 rfl (fun w hw => bits_piece_uint64_spec (r := y4) (p0 := p0) (p1 := p1) ey4 ((rd_arg A0 apart0) w hw)) fun v5 Msv5 R6 => ?_)
  obtain ⟨_, rfl, rfl, P10, N8, H9⟩ := R6
  refine wj_q _ (q_mv rfl) ?_
  refine wj_nil ?_
  refine wc_seq ?_
  refine wc_seq ?_
  refine wc_ops ?_
  refine wj_q _ (q_mv rfl) ?_
  refine wj_q _ (q_lenP rfl P10) ?_
  refine wj_q _ (q_mv rfl) ?_
  refine wj_nil ?_
  revert h
  refine jn_i fun k50 qk50 => ?_
  intro h
  refine wc_mono2 (G := fun t m => ∃ (i49 : Int), k50 i49 = some r ∧ Fit [(6, .int .u64 (i49)), (7, v5)] [] t m) ?_ ?_
  · refine wc_block ?_
    refine wc_loopJ (fun n76 t m => ∃ (i73 : Int) (i74 : Int), bits_LoadBE_uint64_l1 y4 k50 n76 i73 i74 = some r ∧ Fit [(6, .int .u64 (i73)), (7, v5), (13, v5), (14, .int .i64 ((y4.2.length : Int))), (15, .int .i64 (i74))] [] t m) big ?_ ?_
    · exact ⟨0, 0, h, ⟨⟨rfl, rfl, rfl, rfl, rfl, trivial⟩, .nil⟩⟩
    · rintro n76 t m ⟨i73, i74, h, hF⟩
      refine wc_fit hF ?_
      clear hF
      rcases n76 with _ | n76
      · exact none_i h
      have h : bits_LoadBE_uint64_b1 y4 k50 (bits_LoadBE_uint64_l1 y4 k50 n76) i73 i74 = some r := h
      unfold bits_LoadBE_uint64_b1 at h
      obtain ⟨k75, qk75⟩ : ∃ k, k = bits_LoadBE_uint64_l1 y4 k50 n76 := ⟨_, rfl⟩
      try rw [← qk75] at h
      refine wc_seq ?_
      refine wc_ops ?_
      refine wj_q _ (q_bin rfl rfl rfl) ?_
      refine wj_nil ?_
      refine wc_seq ?_
      refine wc_if (c := (decide (i74 < (y4.2.length : Int)))) rfl (fun d78 => ?_) (fun d78 => ?_)
      · have h := br_t h d78
        refine wc_skip ?_
        refine wc_seq ?_
        refine wc_block ?_
        refine wc_seq ?_
        revert h
        refine chk_i fun c80 => ?_
        refine bnd_i fun z81 ez81 => ?_
        intro h
        refine wc_ops ?_
        refine wj_q _ (q_iasP rfl rfl P10 c80) ?_
        refine wj_q _ (iz ez81 (q_ldM10 (E := (El.int .u8)) (s := [.one (.int .u8 (y4.2.getD (i74).toNat 0))]) rfl (rd_view H9 (rd_arg A0 apart0)) (inB_n c80) rfl rfl)) ?_
        refine wj_q _ (q_mv rfl) ?_
        refine wj_nil ?_
        revert h
        refine bnd_i fun z83 ez83 => ?_
        refine bnd_i fun z84 ez84 => ?_
        refine bnd_i fun z85 ez85 => ?_
        intro h
        refine wc_ops ?_
        refine wj_q _ (q_mv rfl) ?_
        refine wj_q _ (iz ez83 (q_shl rfl rfl (by decide))) ?_
        refine wj_q _ (q_mv rfl) ?_
        refine wj_q _ (iz ez84 (q_conv rfl)) ?_
        refine wj_q _ (iz ez85 (q_bin rfl rfl rfl)) ?_
        refine wj_q _ (q_mv rfl) ?_
        refine wj_nil ?_
        revert h
        refine bnd_i fun z87 ez87 => ?_
        intro h
        refine wc_ops ?_
        refine wj_q _ (iz ez87 (q_bin rfl rfl rfl)) ?_
        refine wj_q _ (q_mv rfl) ?_
        refine wj_nil ?_
        rw [qk75] at h
        exact ⟨n76, Nat.lt_succ_self _, z85, z87, h, ⟨⟨rfl, rfl, rfl, rfl, rfl, trivial⟩, .nil⟩⟩
      · have h := br_f h d78
        refine wc_exit _ rfl ?_
        exact ⟨i73, h, ⟨⟨rfl, rfl, trivial⟩, .nil⟩⟩
  · rintro t m ⟨i49, h, hF⟩
    refine wc_fit hF ?_
    clear hF
    subst qk50
    refine wc_seq ?_
    refine wc_ops ?_
    refine wj_q _ (q_mv rfl) ?_
    refine wj_q _ (q_mv rfl) ?_
    refine wj_q _ (q_isnP rfl P10 N8) ?_
    refine wj_q _ (q_mv rfl) ?_
    refine wj_q _ (q_mv rfl) ?_
    refine wj_nil ?_
    refine wc_ret ?_
    revert h; refine ret_i fun h => ?_
    subst h
    exact ⟨_, (.cons (.tmp rfl) (.cons (.tmp rfl) .nil)), rfl⟩
end Go.Proofs.YtiflckckekjbnaaDoor
