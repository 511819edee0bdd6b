/- Mirrors. -/
import Derived.Test.YtiflckckekjbnaaDoorL4
namespace Go.Proofs.YtiflckckekjbnaaDoor
open Go Go.Sx Go.RowKit
set_option linter.all false
set_option maxHeartbeats 400000
set_option maxRecDepth 100000
/- farebox/bits.RotR[uint64] -/
def bits_RotR_uint64 (p0 : Int) (p1 : Int) : Option (Int) :=
 opt (bits_width_uint64) fun y3 =>
 bnd (IntKind.wrap .u64 p1) fun z5 =>
 bnd (IntKind.wrap .i64 (y3 - 1)) fun z6 =>
 bnd (IntKind.wrap .u64 z6) fun z7 =>
 bnd (bitsV .and .u64 z5 z7) fun z8 =>
 chk (decide (0 ≤ z8)) <|
 bnd (shrV .u64 p0 z8) fun z11 =>
 bnd (IntKind.wrap .u64 y3) fun z12 =>
 bnd (IntKind.wrap .u64 (z12 - z8)) fun z13 =>
 chk (decide (0 ≤ z13)) <|
 bnd (shlV .u64 p0 z13) fun z15 =>
 bnd (bitsV .or .u64 z11 z15) fun z16 =>
 some z16
theorem bits_RotR_uint64_spec {W : World} {r : Int} {p0 : Int} {p1 : Int} (h : bits_RotR_uint64 p0 p1 = some r)  :
    Calls Tryd.prog 107 [.int .u64 (p0), .int .i64 (p1)].toArray W (ret1 W (.int .u64 (r))) := by
  unfold bits_RotR_uint64 at h
  refine calls_val mo ok107 rfl ?_
  refine wc_seq ?_
  refine wc_ops ?_
  refine wj_q _ (q_mv rfl) ?_
  refine wj_nil ?_
  refine wc_seq ?_
  revert h
  refine opt_i fun y3 ey3 => ?_
  intro h
  refine wc_ops ?_
  refine wj_q _ (q_call (vs := []) (v := .int .i64 (y3)) rfl (fun w hw => bits_width_uint64_spec (r := y3) ey3 )) ?_
  refine wj_q _ (q_mv rfl) ?_
  refine wj_nil ?_
  refine wc_seq ?_
  revert h
  refine bnd_i fun z5 ez5 => ?_
  refine bnd_i fun z6 ez6 => ?_
  refine bnd_i fun z7 ez7 => ?_
  refine bnd_i fun z8 ez8 => ?_
  intro h
  refine wc_ops ?_
  refine wj_q _ (q_mv rfl) ?_
  refine wj_q _ (iz ez5 (q_conv rfl)) ?_
  refine wj_q _ (q_mv rfl) ?_
  refine wj_q _ (iz ez6 (q_bin rfl rfl rfl)) ?_
  refine wj_q _ (iz ez7 (q_conv rfl)) ?_
  refine wj_q _ (iz ez8 (q_bin rfl rfl rfl)) ?_
  refine wj_q _ (q_mv rfl) ?_
  refine wj_nil ?_
  refine wc_seq ?_
  revert h
  refine chk_i fun c10 => ?_
  refine bnd_i fun z11 ez11 => ?_
  refine bnd_i fun z12 ez12 => ?_
  refine bnd_i fun z13 ez13 => ?_
  refine chk_i fun c14 => ?_
  refine bnd_i fun z15 ez15 => ?_
  refine bnd_i fun z16 ez16 => ?_
  intro h
  refine wc_ops ?_
  refine wj_q _ (q_mv rfl) ?_
  refine wj_q _ (q_mv rfl) ?_
  refine wj_q _ (iz ez11 (q_shr rfl rfl (of_decide_eq_true c10))) ?_
  refine wj_q _ (q_mv rfl) ?_
  refine wj_q _ (q_mv rfl) ?_
  refine wj_q _ (iz ez12 (q_conv rfl)) ?_
  refine wj_q _ (q_mv rfl) ?_
  refine wj_q _ (iz ez13 (q_bin rfl rfl rfl)) ?_
  refine wj_q _ (iz ez15 (q_shl rfl rfl (of_decide_eq_true c14))) ?_
  refine wj_q _ (iz ez16 (q_bin rfl rfl rfl)) ?_
  refine wj_q _ (q_mv rfl) ?_
  refine wj_nil ?_
  refine wc_ret ?_
  revert h; refine ret_i fun h => ?_
  subst h
  exact ⟨_, (.cons (.tmp rfl) .nil), rfl⟩
/- farebox/sha512.bend -/
def sha512_bend (p0 : Int) (p1 : Int) (p2 : Int) (p3 : Int) : Option (Int) :=
 opt (bits_RotR_uint64 p0 p1) fun y3 =>
 opt (bits_RotR_uint64 p0 p2) fun y4 =>
 bnd (bitsV .xor .u64 y3 y4) fun z5 =>
 chk (decide (0 ≤ p3)) <|
 bnd (shrV .u64 p0 p3) fun z7 =>
 bnd (bitsV .xor .u64 z5 z7) fun z8 =>
 some z8
theorem sha512_bend_spec {W : World} {r : Int} {p0 : Int} {p1 : Int} {p2 : Int} {p3 : Int} (h : sha512_bend p0 p1 p2 p3 = some r)  :
    Calls Tryd.prog 106 [.int .u64 (p0), .int .i64 (p1), .int .i64 (p2), .int .i64 (p3)].toArray W (ret1 W (.int .u64 (r))) := by
  unfold sha512_bend at h
  refine calls_val mo ok106 rfl ?_
  refine wc_seq ?_
  refine wc_ops ?_
  refine wj_q _ (q_mv rfl) ?_
  refine wj_nil ?_
  refine wc_seq ?_
  revert h
  refine opt_i fun y3 ey3 => ?_
  refine opt_i fun y4 ey4 => ?_
  refine bnd_i fun z5 ez5 => ?_
  refine chk_i fun c6 => ?_
  refine bnd_i fun z7 ez7 => ?_
  refine bnd_i fun z8 ez8 => ?_
  intro h
  refine wc_draw ?_
  refine ws_p1 _ (q_mv rfl) ?_
  refine ws_p1 _ (q_mv rfl) ?_
  refine ws_p1 _ (q_call (vs := [.int .u64 (p0), .int .i64 (p1)]) (v := .int .u64 (y3)) rfl (fun w hw => bits_RotR_uint64_spec (r := y3) (p0 := p0) (p1 := p1) ey3 )) ?_
  refine ws_p1 _ (q_mv rfl) ?_
  refine ws_p1 _ (q_mv rfl) ?_
  refine ws_p1 _ (q_call (vs := [.int .u64 (p0), .int .i64 (p2)]) (v := .int .u64 (y4)) rfl (fun w hw => bits_RotR_uint64_spec (r := y4) (p0 := p0) (p1 := p2) ey4 )) ?_
  refine ws_p1 _ (iz ez5 (q_bin rfl rfl rfl)) ?_
  refine ws_p1 _ (q_mv rfl) ?_
  refine ws_p1 _ (q_mv rfl) ?_
  refine ws_p1 _ (iz ez7 (q_shr rfl rfl (of_decide_eq_true c6))) ?_
  refine ws_p1 _ (iz ez8 (q_bin rfl rfl rfl)) ?_
  refine ws_p1 _ (q_mv rfl) ?_
  refine ws_nil ?_
  refine wc_ret ?_
  revert h; refine ret_i fun h => ?_
  subst h
  exact ⟨_, (.cons (.tmp rfl) .nil), rfl⟩
/- farebox/sha512.Schedule -/
def sha512_Schedule_b1 (p0 : List Int) (k152 : (List Int) → Option ((List Int))) (k233 : (Int) → (List Int) → Option ((List Int))) (i231 : Int) (a232 : List Int) : Option ((List Int)) :=
 br ((decide (i231 < 80))) (
 jn (fun (a265 : List Int) => bnd (IntKind.wrap .i64 (i231 + 1)) fun z296 =>
 k233 z296 a265) fun k266 => br ((decide (i231 < 16))) (
 bnd (IntKind.wrap .i64 (8 * i231)) fun z271 =>
 opt (bits_LoadBE_uint64 (tk p0 0 128) z271) fun y272 =>
 chk (inB i231 80) <|
 bnd (setD a232 (i231).toNat y272.1) fun l274 =>
 k266 l274
 ) (
 bnd (IntKind.wrap .i64 (i231 - 2)) fun z276 =>
 chk (inB z276 80) <|
 bnd (IntKind.wrap .i64 (i231 - 7)) fun z278 =>
 chk (inB z278 80) <|
 bnd (IntKind.wrap .i64 (i231 - 15)) fun z280 =>
 chk (inB z280 80) <|
 bnd (IntKind.wrap .i64 (i231 - 16)) fun z282 =>
 chk (inB z282 80) <|
 bnd (a232.getD (z276).toNat 0) fun z284 =>
 opt (sha512_bend z284 19 61 6) fun y285 =>
 bnd (a232.getD (z278).toNat 0) fun z286 =>
 bnd (IntKind.wrap .u64 (y285 + z286)) fun z287 =>
 bnd (a232.getD (z280).toNat 0) fun z288 =>
 opt (sha512_bend z288 1 8 7) fun y289 =>
 bnd (IntKind.wrap .u64 (z287 + y289)) fun z290 =>
 bnd (a232.getD (z282).toNat 0) fun z291 =>
 bnd (IntKind.wrap .u64 (z290 + z291)) fun z292 =>
 chk (inB i231 80) <|
 bnd (setD a232 (i231).toNat z292) fun l294 =>
 k266 l294
 )
 ) (
 k152 a232
 )
def sha512_Schedule_l1 (p0 : List Int) (k152 : (List Int) → Option ((List Int))) : Nat → (Int) → (List Int) → Option ((List Int))
  | 0, _, _ => none
  | n + 1, i231, a232 => sha512_Schedule_b1 p0 k152 (sha512_Schedule_l1 p0 k152 n) i231 a232
def sha512_Schedule (p0 : List Int) : Option ((List Int)) :=
 jn (fun (a151 : List Int) => some a151) fun k152 => sha512_Schedule_l1 p0 k152 big 0 (List.replicate 80 0)
theorem sha512_Schedule_spec {W : World} {r : (List Int)} {p0 : List Int} (h : sha512_Schedule p0 = some r)  :
    Calls Tryd.prog 98 [agg [.ints .u8 128 (p0)]].toArray W (ret1 W (agg [.ints .u64 80 (r)])) := by
  unfold sha512_Schedule at h
  refine calls_val mo ok98 rfl ?_
  refine wc_seq ?_
  refine wc_ops ?_
  refine wj_e (ef_bx (s := [.ints .u8 128 (p0)]) rfl fun b2 hb2 => ?_)
  refine wj_e (ef_al fun b3 hb3 => ?_)
  refine wj_nil ?_
  refine wc_seq ?_
  refine wc_ops ?_
  refine wj_e (ef_al fun b5 hb5 => ?_)
  refine wj_nil ?_
  refine wc_seq ?_
  refine wc_seq ?_
  refine wc_ops ?_
  refine wj_q _ (q_mv rfl) ?_
  refine wj_nil ?_
  revert h
  refine jn_i fun k152 qk152 => ?_
  intro h
  refine wc_mono2 (G := fun t m => ∃ (a151 : List Int), k152 a151 = some r ∧ Fit [(2, .pointer (some ⟨b3, 0, none⟩)), (3, .pointer (some ⟨b5, 0, none⟩))] (ck b5 155 [.ints .u64 80 (a151)] :: (ck b3 155 [.ints .u64 80 ((List.replicate 80 0))] :: (ck b2 136 [.ints .u8 128 (p0)] :: []))) t m) ?_ ?_
  · refine wc_block ?_
    refine wc_loopJ (fun n234 t m => ∃ (i231 : Int) (a232 : List Int), sha512_Schedule_l1 p0 k152 n234 i231 a232 = some r ∧ Fit [(1, .pointer (some ⟨b2, 0, none⟩)), (2, .pointer (some ⟨b3, 0, none⟩)), (3, .pointer (some ⟨b5, 0, none⟩)), (5, .int .i64 (i231))] (ck b5 155 [.ints .u64 80 (a232)] :: (ck b3 155 [.ints .u64 80 ((List.replicate 80 0))] :: (ck b2 136 [.ints .u8 128 (p0)] :: []))) t m) big ?_ ?_
    · exact ⟨0, (List.replicate 80 0), h, ⟨⟨rfl, rfl, rfl, rfl, trivial⟩, (.one .here (.one .here (.one .here .nil)))⟩⟩
    · rintro n234 t m ⟨i231, a232, h, hF⟩
      refine wc_fit hF ?_
      clear hF
      rcases n234 with _ | n234
      · exact none_i h
      have h : sha512_Schedule_b1 p0 k152 (sha512_Schedule_l1 p0 k152 n234) i231 a232 = some r := h
      unfold sha512_Schedule_b1 at h
      obtain ⟨k233, qk233⟩ : ∃ k, k = sha512_Schedule_l1 p0 k152 n234 := ⟨_, rfl⟩
      try rw [← qk233] at h
      refine wc_seq ?_
      refine wc_ops ?_
      refine wj_q _ (q_bin rfl rfl rfl) ?_
      refine wj_nil ?_
      refine wc_seq ?_
      refine wc_if (c := (decide (i231 < 80))) rfl (fun d236 => ?_) (fun d236 => ?_)
      · have h := br_t h d236
        refine wc_skip ?_
        refine wc_seq ?_
        revert h
        refine jn_i fun k266 qk266 => ?_
        intro h
        refine wc_mono2 (G := fun t m => ∃ (a265 : List Int), k266 a265 = some r ∧ Fit [(1, .pointer (some ⟨b2, 0, none⟩)), (2, .pointer (some ⟨b3, 0, none⟩)), (3, .pointer (some ⟨b5, 0, none⟩)), (5, .int .i64 (i231))] (ck b5 155 [.ints .u64 80 (a265)] :: (ck b3 155 [.ints .u64 80 ((List.replicate 80 0))] :: (ck b2 136 [.ints .u8 128 (p0)] :: []))) t m) ?_ ?_
        · refine wc_block ?_
          refine wc_seq ?_
          refine wc_ops ?_
          refine wj_q _ (q_mv rfl) ?_
          refine wj_q _ (q_mv rfl) ?_
          refine wj_nil ?_
          refine wc_seq ?_
          refine wc_seq ?_
          refine wc_ops ?_
          refine wj_q _ (q_mv rfl) ?_
          refine wj_q _ (q_bin rfl rfl rfl) ?_
          refine wj_nil ?_
          refine wc_if (c := (decide (i231 < 16))) rfl (fun d269 => ?_) (fun d269 => ?_)
          · have h := br_t h d269
            refine wc_seq ?_
            revert h
            refine bnd_i fun z271 ez271 => ?_
            refine opt_i fun y272 ey272 => ?_
            refine chk_i fun c273 => ?_
            refine bnd_i fun l274 el274 => ?_
            intro h
            refine wc_ops ?_
            refine wj_q _ (q_mv rfl) ?_
            refine wj_q _ (q_sla rfl .no .no .no (by simp) (by decide)) ?_
            refine wj_q _ (q_mv rfl) ?_
            refine wj_q _ (iz ez271 (q_bin rfl rfl rfl)) ?_
            refine wj_q _ (q_call (vs := [(.slice (some (slAddr b2 0 0 128 1)) (128 - 0) (128 - 0)), .int .i64 (z271)]) (v := .tuple #[.int .u64 (y272.1), .bool (y272.2)]) rfl (fun w hw => bits_LoadBE_uint64_spec (r := y272) (p0 := (tk p0 0 128)) (p1 := z271) ey272 ((rd_blk_i (s := [.ints .u8 128 (p0)]) (N := 128) (k := .u8) (base := 0) (lo := 0) (hi := 128) (mz := 128) (.there (.there .here)) rfl (by decide)) w hw))) ?_
            refine wj_q _ (q_mv rfl) ?_
            refine wj_q _ (q_ext rfl rfl) ?_
            refine wj_q _ (q_ext rfl rfl) ?_
            refine wj_q _ (q_ia rfl rfl (inB_z c273)) ?_
            refine wj_e (ef_stiz (q := [.ints .u64 80 (l274)]) (base := 0) el274 rfl rfl rfl (inB_n c273) rfl .here ?_)
            refine wj_nil ?_
            refine wc_exit _ rfl ?_
            exact ⟨l274, h, ⟨⟨rfl, rfl, rfl, rfl, trivial⟩, (.one .here (.one .here (.one .here .nil)))⟩⟩
          · have h := br_f h d269
            refine wc_skip ?_
            revert h
            refine bnd_i fun z276 ez276 => ?_
            refine chk_i fun c277 => ?_
            refine bnd_i fun z278 ez278 => ?_
            refine chk_i fun c279 => ?_
            refine bnd_i fun z280 ez280 => ?_
            refine chk_i fun c281 => ?_
            refine bnd_i fun z282 ez282 => ?_
            refine chk_i fun c283 => ?_
            refine bnd_i fun z284 ez284 => ?_
            refine opt_i fun y285 ey285 => ?_
            refine bnd_i fun z286 ez286 => ?_
            refine bnd_i fun z287 ez287 => ?_
            refine bnd_i fun z288 ez288 => ?_
            refine opt_i fun y289 ey289 => ?_
            refine bnd_i fun z290 ez290 => ?_
            refine bnd_i fun z291 ez291 => ?_
            refine bnd_i fun z292 ez292 => ?_
            refine chk_i fun c293 => ?_
            refine bnd_i fun l294 el294 => ?_
            intro h
            refine wc_draw ?_
            refine ws_p1 _ (q_mv rfl) ?_
            refine ws_p1 _ (q_mv rfl) ?_
            refine ws_p1 _ (iz ez276 (q_bin rfl rfl rfl)) ?_
            refine ws_p1 _ (q_ia rfl rfl (inB_z c277)) ?_
            refine ws_p1 _ (q_mv rfl) ?_
            refine ws_p1 _ (iz ez278 (q_bin rfl rfl rfl)) ?_
            refine ws_p1 _ (q_ia rfl rfl (inB_z c279)) ?_
            refine ws_p1 _ (q_mv rfl) ?_
            refine ws_p1 _ (iz ez280 (q_bin rfl rfl rfl)) ?_
            refine ws_p1 _ (q_ia rfl rfl (inB_z c281)) ?_
            refine ws_p1 _ (q_mv rfl) ?_
            refine ws_p1 _ (iz ez282 (q_bin rfl rfl rfl)) ?_
            refine ws_p1 _ (q_ia rfl rfl (inB_z c283)) ?_
            refine ws_q1 _ (iz ez284 (q_ldi (base := 0) rfl .here rfl (inB_n c277))) ?_
            refine ws_p1 _ (q_call (vs := [.int .u64 (z284), .int .i64 19, .int .i64 61, .int .i64 6]) (v := .int .u64 (y285)) rfl (fun w hw => sha512_bend_spec (r := y285) (p0 := z284) (p1 := 19) (p2 := 61) (p3 := 6) ey285 )) ?_
            refine ws_q1 _ (iz ez286 (q_ldi (base := 0) rfl .here rfl (inB_n c279))) ?_
            refine ws_p1 _ (iz ez287 (q_bin rfl rfl rfl)) ?_
            refine ws_q1 _ (iz ez288 (q_ldi (base := 0) rfl .here rfl (inB_n c281))) ?_
            refine ws_p1 _ (q_call (vs := [.int .u64 (z288), .int .i64 1, .int .i64 8, .int .i64 7]) (v := .int .u64 (y289)) rfl (fun w hw => sha512_bend_spec (r := y289) (p0 := z288) (p1 := 1) (p2 := 8) (p3 := 7) ey289 )) ?_
            refine ws_p1 _ (iz ez290 (q_bin rfl rfl rfl)) ?_
            refine ws_q1 _ (iz ez291 (q_ldi (base := 0) rfl .here rfl (inB_n c283))) ?_
            refine ws_p1 _ (iz ez292 (q_bin rfl rfl rfl)) ?_
            refine ws_p1 _ (q_ia rfl rfl (inB_z c293)) ?_
            refine ws_eL rfl (ef_stiz (q := [.ints .u64 80 (l294)]) (base := 0) el294 rfl rfl rfl (inB_n c293) rfl .here ?_)
            refine ws_nil ?_
            exact ⟨l294, h, ⟨⟨rfl, rfl, rfl, rfl, trivial⟩, (.one .here (.one .here (.one .here .nil)))⟩⟩
        · rintro t m ⟨a265, h, hF⟩
          refine wc_fit hF ?_
          clear hF
          subst qk266
          revert h
          refine bnd_i fun z296 ez296 => ?_
          intro h
          refine wc_ops ?_
          refine wj_q _ (iz ez296 (q_bin rfl rfl rfl)) ?_
          refine wj_q _ (q_mv rfl) ?_
          refine wj_nil ?_
          rw [qk233] at h
          exact ⟨n234, Nat.lt_succ_self _, z296, a265, h, ⟨⟨rfl, rfl, rfl, rfl, trivial⟩, (.one .here (.one .here (.one .here .nil)))⟩⟩
      · have h := br_f h d236
        refine wc_exit _ rfl ?_
        exact ⟨a232, h, ⟨⟨rfl, rfl, trivial⟩, (.one .here (.one .here (.one .here .nil)))⟩⟩
  · rintro t m ⟨a151, h, hF⟩
    refine wc_fit hF ?_
    clear hF
    subst qk152
    refine wc_seq ?_
    refine wc_ops ?_
    refine wj_q _ (q_ld (p := [.ints .u64 80 (a151)]) rfl .here rfl) ?_
    refine wj_e (ef_st (q := [.ints .u64 80 (a151)]) rfl rfl rfl rfl rfl (.there .here) ?_)
    refine wj_nil ?_
    refine wc_ret ?_
    revert h; refine ret_i fun h => ?_
    subst h
    exact ⟨_, (.cons (.agg rfl (.there .here) rfl) .nil), rfl⟩
/- farebox/sha512.mix -/
def sha512_mix (p0 : Int) (p1 : Int) (p2 : Int) (p3 : Int) : Option (Int) :=
 opt (bits_RotR_uint64 p0 p1) fun y3 =>
 opt (bits_RotR_uint64 p0 p2) fun y4 =>
 bnd (bitsV .xor .u64 y3 y4) fun z5 =>
 opt (bits_RotR_uint64 p0 p3) fun y6 =>
 bnd (bitsV .xor .u64 z5 y6) fun z7 =>
 some z7
theorem sha512_mix_spec {W : World} {r : Int} {p0 : Int} {p1 : Int} {p2 : Int} {p3 : Int} (h : sha512_mix p0 p1 p2 p3 = some r)  :
    Calls Tryd.prog 99 [.int .u64 (p0), .int .i64 (p1), .int .i64 (p2), .int .i64 (p3)].toArray W (ret1 W (.int .u64 (r))) := by
  unfold sha512_mix at h
  refine calls_val mo ok99 rfl ?_
  refine wc_seq ?_
  refine wc_ops ?_
  refine wj_q _ (q_mv rfl) ?_
  refine wj_nil ?_
  refine wc_seq ?_
  revert h
  refine opt_i fun y3 ey3 => ?_
  refine opt_i fun y4 ey4 => ?_
  refine bnd_i fun z5 ez5 => ?_
  refine opt_i fun y6 ey6 => ?_
  refine bnd_i fun z7 ez7 => ?_
  intro h
  refine wc_ops ?_
  refine wj_q _ (q_mv rfl) ?_
  refine wj_q _ (q_mv rfl) ?_
  refine wj_q _ (q_call (vs := [.int .u64 (p0), .int .i64 (p1)]) (v := .int .u64 (y3)) rfl (fun w hw => bits_RotR_uint64_spec (r := y3) (p0 := p0) (p1 := p1) ey3 )) ?_
  refine wj_q _ (q_mv rfl) ?_
  refine wj_q _ (q_mv rfl) ?_
  refine wj_q _ (q_call (vs := [.int .u64 (p0), .int .i64 (p2)]) (v := .int .u64 (y4)) rfl (fun w hw => bits_RotR_uint64_spec (r := y4) (p0 := p0) (p1 := p2) ey4 )) ?_
  refine wj_q _ (iz ez5 (q_bin rfl rfl rfl)) ?_
  refine wj_q _ (q_mv rfl) ?_
  refine wj_q _ (q_mv rfl) ?_
  refine wj_q _ (q_call (vs := [.int .u64 (p0), .int .i64 (p3)]) (v := .int .u64 (y6)) rfl (fun w hw => bits_RotR_uint64_spec (r := y6) (p0 := p0) (p1 := p3) ey6 )) ?_
  refine wj_q _ (iz ez7 (q_bin rfl rfl rfl)) ?_
  refine wj_q _ (q_mv rfl) ?_
  refine wj_nil ?_
  refine wc_ret ?_
  revert h; refine ret_i fun h => ?_
  subst h
  exact ⟨_, (.cons (.tmp rfl) .nil), rfl⟩
/- farebox/sha512.Block -/
def sha512_Block_b1 (y6 : (List Int)) (k133 : (Int) → (Int) → (Int) → (Int) → (Int) → (Int) → (Int) → (Int) → Option ((List Int))) (k208 : (Int) → (Int) → (Int) → (Int) → (Int) → (Int) → (Int) → (Int) → (Int) → Option ((List Int))) (i199 : Int) (i200 : Int) (i201 : Int) (i202 : Int) (i203 : Int) (i204 : Int) (i205 : Int) (i206 : Int) (i207 : Int) : Option ((List Int)) :=
 br ((decide (i207 < 80))) (
 chk (inB i207 80) <|
 bnd (G_table.getD (i207).toNat 0) fun z214 =>
 opt (sha512_mix i203 14 18 41) fun y216 =>
 bnd (IntKind.wrap .u64 (i206 + y216)) fun z217 =>
 bnd (bitsV .and .u64 i203 i204) fun z218 =>
 bnd (bitsV .xor .u64 18446744073709551615 i203) fun z219 =>
 bnd (bitsV .and .u64 z219 i205) fun z220 =>
 bnd (bitsV .xor .u64 z218 z220) fun z221 =>
 bnd (IntKind.wrap .u64 (z217 + z221)) fun z222 =>
 bnd (IntKind.wrap .u64 (z222 + z214)) fun z223 =>
 chk (inB i207 80) <|
 bnd (y6.getD (i207).toNat 0) fun z225 =>
 bnd (IntKind.wrap .u64 (z223 + z225)) fun z226 =>
 opt (sha512_mix i199 28 34 39) fun y228 =>
 bnd (bitsV .and .u64 i199 i200) fun z229 =>
 bnd (bitsV .and .u64 i199 i201) fun z230 =>
 bnd (bitsV .xor .u64 z229 z230) fun z231 =>
 bnd (bitsV .and .u64 i200 i201) fun z232 =>
 bnd (bitsV .xor .u64 z231 z232) fun z233 =>
 bnd (IntKind.wrap .u64 (y228 + z233)) fun z234 =>
 bnd (IntKind.wrap .u64 (i202 + z226)) fun z236 =>
 bnd (IntKind.wrap .u64 (z226 + z234)) fun z237 =>
 bnd (IntKind.wrap .i64 (i207 + 1)) fun z239 =>
 k208 z237 i199 i200 i201 z236 i203 i204 i205 z239
 ) (
 k133 i199 i200 i201 i202 i203 i204 i205 i206
 )
def sha512_Block_l1 (y6 : (List Int)) (k133 : (Int) → (Int) → (Int) → (Int) → (Int) → (Int) → (Int) → (Int) → Option ((List Int))) : Nat → (Int) → (Int) → (Int) → (Int) → (Int) → (Int) → (Int) → (Int) → (Int) → Option ((List Int))
  | 0, _, _, _, _, _, _, _, _, _ => none
  | n + 1, i199, i200, i201, i202, i203, i204, i205, i206, i207 => sha512_Block_b1 y6 k133 (sha512_Block_l1 y6 k133 n) i199 i200 i201 i202 i203 i204 i205 i206 i207
def sha512_Block_b2 (z241 : List Int) (k283 : (List Int) → Option ((List Int))) (k309 : (Int) → (List Int) → Option ((List Int))) (i307 : Int) (a308 : List Int) : Option ((List Int)) :=
 br ((decide (i307 < 8))) (
 chk (inB i307 8) <|
 bnd (z241.getD (i307).toNat 0) fun z315 =>
 chk (inB i307 8) <|
 bnd (a308.getD (i307).toNat 0) fun z318 =>
 bnd (IntKind.wrap .u64 (z318 + z315)) fun z319 =>
 chk (inB i307 8) <|
 bnd (setD a308 (i307).toNat z319) fun l321 =>
 bnd (IntKind.wrap .i64 (i307 + 1)) fun z323 =>
 k309 z323 l321
 ) (
 k283 a308
 )
def sha512_Block_l2 (z241 : List Int) (k283 : (List Int) → Option ((List Int))) : Nat → (Int) → (List Int) → Option ((List Int))
  | 0, _, _ => none
  | n + 1, i307, a308 => sha512_Block_b2 z241 k283 (sha512_Block_l2 z241 k283 n) i307 a308
def sha512_Block (p0 : List Int) (p1 : List Int) : Option ((List Int)) :=
 opt (sha512_Schedule p1) fun y6 =>
 bnd (p0.getD 0 0) fun z9 =>
 bnd (p0.getD 1 0) fun z10 =>
 bnd (p0.getD 2 0) fun z11 =>
 bnd (p0.getD 3 0) fun z12 =>
 bnd (p0.getD 4 0) fun z14 =>
 bnd (p0.getD 5 0) fun z15 =>
 bnd (p0.getD 6 0) fun z16 =>
 bnd (p0.getD 7 0) fun z17 =>
 jn (fun (i125 : Int) (i126 : Int) (i127 : Int) (i128 : Int) (i129 : Int) (i130 : Int) (i131 : Int) (i132 : Int) => bnd (([i125, i126, i127, i128, i129, i130, i131, i132] : List Int)) fun z241 =>
 jn (fun (a282 : List Int) => some a282) fun k283 => sha512_Block_l2 z241 k283 big 0 p0) fun k133 => sha512_Block_l1 y6 k133 big z9 z10 z11 z12 z14 z15 z16 z17 0
theorem sha512_Block_spec {W : World} {r : (List Int)} {p0 : List Int} {p1 : List Int} (h : sha512_Block p0 p1 = some r) (hG : Globs W) :
    Calls Tryd.prog 81 [agg [.ints .u64 8 (p0)], agg [.ints .u8 128 (p1)]].toArray W (ret1 W (agg [.ints .u64 8 (r)])) := by
  unfold sha512_Block at h
  refine calls_val mo ok81 rfl ?_
  refine wc_seq ?_
  refine wc_ops ?_
  refine wj_e (ef_bx (s := [.ints .u64 8 (p0)]) rfl fun b2 hb2 => ?_)
  refine wj_e (ef_bx (s := [.ints .u8 128 (p1)]) rfl fun b3 hb3 => ?_)
  refine wj_e (ef_al fun b4 hb4 => ?_)
  refine wj_nil ?_
  refine wc_seq ?_
  revert h
  refine opt_i fun y6 ey6 => ?_
  intro h
  refine wc_ops ?_
  refine wj_q _ (q_ld (p := [.ints .u8 128 (p1)]) rfl (.there .here) rfl) ?_
  refine wj_q _ (q_call (vs := [agg [.ints .u8 128 (p1)]]) (v := agg [.ints .u64 80 (y6)]) rfl (fun w hw => sha512_Schedule_spec (r := y6) (p0 := p1) ey6 )) ?_
  refine wj_e (ef_al fun b7 hb7 => ?_)
  refine wj_e (ef_st (q := [.ints .u64 80 (y6)]) rfl rfl rfl rfl rfl .here ?_)
  refine wj_nil ?_
  refine wc_seq ?_
  revert h
  refine bnd_i fun z9 ez9 => ?_
  refine bnd_i fun z10 ez10 => ?_
  refine bnd_i fun z11 ez11 => ?_
  refine bnd_i fun z12 ez12 => ?_
  intro h
  refine wc_draw ?_
  refine ws_p1 _ (q_ia rfl rfl (by decide)) ?_
  refine ws_p1 _ (q_ia rfl rfl (by decide)) ?_
  refine ws_p1 _ (q_ia rfl rfl (by decide)) ?_
  refine ws_p1 _ (q_ia rfl rfl (by decide)) ?_
  refine ws_q1 _ (iz ez9 (q_ld1 rfl (.there (.there (.there .here))) rfl)) ?_
  refine ws_p1 _ (q_mv rfl) ?_
  refine ws_q1 _ (iz ez10 (q_ld1 rfl (.there (.there (.there .here))) rfl)) ?_
  refine ws_p1 _ (q_mv rfl) ?_
  refine ws_q1 _ (iz ez11 (q_ld1 rfl (.there (.there (.there .here))) rfl)) ?_
  refine ws_p1 _ (q_mv rfl) ?_
  refine ws_q1 _ (iz ez12 (q_ld1 rfl (.there (.there (.there .here))) rfl)) ?_
  refine ws_p1 _ (q_mv rfl) ?_
  refine ws_nil ?_
  refine wc_seq ?_
  revert h
  refine bnd_i fun z14 ez14 => ?_
  refine bnd_i fun z15 ez15 => ?_
  refine bnd_i fun z16 ez16 => ?_
  refine bnd_i fun z17 ez17 => ?_
  intro h
  refine wc_draw ?_
  refine ws_p1 _ (q_ia rfl rfl (by decide)) ?_
  refine ws_p1 _ (q_ia rfl rfl (by decide)) ?_
  refine ws_p1 _ (q_ia rfl rfl (by decide)) ?_
  refine ws_p1 _ (q_ia rfl rfl (by decide)) ?_
  refine ws_q1 _ (iz ez14 (q_ld1 rfl (.there (.there (.there .here))) rfl)) ?_
  refine ws_p1 _ (q_mv rfl) ?_
  refine ws_q1 _ (iz ez15 (q_ld1 rfl (.there (.there (.there .here))) rfl)) ?_
  refine ws_p1 _ (q_mv rfl) ?_
  refine ws_q1 _ (iz ez16 (q_ld1 rfl (.there (.there (.there .here))) rfl)) ?_
  refine ws_p1 _ (q_mv rfl) ?_
  refine ws_q1 _ (iz ez17 (q_ld1 rfl (.there (.there (.there .here))) rfl)) ?_
  refine ws_p1 _ (q_mv rfl) ?_
  refine ws_nil ?_
  refine wc_seq ?_
  refine wc_seq ?_
  refine wc_ops ?_
  refine wj_q _ (q_mem (o0 := 0) (off := 0) rfl (hG.g2) (by simp) rfl) ?_
  refine wj_q _ (q_mv rfl) ?_
  refine wj_nil ?_
  revert h
  refine jn_i fun k133 qk133 => ?_
  intro h
  refine wc_mono2 (G := fun t m => ∃ (i125 : Int) (i126 : Int) (i127 : Int) (i128 : Int) (i129 : Int) (i130 : Int) (i131 : Int) (i132 : Int), k133 i125 i126 i127 i128 i129 i130 i131 i132 = some r ∧ Fit [(2, .pointer (some ⟨b2, 0, none⟩)), (4, .pointer (some ⟨b4, 0, none⟩)), (6, .int .u64 (i125)), (7, .int .u64 (i126)), (8, .int .u64 (i127)), (9, .int .u64 (i128)), (10, .int .u64 (i129)), (11, .int .u64 (i130)), (12, .int .u64 (i131)), (13, .int .u64 (i132))] (ck b7 155 [.ints .u64 80 (y6)] :: (ck b4 135 [.ints .u64 8 ((List.replicate 8 0))] :: (ck b3 136 [.ints .u8 128 (p1)] :: (ck b2 135 [.ints .u64 8 (p0)] :: [])))) t m) ?_ ?_
  · refine wc_block ?_
    refine wc_loopJ (fun n209 t m => ∃ (i199 : Int) (i200 : Int) (i201 : Int) (i202 : Int) (i203 : Int) (i204 : Int) (i205 : Int) (i206 : Int) (i207 : Int), sha512_Block_l1 y6 k133 n209 i199 i200 i201 i202 i203 i204 i205 i206 i207 = some r ∧ Fit [(2, .pointer (some ⟨b2, 0, none⟩)), (4, .pointer (some ⟨b4, 0, none⟩)), (5, .pointer (some ⟨b7, 0, none⟩)), (6, .int .u64 (i199)), (7, .int .u64 (i200)), (8, .int .u64 (i201)), (9, .int .u64 (i202)), (10, .int .u64 (i203)), (11, .int .u64 (i204)), (12, .int .u64 (i205)), (13, .int .u64 (i206)), (38, agg [.ints .u64 80 (G_table)]), (39, .int .i64 (i207))] (ck b7 155 [.ints .u64 80 (y6)] :: (ck b4 135 [.ints .u64 8 ((List.replicate 8 0))] :: (ck b3 136 [.ints .u8 128 (p1)] :: (ck b2 135 [.ints .u64 8 (p0)] :: [])))) t m) big ?_ ?_
    · exact ⟨z9, z10, z11, z12, z14, z15, z16, z17, 0, h, ⟨⟨rfl, rfl, rfl, rfl, rfl, rfl, rfl, rfl, rfl, rfl, rfl, rfl, rfl, trivial⟩, (.one .here (.one .here (.one .here (.one .here .nil))))⟩⟩
    · rintro n209 t m ⟨i199, i200, i201, i202, i203, i204, i205, i206, i207, h, hF⟩
      refine wc_fit hF ?_
      clear hF
      rcases n209 with _ | n209
      · exact none_i h
      have h : sha512_Block_b1 y6 k133 (sha512_Block_l1 y6 k133 n209) i199 i200 i201 i202 i203 i204 i205 i206 i207 = some r := h
      unfold sha512_Block_b1 at h
      obtain ⟨k208, qk208⟩ : ∃ k, k = sha512_Block_l1 y6 k133 n209 := ⟨_, rfl⟩
      try rw [← qk208] at h
      refine wc_seq ?_
      refine wc_ops ?_
      refine wj_q _ (q_bin rfl rfl rfl) ?_
      refine wj_nil ?_
      refine wc_seq ?_
      refine wc_if (c := (decide (i207 < 80))) rfl (fun d211 => ?_) (fun d211 => ?_)
      · have h := br_t h d211
        refine wc_skip ?_
        refine wc_seq ?_
        refine wc_block ?_
        refine wc_seq ?_
        revert h
        refine chk_i fun c213 => ?_
        refine bnd_i fun z214 ez214 => ?_
        intro h
        refine wc_ops ?_
        refine wj_q _ (q_mv rfl) ?_
        refine wj_q _ (iz ez214 (q_idxi (len := 80) rfl rfl (inB_z c213))) ?_
        refine wj_q _ (q_mv rfl) ?_
        refine wj_q _ (q_mv rfl) ?_
        refine wj_nil ?_
        refine wc_seq ?_
        revert h
        refine opt_i fun y216 ey216 => ?_
        refine bnd_i fun z217 ez217 => ?_
        refine bnd_i fun z218 ez218 => ?_
        refine bnd_i fun z219 ez219 => ?_
        refine bnd_i fun z220 ez220 => ?_
        refine bnd_i fun z221 ez221 => ?_
        refine bnd_i fun z222 ez222 => ?_
        refine bnd_i fun z223 ez223 => ?_
        refine chk_i fun c224 => ?_
        refine bnd_i fun z225 ez225 => ?_
        refine bnd_i fun z226 ez226 => ?_
        intro h
        refine wc_draw ?_
        refine ws_p1 _ (q_mv rfl) ?_
        refine ws_p1 _ (q_mv rfl) ?_
        refine ws_p1 _ (q_call (vs := [.int .u64 (i203), .int .i64 14, .int .i64 18, .int .i64 41]) (v := .int .u64 (y216)) rfl (fun w hw => sha512_mix_spec (r := y216) (p0 := i203) (p1 := 14) (p2 := 18) (p3 := 41) ey216 )) ?_
        refine ws_p1 _ (iz ez217 (q_bin rfl rfl rfl)) ?_
        refine ws_p1 _ (q_mv rfl) ?_
        refine ws_p1 _ (q_mv rfl) ?_
        refine ws_p1 _ (iz ez218 (q_bin rfl rfl rfl)) ?_
        refine ws_p1 _ (q_mv rfl) ?_
        refine ws_p1 _ (iz ez219 (q_un rfl rfl)) ?_
        refine ws_p1 _ (q_mv rfl) ?_
        refine ws_p1 _ (iz ez220 (q_bin rfl rfl rfl)) ?_
        refine ws_p1 _ (iz ez221 (q_bin rfl rfl rfl)) ?_
        refine ws_p1 _ (iz ez222 (q_bin rfl rfl rfl)) ?_
        refine ws_p1 _ (q_mv rfl) ?_
        refine ws_p1 _ (iz ez223 (q_bin rfl rfl rfl)) ?_
        refine ws_p1 _ (q_mv rfl) ?_
        refine ws_p1 _ (q_ia rfl rfl (inB_z c224)) ?_
        refine ws_q1 _ (iz ez225 (q_ldi (base := 0) rfl .here rfl (inB_n c224))) ?_
        refine ws_p1 _ (iz ez226 (q_bin rfl rfl rfl)) ?_
        refine ws_p1 _ (q_mv rfl) ?_
        refine ws_nil ?_
        refine wc_seq ?_
        revert h
        refine opt_i fun y228 ey228 => ?_
        refine bnd_i fun z229 ez229 => ?_
        refine bnd_i fun z230 ez230 => ?_
        refine bnd_i fun z231 ez231 => ?_
        refine bnd_i fun z232 ez232 => ?_
        refine bnd_i fun z233 ez233 => ?_
        refine bnd_i fun z234 ez234 => ?_
        intro h
        refine wc_ops ?_
        refine wj_q _ (q_mv rfl) ?_
        refine wj_q _ (q_call (vs := [.int .u64 (i199), .int .i64 28, .int .i64 34, .int .i64 39]) (v := .int .u64 (y228)) rfl (fun w hw => sha512_mix_spec (r := y228) (p0 := i199) (p1 := 28) (p2 := 34) (p3 := 39) ey228 )) ?_
        refine wj_q _ (q_mv rfl) ?_
        refine wj_q _ (q_mv rfl) ?_
        refine wj_q _ (iz ez229 (q_bin rfl rfl rfl)) ?_
        refine wj_q _ (q_mv rfl) ?_
        refine wj_q _ (q_mv rfl) ?_
        refine wj_q _ (iz ez230 (q_bin rfl rfl rfl)) ?_
        refine wj_q _ (iz ez231 (q_bin rfl rfl rfl)) ?_
        refine wj_q _ (q_mv rfl) ?_
        refine wj_q _ (q_mv rfl) ?_
        refine wj_q _ (iz ez232 (q_bin rfl rfl rfl)) ?_
        refine wj_q _ (iz ez233 (q_bin rfl rfl rfl)) ?_
        refine wj_q _ (iz ez234 (q_bin rfl rfl rfl)) ?_
        refine wj_q _ (q_mv rfl) ?_
        refine wj_nil ?_
        revert h
        refine bnd_i fun z236 ez236 => ?_
        refine bnd_i fun z237 ez237 => ?_
        intro h
        refine wc_ops ?_
        refine wj_q _ (q_mv rfl) ?_
        refine wj_q _ (q_mv rfl) ?_
        refine wj_q _ (q_mv rfl) ?_
        refine wj_q _ (q_mv rfl) ?_
        refine wj_q _ (q_mv rfl) ?_
        refine wj_q _ (iz ez236 (q_bin rfl rfl rfl)) ?_
        refine wj_q _ (q_mv rfl) ?_
        refine wj_q _ (q_mv rfl) ?_
        refine wj_q _ (q_mv rfl) ?_
        refine wj_q _ (q_mv rfl) ?_
        refine wj_q _ (q_mv rfl) ?_
        refine wj_q _ (iz ez237 (q_bin rfl rfl rfl)) ?_
        refine wj_q _ (q_mv rfl) ?_
        refine wj_q _ (q_mv rfl) ?_
        refine wj_q _ (q_mv rfl) ?_
        refine wj_q _ (q_mv rfl) ?_
        refine wj_q _ (q_mv rfl) ?_
        refine wj_q _ (q_mv rfl) ?_
        refine wj_q _ (q_mv rfl) ?_
        refine wj_q _ (q_mv rfl) ?_
        refine wj_nil ?_
        revert h
        refine bnd_i fun z239 ez239 => ?_
        intro h
        refine wc_ops ?_
        refine wj_q _ (iz ez239 (q_bin rfl rfl rfl)) ?_
        refine wj_q _ (q_mv rfl) ?_
        refine wj_nil ?_
        rw [qk208] at h
        exact ⟨n209, Nat.lt_succ_self _, z237, i199, i200, i201, z236, i203, i204, i205, z239, h, ⟨⟨rfl, rfl, rfl, rfl, rfl, rfl, rfl, rfl, rfl, rfl, rfl, rfl, rfl, trivial⟩, (.one .here (.one .here (.one .here (.one .here .nil))))⟩⟩
      · have h := br_f h d211
        refine wc_exit _ rfl ?_
        exact ⟨i199, i200, i201, i202, i203, i204, i205, i206, h, ⟨⟨rfl, rfl, rfl, rfl, rfl, rfl, rfl, rfl, rfl, rfl, trivial⟩, (.one .here (.one .here (.one .here (.one .here .nil))))⟩⟩
  · rintro t m ⟨i125, i126, i127, i128, i129, i130, i131, i132, h, hF⟩
    refine wc_fit hF ?_
    clear hF
    subst qk133
    refine wc_seq ?_
    refine wc_seq ?_
    revert h
    refine bnd_i fun z241 ez241 => ?_
    intro h
    refine wc_ops ?_
    refine wj_q _ (q_mv rfl) ?_
    refine wj_q _ (q_mv rfl) ?_
    refine wj_q _ (q_mv rfl) ?_
    refine wj_q _ (q_mv rfl) ?_
    refine wj_q _ (q_mv rfl) ?_
    refine wj_q _ (q_mv rfl) ?_
    refine wj_q _ (q_mv rfl) ?_
    refine wj_q _ (q_mv rfl) ?_
    refine wj_q _ (az (fun z => agg [.ints .u64 8 z]) ez241 (q_bd (.one rfl rfl rfl (.one rfl rfl rfl (.one rfl rfl rfl (.one rfl rfl rfl (.one rfl rfl rfl (.one rfl rfl rfl (.one rfl rfl rfl (.one rfl rfl rfl BdR.nil)))))))))) ?_
    refine wj_q _ (q_mv rfl) ?_
    refine wj_nil ?_
    revert h
    refine jn_i fun k283 qk283 => ?_
    intro h
    refine wc_mono2 (G := fun t m => ∃ (a282 : List Int), k283 a282 = some r ∧ Fit [(2, .pointer (some ⟨b2, 0, none⟩)), (4, .pointer (some ⟨b4, 0, none⟩))] (ck b7 155 [.ints .u64 80 (y6)] :: (ck b4 135 [.ints .u64 8 ((List.replicate 8 0))] :: (ck b3 136 [.ints .u8 128 (p1)] :: (ck b2 135 [.ints .u64 8 (a282)] :: [])))) t m) ?_ ?_
    · refine wc_block ?_
      refine wc_loopJ (fun n310 t m => ∃ (i307 : Int) (a308 : List Int), sha512_Block_l2 z241 k283 n310 i307 a308 = some r ∧ Fit [(2, .pointer (some ⟨b2, 0, none⟩)), (4, .pointer (some ⟨b4, 0, none⟩)), (97, agg [.ints .u64 8 (z241)]), (98, .int .i64 (i307))] (ck b7 155 [.ints .u64 80 (y6)] :: (ck b4 135 [.ints .u64 8 ((List.replicate 8 0))] :: (ck b3 136 [.ints .u8 128 (p1)] :: (ck b2 135 [.ints .u64 8 (a308)] :: [])))) t m) big ?_ ?_
      · exact ⟨0, p0, h, ⟨⟨rfl, rfl, rfl, rfl, trivial⟩, (.one .here (.one .here (.one .here (.one .here .nil))))⟩⟩
      · rintro n310 t m ⟨i307, a308, h, hF⟩
        refine wc_fit hF ?_
        clear hF
        rcases n310 with _ | n310
        · exact none_i h
        have h : sha512_Block_b2 z241 k283 (sha512_Block_l2 z241 k283 n310) i307 a308 = some r := h
        unfold sha512_Block_b2 at h
        obtain ⟨k309, qk309⟩ : ∃ k, k = sha512_Block_l2 z241 k283 n310 := ⟨_, rfl⟩
        try rw [← qk309] at h
        refine wc_seq ?_
        refine wc_ops ?_
        refine wj_q _ (q_bin rfl rfl rfl) ?_
        refine wj_nil ?_
        refine wc_seq ?_
        refine wc_if (c := (decide (i307 < 8))) rfl (fun d312 => ?_) (fun d312 => ?_)
        · have h := br_t h d312
          refine wc_skip ?_
          refine wc_seq ?_
          refine wc_block ?_
          refine wc_seq ?_
          revert h
          refine chk_i fun c314 => ?_
          refine bnd_i fun z315 ez315 => ?_
          intro h
          refine wc_ops ?_
          refine wj_q _ (q_mv rfl) ?_
          refine wj_q _ (iz ez315 (q_idxi (len := 8) rfl rfl (inB_z c314))) ?_
          refine wj_q _ (q_mv rfl) ?_
          refine wj_q _ (q_mv rfl) ?_
          refine wj_nil ?_
          revert h
          refine chk_i fun c317 => ?_
          refine bnd_i fun z318 ez318 => ?_
          refine bnd_i fun z319 ez319 => ?_
          refine chk_i fun c320 => ?_
          refine bnd_i fun l321 el321 => ?_
          intro h
          refine wc_ops ?_
          refine wj_q _ (q_mv rfl) ?_
          refine wj_q _ (q_ia rfl rfl (inB_z c317)) ?_
          refine wj_q _ (iz ez318 (q_ldi (base := 0) rfl (.there (.there (.there .here))) rfl (inB_n c317))) ?_
          refine wj_q _ (q_mv rfl) ?_
          refine wj_q _ (iz ez319 (q_bin rfl rfl rfl)) ?_
          refine wj_q _ (q_ia rfl rfl (inB_z c320)) ?_
          refine wj_e (ef_stiz (q := [.ints .u64 8 (l321)]) (base := 0) el321 rfl rfl rfl (inB_n c320) rfl (.there (.there (.there .here))) ?_)
          refine wj_nil ?_
          revert h
          refine bnd_i fun z323 ez323 => ?_
          intro h
          refine wc_ops ?_
          refine wj_q _ (iz ez323 (q_bin rfl rfl rfl)) ?_
          refine wj_q _ (q_mv rfl) ?_
          refine wj_nil ?_
          rw [qk309] at h
          exact ⟨n310, Nat.lt_succ_self _, z323, l321, h, ⟨⟨rfl, rfl, rfl, rfl, trivial⟩, (.one .here (.one .here (.one .here (.one .here .nil))))⟩⟩
        · have h := br_f h d312
          refine wc_exit _ rfl ?_
          exact ⟨a308, h, ⟨⟨rfl, rfl, trivial⟩, (.one .here (.one .here (.one .here (.one .here .nil))))⟩⟩
    · rintro t m ⟨a282, h, hF⟩
      refine wc_fit hF ?_
      clear hF
      subst qk283
      refine wc_seq ?_
      refine wc_ops ?_
      refine wj_q _ (q_ld (p := [.ints .u64 8 (a282)]) rfl (.there (.there (.there .here))) rfl) ?_
      refine wj_e (ef_st (q := [.ints .u64 8 (a282)]) rfl rfl rfl rfl rfl (.there .here) ?_)
      refine wj_nil ?_
      refine wc_ret ?_
      revert h; refine ret_i fun h => ?_
      subst h
      exact ⟨_, (.cons (.agg rfl (.there .here) rfl) .nil), rfl⟩
/- (*farebox/sha512.Digest).Write -/
def sha512_Digest_Write_b1 (z3 : Int) (k44 : (List (Int)) → (List Int) → (List Int) → (Int) → Option (sha512_Digest)) (l39 : List (Int)) (a41 : List Int) (a42 : List Int) (i43 : Int) : Option (sha512_Digest) :=
 br ((decide ((l39.length : Int) > 0))) (
 chk (cutB i43 128 128) <|
 bnd (wr a42 (i43).toNat (l39.take (128 - (i43).toNat))) fun l50 =>
 chk (cutB ((Nat.min l39.length (128 - (i43).toNat) : Nat) : Int) (l39.length : Int) l39.length) <|
 bnd (IntKind.wrap .i64 (i43 + ((Nat.min l39.length (128 - (i43).toNat) : Nat) : Int))) fun z54 =>
 br ((z54 == 128)) (
 opt (sha512_Block a41 l50) fun y58 =>
 k44 ((l39.drop (((Nat.min l39.length (128 - (i43).toNat) : Nat) : Int)).toNat).take (((l39.length : Int)).toNat - (((Nat.min l39.length (128 - (i43).toNat) : Nat) : Int)).toNat)) y58 l50 0
 ) (
 k44 ((l39.drop (((Nat.min l39.length (128 - (i43).toNat) : Nat) : Int)).toNat).take (((l39.length : Int)).toNat - (((Nat.min l39.length (128 - (i43).toNat) : Nat) : Int)).toNat)) a41 l50 z54
 )
 ) (
 some (⟨a41, a42, i43, z3⟩ : sha512_Digest)
 )
def sha512_Digest_Write_l1 (z3 : Int) : Nat → (List (Int)) → (List Int) → (List Int) → (Int) → Option (sha512_Digest)
  | 0, _, _, _, _ => none
  | n + 1, l39, a41, a42, i43 => sha512_Digest_Write_b1 z3 (sha512_Digest_Write_l1 z3 n) l39 a41 a42 i43
def sha512_Digest_Write (p0 : sha512_Digest) (p1 : List Int) : Option (sha512_Digest) :=
 bnd (IntKind.wrap .u64 (p1.length : Int)) fun z2 =>
 bnd (IntKind.wrap .u64 (p0.glength + z2)) fun z3 =>
 sha512_Digest_Write_l1 z3 big p1 p0.gstate p0.gheld p0.ghave
theorem sha512_Digest_Write_spec {W : World} {r : sha512_Digest} {p0 : sha512_Digest} {p1 : List Int} {v1 : Value} {b : Nat} {T : TypeId} (h : sha512_Digest_Write p0 p1 = some r) (h0 : Sat W [b] (ck b T [.ints .u64 8 (p0.gstate), .ints .u8 128 (p0.gheld), .one (.int .i64 (p0.ghave)), .one (.int .u64 (p0.glength))] :: []) W) (hG : Globs W) (hS : ∀ g, g < ng → g ∉ [b]) (A1 : RdSl (El.int .u8) W v1 p1 ∧ Apart v1 p1 [b]) :
    Calls Tryd.prog 46 [.pointer (some ⟨b, 0, none⟩), v1].toArray W (retS W [b] (fun v Ms => v = .tuple #[] ∧ Ms = [.one (ck b T [.ints .u64 8 (r.gstate), .ints .u8 128 (r.gheld), .one (.int .i64 (r.ghave)), .one (.int .u64 (r.glength))])])) := by
  unfold sha512_Digest_Write at h
  refine calls_memT mo ok46 rfl h0 ?_
  refine wc_seq ?_
  revert h
  refine bnd_i fun z2 ez2 => ?_
  refine bnd_i fun z3 ez3 => ?_
  intro h
  refine wc_ops ?_
  refine wj_q _ (q_mv rfl) ?_
  refine wj_q _ (q_nilc rfl) ?_
  refine wj_q _ (q_fa rfl) ?_
  refine wj_q _ (q_ld1 rfl .here rfl) ?_
  refine wj_q _ (q_mv rfl) ?_
  refine wj_q _ (q_lenP rfl (Shp.rd A1.1)) ?_
  refine wj_q _ (iz ez2 (q_conv rfl)) ?_
  refine wj_q _ (iz ez3 (q_bin rfl rfl rfl)) ?_
  refine wj_q _ (q_nilc rfl) ?_
  refine wj_q _ (q_fa rfl) ?_
  refine wj_e (ef_st1 (q := [.ints .u64 8 (p0.gstate), .ints .u8 128 (p0.gheld), .one (.int .i64 (p0.ghave)), .one (.int .u64 (z3))]) rfl rfl rfl rfl .here ?_)
  refine wj_nil ?_
  refine wc_block ?_
  refine wc_loopJ (fun n45 t m => ∃ (l39 : List (Int)) (a41 : List Int) (a42 : List Int) (i43 : Int) (v38 : Value), sha512_Digest_Write_l1 z3 n45 l39 a41 a42 i43 = some r ∧ (RdSl (El.int .u8) W v38 l39 ∧ Apart v38 l39 [b]) ∧ Fit [(0, .pointer (some ⟨b, 0, none⟩)), (1, v38)] (ck b T [.ints .u64 8 (a41), .ints .u8 128 (a42), .one (.int .i64 (i43)), .one (.int .u64 (z3))] :: []) t m) big ?_ ?_
  · exact ⟨p1, p0.gstate, p0.gheld, p0.ghave, v1, h, A1, ⟨⟨rfl, rfl, trivial⟩, (.one .here .nil)⟩⟩
  · rintro n45 t m ⟨l39, a41, a42, i43, v38, h, A40, hF⟩
    refine wc_fit hF ?_
    clear hF
    rcases n45 with _ | n45
    · exact none_i h
    have h : sha512_Digest_Write_b1 z3 (sha512_Digest_Write_l1 z3 n45) l39 a41 a42 i43 = some r := h
    unfold sha512_Digest_Write_b1 at h
    obtain ⟨k44, qk44⟩ : ∃ k, k = sha512_Digest_Write_l1 z3 n45 := ⟨_, rfl⟩
    try rw [← qk44] at h
    refine wc_seq ?_
    refine wc_seq ?_
    refine wc_ops ?_
    refine wj_q _ (q_mv rfl) ?_
    refine wj_q _ (q_lenP rfl (Shp.rd A40.1)) ?_
    refine wj_q _ (q_bin rfl rfl rfl) ?_
    refine wj_nil ?_
    refine wc_if (c := (decide ((l39.length : Int) > 0))) rfl (fun d47 => ?_) (fun d47 => ?_)
    · have h := br_t h d47
      refine wc_skip ?_
      refine wc_block ?_
      refine wc_seq ?_
      revert h
      refine chk_i fun c49 => ?_
      refine bnd_i fun l50 el50 => ?_
      intro h
      refine wc_draw ?_
      refine ws_p1 _ (q_mv rfl) ?_
      refine ws_p1 _ (q_nilc rfl) ?_
      refine ws_p1 _ (q_fa rfl) ?_
      refine ws_p1 _ (q_mv rfl) ?_
      refine ws_p1 _ (q_nilc rfl) ?_
      refine ws_p1 _ (q_fa rfl) ?_
      refine ws_p1 _ (q_mv rfl) ?_
      refine ws_q1 _ (q_ld1 rfl .here rfl) ?_
      refine ws_p1 _ (q_sla rfl (.yes rfl) .no .no (by simp) (cut4 c49)) ?_
      refine ws_eL rfl (ef_cpyB (q := [.ints .u64 8 (a41), .ints .u8 128 (l50), .one (.int .i64 (i43)), .one (.int .u64 (z3))]) (lo := (i43).toNat) (hi := 128) (mz := 128) (base := 8) el50 rfl rfl (rd_arg A40.1 A40.2) rfl (cutn c49) rfl .here ?_)
      refine ws_p1 _ (q_mv rfl) ?_
      refine ws_nil ?_
      refine wc_seq ?_
      revert h
      refine chk_i fun c52 => ?_
      intro h
      refine wc_ops ?_
      refine wj_q _ (q_mv rfl) ?_
      refine wj_q _ (q_mv rfl) ?_
      refine wj_q _ (q_slsP (lz := ((Nat.min l39.length (128 - (i43).toNat) : Nat) : Int)) (hz := (l39.length : Int)) rfl (Shp.rd A40.1) (.yes rfl) .no c52) ?_
      refine wj_q _ (q_mv rfl) ?_
      refine wj_nil ?_
      refine wc_seq ?_
      revert h
      refine bnd_i fun z54 ez54 => ?_
      intro h
      refine wc_ops ?_
      refine wj_q _ (q_mv rfl) ?_
      refine wj_q _ (q_nilc rfl) ?_
      refine wj_q _ (q_fa rfl) ?_
      refine wj_q _ (q_ld1 rfl .here rfl) ?_
      refine wj_q _ (q_mv rfl) ?_
      refine wj_q _ (iz ez54 (q_bin rfl rfl rfl)) ?_
      refine wj_q _ (q_nilc rfl) ?_
      refine wj_q _ (q_fa rfl) ?_
      refine wj_e (ef_st1 (q := [.ints .u64 8 (a41), .ints .u8 128 (l50), .one (.int .i64 (z54)), .one (.int .u64 (z3))]) rfl rfl rfl rfl .here ?_)
      refine wj_nil ?_
      refine wc_seq ?_
      refine wc_ops ?_
      refine wj_q _ (q_mv rfl) ?_
      refine wj_q _ (q_nilc rfl) ?_
      refine wj_q _ (q_fa rfl) ?_
      refine wj_q _ (q_ld1 rfl .here rfl) ?_
      refine wj_q _ (q_bin rfl rfl rfl) ?_
      refine wj_nil ?_
      refine wc_if (c := (z54 == 128)) rfl (fun d56 => ?_) (fun d56 => ?_)
      · have h := br_t h d56
        refine wc_seq ?_
        revert h
        refine opt_i fun y58 ey58 => ?_
        intro h
        refine wc_draw ?_
        refine ws_p1 _ (q_mv rfl) ?_
        refine ws_p1 _ (q_mv rfl) ?_
        refine ws_p1 _ (q_nilc rfl) ?_
        refine ws_p1 _ (q_fa rfl) ?_
        refine ws_p1 _ (q_mv rfl) ?_
        refine ws_p1 _ (q_nilc rfl) ?_
        refine ws_p1 _ (q_fa rfl) ?_
        refine ws_q1 _ (q_ld (p := [.ints .u64 8 (a41)]) rfl .here rfl) ?_
        refine ws_q1 _ (q_ld (p := [.ints .u8 128 (l50)]) rfl .here rfl) ?_
        refine ws_p1 _ (q_call (vs := [agg [.ints .u64 8 (a41)], agg [.ints .u8 128 (l50)]]) (v := agg [.ints .u64 8 (y58)]) rfl (fun w hw => sha512_Block_spec (r := y58) (p0 := a41) (p1 := l50) ey58 (hG.at hw hS))) ?_
        refine ws_p1 _ (q_nilc rfl) ?_
        refine ws_p1 _ (q_fa rfl) ?_
        refine ws_eL rfl (ef_st (q := [.ints .u64 8 (y58), .ints .u8 128 (l50), .one (.int .i64 (z54)), .one (.int .u64 (z3))]) rfl rfl rfl rfl rfl .here ?_)
        refine ws_nil ?_
        refine wc_ops ?_
        refine wj_q _ (q_mv rfl) ?_
        refine wj_q _ (q_nilc rfl) ?_
        refine wj_q _ (q_fa rfl) ?_
        refine wj_e (ef_st1 (q := [.ints .u64 8 (y58), .ints .u8 128 (l50), .one (.int .i64 (0)), .one (.int .u64 (z3))]) rfl rfl rfl rfl .here ?_)
        refine wj_nil ?_
        rw [qk44] at h
        exact ⟨n45, Nat.lt_succ_self _, ((l39.drop (((Nat.min l39.length (128 - (i43).toNat) : Nat) : Int)).toNat).take (((l39.length : Int)).toNat - (((Nat.min l39.length (128 - (i43).toNat) : Nat) : Int)).toNat)), y58, l50, 0, (cutSl 1 v38 (((Nat.min l39.length (128 - (i43).toNat) : Nat) : Int)).toNat ((l39.length : Int)).toNat), h, (rdcutS A40 (lz := ((Nat.min l39.length (128 - (i43).toNat) : Nat) : Int)) (hz := (l39.length : Int)) c52), ⟨⟨rfl, rfl, trivial⟩, (.one .here .nil)⟩⟩
      · have h := br_f h d56
        refine wc_skip ?_
        rw [qk44] at h
        exact ⟨n45, Nat.lt_succ_self _, ((l39.drop (((Nat.min l39.length (128 - (i43).toNat) : Nat) : Int)).toNat).take (((l39.length : Int)).toNat - (((Nat.min l39.length (128 - (i43).toNat) : Nat) : Int)).toNat)), a41, l50, z54, (cutSl 1 v38 (((Nat.min l39.length (128 - (i43).toNat) : Nat) : Int)).toNat ((l39.length : Int)).toNat), h, (rdcutS A40 (lz := ((Nat.min l39.length (128 - (i43).toNat) : Nat) : Int)) (hz := (l39.length : Int)) c52), ⟨⟨rfl, rfl, trivial⟩, (.one .here .nil)⟩⟩
    · have h := br_f h d47
      refine wc_exit _ rfl ?_
      revert h; refine ret_i fun h => ?_
      subst h
      exact ⟨_, _, .nil, (.one .here .nil), ⟨_, rfl, ⟨rfl, rfl⟩⟩⟩
end Go.Proofs.YtiflckckekjbnaaDoor
