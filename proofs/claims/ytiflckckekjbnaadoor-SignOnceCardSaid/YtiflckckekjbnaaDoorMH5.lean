/- Texts of a proof, one behind the other: L7 L8 L9 L10 L11 LZ F0 F1 F2. -/
import Derived.Test.YtiflckckekjbnaaDoorMH4
/- Mirrors. -/
namespace Go.Proofs.YtiflckckekjbnaaDoor
open Go Go.Sx Go.RowKit
set_option linter.all false
set_option maxHeartbeats 400000
set_option maxRecDepth 100000
/- farebox/scalar.split -/
def scalar_split_b1 (p0 : List Int) (k130 : (List (Int)) → Option ((List Int) × (List Int))) (k207 : (List (Int)) → (Int) → Option ((List Int) × (List Int))) (l204 : List (Int)) (i206 : Int) : Option ((List Int) × (List Int)) :=
 br ((decide (i206 < (p0.length : Int)))) (
 chk (inB i206 p0.length) <|
 bnd (p0.getD (i206).toNat 0) fun z213 =>
 bnd (shrV .u64 z213 60) fun z214 =>
 bnd (IntKind.wrap .i64 (i206 + 1)) fun z216 =>
 jn (fun (i224 : Int) => chk (decide ((l204.length + ([i224] : List (Int)).length) * 8 ≤ 140737488355328)) <|
 bnd (l204 ++ ([i224] : List (Int))) fun l238 =>
 bnd (IntKind.wrap .i64 (i206 + 1)) fun z243 =>
 k207 l238 z243) fun k225 => br ((decide (z216 < (p0.length : Int)))) (
 bnd (IntKind.wrap .i64 (i206 + 1)) fun z228 =>
 chk (inB z228 p0.length) <|
 bnd (p0.getD (z228).toNat 0) fun z230 =>
 bnd (shlV .u64 z230 4) fun z231 =>
 bnd (bitsV .or .u64 z214 z231) fun z232 =>
 k225 z232
 ) (
 k225 z214
 )
 ) (
 k130 l204
 )
def scalar_split_l1 (p0 : List Int) (k130 : (List (Int)) → Option ((List Int) × (List Int))) : Nat → (List (Int)) → (Int) → Option ((List Int) × (List Int))
  | 0, _, _ => none
  | n + 1, l204, i206 => scalar_split_b1 p0 k130 (scalar_split_l1 p0 k130 n) l204 i206
def scalar_split (p0 : List Int) : Option ((List Int) × (List Int)) :=
 bnd (wr (List.replicate 4 0) 0 (p0.take 4)) fun l6 =>
 bnd (l6.getD 3 0) fun z8 =>
 bnd (bitsV .and .u64 z8 1152921504606846975) fun z9 =>
 bnd (setD l6 3 z9) fun l10 =>
 jn (fun (l128 : List (Int)) => some (l10, l128)) fun k130 => scalar_split_l1 p0 k130 big [] 3
theorem scalar_split_spec {W : World} {r : (List Int) × (List Int)} {p0 : List Int} {v0 : Value} (h : scalar_split p0 = some r) (A0 : RdSl (El.int .u64) W v0 p0) :
    Calls Tryd.prog 101 [v0].toArray W (retS W [] (fun v Ms => ∃ (u1 : Value) (M1 : List Chunk), v = .tuple #[agg [.ints .u64 4 (r.1)], u1] ∧ Ms = [.all M1] ∧ OwnSl (El.int .u64) u1 M1 r.2)) := by
  unfold scalar_split at h
  refine calls_memT mo ok101 rfl (sat0 _) ?_
  refine wc_seq ?_
  refine wc_ops ?_
  refine wj_e (ef_al fun b2 hb2 => ?_)
  refine wj_q _ (q_mv rfl) ?_
  refine wj_nil ?_
  refine wc_seq ?_
  refine wc_ops ?_
  refine wj_e (ef_al fun b4 hb4 => ?_)
  refine wj_nil ?_
  refine wc_seq ?_
  revert h
  refine bnd_i fun l6 el6 => ?_
  intro h
  refine wc_ops ?_
  refine wj_q _ (q_sla rfl .no .no .no (by simp) (by decide)) ?_
  refine wj_q _ (q_mv rfl) ?_
  refine wj_e (ef_cpyB (q := [.ints .u64 4 (l6)]) (lo := 0) (hi := 4) (mz := 4) (base := 0) (cpy0 el6) rfl rfl (rd_arg A0 apart0) rfl (by decide) rfl .here ?_)
  refine wj_nil ?_
  refine wc_seq ?_
  revert h
  refine bnd_i fun z8 ez8 => ?_
  refine bnd_i fun z9 ez9 => ?_
  refine bnd_i fun l10 el10 => ?_
  intro h
  refine wc_ops ?_
  refine wj_q _ (q_ia rfl rfl (by decide)) ?_
  refine wj_q _ (iz ez8 (q_ld1 rfl .here rfl)) ?_
  refine wj_q _ (iz ez9 (q_bin rfl rfl rfl)) ?_
  refine wj_q _ (q_ia rfl rfl (by decide)) ?_
  refine wj_e (ef_st1z (q := [.ints .u64 4 (l10)]) (congrArg (fun z => ([.ints .u64 4 (z)] : List Seg)) el10.symm) rfl rfl rfl rfl .here ?_)
  refine wj_nil ?_
  refine wc_seq ?_
  refine wc_ops ?_
  refine wj_q _ (q_mv rfl) ?_
  refine wj_nil ?_
  refine wc_seq ?_
  refine wc_seq ?_
  refine wc_ops ?_
  refine wj_q _ (q_mv rfl) ?_
  refine wj_nil ?_
  revert h
  refine jn_i fun k130 qk130 => ?_
  intro h
  refine wc_mono2 (G := fun t m => ∃ (l128 : List (Int)) (v126 : Value) (ms127 : List Chunk), k130 l128 = some r ∧ OwnSl (El.int .u64) v126 ms127 l128 ∧ Fit [(2, .pointer (some ⟨b2, 0, none⟩)), (4, .pointer (some ⟨b4, 0, none⟩)), (5, v126)] (ck b4 93 [.ints .u64 4 (l10)] :: (ck b2 93 [.ints .u64 4 ((List.replicate 4 0))] :: (ms127 ++ []))) t m) ?_ ?_
  · refine wc_block ?_
    refine wc_loopJ (fun n208 t m => ∃ (l204 : List (Int)) (i206 : Int) (v202 : Value) (ms203 : List Chunk), scalar_split_l1 p0 k130 n208 l204 i206 = some r ∧ OwnSl (El.int .u64) v202 ms203 l204 ∧ Fit [(0, v0), (2, .pointer (some ⟨b2, 0, none⟩)), (4, .pointer (some ⟨b4, 0, none⟩)), (5, v202), (6, .int .i64 (i206))] (ck b4 93 [.ints .u64 4 (l10)] :: (ck b2 93 [.ints .u64 4 ((List.replicate 4 0))] :: (ms203 ++ []))) t m) big ?_ ?_
    · exact ⟨[], 3, (.slice none 0 0), [], h, own_nil, ⟨⟨rfl, rfl, rfl, rfl, rfl, trivial⟩, (.one .here (.one .here (.no .nil)))⟩⟩
    · rintro n208 t m ⟨l204, i206, v202, ms203, h, O205, hF⟩
      refine wc_fit hF ?_
      clear hF
      rcases n208 with _ | n208
      · exact none_i h
      have h : scalar_split_b1 p0 k130 (scalar_split_l1 p0 k130 n208) l204 i206 = some r := h
      unfold scalar_split_b1 at h
      obtain ⟨k207, qk207⟩ : ∃ k, k = scalar_split_l1 p0 k130 n208 := ⟨_, rfl⟩
      try rw [← qk207] at h
      refine wc_seq ?_
      refine wc_seq ?_
      refine wc_ops ?_
      refine wj_q _ (q_mv rfl) ?_
      refine wj_q _ (q_mv rfl) ?_
      refine wj_q _ (q_lenP rfl (Shp.rd A0)) ?_
      refine wj_q _ (q_bin rfl rfl rfl) ?_
      refine wj_nil ?_
      refine wc_if (c := (decide (i206 < (p0.length : Int)))) rfl (fun d210 => ?_) (fun d210 => ?_)
      · have h := br_t h d210
        refine wc_skip ?_
        refine wc_seq ?_
        refine wc_block ?_
        refine wc_seq ?_
        revert h
        refine chk_i fun c212 => ?_
        refine bnd_i fun z213 ez213 => ?_
        refine bnd_i fun z214 ez214 => ?_
        intro h
        refine wc_ops ?_
        refine wj_q _ (q_mv rfl) ?_
        refine wj_q _ (q_mv rfl) ?_
        refine wj_q _ (q_iasP rfl rfl (Shp.rd A0) c212) ?_
        refine wj_q _ (iz ez213 (q_ldM10 (E := (El.int .u64)) (s := [.one (.int .u64 (p0.getD (i206).toNat 0))]) rfl (rd_arg A0 apart0) (inB_n c212) rfl rfl)) ?_
        refine wj_q _ (iz ez214 (q_shr rfl rfl (by decide))) ?_
        refine wj_q _ (q_mv rfl) ?_
        refine wj_nil ?_
        refine wc_seq ?_
        refine wc_seq ?_
        revert h
        refine bnd_i fun z216 ez216 => ?_
        intro h
        refine wc_ops ?_
        refine wj_q _ (q_mv rfl) ?_
        refine wj_q _ (iz ez216 (q_bin rfl rfl rfl)) ?_
        refine wj_q _ (q_mv rfl) ?_
        refine wj_q _ (q_lenP rfl (Shp.rd A0)) ?_
        refine wj_q _ (q_bin rfl rfl rfl) ?_
        refine wj_nil ?_
        revert h
        refine jn_i fun k225 qk225 => ?_
        intro h
        refine wc_mono2 (G := fun t m => ∃ (i224 : Int), k225 i224 = some r ∧ Fit [(0, v0), (2, .pointer (some ⟨b2, 0, none⟩)), (4, .pointer (some ⟨b4, 0, none⟩)), (5, v202), (6, .int .i64 (i206)), (7, .int .u64 (i224))] (ck b4 93 [.ints .u64 4 (l10)] :: (ck b2 93 [.ints .u64 4 ((List.replicate 4 0))] :: (ms203 ++ []))) t m) ?_ ?_
        · refine wc_if (c := (decide (z216 < (p0.length : Int)))) rfl (fun d226 => ?_) (fun d226 => ?_)
          · have h := br_t h d226
            revert h
            refine bnd_i fun z228 ez228 => ?_
            refine chk_i fun c229 => ?_
            refine bnd_i fun z230 ez230 => ?_
            refine bnd_i fun z231 ez231 => ?_
            refine bnd_i fun z232 ez232 => ?_
            intro h
            refine wc_ops ?_
            refine wj_q _ (q_mv rfl) ?_
            refine wj_q _ (q_mv rfl) ?_
            refine wj_q _ (q_mv rfl) ?_
            refine wj_q _ (iz ez228 (q_bin rfl rfl rfl)) ?_
            refine wj_q _ (q_iasP rfl rfl (Shp.rd A0) c229) ?_
            refine wj_q _ (iz ez230 (q_ldM10 (E := (El.int .u64)) (s := [.one (.int .u64 (p0.getD (z228).toNat 0))]) rfl (rd_arg A0 apart0) (inB_n c229) rfl rfl)) ?_
            refine wj_q _ (iz ez231 (q_shl rfl rfl (by decide))) ?_
            refine wj_q _ (iz ez232 (q_bin rfl rfl rfl)) ?_
            refine wj_q _ (q_mv rfl) ?_
            refine wj_nil ?_
            exact ⟨z232, h, ⟨⟨rfl, rfl, rfl, rfl, rfl, rfl, trivial⟩, (.one .here (.one .here (.all .here .nil)))⟩⟩
          · have h := br_f h d226
            refine wc_skip ?_
            exact ⟨z214, h, ⟨⟨rfl, rfl, rfl, rfl, rfl, rfl, trivial⟩, (.one .here (.one .here (.all .here .nil)))⟩⟩
        · rintro t m ⟨i224, h, hF⟩
          refine wc_fit hF ?_
          clear hF
          subst qk225
          revert h
          refine chk_i fun c237 => ?_
          refine bnd_i fun l238 el238 => ?_
          intro h
          refine wc_ops ?_
          refine wj_q _ (q_mv rfl) ?_
          refine wj_q _ (q_mv rfl) ?_
          refine wj_e (ef_bsO (E := (El.int .u64)) (xs := [i224]) (.one rfl rfl rfl BdR.nil) (.cons (p := [.one (.int .u64 (i224))]) rfl .nil) rfl fun v234 ms235 O236 => ?_)
          refine wj_e (ef_appO (E := (El.int .u64)) el238 rfl O205 (.app (.there (.there .here))) rfl (rd_own O236 .here) c237 fun v239 ms240 O241 => ?_)
          refine wj_q _ (q_mv rfl) ?_
          refine wj_nil ?_
          revert h
          refine bnd_i fun z243 ez243 => ?_
          intro h
          refine wc_ops ?_
          refine wj_q _ (q_mv rfl) ?_
          refine wj_q _ (iz ez243 (q_bin rfl rfl rfl)) ?_
          refine wj_q _ (q_mv rfl) ?_
          refine wj_nil ?_
          rw [qk207] at h
          exact ⟨n208, Nat.lt_succ_self _, l238, z243, v239, ms240, h, O241, ⟨⟨rfl, rfl, rfl, rfl, rfl, trivial⟩, (.one (.app (.app .here)) (.one (.app (.app .here)) (.all .here .nil)))⟩⟩
      · have h := br_f h d210
        refine wc_exit _ rfl ?_
        exact ⟨l204, v202, ms203, h, O205, ⟨⟨rfl, rfl, rfl, trivial⟩, (.one .here (.one .here (.all .here .nil)))⟩⟩
  · rintro t m ⟨l128, v126, ms127, h, O129, hF⟩
    refine wc_fit hF ?_
    clear hF
    subst qk130
    refine wc_seq ?_
    refine wc_ops ?_
    refine wj_q _ (q_ld (p := [.ints .u64 4 (l10)]) rfl .here rfl) ?_
    refine wj_q _ (q_mv rfl) ?_
    refine wj_e (ef_st (q := [.ints .u64 4 (l10)]) rfl rfl rfl rfl rfl (.there .here) ?_)
    refine wj_q _ (q_mv rfl) ?_
    refine wj_nil ?_
    refine wc_ret ?_
    revert h; refine ret_i fun h => ?_
    subst h
    exact ⟨_, _, (.cons (.agg rfl (.there .here) rfl) (.cons (.tmp rfl) .nil)), (.all (.there (.there .here)) .nil), ⟨_, rfl, ⟨v126, ms127, rfl, rfl, O129⟩⟩⟩
/- farebox/scalar.rest -/
def scalar_rest  : Option ((List Int)) :=
 some ([6346243789798364141, 1503914060200516822] : List (Int))
theorem scalar_rest_spec {W : World} {r : (List Int)} (h : scalar_rest  = some r)  :
    Calls Tryd.prog 102 [].toArray W (retS W [] (fun v Ms => ∃ (u0 : Value) (M0 : List Chunk), v = u0 ∧ Ms = [.all M0] ∧ OwnSl (El.int .u64) u0 M0 r)) := by
  unfold scalar_rest at h
  refine calls_memT mo ok102 rfl (sat0 _) ?_
  refine wc_seq ?_
  refine wc_ops ?_
  refine wj_q _ (q_mv rfl) ?_
  refine wj_nil ?_
  refine wc_seq ?_
  refine wc_ops ?_
  refine wj_e (ef_bsO (E := (El.int .u64)) (xs := [6346243789798364141, 1503914060200516822]) (.one rfl rfl rfl (.one rfl rfl rfl BdR.nil)) (.cons (p := [.one (.int .u64 (6346243789798364141))]) rfl (.cons (p := [.one (.int .u64 (1503914060200516822))]) rfl .nil)) rfl fun v3 ms4 O5 => ?_)
  refine wj_q _ (q_mv rfl) ?_
  refine wj_nil ?_
  refine wc_ret ?_
  revert h; refine ret_i fun h => ?_
  subst h
  exact ⟨_, _, (.cons (.tmp rfl) .nil), (.all .here .nil), ⟨_, rfl, ⟨v3, ms4, rfl, rfl, O5⟩⟩⟩
/- farebox/scalar.reduce -/
abbrev E_a4_El_int_u64 : El (List Int) := ⟨4, fun x => cells [.ints .u64 4 (x)], fun x => by rw [cells_length]; rfl, fun x => (ones_cons ones_ints ones_nil), by decide, (List.replicate 4 0)⟩
def scalar_reduce_b1 (k122 : (List (List Int)) → Option ((List Int))) (k201 : (List (Int)) → (Int) → (List (List Int)) → Option ((List Int))) (l196 : List (Int)) (i199 : Int) (a200 : List (List Int)) : Option ((List Int)) :=
 br ((decide (i199 < 4))) (
 opt (scalar_split l196) fun y209 =>
 bnd (Int.tmod i199 2) fun z216 =>
 bnd (Int.tmod i199 2) fun z217 =>
 chk (inB z217 2) <|
 bnd (a200.getD (z217).toNat (List.replicate 4 0)) fun x219 =>
 opt (scalar_plus x219 y209.1) fun y220 =>
 chk (inB z216 2) <|
 bnd (setG (List.replicate 4 0) a200 (z216).toNat y220.1) fun l222 =>
 opt (scalar_rest ) fun y224 =>
 opt (scalar_times y209.2 y224) fun y230 =>
 bnd (IntKind.wrap .i64 (i199 + 1)) fun z237 =>
 k201 y230 z237 l222
 ) (
 k122 a200
 )
def scalar_reduce_l1 (k122 : (List (List Int)) → Option ((List Int))) : Nat → (List (Int)) → (Int) → (List (List Int)) → Option ((List Int))
  | 0, _, _, _ => none
  | n + 1, l196, i199, a200 => scalar_reduce_b1 k122 (scalar_reduce_l1 k122 n) l196 i199 a200
def scalar_reduce (p0 : List Int) : Option ((List Int)) :=
 jn (fun (a121 : List (List Int)) => opt (scalar_plus G_order G_order) fun y239 =>
 bnd (a121.getD 0 (List.replicate 4 0)) fun x242 =>
 opt (scalar_plus x242 y239.1) fun y243 =>
 bnd (a121.getD 1 (List.replicate 4 0)) fun x246 =>
 opt (scalar_minus y243.1 x246) fun y247 =>
 opt (scalar_below y247.1) fun y249 =>
 some y249) fun k122 => scalar_reduce_l1 k122 big p0 0 (List.replicate 2 (List.replicate 4 0))
theorem scalar_reduce_spec {W : World} {r : (List Int)} {p0 : List Int} {v0 : Value} (h : scalar_reduce p0 = some r) (hG : Globs W) (A0 : RdSl (El.int .u64) W v0 p0) :
    Calls Tryd.prog 83 [v0].toArray W (ret1 W (agg [.ints .u64 4 (r)])) := by
  unfold scalar_reduce at h
  refine calls_val mo ok83 rfl ?_
  refine wc_seq ?_
  refine wc_ops ?_
  refine wj_e (ef_al fun b2 hb2 => ?_)
  refine wj_nil ?_
  refine wc_seq ?_
  refine wc_ops ?_
  refine wj_e (ef_al2 (z' := [.rows 4 2 (rowE E_a4_El_int_u64 ((List.replicate 2 (List.replicate 4 0))))]) (alz_rows (E := E_a4_El_int_u64) rfl rfl) fun b4 hb4 => ?_)
  refine wj_nil ?_
  refine wc_seq ?_
  refine wc_seq ?_
  refine wc_ops ?_
  refine wj_q _ (q_mv rfl) ?_
  refine wj_nil ?_
  revert h
  refine jn_i fun k122 qk122 => ?_
  intro h
  refine wc_mono2 (G := fun t m => ∃ (a121 : List (List Int)), k122 a121 = some r ∧ Fit [(2, .pointer (some ⟨b2, 0, none⟩)), (3, .pointer (some ⟨b4, 0, none⟩))] (ck b4 158 [.rows 4 2 (rowE E_a4_El_int_u64 (a121))] :: (ck b2 93 [.ints .u64 4 ((List.replicate 4 0))] :: [])) t m) ?_ ?_
  · refine wc_block ?_
    refine wc_loopJ (fun n202 t m => ∃ (l196 : List (Int)) (i199 : Int) (a200 : List (List Int)) (v194 : Value) (ms195 : List Chunk), scalar_reduce_l1 k122 n202 l196 i199 a200 = some r ∧ SrcM (⟨Tryd.prog, d83.n, W, []⟩ : Cfg) ms195 (El.int .u64) v194 l196 ∧ Shp v194 l196.length ∧ Fit [(0, v194), (2, .pointer (some ⟨b2, 0, none⟩)), (3, .pointer (some ⟨b4, 0, none⟩)), (10, .int .i64 (i199))] (ck b4 158 [.rows 4 2 (rowE E_a4_El_int_u64 (a200))] :: (ck b2 93 [.ints .u64 4 ((List.replicate 4 0))] :: (ms195 ++ []))) t m) big ?_ ?_
    · exact ⟨p0, 0, (List.replicate 2 (List.replicate 4 0)), v0, [], h, (rd_arg A0 apart0), (Shp.rd A0), ⟨⟨rfl, rfl, rfl, rfl, trivial⟩, (.one .here (.one .here (.no .nil)))⟩⟩
    · rintro n202 t m ⟨l196, i199, a200, v194, ms195, h, H197, Z198, hF⟩
      refine wc_fit hF ?_
      clear hF
      rcases n202 with _ | n202
      · exact none_i h
      have h : scalar_reduce_b1 k122 (scalar_reduce_l1 k122 n202) l196 i199 a200 = some r := h
      unfold scalar_reduce_b1 at h
      obtain ⟨k201, qk201⟩ : ∃ k, k = scalar_reduce_l1 k122 n202 := ⟨_, rfl⟩
      try rw [← qk201] at h
      refine wc_seq ?_
      refine wc_ops ?_
      refine wj_q _ (q_bin rfl rfl rfl) ?_
      refine wj_nil ?_
      refine wc_seq ?_
      refine wc_if (c := (decide (i199 < 4))) rfl (fun d204 => ?_) (fun d204 => ?_)
      · have h := br_t h d204
        refine wc_skip ?_
        refine wc_seq ?_
        refine wc_block ?_
        refine wc_seq ?_
        refine wc_ops ?_
        refine wj_q _ (q_mv rfl) ?_
        refine wj_q _ (q_mv rfl) ?_
        refine wj_nil ?_
        refine wc_seq ?_
        refine wc_ops ?_
        refine wj_e (ef_al fun b207 hb207 => ?_)
        refine wj_nil ?_
        refine wc_seq ?_
        revert h
        refine opt_i fun y209 ey209 => ?_
        intro h
        refine wc_ops ?_
        refine wj_q _ (q_mv rfl) ?_
        refine wj_e (ef_callS0 rfl (fun w hw => scalar_split_spec (r := y209) (p0 := l196) ey209 ((rd_in H197 (.there (.there (.there .here)))) w hw)) fun v210 Msv210 R211 => ?_)
        obtain ⟨v212, ms213, rfl, rfl, O214⟩ := R211
        refine wj_q _ (q_mv rfl) ?_
        refine wj_q _ (q_ext rfl rfl) ?_
        refine wj_q _ (q_ext rfl rfl) ?_
        refine wj_e (ef_st (q := [.ints .u64 4 (y209.1)]) rfl rfl rfl rfl rfl (.app .here) ?_)
        refine wj_q _ (q_mv rfl) ?_
        refine wj_nil ?_
        refine wc_seq ?_
        revert h
        refine bnd_i fun z216 ez216 => ?_
        refine bnd_i fun z217 ez217 => ?_
        refine chk_i fun c218 => ?_
        refine bnd_i fun x219 ex219 => ?_
        refine opt_i fun y220 ey220 => ?_
        refine chk_i fun c221 => ?_
        refine bnd_i fun l222 el222 => ?_
        intro h
        refine wc_draw ?_
        refine ws_p1 _ (q_mv rfl) ?_
        refine ws_p1 _ (iz ez216 (q_rem rfl rfl (by decide))) ?_
        refine ws_p1 _ (q_mv rfl) ?_
        refine ws_p1 _ (iz ez217 (q_rem rfl rfl (by decide))) ?_
        refine ws_p1 _ (q_ia rfl rfl (inB_z c218)) ?_
        refine ws_q1 _ (az (fun x219 => agg [.ints .u64 4 (x219)]) ex219 (q_ldr0 (base := 0) (w := 4) rfl (.app (.there .here)) rfl (inB_n c218) rfl rfl rfl)) ?_
        refine ws_q1 _ (q_ld (p := [.ints .u64 4 (y209.1)]) rfl (.app .here) rfl) ?_
        refine ws_p1 _ (q_call (vs := [agg [.ints .u64 4 (x219)], agg [.ints .u64 4 (y209.1)]]) (v := .tuple #[agg [.ints .u64 4 (y220.1)], .int .u64 (y220.2)]) rfl (fun w hw => scalar_plus_spec (r := y220) (p0 := x219) (p1 := y209.1) ey220 )) ?_
        refine ws_p1 _ (q_mv rfl) ?_
        refine ws_p1 _ (q_ext rfl rfl) ?_
        refine ws_p1 _ (q_ext rfl rfl) ?_
        refine ws_p1 _ (q_ia rfl rfl (inB_z c221)) ?_
        refine ws_eL rfl (ef_strz (q := [.rows 4 2 (rowE E_a4_El_int_u64 (l222))]) (E := E_a4_El_int_u64) (base := 0) el222 rfl rfl rfl rfl (inB_n c221) rfl (.app (.there .here)) ?_)
        refine ws_nil ?_
        revert h
        refine opt_i fun y224 ey224 => ?_
        refine opt_i fun y230 ey230 => ?_
        intro h
        refine wc_ops ?_
        refine wj_q _ (q_mv rfl) ?_
        refine wj_e (ef_callS0 rfl (fun w hw => scalar_rest_spec (r := y224) ey224 ) fun v225 Msv225 R226 => ?_)
        obtain ⟨_, ms228, rfl, rfl, O229⟩ := R226
        refine wj_e (ef_callS0 rfl (fun w hw => scalar_times_spec (r := y230) (p0 := y209.2) (p1 := y224) ey230 ((rd_own O214 (.app .here)) w hw) ((rd_own O229 .here) w hw)) fun v231 Msv231 R232 => ?_)
        obtain ⟨_, ms234, rfl, rfl, O235⟩ := R232
        refine wj_q _ (q_mv rfl) ?_
        refine wj_nil ?_
        revert h
        refine bnd_i fun z237 ez237 => ?_
        intro h
        refine wc_ops ?_
        refine wj_q _ (iz ez237 (q_bin rfl rfl rfl)) ?_
        refine wj_q _ (q_mv rfl) ?_
        refine wj_nil ?_
        rw [qk201] at h
        exact ⟨n202, Nat.lt_succ_self _, y230, z237, l222, v231, ms234, h, (rd_ownm O235), (Shp.own O235), ⟨⟨rfl, rfl, rfl, rfl, trivial⟩, (.one (.app (.app (.app (.there .here)))) (.one (.app (.app (.app (.there .here)))) (.all .here .nil)))⟩⟩
      · have h := br_f h d204
        refine wc_exit _ rfl ?_
        exact ⟨a200, h, ⟨⟨rfl, rfl, trivial⟩, (.one .here (.one .here .nil))⟩⟩
  · rintro t m ⟨a121, h, hF⟩
    refine wc_fit hF ?_
    clear hF
    subst qk122
    refine wc_seq ?_
    revert h
    refine opt_i fun y239 ey239 => ?_
    intro h
    refine wc_ops ?_
    refine wj_q _ (q_mem (o0 := 0) (off := 0) rfl (hG.g0) (by simp) rfl) ?_
    refine wj_q _ (q_mem (o0 := 0) (off := 0) rfl (hG.g0) (by simp) rfl) ?_
    refine wj_q _ (q_call (vs := [agg [.ints .u64 4 (G_order)], agg [.ints .u64 4 (G_order)]]) (v := .tuple #[agg [.ints .u64 4 (y239.1)], .int .u64 (y239.2)]) rfl (fun w hw => scalar_plus_spec (r := y239) (p0 := G_order) (p1 := G_order) ey239 )) ?_
    refine wj_q _ (q_mv rfl) ?_
    refine wj_q _ (q_ext rfl rfl) ?_
    refine wj_q _ (q_ext rfl rfl) ?_
    refine wj_e (ef_al fun b240 hb240 => ?_)
    refine wj_e (ef_st (q := [.ints .u64 4 (y239.1)]) rfl rfl rfl rfl rfl .here ?_)
    refine wj_q _ (q_mv rfl) ?_
    refine wj_nil ?_
    refine wc_seq ?_
    revert h
    refine bnd_i fun x242 ex242 => ?_
    refine opt_i fun y243 ey243 => ?_
    intro h
    refine wc_ops ?_
    refine wj_q _ (q_ia rfl rfl (by decide)) ?_
    refine wj_q _ (az (fun x242 => agg [.ints .u64 4 (x242)]) ex242 (q_ldr (base := 0) (i := 0) (c := 0) (w := 4) (len := 2) rfl (.there .here) rfl (by decide) rfl rfl rfl)) ?_
    refine wj_q _ (q_ld (p := [.ints .u64 4 (y239.1)]) rfl .here rfl) ?_
    refine wj_q _ (q_call (vs := [agg [.ints .u64 4 (x242)], agg [.ints .u64 4 (y239.1)]]) (v := .tuple #[agg [.ints .u64 4 (y243.1)], .int .u64 (y243.2)]) rfl (fun w hw => scalar_plus_spec (r := y243) (p0 := x242) (p1 := y239.1) ey243 )) ?_
    refine wj_q _ (q_mv rfl) ?_
    refine wj_q _ (q_ext rfl rfl) ?_
    refine wj_q _ (q_ext rfl rfl) ?_
    refine wj_e (ef_al fun b244 hb244 => ?_)
    refine wj_e (ef_st (q := [.ints .u64 4 (y243.1)]) rfl rfl rfl rfl rfl .here ?_)
    refine wj_q _ (q_mv rfl) ?_
    refine wj_nil ?_
    refine wc_seq ?_
    revert h
    refine bnd_i fun x246 ex246 => ?_
    refine opt_i fun y247 ey247 => ?_
    intro h
    refine wc_ops ?_
    refine wj_q _ (q_ld (p := [.ints .u64 4 (y243.1)]) rfl .here rfl) ?_
    refine wj_q _ (q_ia rfl rfl (by decide)) ?_
    refine wj_q _ (az (fun x246 => agg [.ints .u64 4 (x246)]) ex246 (q_ldr (base := 0) (i := 1) (c := 0) (w := 4) (len := 2) rfl (.there (.there .here)) rfl (by decide) rfl rfl rfl)) ?_
    refine wj_q _ (q_call (vs := [agg [.ints .u64 4 (y243.1)], agg [.ints .u64 4 (x246)]]) (v := .tuple #[agg [.ints .u64 4 (y247.1)], .int .u64 (y247.2)]) rfl (fun w hw => scalar_minus_spec (r := y247) (p0 := y243.1) (p1 := x246) ey247 )) ?_
    refine wj_q _ (q_mv rfl) ?_
    refine wj_q _ (q_ext rfl rfl) ?_
    refine wj_q _ (q_ext rfl rfl) ?_
    refine wj_e (ef_st (q := [.ints .u64 4 (y247.1)]) rfl rfl rfl rfl rfl .here ?_)
    refine wj_nil ?_
    refine wc_seq ?_
    revert h
    refine opt_i fun y249 ey249 => ?_
    intro h
    refine wc_ops ?_
    refine wj_q _ (q_ld (p := [.ints .u64 4 (y247.1)]) rfl .here rfl) ?_
    refine wj_q _ (q_call (vs := [agg [.ints .u64 4 (y247.1)]]) (v := agg [.ints .u64 4 (y249)]) rfl (fun w hw => scalar_below_spec (r := y249) (p0 := y247.1) ey249 (hG.at hw (by simp)))) ?_
    refine wj_e (ef_st (q := [.ints .u64 4 (y249)]) rfl rfl rfl rfl rfl (.there (.there (.there .here))) ?_)
    refine wj_nil ?_
    refine wc_ret ?_
    revert h; refine ret_i fun h => ?_
    subst h
    exact ⟨_, (.cons (.agg rfl (.there (.there (.there .here))) rfl) .nil), rfl⟩
/- farebox/scalar.Reduce -/
def scalar_Reduce_b1 (p0 : List Int) (k40 : (List Int) → Option ((List Int))) (k61 : (Int) → (List Int) → Option ((List Int))) (i59 : Int) (a60 : List Int) : Option ((List Int)) :=
 br ((decide (i59 < 8))) (
 bnd (IntKind.wrap .i64 (8 * i59)) fun z67 =>
 opt (bits_LoadLE_uint64 (tk p0 0 64) z67) fun y68 =>
 chk (inB i59 8) <|
 bnd (setD a60 (i59).toNat y68.1) fun l70 =>
 bnd (IntKind.wrap .i64 (i59 + 1)) fun z72 =>
 k61 z72 l70
 ) (
 k40 a60
 )
def scalar_Reduce_l1 (p0 : List Int) (k40 : (List Int) → Option ((List Int))) : Nat → (Int) → (List Int) → Option ((List Int))
  | 0, _, _ => none
  | n + 1, i59, a60 => scalar_Reduce_b1 p0 k40 (scalar_Reduce_l1 p0 k40 n) i59 a60
def scalar_Reduce (p0 : List Int) : Option ((List Int)) :=
 jn (fun (a39 : List Int) => opt (scalar_reduce (tk a39 0 8)) fun y74 =>
 opt (scalar_store y74) fun y75 =>
 some y75) fun k40 => scalar_Reduce_l1 p0 k40 big 0 (List.replicate 8 0)
theorem scalar_Reduce_spec {W : World} {r : (List Int)} {p0 : List Int} (h : scalar_Reduce p0 = some r) (hG : Globs W) :
    Calls Tryd.prog 47 [agg [.ints .u8 64 (p0)]].toArray W (ret1 W (agg [.ints .u8 32 (r)])) := by
  unfold scalar_Reduce at h
  refine calls_val mo ok47 rfl ?_
  refine wc_seq ?_
  refine wc_ops ?_
  refine wj_e (ef_bx (s := [.ints .u8 64 (p0)]) rfl fun b2 hb2 => ?_)
  refine wj_e (ef_al fun b3 hb3 => ?_)
  refine wj_nil ?_
  refine wc_seq ?_
  refine wc_ops ?_
  refine wj_e (ef_al fun b5 hb5 => ?_)
  refine wj_nil ?_
  refine wc_seq ?_
  refine wc_seq ?_
  refine wc_ops ?_
  refine wj_q _ (q_mv rfl) ?_
  refine wj_nil ?_
  revert h
  refine jn_i fun k40 qk40 => ?_
  intro h
  refine wc_mono2 (G := fun t m => ∃ (a39 : List Int), k40 a39 = some r ∧ Fit [(2, .pointer (some ⟨b3, 0, none⟩)), (3, .pointer (some ⟨b5, 0, none⟩))] (ck b5 135 [.ints .u64 8 (a39)] :: (ck b3 63 [.ints .u8 32 ((List.replicate 32 0))] :: (ck b2 101 [.ints .u8 64 (p0)] :: []))) t m) ?_ ?_
  · refine wc_block ?_
    refine wc_loopJ (fun n62 t m => ∃ (i59 : Int) (a60 : List Int), scalar_Reduce_l1 p0 k40 n62 i59 a60 = some r ∧ Fit [(1, .pointer (some ⟨b2, 0, none⟩)), (2, .pointer (some ⟨b3, 0, none⟩)), (3, .pointer (some ⟨b5, 0, none⟩)), (5, .int .i64 (i59))] (ck b5 135 [.ints .u64 8 (a60)] :: (ck b3 63 [.ints .u8 32 ((List.replicate 32 0))] :: (ck b2 101 [.ints .u8 64 (p0)] :: []))) t m) big ?_ ?_
    · exact ⟨0, (List.replicate 8 0), h, ⟨⟨rfl, rfl, rfl, rfl, trivial⟩, (.one .here (.one .here (.one .here .nil)))⟩⟩
    · rintro n62 t m ⟨i59, a60, h, hF⟩
      refine wc_fit hF ?_
      clear hF
      rcases n62 with _ | n62
      · exact none_i h
      have h : scalar_Reduce_b1 p0 k40 (scalar_Reduce_l1 p0 k40 n62) i59 a60 = some r := h
      unfold scalar_Reduce_b1 at h
      obtain ⟨k61, qk61⟩ : ∃ k, k = scalar_Reduce_l1 p0 k40 n62 := ⟨_, rfl⟩
      try rw [← qk61] at h
      refine wc_seq ?_
      refine wc_ops ?_
      refine wj_q _ (q_bin rfl rfl rfl) ?_
      refine wj_nil ?_
      refine wc_seq ?_
      refine wc_if (c := (decide (i59 < 8))) rfl (fun d64 => ?_) (fun d64 => ?_)
      · have h := br_t h d64
        refine wc_skip ?_
        refine wc_seq ?_
        refine wc_block ?_
        refine wc_seq ?_
        refine wc_ops ?_
        refine wj_q _ (q_mv rfl) ?_
        refine wj_q _ (q_mv rfl) ?_
        refine wj_nil ?_
        revert h
        refine bnd_i fun z67 ez67 => ?_
        refine opt_i fun y68 ey68 => ?_
        refine chk_i fun c69 => ?_
        refine bnd_i fun l70 el70 => ?_
        intro h
        refine wc_ops ?_
        refine wj_q _ (q_mv rfl) ?_
        refine wj_q _ (q_sla rfl .no .no .no (by simp) (by decide)) ?_
        refine wj_q _ (q_mv rfl) ?_
        refine wj_q _ (iz ez67 (q_bin rfl rfl rfl)) ?_
        refine wj_q _ (q_call (vs := [(.slice (some (slAddr b2 0 0 64 1)) (64 - 0) (64 - 0)), .int .i64 (z67)]) (v := .tuple #[.int .u64 (y68.1), .bool (y68.2)]) rfl (fun w hw => bits_LoadLE_uint64_spec (r := y68) (p0 := (tk p0 0 64)) (p1 := z67) ey68 ((rd_blk_i (s := [.ints .u8 64 (p0)]) (N := 64) (k := .u8) (base := 0) (lo := 0) (hi := 64) (mz := 64) (.there (.there .here)) rfl (by decide)) w hw))) ?_
        refine wj_q _ (q_mv rfl) ?_
        refine wj_q _ (q_ext rfl rfl) ?_
        refine wj_q _ (q_ext rfl rfl) ?_
        refine wj_q _ (q_ia rfl rfl (inB_z c69)) ?_
        refine wj_e (ef_stiz (q := [.ints .u64 8 (l70)]) (base := 0) el70 rfl rfl rfl (inB_n c69) rfl .here ?_)
        refine wj_nil ?_
        revert h
        refine bnd_i fun z72 ez72 => ?_
        intro h
        refine wc_ops ?_
        refine wj_q _ (iz ez72 (q_bin rfl rfl rfl)) ?_
        refine wj_q _ (q_mv rfl) ?_
        refine wj_nil ?_
        rw [qk61] at h
        exact ⟨n62, Nat.lt_succ_self _, z72, l70, h, ⟨⟨rfl, rfl, rfl, rfl, trivial⟩, (.one .here (.one .here (.one .here .nil)))⟩⟩
      · have h := br_f h d64
        refine wc_exit _ rfl ?_
        exact ⟨a60, h, ⟨⟨rfl, rfl, trivial⟩, (.one .here (.one .here (.one .here .nil)))⟩⟩
  · rintro t m ⟨a39, h, hF⟩
    refine wc_fit hF ?_
    clear hF
    subst qk40
    refine wc_seq ?_
    revert h
    refine opt_i fun y74 ey74 => ?_
    refine opt_i fun y75 ey75 => ?_
    intro h
    refine wc_ops ?_
    refine wj_q _ (q_sla rfl .no .no .no (by simp) (by decide)) ?_
    refine wj_q _ (q_call (vs := [(.slice (some (slAddr b5 0 0 8 1)) (8 - 0) (8 - 0))]) (v := agg [.ints .u64 4 (y74)]) rfl (fun w hw => scalar_reduce_spec (r := y74) (p0 := (tk a39 0 8)) ey74 (hG.at hw (by simp)) ((rd_blk_i (s := [.ints .u64 8 (a39)]) (N := 8) (k := .u64) (base := 0) (lo := 0) (hi := 8) (mz := 8) .here rfl (by decide)) w hw))) ?_
    refine wj_q _ (q_call (vs := [agg [.ints .u64 4 (y74)]]) (v := agg [.ints .u8 32 (y75)]) rfl (fun w hw => scalar_store_spec (r := y75) (p0 := y74) ey75 )) ?_
    refine wj_e (ef_st (q := [.ints .u8 32 (y75)]) rfl rfl rfl rfl rfl (.there .here) ?_)
    refine wj_nil ?_
    refine wc_ret ?_
    revert h; refine ret_i fun h => ?_
    subst h
    exact ⟨_, (.cons (.agg rfl (.there .here) rfl) .nil), rfl⟩
/- (*farebox/sha512.Digest).Clone -/
def sha512_Digest_Clone (p0 : sha512_Digest) : Option (sha512_Digest × sha512_Digest) :=
 some (p0, p0)
theorem sha512_Digest_Clone_spec {W : World} {r : sha512_Digest × sha512_Digest} {p0 : sha512_Digest} {b : Nat} {T : TypeId} (h : sha512_Digest_Clone p0 = some r) (h0 : Sat W [b] (ck b T [.ints .u64 8 (p0.gstate), .ints .u8 128 (p0.gheld), .one (.int .i64 (p0.ghave)), .one (.int .u64 (p0.glength))] :: []) W) :
    Calls Tryd.prog 84 [.pointer (some ⟨b, 0, none⟩)].toArray W (retS W [b] (fun v Ms => ∃ (b0 : Nat) (T0 : TypeId), v = .pointer (some ⟨b0, 0, none⟩) ∧ Ms = [.one (ck b0 T0 [.ints .u64 8 (r.1.gstate), .ints .u8 128 (r.1.gheld), .one (.int .i64 (r.1.ghave)), .one (.int .u64 (r.1.glength))]), .one (ck b T [.ints .u64 8 (r.2.gstate), .ints .u8 128 (r.2.gheld), .one (.int .i64 (r.2.ghave)), .one (.int .u64 (r.2.glength))])])) := by
  unfold sha512_Digest_Clone at h
  refine calls_memT mo ok84 rfl h0 ?_
  refine wc_seq ?_
  refine wc_ops ?_
  refine wj_q _ (q_mv rfl) ?_
  refine wj_nil ?_
  refine wc_seq ?_
  refine wc_ops ?_
  refine wj_q _ (q_mv rfl) ?_
  refine wj_q _ (q_nilc rfl) ?_
  refine wj_q _ (q_ld (p := [.ints .u64 8 (p0.gstate), .ints .u8 128 (p0.gheld), .one (.int .i64 (p0.ghave)), .one (.int .u64 (p0.glength))]) rfl .here rfl) ?_
  refine wj_e (ef_al fun b3 hb3 => ?_)
  refine wj_e (ef_st (q := [.ints .u64 8 (p0.gstate), .ints .u8 128 (p0.gheld), .one (.int .i64 (p0.ghave)), .one (.int .u64 (p0.glength))]) rfl rfl rfl rfl rfl .here ?_)
  refine wj_nil ?_
  refine wc_seq ?_
  refine wc_ops ?_
  refine wj_q _ (q_mv rfl) ?_
  refine wj_nil ?_
  refine wc_ret ?_
  revert h; refine ret_i fun h => ?_
  subst h
  exact ⟨_, _, (.cons (.tmp rfl) .nil), (.one .here (.one .here .nil)), ⟨_, rfl, ⟨b3, 138, rfl, rfl⟩⟩⟩
/- farebox/bits.StoreBE[uint64] -/
def bits_StoreBE_uint64_b1 (k65 : (List (Int)) → Option ((List Int))) (k102 : (Int) → (List (Int)) → (Int) → Option ((List Int))) (i96 : Int) (l99 : List (Int)) (i101 : Int) : Option ((List Int)) :=
 br ((decide (i101 ≥ 0))) (
 bnd (IntKind.wrap .u8 i96) fun z107 =>
 chk (inB i101 l99.length) <|
 bnd (setG 0 l99 (i101).toNat z107) fun l109 =>
 bnd (shrV .u64 i96 8) fun z113 =>
 bnd (IntKind.wrap .i64 (i101 - 1)) fun z115 =>
 k102 z113 l109 z115
 ) (
 k65 l99
 )
def bits_StoreBE_uint64_l1 (k65 : (List (Int)) → Option ((List Int))) : Nat → (Int) → (List (Int)) → (Int) → Option ((List Int))
  | 0, _, _, _ => none
  | n + 1, i96, l99, i101 => bits_StoreBE_uint64_b1 k65 (bits_StoreBE_uint64_l1 k65 n) i96 l99 i101
def bits_StoreBE_uint64 (p0 : Int) : Option ((List Int)) :=
 opt (bits_width_uint64) fun y3 =>
 bnd (IntKind.wrap .i64 (Int.tdiv y3 8)) fun z4 =>
 chk (mkB 1 z4 z4) <|
 bnd (IntKind.wrap .i64 (((List.replicate (z4).toNat 0 : List (Int)).length : Int) - 1)) fun z10 =>
 jn (fun (l63 : List (Int)) => some l63) fun k65 => bits_StoreBE_uint64_l1 k65 big p0 (List.replicate (z4).toNat 0 : List (Int)) z10
theorem bits_StoreBE_uint64_spec {W : World} {r : (List Int)} {p0 : Int} (h : bits_StoreBE_uint64 p0 = some r)  :
    Calls Tryd.prog 86 [.int .u64 (p0)].toArray W (retS W [] (fun v Ms => ∃ (u0 : Value) (M0 : List Chunk), v = u0 ∧ Ms = [.all M0] ∧ OwnSl (El.int .u8) u0 M0 r)) := by
  unfold bits_StoreBE_uint64 at h
  refine calls_memT mo ok86 rfl (sat0 _) ?_
  refine wc_seq ?_
  refine wc_ops ?_
  refine wj_q _ (q_mv rfl) ?_
  refine wj_nil ?_
  refine wc_seq ?_
  revert h
  refine opt_i fun y3 ey3 => ?_
  refine bnd_i fun z4 ez4 => ?_
  refine chk_i fun c5 => ?_
  intro h
  refine wc_ops ?_
  refine wj_q _ (q_call (vs := []) (v := .int .i64 (y3)) rfl (fun w hw => bits_width_uint64_spec (r := y3) ey3 )) ?_
  refine wj_q _ (iz ez4 (q_quo rfl rfl (by decide))) ?_
  refine wj_e (ef_mksO (E := (El.int .u8)) rfl rfl rfl c5 fun v6 ms7 O8 => ?_)
  refine wj_q _ (q_mv rfl) ?_
  refine wj_nil ?_
  refine wc_seq ?_
  refine wc_seq ?_
  revert h
  refine bnd_i fun z10 ez10 => ?_
  intro h
  refine wc_ops ?_
  refine wj_q _ (q_mv rfl) ?_
  refine wj_q _ (q_lenP rfl (Shp.own O8)) ?_
  refine wj_q _ (iz ez10 (q_bin rfl rfl rfl)) ?_
  refine wj_q _ (q_mv rfl) ?_
  refine wj_nil ?_
  revert h
  refine jn_i fun k65 qk65 => ?_
  intro h
  refine wc_mono2 (G := fun t m => ∃ (l63 : List (Int)) (v61 : Value) (ms62 : List Chunk), k65 l63 = some r ∧ OwnSl (El.int .u8) v61 ms62 l63 ∧ Fit [(3, v61)] (ms62 ++ []) t m) ?_ ?_
  · refine wc_block ?_
    refine wc_loopJ (fun n103 t m => ∃ (i96 : Int) (l99 : List (Int)) (i101 : Int) (v97 : Value) (ms98 : List Chunk), bits_StoreBE_uint64_l1 k65 n103 i96 l99 i101 = some r ∧ OwnSl (El.int .u8) v97 ms98 l99 ∧ Fit [(0, .int .u64 (i96)), (3, v97), (4, .int .i64 (i101))] (ms98 ++ []) t m) big ?_ ?_
    · exact ⟨p0, (List.replicate (z4).toNat 0 : List (Int)), z10, v6, ms7, h, O8, ⟨⟨rfl, rfl, rfl, trivial⟩, (.all .here .nil)⟩⟩
    · rintro n103 t m ⟨i96, l99, i101, v97, ms98, h, O100, hF⟩
      refine wc_fit hF ?_
      clear hF
      rcases n103 with _ | n103
      · exact none_i h
      have h : bits_StoreBE_uint64_b1 k65 (bits_StoreBE_uint64_l1 k65 n103) i96 l99 i101 = some r := h
      unfold bits_StoreBE_uint64_b1 at h
      obtain ⟨k102, qk102⟩ : ∃ k, k = bits_StoreBE_uint64_l1 k65 n103 := ⟨_, rfl⟩
      try rw [← qk102] at h
      refine wc_seq ?_
      refine wc_seq ?_
      refine wc_ops ?_
      refine wj_q _ (q_mv rfl) ?_
      refine wj_q _ (q_bin rfl rfl rfl) ?_
      refine wj_nil ?_
      refine wc_if (c := (decide (i101 ≥ 0))) rfl (fun d105 => ?_) (fun d105 => ?_)
      · have h := br_t h d105
        refine wc_skip ?_
        refine wc_seq ?_
        refine wc_block ?_
        refine wc_seq ?_
        revert h
        refine bnd_i fun z107 ez107 => ?_
        refine chk_i fun c108 => ?_
        refine bnd_i fun l109 el109 => ?_
        intro h
        refine wc_ops ?_
        refine wj_q _ (q_mv rfl) ?_
        refine wj_q _ (q_mv rfl) ?_
        refine wj_q _ (q_mv rfl) ?_
        refine wj_q _ (iz ez107 (q_conv rfl)) ?_
        refine wj_q _ (q_iasP rfl rfl (Shp.own O100) c108) ?_
        refine wj_e (ef_stO (E := (El.int .u8)) el109 O100 .here rfl rfl rfl (inB_n c108) fun ms110 O111 => ?_)
        refine wj_nil ?_
        revert h
        refine bnd_i fun z113 ez113 => ?_
        intro h
        refine wc_ops ?_
        refine wj_q _ (q_mv rfl) ?_
        refine wj_q _ (iz ez113 (q_shr rfl rfl (by decide))) ?_
        refine wj_q _ (q_mv rfl) ?_
        refine wj_nil ?_
        revert h
        refine bnd_i fun z115 ez115 => ?_
        intro h
        refine wc_ops ?_
        refine wj_q _ (q_mv rfl) ?_
        refine wj_q _ (iz ez115 (q_bin rfl rfl rfl)) ?_
        refine wj_q _ (q_mv rfl) ?_
        refine wj_nil ?_
        rw [qk102] at h
        exact ⟨n103, Nat.lt_succ_self _, z113, l109, z115, v97, ms110, h, O111, ⟨⟨rfl, rfl, rfl, trivial⟩, (.all .here .nil)⟩⟩
      · have h := br_f h d105
        refine wc_exit _ rfl ?_
        exact ⟨l99, v97, ms98, h, O100, ⟨⟨rfl, trivial⟩, (.all .here .nil)⟩⟩
  · rintro t m ⟨l63, v61, ms62, h, O64, hF⟩
    refine wc_fit hF ?_
    clear hF
    subst qk65
    refine wc_seq ?_
    refine wc_ops ?_
    refine wj_q _ (q_mv rfl) ?_
    refine wj_q _ (q_mv rfl) ?_
    refine wj_nil ?_
    refine wc_ret ?_
    revert h; refine ret_i fun h => ?_
    subst h
    exact ⟨_, _, (.cons (.tmp rfl) .nil), (.all .here .nil), ⟨_, rfl, ⟨v61, ms62, rfl, rfl, O64⟩⟩⟩
/- farebox/sha512.Pad -/
def sha512_Pad (p0 : Int) : Option ((List Int)) :=
 bnd (IntKind.wrap .u64 (p0 + 17)) fun z3 =>
 bnd (Int.tmod z3 128) fun z4 =>
 bnd (IntKind.wrap .i64 z4) fun z5 =>
 bnd (IntKind.wrap .i64 (128 - z5)) fun z6 =>
 bnd (Int.tmod z6 128) fun z7 =>
 bnd (IntKind.wrap .i64 (17 + z7)) fun z9 =>
 chk (mkB 1 0 z9) <|
 chk (decide (((List.replicate 0 0 : List (Int)).length + ([128] : List (Int)).length) * 1 ≤ 140737488355328)) <|
 bnd ((List.replicate 0 0 : List (Int)) ++ ([128] : List (Int))) fun l19 =>
 chk (decide (0 ≤ z7)) <|
 chk (decide ((l19.length + (z7).toNat) * 1 ≤ 140737488355328)) <|
 bnd (l19 ++ List.replicate (z7).toNat 0) fun l26 =>
 bnd (shrV .u64 p0 61) fun z31 =>
 opt (bits_StoreBE_uint64 z31) fun y32 =>
 chk (decide ((l26.length + y32.length) * 1 ≤ 140737488355328)) <|
 bnd (l26 ++ y32) fun l39 =>
 bnd (shlV .u64 p0 3) fun z44 =>
 opt (bits_StoreBE_uint64 z44) fun y45 =>
 chk (decide ((l39.length + y45.length) * 1 ≤ 140737488355328)) <|
 bnd (l39 ++ y45) fun l52 =>
 some l52
theorem sha512_Pad_spec {W : World} {r : (List Int)} {p0 : Int} (h : sha512_Pad p0 = some r)  :
    Calls Tryd.prog 85 [.int .u64 (p0)].toArray W (retS W [] (fun v Ms => ∃ (u0 : Value) (M0 : List Chunk), v = u0 ∧ Ms = [.all M0] ∧ OwnSl (El.int .u8) u0 M0 r)) := by
  unfold sha512_Pad at h
  refine calls_memT mo ok85 rfl (sat0 _) ?_
  refine wc_seq ?_
  refine wc_ops ?_
  refine wj_q _ (q_mv rfl) ?_
  refine wj_nil ?_
  refine wc_seq ?_
  revert h
  refine bnd_i fun z3 ez3 => ?_
  refine bnd_i fun z4 ez4 => ?_
  refine bnd_i fun z5 ez5 => ?_
  refine bnd_i fun z6 ez6 => ?_
  refine bnd_i fun z7 ez7 => ?_
  intro h
  refine wc_ops ?_
  refine wj_q _ (q_mv rfl) ?_
  refine wj_q _ (iz ez3 (q_bin rfl rfl rfl)) ?_
  refine wj_q _ (iz ez4 (q_rem rfl rfl (by decide))) ?_
  refine wj_q _ (iz ez5 (q_conv rfl)) ?_
  refine wj_q _ (iz ez6 (q_bin rfl rfl rfl)) ?_
  refine wj_q _ (iz ez7 (q_rem rfl rfl (by decide))) ?_
  refine wj_q _ (q_mv rfl) ?_
  refine wj_nil ?_
  refine wc_seq ?_
  revert h
  refine bnd_i fun z9 ez9 => ?_
  refine chk_i fun c10 => ?_
  intro h
  refine wc_ops ?_
  refine wj_q _ (q_mv rfl) ?_
  refine wj_q _ (iz ez9 (q_bin rfl rfl rfl)) ?_
  refine wj_e (ef_mksO (E := (El.int .u8)) rfl rfl rfl c10 fun v11 ms12 O13 => ?_)
  refine wj_q _ (q_mv rfl) ?_
  refine wj_nil ?_
  refine wc_seq ?_
  revert h
  refine chk_i fun c18 => ?_
  refine bnd_i fun l19 el19 => ?_
  intro h
  refine wc_ops ?_
  refine wj_q _ (q_mv rfl) ?_
  refine wj_e (ef_bsO (E := (El.int .u8)) (xs := [128]) (.one rfl rfl rfl BdR.nil) (.cons (p := [.one (.int .u8 (128))]) rfl .nil) rfl fun v15 ms16 O17 => ?_)
  refine wj_e (ef_appO (E := (El.int .u8)) el19 rfl O13 (.app .here) rfl (rd_own O17 .here) c18 fun v20 ms21 O22 => ?_)
  refine wj_q _ (q_mv rfl) ?_
  refine wj_nil ?_
  refine wc_seq ?_
  revert h
  refine chk_i fun c24 => ?_
  refine chk_i fun c25 => ?_
  refine bnd_i fun l26 el26 => ?_
  intro h
  refine wc_ops ?_
  refine wj_q _ (q_mv rfl) ?_
  refine wj_q _ (q_mv rfl) ?_
  refine wj_e (ef_apzO (E := (El.int .u8)) el26 rfl O22 .here rfl c24 rfl c25 fun v27 ms28 O29 => ?_)
  refine wj_q _ (q_mv rfl) ?_
  refine wj_nil ?_
  refine wc_seq ?_
  revert h
  refine bnd_i fun z31 ez31 => ?_
  refine opt_i fun y32 ey32 => ?_
  refine chk_i fun c38 => ?_
  refine bnd_i fun l39 el39 => ?_
  intro h
  refine wc_ops ?_
  refine wj_q _ (q_mv rfl) ?_
  refine wj_q _ (q_mv rfl) ?_
  refine wj_q _ (iz ez31 (q_shr rfl rfl (by decide))) ?_
  refine wj_e (ef_callS0 rfl (fun w hw => bits_StoreBE_uint64_spec (r := y32) (p0 := z31) ey32 ) fun v33 Msv33 R34 => ?_)
  obtain ⟨_, ms36, rfl, rfl, O37⟩ := R34
  refine wj_e (ef_appO (E := (El.int .u8)) el39 rfl O29 (.app .here) rfl (rd_own O37 .here) c38 fun v40 ms41 O42 => ?_)
  refine wj_q _ (q_mv rfl) ?_
  refine wj_nil ?_
  refine wc_seq ?_
  revert h
  refine bnd_i fun z44 ez44 => ?_
  refine opt_i fun y45 ey45 => ?_
  refine chk_i fun c51 => ?_
  refine bnd_i fun l52 el52 => ?_
  intro h
  refine wc_ops ?_
  refine wj_q _ (q_mv rfl) ?_
  refine wj_q _ (q_mv rfl) ?_
  refine wj_q _ (iz ez44 (q_shl rfl rfl (by decide))) ?_
  refine wj_e (ef_callS0 rfl (fun w hw => bits_StoreBE_uint64_spec (r := y45) (p0 := z44) ey45 ) fun v46 Msv46 R47 => ?_)
  obtain ⟨_, ms49, rfl, rfl, O50⟩ := R47
  refine wj_e (ef_appO (E := (El.int .u8)) el52 rfl O42 (.app .here) rfl (rd_own O50 .here) c51 fun v53 ms54 O55 => ?_)
  refine wj_q _ (q_mv rfl) ?_
  refine wj_nil ?_
  refine wc_ret ?_
  revert h; refine ret_i fun h => ?_
  subst h
  exact ⟨_, _, (.cons (.tmp rfl) .nil), (.all .here .nil), ⟨_, rfl, ⟨v53, ms54, rfl, rfl, O55⟩⟩⟩
end Go.Proofs.YtiflckckekjbnaaDoor
/- Mirrors. -/
namespace Go.Proofs.YtiflckckekjbnaaDoor
open Go Go.Sx Go.RowKit
set_option linter.all false
set_option maxHeartbeats 400000
set_option maxRecDepth 100000
/- (*farebox/sha512.Digest).Sum -/
def sha512_Digest_Sum_b1 (y16 : sha512_Digest) (k75 : (List Int) → Option ((List Int) × sha512_Digest)) (k109 : (Int) → (List Int) → Option ((List Int) × sha512_Digest)) (i107 : Int) (a108 : List Int) : Option ((List Int) × sha512_Digest) :=
 br ((decide (i107 < 8))) (
 chk (inB i107 8) <|
 bnd (y16.gstate.getD (i107).toNat 0) fun z115 =>
 bnd (IntKind.wrap .i64 (8 * i107)) fun z117 =>
 chk (cutB z117 64 64) <|
 opt (bits_StoreBE_uint64 z115) fun y119 =>
 bnd (wr a108 (z117).toNat (y119.take (64 - (z117).toNat))) fun l125 =>
 bnd (IntKind.wrap .i64 (i107 + 1)) fun z127 =>
 k109 z127 l125
 ) (
 k75 a108
 )
def sha512_Digest_Sum_l1 (y16 : sha512_Digest) (k75 : (List Int) → Option ((List Int) × sha512_Digest)) : Nat → (Int) → (List Int) → Option ((List Int) × sha512_Digest)
  | 0, _, _ => none
  | n + 1, i107, a108 => sha512_Digest_Sum_b1 y16 k75 (sha512_Digest_Sum_l1 y16 k75 n) i107 a108
def sha512_Digest_Sum (p0 : sha512_Digest) : Option ((List Int) × sha512_Digest) :=
 opt (sha512_Digest_Clone p0) fun y4 =>
 opt (sha512_Pad y4.2.glength) fun y10 =>
 opt (sha512_Digest_Write y4.1 y10) fun y16 =>
 jn (fun (a74 : List Int) => some (a74, y4.2)) fun k75 => sha512_Digest_Sum_l1 y16 k75 big 0 (List.replicate 64 0)
theorem sha512_Digest_Sum_spec {W : World} {r : (List Int) × sha512_Digest} {p0 : sha512_Digest} {b : Nat} {T : TypeId} (h : sha512_Digest_Sum p0 = some r) (h0 : Sat W [b] (ck b T [.ints .u64 8 (p0.gstate), .ints .u8 128 (p0.gheld), .one (.int .i64 (p0.ghave)), .one (.int .u64 (p0.glength))] :: []) W) (hG : Globs W) (hS : ∀ g, g < ng → g ∉ [b]) :
    Calls Tryd.prog 48 [.pointer (some ⟨b, 0, none⟩)].toArray W (retS W [b] (fun v Ms => v = agg [.ints .u8 64 (r.1)] ∧ Ms = [.one (ck b T [.ints .u64 8 (r.2.gstate), .ints .u8 128 (r.2.gheld), .one (.int .i64 (r.2.ghave)), .one (.int .u64 (r.2.glength))])])) := by
  unfold sha512_Digest_Sum at h
  refine calls_memT mo ok48 rfl h0 ?_
  refine wc_seq ?_
  refine wc_ops ?_
  refine wj_e (ef_al fun b2 hb2 => ?_)
  refine wj_nil ?_
  refine wc_seq ?_
  revert h
  refine opt_i fun y4 ey4 => ?_
  intro h
  refine wc_ops ?_
  refine wj_q _ (q_mv rfl) ?_
  refine wj_e (ef_callS (mS := [_]) rfl (Take1.perm (.there .here)) (fun w hw => sha512_Digest_Clone_spec (b := b) (r := y4) (p0 := p0) ey4 (sat_own hw (mS := [_]) (Take1.perm (.there .here))) ) fun v5 Msv5 R6 => ?_)
  obtain ⟨b7, T8, rfl, rfl⟩ := R6
  refine wj_q _ (q_mv rfl) ?_
  refine wj_nil ?_
  refine wc_seq ?_
  revert h
  refine opt_i fun y10 ey10 => ?_
  refine opt_i fun y16 ey16 => ?_
  intro h
  refine wc_ops ?_
  refine wj_q _ (q_mv rfl) ?_
  refine wj_q _ (q_mv rfl) ?_
  refine wj_q _ (q_nilc rfl) ?_
  refine wj_q _ (q_fa rfl) ?_
  refine wj_q _ (q_ld1 rfl (.there .here) rfl) ?_
  refine wj_e (ef_callS0 rfl (fun w hw => sha512_Pad_spec (r := y10) (p0 := y4.2.glength) ey10 ) fun v11 Msv11 R12 => ?_)
  obtain ⟨_, ms14, rfl, rfl, O15⟩ := R12
  refine wj_e (ef_callS (mS := [_]) rfl (Take1.perm (.app .here)) (fun w hw => sha512_Digest_Write_spec (b := b7) (r := y16) (p0 := y4.1) (p1 := y10) ey16 (sat_own hw (mS := [_]) (Take1.perm (.app .here))) (hG.at hw hS) (hG.ap hS (.app .here) hw) ⟨(rd_own O15 .here) w hw, (apart_own (E := (El.int .u8)) O15 .here .here hw)⟩) fun v17 Msv17 R18 => ?_)
  obtain ⟨rfl, rfl⟩ := R18
  refine wj_nil ?_
  refine wc_seq ?_
  refine wc_ops ?_
  refine wj_e (ef_al fun b20 hb20 => ?_)
  refine wj_nil ?_
  refine wc_seq ?_
  refine wc_seq ?_
  refine wc_ops ?_
  refine wj_q _ (q_mv rfl) ?_
  refine wj_q _ (q_nilc rfl) ?_
  refine wj_q _ (q_fa rfl) ?_
  refine wj_q _ (q_ld (p := [.ints .u64 8 (y16.gstate)]) rfl (.there .here) rfl) ?_
  refine wj_q _ (q_mv rfl) ?_
  refine wj_nil ?_
  revert h
  refine jn_i fun k75 qk75 => ?_
  intro h
  refine wc_mono2 (G := fun t m => ∃ (a74 : List Int), k75 a74 = some r ∧ Fit [(2, .pointer (some ⟨b2, 0, none⟩)), (4, .pointer (some ⟨b20, 0, none⟩))] (ck b20 101 [.ints .u8 64 (a74)] :: (ck b7 T8 [.ints .u64 8 (y16.gstate), .ints .u8 128 (y16.gheld), .one (.int .i64 (y16.ghave)), .one (.int .u64 (y16.glength))] :: (ck b T [.ints .u64 8 (y4.2.gstate), .ints .u8 128 (y4.2.gheld), .one (.int .i64 (y4.2.ghave)), .one (.int .u64 (y4.2.glength))] :: (ck b2 101 [.ints .u8 64 ((List.replicate 64 0))] :: [])))) t m) ?_ ?_
  · refine wc_block ?_
    refine wc_loopJ (fun n110 t m => ∃ (i107 : Int) (a108 : List Int), sha512_Digest_Sum_l1 y16 k75 n110 i107 a108 = some r ∧ Fit [(2, .pointer (some ⟨b2, 0, none⟩)), (4, .pointer (some ⟨b20, 0, none⟩)), (19, agg [.ints .u64 8 (y16.gstate)]), (20, .int .i64 (i107))] (ck b20 101 [.ints .u8 64 (a108)] :: (ck b7 T8 [.ints .u64 8 (y16.gstate), .ints .u8 128 (y16.gheld), .one (.int .i64 (y16.ghave)), .one (.int .u64 (y16.glength))] :: (ck b T [.ints .u64 8 (y4.2.gstate), .ints .u8 128 (y4.2.gheld), .one (.int .i64 (y4.2.ghave)), .one (.int .u64 (y4.2.glength))] :: (ck b2 101 [.ints .u8 64 ((List.replicate 64 0))] :: [])))) t m) big ?_ ?_
    · exact ⟨0, (List.replicate 64 0), h, ⟨⟨rfl, rfl, rfl, rfl, trivial⟩, (.one .here (.one .here (.one (.app .here) (.one (.app .here) .nil))))⟩⟩
    · rintro n110 t m ⟨i107, a108, h, hF⟩
      refine wc_fit hF ?_
      clear hF
      rcases n110 with _ | n110
      · exact none_i h
      have h : sha512_Digest_Sum_b1 y16 k75 (sha512_Digest_Sum_l1 y16 k75 n110) i107 a108 = some r := h
      unfold sha512_Digest_Sum_b1 at h
      obtain ⟨k109, qk109⟩ : ∃ k, k = sha512_Digest_Sum_l1 y16 k75 n110 := ⟨_, rfl⟩
      try rw [← qk109] at h
      refine wc_seq ?_
      refine wc_ops ?_
      refine wj_q _ (q_bin rfl rfl rfl) ?_
      refine wj_nil ?_
      refine wc_seq ?_
      refine wc_if (c := (decide (i107 < 8))) rfl (fun d112 => ?_) (fun d112 => ?_)
      · have h := br_t h d112
        refine wc_skip ?_
        refine wc_seq ?_
        refine wc_block ?_
        refine wc_seq ?_
        revert h
        refine chk_i fun c114 => ?_
        refine bnd_i fun z115 ez115 => ?_
        intro h
        refine wc_ops ?_
        refine wj_q _ (q_mv rfl) ?_
        refine wj_q _ (iz ez115 (q_idxi (len := 8) rfl rfl (inB_z c114))) ?_
        refine wj_q _ (q_mv rfl) ?_
        refine wj_q _ (q_mv rfl) ?_
        refine wj_nil ?_
        revert h
        refine bnd_i fun z117 ez117 => ?_
        refine chk_i fun c118 => ?_
        refine opt_i fun y119 ey119 => ?_
        refine bnd_i fun l125 el125 => ?_
        intro h
        refine wc_draw ?_
        refine ws_p1 _ (q_mv rfl) ?_
        refine ws_p1 _ (iz ez117 (q_bin rfl rfl rfl)) ?_
        refine ws_p1 _ (q_sla rfl (.yes rfl) .no .no (by simp) (cut4 c118)) ?_
        refine ws_p1 _ (q_mv rfl) ?_
        refine ws_e1 (ef_callS0 rfl (fun w hw => bits_StoreBE_uint64_spec (r := y119) (p0 := z115) ey119 ) fun v120 Msv120 R121 => ?_)
        obtain ⟨_, ms123, rfl, rfl, O124⟩ := R121
        refine ⟨(by repeat (first | exact Sup.refl _ | apply Sup.cons | apply Sup.app)), ?_⟩
        refine ws_eL rfl (ef_cpyB (q := [.ints .u8 64 (l125)]) (lo := (z117).toNat) (hi := 64) (mz := 64) (base := 0) el125 rfl rfl (rd_own O124 .here) rfl (cutn c118) rfl (.app .here) ?_)
        refine ws_nil ?_
        revert h
        refine bnd_i fun z127 ez127 => ?_
        intro h
        refine wc_ops ?_
        refine wj_q _ (iz ez127 (q_bin rfl rfl rfl)) ?_
        refine wj_q _ (q_mv rfl) ?_
        refine wj_nil ?_
        rw [qk109] at h
        exact ⟨n110, Nat.lt_succ_self _, z127, l125, h, ⟨⟨rfl, rfl, rfl, rfl, trivial⟩, (.one (.app .here) (.one (.app .here) (.one (.app .here) (.one (.app .here) .nil))))⟩⟩
      · have h := br_f h d112
        refine wc_exit _ rfl ?_
        exact ⟨a108, h, ⟨⟨rfl, rfl, trivial⟩, (.one .here (.one .here (.one .here (.one .here .nil))))⟩⟩
  · rintro t m ⟨a74, h, hF⟩
    refine wc_fit hF ?_
    clear hF
    subst qk75
    refine wc_seq ?_
    refine wc_ops ?_
    refine wj_q _ (q_ld (p := [.ints .u8 64 (a74)]) rfl .here rfl) ?_
    refine wj_e (ef_st (q := [.ints .u8 64 (a74)]) rfl rfl rfl rfl rfl (.there (.there (.there .here))) ?_)
    refine wj_nil ?_
    refine wc_ret ?_
    revert h; refine ret_i fun h => ?_
    subst h
    exact ⟨_, _, (.cons (.agg rfl (.there (.there (.there .here))) rfl) .nil), (.one (.there (.there .here)) .nil), ⟨_, rfl, ⟨rfl, rfl⟩⟩⟩
/- farebox/sign.hash -/
def sign_hash_b1 (p0 : List (List Int)) (k55 : (List Int) → (List Int) → (Int) → (Int) → Option ((List Int))) (k85 : (Int) → (List Int) → (List Int) → (Int) → (Int) → Option ((List Int))) (i80 : Int) (a81 : List Int) (a82 : List Int) (i83 : Int) (i84 : Int) : Option ((List Int)) :=
 br ((decide (i80 < (p0.length : Int)))) (
 chk (inB i80 p0.length) <|
 opt (sha512_Digest_Write (⟨a81, a82, i83, i84⟩ : sha512_Digest) (p0.getD (i80).toNat [])) fun y92 =>
 bnd (IntKind.wrap .i64 (i80 + 1)) fun z96 =>
 k85 z96 y92.gstate y92.gheld y92.ghave y92.glength
 ) (
 k55 a81 a82 i83 i84
 )
def sign_hash_l1 (p0 : List (List Int)) (k55 : (List Int) → (List Int) → (Int) → (Int) → Option ((List Int))) : Nat → (Int) → (List Int) → (List Int) → (Int) → (Int) → Option ((List Int))
  | 0, _, _, _, _, _ => none
  | n + 1, i80, a81, a82, i83, i84 => sign_hash_b1 p0 k55 (sign_hash_l1 p0 k55 n) i80 a81 a82 i83 i84
def sign_hash (p0 : List (List Int)) : Option ((List Int)) :=
 opt (sha512_New ) fun y4 =>
 jn (fun (a51 : List Int) (a52 : List Int) (i53 : Int) (i54 : Int) => opt (sha512_Digest_Sum (⟨a51, a52, i53, i54⟩ : sha512_Digest)) fun y98 =>
 opt (scalar_Reduce y98.1) fun y101 =>
 some y101) fun k55 => sign_hash_l1 p0 k55 big 0 y4.gstate y4.gheld y4.ghave y4.glength
theorem sign_hash_spec {W : World} {r : (List Int)} {p0 : List (List Int)} {v0 : Value} {us0 : List SlT} (h : sign_hash p0 = some r) (hG : Globs W) (A0 : RdSl El.sl W v0 us0) (B0 : RdAll (El.int .u8) W us0 p0) :
    Calls Tryd.prog 20 [v0].toArray W (ret1 W (agg [.ints .u8 32 (r)])) := by
  unfold sign_hash at h
  refine calls_val mo ok20 rfl ?_
  refine wc_seq ?_
  refine wc_ops ?_
  refine wj_e (ef_al fun b2 hb2 => ?_)
  refine wj_nil ?_
  refine wc_seq ?_
  revert h
  refine opt_i fun y4 ey4 => ?_
  intro h
  refine wc_ops ?_
  refine wj_e (ef_callS0 rfl (fun w hw => sha512_New_spec (r := y4) ey4 (hG.at hw (by simp))) fun v5 Msv5 R6 => ?_)
  obtain ⟨b7, T8, rfl, rfl⟩ := R6
  refine wj_q _ (q_mv rfl) ?_
  refine wj_nil ?_
  refine wc_seq ?_
  refine wc_seq ?_
  refine wc_ops ?_
  refine wj_q _ (q_mv rfl) ?_
  refine wj_q _ ((len_nlP (q_lenP rfl (Shp.rd A0)) (RdAll.len B0))) ?_
  refine wj_q _ (q_mv rfl) ?_
  refine wj_nil ?_
  revert h
  refine jn_i fun k55 qk55 => ?_
  intro h
  refine wc_mono2 (G := fun t m => ∃ (a51 : List Int) (a52 : List Int) (i53 : Int) (i54 : Int), k55 a51 a52 i53 i54 = some r ∧ Fit [(2, .pointer (some ⟨b2, 0, none⟩)), (3, .pointer (some ⟨b7, 0, none⟩))] (ck b7 T8 [.ints .u64 8 (a51), .ints .u8 128 (a52), .one (.int .i64 (i53)), .one (.int .u64 (i54))] :: (ck b2 63 [.ints .u8 32 ((List.replicate 32 0))] :: [])) t m) ?_ ?_
  · refine wc_block ?_
    refine wc_loopJ (fun n86 t m => ∃ (i80 : Int) (a81 : List Int) (a82 : List Int) (i83 : Int) (i84 : Int), sign_hash_l1 p0 k55 n86 i80 a81 a82 i83 i84 = some r ∧ Fit [(2, .pointer (some ⟨b2, 0, none⟩)), (3, .pointer (some ⟨b7, 0, none⟩)), (7, v0), (8, .int .i64 ((p0.length : Int))), (9, .int .i64 (i80))] (ck b7 T8 [.ints .u64 8 (a81), .ints .u8 128 (a82), .one (.int .i64 (i83)), .one (.int .u64 (i84))] :: (ck b2 63 [.ints .u8 32 ((List.replicate 32 0))] :: [])) t m) big ?_ ?_
    · exact ⟨0, y4.gstate, y4.gheld, y4.ghave, y4.glength, h, ⟨⟨rfl, rfl, rfl, rfl, rfl, trivial⟩, (.one .here (.one .here .nil))⟩⟩
    · rintro n86 t m ⟨i80, a81, a82, i83, i84, h, hF⟩
      refine wc_fit hF ?_
      clear hF
      rcases n86 with _ | n86
      · exact none_i h
      have h : sign_hash_b1 p0 k55 (sign_hash_l1 p0 k55 n86) i80 a81 a82 i83 i84 = some r := h
      unfold sign_hash_b1 at h
      obtain ⟨k85, qk85⟩ : ∃ k, k = sign_hash_l1 p0 k55 n86 := ⟨_, rfl⟩
      try rw [← qk85] at h
      refine wc_seq ?_
      refine wc_ops ?_
      refine wj_q _ (q_bin rfl rfl rfl) ?_
      refine wj_nil ?_
      refine wc_seq ?_
      refine wc_if (c := (decide (i80 < (p0.length : Int)))) rfl (fun d88 => ?_) (fun d88 => ?_)
      · have h := br_t h d88
        refine wc_skip ?_
        refine wc_seq ?_
        refine wc_block ?_
        refine wc_seq ?_
        revert h
        refine chk_i fun c90 => ?_
        intro h
        refine wc_ops ?_
        refine wj_q _ (q_iasP rfl rfl (Shp.rd A0) (all_len B0 c90)) ?_
        refine wj_q _ (q_ldM10 (E := El.sl) (s := [.one (slV (us0.getD (i80).toNat (none, 0, 0)))]) rfl (rd_arg A0 apart0) (inB_n (all_len B0 c90)) rfl rfl) ?_
        refine wj_q _ (q_mv rfl) ?_
        refine wj_nil ?_
        revert h
        refine opt_i fun y92 ey92 => ?_
        intro h
        refine wc_ops ?_
        refine wj_q _ (q_mv rfl) ?_
        refine wj_q _ (q_mv rfl) ?_
        refine wj_e (ef_callS (mS := [_]) rfl (Take1.perm .here) (fun w hw => sha512_Digest_Write_spec (b := b7) (r := y92) (p0 := (⟨a81, a82, i83, i84⟩ : sha512_Digest)) (p1 := (p0.getD (i80).toNat [])) ey92 (sat_own hw (mS := [_]) (Take1.perm .here)) (hG.at hw (by simp)) (hG.ap (by simp) .here hw) ⟨(rd_arg (RdAll.get B0 _ (inB_n c90)) apart0) w hw, (apart_arg (E := (El.int .u8)) (RdAll.get B0 _ (inB_n c90)) .here hw)⟩) fun v93 Msv93 R94 => ?_)
        obtain ⟨rfl, rfl⟩ := R94
        refine wj_nil ?_
        revert h
        refine bnd_i fun z96 ez96 => ?_
        intro h
        refine wc_ops ?_
        refine wj_q _ (iz ez96 (q_bin rfl rfl rfl)) ?_
        refine wj_q _ (q_mv rfl) ?_
        refine wj_nil ?_
        rw [qk85] at h
        exact ⟨n86, Nat.lt_succ_self _, z96, y92.gstate, y92.gheld, y92.ghave, y92.glength, h, ⟨⟨rfl, rfl, rfl, rfl, rfl, trivial⟩, (.one .here (.one .here .nil))⟩⟩
      · have h := br_f h d88
        refine wc_exit _ rfl ?_
        exact ⟨a81, a82, i83, i84, h, ⟨⟨rfl, rfl, trivial⟩, (.one .here (.one .here .nil))⟩⟩
  · rintro t m ⟨a51, a52, i53, i54, h, hF⟩
    refine wc_fit hF ?_
    clear hF
    subst qk55
    refine wc_seq ?_
    revert h
    refine opt_i fun y98 ey98 => ?_
    refine opt_i fun y101 ey101 => ?_
    intro h
    refine wc_ops ?_
    refine wj_q _ (q_mv rfl) ?_
    refine wj_e (ef_callS (mS := [_]) rfl (Take1.perm .here) (fun w hw => sha512_Digest_Sum_spec (b := b7) (r := y98) (p0 := (⟨a51, a52, i53, i54⟩ : sha512_Digest)) ey98 (sat_own hw (mS := [_]) (Take1.perm .here)) (hG.at hw (by simp)) (hG.ap (by simp) .here hw)) fun v99 Msv99 R100 => ?_)
    obtain ⟨rfl, rfl⟩ := R100
    refine wj_q _ (q_call (vs := [agg [.ints .u8 64 (y98.1)]]) (v := agg [.ints .u8 32 (y101)]) rfl (fun w hw => scalar_Reduce_spec (r := y101) (p0 := y98.1) ey101 (hG.at hw (by simp)))) ?_
    refine wj_e (ef_st (q := [.ints .u8 32 (y101)]) rfl rfl rfl rfl rfl (.there .here) ?_)
    refine wj_nil ?_
    refine wc_ret ?_
    revert h; refine ret_i fun h => ?_
    subst h
    exact ⟨_, (.cons (.agg rfl (.there .here) rfl) .nil), rfl⟩
/- farebox/field.Invert -/
def field_Invert (p0 : List Int) : Option ((List Int)) :=
 opt (field_power 235 127) fun y5 =>
 opt (field_Pow p0 y5) fun y6 =>
 some y6
theorem field_Invert_spec {W : World} {r : (List Int)} {p0 : List Int} (h : field_Invert p0 = some r)  :
    Calls Tryd.prog 49 [agg [.ints .u64 5 (p0)]].toArray W (ret1 W (agg [.ints .u64 5 (r)])) := by
  unfold field_Invert at h
  refine calls_val mo ok49 rfl ?_
  refine wc_seq ?_
  refine wc_ops ?_
  refine wj_e (ef_bx (s := [.ints .u64 5 (p0)]) rfl fun b2 hb2 => ?_)
  refine wj_e (ef_al fun b3 hb3 => ?_)
  refine wj_nil ?_
  refine wc_seq ?_
  revert h
  refine opt_i fun y5 ey5 => ?_
  refine opt_i fun y6 ey6 => ?_
  intro h
  refine wc_draw ?_
  refine ws_p1 _ (q_call (vs := [.int .u8 235, .int .u8 127]) (v := agg [.ints .u8 32 (y5)]) rfl (fun w hw => field_power_spec (r := y5) (p0 := 235) (p1 := 127) ey5 )) ?_
  refine ws_q1 _ (q_ld (p := [.ints .u64 5 (p0)]) rfl (.there .here) rfl) ?_
  refine ws_p1 _ (q_call (vs := [agg [.ints .u64 5 (p0)], agg [.ints .u8 32 (y5)]]) (v := agg [.ints .u64 5 (y6)]) rfl (fun w hw => field_Pow_spec (r := y6) (p0 := p0) (p1 := y5) ey6 )) ?_
  refine ws_eL rfl (ef_st (q := [.ints .u64 5 (y6)]) rfl rfl rfl rfl rfl .here ?_)
  refine ws_nil ?_
  refine wc_ret ?_
  revert h; refine ret_i fun h => ?_
  subst h
  exact ⟨_, (.cons (.agg rfl .here rfl) .nil), rfl⟩
/- farebox/curve.Encode -/
def curve_Encode (p0 : api_Point) : Option ((List Int)) :=
 opt (field_Invert p0.gZ) fun y5 =>
 opt (field_Mul p0.gY y5) fun y8 =>
 opt (field_Bytes y8) fun y9 =>
 opt (field_Mul p0.gX y5) fun y12 =>
 opt (field_IsOdd y12) fun y13 =>
 jn (fun (a19 : List Int) => some a19) fun k20 => br (y13) (
 bnd (y9.getD 31 0) fun z23 =>
 bnd (bitsV .or .u8 z23 128) fun z24 =>
 bnd (setD y9 31 z24) fun l25 =>
 k20 l25
 ) (
 k20 y9
 )
theorem curve_Encode_spec {W : World} {r : (List Int)} {p0 : api_Point} (h : curve_Encode p0 = some r)  :
    Calls Tryd.prog 21 [agg [.ints .u64 5 (p0.gX), .ints .u64 5 (p0.gY), .ints .u64 5 (p0.gZ), .ints .u64 5 (p0.gT)]].toArray W (ret1 W (agg [.ints .u8 32 (r)])) := by
  unfold curve_Encode at h
  refine calls_val mo ok21 rfl ?_
  refine wc_seq ?_
  refine wc_ops ?_
  refine wj_e (ef_bx (s := [.ints .u64 5 (p0.gX), .ints .u64 5 (p0.gY), .ints .u64 5 (p0.gZ), .ints .u64 5 (p0.gT)]) rfl fun b2 hb2 => ?_)
  refine wj_e (ef_al fun b3 hb3 => ?_)
  refine wj_nil ?_
  refine wc_seq ?_
  revert h
  refine opt_i fun y5 ey5 => ?_
  intro h
  refine wc_ops ?_
  refine wj_q _ (q_fa rfl) ?_
  refine wj_q _ (q_ld (p := [.ints .u64 5 (p0.gZ)]) rfl (.there .here) rfl) ?_
  refine wj_q _ (q_call (vs := [agg [.ints .u64 5 (p0.gZ)]]) (v := agg [.ints .u64 5 (y5)]) rfl (fun w hw => field_Invert_spec (r := y5) (p0 := p0.gZ) ey5 )) ?_
  refine wj_e (ef_al fun b6 hb6 => ?_)
  refine wj_e (ef_st (q := [.ints .u64 5 (y5)]) rfl rfl rfl rfl rfl .here ?_)
  refine wj_nil ?_
  refine wc_seq ?_
  revert h
  refine opt_i fun y8 ey8 => ?_
  refine opt_i fun y9 ey9 => ?_
  intro h
  refine wc_ops ?_
  refine wj_q _ (q_fa rfl) ?_
  refine wj_q _ (q_ld (p := [.ints .u64 5 (p0.gY)]) rfl (.there (.there .here)) rfl) ?_
  refine wj_q _ (q_ld (p := [.ints .u64 5 (y5)]) rfl .here rfl) ?_
  refine wj_q _ (q_call (vs := [agg [.ints .u64 5 (p0.gY)], agg [.ints .u64 5 (y5)]]) (v := agg [.ints .u64 5 (y8)]) rfl (fun w hw => field_Mul_spec (r := y8) (p0 := p0.gY) (p1 := y5) ey8 )) ?_
  refine wj_q _ (q_call (vs := [agg [.ints .u64 5 (y8)]]) (v := agg [.ints .u8 32 (y9)]) rfl (fun w hw => field_Bytes_spec (r := y9) (p0 := y8) ey9 )) ?_
  refine wj_e (ef_al fun b10 hb10 => ?_)
  refine wj_e (ef_st (q := [.ints .u8 32 (y9)]) rfl rfl rfl rfl rfl .here ?_)
  refine wj_nil ?_
  refine wc_seq ?_
  refine wc_seq ?_
  revert h
  refine opt_i fun y12 ey12 => ?_
  refine opt_i fun y13 ey13 => ?_
  intro h
  refine wc_ops ?_
  refine wj_q _ (q_fa rfl) ?_
  refine wj_q _ (q_ld (p := [.ints .u64 5 (p0.gX)]) rfl (.there (.there (.there .here))) rfl) ?_
  refine wj_q _ (q_ld (p := [.ints .u64 5 (y5)]) rfl (.there .here) rfl) ?_
  refine wj_q _ (q_call (vs := [agg [.ints .u64 5 (p0.gX)], agg [.ints .u64 5 (y5)]]) (v := agg [.ints .u64 5 (y12)]) rfl (fun w hw => field_Mul_spec (r := y12) (p0 := p0.gX) (p1 := y5) ey12 )) ?_
  refine wj_q _ (q_call (vs := [agg [.ints .u64 5 (y12)]]) (v := .bool (y13)) rfl (fun w hw => field_IsOdd_spec (r := y13) (p0 := y12) ey13 )) ?_
  refine wj_nil ?_
  revert h
  refine jn_i fun k20 qk20 => ?_
  intro h
  refine wc_mono2 (G := fun t m => ∃ (a19 : List Int), k20 a19 = some r ∧ Fit [(2, .pointer (some ⟨b3, 0, none⟩)), (4, .pointer (some ⟨b10, 0, none⟩))] (ck b10 27 [.ints .u8 32 (a19)] :: (ck b6 58 [.ints .u64 5 (y5)] :: (ck b3 27 [.ints .u8 32 ((List.replicate 32 0))] :: (ck b2 60 [.ints .u64 5 (p0.gX), .ints .u64 5 (p0.gY), .ints .u64 5 (p0.gZ), .ints .u64 5 (p0.gT)] :: [])))) t m) ?_ ?_
  · refine wc_if (c := y13) rfl (fun d21 => ?_) (fun d21 => ?_)
    · have h := br_t h d21
      revert h
      refine bnd_i fun z23 ez23 => ?_
      refine bnd_i fun z24 ez24 => ?_
      refine bnd_i fun l25 el25 => ?_
      intro h
      refine wc_ops ?_
      refine wj_q _ (q_ia rfl rfl (by decide)) ?_
      refine wj_q _ (iz ez23 (q_ld1 rfl .here rfl)) ?_
      refine wj_q _ (iz ez24 (q_bin rfl rfl rfl)) ?_
      refine wj_q _ (q_ia rfl rfl (by decide)) ?_
      refine wj_e (ef_st1z (q := [.ints .u8 32 (l25)]) (congrArg (fun z => ([.ints .u8 32 (z)] : List Seg)) el25.symm) rfl rfl rfl rfl .here ?_)
      refine wj_nil ?_
      exact ⟨l25, h, ⟨⟨rfl, rfl, trivial⟩, (.one .here (.one .here (.one .here (.one .here .nil))))⟩⟩
    · have h := br_f h d21
      refine wc_skip ?_
      exact ⟨y9, h, ⟨⟨rfl, rfl, trivial⟩, (.one .here (.one .here (.one .here (.one .here .nil))))⟩⟩
  · rintro t m ⟨a19, h, hF⟩
    refine wc_fit hF ?_
    clear hF
    subst qk20
    refine wc_seq ?_
    refine wc_ops ?_
    refine wj_q _ (q_ld (p := [.ints .u8 32 (a19)]) rfl .here rfl) ?_
    refine wj_e (ef_st (q := [.ints .u8 32 (a19)]) rfl rfl rfl rfl rfl (.there (.there .here)) ?_)
    refine wj_nil ?_
    refine wc_ret ?_
    revert h; refine ret_i fun h => ?_
    subst h
    exact ⟨_, (.cons (.agg rfl (.there (.there .here)) rfl) .nil), rfl⟩
/- farebox/curve.start -/
def curve_start_b1 (k41 : (List Int) → Option (api_Point)) (k60 : (Int) → (List Int) → Option (api_Point)) (i58 : Int) (a59 : List Int) : Option (api_Point) :=
 br ((decide (i58 < 31))) (
 bnd (IntKind.wrap .i64 (i58 + 1)) fun z66 =>
 chk (inB z66 32) <|
 bnd (setD a59 (z66).toNat 102) fun l68 =>
 bnd (IntKind.wrap .i64 (i58 + 1)) fun z70 =>
 k60 z70 l68
 ) (
 k41 a59
 )
def curve_start_l1 (k41 : (List Int) → Option (api_Point)) : Nat → (Int) → (List Int) → Option (api_Point)
  | 0, _, _ => none
  | n + 1, i58, a59 => curve_start_b1 k41 (curve_start_l1 k41 n) i58 a59
def curve_start  : Option (api_Point) :=
 bnd (([26, 213, 37, 143, 96, 45, 86, 201, 178, 167, 37, 149, 96, 199, 44, 105, 92, 220, 214, 253, 49, 226, 164, 192, 254, 83, 110, 205, 211, 54, 105, 33] : List Int)) fun z4 =>
 opt (field_FromBytes z4) fun y5 =>
 bnd (([88, 0, 0, 0, 0, 0, 0, 0, 0, 0, 0, 0, 0, 0, 0, 0, 0, 0, 0, 0, 0, 0, 0, 0, 0, 0, 0, 0, 0, 0, 0, 0] : List Int)) fun z8 =>
 jn (fun (a40 : List Int) => opt (field_FromBytes a40) fun y72 =>
 opt (curve_unit) fun y75 =>
 opt (field_Mul y5 y72) fun y76 =>
 some (⟨y5, y72, y75, y76⟩ : api_Point)) fun k41 => curve_start_l1 k41 big 0 z8
theorem curve_start_spec {W : World} {r : api_Point} (h : curve_start  = some r)  :
    Calls Tryd.prog 52 [].toArray W (ret1 W (agg [.ints .u64 5 (r.gX), .ints .u64 5 (r.gY), .ints .u64 5 (r.gZ), .ints .u64 5 (r.gT)])) := by
  unfold curve_start at h
  refine calls_val mo ok52 rfl ?_
  refine wc_seq ?_
  refine wc_ops ?_
  refine wj_e (ef_al fun b2 hb2 => ?_)
  refine wj_nil ?_
  refine wc_seq ?_
  revert h
  refine bnd_i fun z4 ez4 => ?_
  refine opt_i fun y5 ey5 => ?_
  intro h
  refine wc_ops ?_
  refine wj_q _ (az (fun z => agg [.ints .u8 32 z]) ez4 (q_bd (.one rfl rfl rfl (.one rfl rfl rfl (.one rfl rfl rfl (.one rfl rfl rfl (.one rfl rfl rfl (.one rfl rfl rfl (.one rfl rfl rfl (.one rfl rfl rfl (.one rfl rfl rfl (.one rfl rfl rfl (.one rfl rfl rfl (.one rfl rfl rfl (.one rfl rfl rfl (.one rfl rfl rfl (.one rfl rfl rfl (.one rfl rfl rfl (.one rfl rfl rfl (.one rfl rfl rfl (.one rfl rfl rfl (.one rfl rfl rfl (.one rfl rfl rfl (.one rfl rfl rfl (.one rfl rfl rfl (.one rfl rfl rfl (.one rfl rfl rfl (.one rfl rfl rfl (.one rfl rfl rfl (.one rfl rfl rfl (.one rfl rfl rfl (.one rfl rfl rfl (.one rfl rfl rfl (.one rfl rfl rfl BdR.nil)))))))))))))))))))))))))))))))))) ?_
  refine wj_q _ (q_call (vs := [agg [.ints .u8 32 (z4)]]) (v := agg [.ints .u64 5 (y5)]) rfl (fun w hw => field_FromBytes_spec (r := y5) (p0 := z4) ey5 )) ?_
  refine wj_e (ef_al fun b6 hb6 => ?_)
  refine wj_e (ef_st (q := [.ints .u64 5 (y5)]) rfl rfl rfl rfl rfl .here ?_)
  refine wj_nil ?_
  refine wc_seq ?_
  revert h
  refine bnd_i fun z8 ez8 => ?_
  intro h
  refine wc_ops ?_
  refine wj_q _ (az (fun z => agg [.ints .u8 32 z]) ez8 (q_bd (.one rfl rfl rfl BdR.nil))) ?_
  refine wj_e (ef_al fun b9 hb9 => ?_)
  refine wj_e (ef_st (q := [.ints .u8 32 (z8)]) rfl rfl rfl rfl rfl .here ?_)
  refine wj_nil ?_
  refine wc_seq ?_
  refine wc_seq ?_
  refine wc_ops ?_
  refine wj_q _ (q_mv rfl) ?_
  refine wj_nil ?_
  revert h
  refine jn_i fun k41 qk41 => ?_
  intro h
  refine wc_mono2 (G := fun t m => ∃ (a40 : List Int), k41 a40 = some r ∧ Fit [(0, .pointer (some ⟨b2, 0, none⟩)), (1, .pointer (some ⟨b6, 0, none⟩)), (2, .pointer (some ⟨b9, 0, none⟩))] (ck b9 26 [.ints .u8 32 (a40)] :: (ck b6 58 [.ints .u64 5 (y5)] :: (ck b2 60 [.ints .u64 5 ((List.replicate 5 0)), .ints .u64 5 ((List.replicate 5 0)), .ints .u64 5 ((List.replicate 5 0)), .ints .u64 5 ((List.replicate 5 0))] :: []))) t m) ?_ ?_
  · refine wc_block ?_
    refine wc_loopJ (fun n61 t m => ∃ (i58 : Int) (a59 : List Int), curve_start_l1 k41 n61 i58 a59 = some r ∧ Fit [(0, .pointer (some ⟨b2, 0, none⟩)), (1, .pointer (some ⟨b6, 0, none⟩)), (2, .pointer (some ⟨b9, 0, none⟩)), (8, .int .i64 (i58))] (ck b9 26 [.ints .u8 32 (a59)] :: (ck b6 58 [.ints .u64 5 (y5)] :: (ck b2 60 [.ints .u64 5 ((List.replicate 5 0)), .ints .u64 5 ((List.replicate 5 0)), .ints .u64 5 ((List.replicate 5 0)), .ints .u64 5 ((List.replicate 5 0))] :: []))) t m) big ?_ ?_
    · exact ⟨0, z8, h, ⟨⟨rfl, rfl, rfl, rfl, trivial⟩, (.one .here (.one .here (.one .here .nil)))⟩⟩
    · rintro n61 t m ⟨i58, a59, h, hF⟩
      refine wc_fit hF ?_
      clear hF
      rcases n61 with _ | n61
      · exact none_i h
      have h : curve_start_b1 k41 (curve_start_l1 k41 n61) i58 a59 = some r := h
      unfold curve_start_b1 at h
      obtain ⟨k60, qk60⟩ : ∃ k, k = curve_start_l1 k41 n61 := ⟨_, rfl⟩
      try rw [← qk60] at h
      refine wc_seq ?_
      refine wc_ops ?_
      refine wj_q _ (q_bin rfl rfl rfl) ?_
      refine wj_nil ?_
      refine wc_seq ?_
      refine wc_if (c := (decide (i58 < 31))) rfl (fun d63 => ?_) (fun d63 => ?_)
      · have h := br_t h d63
        refine wc_skip ?_
        refine wc_seq ?_
        refine wc_block ?_
        refine wc_seq ?_
        refine wc_ops ?_
        refine wj_q _ (q_mv rfl) ?_
        refine wj_q _ (q_mv rfl) ?_
        refine wj_nil ?_
        revert h
        refine bnd_i fun z66 ez66 => ?_
        refine chk_i fun c67 => ?_
        refine bnd_i fun l68 el68 => ?_
        intro h
        refine wc_ops ?_
        refine wj_q _ (q_mv rfl) ?_
        refine wj_q _ (iz ez66 (q_bin rfl rfl rfl)) ?_
        refine wj_q _ (q_ia rfl rfl (inB_z c67)) ?_
        refine wj_e (ef_stiz (q := [.ints .u8 32 (l68)]) (base := 0) el68 rfl rfl rfl (inB_n c67) rfl .here ?_)
        refine wj_nil ?_
        revert h
        refine bnd_i fun z70 ez70 => ?_
        intro h
        refine wc_ops ?_
        refine wj_q _ (iz ez70 (q_bin rfl rfl rfl)) ?_
        refine wj_q _ (q_mv rfl) ?_
        refine wj_nil ?_
        rw [qk60] at h
        exact ⟨n61, Nat.lt_succ_self _, z70, l68, h, ⟨⟨rfl, rfl, rfl, rfl, trivial⟩, (.one .here (.one .here (.one .here .nil)))⟩⟩
      · have h := br_f h d63
        refine wc_exit _ rfl ?_
        exact ⟨a59, h, ⟨⟨rfl, rfl, rfl, trivial⟩, (.one .here (.one .here (.one .here .nil)))⟩⟩
  · rintro t m ⟨a40, h, hF⟩
    refine wc_fit hF ?_
    clear hF
    subst qk41
    refine wc_seq ?_
    revert h
    refine opt_i fun y72 ey72 => ?_
    intro h
    refine wc_ops ?_
    refine wj_q _ (q_ld (p := [.ints .u8 32 (a40)]) rfl .here rfl) ?_
    refine wj_q _ (q_call (vs := [agg [.ints .u8 32 (a40)]]) (v := agg [.ints .u64 5 (y72)]) rfl (fun w hw => field_FromBytes_spec (r := y72) (p0 := a40) ey72 )) ?_
    refine wj_e (ef_al fun b73 hb73 => ?_)
    refine wj_e (ef_st (q := [.ints .u64 5 (y72)]) rfl rfl rfl rfl rfl .here ?_)
    refine wj_nil ?_
    refine wc_seq ?_
    revert h
    refine opt_i fun y75 ey75 => ?_
    refine opt_i fun y76 ey76 => ?_
    intro h
    refine wc_draw ?_
    refine ws_p1 _ (q_call (vs := []) (v := agg [.ints .u64 5 (y75)]) rfl (fun w hw => curve_unit_spec (r := y75) ey75 )) ?_
    refine ws_q1 _ (q_ld (p := [.ints .u64 5 (y5)]) rfl (.there (.there .here)) rfl) ?_
    refine ws_q1 _ (q_ld (p := [.ints .u64 5 (y72)]) rfl .here rfl) ?_
    refine ws_q1 _ (q_ld (p := [.ints .u64 5 (y5)]) rfl (.there (.there .here)) rfl) ?_
    refine ws_q1 _ (q_ld (p := [.ints .u64 5 (y72)]) rfl .here rfl) ?_
    refine ws_p1 _ (q_call (vs := [agg [.ints .u64 5 (y5)], agg [.ints .u64 5 (y72)]]) (v := agg [.ints .u64 5 (y76)]) rfl (fun w hw => field_Mul_spec (r := y76) (p0 := y5) (p1 := y72) ey76 )) ?_
    refine ws_p1 _ (q_bd (q := [.ints .u64 5 (y5), .ints .u64 5 (y72), .ints .u64 5 (y75), .ints .u64 5 (y76)]) (.agg rfl rfl rfl (.agg rfl rfl rfl (.agg rfl rfl rfl (.agg rfl rfl rfl BdR.nil))))) ?_
    refine ws_eL rfl (ef_st (q := [.ints .u64 5 (y5), .ints .u64 5 (y72), .ints .u64 5 (y75), .ints .u64 5 (y76)]) rfl rfl rfl rfl rfl (.there (.there (.there .here))) ?_)
    refine ws_nil ?_
    refine wc_ret ?_
    revert h; refine ret_i fun h => ?_
    subst h
    exact ⟨_, (.cons (.agg rfl (.there (.there (.there .here))) rfl) .nil), rfl⟩
/- farebox/curve.Zero -/
def curve_Zero  : Option (api_Point) :=
 opt (curve_unit) fun y4 =>
 opt (curve_unit) fun y5 =>
 some (⟨(List.replicate 5 0), y4, y5, (List.replicate 5 0)⟩ : api_Point)
theorem curve_Zero_spec {W : World} {r : api_Point} (h : curve_Zero  = some r)  :
    Calls Tryd.prog 54 [].toArray W (ret1 W (agg [.ints .u64 5 (r.gX), .ints .u64 5 (r.gY), .ints .u64 5 (r.gZ), .ints .u64 5 (r.gT)])) := by
  unfold curve_Zero at h
  refine calls_val mo ok54 rfl ?_
  refine wc_seq ?_
  refine wc_ops ?_
  refine wj_e (ef_al fun b2 hb2 => ?_)
  refine wj_nil ?_
  refine wc_seq ?_
  revert h
  refine opt_i fun y4 ey4 => ?_
  refine opt_i fun y5 ey5 => ?_
  intro h
  refine wc_ops ?_
  refine wj_q _ (q_call (vs := []) (v := agg [.ints .u64 5 (y4)]) rfl (fun w hw => curve_unit_spec (r := y4) ey4 )) ?_
  refine wj_q _ (q_call (vs := []) (v := agg [.ints .u64 5 (y5)]) rfl (fun w hw => curve_unit_spec (r := y5) ey5 )) ?_
  refine wj_q _ (q_bd (q := [.ints .u64 5 ((List.replicate 5 0)), .ints .u64 5 (y4), .ints .u64 5 (y5), .ints .u64 5 ((List.replicate 5 0))]) (.agg rfl rfl rfl (.agg rfl rfl rfl BdR.nil))) ?_
  refine wj_e (ef_st (q := [.ints .u64 5 ((List.replicate 5 0)), .ints .u64 5 (y4), .ints .u64 5 (y5), .ints .u64 5 ((List.replicate 5 0))]) rfl rfl rfl rfl rfl .here ?_)
  refine wj_nil ?_
  refine wc_ret ?_
  revert h; refine ret_i fun h => ?_
  subst h
  exact ⟨_, (.cons (.agg rfl .here rfl) .nil), rfl⟩
/- farebox/curve.closed -/
def curve_closed (p0 : List Int) (p1 : List Int) (p2 : List Int) (p3 : List Int) : Option (api_Point) :=
 opt (field_Mul p0 p1) fun y8 =>
 opt (field_Mul p2 p3) fun y9 =>
 opt (field_Mul p1 p2) fun y10 =>
 opt (field_Mul p0 p3) fun y11 =>
 some (⟨y8, y9, y10, y11⟩ : api_Point)
theorem curve_closed_spec {W : World} {r : api_Point} {p0 : List Int} {p1 : List Int} {p2 : List Int} {p3 : List Int} (h : curve_closed p0 p1 p2 p3 = some r)  :
    Calls Tryd.prog 87 [agg [.ints .u64 5 (p0)], agg [.ints .u64 5 (p1)], agg [.ints .u64 5 (p2)], agg [.ints .u64 5 (p3)]].toArray W (ret1 W (agg [.ints .u64 5 (r.gX), .ints .u64 5 (r.gY), .ints .u64 5 (r.gZ), .ints .u64 5 (r.gT)])) := by
  unfold curve_closed at h
  refine calls_val mo ok87 rfl ?_
  refine wc_seq ?_
  refine wc_ops ?_
  refine wj_e (ef_bx (s := [.ints .u64 5 (p0)]) rfl fun b2 hb2 => ?_)
  refine wj_e (ef_bx (s := [.ints .u64 5 (p1)]) rfl fun b3 hb3 => ?_)
  refine wj_e (ef_bx (s := [.ints .u64 5 (p2)]) rfl fun b4 hb4 => ?_)
  refine wj_e (ef_bx (s := [.ints .u64 5 (p3)]) rfl fun b5 hb5 => ?_)
  refine wj_e (ef_al fun b6 hb6 => ?_)
  refine wj_nil ?_
  refine wc_seq ?_
  revert h
  refine opt_i fun y8 ey8 => ?_
  refine opt_i fun y9 ey9 => ?_
  refine opt_i fun y10 ey10 => ?_
  refine opt_i fun y11 ey11 => ?_
  intro h
  refine wc_draw ?_
  refine ws_q1 _ (q_ld (p := [.ints .u64 5 (p0)]) rfl (.there (.there (.there (.there .here)))) rfl) ?_
  refine ws_q1 _ (q_ld (p := [.ints .u64 5 (p1)]) rfl (.there (.there (.there .here))) rfl) ?_
  refine ws_p1 _ (q_call (vs := [agg [.ints .u64 5 (p0)], agg [.ints .u64 5 (p1)]]) (v := agg [.ints .u64 5 (y8)]) rfl (fun w hw => field_Mul_spec (r := y8) (p0 := p0) (p1 := p1) ey8 )) ?_
  refine ws_q1 _ (q_ld (p := [.ints .u64 5 (p2)]) rfl (.there (.there .here)) rfl) ?_
  refine ws_q1 _ (q_ld (p := [.ints .u64 5 (p3)]) rfl (.there .here) rfl) ?_
  refine ws_p1 _ (q_call (vs := [agg [.ints .u64 5 (p2)], agg [.ints .u64 5 (p3)]]) (v := agg [.ints .u64 5 (y9)]) rfl (fun w hw => field_Mul_spec (r := y9) (p0 := p2) (p1 := p3) ey9 )) ?_
  refine ws_q1 _ (q_ld (p := [.ints .u64 5 (p1)]) rfl (.there (.there (.there .here))) rfl) ?_
  refine ws_q1 _ (q_ld (p := [.ints .u64 5 (p2)]) rfl (.there (.there .here)) rfl) ?_
  refine ws_p1 _ (q_call (vs := [agg [.ints .u64 5 (p1)], agg [.ints .u64 5 (p2)]]) (v := agg [.ints .u64 5 (y10)]) rfl (fun w hw => field_Mul_spec (r := y10) (p0 := p1) (p1 := p2) ey10 )) ?_
  refine ws_q1 _ (q_ld (p := [.ints .u64 5 (p0)]) rfl (.there (.there (.there (.there .here)))) rfl) ?_
  refine ws_q1 _ (q_ld (p := [.ints .u64 5 (p3)]) rfl (.there .here) rfl) ?_
  refine ws_p1 _ (q_call (vs := [agg [.ints .u64 5 (p0)], agg [.ints .u64 5 (p3)]]) (v := agg [.ints .u64 5 (y11)]) rfl (fun w hw => field_Mul_spec (r := y11) (p0 := p0) (p1 := p3) ey11 )) ?_
  refine ws_p1 _ (q_bd (q := [.ints .u64 5 (y8), .ints .u64 5 (y9), .ints .u64 5 (y10), .ints .u64 5 (y11)]) (.agg rfl rfl rfl (.agg rfl rfl rfl (.agg rfl rfl rfl (.agg rfl rfl rfl BdR.nil))))) ?_
  refine ws_eL rfl (ef_st (q := [.ints .u64 5 (y8), .ints .u64 5 (y9), .ints .u64 5 (y10), .ints .u64 5 (y11)]) rfl rfl rfl rfl rfl .here ?_)
  refine ws_nil ?_
  refine wc_ret ?_
  revert h; refine ret_i fun h => ?_
  subst h
  exact ⟨_, (.cons (.agg rfl .here rfl) .nil), rfl⟩
/- farebox/curve.doubled -/
def curve_doubled  : Option ((List Int)) :=
 bnd (([1859910466990425, 932731440258426, 1072319116312658, 1815898335770999, 633789495995903] : List Int)) fun z4 =>
 some z4
theorem curve_doubled_spec {W : World} {r : (List Int)} (h : curve_doubled  = some r)  :
    Calls Tryd.prog 88 [].toArray W (ret1 W (agg [.ints .u64 5 (r)])) := by
  unfold curve_doubled at h
  refine calls_val mo ok88 rfl ?_
  refine wc_seq ?_
  refine wc_ops ?_
  refine wj_e (ef_al fun b2 hb2 => ?_)
  refine wj_nil ?_
  refine wc_seq ?_
  revert h
  refine bnd_i fun z4 ez4 => ?_
  intro h
  refine wc_ops ?_
  refine wj_q _ (az (fun z => agg [.ints .u64 5 z]) ez4 (q_bd (.one rfl rfl rfl (.one rfl rfl rfl (.one rfl rfl rfl (.one rfl rfl rfl (.one rfl rfl rfl BdR.nil))))))) ?_
  refine wj_e (ef_st (q := [.ints .u64 5 (z4)]) rfl rfl rfl rfl rfl .here ?_)
  refine wj_nil ?_
  refine wc_ret ?_
  revert h; refine ret_i fun h => ?_
  subst h
  exact ⟨_, (.cons (.agg rfl .here rfl) .nil), rfl⟩
/- farebox/curve.Add -/
def curve_Add (p0 : api_Point) (p1 : api_Point) : Option (api_Point) :=
 opt (field_Sub p0.gY p0.gX) fun y6 =>
 opt (field_Sub p1.gY p1.gX) fun y7 =>
 opt (field_Mul y6 y7) fun y8 =>
 opt (field_Add p0.gY p0.gX) fun y11 =>
 opt (field_Add p1.gY p1.gX) fun y12 =>
 opt (field_Mul y11 y12) fun y13 =>
 opt (curve_doubled) fun y16 =>
 opt (field_Mul p0.gT y16) fun y19 =>
 opt (field_Mul y19 p1.gT) fun y20 =>
 opt (field_Add p0.gZ p0.gZ) fun y23 =>
 opt (field_Mul y23 p1.gZ) fun y24 =>
 opt (field_Sub y13 y8) fun y27 =>
 opt (field_Sub y24 y20) fun y28 =>
 opt (field_Add y24 y20) fun y29 =>
 opt (field_Add y13 y8) fun y30 =>
 opt (curve_closed y27 y28 y29 y30) fun y31 =>
 some y31
theorem curve_Add_spec {W : World} {r : api_Point} {p0 : api_Point} {p1 : api_Point} (h : curve_Add p0 p1 = some r)  :
    Calls Tryd.prog 56 [agg [.ints .u64 5 (p0.gX), .ints .u64 5 (p0.gY), .ints .u64 5 (p0.gZ), .ints .u64 5 (p0.gT)], agg [.ints .u64 5 (p1.gX), .ints .u64 5 (p1.gY), .ints .u64 5 (p1.gZ), .ints .u64 5 (p1.gT)]].toArray W (ret1 W (agg [.ints .u64 5 (r.gX), .ints .u64 5 (r.gY), .ints .u64 5 (r.gZ), .ints .u64 5 (r.gT)])) := by
  unfold curve_Add at h
  refine calls_val mo ok56 rfl ?_
  refine wc_seq ?_
  refine wc_ops ?_
  refine wj_e (ef_bx (s := [.ints .u64 5 (p0.gX), .ints .u64 5 (p0.gY), .ints .u64 5 (p0.gZ), .ints .u64 5 (p0.gT)]) rfl fun b2 hb2 => ?_)
  refine wj_e (ef_bx (s := [.ints .u64 5 (p1.gX), .ints .u64 5 (p1.gY), .ints .u64 5 (p1.gZ), .ints .u64 5 (p1.gT)]) rfl fun b3 hb3 => ?_)
  refine wj_e (ef_al fun b4 hb4 => ?_)
  refine wj_nil ?_
  refine wc_seq ?_
  revert h
  refine opt_i fun y6 ey6 => ?_
  refine opt_i fun y7 ey7 => ?_
  refine opt_i fun y8 ey8 => ?_
  intro h
  refine wc_draw ?_
  refine ws_p1 _ (q_fa rfl) ?_
  refine ws_p1 _ (q_fa rfl) ?_
  refine ws_p1 _ (q_fa rfl) ?_
  refine ws_p1 _ (q_fa rfl) ?_
  refine ws_q1 _ (q_ld (p := [.ints .u64 5 (p0.gY)]) rfl (.there (.there .here)) rfl) ?_
  refine ws_q1 _ (q_ld (p := [.ints .u64 5 (p0.gX)]) rfl (.there (.there .here)) rfl) ?_
  refine ws_p1 _ (q_call (vs := [agg [.ints .u64 5 (p0.gY)], agg [.ints .u64 5 (p0.gX)]]) (v := agg [.ints .u64 5 (y6)]) rfl (fun w hw => field_Sub_spec (r := y6) (p0 := p0.gY) (p1 := p0.gX) ey6 )) ?_
  refine ws_q1 _ (q_ld (p := [.ints .u64 5 (p1.gY)]) rfl (.there .here) rfl) ?_
  refine ws_q1 _ (q_ld (p := [.ints .u64 5 (p1.gX)]) rfl (.there .here) rfl) ?_
  refine ws_p1 _ (q_call (vs := [agg [.ints .u64 5 (p1.gY)], agg [.ints .u64 5 (p1.gX)]]) (v := agg [.ints .u64 5 (y7)]) rfl (fun w hw => field_Sub_spec (r := y7) (p0 := p1.gY) (p1 := p1.gX) ey7 )) ?_
  refine ws_p1 _ (q_call (vs := [agg [.ints .u64 5 (y6)], agg [.ints .u64 5 (y7)]]) (v := agg [.ints .u64 5 (y8)]) rfl (fun w hw => field_Mul_spec (r := y8) (p0 := y6) (p1 := y7) ey8 )) ?_
  refine ws_e1 (ef_al fun b9 hb9 => ⟨(by repeat (first | exact Sup.refl _ | apply Sup.cons | apply Sup.app)), ?_⟩)
  refine ws_eL rfl (ef_st (q := [.ints .u64 5 (y8)]) rfl rfl rfl rfl rfl .here ?_)
  refine ws_nil ?_
  refine wc_seq ?_
  revert h
  refine opt_i fun y11 ey11 => ?_
  refine opt_i fun y12 ey12 => ?_
  refine opt_i fun y13 ey13 => ?_
  intro h
  refine wc_draw ?_
  refine ws_p1 _ (q_fa rfl) ?_
  refine ws_p1 _ (q_fa rfl) ?_
  refine ws_p1 _ (q_fa rfl) ?_
  refine ws_p1 _ (q_fa rfl) ?_
  refine ws_q1 _ (q_ld (p := [.ints .u64 5 (p0.gY)]) rfl (.there (.there (.there .here))) rfl) ?_
  refine ws_q1 _ (q_ld (p := [.ints .u64 5 (p0.gX)]) rfl (.there (.there (.there .here))) rfl) ?_
  refine ws_p1 _ (q_call (vs := [agg [.ints .u64 5 (p0.gY)], agg [.ints .u64 5 (p0.gX)]]) (v := agg [.ints .u64 5 (y11)]) rfl (fun w hw => field_Add_spec (r := y11) (p0 := p0.gY) (p1 := p0.gX) ey11 )) ?_
  refine ws_q1 _ (q_ld (p := [.ints .u64 5 (p1.gY)]) rfl (.there (.there .here)) rfl) ?_
  refine ws_q1 _ (q_ld (p := [.ints .u64 5 (p1.gX)]) rfl (.there (.there .here)) rfl) ?_
  refine ws_p1 _ (q_call (vs := [agg [.ints .u64 5 (p1.gY)], agg [.ints .u64 5 (p1.gX)]]) (v := agg [.ints .u64 5 (y12)]) rfl (fun w hw => field_Add_spec (r := y12) (p0 := p1.gY) (p1 := p1.gX) ey12 )) ?_
  refine ws_p1 _ (q_call (vs := [agg [.ints .u64 5 (y11)], agg [.ints .u64 5 (y12)]]) (v := agg [.ints .u64 5 (y13)]) rfl (fun w hw => field_Mul_spec (r := y13) (p0 := y11) (p1 := y12) ey13 )) ?_
  refine ws_e1 (ef_al fun b14 hb14 => ⟨(by repeat (first | exact Sup.refl _ | apply Sup.cons | apply Sup.app)), ?_⟩)
  refine ws_eL rfl (ef_st (q := [.ints .u64 5 (y13)]) rfl rfl rfl rfl rfl .here ?_)
  refine ws_nil ?_
  refine wc_seq ?_
  revert h
  refine opt_i fun y16 ey16 => ?_
  intro h
  refine wc_ops ?_
  refine wj_q _ (q_call (vs := []) (v := agg [.ints .u64 5 (y16)]) rfl (fun w hw => curve_doubled_spec (r := y16) ey16 )) ?_
  refine wj_e (ef_al fun b17 hb17 => ?_)
  refine wj_e (ef_st (q := [.ints .u64 5 (y16)]) rfl rfl rfl rfl rfl .here ?_)
  refine wj_nil ?_
  refine wc_seq ?_
  revert h
  refine opt_i fun y19 ey19 => ?_
  refine opt_i fun y20 ey20 => ?_
  intro h
  refine wc_draw ?_
  refine ws_p1 _ (q_fa rfl) ?_
  refine ws_p1 _ (q_fa rfl) ?_
  refine ws_q1 _ (q_ld (p := [.ints .u64 5 (p0.gT)]) rfl (.there (.there (.there (.there (.there .here))))) rfl) ?_
  refine ws_q1 _ (q_ld (p := [.ints .u64 5 (y16)]) rfl .here rfl) ?_
  refine ws_p1 _ (q_call (vs := [agg [.ints .u64 5 (p0.gT)], agg [.ints .u64 5 (y16)]]) (v := agg [.ints .u64 5 (y19)]) rfl (fun w hw => field_Mul_spec (r := y19) (p0 := p0.gT) (p1 := y16) ey19 )) ?_
  refine ws_q1 _ (q_ld (p := [.ints .u64 5 (p1.gT)]) rfl (.there (.there (.there (.there .here)))) rfl) ?_
  refine ws_p1 _ (q_call (vs := [agg [.ints .u64 5 (y19)], agg [.ints .u64 5 (p1.gT)]]) (v := agg [.ints .u64 5 (y20)]) rfl (fun w hw => field_Mul_spec (r := y20) (p0 := y19) (p1 := p1.gT) ey20 )) ?_
  refine ws_e1 (ef_al fun b21 hb21 => ⟨(by repeat (first | exact Sup.refl _ | apply Sup.cons | apply Sup.app)), ?_⟩)
  refine ws_eL rfl (ef_st (q := [.ints .u64 5 (y20)]) rfl rfl rfl rfl rfl .here ?_)
  refine ws_nil ?_
  refine wc_seq ?_
  revert h
  refine opt_i fun y23 ey23 => ?_
  refine opt_i fun y24 ey24 => ?_
  intro h
  refine wc_draw ?_
  refine ws_p1 _ (q_fa rfl) ?_
  refine ws_p1 _ (q_fa rfl) ?_
  refine ws_p1 _ (q_fa rfl) ?_
  refine ws_q1 _ (q_ld (p := [.ints .u64 5 (p0.gZ)]) rfl (.there (.there (.there (.there (.there (.there .here)))))) rfl) ?_
  refine ws_q1 _ (q_ld (p := [.ints .u64 5 (p0.gZ)]) rfl (.there (.there (.there (.there (.there (.there .here)))))) rfl) ?_
  refine ws_p1 _ (q_call (vs := [agg [.ints .u64 5 (p0.gZ)], agg [.ints .u64 5 (p0.gZ)]]) (v := agg [.ints .u64 5 (y23)]) rfl (fun w hw => field_Add_spec (r := y23) (p0 := p0.gZ) (p1 := p0.gZ) ey23 )) ?_
  refine ws_q1 _ (q_ld (p := [.ints .u64 5 (p1.gZ)]) rfl (.there (.there (.there (.there (.there .here))))) rfl) ?_
  refine ws_p1 _ (q_call (vs := [agg [.ints .u64 5 (y23)], agg [.ints .u64 5 (p1.gZ)]]) (v := agg [.ints .u64 5 (y24)]) rfl (fun w hw => field_Mul_spec (r := y24) (p0 := y23) (p1 := p1.gZ) ey24 )) ?_
  refine ws_e1 (ef_al fun b25 hb25 => ⟨(by repeat (first | exact Sup.refl _ | apply Sup.cons | apply Sup.app)), ?_⟩)
  refine ws_eL rfl (ef_st (q := [.ints .u64 5 (y24)]) rfl rfl rfl rfl rfl .here ?_)
  refine ws_nil ?_
  refine wc_seq ?_
  revert h
  refine opt_i fun y27 ey27 => ?_
  refine opt_i fun y28 ey28 => ?_
  refine opt_i fun y29 ey29 => ?_
  refine opt_i fun y30 ey30 => ?_
  refine opt_i fun y31 ey31 => ?_
  intro h
  refine wc_draw ?_
  refine ws_q1 _ (q_ld (p := [.ints .u64 5 (y13)]) rfl (.there (.there (.there .here))) rfl) ?_
  refine ws_q1 _ (q_ld (p := [.ints .u64 5 (y8)]) rfl (.there (.there (.there (.there .here)))) rfl) ?_
  refine ws_p1 _ (q_call (vs := [agg [.ints .u64 5 (y13)], agg [.ints .u64 5 (y8)]]) (v := agg [.ints .u64 5 (y27)]) rfl (fun w hw => field_Sub_spec (r := y27) (p0 := y13) (p1 := y8) ey27 )) ?_
  refine ws_q1 _ (q_ld (p := [.ints .u64 5 (y24)]) rfl .here rfl) ?_
  refine ws_q1 _ (q_ld (p := [.ints .u64 5 (y20)]) rfl (.there .here) rfl) ?_
  refine ws_p1 _ (q_call (vs := [agg [.ints .u64 5 (y24)], agg [.ints .u64 5 (y20)]]) (v := agg [.ints .u64 5 (y28)]) rfl (fun w hw => field_Sub_spec (r := y28) (p0 := y24) (p1 := y20) ey28 )) ?_
  refine ws_q1 _ (q_ld (p := [.ints .u64 5 (y24)]) rfl .here rfl) ?_
  refine ws_q1 _ (q_ld (p := [.ints .u64 5 (y20)]) rfl (.there .here) rfl) ?_
  refine ws_p1 _ (q_call (vs := [agg [.ints .u64 5 (y24)], agg [.ints .u64 5 (y20)]]) (v := agg [.ints .u64 5 (y29)]) rfl (fun w hw => field_Add_spec (r := y29) (p0 := y24) (p1 := y20) ey29 )) ?_
  refine ws_q1 _ (q_ld (p := [.ints .u64 5 (y13)]) rfl (.there (.there (.there .here))) rfl) ?_
  refine ws_q1 _ (q_ld (p := [.ints .u64 5 (y8)]) rfl (.there (.there (.there (.there .here)))) rfl) ?_
  refine ws_p1 _ (q_call (vs := [agg [.ints .u64 5 (y13)], agg [.ints .u64 5 (y8)]]) (v := agg [.ints .u64 5 (y30)]) rfl (fun w hw => field_Add_spec (r := y30) (p0 := y13) (p1 := y8) ey30 )) ?_
  refine ws_p1 _ (q_call (vs := [agg [.ints .u64 5 (y27)], agg [.ints .u64 5 (y28)], agg [.ints .u64 5 (y29)], agg [.ints .u64 5 (y30)]]) (v := agg [.ints .u64 5 (y31.gX), .ints .u64 5 (y31.gY), .ints .u64 5 (y31.gZ), .ints .u64 5 (y31.gT)]) rfl (fun w hw => curve_closed_spec (r := y31) (p0 := y27) (p1 := y28) (p2 := y29) (p3 := y30) ey31 )) ?_
  refine ws_eL rfl (ef_st (q := [.ints .u64 5 (y31.gX), .ints .u64 5 (y31.gY), .ints .u64 5 (y31.gZ), .ints .u64 5 (y31.gT)]) rfl rfl rfl rfl rfl (.there (.there (.there (.there (.there .here))))) ?_)
  refine ws_nil ?_
  refine wc_ret ?_
  revert h; refine ret_i fun h => ?_
  subst h
  exact ⟨_, (.cons (.agg rfl (.there (.there (.there (.there (.there .here))))) rfl) .nil), rfl⟩
end Go.Proofs.YtiflckckekjbnaaDoor
/- Mirrors. -/
namespace Go.Proofs.YtiflckckekjbnaaDoor
open Go Go.Sx Go.RowKit
set_option linter.all false
set_option maxHeartbeats 400000
set_option maxRecDepth 100000
/- farebox/curve.multiples -/
abbrev E_api_Point : El (api_Point) := ⟨20, fun x => cells [.ints .u64 5 (x.gX), .ints .u64 5 (x.gY), .ints .u64 5 (x.gZ), .ints .u64 5 (x.gT)], fun x => by rw [cells_length]; rfl, fun x => (ones_cons ones_ints (ones_cons ones_ints (ones_cons ones_ints (ones_cons ones_ints ones_nil)))), by decide, api_Point_z⟩
def curve_multiples_b1 (p0 : api_Point) (k48 : (List (api_Point)) → Option ((List (api_Point)))) (k72 : (Int) → (List (api_Point)) → Option ((List (api_Point)))) (i70 : Int) (a71 : List (api_Point)) : Option ((List (api_Point))) :=
 br ((decide (i70 < 15))) (
 bnd (IntKind.wrap .i64 (i70 + 1)) fun z78 =>
 chk (inB i70 16) <|
 bnd (a71.getD (i70).toNat api_Point_z) fun x80 =>
 opt (curve_Add x80 p0) fun y81 =>
 chk (inB z78 16) <|
 bnd (setG api_Point_z a71 (z78).toNat y81) fun l83 =>
 bnd (IntKind.wrap .i64 (i70 + 1)) fun z85 =>
 k72 z85 l83
 ) (
 k48 a71
 )
def curve_multiples_l1 (p0 : api_Point) (k48 : (List (api_Point)) → Option ((List (api_Point)))) : Nat → (Int) → (List (api_Point)) → Option ((List (api_Point)))
  | 0, _, _ => none
  | n + 1, i70, a71 => curve_multiples_b1 p0 k48 (curve_multiples_l1 p0 k48 n) i70 a71
def curve_multiples (p0 : api_Point) : Option ((List (api_Point))) :=
 opt (curve_Zero) fun y7 =>
 bnd (setG api_Point_z (List.replicate 16 api_Point_z) 0 y7) fun l8 =>
 jn (fun (a47 : List (api_Point)) => some a47) fun k48 => curve_multiples_l1 p0 k48 big 0 l8
theorem curve_multiples_spec {W : World} {r : (List (api_Point))} {p0 : api_Point} (h : curve_multiples p0 = some r)  :
    Calls Tryd.prog 53 [agg [.ints .u64 5 (p0.gX), .ints .u64 5 (p0.gY), .ints .u64 5 (p0.gZ), .ints .u64 5 (p0.gT)]].toArray W (ret1 W (agg [.rows 20 16 (rowE E_api_Point (r))])) := by
  unfold curve_multiples at h
  refine calls_val mo ok53 rfl ?_
  refine wc_seq ?_
  refine wc_ops ?_
  refine wj_e (ef_bx (s := [.ints .u64 5 (p0.gX), .ints .u64 5 (p0.gY), .ints .u64 5 (p0.gZ), .ints .u64 5 (p0.gT)]) rfl fun b2 hb2 => ?_)
  refine wj_e (ef_al2 (z' := [.rows 20 16 (rowE E_api_Point ((List.replicate 16 api_Point_z)))]) (alz_rows (E := E_api_Point) rfl rfl) fun b3 hb3 => ?_)
  refine wj_nil ?_
  refine wc_seq ?_
  refine wc_ops ?_
  refine wj_e (ef_al2 (z' := [.rows 20 16 (rowE E_api_Point ((List.replicate 16 api_Point_z)))]) (alz_rows (E := E_api_Point) rfl rfl) fun b5 hb5 => ?_)
  refine wj_nil ?_
  refine wc_seq ?_
  revert h
  refine opt_i fun y7 ey7 => ?_
  refine bnd_i fun l8 el8 => ?_
  intro h
  refine wc_ops ?_
  refine wj_q _ (q_call (vs := []) (v := agg [.ints .u64 5 (y7.gX), .ints .u64 5 (y7.gY), .ints .u64 5 (y7.gZ), .ints .u64 5 (y7.gT)]) rfl (fun w hw => curve_Zero_spec (r := y7) ey7 )) ?_
  refine wj_q _ (q_ia rfl rfl (by decide)) ?_
  refine wj_e (ef_strz (q := [.rows 20 16 (rowE E_api_Point (l8))]) (E := E_api_Point) (base := 0) (i := 0) (len := 16) el8 rfl rfl rfl rfl (by decide) rfl .here ?_)
  refine wj_nil ?_
  refine wc_seq ?_
  refine wc_seq ?_
  refine wc_ops ?_
  refine wj_q _ (q_mv rfl) ?_
  refine wj_nil ?_
  revert h
  refine jn_i fun k48 qk48 => ?_
  intro h
  refine wc_mono2 (G := fun t m => ∃ (a47 : List (api_Point)), k48 a47 = some r ∧ Fit [(2, .pointer (some ⟨b3, 0, none⟩)), (3, .pointer (some ⟨b5, 0, none⟩))] (ck b5 105 [.rows 20 16 (rowE E_api_Point (a47))] :: (ck b3 105 [.rows 20 16 (rowE E_api_Point ((List.replicate 16 api_Point_z)))] :: (ck b2 60 [.ints .u64 5 (p0.gX), .ints .u64 5 (p0.gY), .ints .u64 5 (p0.gZ), .ints .u64 5 (p0.gT)] :: []))) t m) ?_ ?_
  · refine wc_block ?_
    refine wc_loopJ (fun n73 t m => ∃ (i70 : Int) (a71 : List (api_Point)), curve_multiples_l1 p0 k48 n73 i70 a71 = some r ∧ Fit [(1, .pointer (some ⟨b2, 0, none⟩)), (2, .pointer (some ⟨b3, 0, none⟩)), (3, .pointer (some ⟨b5, 0, none⟩)), (7, .int .i64 (i70))] (ck b5 105 [.rows 20 16 (rowE E_api_Point (a71))] :: (ck b3 105 [.rows 20 16 (rowE E_api_Point ((List.replicate 16 api_Point_z)))] :: (ck b2 60 [.ints .u64 5 (p0.gX), .ints .u64 5 (p0.gY), .ints .u64 5 (p0.gZ), .ints .u64 5 (p0.gT)] :: []))) t m) big ?_ ?_
    · exact ⟨0, l8, h, ⟨⟨rfl, rfl, rfl, rfl, trivial⟩, (.one .here (.one .here (.one .here .nil)))⟩⟩
    · rintro n73 t m ⟨i70, a71, h, hF⟩
      refine wc_fit hF ?_
      clear hF
      rcases n73 with _ | n73
      · exact none_i h
      have h : curve_multiples_b1 p0 k48 (curve_multiples_l1 p0 k48 n73) i70 a71 = some r := h
      unfold curve_multiples_b1 at h
      obtain ⟨k72, qk72⟩ : ∃ k, k = curve_multiples_l1 p0 k48 n73 := ⟨_, rfl⟩
      try rw [← qk72] at h
      refine wc_seq ?_
      refine wc_ops ?_
      refine wj_q _ (q_bin rfl rfl rfl) ?_
      refine wj_nil ?_
      refine wc_seq ?_
      refine wc_if (c := (decide (i70 < 15))) rfl (fun d75 => ?_) (fun d75 => ?_)
      · have h := br_t h d75
        refine wc_skip ?_
        refine wc_seq ?_
        refine wc_block ?_
        refine wc_seq ?_
        refine wc_ops ?_
        refine wj_q _ (q_mv rfl) ?_
        refine wj_q _ (q_mv rfl) ?_
        refine wj_nil ?_
        revert h
        refine bnd_i fun z78 ez78 => ?_
        refine chk_i fun c79 => ?_
        refine bnd_i fun x80 ex80 => ?_
        refine opt_i fun y81 ey81 => ?_
        refine chk_i fun c82 => ?_
        refine bnd_i fun l83 el83 => ?_
        intro h
        refine wc_draw ?_
        refine ws_p1 _ (q_mv rfl) ?_
        refine ws_p1 _ (iz ez78 (q_bin rfl rfl rfl)) ?_
        refine ws_p1 _ (q_mv rfl) ?_
        refine ws_p1 _ (q_ia rfl rfl (inB_z c79)) ?_
        refine ws_q1 _ (az (fun x80 => agg [.ints .u64 5 (x80.gX), .ints .u64 5 (x80.gY), .ints .u64 5 (x80.gZ), .ints .u64 5 (x80.gT)]) ex80 (q_ldr0 (base := 0) (w := 20) rfl .here rfl (inB_n c79) rfl rfl rfl)) ?_
        refine ws_q1 _ (q_ld (p := [.ints .u64 5 (p0.gX), .ints .u64 5 (p0.gY), .ints .u64 5 (p0.gZ), .ints .u64 5 (p0.gT)]) rfl (.there (.there .here)) rfl) ?_
        refine ws_p1 _ (q_call (vs := [agg [.ints .u64 5 (x80.gX), .ints .u64 5 (x80.gY), .ints .u64 5 (x80.gZ), .ints .u64 5 (x80.gT)], agg [.ints .u64 5 (p0.gX), .ints .u64 5 (p0.gY), .ints .u64 5 (p0.gZ), .ints .u64 5 (p0.gT)]]) (v := agg [.ints .u64 5 (y81.gX), .ints .u64 5 (y81.gY), .ints .u64 5 (y81.gZ), .ints .u64 5 (y81.gT)]) rfl (fun w hw => curve_Add_spec (r := y81) (p0 := x80) (p1 := p0) ey81 )) ?_
        refine ws_p1 _ (q_ia rfl rfl (inB_z c82)) ?_
        refine ws_eL rfl (ef_strz (q := [.rows 20 16 (rowE E_api_Point (l83))]) (E := E_api_Point) (base := 0) el83 rfl rfl rfl rfl (inB_n c82) rfl .here ?_)
        refine ws_nil ?_
        revert h
        refine bnd_i fun z85 ez85 => ?_
        intro h
        refine wc_ops ?_
        refine wj_q _ (iz ez85 (q_bin rfl rfl rfl)) ?_
        refine wj_q _ (q_mv rfl) ?_
        refine wj_nil ?_
        rw [qk72] at h
        exact ⟨n73, Nat.lt_succ_self _, z85, l83, h, ⟨⟨rfl, rfl, rfl, rfl, trivial⟩, (.one .here (.one .here (.one .here .nil)))⟩⟩
      · have h := br_f h d75
        refine wc_exit _ rfl ?_
        exact ⟨a71, h, ⟨⟨rfl, rfl, trivial⟩, (.one .here (.one .here (.one .here .nil)))⟩⟩
  · rintro t m ⟨a47, h, hF⟩
    refine wc_fit hF ?_
    clear hF
    subst qk48
    refine wc_seq ?_
    refine wc_ops ?_
    refine wj_q _ (q_ld (p := [.rows 20 16 (rowE E_api_Point (a47))]) rfl .here rfl) ?_
    refine wj_e (ef_stg (q := [.rows 20 16 (rowE E_api_Point (a47))]) rfl rfl rfl rfl (ones_cons (ones_rows (E := E_api_Point)) ones_nil) (.there .here) ?_)
    refine wj_nil ?_
    refine wc_ret ?_
    revert h; refine ret_i fun h => ?_
    subst h
    exact ⟨_, (.cons (.agg rfl (.there .here) rfl) .nil), rfl⟩
/- farebox/curve.Double -/
def curve_Double (p0 : api_Point) : Option (api_Point) :=
 opt (field_Square p0.gX) fun y5 =>
 opt (field_Square p0.gY) fun y8 =>
 opt (field_Square p0.gZ) fun y11 =>
 opt (field_Add y5 y8) fun y14 =>
 opt (field_Add p0.gX p0.gY) fun y17 =>
 opt (field_Square y17) fun y18 =>
 opt (field_Sub y14 y18) fun y19 =>
 opt (field_Sub y5 y8) fun y22 =>
 opt (field_Add y11 y11) fun y25 =>
 opt (field_Add y25 y22) fun y26 =>
 opt (curve_closed y19 y26 y22 y14) fun y29 =>
 some y29
theorem curve_Double_spec {W : World} {r : api_Point} {p0 : api_Point} (h : curve_Double p0 = some r)  :
    Calls Tryd.prog 55 [agg [.ints .u64 5 (p0.gX), .ints .u64 5 (p0.gY), .ints .u64 5 (p0.gZ), .ints .u64 5 (p0.gT)]].toArray W (ret1 W (agg [.ints .u64 5 (r.gX), .ints .u64 5 (r.gY), .ints .u64 5 (r.gZ), .ints .u64 5 (r.gT)])) := by
  unfold curve_Double at h
  refine calls_val mo ok55 rfl ?_
  refine wc_seq ?_
  refine wc_ops ?_
  refine wj_e (ef_bx (s := [.ints .u64 5 (p0.gX), .ints .u64 5 (p0.gY), .ints .u64 5 (p0.gZ), .ints .u64 5 (p0.gT)]) rfl fun b2 hb2 => ?_)
  refine wj_e (ef_al fun b3 hb3 => ?_)
  refine wj_nil ?_
  refine wc_seq ?_
  revert h
  refine opt_i fun y5 ey5 => ?_
  intro h
  refine wc_ops ?_
  refine wj_q _ (q_fa rfl) ?_
  refine wj_q _ (q_ld (p := [.ints .u64 5 (p0.gX)]) rfl (.there .here) rfl) ?_
  refine wj_q _ (q_call (vs := [agg [.ints .u64 5 (p0.gX)]]) (v := agg [.ints .u64 5 (y5)]) rfl (fun w hw => field_Square_spec (r := y5) (p0 := p0.gX) ey5 )) ?_
  refine wj_e (ef_al fun b6 hb6 => ?_)
  refine wj_e (ef_st (q := [.ints .u64 5 (y5)]) rfl rfl rfl rfl rfl .here ?_)
  refine wj_nil ?_
  refine wc_seq ?_
  revert h
  refine opt_i fun y8 ey8 => ?_
  intro h
  refine wc_ops ?_
  refine wj_q _ (q_fa rfl) ?_
  refine wj_q _ (q_ld (p := [.ints .u64 5 (p0.gY)]) rfl (.there (.there .here)) rfl) ?_
  refine wj_q _ (q_call (vs := [agg [.ints .u64 5 (p0.gY)]]) (v := agg [.ints .u64 5 (y8)]) rfl (fun w hw => field_Square_spec (r := y8) (p0 := p0.gY) ey8 )) ?_
  refine wj_e (ef_al fun b9 hb9 => ?_)
  refine wj_e (ef_st (q := [.ints .u64 5 (y8)]) rfl rfl rfl rfl rfl .here ?_)
  refine wj_nil ?_
  refine wc_seq ?_
  revert h
  refine opt_i fun y11 ey11 => ?_
  intro h
  refine wc_ops ?_
  refine wj_q _ (q_fa rfl) ?_
  refine wj_q _ (q_ld (p := [.ints .u64 5 (p0.gZ)]) rfl (.there (.there (.there .here))) rfl) ?_
  refine wj_q _ (q_call (vs := [agg [.ints .u64 5 (p0.gZ)]]) (v := agg [.ints .u64 5 (y11)]) rfl (fun w hw => field_Square_spec (r := y11) (p0 := p0.gZ) ey11 )) ?_
  refine wj_e (ef_al fun b12 hb12 => ?_)
  refine wj_e (ef_st (q := [.ints .u64 5 (y11)]) rfl rfl rfl rfl rfl .here ?_)
  refine wj_nil ?_
  refine wc_seq ?_
  revert h
  refine opt_i fun y14 ey14 => ?_
  intro h
  refine wc_ops ?_
  refine wj_q _ (q_ld (p := [.ints .u64 5 (y5)]) rfl (.there (.there .here)) rfl) ?_
  refine wj_q _ (q_ld (p := [.ints .u64 5 (y8)]) rfl (.there .here) rfl) ?_
  refine wj_q _ (q_call (vs := [agg [.ints .u64 5 (y5)], agg [.ints .u64 5 (y8)]]) (v := agg [.ints .u64 5 (y14)]) rfl (fun w hw => field_Add_spec (r := y14) (p0 := y5) (p1 := y8) ey14 )) ?_
  refine wj_e (ef_al fun b15 hb15 => ?_)
  refine wj_e (ef_st (q := [.ints .u64 5 (y14)]) rfl rfl rfl rfl rfl .here ?_)
  refine wj_nil ?_
  refine wc_seq ?_
  revert h
  refine opt_i fun y17 ey17 => ?_
  refine opt_i fun y18 ey18 => ?_
  refine opt_i fun y19 ey19 => ?_
  intro h
  refine wc_draw ?_
  refine ws_p1 _ (q_fa rfl) ?_
  refine ws_p1 _ (q_fa rfl) ?_
  refine ws_q1 _ (q_ld (p := [.ints .u64 5 (y14)]) rfl .here rfl) ?_
  refine ws_q1 _ (q_ld (p := [.ints .u64 5 (p0.gX)]) rfl (.there (.there (.there (.there (.there .here))))) rfl) ?_
  refine ws_q1 _ (q_ld (p := [.ints .u64 5 (p0.gY)]) rfl (.there (.there (.there (.there (.there .here))))) rfl) ?_
  refine ws_p1 _ (q_call (vs := [agg [.ints .u64 5 (p0.gX)], agg [.ints .u64 5 (p0.gY)]]) (v := agg [.ints .u64 5 (y17)]) rfl (fun w hw => field_Add_spec (r := y17) (p0 := p0.gX) (p1 := p0.gY) ey17 )) ?_
  refine ws_p1 _ (q_call (vs := [agg [.ints .u64 5 (y17)]]) (v := agg [.ints .u64 5 (y18)]) rfl (fun w hw => field_Square_spec (r := y18) (p0 := y17) ey18 )) ?_
  refine ws_p1 _ (q_call (vs := [agg [.ints .u64 5 (y14)], agg [.ints .u64 5 (y18)]]) (v := agg [.ints .u64 5 (y19)]) rfl (fun w hw => field_Sub_spec (r := y19) (p0 := y14) (p1 := y18) ey19 )) ?_
  refine ws_e1 (ef_al fun b20 hb20 => ⟨(by repeat (first | exact Sup.refl _ | apply Sup.cons | apply Sup.app)), ?_⟩)
  refine ws_eL rfl (ef_st (q := [.ints .u64 5 (y19)]) rfl rfl rfl rfl rfl .here ?_)
  refine ws_nil ?_
  refine wc_seq ?_
  revert h
  refine opt_i fun y22 ey22 => ?_
  intro h
  refine wc_ops ?_
  refine wj_q _ (q_ld (p := [.ints .u64 5 (y5)]) rfl (.there (.there (.there (.there .here)))) rfl) ?_
  refine wj_q _ (q_ld (p := [.ints .u64 5 (y8)]) rfl (.there (.there (.there .here))) rfl) ?_
  refine wj_q _ (q_call (vs := [agg [.ints .u64 5 (y5)], agg [.ints .u64 5 (y8)]]) (v := agg [.ints .u64 5 (y22)]) rfl (fun w hw => field_Sub_spec (r := y22) (p0 := y5) (p1 := y8) ey22 )) ?_
  refine wj_e (ef_al fun b23 hb23 => ?_)
  refine wj_e (ef_st (q := [.ints .u64 5 (y22)]) rfl rfl rfl rfl rfl .here ?_)
  refine wj_nil ?_
  refine wc_seq ?_
  revert h
  refine opt_i fun y25 ey25 => ?_
  refine opt_i fun y26 ey26 => ?_
  intro h
  refine wc_draw ?_
  refine ws_q1 _ (q_ld (p := [.ints .u64 5 (y11)]) rfl (.there (.there (.there .here))) rfl) ?_
  refine ws_q1 _ (q_ld (p := [.ints .u64 5 (y11)]) rfl (.there (.there (.there .here))) rfl) ?_
  refine ws_p1 _ (q_call (vs := [agg [.ints .u64 5 (y11)], agg [.ints .u64 5 (y11)]]) (v := agg [.ints .u64 5 (y25)]) rfl (fun w hw => field_Add_spec (r := y25) (p0 := y11) (p1 := y11) ey25 )) ?_
  refine ws_q1 _ (q_ld (p := [.ints .u64 5 (y22)]) rfl .here rfl) ?_
  refine ws_p1 _ (q_call (vs := [agg [.ints .u64 5 (y25)], agg [.ints .u64 5 (y22)]]) (v := agg [.ints .u64 5 (y26)]) rfl (fun w hw => field_Add_spec (r := y26) (p0 := y25) (p1 := y22) ey26 )) ?_
  refine ws_e1 (ef_al fun b27 hb27 => ⟨(by repeat (first | exact Sup.refl _ | apply Sup.cons | apply Sup.app)), ?_⟩)
  refine ws_eL rfl (ef_st (q := [.ints .u64 5 (y26)]) rfl rfl rfl rfl rfl .here ?_)
  refine ws_nil ?_
  refine wc_seq ?_
  revert h
  refine opt_i fun y29 ey29 => ?_
  intro h
  refine wc_ops ?_
  refine wj_q _ (q_ld (p := [.ints .u64 5 (y19)]) rfl (.there (.there .here)) rfl) ?_
  refine wj_q _ (q_ld (p := [.ints .u64 5 (y26)]) rfl .here rfl) ?_
  refine wj_q _ (q_ld (p := [.ints .u64 5 (y22)]) rfl (.there .here) rfl) ?_
  refine wj_q _ (q_ld (p := [.ints .u64 5 (y14)]) rfl (.there (.there (.there .here))) rfl) ?_
  refine wj_q _ (q_call (vs := [agg [.ints .u64 5 (y19)], agg [.ints .u64 5 (y26)], agg [.ints .u64 5 (y22)], agg [.ints .u64 5 (y14)]]) (v := agg [.ints .u64 5 (y29.gX), .ints .u64 5 (y29.gY), .ints .u64 5 (y29.gZ), .ints .u64 5 (y29.gT)]) rfl (fun w hw => curve_closed_spec (r := y29) (p0 := y19) (p1 := y26) (p2 := y22) (p3 := y14) ey29 )) ?_
  refine wj_e (ef_st (q := [.ints .u64 5 (y29.gX), .ints .u64 5 (y29.gY), .ints .u64 5 (y29.gZ), .ints .u64 5 (y29.gT)]) rfl rfl rfl rfl rfl (.there (.there (.there (.there (.there (.there (.there .here))))))) ?_)
  refine wj_nil ?_
  refine wc_ret ?_
  revert h; refine ret_i fun h => ?_
  subst h
  exact ⟨_, (.cons (.agg rfl (.there (.there (.there (.there (.there (.there (.there .here))))))) rfl) .nil), rfl⟩
/- farebox/curve.nibble -/
def curve_nibble (p0 : List Int) (p1 : Int) : Option (Int) :=
 bnd (IntKind.wrap .i64 (Int.tdiv p1 2)) fun z4 =>
 bnd (IntKind.wrap .i64 (31 - z4)) fun z5 =>
 chk (inB z5 32) <|
 bnd (p0.getD (z5).toNat 0) fun z7 =>
 bnd (Int.tmod p1 2) fun z8 =>
 bnd (IntKind.wrap .i64 (1 - z8)) fun z9 =>
 bnd (IntKind.wrap .i64 (4 * z9)) fun z10 =>
 chk (decide (0 ≤ z10)) <|
 bnd (shrV .u8 z7 z10) fun z12 =>
 bnd (bitsV .and .u8 z12 15) fun z13 =>
 some z13
theorem curve_nibble_spec {W : World} {r : Int} {p0 : List Int} {p1 : Int} (h : curve_nibble p0 p1 = some r)  :
    Calls Tryd.prog 57 [agg [.ints .u8 32 (p0)], .int .i64 (p1)].toArray W (ret1 W (.int .u8 (r))) := by
  unfold curve_nibble at h
  refine calls_val mo ok57 rfl ?_
  refine wc_seq ?_
  refine wc_ops ?_
  refine wj_e (ef_bx (s := [.ints .u8 32 (p0)]) rfl fun b2 hb2 => ?_)
  refine wj_q _ (q_mv rfl) ?_
  refine wj_nil ?_
  refine wc_seq ?_
  revert h
  refine bnd_i fun z4 ez4 => ?_
  refine bnd_i fun z5 ez5 => ?_
  refine chk_i fun c6 => ?_
  refine bnd_i fun z7 ez7 => ?_
  refine bnd_i fun z8 ez8 => ?_
  refine bnd_i fun z9 ez9 => ?_
  refine bnd_i fun z10 ez10 => ?_
  refine chk_i fun c11 => ?_
  refine bnd_i fun z12 ez12 => ?_
  refine bnd_i fun z13 ez13 => ?_
  intro h
  refine wc_ops ?_
  refine wj_q _ (q_mv rfl) ?_
  refine wj_q _ (iz ez4 (q_quo rfl rfl (by decide))) ?_
  refine wj_q _ (iz ez5 (q_bin rfl rfl rfl)) ?_
  refine wj_q _ (q_ia rfl rfl (inB_z c6)) ?_
  refine wj_q _ (iz ez7 (q_ldi (base := 0) rfl .here rfl (inB_n c6))) ?_
  refine wj_q _ (q_mv rfl) ?_
  refine wj_q _ (iz ez8 (q_rem rfl rfl (by decide))) ?_
  refine wj_q _ (iz ez9 (q_bin rfl rfl rfl)) ?_
  refine wj_q _ (iz ez10 (q_bin rfl rfl rfl)) ?_
  refine wj_q _ (iz ez12 (q_shr rfl rfl (of_decide_eq_true c11))) ?_
  refine wj_q _ (iz ez13 (q_bin rfl rfl rfl)) ?_
  refine wj_q _ (q_mv rfl) ?_
  refine wj_nil ?_
  refine wc_ret ?_
  revert h; refine ret_i fun h => ?_
  subst h
  exact ⟨_, (.cons (.tmp rfl) .nil), rfl⟩
/- farebox/curve.Combine -/
def curve_Combine_b2 (k469 : (List Int) → (List Int) → (List Int) → (List Int) → Option (api_Point)) (k490 : (Int) → (List Int) → (List Int) → (List Int) → (List Int) → Option (api_Point)) (i485 : Int) (a486 : List Int) (a487 : List Int) (a488 : List Int) (a489 : List Int) : Option (api_Point) :=
 br ((decide (i485 < 4))) (
 opt (curve_Double (⟨a486, a487, a488, a489⟩ : api_Point)) fun y495 =>
 bnd (IntKind.wrap .i64 (i485 + 1)) fun z497 =>
 k490 z497 y495.gX y495.gY y495.gZ y495.gT
 ) (
 k469 a486 a487 a488 a489
 )
def curve_Combine_l2 (k469 : (List Int) → (List Int) → (List Int) → (List Int) → Option (api_Point)) : Nat → (Int) → (List Int) → (List Int) → (List Int) → (List Int) → Option (api_Point)
  | 0, _, _, _, _, _ => none
  | n + 1, i485, a486, a487, a488, a489 => curve_Combine_b2 k469 (curve_Combine_l2 k469 n) i485 a486 a487 a488 a489
def curve_Combine_b1 (p0 : List Int) (p2 : List Int) (a15 : List (api_Point)) (a17 : List (api_Point)) (k270 : (List Int) → (List Int) → (List Int) → (List Int) → Option (api_Point)) (k431 : (Int) → (List Int) → (List Int) → (List Int) → (List Int) → Option (api_Point)) (i426 : Int) (a427 : List Int) (a428 : List Int) (a429 : List Int) (a430 : List Int) : Option (api_Point) :=
 br ((decide (i426 < 64))) (
 jn (fun (a465 : List Int) (a466 : List Int) (a467 : List Int) (a468 : List Int) => opt (curve_nibble p0 i426) fun y499 =>
 chk (inB y499 16) <|
 bnd (a15.getD (y499).toNat api_Point_z) fun x501 =>
 opt (curve_Add (⟨a465, a466, a467, a468⟩ : api_Point) x501) fun y502 =>
 opt (curve_nibble p2 i426) fun y503 =>
 chk (inB y503 16) <|
 bnd (a17.getD (y503).toNat api_Point_z) fun x505 =>
 opt (curve_Add y502 x505) fun y506 =>
 bnd (IntKind.wrap .i64 (i426 + 1)) fun z508 =>
 k431 z508 y506.gX y506.gY y506.gZ y506.gT) fun k469 => curve_Combine_l2 k469 big 0 a427 a428 a429 a430
 ) (
 k270 a427 a428 a429 a430
 )
def curve_Combine_l1 (p0 : List Int) (p2 : List Int) (a15 : List (api_Point)) (a17 : List (api_Point)) (k270 : (List Int) → (List Int) → (List Int) → (List Int) → Option (api_Point)) : Nat → (Int) → (List Int) → (List Int) → (List Int) → (List Int) → Option (api_Point)
  | 0, _, _, _, _, _ => none
  | n + 1, i426, a427, a428, a429, a430 => curve_Combine_b1 p0 p2 a15 a17 k270 (curve_Combine_l1 p0 p2 a15 a17 k270 n) i426 a427 a428 a429 a430
def curve_Combine (p0 : List Int) (p1 : api_Point) (p2 : List Int) : Option (api_Point) :=
 opt (curve_start) fun y7 =>
 jn (fun (a15 : List (api_Point)) (a17 : List (api_Point)) => opt (curve_Zero) fun y25 =>
 jn (fun (a266 : List Int) (a267 : List Int) (a268 : List Int) (a269 : List Int) => some (⟨a266, a267, a268, a269⟩ : api_Point)) fun k270 => curve_Combine_l1 p0 p2 a15 a17 k270 big 0 y25.gX y25.gY y25.gZ y25.gT) fun k18 => opt (curve_multiples p1) fun y20 =>
 opt (curve_multiples y7) fun y21 =>
 k18 y20 y21
theorem curve_Combine_spec {W : World} {r : api_Point} {p0 : List Int} {p1 : api_Point} {p2 : List Int} (h : curve_Combine p0 p1 p2 = some r)  :
    Calls Tryd.prog 22 [agg [.ints .u8 32 (p0)], agg [.ints .u64 5 (p1.gX), .ints .u64 5 (p1.gY), .ints .u64 5 (p1.gZ), .ints .u64 5 (p1.gT)], agg [.ints .u8 32 (p2)]].toArray W (ret1 W (agg [.ints .u64 5 (r.gX), .ints .u64 5 (r.gY), .ints .u64 5 (r.gZ), .ints .u64 5 (r.gT)])) := by
  unfold curve_Combine at h
  refine calls_val mo ok22 rfl ?_
  refine wc_seq ?_
  refine wc_ops ?_
  refine wj_e (ef_bx (s := [.ints .u8 32 (p0)]) rfl fun b2 hb2 => ?_)
  refine wj_e (ef_bx (s := [.ints .u64 5 (p1.gX), .ints .u64 5 (p1.gY), .ints .u64 5 (p1.gZ), .ints .u64 5 (p1.gT)]) rfl fun b3 hb3 => ?_)
  refine wj_e (ef_bx (s := [.ints .u8 32 (p2)]) rfl fun b4 hb4 => ?_)
  refine wj_e (ef_al fun b5 hb5 => ?_)
  refine wj_nil ?_
  refine wc_seq ?_
  revert h
  refine opt_i fun y7 ey7 => ?_
  intro h
  refine wc_ops ?_
  refine wj_q _ (q_call (vs := []) (v := agg [.ints .u64 5 (y7.gX), .ints .u64 5 (y7.gY), .ints .u64 5 (y7.gZ), .ints .u64 5 (y7.gT)]) rfl (fun w hw => curve_start_spec (r := y7) ey7 )) ?_
  refine wj_e (ef_al fun b8 hb8 => ?_)
  refine wj_e (ef_st (q := [.ints .u64 5 (y7.gX), .ints .u64 5 (y7.gY), .ints .u64 5 (y7.gZ), .ints .u64 5 (y7.gT)]) rfl rfl rfl rfl rfl .here ?_)
  refine wj_nil ?_
  refine wc_seq ?_
  revert h
  refine jn_i fun k18 qk18 => ?_
  intro h
  refine wc_mono2 (G := fun t m => ∃ (a15 : List (api_Point)) (a17 : List (api_Point)) (b14 : Nat) (b16 : Nat), k18 a15 a17 = some r ∧ Fit [(3, .pointer (some ⟨b2, 0, none⟩)), (5, .pointer (some ⟨b4, 0, none⟩)), (6, .pointer (some ⟨b5, 0, none⟩)), (8, .pointer (some ⟨b14, 0, none⟩)), (9, .pointer (some ⟨b16, 0, none⟩))] (ck b16 105 [.rows 20 16 (rowE E_api_Point (a17))] :: (ck b14 105 [.rows 20 16 (rowE E_api_Point (a15))] :: (ck b8 60 [.ints .u64 5 (y7.gX), .ints .u64 5 (y7.gY), .ints .u64 5 (y7.gZ), .ints .u64 5 (y7.gT)] :: (ck b5 60 [.ints .u64 5 ((List.replicate 5 0)), .ints .u64 5 ((List.replicate 5 0)), .ints .u64 5 ((List.replicate 5 0)), .ints .u64 5 ((List.replicate 5 0))] :: (ck b4 63 [.ints .u8 32 (p2)] :: (ck b3 60 [.ints .u64 5 (p1.gX), .ints .u64 5 (p1.gY), .ints .u64 5 (p1.gZ), .ints .u64 5 (p1.gT)] :: (ck b2 63 [.ints .u8 32 (p0)] :: []))))))) t m) ?_ ?_
  · revert h
    refine opt_i fun y20 ey20 => ?_
    refine opt_i fun y21 ey21 => ?_
    intro h
    refine wc_draw ?_
    refine ws_q1 _ (q_ld (p := [.ints .u64 5 (p1.gX), .ints .u64 5 (p1.gY), .ints .u64 5 (p1.gZ), .ints .u64 5 (p1.gT)]) rfl (.there (.there (.there .here))) rfl) ?_
    refine ws_p1 _ (q_call (vs := [agg [.ints .u64 5 (p1.gX), .ints .u64 5 (p1.gY), .ints .u64 5 (p1.gZ), .ints .u64 5 (p1.gT)]]) (v := agg [.rows 20 16 (rowE E_api_Point (y20))]) rfl (fun w hw => curve_multiples_spec (r := y20) (p0 := p1) ey20 )) ?_
    refine ws_q1 _ (q_ld (p := [.ints .u64 5 (y7.gX), .ints .u64 5 (y7.gY), .ints .u64 5 (y7.gZ), .ints .u64 5 (y7.gT)]) rfl .here rfl) ?_
    refine ws_p1 _ (q_call (vs := [agg [.ints .u64 5 (y7.gX), .ints .u64 5 (y7.gY), .ints .u64 5 (y7.gZ), .ints .u64 5 (y7.gT)]]) (v := agg [.rows 20 16 (rowE E_api_Point (y21))]) rfl (fun w hw => curve_multiples_spec (r := y21) (p0 := y7) ey21 )) ?_
    refine ws_two (ef_al2 (z' := [.rows 20 16 (rowE E_api_Point ((List.replicate 16 api_Point_z)))]) (alz_rows (E := E_api_Point) rfl rfl) fun b22 hb22 => ⟨(by repeat (first | exact Sup.refl _ | apply Sup.cons | apply Sup.app)), ?_⟩) (ef_al2 (z' := [.rows 20 16 (rowE E_api_Point ((List.replicate 16 api_Point_z)))]) (alz_rows (E := E_api_Point) rfl rfl) fun b23 hb23 => ⟨(by repeat (first | exact Sup.refl _ | apply Sup.cons | apply Sup.app)), ?_⟩)
    · refine ws_e1 (ef_al2 (z' := [.rows 20 16 (rowE E_api_Point ((List.replicate 16 api_Point_z)))]) (alz_rows (E := E_api_Point) rfl rfl) fun b23 hb23 => ⟨(by repeat (first | exact Sup.refl _ | apply Sup.cons | apply Sup.app)), ?_⟩)
      refine ws_eL rfl (ef_stg (q := [.rows 20 16 (rowE E_api_Point (y20))]) rfl rfl rfl rfl (ones_cons (ones_rows (E := E_api_Point)) ones_nil) (.there .here) ?_)
      refine ws_eM rfl (ef_stg (q := [.rows 20 16 (rowE E_api_Point (y21))]) rfl rfl rfl rfl (ones_cons (ones_rows (E := E_api_Point)) ones_nil) .here ?_)
      refine ws_nil ?_
      exact ⟨y20, y21, b22, b23, h, ⟨⟨rfl, rfl, rfl, rfl, rfl, trivial⟩, (.one .here (.one .here (.one .here (.one .here (.one .here (.one .here (.one .here .nil)))))))⟩⟩
    · refine ws_e1 (ef_al2 (z' := [.rows 20 16 (rowE E_api_Point ((List.replicate 16 api_Point_z)))]) (alz_rows (E := E_api_Point) rfl rfl) fun b22 hb22 => ⟨(by repeat (first | exact Sup.refl _ | apply Sup.cons | apply Sup.app)), ?_⟩)
      refine ws_eL rfl (ef_stg (q := [.rows 20 16 (rowE E_api_Point (y20))]) rfl rfl rfl rfl (ones_cons (ones_rows (E := E_api_Point)) ones_nil) .here ?_)
      refine ws_eM rfl (ef_stg (q := [.rows 20 16 (rowE E_api_Point (y21))]) rfl rfl rfl rfl (ones_cons (ones_rows (E := E_api_Point)) ones_nil) (.there .here) ?_)
      refine ws_nil ?_
      exact ⟨y20, y21, b22, b23, h, ⟨⟨rfl, rfl, rfl, rfl, rfl, trivial⟩, (.one (.there .here) (.one .here (.one .here (.one .here (.one .here (.one .here (.one .here .nil)))))))⟩⟩
  · rintro t m ⟨a15, a17, b14, b16, h, hF⟩
    refine wc_fit hF ?_
    clear hF
    subst qk18
    refine wc_seq ?_
    revert h
    refine opt_i fun y25 ey25 => ?_
    intro h
    refine wc_ops ?_
    refine wj_q _ (q_call (vs := []) (v := agg [.ints .u64 5 (y25.gX), .ints .u64 5 (y25.gY), .ints .u64 5 (y25.gZ), .ints .u64 5 (y25.gT)]) rfl (fun w hw => curve_Zero_spec (r := y25) ey25 )) ?_
    refine wj_e (ef_al fun b26 hb26 => ?_)
    refine wj_e (ef_st (q := [.ints .u64 5 (y25.gX), .ints .u64 5 (y25.gY), .ints .u64 5 (y25.gZ), .ints .u64 5 (y25.gT)]) rfl rfl rfl rfl rfl .here ?_)
    refine wj_nil ?_
    refine wc_seq ?_
    refine wc_seq ?_
    refine wc_ops ?_
    refine wj_q _ (q_mv rfl) ?_
    refine wj_nil ?_
    revert h
    refine jn_i fun k270 qk270 => ?_
    intro h
    refine wc_mono2 (G := fun t m => ∃ (a266 : List Int) (a267 : List Int) (a268 : List Int) (a269 : List Int), k270 a266 a267 a268 a269 = some r ∧ Fit [(6, .pointer (some ⟨b5, 0, none⟩)), (10, .pointer (some ⟨b26, 0, none⟩))] (ck b26 60 [.ints .u64 5 (a266), .ints .u64 5 (a267), .ints .u64 5 (a268), .ints .u64 5 (a269)] :: (ck b16 105 [.rows 20 16 (rowE E_api_Point (a17))] :: (ck b14 105 [.rows 20 16 (rowE E_api_Point (a15))] :: (ck b8 60 [.ints .u64 5 (y7.gX), .ints .u64 5 (y7.gY), .ints .u64 5 (y7.gZ), .ints .u64 5 (y7.gT)] :: (ck b5 60 [.ints .u64 5 ((List.replicate 5 0)), .ints .u64 5 ((List.replicate 5 0)), .ints .u64 5 ((List.replicate 5 0)), .ints .u64 5 ((List.replicate 5 0))] :: (ck b4 63 [.ints .u8 32 (p2)] :: (ck b3 60 [.ints .u64 5 (p1.gX), .ints .u64 5 (p1.gY), .ints .u64 5 (p1.gZ), .ints .u64 5 (p1.gT)] :: (ck b2 63 [.ints .u8 32 (p0)] :: [])))))))) t m) ?_ ?_
    · refine wc_block ?_
      refine wc_loopJ (fun n432 t m => ∃ (i426 : Int) (a427 : List Int) (a428 : List Int) (a429 : List Int) (a430 : List Int), curve_Combine_l1 p0 p2 a15 a17 k270 n432 i426 a427 a428 a429 a430 = some r ∧ Fit [(3, .pointer (some ⟨b2, 0, none⟩)), (5, .pointer (some ⟨b4, 0, none⟩)), (6, .pointer (some ⟨b5, 0, none⟩)), (8, .pointer (some ⟨b14, 0, none⟩)), (9, .pointer (some ⟨b16, 0, none⟩)), (10, .pointer (some ⟨b26, 0, none⟩)), (18, .int .i64 (i426))] (ck b26 60 [.ints .u64 5 (a427), .ints .u64 5 (a428), .ints .u64 5 (a429), .ints .u64 5 (a430)] :: (ck b16 105 [.rows 20 16 (rowE E_api_Point (a17))] :: (ck b14 105 [.rows 20 16 (rowE E_api_Point (a15))] :: (ck b8 60 [.ints .u64 5 (y7.gX), .ints .u64 5 (y7.gY), .ints .u64 5 (y7.gZ), .ints .u64 5 (y7.gT)] :: (ck b5 60 [.ints .u64 5 ((List.replicate 5 0)), .ints .u64 5 ((List.replicate 5 0)), .ints .u64 5 ((List.replicate 5 0)), .ints .u64 5 ((List.replicate 5 0))] :: (ck b4 63 [.ints .u8 32 (p2)] :: (ck b3 60 [.ints .u64 5 (p1.gX), .ints .u64 5 (p1.gY), .ints .u64 5 (p1.gZ), .ints .u64 5 (p1.gT)] :: (ck b2 63 [.ints .u8 32 (p0)] :: [])))))))) t m) big ?_ ?_
      · exact ⟨0, y25.gX, y25.gY, y25.gZ, y25.gT, h, ⟨⟨rfl, rfl, rfl, rfl, rfl, rfl, rfl, trivial⟩, (.one .here (.one .here (.one .here (.one .here (.one .here (.one .here (.one .here (.one .here .nil))))))))⟩⟩
      · rintro n432 t m ⟨i426, a427, a428, a429, a430, h, hF⟩
        refine wc_fit hF ?_
        clear hF
        rcases n432 with _ | n432
        · exact none_i h
        have h : curve_Combine_b1 p0 p2 a15 a17 k270 (curve_Combine_l1 p0 p2 a15 a17 k270 n432) i426 a427 a428 a429 a430 = some r := h
        unfold curve_Combine_b1 at h
        obtain ⟨k431, qk431⟩ : ∃ k, k = curve_Combine_l1 p0 p2 a15 a17 k270 n432 := ⟨_, rfl⟩
        try rw [← qk431] at h
        refine wc_seq ?_
        refine wc_ops ?_
        refine wj_q _ (q_bin rfl rfl rfl) ?_
        refine wj_nil ?_
        refine wc_seq ?_
        refine wc_if (c := (decide (i426 < 64))) rfl (fun d434 => ?_) (fun d434 => ?_)
        · have h := br_t h d434
          refine wc_skip ?_
          refine wc_seq ?_
          refine wc_block ?_
          refine wc_seq ?_
          refine wc_ops ?_
          refine wj_q _ (q_mv rfl) ?_
          refine wj_q _ (q_mv rfl) ?_
          refine wj_nil ?_
          refine wc_seq ?_
          refine wc_seq ?_
          refine wc_ops ?_
          refine wj_q _ (q_mv rfl) ?_
          refine wj_nil ?_
          revert h
          refine jn_i fun k469 qk469 => ?_
          intro h
          refine wc_mono2 (G := fun t m => ∃ (a465 : List Int) (a466 : List Int) (a467 : List Int) (a468 : List Int), k469 a465 a466 a467 a468 = some r ∧ Fit [(3, .pointer (some ⟨b2, 0, none⟩)), (5, .pointer (some ⟨b4, 0, none⟩)), (6, .pointer (some ⟨b5, 0, none⟩)), (8, .pointer (some ⟨b14, 0, none⟩)), (9, .pointer (some ⟨b16, 0, none⟩)), (10, .pointer (some ⟨b26, 0, none⟩)), (11, .int .i64 (i426)), (18, .int .i64 (i426))] (ck b26 60 [.ints .u64 5 (a465), .ints .u64 5 (a466), .ints .u64 5 (a467), .ints .u64 5 (a468)] :: (ck b16 105 [.rows 20 16 (rowE E_api_Point (a17))] :: (ck b14 105 [.rows 20 16 (rowE E_api_Point (a15))] :: (ck b8 60 [.ints .u64 5 (y7.gX), .ints .u64 5 (y7.gY), .ints .u64 5 (y7.gZ), .ints .u64 5 (y7.gT)] :: (ck b5 60 [.ints .u64 5 ((List.replicate 5 0)), .ints .u64 5 ((List.replicate 5 0)), .ints .u64 5 ((List.replicate 5 0)), .ints .u64 5 ((List.replicate 5 0))] :: (ck b4 63 [.ints .u8 32 (p2)] :: (ck b3 60 [.ints .u64 5 (p1.gX), .ints .u64 5 (p1.gY), .ints .u64 5 (p1.gZ), .ints .u64 5 (p1.gT)] :: (ck b2 63 [.ints .u8 32 (p0)] :: [])))))))) t m) ?_ ?_
          · refine wc_block ?_
            refine wc_loopJ (fun n491 t m => ∃ (i485 : Int) (a486 : List Int) (a487 : List Int) (a488 : List Int) (a489 : List Int), curve_Combine_l2 k469 n491 i485 a486 a487 a488 a489 = some r ∧ Fit [(3, .pointer (some ⟨b2, 0, none⟩)), (5, .pointer (some ⟨b4, 0, none⟩)), (6, .pointer (some ⟨b5, 0, none⟩)), (8, .pointer (some ⟨b14, 0, none⟩)), (9, .pointer (some ⟨b16, 0, none⟩)), (10, .pointer (some ⟨b26, 0, none⟩)), (11, .int .i64 (i426)), (18, .int .i64 (i426)), (21, .int .i64 (i485))] (ck b26 60 [.ints .u64 5 (a486), .ints .u64 5 (a487), .ints .u64 5 (a488), .ints .u64 5 (a489)] :: (ck b16 105 [.rows 20 16 (rowE E_api_Point (a17))] :: (ck b14 105 [.rows 20 16 (rowE E_api_Point (a15))] :: (ck b8 60 [.ints .u64 5 (y7.gX), .ints .u64 5 (y7.gY), .ints .u64 5 (y7.gZ), .ints .u64 5 (y7.gT)] :: (ck b5 60 [.ints .u64 5 ((List.replicate 5 0)), .ints .u64 5 ((List.replicate 5 0)), .ints .u64 5 ((List.replicate 5 0)), .ints .u64 5 ((List.replicate 5 0))] :: (ck b4 63 [.ints .u8 32 (p2)] :: (ck b3 60 [.ints .u64 5 (p1.gX), .ints .u64 5 (p1.gY), .ints .u64 5 (p1.gZ), .ints .u64 5 (p1.gT)] :: (ck b2 63 [.ints .u8 32 (p0)] :: [])))))))) t m) big ?_ ?_
            · exact ⟨0, a427, a428, a429, a430, h, ⟨⟨rfl, rfl, rfl, rfl, rfl, rfl, rfl, rfl, rfl, trivial⟩, (.one .here (.one .here (.one .here (.one .here (.one .here (.one .here (.one .here (.one .here .nil))))))))⟩⟩
            · rintro n491 t m ⟨i485, a486, a487, a488, a489, h, hF⟩
              refine wc_fit hF ?_
              clear hF
              rcases n491 with _ | n491
              · exact none_i h
              have h : curve_Combine_b2 k469 (curve_Combine_l2 k469 n491) i485 a486 a487 a488 a489 = some r := h
              unfold curve_Combine_b2 at h
              obtain ⟨k490, qk490⟩ : ∃ k, k = curve_Combine_l2 k469 n491 := ⟨_, rfl⟩
              try rw [← qk490] at h
              refine wc_seq ?_
              refine wc_ops ?_
              refine wj_q _ (q_bin rfl rfl rfl) ?_
              refine wj_nil ?_
              refine wc_seq ?_
              refine wc_if (c := (decide (i485 < 4))) rfl (fun d493 => ?_) (fun d493 => ?_)
              · have h := br_t h d493
                refine wc_skip ?_
                refine wc_seq ?_
                refine wc_block ?_
                revert h
                refine opt_i fun y495 ey495 => ?_
                intro h
                refine wc_ops ?_
                refine wj_q _ (q_ld (p := [.ints .u64 5 (a486), .ints .u64 5 (a487), .ints .u64 5 (a488), .ints .u64 5 (a489)]) rfl .here rfl) ?_
                refine wj_q _ (q_call (vs := [agg [.ints .u64 5 (a486), .ints .u64 5 (a487), .ints .u64 5 (a488), .ints .u64 5 (a489)]]) (v := agg [.ints .u64 5 (y495.gX), .ints .u64 5 (y495.gY), .ints .u64 5 (y495.gZ), .ints .u64 5 (y495.gT)]) rfl (fun w hw => curve_Double_spec (r := y495) (p0 := (⟨a486, a487, a488, a489⟩ : api_Point)) ey495 )) ?_
                refine wj_e (ef_st (q := [.ints .u64 5 (y495.gX), .ints .u64 5 (y495.gY), .ints .u64 5 (y495.gZ), .ints .u64 5 (y495.gT)]) rfl rfl rfl rfl rfl .here ?_)
                refine wj_nil ?_
                revert h
                refine bnd_i fun z497 ez497 => ?_
                intro h
                refine wc_ops ?_
                refine wj_q _ (iz ez497 (q_bin rfl rfl rfl)) ?_
                refine wj_q _ (q_mv rfl) ?_
                refine wj_nil ?_
                rw [qk490] at h
                exact ⟨n491, Nat.lt_succ_self _, z497, y495.gX, y495.gY, y495.gZ, y495.gT, h, ⟨⟨rfl, rfl, rfl, rfl, rfl, rfl, rfl, rfl, rfl, trivial⟩, (.one .here (.one .here (.one .here (.one .here (.one .here (.one .here (.one .here (.one .here .nil))))))))⟩⟩
              · have h := br_f h d493
                refine wc_exit _ rfl ?_
                exact ⟨a486, a487, a488, a489, h, ⟨⟨rfl, rfl, rfl, rfl, rfl, rfl, rfl, rfl, trivial⟩, (.one .here (.one .here (.one .here (.one .here (.one .here (.one .here (.one .here (.one .here .nil))))))))⟩⟩
          · rintro t m ⟨a465, a466, a467, a468, h, hF⟩
            refine wc_fit hF ?_
            clear hF
            subst qk469
            revert h
            refine opt_i fun y499 ey499 => ?_
            refine chk_i fun c500 => ?_
            refine bnd_i fun x501 ex501 => ?_
            refine opt_i fun y502 ey502 => ?_
            refine opt_i fun y503 ey503 => ?_
            refine chk_i fun c504 => ?_
            refine bnd_i fun x505 ex505 => ?_
            refine opt_i fun y506 ey506 => ?_
            intro h
            refine wc_draw ?_
            refine ws_p1 _ (q_mv rfl) ?_
            refine ws_p1 _ (q_mv rfl) ?_
            refine ws_q1 _ (q_ld (p := [.ints .u64 5 (a465), .ints .u64 5 (a466), .ints .u64 5 (a467), .ints .u64 5 (a468)]) rfl .here rfl) ?_
            refine ws_q1 _ (q_ld (p := [.ints .u8 32 (p0)]) rfl (.there (.there (.there (.there (.there (.there (.there .here))))))) rfl) ?_
            refine ws_p1 _ (q_call (vs := [agg [.ints .u8 32 (p0)], .int .i64 (i426)]) (v := .int .u8 (y499)) rfl (fun w hw => curve_nibble_spec (r := y499) (p0 := p0) (p1 := i426) ey499 )) ?_
            refine ws_p1 _ (q_ia rfl rfl (inB_z c500)) ?_
            refine ws_q1 _ (az (fun x501 => agg [.ints .u64 5 (x501.gX), .ints .u64 5 (x501.gY), .ints .u64 5 (x501.gZ), .ints .u64 5 (x501.gT)]) ex501 (q_ldr0 (base := 0) (w := 20) rfl (.there (.there .here)) rfl (inB_n c500) rfl rfl rfl)) ?_
            refine ws_p1 _ (q_call (vs := [agg [.ints .u64 5 (a465), .ints .u64 5 (a466), .ints .u64 5 (a467), .ints .u64 5 (a468)], agg [.ints .u64 5 (x501.gX), .ints .u64 5 (x501.gY), .ints .u64 5 (x501.gZ), .ints .u64 5 (x501.gT)]]) (v := agg [.ints .u64 5 (y502.gX), .ints .u64 5 (y502.gY), .ints .u64 5 (y502.gZ), .ints .u64 5 (y502.gT)]) rfl (fun w hw => curve_Add_spec (r := y502) (p0 := (⟨a465, a466, a467, a468⟩ : api_Point)) (p1 := x501) ey502 )) ?_
            refine ws_q1 _ (q_ld (p := [.ints .u8 32 (p2)]) rfl (.there (.there (.there (.there (.there .here))))) rfl) ?_
            refine ws_p1 _ (q_call (vs := [agg [.ints .u8 32 (p2)], .int .i64 (i426)]) (v := .int .u8 (y503)) rfl (fun w hw => curve_nibble_spec (r := y503) (p0 := p2) (p1 := i426) ey503 )) ?_
            refine ws_p1 _ (q_ia rfl rfl (inB_z c504)) ?_
            refine ws_q1 _ (az (fun x505 => agg [.ints .u64 5 (x505.gX), .ints .u64 5 (x505.gY), .ints .u64 5 (x505.gZ), .ints .u64 5 (x505.gT)]) ex505 (q_ldr0 (base := 0) (w := 20) rfl (.there .here) rfl (inB_n c504) rfl rfl rfl)) ?_
            refine ws_p1 _ (q_call (vs := [agg [.ints .u64 5 (y502.gX), .ints .u64 5 (y502.gY), .ints .u64 5 (y502.gZ), .ints .u64 5 (y502.gT)], agg [.ints .u64 5 (x505.gX), .ints .u64 5 (x505.gY), .ints .u64 5 (x505.gZ), .ints .u64 5 (x505.gT)]]) (v := agg [.ints .u64 5 (y506.gX), .ints .u64 5 (y506.gY), .ints .u64 5 (y506.gZ), .ints .u64 5 (y506.gT)]) rfl (fun w hw => curve_Add_spec (r := y506) (p0 := y502) (p1 := x505) ey506 )) ?_
            refine ws_eL rfl (ef_st (q := [.ints .u64 5 (y506.gX), .ints .u64 5 (y506.gY), .ints .u64 5 (y506.gZ), .ints .u64 5 (y506.gT)]) rfl rfl rfl rfl rfl .here ?_)
            refine ws_nil ?_
            revert h
            refine bnd_i fun z508 ez508 => ?_
            intro h
            refine wc_ops ?_
            refine wj_q _ (iz ez508 (q_bin rfl rfl rfl)) ?_
            refine wj_q _ (q_mv rfl) ?_
            refine wj_nil ?_
            rw [qk431] at h
            exact ⟨n432, Nat.lt_succ_self _, z508, y506.gX, y506.gY, y506.gZ, y506.gT, h, ⟨⟨rfl, rfl, rfl, rfl, rfl, rfl, rfl, trivial⟩, (.one .here (.one .here (.one .here (.one .here (.one .here (.one .here (.one .here (.one .here .nil))))))))⟩⟩
        · have h := br_f h d434
          refine wc_exit _ rfl ?_
          exact ⟨a427, a428, a429, a430, h, ⟨⟨rfl, rfl, trivial⟩, (.one .here (.one .here (.one .here (.one .here (.one .here (.one .here (.one .here (.one .here .nil))))))))⟩⟩
    · rintro t m ⟨a266, a267, a268, a269, h, hF⟩
      refine wc_fit hF ?_
      clear hF
      subst qk270
      refine wc_seq ?_
      refine wc_ops ?_
      refine wj_q _ (q_ld (p := [.ints .u64 5 (a266), .ints .u64 5 (a267), .ints .u64 5 (a268), .ints .u64 5 (a269)]) rfl .here rfl) ?_
      refine wj_e (ef_st (q := [.ints .u64 5 (a266), .ints .u64 5 (a267), .ints .u64 5 (a268), .ints .u64 5 (a269)]) rfl rfl rfl rfl rfl (.there (.there (.there (.there .here)))) ?_)
      refine wj_nil ?_
      refine wc_ret ?_
      revert h; refine ret_i fun h => ?_
      subst h
      exact ⟨_, (.cons (.agg rfl (.there (.there (.there (.there .here)))) rfl) .nil), rfl⟩
/- farebox/curve.Neg -/
def curve_Neg (p0 : api_Point) : Option (api_Point) :=
 opt (field_Neg p0.gX) fun y5 =>
 opt (field_Neg p0.gT) fun y6 =>
 some (⟨y5, p0.gY, p0.gZ, y6⟩ : api_Point)
theorem curve_Neg_spec {W : World} {r : api_Point} {p0 : api_Point} (h : curve_Neg p0 = some r)  :
    Calls Tryd.prog 23 [agg [.ints .u64 5 (p0.gX), .ints .u64 5 (p0.gY), .ints .u64 5 (p0.gZ), .ints .u64 5 (p0.gT)]].toArray W (ret1 W (agg [.ints .u64 5 (r.gX), .ints .u64 5 (r.gY), .ints .u64 5 (r.gZ), .ints .u64 5 (r.gT)])) := by
  unfold curve_Neg at h
  refine calls_val mo ok23 rfl ?_
  refine wc_seq ?_
  refine wc_ops ?_
  refine wj_e (ef_bx (s := [.ints .u64 5 (p0.gX), .ints .u64 5 (p0.gY), .ints .u64 5 (p0.gZ), .ints .u64 5 (p0.gT)]) rfl fun b2 hb2 => ?_)
  refine wj_e (ef_al fun b3 hb3 => ?_)
  refine wj_nil ?_
  refine wc_seq ?_
  revert h
  refine opt_i fun y5 ey5 => ?_
  refine opt_i fun y6 ey6 => ?_
  intro h
  refine wc_draw ?_
  refine ws_p1 _ (q_fa rfl) ?_
  refine ws_p1 _ (q_fa rfl) ?_
  refine ws_p1 _ (q_fa rfl) ?_
  refine ws_p1 _ (q_fa rfl) ?_
  refine ws_q1 _ (q_ld (p := [.ints .u64 5 (p0.gX)]) rfl (.there .here) rfl) ?_
  refine ws_p1 _ (q_call (vs := [agg [.ints .u64 5 (p0.gX)]]) (v := agg [.ints .u64 5 (y5)]) rfl (fun w hw => field_Neg_spec (r := y5) (p0 := p0.gX) ey5 )) ?_
  refine ws_q1 _ (q_ld (p := [.ints .u64 5 (p0.gY)]) rfl (.there .here) rfl) ?_
  refine ws_q1 _ (q_ld (p := [.ints .u64 5 (p0.gZ)]) rfl (.there .here) rfl) ?_
  refine ws_q1 _ (q_ld (p := [.ints .u64 5 (p0.gT)]) rfl (.there .here) rfl) ?_
  refine ws_p1 _ (q_call (vs := [agg [.ints .u64 5 (p0.gT)]]) (v := agg [.ints .u64 5 (y6)]) rfl (fun w hw => field_Neg_spec (r := y6) (p0 := p0.gT) ey6 )) ?_
  refine ws_p1 _ (q_bd (q := [.ints .u64 5 (y5), .ints .u64 5 (p0.gY), .ints .u64 5 (p0.gZ), .ints .u64 5 (y6)]) (.agg rfl rfl rfl (.agg rfl rfl rfl (.agg rfl rfl rfl (.agg rfl rfl rfl BdR.nil))))) ?_
  refine ws_eL rfl (ef_st (q := [.ints .u64 5 (y5), .ints .u64 5 (p0.gY), .ints .u64 5 (p0.gZ), .ints .u64 5 (y6)]) rfl rfl rfl rfl rfl .here ?_)
  refine ws_nil ?_
  refine wc_ret ?_
  revert h; refine ret_i fun h => ?_
  subst h
  exact ⟨_, (.cons (.agg rfl .here rfl) .nil), rfl⟩
end Go.Proofs.YtiflckckekjbnaaDoor
/- Mirrors. -/
namespace Go.Proofs.YtiflckckekjbnaaDoor
open Go Go.Sx Go.RowKit
set_option linter.all false
set_option maxHeartbeats 400000
set_option maxRecDepth 100000
/- farebox/sign.Verify -/
def sign_Verify (p0 : List Int) (p1 : List Int) (p2 : List Int) : Option (Bool) :=
 opt (curve_Decode p0) fun y5 =>
 chk (decide (32 ≤ (tk p2 32 (64 - 32)).length)) <|
 bnd (tk (tk p2 32 (64 - 32)) 0 32) fun z9 =>
 chk (imp (!(!y5.2)) ((scalar_Canonical z9).isSome)) <|
 br (((!y5.2) || (!((scalar_Canonical z9).getD false)))) (
 some false
 ) (
 jn (fun (a22 : List Int) => opt (curve_Neg y5.1) fun y31 =>
 opt (curve_Combine a22 y31 z9) fun y32 =>
 opt (curve_Encode y32) fun y33 =>
 chk (decide (32 ≤ (tk p2 0 32).length)) <|
 bnd (tk (tk p2 0 32) 0 32) fun z37 =>
 some (ieq 32 y33 z37)) fun k23 => opt (sign_hash [(tk p2 0 32), (tk p0 0 32), p1]) fun y28 =>
 k23 y28
 )
theorem sign_Verify_spec {W : World} {r : Bool} {p0 : List Int} {p1 : List Int} {p2 : List Int} {v1 : Value} (h : sign_Verify p0 p1 p2 = some r) (hG : Globs W) (A1 : RdSl (El.int .u8) W v1 p1) :
    Calls Tryd.prog 7 [agg [.ints .u8 32 (p0)], v1, agg [.ints .u8 64 (p2)]].toArray W (ret1 W (.bool (r))) := by
  unfold sign_Verify at h
  refine calls_val mo ok7 rfl ?_
  refine wc_seq ?_
  refine wc_ops ?_
  refine wj_e (ef_bx (s := [.ints .u8 32 (p0)]) rfl fun b2 hb2 => ?_)
  refine wj_e (ef_bx (s := [.ints .u8 64 (p2)]) rfl fun b3 hb3 => ?_)
  refine wj_q _ (q_mv rfl) ?_
  refine wj_nil ?_
  refine wc_seq ?_
  revert h
  refine opt_i fun y5 ey5 => ?_
  intro h
  refine wc_ops ?_
  refine wj_q _ (q_ld (p := [.ints .u8 32 (p0)]) rfl (.there .here) rfl) ?_
  refine wj_q _ (q_call (vs := [agg [.ints .u8 32 (p0)]]) (v := .tuple #[agg [.ints .u64 5 (y5.1.gX), .ints .u64 5 (y5.1.gY), .ints .u64 5 (y5.1.gZ), .ints .u64 5 (y5.1.gT)], .bool (y5.2)]) rfl (fun w hw => curve_Decode_spec (r := y5) (p0 := p0) ey5 )) ?_
  refine wj_q _ (q_mv rfl) ?_
  refine wj_q _ (q_ext rfl rfl) ?_
  refine wj_q _ (q_ext rfl rfl) ?_
  refine wj_e (ef_al fun b6 hb6 => ?_)
  refine wj_e (ef_st (q := [.ints .u64 5 (y5.1.gX), .ints .u64 5 (y5.1.gY), .ints .u64 5 (y5.1.gZ), .ints .u64 5 (y5.1.gT)]) rfl rfl rfl rfl rfl .here ?_)
  refine wj_q _ (q_mv rfl) ?_
  refine wj_nil ?_
  refine wc_seq ?_
  revert h
  refine chk_i fun c8 => ?_
  refine bnd_i fun z9 ez9 => ?_
  intro h
  refine wc_ops ?_
  refine wj_q _ (q_sla rfl (.yes rfl) .no .no (by simp) (by decide)) ?_
  refine wj_q _ (q_s2aP rfl (Shp.blk (lo := 32) (hi := 64) (mz := 64) (by decide) (by simp [tk_length])) (by decide) c8) ?_
  refine wj_q _ (az (fun z => agg [.ints .u8 32 z]) ez9 (q_ldS rfl (rd_blk_i (s := [.ints .u8 64 (p2)]) (N := 64) (k := .u8) (base := 0) (lo := 32) (hi := 64) (mz := 64) (.there .here) rfl (by decide)) (by decide) c8)) ?_
  refine wj_e (ef_al fun b10 hb10 => ?_)
  refine wj_e (ef_st (q := [.ints .u8 32 (z9)]) rfl rfl rfl rfl rfl .here ?_)
  refine wj_nil ?_
  refine wc_seq ?_
  refine wc_seq ?_
  revert h
  refine chk_i fun c12 => ?_
  intro h
  refine wc_ops ?_
  refine wj_q _ (q_mv rfl) ?_
  refine wj_q _ (q_un rfl rfl) ?_
  refine wj_q _ (q_mv rfl) ?_
  refine wj_or rfl rfl rfl (fun hg1 => qj_g rfl _ (q_ld (p := [.ints .u8 32 (z9)]) rfl .here rfl) (qj_g rfl _ (q_call (vs := [agg [.ints .u8 32 (z9)]]) (v := .bool (((scalar_Canonical z9).getD false))) rfl (fun w hw => scalar_Canonical_spec (r := ((scalar_Canonical z9).getD false)) (p0 := z9) (getD_some (z := false) (imp_f c12 hg1)) (hG.at hw (by simp)))) (qj_g rfl _ (q_un rfl rfl) (qj_nil)))) (fun hg1 => rfl) rfl ?_
  refine wj_nil ?_
  refine wc_if (c := ((!y5.2) || (!((scalar_Canonical z9).getD false)))) rfl (fun d13 => ?_) (fun d13 => ?_)
  · have h := br_t h d13
    refine wc_seq ?_
    refine wc_ops ?_
    refine wj_q _ (q_mv rfl) ?_
    refine wj_nil ?_
    refine wc_ret ?_
    revert h; refine ret_i fun h => ?_
    subst h
    exact ⟨_, (.cons (.tmp rfl) .nil), rfl⟩
  · have h := br_f h d13
    refine wc_skip ?_
    refine wc_seq ?_
    revert h
    refine jn_i fun k23 qk23 => ?_
    intro h
    refine wc_mono2 (G := fun t m => ∃ (a22 : List Int) (b21 : Nat), k23 a22 = some r ∧ Fit [(5, .pointer (some ⟨b3, 0, none⟩)), (7, .pointer (some ⟨b6, 0, none⟩)), (9, .pointer (some ⟨b10, 0, none⟩)), (10, .pointer (some ⟨b21, 0, none⟩))] (ck b21 63 [.ints .u8 32 (a22)] :: (ck b10 63 [.ints .u8 32 (z9)] :: (ck b6 60 [.ints .u64 5 (y5.1.gX), .ints .u64 5 (y5.1.gY), .ints .u64 5 (y5.1.gZ), .ints .u64 5 (y5.1.gT)] :: (ck b3 30 [.ints .u8 64 (p2)] :: (ck b2 27 [.ints .u8 32 (p0)] :: []))))) t m) ?_ ?_
    · revert h
      refine opt_i fun y28 ey28 => ?_
      intro h
      refine wc_draw ?_
      refine ws_p1 _ (q_sla rfl .no (.yes rfl) .no (by simp) (by decide)) ?_
      refine ws_p1 _ (q_sla rfl .no .no .no (by simp) (by decide)) ?_
      refine ws_p1 _ (q_mv rfl) ?_
      refine ws_two (ef_bsO (E := El.sl) (xs := [unS (.slice (some (slAddr b3 0 0 64 1)) (32 - 0) (64 - 0)), unS (.slice (some (slAddr b2 0 0 32 1)) (32 - 0) (32 - 0)), unS v1]) (.one rfl (IsSl.cells ⟨_, _, _, rfl⟩) rfl (.one rfl (IsSl.cells ⟨_, _, _, rfl⟩) rfl (.one rfl (IsSl.cells (Shp.isSl (Shp.rd A1))) rfl BdR.nil))) (.cons (p := [.one (.slice (some (slAddr b3 0 0 64 1)) (32 - 0) (64 - 0))]) (sl_cell ⟨_, _, _, rfl⟩) (.cons (p := [.one (.slice (some (slAddr b2 0 0 32 1)) (32 - 0) (32 - 0))]) (sl_cell ⟨_, _, _, rfl⟩) (.cons (p := [.one v1]) (sl_cell (Shp.isSl (Shp.rd A1))) .nil))) rfl fun v25 ms26 O27 => ⟨(by repeat (first | exact Sup.refl _ | apply Sup.cons | apply Sup.app)), ?_⟩) (ef_al fun b29 hb29 => ⟨(by repeat (first | exact Sup.refl _ | apply Sup.cons | apply Sup.app)), ?_⟩)
      · refine ws_two (ef_q _ (q_call (vs := [v25]) (v := agg [.ints .u8 32 (y28)]) rfl (fun w hw => sign_hash_spec (r := y28) (p0 := [(tk p2 0 32), (tk p0 0 32), p1]) ey28 (hG.at hw (by simp)) (rd_own O27 .here w hw) (.cons (rd_unS ((rd_blk_i (s := [.ints .u8 64 (p2)]) (N := 64) (k := .u8) (base := 0) (lo := 0) (hi := 32) (mz := 64) (.app (.there (.there .here))) rfl (by decide)) w hw)) (.cons (rd_unS ((rd_blk_i (s := [.ints .u8 32 (p0)]) (N := 32) (k := .u8) (base := 0) (lo := 0) (hi := 32) (mz := 32) (.app (.there (.there (.there .here)))) rfl (by decide)) w hw)) (.cons (rd_unS ((rd_arg A1 apart0) w hw)) .nil))))) ⟨(by repeat (first | exact Sup.refl _ | apply Sup.cons | apply Sup.app)), ?_⟩) (ef_al fun b29 hb29 => ⟨(by repeat (first | exact Sup.refl _ | apply Sup.cons | apply Sup.app)), ?_⟩)
        · refine ws_e1 (ef_al fun b29 hb29 => ⟨(by repeat (first | exact Sup.refl _ | apply Sup.cons | apply Sup.app)), ?_⟩)
          refine ws_eL rfl (ef_st (q := [.ints .u8 32 (y28)]) rfl rfl rfl rfl rfl .here ?_)
          refine ws_nil ?_
          exact ⟨y28, b29, h, ⟨⟨rfl, rfl, rfl, rfl, trivial⟩, (.one .here (.one (.app .here) (.one (.app .here) (.one (.app .here) (.one (.app .here) .nil)))))⟩⟩
        · refine ws_eq _ (q_call (vs := [v25]) (v := agg [.ints .u8 32 (y28)]) rfl (fun w hw => sign_hash_spec (r := y28) (p0 := [(tk p2 0 32), (tk p0 0 32), p1]) ey28 (hG.at hw (by simp)) (rd_own O27 (.there .here) w hw) (.cons (rd_unS ((rd_blk_i (s := [.ints .u8 64 (p2)]) (N := 64) (k := .u8) (base := 0) (lo := 0) (hi := 32) (mz := 64) (.there (.app (.there (.there .here)))) rfl (by decide)) w hw)) (.cons (rd_unS ((rd_blk_i (s := [.ints .u8 32 (p0)]) (N := 32) (k := .u8) (base := 0) (lo := 0) (hi := 32) (mz := 32) (.there (.app (.there (.there (.there .here))))) rfl (by decide)) w hw)) (.cons (rd_unS ((rd_arg A1 apart0) w hw)) .nil))))) ?_ (by repeat (first | exact Sup.refl _ | apply Sup.cons | apply Sup.app))
          refine ws_eL rfl (ef_st (q := [.ints .u8 32 (y28)]) rfl rfl rfl rfl rfl .here ?_)
          refine ws_nil ?_
          exact ⟨y28, b29, h, ⟨⟨rfl, rfl, rfl, rfl, trivial⟩, (.one .here (.one (.app .here) (.one (.app .here) (.one (.app .here) (.one (.app .here) .nil)))))⟩⟩
      · refine ws_e1 (ef_bsO (E := El.sl) (xs := [unS (.slice (some (slAddr b3 0 0 64 1)) (32 - 0) (64 - 0)), unS (.slice (some (slAddr b2 0 0 32 1)) (32 - 0) (32 - 0)), unS v1]) (.one rfl (IsSl.cells ⟨_, _, _, rfl⟩) rfl (.one rfl (IsSl.cells ⟨_, _, _, rfl⟩) rfl (.one rfl (IsSl.cells (Shp.isSl (Shp.rd A1))) rfl BdR.nil))) (.cons (p := [.one (.slice (some (slAddr b3 0 0 64 1)) (32 - 0) (64 - 0))]) (sl_cell ⟨_, _, _, rfl⟩) (.cons (p := [.one (.slice (some (slAddr b2 0 0 32 1)) (32 - 0) (32 - 0))]) (sl_cell ⟨_, _, _, rfl⟩) (.cons (p := [.one v1]) (sl_cell (Shp.isSl (Shp.rd A1))) .nil))) rfl fun v25 ms26 O27 => ⟨(by repeat (first | exact Sup.refl _ | apply Sup.cons | apply Sup.app)), ?_⟩)
        refine ws_eq _ (q_call (vs := [v25]) (v := agg [.ints .u8 32 (y28)]) rfl (fun w hw => sign_hash_spec (r := y28) (p0 := [(tk p2 0 32), (tk p0 0 32), p1]) ey28 (hG.at hw (by simp)) (rd_own O27 .here w hw) (.cons (rd_unS ((rd_blk_i (s := [.ints .u8 64 (p2)]) (N := 64) (k := .u8) (base := 0) (lo := 0) (hi := 32) (mz := 64) (.app (.there (.there (.there .here)))) rfl (by decide)) w hw)) (.cons (rd_unS ((rd_blk_i (s := [.ints .u8 32 (p0)]) (N := 32) (k := .u8) (base := 0) (lo := 0) (hi := 32) (mz := 32) (.app (.there (.there (.there (.there .here))))) rfl (by decide)) w hw)) (.cons (rd_unS ((rd_arg A1 apart0) w hw)) .nil))))) ?_ (by repeat (first | exact Sup.refl _ | apply Sup.cons | apply Sup.app))
        refine ws_eL rfl (ef_st (q := [.ints .u8 32 (y28)]) rfl rfl rfl rfl rfl (.app .here) ?_)
        refine ws_nil ?_
        exact ⟨y28, b29, h, ⟨⟨rfl, rfl, rfl, rfl, trivial⟩, (.one (.app .here) (.one (.app .here) (.one (.app .here) (.one (.app .here) (.one (.app .here) .nil)))))⟩⟩
    · rintro t m ⟨a22, b21, h, hF⟩
      refine wc_fit hF ?_
      clear hF
      subst qk23
      refine wc_seq ?_
      revert h
      refine opt_i fun y31 ey31 => ?_
      refine opt_i fun y32 ey32 => ?_
      refine opt_i fun y33 ey33 => ?_
      intro h
      refine wc_draw ?_
      refine ws_q1 _ (q_ld (p := [.ints .u8 32 (a22)]) rfl .here rfl) ?_
      refine ws_q1 _ (q_ld (p := [.ints .u64 5 (y5.1.gX), .ints .u64 5 (y5.1.gY), .ints .u64 5 (y5.1.gZ), .ints .u64 5 (y5.1.gT)]) rfl (.there (.there .here)) rfl) ?_
      refine ws_p1 _ (q_call (vs := [agg [.ints .u64 5 (y5.1.gX), .ints .u64 5 (y5.1.gY), .ints .u64 5 (y5.1.gZ), .ints .u64 5 (y5.1.gT)]]) (v := agg [.ints .u64 5 (y31.gX), .ints .u64 5 (y31.gY), .ints .u64 5 (y31.gZ), .ints .u64 5 (y31.gT)]) rfl (fun w hw => curve_Neg_spec (r := y31) (p0 := y5.1) ey31 )) ?_
      refine ws_q1 _ (q_ld (p := [.ints .u8 32 (z9)]) rfl (.there .here) rfl) ?_
      refine ws_p1 _ (q_call (vs := [agg [.ints .u8 32 (a22)], agg [.ints .u64 5 (y31.gX), .ints .u64 5 (y31.gY), .ints .u64 5 (y31.gZ), .ints .u64 5 (y31.gT)], agg [.ints .u8 32 (z9)]]) (v := agg [.ints .u64 5 (y32.gX), .ints .u64 5 (y32.gY), .ints .u64 5 (y32.gZ), .ints .u64 5 (y32.gT)]) rfl (fun w hw => curve_Combine_spec (r := y32) (p0 := a22) (p1 := y31) (p2 := z9) ey32 )) ?_
      refine ws_p1 _ (q_call (vs := [agg [.ints .u64 5 (y32.gX), .ints .u64 5 (y32.gY), .ints .u64 5 (y32.gZ), .ints .u64 5 (y32.gT)]]) (v := agg [.ints .u8 32 (y33)]) rfl (fun w hw => curve_Encode_spec (r := y33) (p0 := y32) ey33 )) ?_
      refine ws_e1 (ef_al fun b34 hb34 => ⟨(by repeat (first | exact Sup.refl _ | apply Sup.cons | apply Sup.app)), ?_⟩)
      refine ws_eL rfl (ef_st (q := [.ints .u8 32 (y33)]) rfl rfl rfl rfl rfl .here ?_)
      refine ws_nil ?_
      refine wc_seq ?_
      revert h
      refine chk_i fun c36 => ?_
      refine bnd_i fun z37 ez37 => ?_
      intro h
      refine wc_draw ?_
      refine ws_p1 _ (q_sla rfl .no (.yes rfl) .no (by simp) (by decide)) ?_
      refine ws_p1 _ (q_s2aP rfl (Shp.blk (lo := 0) (hi := 32) (mz := 64) (by decide) (by simp [tk_length])) (by decide) c36) ?_
      refine ws_q1 _ (q_ld (p := [.ints .u8 32 (y33)]) rfl .here rfl) ?_
      refine ws_q1 _ (az (fun z => agg [.ints .u8 32 z]) ez37 (q_ldS rfl (rd_blk_i (s := [.ints .u8 64 (p2)]) (N := 64) (k := .u8) (base := 0) (lo := 0) (hi := 32) (mz := 64) (.there (.there (.there (.there .here)))) rfl (by decide)) (by decide) c36)) ?_
      refine ws_p1 _ (q_eqa rfl rfl rfl rfl _ (eqc_last eqc_ints)) ?_
      refine ws_p1 _ (q_mv rfl) ?_
      refine ws_nil ?_
      refine wc_ret ?_
      revert h; refine ret_i fun h => ?_
      subst h
      exact ⟨_, (.cons (.tmp rfl) .nil), rfl⟩
/- farebox/sign.VerifyAll -/
abbrev E_a32_El_int_u8 : El (List Int) := ⟨32, fun x => cells [.ints .u8 32 (x)], fun x => by rw [cells_length]; rfl, fun x => (ones_cons ones_ints ones_nil), by decide, (List.replicate 32 0)⟩
abbrev E_a64_El_int_u8 : El (List Int) := ⟨64, fun x => cells [.ints .u8 64 (x)], fun x => by rw [cells_length]; rfl, fun x => (ones_cons ones_ints ones_nil), by decide, (List.replicate 64 0)⟩
def sign_VerifyAll_b1 (p0 : List (List Int)) (p1 : List (List Int)) (p2 : List (List Int)) (k52 : Unit → Option (Int × Bool)) (k82 : (Int) → Option (Int × Bool)) (i81 : Int) : Option (Int × Bool) :=
 br ((decide (i81 < (p0.length : Int)))) (
 chk (inB i81 p0.length) <|
 bnd (p0.getD (i81).toNat (List.replicate 32 0)) fun x89 =>
 chk (inB i81 p1.length) <|
 chk (inB i81 p2.length) <|
 bnd (p2.getD (i81).toNat (List.replicate 64 0)) fun x92 =>
 opt (sign_Verify x89 (p1.getD (i81).toNat []) x92) fun y93 =>
 br ((!y93)) (
 some (i81, false)
 ) (
 bnd (IntKind.wrap .i64 (i81 + 1)) fun z97 =>
 k82 z97
 )
 ) (
 k52 ()
 )
def sign_VerifyAll_l1 (p0 : List (List Int)) (p1 : List (List Int)) (p2 : List (List Int)) (k52 : Unit → Option (Int × Bool)) : Nat → (Int) → Option (Int × Bool)
  | 0, _ => none
  | n + 1, i81 => sign_VerifyAll_b1 p0 p1 p2 k52 (sign_VerifyAll_l1 p0 p1 p2 k52 n) i81
def sign_VerifyAll (p0 : List (List Int)) (p1 : List (List Int)) (p2 : List (List Int)) : Option (Int × Bool) :=
 br ((((p1.length : Int) != (p0.length : Int)) || ((p2.length : Int) != (p0.length : Int)))) (
 some ((-1), false)
 ) (
 jn (fun (_ : Unit) => some ((p0.length : Int), true)) fun k52 => sign_VerifyAll_l1 p0 p1 p2 k52 big 0
 )
theorem sign_VerifyAll_spec {W : World} {r : Int × Bool} {p0 : List (List Int)} {p1 : List (List Int)} {p2 : List (List Int)} {v0 : Value} {v1 : Value} {us1 : List SlT} {v2 : Value} (h : sign_VerifyAll p0 p1 p2 = some r) (hG : Globs W) (A0 : RdSl E_a32_El_int_u8 W v0 p0) (A1 : RdSl El.sl W v1 us1) (B1 : RdAll (El.int .u8) W us1 p1) (A2 : RdSl E_a64_El_int_u8 W v2 p2) :
    Calls Tryd.prog 8 [v0, v1, v2].toArray W (ret1 W (.tuple #[.int .i64 (r.1), .bool (r.2)])) := by
  unfold sign_VerifyAll at h
  refine calls_val mo ok8 rfl ?_
  refine wc_seq ?_
  refine wc_ops ?_
  refine wj_q _ (q_mv rfl) ?_
  refine wj_q _ (q_mv rfl) ?_
  refine wj_nil ?_
  refine wc_seq ?_
  refine wc_ops ?_
  refine wj_q _ (q_mv rfl) ?_
  refine wj_q _ (q_lenP rfl (Shp.rd A0)) ?_
  refine wj_q _ (q_mv rfl) ?_
  refine wj_nil ?_
  refine wc_seq ?_
  refine wc_seq ?_
  refine wc_ops ?_
  refine wj_q _ (q_mv rfl) ?_
  refine wj_q _ ((len_nlP (q_lenP rfl (Shp.rd A1)) (RdAll.len B1))) ?_
  refine wj_q _ (q_mv rfl) ?_
  refine wj_q _ (q_bin rfl rfl rfl) ?_
  refine wj_q _ (q_mv rfl) ?_
  refine wj_or rfl rfl rfl (fun hg1 => qj_g rfl _ (q_mv rfl) (qj_g rfl _ (q_lenP rfl (Shp.rd A2)) (qj_g rfl _ (q_mv rfl) (qj_g rfl _ (q_bin rfl rfl rfl) (qj_nil))))) (fun hg1 => rfl) rfl ?_
  refine wj_nil ?_
  refine wc_if (c := (((p1.length : Int) != (p0.length : Int)) || ((p2.length : Int) != (p0.length : Int)))) rfl (fun d4 => ?_) (fun d4 => ?_)
  · have h := br_t h d4
    refine wc_seq ?_
    refine wc_ops ?_
    refine wj_q _ (q_mv rfl) ?_
    refine wj_q _ (q_mv rfl) ?_
    refine wj_nil ?_
    refine wc_ret ?_
    revert h; refine ret_i fun h => ?_
    subst h
    exact ⟨_, (.cons (.tmp rfl) (.cons (.tmp rfl) .nil)), rfl⟩
  · have h := br_f h d4
    refine wc_skip ?_
    refine wc_seq ?_
    refine wc_seq ?_
    refine wc_ops ?_
    refine wj_q _ (q_mv rfl) ?_
    refine wj_q _ (q_mv rfl) ?_
    refine wj_nil ?_
    revert h
    refine jn_i fun k52 qk52 => ?_
    intro h
    refine wc_mono2 (G := fun t m => k52 () = some r ∧ Fit [(8, .int .i64 ((p0.length : Int)))] [] t m) ?_ ?_
    · refine wc_block ?_
      refine wc_loopJ (fun n83 t m => ∃ (i81 : Int), sign_VerifyAll_l1 p0 p1 p2 k52 n83 i81 = some r ∧ Fit [(0, v0), (1, v1), (2, v2), (8, .int .i64 ((p0.length : Int))), (22, .int .i64 ((p0.length : Int))), (23, .int .i64 (i81))] [] t m) big ?_ ?_
      · exact ⟨0, h, ⟨⟨rfl, rfl, rfl, rfl, rfl, rfl, trivial⟩, .nil⟩⟩
      · rintro n83 t m ⟨i81, h, hF⟩
        refine wc_fit hF ?_
        clear hF
        rcases n83 with _ | n83
        · exact none_i h
        have h : sign_VerifyAll_b1 p0 p1 p2 k52 (sign_VerifyAll_l1 p0 p1 p2 k52 n83) i81 = some r := h
        unfold sign_VerifyAll_b1 at h
        obtain ⟨k82, qk82⟩ : ∃ k, k = sign_VerifyAll_l1 p0 p1 p2 k52 n83 := ⟨_, rfl⟩
        try rw [← qk82] at h
        refine wc_seq ?_
        refine wc_ops ?_
        refine wj_q _ (q_bin rfl rfl rfl) ?_
        refine wj_nil ?_
        refine wc_seq ?_
        refine wc_if (c := (decide (i81 < (p0.length : Int)))) rfl (fun d85 => ?_) (fun d85 => ?_)
        · have h := br_t h d85
          refine wc_skip ?_
          refine wc_seq ?_
          refine wc_block ?_
          refine wc_seq ?_
          refine wc_ops ?_
          refine wj_q _ (q_mv rfl) ?_
          refine wj_q _ (q_mv rfl) ?_
          refine wj_nil ?_
          refine wc_seq ?_
          revert h
          refine chk_i fun c88 => ?_
          refine bnd_i fun x89 ex89 => ?_
          refine chk_i fun c90 => ?_
          refine chk_i fun c91 => ?_
          refine bnd_i fun x92 ex92 => ?_
          refine opt_i fun y93 ey93 => ?_
          intro h
          refine wc_draw ?_
          refine ws_p1 _ (q_mv rfl) ?_
          refine ws_p1 _ (q_mv rfl) ?_
          refine ws_p1 _ (q_iasP rfl rfl (Shp.rd A0) c88) ?_
          refine ws_p1 _ (q_mv rfl) ?_
          refine ws_p1 _ (q_mv rfl) ?_
          refine ws_p1 _ (q_iasP rfl rfl (Shp.rd A1) (all_len B1 c90)) ?_
          refine ws_p1 _ (q_mv rfl) ?_
          refine ws_p1 _ (q_mv rfl) ?_
          refine ws_p1 _ (q_iasP rfl rfl (Shp.rd A2) c91) ?_
          refine ws_q1 _ (az (fun (x89 : List Int) => agg [.ints .u8 32 (x89)]) ex89 (q_ldM0 (E := E_a32_El_int_u8) (s := [.ints .u8 32 ((p0.getD (i81).toNat (List.replicate 32 0)))]) rfl (rd_arg A0 apart0) (inB_n c88) rfl rfl)) ?_
          refine ws_q1 _ (q_ldM10 (E := El.sl) (s := [.one (slV (us1.getD (i81).toNat (none, 0, 0)))]) rfl (rd_arg A1 apart0) (inB_n (all_len B1 c90)) rfl rfl) ?_
          refine ws_q1 _ (az (fun (x92 : List Int) => agg [.ints .u8 64 (x92)]) ex92 (q_ldM0 (E := E_a64_El_int_u8) (s := [.ints .u8 64 ((p2.getD (i81).toNat (List.replicate 64 0)))]) rfl (rd_arg A2 apart0) (inB_n c91) rfl rfl)) ?_
          refine ws_q1 _ (q_call (vs := [agg [.ints .u8 32 (x89)], (slV (us1.getD (i81).toNat (none, 0, 0))), agg [.ints .u8 64 (x92)]]) (v := .bool (y93)) rfl (fun w hw => sign_Verify_spec (r := y93) (p0 := x89) (p1 := (p1.getD (i81).toNat [])) (p2 := x92) ey93 (hG.at hw (by simp)) ((rd_arg (RdAll.get B1 _ (inB_n c90)) apart0) w hw))) ?_
          refine ws_p1 _ (q_un rfl rfl) ?_
          refine ws_nil ?_
          refine wc_if (c := (!y93)) rfl (fun d94 => ?_) (fun d94 => ?_)
          · have h := br_t h d94
            refine wc_seq ?_
            refine wc_ops ?_
            refine wj_q _ (q_mv rfl) ?_
            refine wj_q _ (q_mv rfl) ?_
            refine wj_q _ (q_mv rfl) ?_
            refine wj_nil ?_
            refine wc_ret ?_
            revert h; refine ret_i fun h => ?_
            subst h
            exact ⟨_, (.cons (.tmp rfl) (.cons (.tmp rfl) .nil)), rfl⟩
          · have h := br_f h d94
            refine wc_skip ?_
            revert h
            refine bnd_i fun z97 ez97 => ?_
            intro h
            refine wc_ops ?_
            refine wj_q _ (iz ez97 (q_bin rfl rfl rfl)) ?_
            refine wj_q _ (q_mv rfl) ?_
            refine wj_nil ?_
            rw [qk82] at h
            exact ⟨n83, Nat.lt_succ_self _, z97, h, ⟨⟨rfl, rfl, rfl, rfl, rfl, rfl, trivial⟩, .nil⟩⟩
        · have h := br_f h d85
          refine wc_exit _ rfl ?_
          exact ⟨h, ⟨⟨rfl, trivial⟩, .nil⟩⟩
    · rintro t m ⟨h, hF⟩
      refine wc_fit hF ?_
      clear hF
      subst qk52
      refine wc_seq ?_
      refine wc_ops ?_
      refine wj_q _ (q_mv rfl) ?_
      refine wj_q _ (q_mv rfl) ?_
      refine wj_q _ (q_mv rfl) ?_
      refine wj_nil ?_
      refine wc_ret ?_
      revert h; refine ret_i fun h => ?_
      subst h
      exact ⟨_, (.cons (.tmp rfl) (.cons (.tmp rfl) .nil)), rfl⟩
/- farebox/sha512.Sum -/
def sha512_Sum (p0 : List Int) : Option ((List Int)) :=
 opt (sha512_New ) fun y4 =>
 opt (sha512_Digest_Write y4 p0) fun y10 =>
 opt (sha512_Digest_Sum y10) fun y14 =>
 some y14.1
theorem sha512_Sum_spec {W : World} {r : (List Int)} {p0 : List Int} {v0 : Value} (h : sha512_Sum p0 = some r) (hG : Globs W) (A0 : RdSl (El.int .u8) W v0 p0) :
    Calls Tryd.prog 58 [v0].toArray W (ret1 W (agg [.ints .u8 64 (r)])) := by
  unfold sha512_Sum at h
  refine calls_val mo ok58 rfl ?_
  refine wc_seq ?_
  refine wc_ops ?_
  refine wj_e (ef_al fun b2 hb2 => ?_)
  refine wj_nil ?_
  refine wc_seq ?_
  revert h
  refine opt_i fun y4 ey4 => ?_
  intro h
  refine wc_ops ?_
  refine wj_e (ef_callS0 rfl (fun w hw => sha512_New_spec (r := y4) ey4 (hG.at hw (by simp))) fun v5 Msv5 R6 => ?_)
  obtain ⟨b7, T8, rfl, rfl⟩ := R6
  refine wj_q _ (q_mv rfl) ?_
  refine wj_nil ?_
  refine wc_seq ?_
  revert h
  refine opt_i fun y10 ey10 => ?_
  intro h
  refine wc_ops ?_
  refine wj_q _ (q_mv rfl) ?_
  refine wj_q _ (q_mv rfl) ?_
  refine wj_e (ef_callS (mS := [_]) rfl (Take1.perm .here) (fun w hw => sha512_Digest_Write_spec (b := b7) (r := y10) (p0 := y4) (p1 := p0) ey10 (sat_own hw (mS := [_]) (Take1.perm .here)) (hG.at hw (by simp)) (hG.ap (by simp) .here hw) ⟨(rd_arg A0 apart0) w hw, (apart_arg (E := (El.int .u8)) A0 .here hw)⟩) fun v11 Msv11 R12 => ?_)
  obtain ⟨rfl, rfl⟩ := R12
  refine wj_nil ?_
  refine wc_seq ?_
  revert h
  refine opt_i fun y14 ey14 => ?_
  intro h
  refine wc_ops ?_
  refine wj_q _ (q_mv rfl) ?_
  refine wj_e (ef_callS (mS := [_]) rfl (Take1.perm .here) (fun w hw => sha512_Digest_Sum_spec (b := b7) (r := y14) (p0 := y10) ey14 (sat_own hw (mS := [_]) (Take1.perm .here)) (hG.at hw (by simp)) (hG.ap (by simp) .here hw)) fun v15 Msv15 R16 => ?_)
  obtain ⟨rfl, rfl⟩ := R16
  refine wj_e (ef_st (q := [.ints .u8 64 (y14.1)]) rfl rfl rfl rfl rfl (.there .here) ?_)
  refine wj_nil ?_
  refine wc_ret ?_
  revert h; refine ret_i fun h => ?_
  subst h
  exact ⟨_, (.cons (.agg rfl (.there .here) rfl) .nil), rfl⟩
/- farebox/scalar.Clamp -/
def scalar_Clamp (p0 : List Int) : Option ((List Int)) :=
 bnd (p0.getD 0 0) fun z5 =>
 bnd (bitsV .andNot .u8 z5 7) fun z6 =>
 bnd (setD p0 0 z6) fun l7 =>
 bnd (l7.getD 31 0) fun z9 =>
 bnd (bitsV .and .u8 z9 127) fun z10 =>
 bnd (bitsV .or .u8 z10 64) fun z11 =>
 bnd (setD l7 31 z11) fun l12 =>
 some l12
theorem scalar_Clamp_spec {W : World} {r : (List Int)} {p0 : List Int} (h : scalar_Clamp p0 = some r)  :
    Calls Tryd.prog 59 [agg [.ints .u8 32 (p0)]].toArray W (ret1 W (agg [.ints .u8 32 (r)])) := by
  unfold scalar_Clamp at h
  refine calls_val mo ok59 rfl ?_
  refine wc_seq ?_
  refine wc_ops ?_
  refine wj_e (ef_bx (s := [.ints .u8 32 (p0)]) rfl fun b2 hb2 => ?_)
  refine wj_e (ef_al fun b3 hb3 => ?_)
  refine wj_nil ?_
  refine wc_seq ?_
  revert h
  refine bnd_i fun z5 ez5 => ?_
  refine bnd_i fun z6 ez6 => ?_
  refine bnd_i fun l7 el7 => ?_
  intro h
  refine wc_ops ?_
  refine wj_q _ (q_ia rfl rfl (by decide)) ?_
  refine wj_q _ (iz ez5 (q_ld1 rfl (.there .here) rfl)) ?_
  refine wj_q _ (iz ez6 (q_bin rfl rfl rfl)) ?_
  refine wj_q _ (q_ia rfl rfl (by decide)) ?_
  refine wj_e (ef_st1z (q := [.ints .u8 32 (l7)]) (congrArg (fun z => ([.ints .u8 32 (z)] : List Seg)) el7.symm) rfl rfl rfl rfl (.there .here) ?_)
  refine wj_nil ?_
  refine wc_seq ?_
  revert h
  refine bnd_i fun z9 ez9 => ?_
  refine bnd_i fun z10 ez10 => ?_
  refine bnd_i fun z11 ez11 => ?_
  refine bnd_i fun l12 el12 => ?_
  intro h
  refine wc_ops ?_
  refine wj_q _ (q_ia rfl rfl (by decide)) ?_
  refine wj_q _ (iz ez9 (q_ld1 rfl (.there .here) rfl)) ?_
  refine wj_q _ (iz ez10 (q_bin rfl rfl rfl)) ?_
  refine wj_q _ (iz ez11 (q_bin rfl rfl rfl)) ?_
  refine wj_q _ (q_ia rfl rfl (by decide)) ?_
  refine wj_e (ef_st1z (q := [.ints .u8 32 (l12)]) (congrArg (fun z => ([.ints .u8 32 (z)] : List Seg)) el12.symm) rfl rfl rfl rfl (.there .here) ?_)
  refine wj_nil ?_
  refine wc_seq ?_
  refine wc_ops ?_
  refine wj_q _ (q_ld (p := [.ints .u8 32 (l12)]) rfl (.there .here) rfl) ?_
  refine wj_e (ef_st (q := [.ints .u8 32 (l12)]) rfl rfl rfl rfl rfl .here ?_)
  refine wj_nil ?_
  refine wc_ret ?_
  revert h; refine ret_i fun h => ?_
  subst h
  exact ⟨_, (.cons (.agg rfl .here rfl) .nil), rfl⟩
/- farebox/sign.halves -/
def sign_halves (p0 : List Int) : Option ((List Int) × (List Int)) :=
 opt (sha512_Sum (tk p0 0 32)) fun y5 =>
 chk (decide (32 ≤ (tk y5 0 32).length)) <|
 bnd (tk (tk y5 0 32) 0 32) fun z9 =>
 opt (scalar_Clamp z9) fun y10 =>
 some (y10, (tk y5 32 (64 - 32)))
theorem sign_halves_spec {W : World} {r : (List Int) × (List Int)} {p0 : List Int} (h : sign_halves p0 = some r) (hG : Globs W) :
    Calls Tryd.prog 24 [agg [.ints .u8 32 (p0)]].toArray W (retS W [] (fun v Ms => ∃ (u1 : Value) (M1 : List Chunk), v = .tuple #[agg [.ints .u8 32 (r.1)], u1] ∧ Ms = [.all M1] ∧ OwnSl (El.int .u8) u1 M1 r.2)) := by
  unfold sign_halves at h
  refine calls_memT mo ok24 rfl (sat0 _) ?_
  refine wc_seq ?_
  refine wc_ops ?_
  refine wj_e (ef_bx (s := [.ints .u8 32 (p0)]) rfl fun b2 hb2 => ?_)
  refine wj_e (ef_al fun b3 hb3 => ?_)
  refine wj_q _ (q_mv rfl) ?_
  refine wj_nil ?_
  refine wc_seq ?_
  revert h
  refine opt_i fun y5 ey5 => ?_
  intro h
  refine wc_ops ?_
  refine wj_q _ (q_sla rfl .no .no .no (by simp) (by decide)) ?_
  refine wj_q _ (q_call (vs := [(.slice (some (slAddr b2 0 0 32 1)) (32 - 0) (32 - 0))]) (v := agg [.ints .u8 64 (y5)]) rfl (fun w hw => sha512_Sum_spec (r := y5) (p0 := (tk p0 0 32)) ey5 (hG.at hw (by simp)) ((rd_blk_i (s := [.ints .u8 32 (p0)]) (N := 32) (k := .u8) (base := 0) (lo := 0) (hi := 32) (mz := 32) (.there .here) rfl (by decide)) w hw))) ?_
  refine wj_e (ef_al fun b6 hb6 => ?_)
  refine wj_e (ef_st (q := [.ints .u8 64 (y5)]) rfl rfl rfl rfl rfl .here ?_)
  refine wj_nil ?_
  refine wc_seq ?_
  revert h
  refine chk_i fun c8 => ?_
  refine bnd_i fun z9 ez9 => ?_
  refine opt_i fun y10 ey10 => ?_
  intro h
  refine wc_draw ?_
  refine ws_p1 _ (q_sla rfl .no (.yes rfl) .no (by simp) (by decide)) ?_
  refine ws_p1 _ (q_s2aP rfl (Shp.blk (lo := 0) (hi := 32) (mz := 64) (by decide) (by simp [tk_length])) (by decide) c8) ?_
  refine ws_p1 _ (q_sla rfl (.yes rfl) .no .no (by simp) (by decide)) ?_
  refine ws_q1 _ (az (fun z => agg [.ints .u8 32 z]) ez9 (q_ldS rfl (rd_blk_i (s := [.ints .u8 64 (y5)]) (N := 64) (k := .u8) (base := 0) (lo := 0) (hi := 32) (mz := 64) .here rfl (by decide)) (by decide) c8)) ?_
  refine ws_p1 _ (q_call (vs := [agg [.ints .u8 32 (z9)]]) (v := agg [.ints .u8 32 (y10)]) rfl (fun w hw => scalar_Clamp_spec (r := y10) (p0 := z9) ey10 )) ?_
  refine ws_eL rfl (ef_st (q := [.ints .u8 32 (y10)]) rfl rfl rfl rfl rfl (.there .here) ?_)
  refine ws_p1 _ (q_mv rfl) ?_
  refine ws_nil ?_
  refine wc_ret ?_
  revert h; refine ret_i fun h => ?_
  subst h
  exact ⟨_, _, (.cons (.agg rfl (.there .here) rfl) (.cons (.tmp rfl) .nil)), (.one .here .nil), ⟨_, rfl, ⟨(.slice (some (slAddr b6 0 32 64 1)) (64 - 32) (64 - 32)), [ck b6 101 [.ints .u8 64 (y5)]], rfl, rfl, (own_blk_i (s := [.ints .u8 64 (y5)]) (N := 64) (k := .u8) (base := 0) (lo := 32) (hi := 64) (mz := 64) rfl (by decide))⟩⟩⟩
/- farebox/curve.Mul -/
def curve_Mul_b2 (k433 : (List Int) → (List Int) → (List Int) → (List Int) → Option (api_Point)) (k454 : (Int) → (List Int) → (List Int) → (List Int) → (List Int) → Option (api_Point)) (i449 : Int) (a450 : List Int) (a451 : List Int) (a452 : List Int) (a453 : List Int) : Option (api_Point) :=
 br ((decide (i449 < 4))) (
 opt (curve_Double (⟨a450, a451, a452, a453⟩ : api_Point)) fun y459 =>
 bnd (IntKind.wrap .i64 (i449 + 1)) fun z461 =>
 k454 z461 y459.gX y459.gY y459.gZ y459.gT
 ) (
 k433 a450 a451 a452 a453
 )
def curve_Mul_l2 (k433 : (List Int) → (List Int) → (List Int) → (List Int) → Option (api_Point)) : Nat → (Int) → (List Int) → (List Int) → (List Int) → (List Int) → Option (api_Point)
  | 0, _, _, _, _, _ => none
  | n + 1, i449, a450, a451, a452, a453 => curve_Mul_b2 k433 (curve_Mul_l2 k433 n) i449 a450 a451 a452 a453
def curve_Mul_b1 (p0 : List Int) (y6 : (List (api_Point))) (k242 : (List Int) → (List Int) → (List Int) → (List Int) → Option (api_Point)) (k395 : (Int) → (List Int) → (List Int) → (List Int) → (List Int) → Option (api_Point)) (i390 : Int) (a391 : List Int) (a392 : List Int) (a393 : List Int) (a394 : List Int) : Option (api_Point) :=
 br ((decide (i390 < 64))) (
 jn (fun (a429 : List Int) (a430 : List Int) (a431 : List Int) (a432 : List Int) => opt (curve_nibble p0 i390) fun y463 =>
 chk (inB y463 16) <|
 bnd (y6.getD (y463).toNat api_Point_z) fun x465 =>
 opt (curve_Add (⟨a429, a430, a431, a432⟩ : api_Point) x465) fun y466 =>
 bnd (IntKind.wrap .i64 (i390 + 1)) fun z468 =>
 k395 z468 y466.gX y466.gY y466.gZ y466.gT) fun k433 => curve_Mul_l2 k433 big 0 a391 a392 a393 a394
 ) (
 k242 a391 a392 a393 a394
 )
def curve_Mul_l1 (p0 : List Int) (y6 : (List (api_Point))) (k242 : (List Int) → (List Int) → (List Int) → (List Int) → Option (api_Point)) : Nat → (Int) → (List Int) → (List Int) → (List Int) → (List Int) → Option (api_Point)
  | 0, _, _, _, _, _ => none
  | n + 1, i390, a391, a392, a393, a394 => curve_Mul_b1 p0 y6 k242 (curve_Mul_l1 p0 y6 k242 n) i390 a391 a392 a393 a394
def curve_Mul (p0 : List Int) (p1 : api_Point) : Option (api_Point) :=
 opt (curve_multiples p1) fun y6 =>
 opt (curve_Zero) fun y9 =>
 jn (fun (a238 : List Int) (a239 : List Int) (a240 : List Int) (a241 : List Int) => some (⟨a238, a239, a240, a241⟩ : api_Point)) fun k242 => curve_Mul_l1 p0 y6 k242 big 0 y9.gX y9.gY y9.gZ y9.gT
theorem curve_Mul_spec {W : World} {r : api_Point} {p0 : List Int} {p1 : api_Point} (h : curve_Mul p0 p1 = some r)  :
    Calls Tryd.prog 60 [agg [.ints .u8 32 (p0)], agg [.ints .u64 5 (p1.gX), .ints .u64 5 (p1.gY), .ints .u64 5 (p1.gZ), .ints .u64 5 (p1.gT)]].toArray W (ret1 W (agg [.ints .u64 5 (r.gX), .ints .u64 5 (r.gY), .ints .u64 5 (r.gZ), .ints .u64 5 (r.gT)])) := by
  unfold curve_Mul at h
  refine calls_val mo ok60 rfl ?_
  refine wc_seq ?_
  refine wc_ops ?_
  refine wj_e (ef_bx (s := [.ints .u8 32 (p0)]) rfl fun b2 hb2 => ?_)
  refine wj_e (ef_bx (s := [.ints .u64 5 (p1.gX), .ints .u64 5 (p1.gY), .ints .u64 5 (p1.gZ), .ints .u64 5 (p1.gT)]) rfl fun b3 hb3 => ?_)
  refine wj_e (ef_al fun b4 hb4 => ?_)
  refine wj_nil ?_
  refine wc_seq ?_
  revert h
  refine opt_i fun y6 ey6 => ?_
  intro h
  refine wc_ops ?_
  refine wj_q _ (q_ld (p := [.ints .u64 5 (p1.gX), .ints .u64 5 (p1.gY), .ints .u64 5 (p1.gZ), .ints .u64 5 (p1.gT)]) rfl (.there .here) rfl) ?_
  refine wj_q _ (q_call (vs := [agg [.ints .u64 5 (p1.gX), .ints .u64 5 (p1.gY), .ints .u64 5 (p1.gZ), .ints .u64 5 (p1.gT)]]) (v := agg [.rows 20 16 (rowE E_api_Point (y6))]) rfl (fun w hw => curve_multiples_spec (r := y6) (p0 := p1) ey6 )) ?_
  refine wj_e (ef_al2 (z' := [.rows 20 16 (rowE E_api_Point ((List.replicate 16 api_Point_z)))]) (alz_rows (E := E_api_Point) rfl rfl) fun b7 hb7 => ?_)
  refine wj_e (ef_stg (q := [.rows 20 16 (rowE E_api_Point (y6))]) rfl rfl rfl rfl (ones_cons (ones_rows (E := E_api_Point)) ones_nil) .here ?_)
  refine wj_nil ?_
  refine wc_seq ?_
  revert h
  refine opt_i fun y9 ey9 => ?_
  intro h
  refine wc_ops ?_
  refine wj_q _ (q_call (vs := []) (v := agg [.ints .u64 5 (y9.gX), .ints .u64 5 (y9.gY), .ints .u64 5 (y9.gZ), .ints .u64 5 (y9.gT)]) rfl (fun w hw => curve_Zero_spec (r := y9) ey9 )) ?_
  refine wj_e (ef_al fun b10 hb10 => ?_)
  refine wj_e (ef_st (q := [.ints .u64 5 (y9.gX), .ints .u64 5 (y9.gY), .ints .u64 5 (y9.gZ), .ints .u64 5 (y9.gT)]) rfl rfl rfl rfl rfl .here ?_)
  refine wj_nil ?_
  refine wc_seq ?_
  refine wc_seq ?_
  refine wc_ops ?_
  refine wj_q _ (q_mv rfl) ?_
  refine wj_nil ?_
  revert h
  refine jn_i fun k242 qk242 => ?_
  intro h
  refine wc_mono2 (G := fun t m => ∃ (a238 : List Int) (a239 : List Int) (a240 : List Int) (a241 : List Int), k242 a238 a239 a240 a241 = some r ∧ Fit [(4, .pointer (some ⟨b4, 0, none⟩)), (6, .pointer (some ⟨b10, 0, none⟩))] (ck b10 60 [.ints .u64 5 (a238), .ints .u64 5 (a239), .ints .u64 5 (a240), .ints .u64 5 (a241)] :: (ck b7 105 [.rows 20 16 (rowE E_api_Point (y6))] :: (ck b4 60 [.ints .u64 5 ((List.replicate 5 0)), .ints .u64 5 ((List.replicate 5 0)), .ints .u64 5 ((List.replicate 5 0)), .ints .u64 5 ((List.replicate 5 0))] :: (ck b3 60 [.ints .u64 5 (p1.gX), .ints .u64 5 (p1.gY), .ints .u64 5 (p1.gZ), .ints .u64 5 (p1.gT)] :: (ck b2 63 [.ints .u8 32 (p0)] :: []))))) t m) ?_ ?_
  · refine wc_block ?_
    refine wc_loopJ (fun n396 t m => ∃ (i390 : Int) (a391 : List Int) (a392 : List Int) (a393 : List Int) (a394 : List Int), curve_Mul_l1 p0 y6 k242 n396 i390 a391 a392 a393 a394 = some r ∧ Fit [(2, .pointer (some ⟨b2, 0, none⟩)), (4, .pointer (some ⟨b4, 0, none⟩)), (5, .pointer (some ⟨b7, 0, none⟩)), (6, .pointer (some ⟨b10, 0, none⟩)), (11, .int .i64 (i390))] (ck b10 60 [.ints .u64 5 (a391), .ints .u64 5 (a392), .ints .u64 5 (a393), .ints .u64 5 (a394)] :: (ck b7 105 [.rows 20 16 (rowE E_api_Point (y6))] :: (ck b4 60 [.ints .u64 5 ((List.replicate 5 0)), .ints .u64 5 ((List.replicate 5 0)), .ints .u64 5 ((List.replicate 5 0)), .ints .u64 5 ((List.replicate 5 0))] :: (ck b3 60 [.ints .u64 5 (p1.gX), .ints .u64 5 (p1.gY), .ints .u64 5 (p1.gZ), .ints .u64 5 (p1.gT)] :: (ck b2 63 [.ints .u8 32 (p0)] :: []))))) t m) big ?_ ?_
    · exact ⟨0, y9.gX, y9.gY, y9.gZ, y9.gT, h, ⟨⟨rfl, rfl, rfl, rfl, rfl, trivial⟩, (.one .here (.one .here (.one .here (.one .here (.one .here .nil)))))⟩⟩
    · rintro n396 t m ⟨i390, a391, a392, a393, a394, h, hF⟩
      refine wc_fit hF ?_
      clear hF
      rcases n396 with _ | n396
      · exact none_i h
      have h : curve_Mul_b1 p0 y6 k242 (curve_Mul_l1 p0 y6 k242 n396) i390 a391 a392 a393 a394 = some r := h
      unfold curve_Mul_b1 at h
      obtain ⟨k395, qk395⟩ : ∃ k, k = curve_Mul_l1 p0 y6 k242 n396 := ⟨_, rfl⟩
      try rw [← qk395] at h
      refine wc_seq ?_
      refine wc_ops ?_
      refine wj_q _ (q_bin rfl rfl rfl) ?_
      refine wj_nil ?_
      refine wc_seq ?_
      refine wc_if (c := (decide (i390 < 64))) rfl (fun d398 => ?_) (fun d398 => ?_)
      · have h := br_t h d398
        refine wc_skip ?_
        refine wc_seq ?_
        refine wc_block ?_
        refine wc_seq ?_
        refine wc_ops ?_
        refine wj_q _ (q_mv rfl) ?_
        refine wj_q _ (q_mv rfl) ?_
        refine wj_nil ?_
        refine wc_seq ?_
        refine wc_seq ?_
        refine wc_ops ?_
        refine wj_q _ (q_mv rfl) ?_
        refine wj_nil ?_
        revert h
        refine jn_i fun k433 qk433 => ?_
        intro h
        refine wc_mono2 (G := fun t m => ∃ (a429 : List Int) (a430 : List Int) (a431 : List Int) (a432 : List Int), k433 a429 a430 a431 a432 = some r ∧ Fit [(2, .pointer (some ⟨b2, 0, none⟩)), (4, .pointer (some ⟨b4, 0, none⟩)), (5, .pointer (some ⟨b7, 0, none⟩)), (6, .pointer (some ⟨b10, 0, none⟩)), (7, .int .i64 (i390)), (11, .int .i64 (i390))] (ck b10 60 [.ints .u64 5 (a429), .ints .u64 5 (a430), .ints .u64 5 (a431), .ints .u64 5 (a432)] :: (ck b7 105 [.rows 20 16 (rowE E_api_Point (y6))] :: (ck b4 60 [.ints .u64 5 ((List.replicate 5 0)), .ints .u64 5 ((List.replicate 5 0)), .ints .u64 5 ((List.replicate 5 0)), .ints .u64 5 ((List.replicate 5 0))] :: (ck b3 60 [.ints .u64 5 (p1.gX), .ints .u64 5 (p1.gY), .ints .u64 5 (p1.gZ), .ints .u64 5 (p1.gT)] :: (ck b2 63 [.ints .u8 32 (p0)] :: []))))) t m) ?_ ?_
        · refine wc_block ?_
          refine wc_loopJ (fun n455 t m => ∃ (i449 : Int) (a450 : List Int) (a451 : List Int) (a452 : List Int) (a453 : List Int), curve_Mul_l2 k433 n455 i449 a450 a451 a452 a453 = some r ∧ Fit [(2, .pointer (some ⟨b2, 0, none⟩)), (4, .pointer (some ⟨b4, 0, none⟩)), (5, .pointer (some ⟨b7, 0, none⟩)), (6, .pointer (some ⟨b10, 0, none⟩)), (7, .int .i64 (i390)), (11, .int .i64 (i390)), (14, .int .i64 (i449))] (ck b10 60 [.ints .u64 5 (a450), .ints .u64 5 (a451), .ints .u64 5 (a452), .ints .u64 5 (a453)] :: (ck b7 105 [.rows 20 16 (rowE E_api_Point (y6))] :: (ck b4 60 [.ints .u64 5 ((List.replicate 5 0)), .ints .u64 5 ((List.replicate 5 0)), .ints .u64 5 ((List.replicate 5 0)), .ints .u64 5 ((List.replicate 5 0))] :: (ck b3 60 [.ints .u64 5 (p1.gX), .ints .u64 5 (p1.gY), .ints .u64 5 (p1.gZ), .ints .u64 5 (p1.gT)] :: (ck b2 63 [.ints .u8 32 (p0)] :: []))))) t m) big ?_ ?_
          · exact ⟨0, a391, a392, a393, a394, h, ⟨⟨rfl, rfl, rfl, rfl, rfl, rfl, rfl, trivial⟩, (.one .here (.one .here (.one .here (.one .here (.one .here .nil)))))⟩⟩
          · rintro n455 t m ⟨i449, a450, a451, a452, a453, h, hF⟩
            refine wc_fit hF ?_
            clear hF
            rcases n455 with _ | n455
            · exact none_i h
            have h : curve_Mul_b2 k433 (curve_Mul_l2 k433 n455) i449 a450 a451 a452 a453 = some r := h
            unfold curve_Mul_b2 at h
            obtain ⟨k454, qk454⟩ : ∃ k, k = curve_Mul_l2 k433 n455 := ⟨_, rfl⟩
            try rw [← qk454] at h
            refine wc_seq ?_
            refine wc_ops ?_
            refine wj_q _ (q_bin rfl rfl rfl) ?_
            refine wj_nil ?_
            refine wc_seq ?_
            refine wc_if (c := (decide (i449 < 4))) rfl (fun d457 => ?_) (fun d457 => ?_)
            · have h := br_t h d457
              refine wc_skip ?_
              refine wc_seq ?_
              refine wc_block ?_
              revert h
              refine opt_i fun y459 ey459 => ?_
              intro h
              refine wc_ops ?_
              refine wj_q _ (q_ld (p := [.ints .u64 5 (a450), .ints .u64 5 (a451), .ints .u64 5 (a452), .ints .u64 5 (a453)]) rfl .here rfl) ?_
              refine wj_q _ (q_call (vs := [agg [.ints .u64 5 (a450), .ints .u64 5 (a451), .ints .u64 5 (a452), .ints .u64 5 (a453)]]) (v := agg [.ints .u64 5 (y459.gX), .ints .u64 5 (y459.gY), .ints .u64 5 (y459.gZ), .ints .u64 5 (y459.gT)]) rfl (fun w hw => curve_Double_spec (r := y459) (p0 := (⟨a450, a451, a452, a453⟩ : api_Point)) ey459 )) ?_
              refine wj_e (ef_st (q := [.ints .u64 5 (y459.gX), .ints .u64 5 (y459.gY), .ints .u64 5 (y459.gZ), .ints .u64 5 (y459.gT)]) rfl rfl rfl rfl rfl .here ?_)
              refine wj_nil ?_
              revert h
              refine bnd_i fun z461 ez461 => ?_
              intro h
              refine wc_ops ?_
              refine wj_q _ (iz ez461 (q_bin rfl rfl rfl)) ?_
              refine wj_q _ (q_mv rfl) ?_
              refine wj_nil ?_
              rw [qk454] at h
              exact ⟨n455, Nat.lt_succ_self _, z461, y459.gX, y459.gY, y459.gZ, y459.gT, h, ⟨⟨rfl, rfl, rfl, rfl, rfl, rfl, rfl, trivial⟩, (.one .here (.one .here (.one .here (.one .here (.one .here .nil)))))⟩⟩
            · have h := br_f h d457
              refine wc_exit _ rfl ?_
              exact ⟨a450, a451, a452, a453, h, ⟨⟨rfl, rfl, rfl, rfl, rfl, rfl, trivial⟩, (.one .here (.one .here (.one .here (.one .here (.one .here .nil)))))⟩⟩
        · rintro t m ⟨a429, a430, a431, a432, h, hF⟩
          refine wc_fit hF ?_
          clear hF
          subst qk433
          revert h
          refine opt_i fun y463 ey463 => ?_
          refine chk_i fun c464 => ?_
          refine bnd_i fun x465 ex465 => ?_
          refine opt_i fun y466 ey466 => ?_
          intro h
          refine wc_draw ?_
          refine ws_p1 _ (q_mv rfl) ?_
          refine ws_q1 _ (q_ld (p := [.ints .u64 5 (a429), .ints .u64 5 (a430), .ints .u64 5 (a431), .ints .u64 5 (a432)]) rfl .here rfl) ?_
          refine ws_q1 _ (q_ld (p := [.ints .u8 32 (p0)]) rfl (.there (.there (.there (.there .here)))) rfl) ?_
          refine ws_p1 _ (q_call (vs := [agg [.ints .u8 32 (p0)], .int .i64 (i390)]) (v := .int .u8 (y463)) rfl (fun w hw => curve_nibble_spec (r := y463) (p0 := p0) (p1 := i390) ey463 )) ?_
          refine ws_p1 _ (q_ia rfl rfl (inB_z c464)) ?_
          refine ws_q1 _ (az (fun x465 => agg [.ints .u64 5 (x465.gX), .ints .u64 5 (x465.gY), .ints .u64 5 (x465.gZ), .ints .u64 5 (x465.gT)]) ex465 (q_ldr0 (base := 0) (w := 20) rfl (.there .here) rfl (inB_n c464) rfl rfl rfl)) ?_
          refine ws_p1 _ (q_call (vs := [agg [.ints .u64 5 (a429), .ints .u64 5 (a430), .ints .u64 5 (a431), .ints .u64 5 (a432)], agg [.ints .u64 5 (x465.gX), .ints .u64 5 (x465.gY), .ints .u64 5 (x465.gZ), .ints .u64 5 (x465.gT)]]) (v := agg [.ints .u64 5 (y466.gX), .ints .u64 5 (y466.gY), .ints .u64 5 (y466.gZ), .ints .u64 5 (y466.gT)]) rfl (fun w hw => curve_Add_spec (r := y466) (p0 := (⟨a429, a430, a431, a432⟩ : api_Point)) (p1 := x465) ey466 )) ?_
          refine ws_eL rfl (ef_st (q := [.ints .u64 5 (y466.gX), .ints .u64 5 (y466.gY), .ints .u64 5 (y466.gZ), .ints .u64 5 (y466.gT)]) rfl rfl rfl rfl rfl .here ?_)
          refine ws_nil ?_
          revert h
          refine bnd_i fun z468 ez468 => ?_
          intro h
          refine wc_ops ?_
          refine wj_q _ (iz ez468 (q_bin rfl rfl rfl)) ?_
          refine wj_q _ (q_mv rfl) ?_
          refine wj_nil ?_
          rw [qk395] at h
          exact ⟨n396, Nat.lt_succ_self _, z468, y466.gX, y466.gY, y466.gZ, y466.gT, h, ⟨⟨rfl, rfl, rfl, rfl, rfl, trivial⟩, (.one .here (.one .here (.one .here (.one .here (.one .here .nil)))))⟩⟩
      · have h := br_f h d398
        refine wc_exit _ rfl ?_
        exact ⟨a391, a392, a393, a394, h, ⟨⟨rfl, rfl, trivial⟩, (.one .here (.one .here (.one .here (.one .here (.one .here .nil)))))⟩⟩
  · rintro t m ⟨a238, a239, a240, a241, h, hF⟩
    refine wc_fit hF ?_
    clear hF
    subst qk242
    refine wc_seq ?_
    refine wc_ops ?_
    refine wj_q _ (q_ld (p := [.ints .u64 5 (a238), .ints .u64 5 (a239), .ints .u64 5 (a240), .ints .u64 5 (a241)]) rfl .here rfl) ?_
    refine wj_e (ef_st (q := [.ints .u64 5 (a238), .ints .u64 5 (a239), .ints .u64 5 (a240), .ints .u64 5 (a241)]) rfl rfl rfl rfl rfl (.there (.there .here)) ?_)
    refine wj_nil ?_
    refine wc_ret ?_
    revert h; refine ret_i fun h => ?_
    subst h
    exact ⟨_, (.cons (.agg rfl (.there (.there .here)) rfl) .nil), rfl⟩
end Go.Proofs.YtiflckckekjbnaaDoor
/- Mirrors. -/
namespace Go.Proofs.YtiflckckekjbnaaDoor
open Go Go.Sx Go.RowKit
set_option linter.all false
set_option maxHeartbeats 400000
set_option maxRecDepth 100000
/- farebox/curve.MulBase -/
def curve_MulBase (p0 : List Int) : Option (api_Point) :=
 opt (curve_start) fun y5 =>
 opt (curve_Mul p0 y5) fun y6 =>
 some y6
theorem curve_MulBase_spec {W : World} {r : api_Point} {p0 : List Int} (h : curve_MulBase p0 = some r)  :
    Calls Tryd.prog 25 [agg [.ints .u8 32 (p0)]].toArray W (ret1 W (agg [.ints .u64 5 (r.gX), .ints .u64 5 (r.gY), .ints .u64 5 (r.gZ), .ints .u64 5 (r.gT)])) := by
  unfold curve_MulBase at h
  refine calls_val mo ok25 rfl ?_
  refine wc_seq ?_
  refine wc_ops ?_
  refine wj_e (ef_bx (s := [.ints .u8 32 (p0)]) rfl fun b2 hb2 => ?_)
  refine wj_e (ef_al fun b3 hb3 => ?_)
  refine wj_nil ?_
  refine wc_seq ?_
  revert h
  refine opt_i fun y5 ey5 => ?_
  refine opt_i fun y6 ey6 => ?_
  intro h
  refine wc_draw ?_
  refine ws_p1 _ (q_call (vs := []) (v := agg [.ints .u64 5 (y5.gX), .ints .u64 5 (y5.gY), .ints .u64 5 (y5.gZ), .ints .u64 5 (y5.gT)]) rfl (fun w hw => curve_start_spec (r := y5) ey5 )) ?_
  refine ws_q1 _ (q_ld (p := [.ints .u8 32 (p0)]) rfl (.there .here) rfl) ?_
  refine ws_p1 _ (q_call (vs := [agg [.ints .u8 32 (p0)], agg [.ints .u64 5 (y5.gX), .ints .u64 5 (y5.gY), .ints .u64 5 (y5.gZ), .ints .u64 5 (y5.gT)]]) (v := agg [.ints .u64 5 (y6.gX), .ints .u64 5 (y6.gY), .ints .u64 5 (y6.gZ), .ints .u64 5 (y6.gT)]) rfl (fun w hw => curve_Mul_spec (r := y6) (p0 := p0) (p1 := y5) ey6 )) ?_
  refine ws_eL rfl (ef_st (q := [.ints .u64 5 (y6.gX), .ints .u64 5 (y6.gY), .ints .u64 5 (y6.gZ), .ints .u64 5 (y6.gT)]) rfl rfl rfl rfl rfl .here ?_)
  refine ws_nil ?_
  refine wc_ret ?_
  revert h; refine ret_i fun h => ?_
  subst h
  exact ⟨_, (.cons (.agg rfl .here rfl) .nil), rfl⟩
/- farebox/scalar.words -/
def scalar_words (p0 : List Int) : Option ((List Int)) :=
 opt (scalar_load p0) fun y4 =>
 some (tk y4 0 4)
theorem scalar_words_spec {W : World} {r : (List Int)} {p0 : List Int} (h : scalar_words p0 = some r)  :
    Calls Tryd.prog 93 [agg [.ints .u8 32 (p0)]].toArray W (retS W [] (fun v Ms => ∃ (u0 : Value) (M0 : List Chunk), v = u0 ∧ Ms = [.all M0] ∧ OwnSl (El.int .u64) u0 M0 r)) := by
  unfold scalar_words at h
  refine calls_memT mo ok93 rfl (sat0 _) ?_
  refine wc_seq ?_
  refine wc_ops ?_
  refine wj_e (ef_bx (s := [.ints .u8 32 (p0)]) rfl fun b2 hb2 => ?_)
  refine wj_q _ (q_mv rfl) ?_
  refine wj_nil ?_
  refine wc_seq ?_
  revert h
  refine opt_i fun y4 ey4 => ?_
  intro h
  refine wc_ops ?_
  refine wj_q _ (q_ld (p := [.ints .u8 32 (p0)]) rfl .here rfl) ?_
  refine wj_q _ (q_call (vs := [agg [.ints .u8 32 (p0)]]) (v := agg [.ints .u64 4 (y4)]) rfl (fun w hw => scalar_load_spec (r := y4) (p0 := p0) ey4 )) ?_
  refine wj_e (ef_al fun b5 hb5 => ?_)
  refine wj_e (ef_st (q := [.ints .u64 4 (y4)]) rfl rfl rfl rfl rfl .here ?_)
  refine wj_nil ?_
  refine wc_seq ?_
  refine wc_ops ?_
  refine wj_q _ (q_sla rfl .no .no .no (by simp) (by decide)) ?_
  refine wj_q _ (q_mv rfl) ?_
  refine wj_nil ?_
  refine wc_ret ?_
  revert h; refine ret_i fun h => ?_
  subst h
  exact ⟨_, _, (.cons (.tmp rfl) .nil), (.one .here .nil), ⟨_, rfl, ⟨(.slice (some (slAddr b5 0 0 4 1)) (4 - 0) (4 - 0)), [ck b5 93 [.ints .u64 4 (y4)]], rfl, rfl, (own_blk_i (s := [.ints .u64 4 (y4)]) (N := 4) (k := .u64) (base := 0) (lo := 0) (hi := 4) (mz := 4) rfl (by decide))⟩⟩⟩
/- farebox/scalar.mod -/
def scalar_mod (p0 : List Int) : Option ((List Int)) :=
 opt (scalar_words p0) fun y5 =>
 opt (scalar_reduce y5) fun y11 =>
 some y11
theorem scalar_mod_spec {W : World} {r : (List Int)} {p0 : List Int} (h : scalar_mod p0 = some r) (hG : Globs W) :
    Calls Tryd.prog 90 [agg [.ints .u8 32 (p0)]].toArray W (ret1 W (agg [.ints .u64 4 (r)])) := by
  unfold scalar_mod at h
  refine calls_val mo ok90 rfl ?_
  refine wc_seq ?_
  refine wc_ops ?_
  refine wj_e (ef_bx (s := [.ints .u8 32 (p0)]) rfl fun b2 hb2 => ?_)
  refine wj_e (ef_al fun b3 hb3 => ?_)
  refine wj_nil ?_
  refine wc_seq ?_
  revert h
  refine opt_i fun y5 ey5 => ?_
  refine opt_i fun y11 ey11 => ?_
  intro h
  refine wc_ops ?_
  refine wj_q _ (q_ld (p := [.ints .u8 32 (p0)]) rfl (.there .here) rfl) ?_
  refine wj_e (ef_callS0 rfl (fun w hw => scalar_words_spec (r := y5) (p0 := p0) ey5 ) fun v6 Msv6 R7 => ?_)
  obtain ⟨_, ms9, rfl, rfl, O10⟩ := R7
  refine wj_q _ (q_call (vs := [v6]) (v := agg [.ints .u64 4 (y11)]) rfl (fun w hw => scalar_reduce_spec (r := y11) (p0 := y5) ey11 (hG.at hw (by simp)) ((rd_own O10 .here) w hw))) ?_
  refine wj_e (ef_st (q := [.ints .u64 4 (y11)]) rfl rfl rfl rfl rfl (.app .here) ?_)
  refine wj_nil ?_
  refine wc_ret ?_
  revert h; refine ret_i fun h => ?_
  subst h
  exact ⟨_, (.cons (.agg rfl (.app .here) rfl) .nil), rfl⟩
/- farebox/scalar.Add -/
def scalar_Add (p0 : List Int) (p1 : List Int) : Option ((List Int)) :=
 opt (scalar_mod p0) fun y6 =>
 opt (scalar_mod p1) fun y7 =>
 opt (scalar_plus y6 y7) fun y8 =>
 opt (scalar_below y8.1) fun y11 =>
 opt (scalar_store y11) fun y12 =>
 some y12
theorem scalar_Add_spec {W : World} {r : (List Int)} {p0 : List Int} {p1 : List Int} (h : scalar_Add p0 p1 = some r) (hG : Globs W) :
    Calls Tryd.prog 61 [agg [.ints .u8 32 (p0)], agg [.ints .u8 32 (p1)]].toArray W (ret1 W (agg [.ints .u8 32 (r)])) := by
  unfold scalar_Add at h
  refine calls_val mo ok61 rfl ?_
  refine wc_seq ?_
  refine wc_ops ?_
  refine wj_e (ef_bx (s := [.ints .u8 32 (p0)]) rfl fun b2 hb2 => ?_)
  refine wj_e (ef_bx (s := [.ints .u8 32 (p1)]) rfl fun b3 hb3 => ?_)
  refine wj_e (ef_al fun b4 hb4 => ?_)
  refine wj_nil ?_
  refine wc_seq ?_
  revert h
  refine opt_i fun y6 ey6 => ?_
  refine opt_i fun y7 ey7 => ?_
  refine opt_i fun y8 ey8 => ?_
  intro h
  refine wc_draw ?_
  refine ws_q1 _ (q_ld (p := [.ints .u8 32 (p0)]) rfl (.there (.there .here)) rfl) ?_
  refine ws_p1 _ (q_call (vs := [agg [.ints .u8 32 (p0)]]) (v := agg [.ints .u64 4 (y6)]) rfl (fun w hw => scalar_mod_spec (r := y6) (p0 := p0) ey6 (hG.at hw (by simp)))) ?_
  refine ws_q1 _ (q_ld (p := [.ints .u8 32 (p1)]) rfl (.there .here) rfl) ?_
  refine ws_p1 _ (q_call (vs := [agg [.ints .u8 32 (p1)]]) (v := agg [.ints .u64 4 (y7)]) rfl (fun w hw => scalar_mod_spec (r := y7) (p0 := p1) ey7 (hG.at hw (by simp)))) ?_
  refine ws_p1 _ (q_call (vs := [agg [.ints .u64 4 (y6)], agg [.ints .u64 4 (y7)]]) (v := .tuple #[agg [.ints .u64 4 (y8.1)], .int .u64 (y8.2)]) rfl (fun w hw => scalar_plus_spec (r := y8) (p0 := y6) (p1 := y7) ey8 )) ?_
  refine ws_p1 _ (q_mv rfl) ?_
  refine ws_p1 _ (q_ext rfl rfl) ?_
  refine ws_p1 _ (q_ext rfl rfl) ?_
  refine ws_e1 (ef_al fun b9 hb9 => ⟨(by repeat (first | exact Sup.refl _ | apply Sup.cons | apply Sup.app)), ?_⟩)
  refine ws_eL rfl (ef_st (q := [.ints .u64 4 (y8.1)]) rfl rfl rfl rfl rfl .here ?_)
  refine ws_p1 _ (q_mv rfl) ?_
  refine ws_nil ?_
  refine wc_seq ?_
  revert h
  refine opt_i fun y11 ey11 => ?_
  refine opt_i fun y12 ey12 => ?_
  intro h
  refine wc_ops ?_
  refine wj_q _ (q_ld (p := [.ints .u64 4 (y8.1)]) rfl .here rfl) ?_
  refine wj_q _ (q_call (vs := [agg [.ints .u64 4 (y8.1)]]) (v := agg [.ints .u64 4 (y11)]) rfl (fun w hw => scalar_below_spec (r := y11) (p0 := y8.1) ey11 (hG.at hw (by simp)))) ?_
  refine wj_q _ (q_call (vs := [agg [.ints .u64 4 (y11)]]) (v := agg [.ints .u8 32 (y12)]) rfl (fun w hw => scalar_store_spec (r := y12) (p0 := y11) ey12 )) ?_
  refine wj_e (ef_st (q := [.ints .u8 32 (y12)]) rfl rfl rfl rfl rfl (.there .here) ?_)
  refine wj_nil ?_
  refine wc_ret ?_
  revert h; refine ret_i fun h => ?_
  subst h
  exact ⟨_, (.cons (.agg rfl (.there .here) rfl) .nil), rfl⟩
/- farebox/scalar.Mul -/
def scalar_Mul (p0 : List Int) (p1 : List Int) : Option ((List Int)) :=
 opt (scalar_words p0) fun y6 =>
 opt (scalar_words p1) fun y12 =>
 opt (scalar_times y6 y12) fun y18 =>
 opt (scalar_reduce y18) fun y24 =>
 opt (scalar_store y24) fun y25 =>
 some y25
theorem scalar_Mul_spec {W : World} {r : (List Int)} {p0 : List Int} {p1 : List Int} (h : scalar_Mul p0 p1 = some r) (hG : Globs W) :
    Calls Tryd.prog 62 [agg [.ints .u8 32 (p0)], agg [.ints .u8 32 (p1)]].toArray W (ret1 W (agg [.ints .u8 32 (r)])) := by
  unfold scalar_Mul at h
  refine calls_val mo ok62 rfl ?_
  refine wc_seq ?_
  refine wc_ops ?_
  refine wj_e (ef_bx (s := [.ints .u8 32 (p0)]) rfl fun b2 hb2 => ?_)
  refine wj_e (ef_bx (s := [.ints .u8 32 (p1)]) rfl fun b3 hb3 => ?_)
  refine wj_e (ef_al fun b4 hb4 => ?_)
  refine wj_nil ?_
  refine wc_seq ?_
  revert h
  refine opt_i fun y6 ey6 => ?_
  refine opt_i fun y12 ey12 => ?_
  refine opt_i fun y18 ey18 => ?_
  refine opt_i fun y24 ey24 => ?_
  refine opt_i fun y25 ey25 => ?_
  intro h
  refine wc_draw ?_
  refine ws_q1 _ (q_ld (p := [.ints .u8 32 (p0)]) rfl (.there (.there .here)) rfl) ?_
  refine ws_q1 _ (q_ld (p := [.ints .u8 32 (p1)]) rfl (.there .here) rfl) ?_
  refine ws_e1 (ef_callS0 rfl (fun w hw => scalar_words_spec (r := y6) (p0 := p0) ey6 ) fun v7 Msv7 R8 => ?_)
  obtain ⟨_, ms10, rfl, rfl, O11⟩ := R8
  refine ⟨(by repeat (first | exact Sup.refl _ | apply Sup.cons | apply Sup.app)), ?_⟩
  refine ws_e1 (ef_callS0 rfl (fun w hw => scalar_words_spec (r := y12) (p0 := p1) ey12 ) fun v13 Msv13 R14 => ?_)
  obtain ⟨_, ms16, rfl, rfl, O17⟩ := R14
  refine ⟨(by repeat (first | exact Sup.refl _ | apply Sup.cons | apply Sup.app)), ?_⟩
  refine ws_e1 (ef_callS0 rfl (fun w hw => scalar_times_spec (r := y18) (p0 := y6) (p1 := y12) ey18 ((rd_own O11 (.app .here)) w hw) ((rd_own O17 .here) w hw)) fun v19 Msv19 R20 => ?_)
  obtain ⟨_, ms22, rfl, rfl, O23⟩ := R20
  refine ⟨(by repeat (first | exact Sup.refl _ | apply Sup.cons | apply Sup.app)), ?_⟩
  refine ws_eq _ (q_call (vs := [v19]) (v := agg [.ints .u64 4 (y24)]) rfl (fun w hw => scalar_reduce_spec (r := y24) (p0 := y18) ey24 (hG.at hw (by simp)) ((rd_own O23 .here) w hw))) ?_ (by repeat (first | exact Sup.refl _ | apply Sup.cons | apply Sup.app))
  refine ws_p1 _ (q_call (vs := [agg [.ints .u64 4 (y24)]]) (v := agg [.ints .u8 32 (y25)]) rfl (fun w hw => scalar_store_spec (r := y25) (p0 := y24) ey25 )) ?_
  refine ws_eL rfl (ef_st (q := [.ints .u8 32 (y25)]) rfl rfl rfl rfl rfl (.app (.app (.app .here))) ?_)
  refine ws_nil ?_
  refine wc_ret ?_
  revert h; refine ret_i fun h => ?_
  subst h
  exact ⟨_, (.cons (.agg rfl (.app (.app (.app .here))) rfl) .nil), rfl⟩
/- farebox/scalar.MulAdd -/
def scalar_MulAdd (p0 : List Int) (p1 : List Int) (p2 : List Int) : Option ((List Int)) :=
 opt (scalar_Mul p0 p1) fun y7 =>
 opt (scalar_Add y7 p2) fun y8 =>
 some y8
theorem scalar_MulAdd_spec {W : World} {r : (List Int)} {p0 : List Int} {p1 : List Int} {p2 : List Int} (h : scalar_MulAdd p0 p1 p2 = some r) (hG : Globs W) :
    Calls Tryd.prog 26 [agg [.ints .u8 32 (p0)], agg [.ints .u8 32 (p1)], agg [.ints .u8 32 (p2)]].toArray W (ret1 W (agg [.ints .u8 32 (r)])) := by
  unfold scalar_MulAdd at h
  refine calls_val mo ok26 rfl ?_
  refine wc_seq ?_
  refine wc_ops ?_
  refine wj_e (ef_bx (s := [.ints .u8 32 (p0)]) rfl fun b2 hb2 => ?_)
  refine wj_e (ef_bx (s := [.ints .u8 32 (p1)]) rfl fun b3 hb3 => ?_)
  refine wj_e (ef_bx (s := [.ints .u8 32 (p2)]) rfl fun b4 hb4 => ?_)
  refine wj_e (ef_al fun b5 hb5 => ?_)
  refine wj_nil ?_
  refine wc_seq ?_
  revert h
  refine opt_i fun y7 ey7 => ?_
  refine opt_i fun y8 ey8 => ?_
  intro h
  refine wc_draw ?_
  refine ws_q1 _ (q_ld (p := [.ints .u8 32 (p0)]) rfl (.there (.there (.there .here))) rfl) ?_
  refine ws_q1 _ (q_ld (p := [.ints .u8 32 (p1)]) rfl (.there (.there .here)) rfl) ?_
  refine ws_p1 _ (q_call (vs := [agg [.ints .u8 32 (p0)], agg [.ints .u8 32 (p1)]]) (v := agg [.ints .u8 32 (y7)]) rfl (fun w hw => scalar_Mul_spec (r := y7) (p0 := p0) (p1 := p1) ey7 (hG.at hw (by simp)))) ?_
  refine ws_q1 _ (q_ld (p := [.ints .u8 32 (p2)]) rfl (.there .here) rfl) ?_
  refine ws_p1 _ (q_call (vs := [agg [.ints .u8 32 (y7)], agg [.ints .u8 32 (p2)]]) (v := agg [.ints .u8 32 (y8)]) rfl (fun w hw => scalar_Add_spec (r := y8) (p0 := y7) (p1 := p2) ey8 (hG.at hw (by simp)))) ?_
  refine ws_eL rfl (ef_st (q := [.ints .u8 32 (y8)]) rfl rfl rfl rfl rfl .here ?_)
  refine ws_nil ?_
  refine wc_ret ?_
  revert h; refine ret_i fun h => ?_
  subst h
  exact ⟨_, (.cons (.agg rfl .here rfl) .nil), rfl⟩
/- farebox/sign.Sign -/
def sign_Sign (p0 : List Int) (p1 : List Int) : Option ((List Int)) :=
 opt (sign_halves p0) fun y5 =>
 opt (curve_MulBase y5.1) fun y13 =>
 opt (curve_Encode y13) fun y14 =>
 opt (sign_hash [y5.2, p1]) fun y20 =>
 opt (curve_MulBase y20) fun y23 =>
 opt (curve_Encode y23) fun y24 =>
 jn (fun (a33 : List Int) => opt (scalar_MulAdd a33 y5.1 y20) fun y42 =>
 bnd (wr (List.replicate 64 0) 0 ((tk y24 0 32).take 32)) fun l47 =>
 bnd (wr l47 32 ((tk y42 0 32).take (64 - 32))) fun l49 =>
 some l49) fun k34 => opt (sign_hash [(tk y24 0 32), (tk y14 0 32), p1]) fun y39 =>
 k34 y39
theorem sign_Sign_spec {W : World} {r : (List Int)} {p0 : List Int} {p1 : List Int} {v1 : Value} (h : sign_Sign p0 p1 = some r) (hG : Globs W) (A1 : RdSl (El.int .u8) W v1 p1) :
    Calls Tryd.prog 11 [agg [.ints .u8 32 (p0)], v1].toArray W (ret1 W (agg [.ints .u8 64 (r)])) := by
  unfold sign_Sign at h
  refine calls_val mo ok11 rfl ?_
  refine wc_seq ?_
  refine wc_ops ?_
  refine wj_e (ef_bx (s := [.ints .u8 32 (p0)]) rfl fun b2 hb2 => ?_)
  refine wj_e (ef_al fun b3 hb3 => ?_)
  refine wj_nil ?_
  refine wc_seq ?_
  revert h
  refine opt_i fun y5 ey5 => ?_
  intro h
  refine wc_ops ?_
  refine wj_q _ (q_ld (p := [.ints .u8 32 (p0)]) rfl (.there .here) rfl) ?_
  refine wj_e (ef_callS0 rfl (fun w hw => sign_halves_spec (r := y5) (p0 := p0) ey5 (hG.at hw (by simp))) fun v6 Msv6 R7 => ?_)
  obtain ⟨v8, ms9, rfl, rfl, O10⟩ := R7
  refine wj_q _ (q_mv rfl) ?_
  refine wj_q _ (q_ext rfl rfl) ?_
  refine wj_q _ (q_ext rfl rfl) ?_
  refine wj_e (ef_al fun b11 hb11 => ?_)
  refine wj_e (ef_st (q := [.ints .u8 32 (y5.1)]) rfl rfl rfl rfl rfl .here ?_)
  refine wj_q _ (q_mv rfl) ?_
  refine wj_nil ?_
  refine wc_seq ?_
  revert h
  refine opt_i fun y13 ey13 => ?_
  refine opt_i fun y14 ey14 => ?_
  intro h
  refine wc_ops ?_
  refine wj_q _ (q_ld (p := [.ints .u8 32 (y5.1)]) rfl .here rfl) ?_
  refine wj_q _ (q_call (vs := [agg [.ints .u8 32 (y5.1)]]) (v := agg [.ints .u64 5 (y13.gX), .ints .u64 5 (y13.gY), .ints .u64 5 (y13.gZ), .ints .u64 5 (y13.gT)]) rfl (fun w hw => curve_MulBase_spec (r := y13) (p0 := y5.1) ey13 )) ?_
  refine wj_q _ (q_call (vs := [agg [.ints .u64 5 (y13.gX), .ints .u64 5 (y13.gY), .ints .u64 5 (y13.gZ), .ints .u64 5 (y13.gT)]]) (v := agg [.ints .u8 32 (y14)]) rfl (fun w hw => curve_Encode_spec (r := y14) (p0 := y13) ey14 )) ?_
  refine wj_e (ef_al fun b15 hb15 => ?_)
  refine wj_e (ef_st (q := [.ints .u8 32 (y14)]) rfl rfl rfl rfl rfl .here ?_)
  refine wj_nil ?_
  refine wc_seq ?_
  revert h
  refine opt_i fun y20 ey20 => ?_
  intro h
  refine wc_ops ?_
  refine wj_q _ (q_mv rfl) ?_
  refine wj_q _ (q_mv rfl) ?_
  refine wj_e (ef_bsO (E := El.sl) (xs := [unS v8, unS v1]) (.one rfl (IsSl.cells (OwnSl.isSl O10)) rfl (.one rfl (IsSl.cells (Shp.isSl (Shp.rd A1))) rfl BdR.nil)) (.cons (p := [.one v8]) (sl_cell (OwnSl.isSl O10)) (.cons (p := [.one v1]) (sl_cell (Shp.isSl (Shp.rd A1))) .nil)) rfl fun v17 ms18 O19 => ?_)
  refine wj_q _ (q_call (vs := [v17]) (v := agg [.ints .u8 32 (y20)]) rfl (fun w hw => sign_hash_spec (r := y20) (p0 := [y5.2, p1]) ey20 (hG.at hw (by simp)) (rd_own O19 .here w hw) (.cons (rd_unS ((rd_own O10 (.app (.there (.there .here)))) w hw)) (.cons (rd_unS ((rd_arg A1 apart0) w hw)) .nil)))) ?_
  refine wj_e (ef_al fun b21 hb21 => ?_)
  refine wj_e (ef_st (q := [.ints .u8 32 (y20)]) rfl rfl rfl rfl rfl .here ?_)
  refine wj_nil ?_
  refine wc_seq ?_
  revert h
  refine opt_i fun y23 ey23 => ?_
  refine opt_i fun y24 ey24 => ?_
  intro h
  refine wc_ops ?_
  refine wj_q _ (q_ld (p := [.ints .u8 32 (y20)]) rfl .here rfl) ?_
  refine wj_q _ (q_call (vs := [agg [.ints .u8 32 (y20)]]) (v := agg [.ints .u64 5 (y23.gX), .ints .u64 5 (y23.gY), .ints .u64 5 (y23.gZ), .ints .u64 5 (y23.gT)]) rfl (fun w hw => curve_MulBase_spec (r := y23) (p0 := y20) ey23 )) ?_
  refine wj_q _ (q_call (vs := [agg [.ints .u64 5 (y23.gX), .ints .u64 5 (y23.gY), .ints .u64 5 (y23.gZ), .ints .u64 5 (y23.gT)]]) (v := agg [.ints .u8 32 (y24)]) rfl (fun w hw => curve_Encode_spec (r := y24) (p0 := y23) ey24 )) ?_
  refine wj_e (ef_al fun b25 hb25 => ?_)
  refine wj_e (ef_st (q := [.ints .u8 32 (y24)]) rfl rfl rfl rfl rfl .here ?_)
  refine wj_nil ?_
  refine wc_seq ?_
  revert h
  refine jn_i fun k34 qk34 => ?_
  intro h
  refine wc_mono2 (G := fun t m => ∃ (a33 : List Int) (b32 : Nat), k34 a33 = some r ∧ Fit [(4, .pointer (some ⟨b3, 0, none⟩)), (5, .pointer (some ⟨b11, 0, none⟩)), (8, .pointer (some ⟨b21, 0, none⟩)), (9, .pointer (some ⟨b25, 0, none⟩)), (10, .pointer (some ⟨b32, 0, none⟩))] (ck b32 63 [.ints .u8 32 (a33)] :: (ck b25 27 [.ints .u8 32 (y24)] :: (ck b21 63 [.ints .u8 32 (y20)] :: (ck b15 27 [.ints .u8 32 (y14)] :: (ck b11 63 [.ints .u8 32 (y5.1)] :: (ck b3 30 [.ints .u8 64 ((List.replicate 64 0))] :: (ck b2 38 [.ints .u8 32 (p0)] :: []))))))) t m) ?_ ?_
  · revert h
    refine opt_i fun y39 ey39 => ?_
    intro h
    refine wc_draw ?_
    refine ws_p1 _ (q_sla rfl .no .no .no (by simp) (by decide)) ?_
    refine ws_p1 _ (q_sla rfl .no .no .no (by simp) (by decide)) ?_
    refine ws_p1 _ (q_mv rfl) ?_
    refine ws_two (ef_bsO (E := El.sl) (xs := [unS (.slice (some (slAddr b25 0 0 32 1)) (32 - 0) (32 - 0)), unS (.slice (some (slAddr b15 0 0 32 1)) (32 - 0) (32 - 0)), unS v1]) (.one rfl (IsSl.cells ⟨_, _, _, rfl⟩) rfl (.one rfl (IsSl.cells ⟨_, _, _, rfl⟩) rfl (.one rfl (IsSl.cells (Shp.isSl (Shp.rd A1))) rfl BdR.nil))) (.cons (p := [.one (.slice (some (slAddr b25 0 0 32 1)) (32 - 0) (32 - 0))]) (sl_cell ⟨_, _, _, rfl⟩) (.cons (p := [.one (.slice (some (slAddr b15 0 0 32 1)) (32 - 0) (32 - 0))]) (sl_cell ⟨_, _, _, rfl⟩) (.cons (p := [.one v1]) (sl_cell (Shp.isSl (Shp.rd A1))) .nil))) rfl fun v36 ms37 O38 => ⟨(by repeat (first | exact Sup.refl _ | apply Sup.cons | apply Sup.app)), ?_⟩) (ef_al fun b40 hb40 => ⟨(by repeat (first | exact Sup.refl _ | apply Sup.cons | apply Sup.app)), ?_⟩)
    · refine ws_two (ef_q _ (q_call (vs := [v36]) (v := agg [.ints .u8 32 (y39)]) rfl (fun w hw => sign_hash_spec (r := y39) (p0 := [(tk y24 0 32), (tk y14 0 32), p1]) ey39 (hG.at hw (by simp)) (rd_own O38 .here w hw) (.cons (rd_unS ((rd_blk_i (s := [.ints .u8 32 (y24)]) (N := 32) (k := .u8) (base := 0) (lo := 0) (hi := 32) (mz := 32) (.app .here) rfl (by decide)) w hw)) (.cons (rd_unS ((rd_blk_i (s := [.ints .u8 32 (y14)]) (N := 32) (k := .u8) (base := 0) (lo := 0) (hi := 32) (mz := 32) (.app (.there (.there (.app .here)))) rfl (by decide)) w hw)) (.cons (rd_unS ((rd_arg A1 apart0) w hw)) .nil))))) ⟨(by repeat (first | exact Sup.refl _ | apply Sup.cons | apply Sup.app)), ?_⟩) (ef_al fun b40 hb40 => ⟨(by repeat (first | exact Sup.refl _ | apply Sup.cons | apply Sup.app)), ?_⟩)
      · refine ws_e1 (ef_al fun b40 hb40 => ⟨(by repeat (first | exact Sup.refl _ | apply Sup.cons | apply Sup.app)), ?_⟩)
        refine ws_eL rfl (ef_st (q := [.ints .u8 32 (y39)]) rfl rfl rfl rfl rfl .here ?_)
        refine ws_nil ?_
        exact ⟨y39, b40, h, ⟨⟨rfl, rfl, rfl, rfl, rfl, trivial⟩, (.one .here (.one (.app .here) (.one (.app .here) (.one (.app (.app .here)) (.one (.app (.app .here)) (.one (.app (.app (.app .here))) (.one (.app (.app (.app .here))) .nil)))))))⟩⟩
      · refine ws_eq _ (q_call (vs := [v36]) (v := agg [.ints .u8 32 (y39)]) rfl (fun w hw => sign_hash_spec (r := y39) (p0 := [(tk y24 0 32), (tk y14 0 32), p1]) ey39 (hG.at hw (by simp)) (rd_own O38 (.there .here) w hw) (.cons (rd_unS ((rd_blk_i (s := [.ints .u8 32 (y24)]) (N := 32) (k := .u8) (base := 0) (lo := 0) (hi := 32) (mz := 32) (.there (.app .here)) rfl (by decide)) w hw)) (.cons (rd_unS ((rd_blk_i (s := [.ints .u8 32 (y14)]) (N := 32) (k := .u8) (base := 0) (lo := 0) (hi := 32) (mz := 32) (.there (.app (.there (.there (.app .here))))) rfl (by decide)) w hw)) (.cons (rd_unS ((rd_arg A1 apart0) w hw)) .nil))))) ?_ (by repeat (first | exact Sup.refl _ | apply Sup.cons | apply Sup.app))
        refine ws_eL rfl (ef_st (q := [.ints .u8 32 (y39)]) rfl rfl rfl rfl rfl .here ?_)
        refine ws_nil ?_
        exact ⟨y39, b40, h, ⟨⟨rfl, rfl, rfl, rfl, rfl, trivial⟩, (.one .here (.one (.app .here) (.one (.app .here) (.one (.app (.app .here)) (.one (.app (.app .here)) (.one (.app (.app (.app .here))) (.one (.app (.app (.app .here))) .nil)))))))⟩⟩
    · refine ws_e1 (ef_bsO (E := El.sl) (xs := [unS (.slice (some (slAddr b25 0 0 32 1)) (32 - 0) (32 - 0)), unS (.slice (some (slAddr b15 0 0 32 1)) (32 - 0) (32 - 0)), unS v1]) (.one rfl (IsSl.cells ⟨_, _, _, rfl⟩) rfl (.one rfl (IsSl.cells ⟨_, _, _, rfl⟩) rfl (.one rfl (IsSl.cells (Shp.isSl (Shp.rd A1))) rfl BdR.nil))) (.cons (p := [.one (.slice (some (slAddr b25 0 0 32 1)) (32 - 0) (32 - 0))]) (sl_cell ⟨_, _, _, rfl⟩) (.cons (p := [.one (.slice (some (slAddr b15 0 0 32 1)) (32 - 0) (32 - 0))]) (sl_cell ⟨_, _, _, rfl⟩) (.cons (p := [.one v1]) (sl_cell (Shp.isSl (Shp.rd A1))) .nil))) rfl fun v36 ms37 O38 => ⟨(by repeat (first | exact Sup.refl _ | apply Sup.cons | apply Sup.app)), ?_⟩)
      refine ws_eq _ (q_call (vs := [v36]) (v := agg [.ints .u8 32 (y39)]) rfl (fun w hw => sign_hash_spec (r := y39) (p0 := [(tk y24 0 32), (tk y14 0 32), p1]) ey39 (hG.at hw (by simp)) (rd_own O38 .here w hw) (.cons (rd_unS ((rd_blk_i (s := [.ints .u8 32 (y24)]) (N := 32) (k := .u8) (base := 0) (lo := 0) (hi := 32) (mz := 32) (.app (.there .here)) rfl (by decide)) w hw)) (.cons (rd_unS ((rd_blk_i (s := [.ints .u8 32 (y14)]) (N := 32) (k := .u8) (base := 0) (lo := 0) (hi := 32) (mz := 32) (.app (.there (.there (.there (.app .here))))) rfl (by decide)) w hw)) (.cons (rd_unS ((rd_arg A1 apart0) w hw)) .nil))))) ?_ (by repeat (first | exact Sup.refl _ | apply Sup.cons | apply Sup.app))
      refine ws_eL rfl (ef_st (q := [.ints .u8 32 (y39)]) rfl rfl rfl rfl rfl (.app .here) ?_)
      refine ws_nil ?_
      exact ⟨y39, b40, h, ⟨⟨rfl, rfl, rfl, rfl, rfl, trivial⟩, (.one (.app .here) (.one (.app .here) (.one (.app .here) (.one (.app (.app .here)) (.one (.app (.app .here)) (.one (.app (.app (.app .here))) (.one (.app (.app (.app .here))) .nil)))))))⟩⟩
  · rintro t m ⟨a33, b32, h, hF⟩
    refine wc_fit hF ?_
    clear hF
    subst qk34
    refine wc_seq ?_
    revert h
    refine opt_i fun y42 ey42 => ?_
    intro h
    refine wc_ops ?_
    refine wj_q _ (q_ld (p := [.ints .u8 32 (a33)]) rfl .here rfl) ?_
    refine wj_q _ (q_ld (p := [.ints .u8 32 (y5.1)]) rfl (.there (.there (.there (.there .here)))) rfl) ?_
    refine wj_q _ (q_ld (p := [.ints .u8 32 (y20)]) rfl (.there (.there .here)) rfl) ?_
    refine wj_q _ (q_call (vs := [agg [.ints .u8 32 (a33)], agg [.ints .u8 32 (y5.1)], agg [.ints .u8 32 (y20)]]) (v := agg [.ints .u8 32 (y42)]) rfl (fun w hw => scalar_MulAdd_spec (r := y42) (p0 := a33) (p1 := y5.1) (p2 := y20) ey42 (hG.at hw (by simp)))) ?_
    refine wj_e (ef_al fun b43 hb43 => ?_)
    refine wj_e (ef_st (q := [.ints .u8 32 (y42)]) rfl rfl rfl rfl rfl .here ?_)
    refine wj_nil ?_
    refine wc_seq ?_
    refine wc_ops ?_
    refine wj_e (ef_al fun b45 hb45 => ?_)
    refine wj_nil ?_
    refine wc_seq ?_
    revert h
    refine bnd_i fun l47 el47 => ?_
    intro h
    refine wc_draw ?_
    refine ws_p1 _ (q_sla rfl .no (.yes rfl) .no (by simp) (by decide)) ?_
    refine ws_p1 _ (q_sla rfl .no .no .no (by simp) (by decide)) ?_
    refine ws_eL rfl (ef_cpyB (q := [.ints .u8 64 (l47)]) (lo := 0) (hi := 32) (mz := 64) (base := 0) (cpy0 el47) rfl rfl (rd_blk_i (s := [.ints .u8 32 (y24)]) (N := 32) (k := .u8) (base := 0) (lo := 0) (hi := 32) (mz := 32) (.there (.there (.there .here))) rfl (by decide)) rfl (by decide) rfl .here ?_)
    refine ws_nil ?_
    refine wc_seq ?_
    revert h
    refine bnd_i fun l49 el49 => ?_
    intro h
    refine wc_draw ?_
    refine ws_p1 _ (q_sla rfl (.yes rfl) .no .no (by simp) (by decide)) ?_
    refine ws_p1 _ (q_sla rfl .no .no .no (by simp) (by decide)) ?_
    refine ws_eL rfl (ef_cpyB (q := [.ints .u8 64 (l49)]) (lo := 32) (hi := 64) (mz := 64) (base := 0) el49 rfl rfl (rd_blk_i (s := [.ints .u8 32 (y42)]) (N := 32) (k := .u8) (base := 0) (lo := 0) (hi := 32) (mz := 32) (.there .here) rfl (by decide)) rfl (by decide) rfl .here ?_)
    refine ws_nil ?_
    refine wc_seq ?_
    refine wc_ops ?_
    refine wj_q _ (q_ld (p := [.ints .u8 64 (l49)]) rfl .here rfl) ?_
    refine wj_e (ef_st (q := [.ints .u8 64 (l49)]) rfl rfl rfl rfl rfl (.there (.there (.there (.there (.there (.there (.there .here))))))) ?_)
    refine wj_nil ?_
    refine wc_ret ?_
    revert h; refine ret_i fun h => ?_
    subst h
    exact ⟨_, (.cons (.agg rfl (.there (.there (.there (.there (.there (.there (.there .here))))))) rfl) .nil), rfl⟩
/- farebox/sign.Public -/
def sign_Public (p0 : List Int) : Option ((List Int)) :=
 opt (sign_halves p0) fun y5 =>
 opt (curve_MulBase y5.1) fun y13 =>
 opt (curve_Encode y13) fun y14 =>
 some y14
theorem sign_Public_spec {W : World} {r : (List Int)} {p0 : List Int} (h : sign_Public p0 = some r) (hG : Globs W) :
    Calls Tryd.prog 10 [agg [.ints .u8 32 (p0)]].toArray W (ret1 W (agg [.ints .u8 32 (r)])) := by
  unfold sign_Public at h
  refine calls_val mo ok10 rfl ?_
  refine wc_seq ?_
  refine wc_ops ?_
  refine wj_e (ef_bx (s := [.ints .u8 32 (p0)]) rfl fun b2 hb2 => ?_)
  refine wj_e (ef_al fun b3 hb3 => ?_)
  refine wj_nil ?_
  refine wc_seq ?_
  revert h
  refine opt_i fun y5 ey5 => ?_
  intro h
  refine wc_ops ?_
  refine wj_q _ (q_ld (p := [.ints .u8 32 (p0)]) rfl (.there .here) rfl) ?_
  refine wj_e (ef_callS0 rfl (fun w hw => sign_halves_spec (r := y5) (p0 := p0) ey5 (hG.at hw (by simp))) fun v6 Msv6 R7 => ?_)
  obtain ⟨v8, ms9, rfl, rfl, O10⟩ := R7
  refine wj_q _ (q_mv rfl) ?_
  refine wj_q _ (q_ext rfl rfl) ?_
  refine wj_q _ (q_ext rfl rfl) ?_
  refine wj_e (ef_al fun b11 hb11 => ?_)
  refine wj_e (ef_st (q := [.ints .u8 32 (y5.1)]) rfl rfl rfl rfl rfl .here ?_)
  refine wj_q _ (q_mv rfl) ?_
  refine wj_nil ?_
  refine wc_seq ?_
  revert h
  refine opt_i fun y13 ey13 => ?_
  refine opt_i fun y14 ey14 => ?_
  intro h
  refine wc_ops ?_
  refine wj_q _ (q_ld (p := [.ints .u8 32 (y5.1)]) rfl .here rfl) ?_
  refine wj_q _ (q_call (vs := [agg [.ints .u8 32 (y5.1)]]) (v := agg [.ints .u64 5 (y13.gX), .ints .u64 5 (y13.gY), .ints .u64 5 (y13.gZ), .ints .u64 5 (y13.gT)]) rfl (fun w hw => curve_MulBase_spec (r := y13) (p0 := y5.1) ey13 )) ?_
  refine wj_q _ (q_call (vs := [agg [.ints .u64 5 (y13.gX), .ints .u64 5 (y13.gY), .ints .u64 5 (y13.gZ), .ints .u64 5 (y13.gT)]]) (v := agg [.ints .u8 32 (y14)]) rfl (fun w hw => curve_Encode_spec (r := y14) (p0 := y13) ey14 )) ?_
  refine wj_e (ef_st (q := [.ints .u8 32 (y14)]) rfl rfl rfl rfl rfl (.there (.app .here)) ?_)
  refine wj_nil ?_
  refine wc_ret ?_
  revert h; refine ret_i fun h => ?_
  subst h
  exact ⟨_, (.cons (.agg rfl (.there (.app .here)) rfl) .nil), rfl⟩
end Go.Proofs.YtiflckckekjbnaaDoor
/- Numbers: bits, digits, and what the words of a mirror come to. -/
namespace Go.Proofs.YtiflckckekjbnaaDoor
open Go Go.Sx Go.RowKit
set_option linter.all false

theorem wu64_eq (x : Int) : IntKind.u64.wrap x = x % 18446744073709551616 := by simp [IntKind.wrap, IntKind.bits, IntKind.signed]
theorem wu8_eq (x : Int) : IntKind.u8.wrap x = x % 256 := by simp [IntKind.wrap, IntKind.bits, IntKind.signed]
theorem wu64_small {x : Int} (h0 : 0 ≤ x) (h1 : x < 18446744073709551616) : IntKind.u64.wrap x = x := by rw [wu64_eq]; omega
theorem wi64_small {x : Int} (h0 : -9223372036854775808 ≤ x) (h1 : x ≤ 9223372036854775807) : IntKind.i64.wrap x = x := by rw [IntKind.wrap_i64]; omega
theorem bv64 (m : Nat) (h : m < 18446744073709551616) : (BitVec.ofInt 64 (m : Int)).toNat = m := by
  rw [BitVec.toNat_ofInt]; simp; omega
theorem bv8 (m : Nat) (h : m < 256) : (BitVec.ofInt 8 (m : Int)).toNat = m := by
  rw [BitVec.toNat_ofInt]; simp; omega
theorem and64 {x y : Int} (m n : Nat) (hx : x = m) (hy : y = n) (h1 : m < 18446744073709551616) (h2 : n < 18446744073709551616) : bitsV .and .u64 x y = ((m &&& n : Nat) : Int) := by
  subst hx; subst hy
  show IntKind.u64.wrap (((BitVec.ofInt 64 (m : Int) &&& BitVec.ofInt 64 (n : Int)).toNat : Nat) : Int) = _
  rw [BitVec.toNat_and, bv64 m h1, bv64 n h2, wu64_small (by omega)]
  have : m &&& n ≤ m := Nat.and_le_left
  omega
theorem or64 {x y : Int} (m n : Nat) (hx : x = m) (hy : y = n) (h1 : m < 18446744073709551616) (h2 : n < 18446744073709551616) : bitsV .or .u64 x y = ((m ||| n : Nat) : Int) := by
  subst hx; subst hy
  show IntKind.u64.wrap (((BitVec.ofInt 64 (m : Int) ||| BitVec.ofInt 64 (n : Int)).toNat : Nat) : Int) = _
  rw [BitVec.toNat_or, bv64 m h1, bv64 n h2, wu64_small (by omega)]
  have : m ||| n < 2 ^ 64 := Nat.or_lt_two_pow (by simpa using h1) (by simpa using h2)
  simp at this; omega
theorem xor64 {x y : Int} (m n : Nat) (hx : x = m) (hy : y = n) (h1 : m < 18446744073709551616) (h2 : n < 18446744073709551616) : bitsV .xor .u64 x y = ((m ^^^ n : Nat) : Int) := by
  subst hx; subst hy
  show IntKind.u64.wrap (((BitVec.ofInt 64 (m : Int) ^^^ BitVec.ofInt 64 (n : Int)).toNat : Nat) : Int) = _
  rw [BitVec.toNat_xor, bv64 m h1, bv64 n h2, wu64_small (by omega)]
  have : m ^^^ n < 2 ^ 64 := Nat.xor_lt_two_pow (by simpa using h1) (by simpa using h2)
  simp at this; omega
theorem and_low (k : Nat) {x y : Int} (hy : y = ((2 ^ k - 1 : Nat) : Int)) (hk : 2 ^ k ≤ 18446744073709551616) (h0 : 0 ≤ x) (h1 : x < 18446744073709551616) : bitsV .and .u64 x y = x % ((2 ^ k : Nat) : Int) := by
  have hp : 0 < 2 ^ k := Nat.pow_pos (by decide)
  rw [and64 x.toNat (2 ^ k - 1) (by omega) hy (by omega) (by omega), Nat.and_two_pow_sub_one_eq_mod]
  rw [Int.natCast_emod]
  congr 1; omega
theorem and51 {x : Int} (h0 : 0 ≤ x) (h1 : x < 18446744073709551616) : bitsV .and .u64 x 2251799813685247 = x % 2251799813685248 := and_low 51 (by decide) (by decide) h0 h1
theorem and32 {x : Int} (h0 : 0 ≤ x) (h1 : x < 18446744073709551616) : bitsV .and .u64 x 4294967295 = x % 4294967296 := and_low 32 (by decide) (by decide) h0 h1
theorem or_add (k : Nat) {x y a : Int} (hx : x = a * ((2 ^ k : Nat) : Int)) (ha : 0 ≤ a) (h0 : 0 ≤ y) (hy : y < ((2 ^ k : Nat) : Int)) (h1 : x + y < 18446744073709551616) : bitsV .or .u64 x y = x + y := by
  have hp : (0 : Int) ≤ ((2 ^ k : Nat) : Int) := Int.natCast_nonneg _
  have hx0 : 0 ≤ x := by rw [hx]; exact Int.mul_nonneg ha hp
  rw [or64 x.toNat y.toNat (by omega) (by omega) (by omega) (by omega)]
  have e : x.toNat = a.toNat <<< k := by
    rw [Nat.shiftLeft_eq]
    have : (x.toNat : Int) = ((a.toNat * 2 ^ k : Nat) : Int) := by
      rw [Int.natCast_mul, Int.toNat_of_nonneg hx0, Int.toNat_of_nonneg ha, hx]
    exact Int.ofNat_inj.1 this
  rw [e, ← Nat.shiftLeft_add_eq_or_of_lt (by omega : y.toNat < 2 ^ k), ← e]
  omega
theorem shr_eq (k : IntKind) {x : Int} {n : Nat} (h : n ≤ k.bits) : shrV k x (n : Int) = x / ((2 ^ n : Nat) : Int) := by
  simp only [shrV, Int.toNat_natCast, Nat.min_eq_left h]
  rw [Int.fdiv_eq_ediv_of_nonneg]
  · simp
  · exact Int.le_of_lt (Int.pow_pos (by decide))
theorem shr51 (x : Int) : shrV .u64 x 51 = x / 2251799813685248 := by have := shr_eq .u64 (x := x) (n := 51) (by decide); simpa using this
theorem shr32 (x : Int) : shrV .u64 x 32 = x / 4294967296 := by have := shr_eq .u64 (x := x) (n := 32) (by decide); simpa using this
theorem shl_eq (k : IntKind) {x : Int} {n : Nat} (h : n ≤ k.bits) : shlV k x (n : Int) = k.wrap (x * ((2 ^ n : Nat) : Int)) := by
  simp only [shlV, Int.toNat_natCast, Nat.min_eq_left h]
  simp
theorem shl13 (x : Int) : shlV .u64 x 13 = (x * 8192) % 18446744073709551616 := by have := shl_eq .u64 (x := x) (n := 13) (by decide); rw [wu64_eq] at this; simpa using this

/-! ## The mirror's words, evaluated -/
section
variable {α β : Type}
/- These two are not to be taken for equations by reduction: the kernel would unfold the loops behind them. -/
theorem bnd_eq (x : α) (f : α → Option β) : bnd x f = f x := by
  have h : ∀ y, y = bnd x f → y = f x := fun y e => e
  exact h _ rfl
theorem chk_t {c : Bool} {o : Option β} (h : c = true) : chk c o = o := by subst h; rfl
theorem opt_some {o : Option α} {f : α → Option β} {y : α} (h : o = some y) : opt o f = f y := by subst h; rfl
theorem br_tt {c : Bool} {a b : Option β} (h : c = true) : br c a b = a := by subst h; rfl
theorem br_ff {c : Bool} {a b : Option β} (h : c = false) : br c a b = b := by subst h; rfl
theorem jn_eq {K : Type} (k : K) (g : K → Option β) : jn k g = g k := by
  have h : ∀ y, y = jn k g → y = g k := fun y e => e
  exact h _ rfl
end
theorem big_succ : ∃ n, big = n + 1 := ⟨18446744073709551615, big_eq⟩
theorem inB_t {z : Int} {n : Nat} (h0 : 0 ≤ z) (h1 : z < n) : inB z n = true := by simp [inB, h0, h1]

/-! ## The number 2^255 - 19, and numbers by five digits of 51 bits -/
abbrev PP : Int := 57896044618658097711785492504343953926634992332820282019728792003956564819949
abbrev M51 : Int := 2251799813685248
def fval (x : List Int) : Int := x.getD 0 0 + x.getD 1 0 * 2251799813685248 + x.getD 2 0 * 5070602400912917605986812821504 + x.getD 3 0 * 11417981541647679048466287755595961091061972992 + x.getD 4 0 * 25711008708143844408671393477458601640355247900524685364822016
/-- Five numbers of 64 bits. -/
structure U5 (x : List Int) : Prop where
  a0 : 0 ≤ x.getD 0 0
  a1 : 0 ≤ x.getD 1 0
  a2 : 0 ≤ x.getD 2 0
  a3 : 0 ≤ x.getD 3 0
  a4 : 0 ≤ x.getD 4 0
  b0 : x.getD 0 0 < 18446744073709551616
  b1 : x.getD 1 0 < 18446744073709551616
  b2 : x.getD 2 0 < 18446744073709551616
  b3 : x.getD 3 0 < 18446744073709551616
  b4 : x.getD 4 0 < 18446744073709551616
/-- The digits of a number. -/
def fdig (n : Int) : List Int := [n % M51, n / M51 % M51, n / (M51 * M51) % M51, n / (M51 * M51 * M51) % M51, n / (M51 * M51 * M51 * M51) % M51]
theorem fdig_unique {n d0 d1 d2 d3 d4 : Int} (h : n = d0 + d1 * 2251799813685248 + d2 * 5070602400912917605986812821504 + d3 * 11417981541647679048466287755595961091061972992 + d4 * 25711008708143844408671393477458601640355247900524685364822016)
    (h0 : 0 ≤ d0 ∧ d0 < 2251799813685248) (h1 : 0 ≤ d1 ∧ d1 < 2251799813685248) (h2 : 0 ≤ d2 ∧ d2 < 2251799813685248) (h3 : 0 ≤ d3 ∧ d3 < 2251799813685248) (h4 : 0 ≤ d4 ∧ d4 < 2251799813685248) : [d0, d1, d2, d3, d4] = fdig n := by
  unfold fdig
  simp only [M51, List.cons.injEq, and_true]
  refine ⟨?_, ?_, ?_, ?_, ?_⟩ <;> omega
theorem fval_fdig {n : Int} (h0 : 0 ≤ n) (h1 : n < PP) : fval (fdig n) = n := by
  simp only [fval, fdig, M51, PP, List.getD_cons_zero, List.getD_cons_succ] at *
  omega
theorem fdig_U5 (n : Int) : U5 (fdig n) := by
  constructor <;> simp only [fdig, M51, List.getD_cons_zero, List.getD_cons_succ] <;> omega
end Go.Proofs.YtiflckckekjbnaaDoor
/- The field: what the mirrors of its functions come to. -/
namespace Go.Proofs.YtiflckckekjbnaaDoor
open Go Go.Sx Go.RowKit
set_option linter.all false
set_option maxRecDepth 100000

def carL (x : List Int) : List Int :=
  [x.getD 0 0 % 2251799813685248 + x.getD 4 0 / 2251799813685248 * 19, x.getD 1 0 % 2251799813685248 + x.getD 0 0 / 2251799813685248, x.getD 2 0 % 2251799813685248 + x.getD 1 0 / 2251799813685248,
   x.getD 3 0 % 2251799813685248 + x.getD 2 0 / 2251799813685248, x.getD 4 0 % 2251799813685248 + x.getD 3 0 / 2251799813685248]
theorem carry_eq {x : List Int} (h : U5 x) : field_carry x = some (carL x) := by
  have ⟨a0, a1, a2, a3, a4, b0, b1, b2, b3, b4⟩ := h
  simp only [field_carry, bnd_eq, shr51, wu64_eq, and51 a0 b0, and51 a1 b1, and51 a2 b2, and51 a3 b3, and51 a4 b4, carL]
  simp only [Option.some.injEq, List.cons.injEq, and_true]
  refine ⟨?_, ?_, ?_, ?_, ?_⟩ <;> omega
/-- Behind a carrying: limbs that are hardly above 51 bits. -/
structure C5 (x : List Int) (e : Int) : Prop where
  a0 : 0 ≤ x.getD 0 0
  a1 : 0 ≤ x.getD 1 0
  a2 : 0 ≤ x.getD 2 0
  a3 : 0 ≤ x.getD 3 0
  a4 : 0 ≤ x.getD 4 0
  b0 : x.getD 0 0 < 2251799813685248 + e
  b1 : x.getD 1 0 < 2251799813685248 + e
  b2 : x.getD 2 0 < 2251799813685248 + e
  b3 : x.getD 3 0 < 2251799813685248 + e
  b4 : x.getD 4 0 < 2251799813685248 + e
theorem C5.u {x : List Int} {e : Int} (h : C5 x e) (he : e ≤ 1125899906842624) : U5 x := by
  have ⟨a0, a1, a2, a3, a4, b0, b1, b2, b3, b4⟩ := h
  constructor <;> omega
theorem car_C {x : List Int} (h : U5 x) : C5 (carL x) 262144 := by
  have ⟨a0, a1, a2, a3, a4, b0, b1, b2, b3, b4⟩ := h
  constructor <;> simp only [carL, List.getD_cons_zero, List.getD_cons_succ] <;> omega
theorem car_C2 {x : List Int} (h : C5 x 262144) : C5 (carL x) 20 := by
  have ⟨a0, a1, a2, a3, a4, b0, b1, b2, b3, b4⟩ := h
  constructor <;> simp only [carL, List.getD_cons_zero, List.getD_cons_succ] <;> omega
theorem car_val {x : List Int} : ∃ q, fval x = fval (carL x) + q * PP := by
  refine ⟨x.getD 4 0 / 2251799813685248, ?_⟩
  simp only [fval, carL, PP, List.getD_cons_zero, List.getD_cons_succ]
  omega
theorem car_mod {x : List Int} : fval (carL x) % PP = fval x % PP := by
  obtain ⟨q, hq⟩ := car_val (x := x)
  rw [hq, Int.add_mul_emod_self_right]
/-- The reduced digits. -/
def fred (x : List Int) : List Int := fdig (fval x % PP)
theorem tk1 (y : List Int) : tk y 1 (5 - 1) = [y.getD 1 0, y.getD 2 0, y.getD 3 0, y.getD 4 0] := rfl
abbrev shw (x : Int) : Int := shrV .u64 x 51
abbrev wuu (x : Int) : Int := IntKind.wrap .u64 x
abbrev low (x : Int) : Int := bitsV .and .u64 x 2251799813685247
def rQ (y1 y2 y3 y4 q : Int) : Int := shw (wuu (y4 + shw (wuu (y3 + shw (wuu (y2 + shw (wuu (y1 + q))))))))
def rr0 (y0 Q : Int) : Int := wuu (y0 + wuu (19 * Q))
theorem red_run (y0 y1 y2 y3 y4 q : Int) : field_reduce_l1 [y0, y1, y2, y3, y4] (fun i46 => field_reduce_l2 (fun a149 => some (setD a149 4 (bitsV .and .u64 (a149.getD 4 0) 2251799813685247))) big 0 (setD [y0, y1, y2, y3, y4] 0 (IntKind.wrap .u64 (y0 + IntKind.wrap .u64 (19 * i46))))) big 0 q =
    some [low (rr0 y0 (rQ y1 y2 y3 y4 q)), low (wuu (y1 + shw (rr0 y0 (rQ y1 y2 y3 y4 q)))), low (wuu (y2 + shw (wuu (y1 + shw (rr0 y0 (rQ y1 y2 y3 y4 q)))))),
      low (wuu (y3 + shw (wuu (y2 + shw (wuu (y1 + shw (rr0 y0 (rQ y1 y2 y3 y4 q)))))))), low (wuu (y4 + shw (wuu (y3 + shw (wuu (y2 + shw (wuu (y1 + shw (rr0 y0 (rQ y1 y2 y3 y4 q)))))))))) ] := by kernel_rfl
theorem list5 {x : List Int} (h : x = [x.getD 0 0, x.getD 1 0, x.getD 2 0, x.getD 3 0, x.getD 4 0]) : True := trivial
theorem q_step {y q : Int} (hy : 0 ≤ y ∧ y < 2251799813685268) (hq : 0 ≤ q ∧ q ≤ 1) : ∃ q' s, shw (wuu (y + q)) = q' ∧ y + q = 2251799813685248 * q' + s ∧ (0 ≤ s ∧ s < 2251799813685248) ∧ (0 ≤ q' ∧ q' ≤ 1) := by
  refine ⟨(y + q) / 2251799813685248, (y + q) % 2251799813685248, ?_, by omega, by omega, by omega⟩
  rw [shw, shr51, wuu, wu64_small (by omega) (by omega)]
theorem r_step {y r : Int} (hy : 0 ≤ y ∧ y < 2251799813685268) (hr : 0 ≤ r ∧ r < 4503599627370496) : ∃ c d r', shw r = c ∧ low r = d ∧ r = 2251799813685248 * c + d ∧ (0 ≤ d ∧ d < 2251799813685248) ∧ wuu (y + c) = r' ∧ r' = y + c ∧ (0 ≤ r' ∧ r' < 4503599627370496) := by
  refine ⟨r / 2251799813685248, r % 2251799813685248, y + r / 2251799813685248, shr51 _, and51 hr.1 (by omega), by omega, by omega, wu64_small (by omega) (by omega), rfl, by omega⟩
theorem red_core {y0 y1 y2 y3 y4 q0 q1 q2 q3 q4 s0 s1 s2 s3 s4 c0 c1 c2 c3 c4 d0 d1 d2 d3 d4 : Int}
    (h0 : y0 + 19 = 2251799813685248 * q0 + s0) (h1 : y1 + q0 = 2251799813685248 * q1 + s1) (h2 : y2 + q1 = 2251799813685248 * q2 + s2) (h3 : y3 + q2 = 2251799813685248 * q3 + s3) (h4 : y4 + q3 = 2251799813685248 * q4 + s4)
    (k0 : y0 + 19 * q4 = 2251799813685248 * c0 + d0) (k1 : y1 + c0 = 2251799813685248 * c1 + d1) (k2 : y2 + c1 = 2251799813685248 * c2 + d2) (k3 : y3 + c2 = 2251799813685248 * c3 + d3) (k4 : y4 + c3 = 2251799813685248 * c4 + d4)
    (t0 : 0 ≤ s0 ∧ s0 < 2251799813685248) (t1 : 0 ≤ s1 ∧ s1 < 2251799813685248) (t2 : 0 ≤ s2 ∧ s2 < 2251799813685248) (t3 : 0 ≤ s3 ∧ s3 < 2251799813685248) (t4 : 0 ≤ s4 ∧ s4 < 2251799813685248)
    (u0 : 0 ≤ d0 ∧ d0 < 2251799813685248) (u1 : 0 ≤ d1 ∧ d1 < 2251799813685248) (u2 : 0 ≤ d2 ∧ d2 < 2251799813685248) (u3 : 0 ≤ d3 ∧ d3 < 2251799813685248) (u4 : 0 ≤ d4 ∧ d4 < 2251799813685248) (hq : 0 ≤ q4 ∧ q4 ≤ 1) (hy : 0 ≤ (y0 + y1 * 2251799813685248 + y2 * 5070602400912917605986812821504 + y3 * 11417981541647679048466287755595961091061972992 + y4 * 25711008708143844408671393477458601640355247900524685364822016) ∧ (y0 + y1 * 2251799813685248 + y2 * 5070602400912917605986812821504 + y3 * 11417981541647679048466287755595961091061972992 + y4 * 25711008708143844408671393477458601640355247900524685364822016) < 115792089237316195423570985008687907853269984665640564039457584007913129639836) :
    (y0 + y1 * 2251799813685248 + y2 * 5070602400912917605986812821504 + y3 * 11417981541647679048466287755595961091061972992 + y4 * 25711008708143844408671393477458601640355247900524685364822016) - q4 * PP = (d0 + d1 * 2251799813685248 + d2 * 5070602400912917605986812821504 + d3 * 11417981541647679048466287755595961091061972992 + d4 * 25711008708143844408671393477458601640355247900524685364822016) ∧ 0 ≤ (d0 + d1 * 2251799813685248 + d2 * 5070602400912917605986812821504 + d3 * 11417981541647679048466287755595961091061972992 + d4 * 25711008708143844408671393477458601640355247900524685364822016) ∧ (d0 + d1 * 2251799813685248 + d2 * 5070602400912917605986812821504 + d3 * 11417981541647679048466287755595961091061972992 + d4 * 25711008708143844408671393477458601640355247900524685364822016) < PP := by
  have e1 : (y0 + y1 * 2251799813685248 + y2 * 5070602400912917605986812821504 + y3 * 11417981541647679048466287755595961091061972992 + y4 * 25711008708143844408671393477458601640355247900524685364822016) + 19 = q4 * 57896044618658097711785492504343953926634992332820282019728792003956564819968 + (s0 + s1 * 2251799813685248 + s2 * 5070602400912917605986812821504 + s3 * 11417981541647679048466287755595961091061972992 + s4 * 25711008708143844408671393477458601640355247900524685364822016) := by omega
  have e2 : (y0 + y1 * 2251799813685248 + y2 * 5070602400912917605986812821504 + y3 * 11417981541647679048466287755595961091061972992 + y4 * 25711008708143844408671393477458601640355247900524685364822016) + 19 * q4 = c4 * 57896044618658097711785492504343953926634992332820282019728792003956564819968 + (d0 + d1 * 2251799813685248 + d2 * 5070602400912917605986812821504 + d3 * 11417981541647679048466287755595961091061972992 + d4 * 25711008708143844408671393477458601640355247900524685364822016) := by omega
  have b1 : 0 ≤ (s0 + s1 * 2251799813685248 + s2 * 5070602400912917605986812821504 + s3 * 11417981541647679048466287755595961091061972992 + s4 * 25711008708143844408671393477458601640355247900524685364822016) ∧ (s0 + s1 * 2251799813685248 + s2 * 5070602400912917605986812821504 + s3 * 11417981541647679048466287755595961091061972992 + s4 * 25711008708143844408671393477458601640355247900524685364822016) < 57896044618658097711785492504343953926634992332820282019728792003956564819968 := by omega
  have b2 : 0 ≤ (d0 + d1 * 2251799813685248 + d2 * 5070602400912917605986812821504 + d3 * 11417981541647679048466287755595961091061972992 + d4 * 25711008708143844408671393477458601640355247900524685364822016) ∧ (d0 + d1 * 2251799813685248 + d2 * 5070602400912917605986812821504 + d3 * 11417981541647679048466287755595961091061972992 + d4 * 25711008708143844408671393477458601640355247900524685364822016) < 57896044618658097711785492504343953926634992332820282019728792003956564819968 := by omega
  generalize (y0 + y1 * 2251799813685248 + y2 * 5070602400912917605986812821504 + y3 * 11417981541647679048466287755595961091061972992 + y4 * 25711008708143844408671393477458601640355247900524685364822016) = V at *
  generalize (d0 + d1 * 2251799813685248 + d2 * 5070602400912917605986812821504 + d3 * 11417981541647679048466287755595961091061972992 + d4 * 25711008708143844408671393477458601640355247900524685364822016) = D at *
  generalize (s0 + s1 * 2251799813685248 + s2 * 5070602400912917605986812821504 + s3 * 11417981541647679048466287755595961091061972992 + s4 * 25711008708143844408671393477458601640355247900524685364822016) = S at *
  clear h0 h1 h2 h3 h4 k0 k1 k2 k3 k4 t0 t1 t2 t3 t4 u0 u1 u2 u3 u4
  simp only [PP]
  have hc : q4 = 0 ∨ q4 = 1 := by omega
  rcases hc with rfl | rfl
  · obtain rfl : c4 = 0 := by omega
    omega
  · obtain rfl : c4 = 1 := by omega
    omega
theorem reduce_eq {x : List Int} (h : U5 x) : field_reduce x = some (fred x) := by
  have h1 := car_C h
  have h2 := car_C2 h1
  have hm : fval (carL (carL x)) % PP = fval x % PP := by rw [car_mod, car_mod]
  rw [field_reduce, opt_some (carry_eq h), opt_some (carry_eq (h1.u (by decide)))]
  unfold fred
  rw [← hm]
  have hl : carL (carL x) = [(carL (carL x)).getD 0 0, (carL (carL x)).getD 1 0, (carL (carL x)).getD 2 0, (carL (carL x)).getD 3 0, (carL (carL x)).getD 4 0] := rfl
  generalize carL (carL x) = y at *
  have ⟨a0, a1, a2, a3, a4, b0, b1, b2, b3, b4⟩ := h2
  simp only [bnd_eq, jn_eq, fval]
  generalize y.getD 0 0 = y0 at *
  generalize y.getD 1 0 = y1 at *
  generalize y.getD 2 0 = y2 at *
  generalize y.getD 3 0 = y3 at *
  generalize y.getD 4 0 = y4 at *
  rw [hl, red_run]
  congr 1
  clear hl h1 h2 hm h
  have e0 : shrV .u64 (IntKind.wrap .u64 (y0 + 19)) 51 = (y0 + 19) / 2251799813685248 := by rw [shr51, wu64_small (by omega) (by omega)]
  obtain ⟨q0, s0, hq0, hs0, hs0', hq0'⟩ : ∃ q s, (y0 + 19) / 2251799813685248 = q ∧ y0 + 19 = 2251799813685248 * q + s ∧ (0 ≤ s ∧ s < 2251799813685248) ∧ (0 ≤ q ∧ q ≤ 1) := ⟨_, (y0 + 19) % 2251799813685248, rfl, by omega, by omega, by omega⟩
  rw [e0, hq0]
  obtain ⟨q1, s1, e1, hs1, hs1', hq1'⟩ := q_step (y := y1) (q := q0) (by omega) hq0'
  obtain ⟨q2, s2, e2, hs2, hs2', hq2'⟩ := q_step (y := y2) (q := q1) (by omega) hq1'
  obtain ⟨q3, s3, e3, hs3, hs3', hq3'⟩ := q_step (y := y3) (q := q2) (by omega) hq2'
  obtain ⟨q4, s4, e4, hs4, hs4', hq4'⟩ := q_step (y := y4) (q := q3) (by omega) hq3'
  have f0 : rr0 y0 q4 = y0 + 19 * q4 := by rw [rr0, wuu, wuu, wu64_small (x := 19 * q4) (by omega) (by omega), wu64_small (by omega) (by omega)]
  have hy : 0 ≤ (y0 + y1 * 2251799813685248 + y2 * 5070602400912917605986812821504 + y3 * 11417981541647679048466287755595961091061972992 + y4 * 25711008708143844408671393477458601640355247900524685364822016) ∧ (y0 + y1 * 2251799813685248 + y2 * 5070602400912917605986812821504 + y3 * 11417981541647679048466287755595961091061972992 + y4 * 25711008708143844408671393477458601640355247900524685364822016) < 115792089237316195423570985008687907853269984665640564039457584007913129639836 := by omega
  unfold rQ
  rw [e1, e2, e3, e4, f0]
  obtain ⟨c0, d0, r1, g0, l0, k0, u0, w1, v1, z1⟩ := r_step (y := y1) (r := y0 + 19 * q4) (by omega) (by omega)
  rw [g0, l0, w1]
  obtain ⟨c1, d1, r2, g1, l1, k1, u1, w2, v2, z2⟩ := r_step (y := y2) (r := r1) (by omega) z1
  rw [g1, l1, w2]
  obtain ⟨c2, d2, r3, g2, l2, k2, u2, w3, v3, z3⟩ := r_step (y := y3) (r := r2) (by omega) z2
  rw [g2, l2, w3]
  obtain ⟨c3, d3, r4, g3, l3, k3, u3, w4, v4, z4⟩ := r_step (y := y4) (r := r3) (by omega) z3
  rw [g3, l3, w4]
  obtain ⟨c4, d4, r5, g4, l4, k4, u4, w5, v5, z5⟩ := r_step (y := y4) (r := r4) (by omega) z4
  rw [l4]
  subst v1 v2 v3 v4
  obtain ⟨hv, hlo⟩ := red_core hs0 hs1 hs2 hs3 hs4 k0 k1 k2 k3 k4 hs0' hs1' hs2' hs3' hs4' u0 u1 u2 u3 u4 hq4' hy
  refine fdig_unique ?_ u0 u1 u2 u3 u4
  rw [← hv] at hlo ⊢
  rw [← Int.emod_eq_of_lt hlo.1 hlo.2, Int.sub_mul_emod_self_right]
end Go.Proofs.YtiflckckekjbnaaDoor
/- The field: products. -/
namespace Go.Proofs.YtiflckckekjbnaaDoor
open Go Go.Sx Go.RowKit
set_option linter.all false
set_option maxRecDepth 100000

theorem mul_bd {a b : Int} {A B : Int} (ha : 0 ≤ a ∧ a ≤ A) (hb : 0 ≤ b ∧ b ≤ B) : 0 ≤ a * b ∧ a * b ≤ A * B :=
  ⟨Int.mul_nonneg ha.1 hb.1, Int.mul_le_mul ha.2 hb.2 hb.1 (Int.le_trans ha.1 ha.2)⟩
theorem mul64_eq {x y : Int} (hx : 0 ≤ x ∧ x < 18446744073709551616) (hy : 0 ≤ y ∧ y < 18446744073709551616) :
    math_bits_Mul64 x y = some (x * y / 18446744073709551616, x * y % 18446744073709551616) := by
  simp only [math_bits_Mul64, bnd_eq, and32 hx.1 hx.2, and32 hy.1 hy.2, shr32]
  have ex : x = x / 4294967296 * 4294967296 + x % 4294967296 := by omega
  have ey : y = y / 4294967296 * 4294967296 + y % 4294967296 := by omega
  have bxl : 0 ≤ x % 4294967296 ∧ x % 4294967296 ≤ 4294967295 := by omega
  have byl : 0 ≤ y % 4294967296 ∧ y % 4294967296 ≤ 4294967295 := by omega
  have bxh : 0 ≤ x / 4294967296 ∧ x / 4294967296 ≤ 4294967295 := by omega
  have byh : 0 ≤ y / 4294967296 ∧ y / 4294967296 ≤ 4294967295 := by omega
  have hxy : x * y = x / 4294967296 * (y / 4294967296) * 18446744073709551616 + (x / 4294967296 * (y % 4294967296) + x % 4294967296 * (y / 4294967296)) * 4294967296 + x % 4294967296 * (y % 4294967296) := by
    conv => lhs; rw [ex, ey]
    generalize x / 4294967296 = a
    generalize x % 4294967296 = b
    generalize y / 4294967296 = c
    generalize y % 4294967296 = d
    grind
  have p00 := mul_bd bxl byl
  have p10 := mul_bd bxh byl
  have p01 := mul_bd bxl byh
  have p11 := mul_bd bxh byh
  rw [hxy]
  generalize x % 4294967296 * (y % 4294967296) = A at *
  generalize x / 4294967296 * (y % 4294967296) = B at *
  generalize x % 4294967296 * (y / 4294967296) = D at *
  generalize x / 4294967296 * (y / 4294967296) = F at *
  clear hxy ex ey bxl byl bxh byh
  rw [wu64_small (x := A) (by omega) (by omega), wu64_small (x := B) (by omega) (by omega), wu64_small (x := D) (by omega) (by omega), wu64_small (x := F) (by omega) (by omega)]
  rw [wu64_small (x := B + A / 4294967296) (by omega) (by omega), and32 (by omega) (by omega)]
  rw [wu64_small (x := (B + A / 4294967296) % 4294967296 + D) (by omega) (by omega), wu64_small (x := F + (B + A / 4294967296) / 4294967296) (by omega) (by omega)]
  rw [wu64_small (by omega) (by omega), wu64_eq]
  congr 1
  refine Prod.ext ?_ rfl
  show F + (B + A / 4294967296) / 4294967296 + ((B + A / 4294967296) % 4294967296 + D) / 4294967296 = _
  omega
/-- A sum of products in two words. -/
def hi64 (s : Int) : Int := s / 18446744073709551616
def lo64 (s : Int) : Int := s % 18446744073709551616
theorem addLo_eq (a b c : Int) : addLo a b c = (a + b + c) % 18446744073709551616 := rfl
theorem addHi_eq (a b c : Int) : addHi a b c = (a + b + c) / 18446744073709551616 := rfl
/-- Two words of a row of numbers stand for s; they get the product. -/
theorem wadd_eq {xs : List Int} {o L : Nat} {s a c : Int} (hs : 0 ≤ s) (h1 : xs.getD o 0 = hi64 s) (h2 : xs.getD (o + 1) 0 = lo64 s) (hL : o + 1 < L) (ha : 0 ≤ a ∧ a < 18446744073709551616) (hc : 0 ≤ c ∧ c < 18446744073709551616)
    (hb : s + a * c < 340282366920938463463374607431768211456) :
    field_wide_add xs o L a c = some (setD (setD xs (o + 1) (lo64 (s + a * c))) o (hi64 (s + a * c))) := by
  have hp := mul_bd (A := 18446744073709551615) (B := 18446744073709551615) (a := a) (b := c) (by omega) (by omega)
  rw [field_wide_add, opt_some (mul64_eq ha hc)]
  rw [chk_t (by simpa using hL)]
  simp only [bnd_eq, h2]
  have e1 : lo64 s + a * c % 18446744073709551616 = lo64 s + a * c % 18446744073709551616 := rfl
  generalize a * c = p at *
  have hlo : 0 ≤ lo64 s ∧ lo64 s < 18446744073709551616 := by unfold lo64; omega
  have hhi : 0 ≤ hi64 s ∧ hi64 s < 18446744073709551616 := by unfold hi64; omega
  rw [chk_t (by simp [addOk]; omega), chk_t (by simpa using hL), chk_t (by simp; omega)]
  simp only [Nat.add_zero, getD_setD]
  rw [if_neg (by omega), h1, chk_t (by simp [addOk, addHi_eq]; omega), chk_t (by simp; omega)]
  simp only [addLo_eq, addHi_eq]
  congr 2
  · congr 1
    unfold lo64; omega
  · unfold hi64 lo64; omega
end Go.Proofs.YtiflckckekjbnaaDoor
