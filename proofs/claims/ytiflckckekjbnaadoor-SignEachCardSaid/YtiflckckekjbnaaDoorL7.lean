/- Mirrors. -/
import Derived.Test.YtiflckckekjbnaaDoorL6
namespace Go.Proofs.YtiflckckekjbnaaDoor
open Go Go.Sx Go.RowKit
set_option linter.all false
set_option maxHeartbeats 400000
set_option maxRecDepth 100000
/- farebox/scalar.split -/
def scalar_split_b1 (p0 : List Int) (k130 : (List (Int)) → Option ((List Int) × (List Int))) (k207 : (List (Int)) → (Int) → Option ((List Int) × (List Int))) (l204 : List (Int)) (i206 : Int) : Option ((List Int) × (List Int)) :=
 br ((decide (i206 < (p0.length : Int)))) (
 chk (inB i206 p0.length) <|
 bnd (p0.getD (i206).toNat 0) fun z213 =>
 bnd (shrV .u64 z213 60) fun z214 =>
 bnd (IntKind.wrap .i64 (i206 + 1)) fun z216 =>
 jn (fun (i224 : Int) => chk (decide ((l204.length + ([i224] : List (Int)).length) * 8 ≤ 140737488355328)) <|
 bnd (l204 ++ ([i224] : List (Int))) fun l238 =>
 bnd (IntKind.wrap .i64 (i206 + 1)) fun z243 =>
 k207 l238 z243) fun k225 => br ((decide (z216 < (p0.length : Int)))) (
 bnd (IntKind.wrap .i64 (i206 + 1)) fun z228 =>
 chk (inB z228 p0.length) <|
 bnd (p0.getD (z228).toNat 0) fun z230 =>
 bnd (shlV .u64 z230 4) fun z231 =>
 bnd (bitsV .or .u64 z214 z231) fun z232 =>
 k225 z232
 ) (
 k225 z214
 )
 ) (
 k130 l204
 )
def scalar_split_l1 (p0 : List Int) (k130 : (List (Int)) → Option ((List Int) × (List Int))) : Nat → (List (Int)) → (Int) → Option ((List Int) × (List Int))
  | 0, _, _ => none
  | n + 1, l204, i206 => scalar_split_b1 p0 k130 (scalar_split_l1 p0 k130 n) l204 i206
def scalar_split (p0 : List Int) : Option ((List Int) × (List Int)) :=
 bnd (wr (List.replicate 4 0) 0 (p0.take 4)) fun l6 =>
 bnd (l6.getD 3 0) fun z8 =>
 bnd (bitsV .and .u64 z8 1152921504606846975) fun z9 =>
 bnd (setD l6 3 z9) fun l10 =>
 jn (fun (l128 : List (Int)) => some (l10, l128)) fun k130 => scalar_split_l1 p0 k130 big [] 3
theorem scalar_split_spec {W : World} {r : (List Int) × (List Int)} {p0 : List Int} {v0 : Value} (h : scalar_split p0 = some r) (A0 : RdSl (El.int .u64) W v0 p0) :
    Calls Tryd.prog 101 [v0].toArray W (retS W [] (fun v Ms => ∃ (u1 : Value) (M1 : List Chunk), v = .tuple #[agg [.ints .u64 4 (r.1)], u1] ∧ Ms = [.all M1] ∧ OwnSl (El.int .u64) u1 M1 r.2)) := by
  unfold scalar_split at h
  refine calls_memT mo ok101 rfl (sat0 _) ?_
  refine wc_seq ?_
  refine wc_ops ?_
  refine wj_e (ef_al fun b2 hb2 => ?_)
  refine wj_q _ (q_mv rfl) ?_
  refine wj_nil ?_
  refine wc_seq ?_
  refine wc_ops ?_
  refine wj_e (ef_al fun b4 hb4 => ?_)
  refine wj_nil ?_
  refine wc_seq ?_
  revert h
  refine bnd_i fun l6 el6 => ?_
  intro h
  refine wc_ops ?_
  refine wj_q _ (q_sla rfl .no .no .no (by simp) (by decide)) ?_
  refine wj_q _ (q_mv rfl) ?_
  refine wj_e (ef_cpyB (q := [.ints .u64 4 (l6)]) (lo := 0) (hi := 4) (mz := 4) (base := 0) (cpy0 el6) rfl rfl (rd_arg A0 apart0) rfl (by decide) rfl .here ?_)
  refine wj_nil ?_
  refine wc_seq ?_
  revert h
  refine bnd_i fun z8 ez8 => ?_
  refine bnd_i fun z9 ez9 => ?_
  refine bnd_i fun l10 el10 => ?_
  intro h
  refine wc_ops ?_
  refine wj_q _ (q_ia rfl rfl (by decide)) ?_
  refine wj_q _ (iz ez8 (q_ld1 rfl .here rfl)) ?_
  refine wj_q _ (iz ez9 (q_bin rfl rfl rfl)) ?_
  refine wj_q _ (q_ia rfl rfl (by decide)) ?_
  refine wj_e (ef_st1z (q := [.ints .u64 4 (l10)]) (congrArg (fun z => ([.ints .u64 4 (z)] : List Seg)) el10.symm) rfl rfl rfl rfl .here ?_)
  refine wj_nil ?_
  refine wc_seq ?_
  refine wc_ops ?_
  refine wj_q _ (q_mv rfl) ?_
  refine wj_nil ?_
  refine wc_seq ?_
  refine wc_seq ?_
  refine wc_ops ?_
  refine wj_q _ (q_mv rfl) ?_
  refine wj_nil ?_
  revert h
  refine jn_i fun k130 qk130 => ?_
  intro h
  refine wc_mono2 (G := fun t m => ∃ (l128 : List (Int)) (v126 : Value) (ms127 : List Chunk), k130 l128 = some r ∧ OwnSl (El.int .u64) v126 ms127 l128 ∧ Fit [(2, .pointer (some ⟨b2, 0, none⟩)), (4, .pointer (some ⟨b4, 0, none⟩)), (5, v126)] (ck b4 93 [.ints .u64 4 (l10)] :: (ck b2 93 [.ints .u64 4 ((List.replicate 4 0))] :: (ms127 ++ []))) t m) ?_ ?_
  · refine wc_block ?_
    refine wc_loopJ (fun n208 t m => ∃ (l204 : List (Int)) (i206 : Int) (v202 : Value) (ms203 : List Chunk), scalar_split_l1 p0 k130 n208 l204 i206 = some r ∧ OwnSl (El.int .u64) v202 ms203 l204 ∧ Fit [(0, v0), (2, .pointer (some ⟨b2, 0, none⟩)), (4, .pointer (some ⟨b4, 0, none⟩)), (5, v202), (6, .int .i64 (i206))] (ck b4 93 [.ints .u64 4 (l10)] :: (ck b2 93 [.ints .u64 4 ((List.replicate 4 0))] :: (ms203 ++ []))) t m) big ?_ ?_
    · exact ⟨[], 3, (.slice none 0 0), [], h, own_nil, ⟨⟨rfl, rfl, rfl, rfl, rfl, trivial⟩, (.one .here (.one .here (.no .nil)))⟩⟩
    · rintro n208 t m ⟨l204, i206, v202, ms203, h, O205, hF⟩
      refine wc_fit hF ?_
      clear hF
      rcases n208 with _ | n208
      · exact none_i h
      have h : scalar_split_b1 p0 k130 (scalar_split_l1 p0 k130 n208) l204 i206 = some r := h
      unfold scalar_split_b1 at h
      obtain ⟨k207, qk207⟩ : ∃ k, k = scalar_split_l1 p0 k130 n208 := ⟨_, rfl⟩
      try rw [← qk207] at h
      refine wc_seq ?_
      refine wc_seq ?_
      refine wc_ops ?_
      refine wj_q _ (q_mv rfl) ?_
      refine wj_q _ (q_mv rfl) ?_
      refine wj_q _ (q_lenP rfl (Shp.rd A0)) ?_
      refine wj_q _ (q_bin rfl rfl rfl) ?_
      refine wj_nil ?_
      refine wc_if (c := (decide (i206 < (p0.length : Int)))) rfl (fun d210 => ?_) (fun d210 => ?_)
      · have h := br_t h d210
        refine wc_skip ?_
        refine wc_seq ?_
        refine wc_block ?_
        refine wc_seq ?_
        revert h
        refine chk_i fun c212 => ?_
        refine bnd_i fun z213 ez213 => ?_
        refine bnd_i fun z214 ez214 => ?_
        intro h
        refine wc_ops ?_
        refine wj_q _ (q_mv rfl) ?_
        refine wj_q _ (q_mv rfl) ?_
        refine wj_q _ (q_iasP rfl rfl (Shp.rd A0) c212) ?_
        refine wj_q _ (iz ez213 (q_ldM10 (E := (El.int .u64)) (s := [.one (.int .u64 (p0.getD (i206).toNat 0))]) rfl (rd_arg A0 apart0) (inB_n c212) rfl rfl)) ?_
        refine wj_q _ (iz ez214 (q_shr rfl rfl (by decide))) ?_
        refine wj_q _ (q_mv rfl) ?_
        refine wj_nil ?_
        refine wc_seq ?_
        refine wc_seq ?_
        revert h
        refine bnd_i fun z216 ez216 => ?_
        intro h
        refine wc_ops ?_
        refine wj_q _ (q_mv rfl) ?_
        refine wj_q _ (iz ez216 (q_bin rfl rfl rfl)) ?_
        refine wj_q _ (q_mv rfl) ?_
        refine wj_q _ (q_lenP rfl (Shp.rd A0)) ?_
        refine wj_q _ (q_bin rfl rfl rfl) ?_
        refine wj_nil ?_
        revert h
        refine jn_i fun k225 qk225 => ?_
        intro h
        refine wc_mono2 (G := fun t m => ∃ (i224 : Int), k225 i224 = some r ∧ Fit [(0, v0), (2, .pointer (some ⟨b2, 0, none⟩)), (4, .pointer (some ⟨b4, 0, none⟩)), (5, v202), (6, .int .i64 (i206)), (7, .int .u64 (i224))] (ck b4 93 [.ints .u64 4 (l10)] :: (ck b2 93 [.ints .u64 4 ((List.replicate 4 0))] :: (ms203 ++ []))) t m) ?_ ?_
        · refine wc_if (c := (decide (z216 < (p0.length : Int)))) rfl (fun d226 => ?_) (fun d226 => ?_)
          · have h := br_t h d226
            revert h
            refine bnd_i fun z228 ez228 => ?_
            refine chk_i fun c229 => ?_
            refine bnd_i fun z230 ez230 => ?_
            refine bnd_i fun z231 ez231 => ?_
            refine bnd_i fun z232 ez232 => ?_
            intro h
            refine wc_ops ?_
            refine wj_q _ (q_mv rfl) ?_
            refine wj_q _ (q_mv rfl) ?_
            refine wj_q _ (q_mv rfl) ?_
            refine wj_q _ (iz ez228 (q_bin rfl rfl rfl)) ?_
            refine wj_q _ (q_iasP rfl rfl (Shp.rd A0) c229) ?_
            refine wj_q _ (iz ez230 (q_ldM10 (E := (El.int .u64)) (s := [.one (.int .u64 (p0.getD (z228).toNat 0))]) rfl (rd_arg A0 apart0) (inB_n c229) rfl rfl)) ?_
            refine wj_q _ (iz ez231 (q_shl rfl rfl (by decide))) ?_
            refine wj_q _ (iz ez232 (q_bin rfl rfl rfl)) ?_
            refine wj_q _ (q_mv rfl) ?_
            refine wj_nil ?_
            exact ⟨z232, h, ⟨⟨rfl, rfl, rfl, rfl, rfl, rfl, trivial⟩, (.one .here (.one .here (.all .here .nil)))⟩⟩
          · have h := br_f h d226
            refine wc_skip ?_
            exact ⟨z214, h, ⟨⟨rfl, rfl, rfl, rfl, rfl, rfl, trivial⟩, (.one .here (.one .here (.all .here .nil)))⟩⟩
        · rintro t m ⟨i224, h, hF⟩
          refine wc_fit hF ?_
          clear hF
          subst qk225
          revert h
          refine chk_i fun c237 => ?_
          refine bnd_i fun l238 el238 => ?_
          intro h
          refine wc_ops ?_
          refine wj_q _ (q_mv rfl) ?_
          refine wj_q _ (q_mv rfl) ?_
          refine wj_e (ef_bsO (E := (El.int .u64)) (xs := [i224]) (.one rfl rfl rfl BdR.nil) (.cons (p := [.one (.int .u64 (i224))]) rfl .nil) rfl fun v234 ms235 O236 => ?_)
          refine wj_e (ef_appO (E := (El.int .u64)) el238 rfl O205 (.app (.there (.there .here))) rfl (rd_own O236 .here) c237 fun v239 ms240 O241 => ?_)
          refine wj_q _ (q_mv rfl) ?_
          refine wj_nil ?_
          revert h
          refine bnd_i fun z243 ez243 => ?_
          intro h
          refine wc_ops ?_
          refine wj_q _ (q_mv rfl) ?_
          refine wj_q _ (iz ez243 (q_bin rfl rfl rfl)) ?_
          refine wj_q _ (q_mv rfl) ?_
          refine wj_nil ?_
          rw [qk207] at h
          exact ⟨n208, Nat.lt_succ_self _, l238, z243, v239, ms240, h, O241, ⟨⟨rfl, rfl, rfl, rfl, rfl, trivial⟩, (.one (.app (.app .here)) (.one (.app (.app .here)) (.all .here .nil)))⟩⟩
      · have h := br_f h d210
        refine wc_exit _ rfl ?_
        exact ⟨l204, v202, ms203, h, O205, ⟨⟨rfl, rfl, rfl, trivial⟩, (.one .here (.one .here (.all .here .nil)))⟩⟩
  · rintro t m ⟨l128, v126, ms127, h, O129, hF⟩
    refine wc_fit hF ?_
    clear hF
    subst qk130
    refine wc_seq ?_
    refine wc_ops ?_
    refine wj_q _ (q_ld (p := [.ints .u64 4 (l10)]) rfl .here rfl) ?_
    refine wj_q _ (q_mv rfl) ?_
    refine wj_e (ef_st (q := [.ints .u64 4 (l10)]) rfl rfl rfl rfl rfl (.there .here) ?_)
    refine wj_q _ (q_mv rfl) ?_
    refine wj_nil ?_
    refine wc_ret ?_
    revert h; refine ret_i fun h => ?_
    subst h
    exact ⟨_, _, (.cons (.agg rfl (.there .here) rfl) (.cons (.tmp rfl) .nil)), (.all (.there (.there .here)) .nil), ⟨_, rfl, ⟨v126, ms127, rfl, rfl, O129⟩⟩⟩
/- farebox/scalar.rest -/
def scalar_rest  : Option ((List Int)) :=
 some ([6346243789798364141, 1503914060200516822] : List (Int))
theorem scalar_rest_spec {W : World} {r : (List Int)} (h : scalar_rest  = some r)  :
    Calls Tryd.prog 102 [].toArray W (retS W [] (fun v Ms => ∃ (u0 : Value) (M0 : List Chunk), v = u0 ∧ Ms = [.all M0] ∧ OwnSl (El.int .u64) u0 M0 r)) := by
  unfold scalar_rest at h
  refine calls_memT mo ok102 rfl (sat0 _) ?_
  refine wc_seq ?_
  refine wc_ops ?_
  refine wj_q _ (q_mv rfl) ?_
  refine wj_nil ?_
  refine wc_seq ?_
  refine wc_ops ?_
  refine wj_e (ef_bsO (E := (El.int .u64)) (xs := [6346243789798364141, 1503914060200516822]) (.one rfl rfl rfl (.one rfl rfl rfl BdR.nil)) (.cons (p := [.one (.int .u64 (6346243789798364141))]) rfl (.cons (p := [.one (.int .u64 (1503914060200516822))]) rfl .nil)) rfl fun v3 ms4 O5 => ?_)
  refine wj_q _ (q_mv rfl) ?_
  refine wj_nil ?_
  refine wc_ret ?_
  revert h; refine ret_i fun h => ?_
  subst h
  exact ⟨_, _, (.cons (.tmp rfl) .nil), (.all .here .nil), ⟨_, rfl, ⟨v3, ms4, rfl, rfl, O5⟩⟩⟩
/- farebox/scalar.reduce -/
abbrev E_a4_El_int_u64 : El (List Int) := ⟨4, fun x => cells [.ints .u64 4 (x)], fun x => by rw [cells_length]; rfl, fun x => (ones_cons ones_ints ones_nil), by decide, (List.replicate 4 0)⟩
def scalar_reduce_b1 (k122 : (List (List Int)) → Option ((List Int))) (k201 : (List (Int)) → (Int) → (List (List Int)) → Option ((List Int))) (l196 : List (Int)) (i199 : Int) (a200 : List (List Int)) : Option ((List Int)) :=
 br ((decide (i199 < 4))) (
 opt (scalar_split l196) fun y209 =>
 bnd (Int.tmod i199 2) fun z216 =>
 bnd (Int.tmod i199 2) fun z217 =>
 chk (inB z217 2) <|
 bnd (a200.getD (z217).toNat (List.replicate 4 0)) fun x219 =>
 opt (scalar_plus x219 y209.1) fun y220 =>
 chk (inB z216 2) <|
 bnd (setG (List.replicate 4 0) a200 (z216).toNat y220.1) fun l222 =>
 opt (scalar_rest ) fun y224 =>
 opt (scalar_times y209.2 y224) fun y230 =>
 bnd (IntKind.wrap .i64 (i199 + 1)) fun z237 =>
 k201 y230 z237 l222
 ) (
 k122 a200
 )
def scalar_reduce_l1 (k122 : (List (List Int)) → Option ((List Int))) : Nat → (List (Int)) → (Int) → (List (List Int)) → Option ((List Int))
  | 0, _, _, _ => none
  | n + 1, l196, i199, a200 => scalar_reduce_b1 k122 (scalar_reduce_l1 k122 n) l196 i199 a200
def scalar_reduce (p0 : List Int) : Option ((List Int)) :=
 jn (fun (a121 : List (List Int)) => opt (scalar_plus G_order G_order) fun y239 =>
 bnd (a121.getD 0 (List.replicate 4 0)) fun x242 =>
 opt (scalar_plus x242 y239.1) fun y243 =>
 bnd (a121.getD 1 (List.replicate 4 0)) fun x246 =>
 opt (scalar_minus y243.1 x246) fun y247 =>
 opt (scalar_below y247.1) fun y249 =>
 some y249) fun k122 => scalar_reduce_l1 k122 big p0 0 (List.replicate 2 (List.replicate 4 0))
theorem scalar_reduce_spec {W : World} {r : (List Int)} {p0 : List Int} {v0 : Value} (h : scalar_reduce p0 = some r) (hG : Globs W) (A0 : RdSl (El.int .u64) W v0 p0) :
    Calls Tryd.prog 83 [v0].toArray W (ret1 W (agg [.ints .u64 4 (r)])) := by
  unfold scalar_reduce at h
  refine calls_val mo ok83 rfl ?_
  refine wc_seq ?_
  refine wc_ops ?_
  refine wj_e (ef_al fun b2 hb2 => ?_)
  refine wj_nil ?_
  refine wc_seq ?_
  refine wc_ops ?_
  refine wj_e (ef_al2 (z' := [.rows 4 2 (rowE E_a4_El_int_u64 ((List.replicate 2 (List.replicate 4 0))))]) (alz_rows (E := E_a4_El_int_u64) rfl rfl) fun b4 hb4 => ?_)
  refine wj_nil ?_
  refine wc_seq ?_
  refine wc_seq ?_
  refine wc_ops ?_
  refine wj_q _ (q_mv rfl) ?_
  refine wj_nil ?_
  revert h
  refine jn_i fun k122 qk122 => ?_
  intro h
  refine wc_mono2 (G := fun t m => ∃ (a121 : List (List Int)), k122 a121 = some r ∧ Fit [(2, .pointer (some ⟨b2, 0, none⟩)), (3, .pointer (some ⟨b4, 0, none⟩))] (ck b4 158 [.rows 4 2 (rowE E_a4_El_int_u64 (a121))] :: (ck b2 93 [.ints .u64 4 ((List.replicate 4 0))] :: [])) t m) ?_ ?_
  · refine wc_block ?_
    refine wc_loopJ (fun n202 t m => ∃ (l196 : List (Int)) (i199 : Int) (a200 : List (List Int)) (v194 : Value) (ms195 : List Chunk), scalar_reduce_l1 k122 n202 l196 i199 a200 = some r ∧ SrcM (⟨Tryd.prog, d83.n, W, []⟩ : Cfg) ms195 (El.int .u64) v194 l196 ∧ Shp v194 l196.length ∧ Fit [(0, v194), (2, .pointer (some ⟨b2, 0, none⟩)), (3, .pointer (some ⟨b4, 0, none⟩)), (10, .int .i64 (i199))] (ck b4 158 [.rows 4 2 (rowE E_a4_El_int_u64 (a200))] :: (ck b2 93 [.ints .u64 4 ((List.replicate 4 0))] :: (ms195 ++ []))) t m) big ?_ ?_
    · exact ⟨p0, 0, (List.replicate 2 (List.replicate 4 0)), v0, [], h, (rd_arg A0 apart0), (Shp.rd A0), ⟨⟨rfl, rfl, rfl, rfl, trivial⟩, (.one .here (.one .here (.no .nil)))⟩⟩
    · rintro n202 t m ⟨l196, i199, a200, v194, ms195, h, H197, Z198, hF⟩
      refine wc_fit hF ?_
      clear hF
      rcases n202 with _ | n202
      · exact none_i h
      have h : scalar_reduce_b1 k122 (scalar_reduce_l1 k122 n202) l196 i199 a200 = some r := h
      unfold scalar_reduce_b1 at h
      obtain ⟨k201, qk201⟩ : ∃ k, k = scalar_reduce_l1 k122 n202 := ⟨_, rfl⟩
      try rw [← qk201] at h
      refine wc_seq ?_
      refine wc_ops ?_
      refine wj_q _ (q_bin rfl rfl rfl) ?_
      refine wj_nil ?_
      refine wc_seq ?_
      refine wc_if (c := (decide (i199 < 4))) rfl (fun d204 => ?_) (fun d204 => ?_)
      · have h := br_t h d204
        refine wc_skip ?_
        refine wc_seq ?_
        refine wc_block ?_
        refine wc_seq ?_
        refine wc_ops ?_
        refine wj_q _ (q_mv rfl) ?_
        refine wj_q _ (q_mv rfl) ?_
        refine wj_nil ?_
        refine wc_seq ?_
        refine wc_ops ?_
        refine wj_e (ef_al fun b207 hb207 => ?_)
        refine wj_nil ?_
        refine wc_seq ?_
        revert h
        refine opt_i fun y209 ey209 => ?_
        intro h
        refine wc_ops ?_
        refine wj_q _ (q_mv rfl) ?_
        refine wj_e (ef_callS0 rfl (fun w hw => scalar_split_spec (r := y209) (p0 := l196) ey209 ((rd_in H197 (.there (.there (.there .here)))) w hw)) fun v210 Msv210 R211 => ?_)
        obtain ⟨v212, ms213, rfl, rfl, O214⟩ := R211
        refine wj_q _ (q_mv rfl) ?_
        refine wj_q _ (q_ext rfl rfl) ?_
        refine wj_q _ (q_ext rfl rfl) ?_
        refine wj_e (ef_st (q := [.ints .u64 4 (y209.1)]) rfl rfl rfl rfl rfl (.app .here) ?_)
        refine wj_q _ (q_mv rfl) ?_
        refine wj_nil ?_
        refine wc_seq ?_
        revert h
        refine bnd_i fun z216 ez216 => ?_
        refine bnd_i fun z217 ez217 => ?_
        refine chk_i fun c218 => ?_
        refine bnd_i fun x219 ex219 => ?_
        refine opt_i fun y220 ey220 => ?_
        refine chk_i fun c221 => ?_
        refine bnd_i fun l222 el222 => ?_
        intro h
        refine wc_draw ?_
        refine ws_p1 _ (q_mv rfl) ?_
        refine ws_p1 _ (iz ez216 (q_rem rfl rfl (by decide))) ?_
        refine ws_p1 _ (q_mv rfl) ?_
        refine ws_p1 _ (iz ez217 (q_rem rfl rfl (by decide))) ?_
        refine ws_p1 _ (q_ia rfl rfl (inB_z c218)) ?_
        refine ws_q1 _ (az (fun x219 => agg [.ints .u64 4 (x219)]) ex219 (q_ldr0 (base := 0) (w := 4) rfl (.app (.there .here)) rfl (inB_n c218) rfl rfl rfl)) ?_
        refine ws_q1 _ (q_ld (p := [.ints .u64 4 (y209.1)]) rfl (.app .here) rfl) ?_
        refine ws_p1 _ (q_call (vs := [agg [.ints .u64 4 (x219)], agg [.ints .u64 4 (y209.1)]]) (v := .tuple #[agg [.ints .u64 4 (y220.1)], .int .u64 (y220.2)]) rfl (fun w hw => scalar_plus_spec (r := y220) (p0 := x219) (p1 := y209.1) ey220 )) ?_
        refine ws_p1 _ (q_mv rfl) ?_
        refine ws_p1 _ (q_ext rfl rfl) ?_
        refine ws_p1 _ (q_ext rfl rfl) ?_
        refine ws_p1 _ (q_ia rfl rfl (inB_z c221)) ?_
        refine ws_eL rfl (ef_strz (q := [.rows 4 2 (rowE E_a4_El_int_u64 (l222))]) (E := E_a4_El_int_u64) (base := 0) el222 rfl rfl rfl rfl (inB_n c221) rfl (.app (.there .here)) ?_)
        refine ws_nil ?_
        revert h
        refine opt_i fun y224 ey224 => ?_
        refine opt_i fun y230 ey230 => ?_
        intro h
        refine wc_ops ?_
        refine wj_q _ (q_mv rfl) ?_
        refine wj_e (ef_callS0 rfl (fun w hw => scalar_rest_spec (r := y224) ey224 ) fun v225 Msv225 R226 => ?_)
        obtain ⟨_, ms228, rfl, rfl, O229⟩ := R226
        refine wj_e (ef_callS0 rfl (fun w hw => scalar_times_spec (r := y230) (p0 := y209.2) (p1 := y224) ey230 ((rd_own O214 (.app .here)) w hw) ((rd_own O229 .here) w hw)) fun v231 Msv231 R232 => ?_)
        obtain ⟨_, ms234, rfl, rfl, O235⟩ := R232
        refine wj_q _ (q_mv rfl) ?_
        refine wj_nil ?_
        revert h
        refine bnd_i fun z237 ez237 => ?_
        intro h
        refine wc_ops ?_
        refine wj_q _ (iz ez237 (q_bin rfl rfl rfl)) ?_
        refine wj_q _ (q_mv rfl) ?_
        refine wj_nil ?_
        rw [qk201] at h
        exact ⟨n202, Nat.lt_succ_self _, y230, z237, l222, v231, ms234, h, (rd_ownm O235), (Shp.own O235), ⟨⟨rfl, rfl, rfl, rfl, trivial⟩, (.one (.app (.app (.app (.there .here)))) (.one (.app (.app (.app (.there .here)))) (.all .here .nil)))⟩⟩
      · have h := br_f h d204
        refine wc_exit _ rfl ?_
        exact ⟨a200, h, ⟨⟨rfl, rfl, trivial⟩, (.one .here (.one .here .nil))⟩⟩
  · rintro t m ⟨a121, h, hF⟩
    refine wc_fit hF ?_
    clear hF
    subst qk122
    refine wc_seq ?_
    revert h
    refine opt_i fun y239 ey239 => ?_
    intro h
    refine wc_ops ?_
    refine wj_q _ (q_mem (o0 := 0) (off := 0) rfl (hG.g0) (by simp) rfl) ?_
    refine wj_q _ (q_mem (o0 := 0) (off := 0) rfl (hG.g0) (by simp) rfl) ?_
    refine wj_q _ (q_call (vs := [agg [.ints .u64 4 (G_order)], agg [.ints .u64 4 (G_order)]]) (v := .tuple #[agg [.ints .u64 4 (y239.1)], .int .u64 (y239.2)]) rfl (fun w hw => scalar_plus_spec (r := y239) (p0 := G_order) (p1 := G_order) ey239 )) ?_
    refine wj_q _ (q_mv rfl) ?_
    refine wj_q _ (q_ext rfl rfl) ?_
    refine wj_q _ (q_ext rfl rfl) ?_
    refine wj_e (ef_al fun b240 hb240 => ?_)
    refine wj_e (ef_st (q := [.ints .u64 4 (y239.1)]) rfl rfl rfl rfl rfl .here ?_)
    refine wj_q _ (q_mv rfl) ?_
    refine wj_nil ?_
    refine wc_seq ?_
    revert h
    refine bnd_i fun x242 ex242 => ?_
    refine opt_i fun y243 ey243 => ?_
    intro h
    refine wc_ops ?_
    refine wj_q _ (q_ia rfl rfl (by decide)) ?_
    refine wj_q _ (az (fun x242 => agg [.ints .u64 4 (x242)]) ex242 (q_ldr (base := 0) (i := 0) (c := 0) (w := 4) (len := 2) rfl (.there .here) rfl (by decide) rfl rfl rfl)) ?_
    refine wj_q _ (q_ld (p := [.ints .u64 4 (y239.1)]) rfl .here rfl) ?_
    refine wj_q _ (q_call (vs := [agg [.ints .u64 4 (x242)], agg [.ints .u64 4 (y239.1)]]) (v := .tuple #[agg [.ints .u64 4 (y243.1)], .int .u64 (y243.2)]) rfl (fun w hw => scalar_plus_spec (r := y243) (p0 := x242) (p1 := y239.1) ey243 )) ?_
    refine wj_q _ (q_mv rfl) ?_
    refine wj_q _ (q_ext rfl rfl) ?_
    refine wj_q _ (q_ext rfl rfl) ?_
    refine wj_e (ef_al fun b244 hb244 => ?_)
    refine wj_e (ef_st (q := [.ints .u64 4 (y243.1)]) rfl rfl rfl rfl rfl .here ?_)
    refine wj_q _ (q_mv rfl) ?_
    refine wj_nil ?_
    refine wc_seq ?_
    revert h
    refine bnd_i fun x246 ex246 => ?_
    refine opt_i fun y247 ey247 => ?_
    intro h
    refine wc_ops ?_
    refine wj_q _ (q_ld (p := [.ints .u64 4 (y243.1)]) rfl .here rfl) ?_
    refine wj_q _ (q_ia rfl rfl (by decide)) ?_
    refine wj_q _ (az (fun x246 => agg [.ints .u64 4 (x246)]) ex246 (q_ldr (base := 0) (i := 1) (c := 0) (w := 4) (len := 2) rfl (.there (.there .here)) rfl (by decide) rfl rfl rfl)) ?_
    refine wj_q _ (q_call (vs := [agg [.ints .u64 4 (y243.1)], agg [.ints .u64 4 (x246)]]) (v := .tuple #[agg [.ints .u64 4 (y247.1)], .int .u64 (y247.2)]) rfl (fun w hw => scalar_minus_spec (r := y247) (p0 := y243.1) (p1 := x246) ey247 )) ?_
    refine wj_q _ (q_mv rfl) ?_
    refine wj_q _ (q_ext rfl rfl) ?_
    refine wj_q _ (q_ext rfl rfl) ?_
    refine wj_e (ef_st (q := [.ints .u64 4 (y247.1)]) rfl rfl rfl rfl rfl .here ?_)
    refine wj_nil ?_
    refine wc_seq ?_
    revert h
    refine opt_i fun y249 ey249 => ?_
    intro h
    refine wc_ops ?_
    refine wj_q _ (q_ld (p := [.ints .u64 4 (y247.1)]) rfl .here rfl) ?_
    refine wj_q _ (q_call (vs := [agg [.ints .u64 4 (y247.1)]]) (v := agg [.ints .u64 4 (y249)]) rfl (fun w hw => scalar_below_spec (r := y249) (p0 := y247.1) ey249 (hG.at hw (by simp)))) ?_
    refine wj_e (ef_st (q := [.ints .u64 4 (y249)]) rfl rfl rfl rfl rfl (.there (.there (.there .here))) ?_)
    refine wj_nil ?_
    refine wc_ret ?_
    revert h; refine ret_i fun h => ?_
    subst h
    exact ⟨_, (.cons (.agg rfl (.there (.there (.there .here))) rfl) .nil), rfl⟩
/- farebox/scalar.Reduce -/
def scalar_Reduce_b1 (p0 : List Int) (k40 : (List Int) → Option ((List Int))) (k61 : (Int) → (List Int) → Option ((List Int))) (i59 : Int) (a60 : List Int) : Option ((List Int)) :=
 br ((decide (i59 < 8))) (
 bnd (IntKind.wrap .i64 (8 * i59)) fun z67 =>
 opt (bits_LoadLE_uint64 (tk p0 0 64) z67) fun y68 =>
 chk (inB i59 8) <|
 bnd (setD a60 (i59).toNat y68.1) fun l70 =>
 bnd (IntKind.wrap .i64 (i59 + 1)) fun z72 =>
 k61 z72 l70
 ) (
 k40 a60
 )
def scalar_Reduce_l1 (p0 : List Int) (k40 : (List Int) → Option ((List Int))) : Nat → (Int) → (List Int) → Option ((List Int))
  | 0, _, _ => none
  | n + 1, i59, a60 => scalar_Reduce_b1 p0 k40 (scalar_Reduce_l1 p0 k40 n) i59 a60
def scalar_Reduce (p0 : List Int) : Option ((List Int)) :=
 jn (fun (a39 : List Int) => opt (scalar_reduce (tk a39 0 8)) fun y74 =>
 opt (scalar_store y74) fun y75 =>
 some y75) fun k40 => scalar_Reduce_l1 p0 k40 big 0 (List.replicate 8 0)
theorem scalar_Reduce_spec {W : World} {r : (List Int)} {p0 : List Int} (h : scalar_Reduce p0 = some r) (hG : Globs W) :
    Calls Tryd.prog 47 [agg [.ints .u8 64 (p0)]].toArray W (ret1 W (agg [.ints .u8 32 (r)])) := by
  unfold scalar_Reduce at h
  refine calls_val mo ok47 rfl ?_
  refine wc_seq ?_
  refine wc_ops ?_
  refine wj_e (ef_bx (s := [.ints .u8 64 (p0)]) rfl fun b2 hb2 => ?_)
  refine wj_e (ef_al fun b3 hb3 => ?_)
  refine wj_nil ?_
  refine wc_seq ?_
  refine wc_ops ?_
  refine wj_e (ef_al fun b5 hb5 => ?_)
  refine wj_nil ?_
  refine wc_seq ?_
  refine wc_seq ?_
  refine wc_ops ?_
  refine wj_q _ (q_mv rfl) ?_
  refine wj_nil ?_
  revert h
  refine jn_i fun k40 qk40 => ?_
  intro h
  refine wc_mono2 (G := fun t m => ∃ (a39 : List Int), k40 a39 = some r ∧ Fit [(2, .pointer (some ⟨b3, 0, none⟩)), (3, .pointer (some ⟨b5, 0, none⟩))] (ck b5 135 [.ints .u64 8 (a39)] :: (ck b3 63 [.ints .u8 32 ((List.replicate 32 0))] :: (ck b2 101 [.ints .u8 64 (p0)] :: []))) t m) ?_ ?_
  · refine wc_block ?_
    refine wc_loopJ (fun n62 t m => ∃ (i59 : Int) (a60 : List Int), scalar_Reduce_l1 p0 k40 n62 i59 a60 = some r ∧ Fit [(1, .pointer (some ⟨b2, 0, none⟩)), (2, .pointer (some ⟨b3, 0, none⟩)), (3, .pointer (some ⟨b5, 0, none⟩)), (5, .int .i64 (i59))] (ck b5 135 [.ints .u64 8 (a60)] :: (ck b3 63 [.ints .u8 32 ((List.replicate 32 0))] :: (ck b2 101 [.ints .u8 64 (p0)] :: []))) t m) big ?_ ?_
    · exact ⟨0, (List.replicate 8 0), h, ⟨⟨rfl, rfl, rfl, rfl, trivial⟩, (.one .here (.one .here (.one .here .nil)))⟩⟩
    · rintro n62 t m ⟨i59, a60, h, hF⟩
      refine wc_fit hF ?_
      clear hF
      rcases n62 with _ | n62
      · exact none_i h
      have h : scalar_Reduce_b1 p0 k40 (scalar_Reduce_l1 p0 k40 n62) i59 a60 = some r := h
      unfold scalar_Reduce_b1 at h
      obtain ⟨k61, qk61⟩ : ∃ k, k = scalar_Reduce_l1 p0 k40 n62 := ⟨_, rfl⟩
      try rw [← qk61] at h
      refine wc_seq ?_
      refine wc_ops ?_
      refine wj_q _ (q_bin rfl rfl rfl) ?_
      refine wj_nil ?_
      refine wc_seq ?_
      refine wc_if (c := (decide (i59 < 8))) rfl (fun d64 => ?_) (fun d64 => ?_)
      · have h := br_t h d64
        refine wc_skip ?_
        refine wc_seq ?_
        refine wc_block ?_
        refine wc_seq ?_
        refine wc_ops ?_
        refine wj_q _ (q_mv rfl) ?_
        refine wj_q _ (q_mv rfl) ?_
        refine wj_nil ?_
        revert h
        refine bnd_i fun z67 ez67 => ?_
        refine opt_i fun y68 ey68 => ?_
        refine chk_i fun c69 => ?_
        refine bnd_i fun l70 el70 => ?_
        intro h
        refine wc_ops ?_
        refine wj_q _ (q_mv rfl) ?_
        refine wj_q _ (q_sla rfl .no .no .no (by simp) (by decide)) ?_
        refine wj_q _ (q_mv rfl) ?_
        refine wj_q _ (iz ez67 (q_bin rfl rfl rfl)) ?_
        refine wj_q _ (q_call (vs := [(.slice (some (slAddr b2 0 0 64 1)) (64 - 0) (64 - 0)), .int .i64 (z67)]) (v := .tuple #[.int .u64 (y68.1), .bool (y68.2)]) rfl (fun w hw => bits_LoadLE_uint64_spec (r := y68) (p0 := (tk p0 0 64)) (p1 := z67) ey68 ((rd_blk_i (s := [.ints .u8 64 (p0)]) (N := 64) (k := .u8) (base := 0) (lo := 0) (hi := 64) (mz := 64) (.there (.there .here)) rfl (by decide)) w hw))) ?_
        refine wj_q _ (q_mv rfl) ?_
        refine wj_q _ (q_ext rfl rfl) ?_
        refine wj_q _ (q_ext rfl rfl) ?_
        refine wj_q _ (q_ia rfl rfl (inB_z c69)) ?_
        refine wj_e (ef_stiz (q := [.ints .u64 8 (l70)]) (base := 0) el70 rfl rfl rfl (inB_n c69) rfl .here ?_)
        refine wj_nil ?_
        revert h
        refine bnd_i fun z72 ez72 => ?_
        intro h
        refine wc_ops ?_
        refine wj_q _ (iz ez72 (q_bin rfl rfl rfl)) ?_
        refine wj_q _ (q_mv rfl) ?_
        refine wj_nil ?_
        rw [qk61] at h
        exact ⟨n62, Nat.lt_succ_self _, z72, l70, h, ⟨⟨rfl, rfl, rfl, rfl, trivial⟩, (.one .here (.one .here (.one .here .nil)))⟩⟩
      · have h := br_f h d64
        refine wc_exit _ rfl ?_
        exact ⟨a60, h, ⟨⟨rfl, rfl, trivial⟩, (.one .here (.one .here (.one .here .nil)))⟩⟩
  · rintro t m ⟨a39, h, hF⟩
    refine wc_fit hF ?_
    clear hF
    subst qk40
    refine wc_seq ?_
    revert h
    refine opt_i fun y74 ey74 => ?_
    refine opt_i fun y75 ey75 => ?_
    intro h
    refine wc_ops ?_
    refine wj_q _ (q_sla rfl .no .no .no (by simp) (by decide)) ?_
    refine wj_q _ (q_call (vs := [(.slice (some (slAddr b5 0 0 8 1)) (8 - 0) (8 - 0))]) (v := agg [.ints .u64 4 (y74)]) rfl (fun w hw => scalar_reduce_spec (r := y74) (p0 := (tk a39 0 8)) ey74 (hG.at hw (by simp)) ((rd_blk_i (s := [.ints .u64 8 (a39)]) (N := 8) (k := .u64) (base := 0) (lo := 0) (hi := 8) (mz := 8) .here rfl (by decide)) w hw))) ?_
    refine wj_q _ (q_call (vs := [agg [.ints .u64 4 (y74)]]) (v := agg [.ints .u8 32 (y75)]) rfl (fun w hw => scalar_store_spec (r := y75) (p0 := y74) ey75 )) ?_
    refine wj_e (ef_st (q := [.ints .u8 32 (y75)]) rfl rfl rfl rfl rfl (.there .here) ?_)
    refine wj_nil ?_
    refine wc_ret ?_
    revert h; refine ret_i fun h => ?_
    subst h
    exact ⟨_, (.cons (.agg rfl (.there .here) rfl) .nil), rfl⟩
/- (*farebox/sha512.Digest).Clone -/
def sha512_Digest_Clone (p0 : sha512_Digest) : Option (sha512_Digest × sha512_Digest) :=
 some (p0, p0)
theorem sha512_Digest_Clone_spec {W : World} {r : sha512_Digest × sha512_Digest} {p0 : sha512_Digest} {b : Nat} {T : TypeId} (h : sha512_Digest_Clone p0 = some r) (h0 : Sat W [b] (ck b T [.ints .u64 8 (p0.gstate), .ints .u8 128 (p0.gheld), .one (.int .i64 (p0.ghave)), .one (.int .u64 (p0.glength))] :: []) W) :
    Calls Tryd.prog 84 [.pointer (some ⟨b, 0, none⟩)].toArray W (retS W [b] (fun v Ms => ∃ (b0 : Nat) (T0 : TypeId), v = .pointer (some ⟨b0, 0, none⟩) ∧ Ms = [.one (ck b0 T0 [.ints .u64 8 (r.1.gstate), .ints .u8 128 (r.1.gheld), .one (.int .i64 (r.1.ghave)), .one (.int .u64 (r.1.glength))]), .one (ck b T [.ints .u64 8 (r.2.gstate), .ints .u8 128 (r.2.gheld), .one (.int .i64 (r.2.ghave)), .one (.int .u64 (r.2.glength))])])) := by
  unfold sha512_Digest_Clone at h
  refine calls_memT mo ok84 rfl h0 ?_
  refine wc_seq ?_
  refine wc_ops ?_
  refine wj_q _ (q_mv rfl) ?_
  refine wj_nil ?_
  refine wc_seq ?_
  refine wc_ops ?_
  refine wj_q _ (q_mv rfl) ?_
  refine wj_q _ (q_nilc rfl) ?_
  refine wj_q _ (q_ld (p := [.ints .u64 8 (p0.gstate), .ints .u8 128 (p0.gheld), .one (.int .i64 (p0.ghave)), .one (.int .u64 (p0.glength))]) rfl .here rfl) ?_
  refine wj_e (ef_al fun b3 hb3 => ?_)
  refine wj_e (ef_st (q := [.ints .u64 8 (p0.gstate), .ints .u8 128 (p0.gheld), .one (.int .i64 (p0.ghave)), .one (.int .u64 (p0.glength))]) rfl rfl rfl rfl rfl .here ?_)
  refine wj_nil ?_
  refine wc_seq ?_
  refine wc_ops ?_
  refine wj_q _ (q_mv rfl) ?_
  refine wj_nil ?_
  refine wc_ret ?_
  revert h; refine ret_i fun h => ?_
  subst h
  exact ⟨_, _, (.cons (.tmp rfl) .nil), (.one .here (.one .here .nil)), ⟨_, rfl, ⟨b3, 138, rfl, rfl⟩⟩⟩
/- farebox/bits.StoreBE[uint64] -/
def bits_StoreBE_uint64_b1 (k65 : (List (Int)) → Option ((List Int))) (k102 : (Int) → (List (Int)) → (Int) → Option ((List Int))) (i96 : Int) (l99 : List (Int)) (i101 : Int) : Option ((List Int)) :=
 br ((decide (i101 ≥ 0))) (
 bnd (IntKind.wrap .u8 i96) fun z107 =>
 chk (inB i101 l99.length) <|
 bnd (setG 0 l99 (i101).toNat z107) fun l109 =>
 bnd (shrV .u64 i96 8) fun z113 =>
 bnd (IntKind.wrap .i64 (i101 - 1)) fun z115 =>
 k102 z113 l109 z115
 ) (
 k65 l99
 )
def bits_StoreBE_uint64_l1 (k65 : (List (Int)) → Option ((List Int))) : Nat → (Int) → (List (Int)) → (Int) → Option ((List Int))
  | 0, _, _, _ => none
  | n + 1, i96, l99, i101 => bits_StoreBE_uint64_b1 k65 (bits_StoreBE_uint64_l1 k65 n) i96 l99 i101
def bits_StoreBE_uint64 (p0 : Int) : Option ((List Int)) :=
 opt (bits_width_uint64) fun y3 =>
 bnd (IntKind.wrap .i64 (Int.tdiv y3 8)) fun z4 =>
 chk (mkB 1 z4 z4) <|
 bnd (IntKind.wrap .i64 (((List.replicate (z4).toNat 0 : List (Int)).length : Int) - 1)) fun z10 =>
 jn (fun (l63 : List (Int)) => some l63) fun k65 => bits_StoreBE_uint64_l1 k65 big p0 (List.replicate (z4).toNat 0 : List (Int)) z10
theorem bits_StoreBE_uint64_spec {W : World} {r : (List Int)} {p0 : Int} (h : bits_StoreBE_uint64 p0 = some r)  :
    Calls Tryd.prog 86 [.int .u64 (p0)].toArray W (retS W [] (fun v Ms => ∃ (u0 : Value) (M0 : List Chunk), v = u0 ∧ Ms = [.all M0] ∧ OwnSl (El.int .u8) u0 M0 r)) := by
  unfold bits_StoreBE_uint64 at h
  refine calls_memT mo ok86 rfl (sat0 _) ?_
  refine wc_seq ?_
  refine wc_ops ?_
  refine wj_q _ (q_mv rfl) ?_
  refine wj_nil ?_
  refine wc_seq ?_
  revert h
  refine opt_i fun y3 ey3 => ?_
  refine bnd_i fun z4 ez4 => ?_
  refine chk_i fun c5 => ?_
  intro h
  refine wc_ops ?_
  refine wj_q _ (q_call (vs := []) (v := .int .i64 (y3)) rfl (fun w hw => bits_width_uint64_spec (r := y3) ey3 )) ?_
  refine wj_q _ (iz ez4 (q_quo rfl rfl (by decide))) ?_
  refine wj_e (ef_mksO (E := (El.int .u8)) rfl rfl rfl c5 fun v6 ms7 O8 => ?_)
  refine wj_q _ (q_mv rfl) ?_
  refine wj_nil ?_
  refine wc_seq ?_
  refine wc_seq ?_
  revert h
  refine bnd_i fun z10 ez10 => ?_
  intro h
  refine wc_ops ?_
  refine wj_q _ (q_mv rfl) ?_
  refine wj_q _ (q_lenP rfl (Shp.own O8)) ?_
  refine wj_q _ (iz ez10 (q_bin rfl rfl rfl)) ?_
  refine wj_q _ (q_mv rfl) ?_
  refine wj_nil ?_
  revert h
  refine jn_i fun k65 qk65 => ?_
  intro h
  refine wc_mono2 (G := fun t m => ∃ (l63 : List (Int)) (v61 : Value) (ms62 : List Chunk), k65 l63 = some r ∧ OwnSl (El.int .u8) v61 ms62 l63 ∧ Fit [(3, v61)] (ms62 ++ []) t m) ?_ ?_
  · refine wc_block ?_
    refine wc_loopJ (fun n103 t m => ∃ (i96 : Int) (l99 : List (Int)) (i101 : Int) (v97 : Value) (ms98 : List Chunk), bits_StoreBE_uint64_l1 k65 n103 i96 l99 i101 = some r ∧ OwnSl (El.int .u8) v97 ms98 l99 ∧ Fit [(0, .int .u64 (i96)), (3, v97), (4, .int .i64 (i101))] (ms98 ++ []) t m) big ?_ ?_
    · exact ⟨p0, (List.replicate (z4).toNat 0 : List (Int)), z10, v6, ms7, h, O8, ⟨⟨rfl, rfl, rfl, trivial⟩, (.all .here .nil)⟩⟩
    · rintro n103 t m ⟨i96, l99, i101, v97, ms98, h, O100, hF⟩
      refine wc_fit hF ?_
      clear hF
      rcases n103 with _ | n103
      · exact none_i h
      have h : bits_StoreBE_uint64_b1 k65 (bits_StoreBE_uint64_l1 k65 n103) i96 l99 i101 = some r := h
      unfold bits_StoreBE_uint64_b1 at h
      obtain ⟨k102, qk102⟩ : ∃ k, k = bits_StoreBE_uint64_l1 k65 n103 := ⟨_, rfl⟩
      try rw [← qk102] at h
      refine wc_seq ?_
      refine wc_seq ?_
      refine wc_ops ?_
      refine wj_q _ (q_mv rfl) ?_
      refine wj_q _ (q_bin rfl rfl rfl) ?_
      refine wj_nil ?_
      refine wc_if (c := (decide (i101 ≥ 0))) rfl (fun d105 => ?_) (fun d105 => ?_)
      · have h := br_t h d105
        refine wc_skip ?_
        refine wc_seq ?_
        refine wc_block ?_
        refine wc_seq ?_
        revert h
        refine bnd_i fun z107 ez107 => ?_
        refine chk_i fun c108 => ?_
        refine bnd_i fun l109 el109 => ?_
        intro h
        refine wc_ops ?_
        refine wj_q _ (q_mv rfl) ?_
        refine wj_q _ (q_mv rfl) ?_
        refine wj_q _ (q_mv rfl) ?_
        refine wj_q _ (iz ez107 (q_conv rfl)) ?_
        refine wj_q _ (q_iasP rfl rfl (Shp.own O100) c108) ?_
        refine wj_e (ef_stO (E := (El.int .u8)) el109 O100 .here rfl rfl rfl (inB_n c108) fun ms110 O111 => ?_)
        refine wj_nil ?_
        revert h
        refine bnd_i fun z113 ez113 => ?_
        intro h
        refine wc_ops ?_
        refine wj_q _ (q_mv rfl) ?_
        refine wj_q _ (iz ez113 (q_shr rfl rfl (by decide))) ?_
        refine wj_q _ (q_mv rfl) ?_
        refine wj_nil ?_
        revert h
        refine bnd_i fun z115 ez115 => ?_
        intro h
        refine wc_ops ?_
        refine wj_q _ (q_mv rfl) ?_
        refine wj_q _ (iz ez115 (q_bin rfl rfl rfl)) ?_
        refine wj_q _ (q_mv rfl) ?_
        refine wj_nil ?_
        rw [qk102] at h
        exact ⟨n103, Nat.lt_succ_self _, z113, l109, z115, v97, ms110, h, O111, ⟨⟨rfl, rfl, rfl, trivial⟩, (.all .here .nil)⟩⟩
      · have h := br_f h d105
        refine wc_exit _ rfl ?_
        exact ⟨l99, v97, ms98, h, O100, ⟨⟨rfl, trivial⟩, (.all .here .nil)⟩⟩
  · rintro t m ⟨l63, v61, ms62, h, O64, hF⟩
    refine wc_fit hF ?_
    clear hF
    subst qk65
    refine wc_seq ?_
    refine wc_ops ?_
    refine wj_q _ (q_mv rfl) ?_
    refine wj_q _ (q_mv rfl) ?_
    refine wj_nil ?_
    refine wc_ret ?_
    revert h; refine ret_i fun h => ?_
    subst h
    exact ⟨_, _, (.cons (.tmp rfl) .nil), (.all .here .nil), ⟨_, rfl, ⟨v61, ms62, rfl, rfl, O64⟩⟩⟩
/- farebox/sha512.Pad -/
def sha512_Pad (p0 : Int) : Option ((List Int)) :=
 bnd (IntKind.wrap .u64 (p0 + 17)) fun z3 =>
 bnd (Int.tmod z3 128) fun z4 =>
 bnd (IntKind.wrap .i64 z4) fun z5 =>
 bnd (IntKind.wrap .i64 (128 - z5)) fun z6 =>
 bnd (Int.tmod z6 128) fun z7 =>
 bnd (IntKind.wrap .i64 (17 + z7)) fun z9 =>
 chk (mkB 1 0 z9) <|
 chk (decide (((List.replicate 0 0 : List (Int)).length + ([128] : List (Int)).length) * 1 ≤ 140737488355328)) <|
 bnd ((List.replicate 0 0 : List (Int)) ++ ([128] : List (Int))) fun l19 =>
 chk (decide (0 ≤ z7)) <|
 chk (decide ((l19.length + (z7).toNat) * 1 ≤ 140737488355328)) <|
 bnd (l19 ++ List.replicate (z7).toNat 0) fun l26 =>
 bnd (shrV .u64 p0 61) fun z31 =>
 opt (bits_StoreBE_uint64 z31) fun y32 =>
 chk (decide ((l26.length + y32.length) * 1 ≤ 140737488355328)) <|
 bnd (l26 ++ y32) fun l39 =>
 bnd (shlV .u64 p0 3) fun z44 =>
 opt (bits_StoreBE_uint64 z44) fun y45 =>
 chk (decide ((l39.length + y45.length) * 1 ≤ 140737488355328)) <|
 bnd (l39 ++ y45) fun l52 =>
 some l52
theorem sha512_Pad_spec {W : World} {r : (List Int)} {p0 : Int} (h : sha512_Pad p0 = some r)  :
    Calls Tryd.prog 85 [.int .u64 (p0)].toArray W (retS W [] (fun v Ms => ∃ (u0 : Value) (M0 : List Chunk), v = u0 ∧ Ms = [.all M0] ∧ OwnSl (El.int .u8) u0 M0 r)) := by
  unfold sha512_Pad at h
  refine calls_memT mo ok85 rfl (sat0 _) ?_
  refine wc_seq ?_
  refine wc_ops ?_
  refine wj_q _ (q_mv rfl) ?_
  refine wj_nil ?_
  refine wc_seq ?_
  revert h
  refine bnd_i fun z3 ez3 => ?_
  refine bnd_i fun z4 ez4 => ?_
  refine bnd_i fun z5 ez5 => ?_
  refine bnd_i fun z6 ez6 => ?_
  refine bnd_i fun z7 ez7 => ?_
  intro h
  refine wc_ops ?_
  refine wj_q _ (q_mv rfl) ?_
  refine wj_q _ (iz ez3 (q_bin rfl rfl rfl)) ?_
  refine wj_q _ (iz ez4 (q_rem rfl rfl (by decide))) ?_
  refine wj_q _ (iz ez5 (q_conv rfl)) ?_
  refine wj_q _ (iz ez6 (q_bin rfl rfl rfl)) ?_
  refine wj_q _ (iz ez7 (q_rem rfl rfl (by decide))) ?_
  refine wj_q _ (q_mv rfl) ?_
  refine wj_nil ?_
  refine wc_seq ?_
  revert h
  refine bnd_i fun z9 ez9 => ?_
  refine chk_i fun c10 => ?_
  intro h
  refine wc_ops ?_
  refine wj_q _ (q_mv rfl) ?_
  refine wj_q _ (iz ez9 (q_bin rfl rfl rfl)) ?_
  refine wj_e (ef_mksO (E := (El.int .u8)) rfl rfl rfl c10 fun v11 ms12 O13 => ?_)
  refine wj_q _ (q_mv rfl) ?_
  refine wj_nil ?_
  refine wc_seq ?_
  revert h
  refine chk_i fun c18 => ?_
  refine bnd_i fun l19 el19 => ?_
  intro h
  refine wc_ops ?_
  refine wj_q _ (q_mv rfl) ?_
  refine wj_e (ef_bsO (E := (El.int .u8)) (xs := [128]) (.one rfl rfl rfl BdR.nil) (.cons (p := [.one (.int .u8 (128))]) rfl .nil) rfl fun v15 ms16 O17 => ?_)
  refine wj_e (ef_appO (E := (El.int .u8)) el19 rfl O13 (.app .here) rfl (rd_own O17 .here) c18 fun v20 ms21 O22 => ?_)
  refine wj_q _ (q_mv rfl) ?_
  refine wj_nil ?_
  refine wc_seq ?_
  revert h
  refine chk_i fun c24 => ?_
  refine chk_i fun c25 => ?_
  refine bnd_i fun l26 el26 => ?_
  intro h
  refine wc_ops ?_
  refine wj_q _ (q_mv rfl) ?_
  refine wj_q _ (q_mv rfl) ?_
  refine wj_e (ef_apzO (E := (El.int .u8)) el26 rfl O22 .here rfl c24 rfl c25 fun v27 ms28 O29 => ?_)
  refine wj_q _ (q_mv rfl) ?_
  refine wj_nil ?_
  refine wc_seq ?_
  revert h
  refine bnd_i fun z31 ez31 => ?_
  refine opt_i fun y32 ey32 => ?_
  refine chk_i fun c38 => ?_
  refine bnd_i fun l39 el39 => ?_
  intro h
  refine wc_ops ?_
  refine wj_q _ (q_mv rfl) ?_
  refine wj_q _ (q_mv rfl) ?_
  refine wj_q _ (iz ez31 (q_shr rfl rfl (by decide))) ?_
  refine wj_e (ef_callS0 rfl (fun w hw => bits_StoreBE_uint64_spec (r := y32) (p0 := z31) ey32 ) fun v33 Msv33 R34 => ?_)
  obtain ⟨_, ms36, rfl, rfl, O37⟩ := R34
  refine wj_e (ef_appO (E := (El.int .u8)) el39 rfl O29 (.app .here) rfl (rd_own O37 .here) c38 fun v40 ms41 O42 => ?_)
  refine wj_q _ (q_mv rfl) ?_
  refine wj_nil ?_
  refine wc_seq ?_
  revert h
  refine bnd_i fun z44 ez44 => ?_
  refine opt_i fun y45 ey45 => ?_
  refine chk_i fun c51 => ?_
  refine bnd_i fun l52 el52 => ?_
  intro h
  refine wc_ops ?_
  refine wj_q _ (q_mv rfl) ?_
  refine wj_q _ (q_mv rfl) ?_
  refine wj_q _ (iz ez44 (q_shl rfl rfl (by decide))) ?_
  refine wj_e (ef_callS0 rfl (fun w hw => bits_StoreBE_uint64_spec (r := y45) (p0 := z44) ey45 ) fun v46 Msv46 R47 => ?_)
  obtain ⟨_, ms49, rfl, rfl, O50⟩ := R47
  refine wj_e (ef_appO (E := (El.int .u8)) el52 rfl O42 (.app .here) rfl (rd_own O50 .here) c51 fun v53 ms54 O55 => ?_)
  refine wj_q _ (q_mv rfl) ?_
  refine wj_nil ?_
  refine wc_ret ?_
  revert h; refine ret_i fun h => ?_
  subst h
  exact ⟨_, _, (.cons (.tmp rfl) .nil), (.all .here .nil), ⟨_, rfl, ⟨v53, ms54, rfl, rfl, O55⟩⟩⟩
end Go.Proofs.YtiflckckekjbnaaDoor
