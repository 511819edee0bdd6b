/- Mirrors. -/
import Derived.Test.YtiflckckekjbnaaDoorL5
namespace Go.Proofs.YtiflckckekjbnaaDoor
open Go Go.Sx Go.RowKit
set_option linter.all false
set_option maxHeartbeats 400000
set_option maxRecDepth 100000
/- farebox/bits.StoreLE[uint64] -/
def bits_StoreLE_uint64_b1 (z4 : Int) (k66 : (List (Int)) → Option ((List Int))) (k104 : (Int) → (Int) → (List (Int)) → Option ((List Int))) (i98 : Int) (i99 : Int) (l102 : List (Int)) : Option ((List Int)) :=
 br ((decide (i99 < ((List.replicate (z4).toNat 0 : List (Int)).length : Int)))) (
 bnd (IntKind.wrap .u8 i98) fun z110 =>
 chk (inB i99 l102.length) <|
 bnd (setG 0 l102 (i99).toNat z110) fun l112 =>
 bnd (shrV .u64 i98 8) fun z116 =>
 bnd (IntKind.wrap .i64 (i99 + 1)) fun z118 =>
 k104 z116 z118 l112
 ) (
 k66 l102
 )
def bits_StoreLE_uint64_l1 (z4 : Int) (k66 : (List (Int)) → Option ((List Int))) : Nat → (Int) → (Int) → (List (Int)) → Option ((List Int))
  | 0, _, _, _ => none
  | n + 1, i98, i99, l102 => bits_StoreLE_uint64_b1 z4 k66 (bits_StoreLE_uint64_l1 z4 k66 n) i98 i99 l102
def bits_StoreLE_uint64 (p0 : Int) : Option ((List Int)) :=
 opt (bits_width_uint64) fun y3 =>
 bnd (IntKind.wrap .i64 (Int.tdiv y3 8)) fun z4 =>
 chk (mkB 1 z4 z4) <|
 jn (fun (l64 : List (Int)) => some l64) fun k66 => bits_StoreLE_uint64_l1 z4 k66 big p0 0 (List.replicate (z4).toNat 0 : List (Int))
theorem bits_StoreLE_uint64_spec {W : World} {r : (List Int)} {p0 : Int} (h : bits_StoreLE_uint64 p0 = some r)  :
    Calls Tryd.prog 100 [.int .u64 (p0)].toArray W (retS W [] (fun v Ms => ∃ (u0 : Value) (M0 : List Chunk), v = u0 ∧ Ms = [.all M0] ∧ OwnSl (El.int .u8) u0 M0 r)) := by
  unfold bits_StoreLE_uint64 at h
  refine calls_memT mo ok100 rfl (sat0 _) ?_
  refine wc_seq ?_
  refine wc_ops ?_
  refine wj_q _ (q_mv rfl) ?_
  refine wj_nil ?_
  refine wc_seq ?_
  revert h
  refine opt_i fun y3 ey3 => ?_
  refine bnd_i fun z4 ez4 => ?_
  refine chk_i fun c5 => ?_
  intro h
  refine wc_ops ?_
  refine wj_q _ (q_call (vs := []) (v := .int .i64 (y3)) rfl (fun w hw => bits_width_uint64_spec (r := y3) ey3 )) ?_
  refine wj_q _ (iz ez4 (q_quo rfl rfl (by decide))) ?_
  refine wj_e (ef_mksO (E := (El.int .u8)) rfl rfl rfl c5 fun v6 ms7 O8 => ?_)
  refine wj_q _ (q_mv rfl) ?_
  refine wj_nil ?_
  refine wc_seq ?_
  refine wc_seq ?_
  refine wc_ops ?_
  refine wj_q _ (q_mv rfl) ?_
  refine wj_q _ (q_lenP rfl (Shp.own O8)) ?_
  refine wj_q _ (q_mv rfl) ?_
  refine wj_nil ?_
  revert h
  refine jn_i fun k66 qk66 => ?_
  intro h
  refine wc_mono2 (G := fun t m => ∃ (l64 : List (Int)) (v62 : Value) (ms63 : List Chunk), k66 l64 = some r ∧ OwnSl (El.int .u8) v62 ms63 l64 ∧ Fit [(3, v62)] (ms63 ++ []) t m) ?_ ?_
  · refine wc_block ?_
    refine wc_loopJ (fun n105 t m => ∃ (i98 : Int) (i99 : Int) (l102 : List (Int)) (v100 : Value) (ms101 : List Chunk), bits_StoreLE_uint64_l1 z4 k66 n105 i98 i99 l102 = some r ∧ OwnSl (El.int .u8) v100 ms101 l102 ∧ Fit [(0, .int .u64 (i98)), (3, v100), (9, .int .i64 (((List.replicate (z4).toNat 0 : List (Int)).length : Int))), (10, .int .i64 (i99))] (ms101 ++ []) t m) big ?_ ?_
    · exact ⟨p0, 0, (List.replicate (z4).toNat 0 : List (Int)), v6, ms7, h, O8, ⟨⟨rfl, rfl, rfl, rfl, trivial⟩, (.all .here .nil)⟩⟩
    · rintro n105 t m ⟨i98, i99, l102, v100, ms101, h, O103, hF⟩
      refine wc_fit hF ?_
      clear hF
      rcases n105 with _ | n105
      · exact none_i h
      have h : bits_StoreLE_uint64_b1 z4 k66 (bits_StoreLE_uint64_l1 z4 k66 n105) i98 i99 l102 = some r := h
      unfold bits_StoreLE_uint64_b1 at h
      obtain ⟨k104, qk104⟩ : ∃ k, k = bits_StoreLE_uint64_l1 z4 k66 n105 := ⟨_, rfl⟩
      try rw [← qk104] at h
      refine wc_seq ?_
      refine wc_ops ?_
      refine wj_q _ (q_bin rfl rfl rfl) ?_
      refine wj_nil ?_
      refine wc_seq ?_
      refine wc_if (c := (decide (i99 < ((List.replicate (z4).toNat 0 : List (Int)).length : Int)))) rfl (fun d107 => ?_) (fun d107 => ?_)
      · have h := br_t h d107
        refine wc_skip ?_
        refine wc_seq ?_
        refine wc_block ?_
        refine wc_seq ?_
        refine wc_ops ?_
        refine wj_q _ (q_mv rfl) ?_
        refine wj_q _ (q_mv rfl) ?_
        refine wj_nil ?_
        refine wc_seq ?_
        revert h
        refine bnd_i fun z110 ez110 => ?_
        refine chk_i fun c111 => ?_
        refine bnd_i fun l112 el112 => ?_
        intro h
        refine wc_ops ?_
        refine wj_q _ (q_mv rfl) ?_
        refine wj_q _ (q_mv rfl) ?_
        refine wj_q _ (q_mv rfl) ?_
        refine wj_q _ (iz ez110 (q_conv rfl)) ?_
        refine wj_q _ (q_iasP rfl rfl (Shp.own O103) c111) ?_
        refine wj_e (ef_stO (E := (El.int .u8)) el112 O103 .here rfl rfl rfl (inB_n c111) fun ms113 O114 => ?_)
        refine wj_nil ?_
        revert h
        refine bnd_i fun z116 ez116 => ?_
        intro h
        refine wc_ops ?_
        refine wj_q _ (q_mv rfl) ?_
        refine wj_q _ (iz ez116 (q_shr rfl rfl (by decide))) ?_
        refine wj_q _ (q_mv rfl) ?_
        refine wj_nil ?_
        revert h
        refine bnd_i fun z118 ez118 => ?_
        intro h
        refine wc_ops ?_
        refine wj_q _ (iz ez118 (q_bin rfl rfl rfl)) ?_
        refine wj_q _ (q_mv rfl) ?_
        refine wj_nil ?_
        rw [qk104] at h
        exact ⟨n105, Nat.lt_succ_self _, z116, z118, l112, v100, ms113, h, O114, ⟨⟨rfl, rfl, rfl, rfl, trivial⟩, (.all .here .nil)⟩⟩
      · have h := br_f h d107
        refine wc_exit _ rfl ?_
        exact ⟨l102, v100, ms101, h, O103, ⟨⟨rfl, trivial⟩, (.all .here .nil)⟩⟩
  · rintro t m ⟨l64, v62, ms63, h, O65, hF⟩
    refine wc_fit hF ?_
    clear hF
    subst qk66
    refine wc_seq ?_
    refine wc_ops ?_
    refine wj_q _ (q_mv rfl) ?_
    refine wj_q _ (q_mv rfl) ?_
    refine wj_nil ?_
    refine wc_ret ?_
    revert h; refine ret_i fun h => ?_
    subst h
    exact ⟨_, _, (.cons (.tmp rfl) .nil), (.all .here .nil), ⟨_, rfl, ⟨v62, ms63, rfl, rfl, O65⟩⟩⟩
/- farebox/scalar.store -/
def scalar_store_b1 (p0 : List Int) (k60 : (List Int) → Option ((List Int))) (k94 : (Int) → (List Int) → Option ((List Int))) (i92 : Int) (a93 : List Int) : Option ((List Int)) :=
 br ((decide (i92 < 4))) (
 chk (inB i92 4) <|
 bnd (p0.getD (i92).toNat 0) fun z100 =>
 bnd (IntKind.wrap .i64 (8 * i92)) fun z102 =>
 chk (cutB z102 32 32) <|
 opt (bits_StoreLE_uint64 z100) fun y104 =>
 bnd (wr a93 (z102).toNat (y104.take (32 - (z102).toNat))) fun l110 =>
 bnd (IntKind.wrap .i64 (i92 + 1)) fun z112 =>
 k94 z112 l110
 ) (
 k60 a93
 )
def scalar_store_l1 (p0 : List Int) (k60 : (List Int) → Option ((List Int))) : Nat → (Int) → (List Int) → Option ((List Int))
  | 0, _, _ => none
  | n + 1, i92, a93 => scalar_store_b1 p0 k60 (scalar_store_l1 p0 k60 n) i92 a93
def scalar_store (p0 : List Int) : Option ((List Int)) :=
 jn (fun (a59 : List Int) => some a59) fun k60 => scalar_store_l1 p0 k60 big 0 (List.replicate 32 0)
theorem scalar_store_spec {W : World} {r : (List Int)} {p0 : List Int} (h : scalar_store p0 = some r)  :
    Calls Tryd.prog 82 [agg [.ints .u64 4 (p0)]].toArray W (ret1 W (agg [.ints .u8 32 (r)])) := by
  unfold scalar_store at h
  refine calls_val mo ok82 rfl ?_
  refine wc_seq ?_
  refine wc_ops ?_
  refine wj_e (ef_bx (s := [.ints .u64 4 (p0)]) rfl fun b2 hb2 => ?_)
  refine wj_e (ef_al fun b3 hb3 => ?_)
  refine wj_nil ?_
  refine wc_seq ?_
  refine wc_ops ?_
  refine wj_e (ef_al fun b5 hb5 => ?_)
  refine wj_nil ?_
  refine wc_seq ?_
  refine wc_seq ?_
  refine wc_ops ?_
  refine wj_q _ (q_ld (p := [.ints .u64 4 (p0)]) rfl (.there (.there .here)) rfl) ?_
  refine wj_q _ (q_mv rfl) ?_
  refine wj_nil ?_
  revert h
  refine jn_i fun k60 qk60 => ?_
  intro h
  refine wc_mono2 (G := fun t m => ∃ (a59 : List Int), k60 a59 = some r ∧ Fit [(2, .pointer (some ⟨b3, 0, none⟩)), (3, .pointer (some ⟨b5, 0, none⟩))] (ck b5 63 [.ints .u8 32 (a59)] :: (ck b3 63 [.ints .u8 32 ((List.replicate 32 0))] :: (ck b2 93 [.ints .u64 4 (p0)] :: []))) t m) ?_ ?_
  · refine wc_block ?_
    refine wc_loopJ (fun n95 t m => ∃ (i92 : Int) (a93 : List Int), scalar_store_l1 p0 k60 n95 i92 a93 = some r ∧ Fit [(2, .pointer (some ⟨b3, 0, none⟩)), (3, .pointer (some ⟨b5, 0, none⟩)), (6, agg [.ints .u64 4 (p0)]), (7, .int .i64 (i92))] (ck b5 63 [.ints .u8 32 (a93)] :: (ck b3 63 [.ints .u8 32 ((List.replicate 32 0))] :: (ck b2 93 [.ints .u64 4 (p0)] :: []))) t m) big ?_ ?_
    · exact ⟨0, (List.replicate 32 0), h, ⟨⟨rfl, rfl, rfl, rfl, trivial⟩, (.one .here (.one .here (.one .here .nil)))⟩⟩
    · rintro n95 t m ⟨i92, a93, h, hF⟩
      refine wc_fit hF ?_
      clear hF
      rcases n95 with _ | n95
      · exact none_i h
      have h : scalar_store_b1 p0 k60 (scalar_store_l1 p0 k60 n95) i92 a93 = some r := h
      unfold scalar_store_b1 at h
      obtain ⟨k94, qk94⟩ : ∃ k, k = scalar_store_l1 p0 k60 n95 := ⟨_, rfl⟩
      try rw [← qk94] at h
      refine wc_seq ?_
      refine wc_ops ?_
      refine wj_q _ (q_bin rfl rfl rfl) ?_
      refine wj_nil ?_
      refine wc_seq ?_
      refine wc_if (c := (decide (i92 < 4))) rfl (fun d97 => ?_) (fun d97 => ?_)
      · have h := br_t h d97
        refine wc_skip ?_
        refine wc_seq ?_
        refine wc_block ?_
        refine wc_seq ?_
        revert h
        refine chk_i fun c99 => ?_
        refine bnd_i fun z100 ez100 => ?_
        intro h
        refine wc_ops ?_
        refine wj_q _ (q_mv rfl) ?_
        refine wj_q _ (iz ez100 (q_idxi (len := 4) rfl rfl (inB_z c99))) ?_
        refine wj_q _ (q_mv rfl) ?_
        refine wj_q _ (q_mv rfl) ?_
        refine wj_nil ?_
        revert h
        refine bnd_i fun z102 ez102 => ?_
        refine chk_i fun c103 => ?_
        refine opt_i fun y104 ey104 => ?_
        refine bnd_i fun l110 el110 => ?_
        intro h
        refine wc_draw ?_
        refine ws_p1 _ (q_mv rfl) ?_
        refine ws_p1 _ (iz ez102 (q_bin rfl rfl rfl)) ?_
        refine ws_p1 _ (q_sla rfl (.yes rfl) .no .no (by simp) (cut4 c103)) ?_
        refine ws_p1 _ (q_mv rfl) ?_
        refine ws_e1 (ef_callS0 rfl (fun w hw => bits_StoreLE_uint64_spec (r := y104) (p0 := z100) ey104 ) fun v105 Msv105 R106 => ?_)
        obtain ⟨_, ms108, rfl, rfl, O109⟩ := R106
        refine ⟨(by repeat (first | exact Sup.refl _ | apply Sup.cons | apply Sup.app)), ?_⟩
        refine ws_eL rfl (ef_cpyB (q := [.ints .u8 32 (l110)]) (lo := (z102).toNat) (hi := 32) (mz := 32) (base := 0) el110 rfl rfl (rd_own O109 .here) rfl (cutn c103) rfl (.app .here) ?_)
        refine ws_nil ?_
        revert h
        refine bnd_i fun z112 ez112 => ?_
        intro h
        refine wc_ops ?_
        refine wj_q _ (iz ez112 (q_bin rfl rfl rfl)) ?_
        refine wj_q _ (q_mv rfl) ?_
        refine wj_nil ?_
        rw [qk94] at h
        exact ⟨n95, Nat.lt_succ_self _, z112, l110, h, ⟨⟨rfl, rfl, rfl, rfl, trivial⟩, (.one (.app .here) (.one (.app .here) (.one (.app .here) .nil)))⟩⟩
      · have h := br_f h d97
        refine wc_exit _ rfl ?_
        exact ⟨a93, h, ⟨⟨rfl, rfl, trivial⟩, (.one .here (.one .here (.one .here .nil)))⟩⟩
  · rintro t m ⟨a59, h, hF⟩
    refine wc_fit hF ?_
    clear hF
    subst qk60
    refine wc_seq ?_
    refine wc_ops ?_
    refine wj_q _ (q_ld (p := [.ints .u8 32 (a59)]) rfl .here rfl) ?_
    refine wj_e (ef_st (q := [.ints .u8 32 (a59)]) rfl rfl rfl rfl rfl (.there .here) ?_)
    refine wj_nil ?_
    refine wc_ret ?_
    revert h; refine ret_i fun h => ?_
    subst h
    exact ⟨_, (.cons (.agg rfl (.there .here) rfl) .nil), rfl⟩
/- farebox/scalar.plus -/
def scalar_plus_b1 (p1 : List Int) (k57 : (Int) → (List Int) → Option ((List Int) × Int)) (k89 : (Int) → (Int) → (List Int) → Option ((List Int) × Int)) (i86 : Int) (i87 : Int) (a88 : List Int) : Option ((List Int) × Int) :=
 br ((decide (i87 < 4))) (
 chk (inB i87 4) <|
 chk (inB i87 4) <|
 bnd (a88.getD (i87).toNat 0) fun z97 =>
 bnd (p1.getD (i87).toNat 0) fun z98 =>
 chk (addOk z97 z98 i86) <|
 bnd (addLo z97 z98 i86) fun z100 =>
 bnd (addHi z97 z98 i86) fun z101 =>
 chk (inB i87 4) <|
 bnd (setD a88 (i87).toNat z100) fun l103 =>
 bnd (IntKind.wrap .i64 (i87 + 1)) fun z105 =>
 k89 z101 z105 l103
 ) (
 k57 i86 a88
 )
def scalar_plus_l1 (p1 : List Int) (k57 : (Int) → (List Int) → Option ((List Int) × Int)) : Nat → (Int) → (Int) → (List Int) → Option ((List Int) × Int)
  | 0, _, _, _ => none
  | n + 1, i86, i87, a88 => scalar_plus_b1 p1 k57 (scalar_plus_l1 p1 k57 n) i86 i87 a88
def scalar_plus (p0 : List Int) (p1 : List Int) : Option ((List Int) × Int) :=
 jn (fun (i55 : Int) (a56 : List Int) => some (a56, i55)) fun k57 => scalar_plus_l1 p1 k57 big 0 0 p0
theorem scalar_plus_spec {W : World} {r : (List Int) × Int} {p0 : List Int} {p1 : List Int} (h : scalar_plus p0 p1 = some r)  :
    Calls Tryd.prog 89 [agg [.ints .u64 4 (p0)], agg [.ints .u64 4 (p1)]].toArray W (ret1 W (.tuple #[agg [.ints .u64 4 (r.1)], .int .u64 (r.2)])) := by
  unfold scalar_plus at h
  refine calls_val mo ok89 rfl ?_
  refine wc_seq ?_
  refine wc_ops ?_
  refine wj_e (ef_bx (s := [.ints .u64 4 (p0)]) rfl fun b2 hb2 => ?_)
  refine wj_e (ef_bx (s := [.ints .u64 4 (p1)]) rfl fun b3 hb3 => ?_)
  refine wj_e (ef_al fun b4 hb4 => ?_)
  refine wj_q _ (q_mv rfl) ?_
  refine wj_nil ?_
  refine wc_seq ?_
  refine wc_ops ?_
  refine wj_q _ (q_mv rfl) ?_
  refine wj_nil ?_
  refine wc_seq ?_
  refine wc_seq ?_
  refine wc_ops ?_
  refine wj_q _ (q_mv rfl) ?_
  refine wj_nil ?_
  revert h
  refine jn_i fun k57 qk57 => ?_
  intro h
  refine wc_mono2 (G := fun t m => ∃ (i55 : Int) (a56 : List Int), k57 i55 a56 = some r ∧ Fit [(2, .pointer (some ⟨b2, 0, none⟩)), (4, .pointer (some ⟨b4, 0, none⟩)), (6, .int .u64 (i55))] (ck b4 93 [.ints .u64 4 ((List.replicate 4 0))] :: (ck b3 93 [.ints .u64 4 (p1)] :: (ck b2 93 [.ints .u64 4 (a56)] :: []))) t m) ?_ ?_
  · refine wc_block ?_
    refine wc_loopJ (fun n90 t m => ∃ (i86 : Int) (i87 : Int) (a88 : List Int), scalar_plus_l1 p1 k57 n90 i86 i87 a88 = some r ∧ Fit [(2, .pointer (some ⟨b2, 0, none⟩)), (3, .pointer (some ⟨b3, 0, none⟩)), (4, .pointer (some ⟨b4, 0, none⟩)), (6, .int .u64 (i86)), (8, .int .i64 (i87))] (ck b4 93 [.ints .u64 4 ((List.replicate 4 0))] :: (ck b3 93 [.ints .u64 4 (p1)] :: (ck b2 93 [.ints .u64 4 (a88)] :: []))) t m) big ?_ ?_
    · exact ⟨0, 0, p0, h, ⟨⟨rfl, rfl, rfl, rfl, rfl, trivial⟩, (.one .here (.one .here (.one .here .nil)))⟩⟩
    · rintro n90 t m ⟨i86, i87, a88, h, hF⟩
      refine wc_fit hF ?_
      clear hF
      rcases n90 with _ | n90
      · exact none_i h
      have h : scalar_plus_b1 p1 k57 (scalar_plus_l1 p1 k57 n90) i86 i87 a88 = some r := h
      unfold scalar_plus_b1 at h
      obtain ⟨k89, qk89⟩ : ∃ k, k = scalar_plus_l1 p1 k57 n90 := ⟨_, rfl⟩
      try rw [← qk89] at h
      refine wc_seq ?_
      refine wc_ops ?_
      refine wj_q _ (q_bin rfl rfl rfl) ?_
      refine wj_nil ?_
      refine wc_seq ?_
      refine wc_if (c := (decide (i87 < 4))) rfl (fun d92 => ?_) (fun d92 => ?_)
      · have h := br_t h d92
        refine wc_skip ?_
        refine wc_seq ?_
        refine wc_block ?_
        refine wc_seq ?_
        refine wc_ops ?_
        refine wj_q _ (q_mv rfl) ?_
        refine wj_q _ (q_mv rfl) ?_
        refine wj_nil ?_
        revert h
        refine chk_i fun c95 => ?_
        refine chk_i fun c96 => ?_
        refine bnd_i fun z97 ez97 => ?_
        refine bnd_i fun z98 ez98 => ?_
        refine chk_i fun c99 => ?_
        refine bnd_i fun z100 ez100 => ?_
        refine bnd_i fun z101 ez101 => ?_
        refine chk_i fun c102 => ?_
        refine bnd_i fun l103 el103 => ?_
        intro h
        refine wc_draw ?_
        refine ws_p1 _ (q_mv rfl) ?_
        refine ws_p1 _ (q_mv rfl) ?_
        refine ws_p1 _ (q_ia rfl rfl (inB_z c95)) ?_
        refine ws_p1 _ (q_mv rfl) ?_
        refine ws_p1 _ (q_ia rfl rfl (inB_z c96)) ?_
        refine ws_p1 _ (q_mv rfl) ?_
        refine ws_q1 _ (iz ez97 (q_ldi (base := 0) rfl (.there (.there .here)) rfl (inB_n c95))) ?_
        refine ws_q1 _ (iz ez98 (q_ldi (base := 0) rfl (.there .here) rfl (inB_n c96))) ?_
        refine ws_p1 _ (q_xcall rfl ext_add (xadd ez100 ez101 c99)) ?_
        refine ws_p1 _ (q_mv rfl) ?_
        refine ws_p1 _ (q_ext rfl rfl) ?_
        refine ws_p1 _ (q_ext rfl rfl) ?_
        refine ws_p1 _ (q_ia rfl rfl (inB_z c102)) ?_
        refine ws_eL rfl (ef_stiz (q := [.ints .u64 4 (l103)]) (base := 0) el103 rfl rfl rfl (inB_n c102) rfl (.there (.there .here)) ?_)
        refine ws_p1 _ (q_mv rfl) ?_
        refine ws_nil ?_
        revert h
        refine bnd_i fun z105 ez105 => ?_
        intro h
        refine wc_ops ?_
        refine wj_q _ (iz ez105 (q_bin rfl rfl rfl)) ?_
        refine wj_q _ (q_mv rfl) ?_
        refine wj_nil ?_
        rw [qk89] at h
        exact ⟨n90, Nat.lt_succ_self _, z101, z105, l103, h, ⟨⟨rfl, rfl, rfl, rfl, rfl, trivial⟩, (.one .here (.one .here (.one .here .nil)))⟩⟩
      · have h := br_f h d92
        refine wc_exit _ rfl ?_
        exact ⟨i86, a88, h, ⟨⟨rfl, rfl, rfl, trivial⟩, (.one .here (.one .here (.one .here .nil)))⟩⟩
  · rintro t m ⟨i55, a56, h, hF⟩
    refine wc_fit hF ?_
    clear hF
    subst qk57
    refine wc_seq ?_
    refine wc_ops ?_
    refine wj_q _ (q_ld (p := [.ints .u64 4 (a56)]) rfl (.there (.there .here)) rfl) ?_
    refine wj_q _ (q_mv rfl) ?_
    refine wj_e (ef_st (q := [.ints .u64 4 (a56)]) rfl rfl rfl rfl rfl .here ?_)
    refine wj_q _ (q_mv rfl) ?_
    refine wj_nil ?_
    refine wc_ret ?_
    revert h; refine ret_i fun h => ?_
    subst h
    exact ⟨_, (.cons (.agg rfl .here rfl) (.cons (.tmp rfl) .nil)), rfl⟩
/- farebox/scalar.below -/
def scalar_below_b2 (k297 : (List Int) → Option ((List Int))) (a491 : List Int) (k541 : Unit → Option ((List Int))) (k570 : (Int) → Option ((List Int))) (i569 : Int) : Option ((List Int)) :=
 br ((decide (i569 ≥ 0))) (
 chk (inB i569 4) <|
 chk (inB i569 4) <|
 bnd (a491.getD (i569).toNat 0) fun z577 =>
 bnd (G_order.getD (i569).toNat 0) fun z578 =>
 br ((decide (z577 < z578))) (
 k297 a491
 ) (
 chk (inB i569 4) <|
 chk (inB i569 4) <|
 bnd (a491.getD (i569).toNat 0) fun z583 =>
 bnd (G_order.getD (i569).toNat 0) fun z584 =>
 br ((decide (z583 > z584))) (
 k541 ()
 ) (
 bnd (IntKind.wrap .i64 (i569 - 1)) fun z587 =>
 k570 z587
 )
 )
 ) (
 k541 ()
 )
def scalar_below_l2 (k297 : (List Int) → Option ((List Int))) (a491 : List Int) (k541 : Unit → Option ((List Int))) : Nat → (Int) → Option ((List Int))
  | 0, _ => none
  | n + 1, i569 => scalar_below_b2 k297 a491 k541 (scalar_below_l2 k297 a491 k541 n) i569
def scalar_below_b1 (k297 : (List Int) → Option ((List Int))) (k492 : (List Int) → Option ((List Int))) (a491 : List Int) : Option ((List Int)) :=
 jn (fun (_ : Unit) => opt (scalar_minus a491 G_order) fun y589 =>
 k492 y589.1) fun k541 => scalar_below_l2 k297 a491 k541 big 3
def scalar_below_l1 (k297 : (List Int) → Option ((List Int))) : Nat → (List Int) → Option ((List Int))
  | 0, _ => none
  | n + 1, a491 => scalar_below_b1 k297 (scalar_below_l1 k297 n) a491
def scalar_below (p0 : List Int) : Option ((List Int)) :=
 jn (fun (a296 : List Int) => some a296) fun k297 => scalar_below_l1 k297 big p0
theorem scalar_below_spec {W : World} {r : (List Int)} {p0 : List Int} (h : scalar_below p0 = some r) (hG : Globs W) :
    Calls Tryd.prog 91 [agg [.ints .u64 4 (p0)]].toArray W (ret1 W (agg [.ints .u64 4 (r)])) := by
  unfold scalar_below at h
  refine calls_val mo ok91 rfl ?_
  refine wc_seq ?_
  refine wc_ops ?_
  refine wj_e (ef_bx (s := [.ints .u64 4 (p0)]) rfl fun b2 hb2 => ?_)
  refine wj_e (ef_al fun b3 hb3 => ?_)
  refine wj_nil ?_
  refine wc_scope ?_
  refine wc_seq ?_
  refine wc_lbl ?_
  refine wc_seq ?_
  revert h
  refine jn_i fun k297 qk297 => ?_
  intro h
  refine wc_mono2 (G := fun t m => ∃ (a296 : List Int), k297 a296 = some r ∧ Fit [(1, .pointer (some ⟨b2, 0, none⟩)), (2, .pointer (some ⟨b3, 0, none⟩))] (ck b3 93 [.ints .u64 4 ((List.replicate 4 0))] :: (ck b2 93 [.ints .u64 4 (a296)] :: [])) t m) ?_ ?_
  · refine wc_block ?_
    refine wc_loopJ (fun n493 t m => ∃ (a491 : List Int), scalar_below_l1 k297 n493 a491 = some r ∧ Fit [(1, .pointer (some ⟨b2, 0, none⟩)), (2, .pointer (some ⟨b3, 0, none⟩))] (ck b3 93 [.ints .u64 4 ((List.replicate 4 0))] :: (ck b2 93 [.ints .u64 4 (a491)] :: [])) t m) big ?_ ?_
    · exact ⟨p0, h, ⟨⟨rfl, rfl, trivial⟩, (.one .here (.one .here .nil))⟩⟩
    · rintro n493 t m ⟨a491, h, hF⟩
      refine wc_fit hF ?_
      clear hF
      rcases n493 with _ | n493
      · exact none_i h
      have h : scalar_below_b1 k297 (scalar_below_l1 k297 n493) a491 = some r := h
      unfold scalar_below_b1 at h
      obtain ⟨k492, qk492⟩ : ∃ k, k = scalar_below_l1 k297 n493 := ⟨_, rfl⟩
      try rw [← qk492] at h
      refine wc_block ?_
      refine wc_seq ?_
      refine wc_seq ?_
      refine wc_ops ?_
      refine wj_q _ (q_mv rfl) ?_
      refine wj_nil ?_
      revert h
      refine jn_i fun k541 qk541 => ?_
      intro h
      refine wc_mono2 (G := fun t m => k541 () = some r ∧ Fit [(1, .pointer (some ⟨b2, 0, none⟩)), (2, .pointer (some ⟨b3, 0, none⟩))] (ck b3 93 [.ints .u64 4 ((List.replicate 4 0))] :: (ck b2 93 [.ints .u64 4 (a491)] :: [])) t m) ?_ ?_
      · refine wc_block ?_
        refine wc_loopJ (fun n571 t m => ∃ (i569 : Int), scalar_below_l2 k297 a491 k541 n571 i569 = some r ∧ Fit [(1, .pointer (some ⟨b2, 0, none⟩)), (2, .pointer (some ⟨b3, 0, none⟩)), (3, .int .i64 (i569))] (ck b3 93 [.ints .u64 4 ((List.replicate 4 0))] :: (ck b2 93 [.ints .u64 4 (a491)] :: [])) t m) big ?_ ?_
        · exact ⟨3, h, ⟨⟨rfl, rfl, rfl, trivial⟩, (.one .here (.one .here .nil))⟩⟩
        · rintro n571 t m ⟨i569, h, hF⟩
          refine wc_fit hF ?_
          clear hF
          rcases n571 with _ | n571
          · exact none_i h
          have h : scalar_below_b2 k297 a491 k541 (scalar_below_l2 k297 a491 k541 n571) i569 = some r := h
          unfold scalar_below_b2 at h
          obtain ⟨k570, qk570⟩ : ∃ k, k = scalar_below_l2 k297 a491 k541 n571 := ⟨_, rfl⟩
          try rw [← qk570] at h
          refine wc_seq ?_
          refine wc_seq ?_
          refine wc_ops ?_
          refine wj_q _ (q_mv rfl) ?_
          refine wj_q _ (q_bin rfl rfl rfl) ?_
          refine wj_nil ?_
          refine wc_if (c := (decide (i569 ≥ 0))) rfl (fun d573 => ?_) (fun d573 => ?_)
          · have h := br_t h d573
            refine wc_skip ?_
            refine wc_seq ?_
            refine wc_block ?_
            refine wc_seq ?_
            refine wc_seq ?_
            revert h
            refine chk_i fun c575 => ?_
            refine chk_i fun c576 => ?_
            refine bnd_i fun z577 ez577 => ?_
            refine bnd_i fun z578 ez578 => ?_
            intro h
            refine wc_draw ?_
            refine ws_p1 _ (q_mv rfl) ?_
            refine ws_p1 _ (q_ia rfl rfl (inB_z c575)) ?_
            refine ws_p1 _ (q_mv rfl) ?_
            refine ws_p1 _ (q_ia rfl rfl (inB_z c576)) ?_
            refine ws_q1 _ (iz ez577 (q_ldi (base := 0) rfl (.there .here) rfl (inB_n c575))) ?_
            refine ws_q1 _ (iz ez578 (q_memi rfl (hG.g0) (by simp) (inB_n c576))) ?_
            refine ws_p1 _ (q_bin rfl rfl rfl) ?_
            refine ws_nil ?_
            refine wc_if (c := (decide (z577 < z578))) rfl (fun d579 => ?_) (fun d579 => ?_)
            · have h := br_t h d579
              refine wc_exit _ rfl ?_
              exact ⟨a491, h, ⟨⟨rfl, rfl, trivial⟩, (.one .here (.one .here .nil))⟩⟩
            · have h := br_f h d579
              refine wc_skip ?_
              refine wc_seq ?_
              revert h
              refine chk_i fun c581 => ?_
              refine chk_i fun c582 => ?_
              refine bnd_i fun z583 ez583 => ?_
              refine bnd_i fun z584 ez584 => ?_
              intro h
              refine wc_draw ?_
              refine ws_p1 _ (q_mv rfl) ?_
              refine ws_p1 _ (q_ia rfl rfl (inB_z c581)) ?_
              refine ws_p1 _ (q_mv rfl) ?_
              refine ws_p1 _ (q_ia rfl rfl (inB_z c582)) ?_
              refine ws_q1 _ (iz ez583 (q_ldi (base := 0) rfl (.there .here) rfl (inB_n c581))) ?_
              refine ws_q1 _ (iz ez584 (q_memi rfl (hG.g0) (by simp) (inB_n c582))) ?_
              refine ws_p1 _ (q_bin rfl rfl rfl) ?_
              refine ws_nil ?_
              refine wc_if (c := (decide (z583 > z584))) rfl (fun d585 => ?_) (fun d585 => ?_)
              · have h := br_t h d585
                refine wc_exit _ rfl ?_
                exact ⟨h, ⟨⟨rfl, rfl, trivial⟩, (.one .here (.one .here .nil))⟩⟩
              · have h := br_f h d585
                refine wc_skip ?_
                revert h
                refine bnd_i fun z587 ez587 => ?_
                intro h
                refine wc_ops ?_
                refine wj_q _ (q_mv rfl) ?_
                refine wj_q _ (iz ez587 (q_bin rfl rfl rfl)) ?_
                refine wj_q _ (q_mv rfl) ?_
                refine wj_nil ?_
                rw [qk570] at h
                exact ⟨n571, Nat.lt_succ_self _, z587, h, ⟨⟨rfl, rfl, rfl, trivial⟩, (.one .here (.one .here .nil))⟩⟩
          · have h := br_f h d573
            refine wc_exit _ rfl ?_
            exact ⟨h, ⟨⟨rfl, rfl, trivial⟩, (.one .here (.one .here .nil))⟩⟩
      · rintro t m ⟨h, hF⟩
        refine wc_fit hF ?_
        clear hF
        subst qk541
        revert h
        refine opt_i fun y589 ey589 => ?_
        intro h
        refine wc_ops ?_
        refine wj_q _ (q_ld (p := [.ints .u64 4 (a491)]) rfl (.there .here) rfl) ?_
        refine wj_q _ (q_mem (o0 := 0) (off := 0) rfl (hG.g0) (by simp) rfl) ?_
        refine wj_q _ (q_call (vs := [agg [.ints .u64 4 (a491)], agg [.ints .u64 4 (G_order)]]) (v := .tuple #[agg [.ints .u64 4 (y589.1)], .int .u64 (y589.2)]) rfl (fun w hw => scalar_minus_spec (r := y589) (p0 := a491) (p1 := G_order) ey589 )) ?_
        refine wj_q _ (q_mv rfl) ?_
        refine wj_q _ (q_ext rfl rfl) ?_
        refine wj_q _ (q_ext rfl rfl) ?_
        refine wj_e (ef_st (q := [.ints .u64 4 (y589.1)]) rfl rfl rfl rfl rfl (.there .here) ?_)
        refine wj_nil ?_
        rw [qk492] at h
        exact ⟨n493, Nat.lt_succ_self _, y589.1, h, ⟨⟨rfl, rfl, trivial⟩, (.one .here (.one .here .nil))⟩⟩
  · rintro t m ⟨a296, h, hF⟩
    refine wc_fit hF ?_
    clear hF
    subst qk297
    refine wc_seq ?_
    refine wc_ops ?_
    refine wj_q _ (q_ld (p := [.ints .u64 4 (a296)]) rfl (.there .here) rfl) ?_
    refine wj_e (ef_st (q := [.ints .u64 4 (a296)]) rfl rfl rfl rfl rfl .here ?_)
    refine wj_nil ?_
    refine wc_ret ?_
    revert h; refine ret_i fun h => ?_
    subst h
    exact ⟨_, (.cons (.agg rfl .here rfl) .nil), rfl⟩
/- farebox/scalar.times -/
def scalar_times_b2 (p1 : List Int) (i1130 : Int) (z1137 : Int) (k1245 : (List (Int)) → (Int) → Option ((List Int))) (k1315 : (List (Int)) → (Int) → (Int) → Option ((List Int))) (l1311 : List (Int)) (i1313 : Int) (i1314 : Int) : Option ((List Int)) :=
 br ((decide (i1314 < (p1.length : Int)))) (
 chk (inB i1314 p1.length) <|
 bnd (p1.getD (i1314).toNat 0) fun z1321 =>
 opt (math_bits_Mul64 z1137 z1321) fun y1323 =>
 bnd (IntKind.wrap .i64 (i1130 + i1314)) fun z1325 =>
 chk (inB z1325 l1311.length) <|
 bnd (l1311.getD (z1325).toNat 0) fun z1327 =>
 chk (addOk y1323.2 z1327 0) <|
 bnd (addLo y1323.2 z1327 0) fun z1329 =>
 bnd (addHi y1323.2 z1327 0) fun z1330 =>
 bnd (IntKind.wrap .u64 (y1323.1 + z1330)) fun z1332 =>
 chk (addOk z1329 i1313 0) <|
 bnd (addLo z1329 i1313 0) fun z1335 =>
 bnd (addHi z1329 i1313 0) fun z1336 =>
 bnd (IntKind.wrap .i64 (i1130 + i1314)) fun z1338 =>
 bnd (IntKind.wrap .u64 (z1332 + z1336)) fun z1339 =>
 chk (inB z1338 l1311.length) <|
 bnd (setG 0 l1311 (z1338).toNat z1335) fun l1341 =>
 bnd (IntKind.wrap .i64 (i1314 + 1)) fun z1345 =>
 k1315 l1341 z1339 z1345
 ) (
 k1245 l1311 i1313
 )
def scalar_times_l2 (p1 : List Int) (i1130 : Int) (z1137 : Int) (k1245 : (List (Int)) → (Int) → Option ((List Int))) : Nat → (List (Int)) → (Int) → (Int) → Option ((List Int))
  | 0, _, _, _ => none
  | n + 1, l1311, i1313, i1314 => scalar_times_b2 p1 i1130 z1137 k1245 (scalar_times_l2 p1 i1130 z1137 k1245 n) l1311 i1313 i1314
def scalar_times_b1 (p0 : List Int) (p1 : List Int) (k683 : (List (Int)) → Option ((List Int))) (k1131 : (List (Int)) → (Int) → Option ((List Int))) (l1128 : List (Int)) (i1130 : Int) : Option ((List Int)) :=
 br ((decide (i1130 < (p0.length : Int)))) (
 chk (inB i1130 p0.length) <|
 bnd (p0.getD (i1130).toNat 0) fun z1137 =>
 jn (fun (l1242 : List (Int)) (i1244 : Int) => bnd (IntKind.wrap .i64 (i1130 + (p1.length : Int))) fun z1347 =>
 chk (inB z1347 l1242.length) <|
 bnd (setG 0 l1242 (z1347).toNat i1244) fun l1349 =>
 bnd (IntKind.wrap .i64 (i1130 + 1)) fun z1353 =>
 k1131 l1349 z1353) fun k1245 => scalar_times_l2 p1 i1130 z1137 k1245 big l1128 0 0
 ) (
 k683 l1128
 )
def scalar_times_l1 (p0 : List Int) (p1 : List Int) (k683 : (List (Int)) → Option ((List Int))) : Nat → (List (Int)) → (Int) → Option ((List Int))
  | 0, _, _ => none
  | n + 1, l1128, i1130 => scalar_times_b1 p0 p1 k683 (scalar_times_l1 p0 p1 k683 n) l1128 i1130
def scalar_times (p0 : List Int) (p1 : List Int) : Option ((List Int)) :=
 bnd (IntKind.wrap .i64 ((p0.length : Int) + (p1.length : Int))) fun z3 =>
 chk (mkB 8 z3 z3) <|
 jn (fun (l681 : List (Int)) => some l681) fun k683 => scalar_times_l1 p0 p1 k683 big (List.replicate (z3).toNat 0 : List (Int)) 0
theorem scalar_times_spec {W : World} {r : (List Int)} {p0 : List Int} {p1 : List Int} {v0 : Value} {v1 : Value} (h : scalar_times p0 p1 = some r) (A0 : RdSl (El.int .u64) W v0 p0) (A1 : RdSl (El.int .u64) W v1 p1) :
    Calls Tryd.prog 92 [v0, v1].toArray W (retS W [] (fun v Ms => ∃ (u0 : Value) (M0 : List Chunk), v = u0 ∧ Ms = [.all M0] ∧ OwnSl (El.int .u64) u0 M0 r)) := by
  unfold scalar_times at h
  refine calls_memT mo ok92 rfl (sat0 _) ?_
  refine wc_seq ?_
  refine wc_ops ?_
  refine wj_q _ (q_mv rfl) ?_
  refine wj_nil ?_
  refine wc_seq ?_
  revert h
  refine bnd_i fun z3 ez3 => ?_
  refine chk_i fun c4 => ?_
  intro h
  refine wc_ops ?_
  refine wj_q _ (q_mv rfl) ?_
  refine wj_q _ (q_lenP rfl (Shp.rd A0)) ?_
  refine wj_q _ (q_mv rfl) ?_
  refine wj_q _ (q_lenP rfl (Shp.rd A1)) ?_
  refine wj_q _ (iz ez3 (q_bin rfl rfl rfl)) ?_
  refine wj_e (ef_mksO (E := (El.int .u64)) rfl rfl rfl c4 fun v5 ms6 O7 => ?_)
  refine wj_q _ (q_mv rfl) ?_
  refine wj_nil ?_
  refine wc_seq ?_
  refine wc_seq ?_
  refine wc_ops ?_
  refine wj_q _ (q_mv rfl) ?_
  refine wj_q _ (q_lenP rfl (Shp.rd A0)) ?_
  refine wj_q _ (q_mv rfl) ?_
  refine wj_nil ?_
  revert h
  refine jn_i fun k683 qk683 => ?_
  intro h
  refine wc_mono2 (G := fun t m => ∃ (l681 : List (Int)) (v679 : Value) (ms680 : List Chunk), k683 l681 = some r ∧ OwnSl (El.int .u64) v679 ms680 l681 ∧ Fit [(5, v679)] (ms680 ++ []) t m) ?_ ?_
  · refine wc_block ?_
    refine wc_loopJ (fun n1132 t m => ∃ (l1128 : List (Int)) (i1130 : Int) (v1126 : Value) (ms1127 : List Chunk), scalar_times_l1 p0 p1 k683 n1132 l1128 i1130 = some r ∧ OwnSl (El.int .u64) v1126 ms1127 l1128 ∧ Fit [(1, v1), (5, v1126), (20, v0), (21, .int .i64 ((p0.length : Int))), (22, .int .i64 (i1130))] (ms1127 ++ []) t m) big ?_ ?_
    · exact ⟨(List.replicate (z3).toNat 0 : List (Int)), 0, v5, ms6, h, O7, ⟨⟨rfl, rfl, rfl, rfl, rfl, trivial⟩, (.all .here .nil)⟩⟩
    · rintro n1132 t m ⟨l1128, i1130, v1126, ms1127, h, O1129, hF⟩
      refine wc_fit hF ?_
      clear hF
      rcases n1132 with _ | n1132
      · exact none_i h
      have h : scalar_times_b1 p0 p1 k683 (scalar_times_l1 p0 p1 k683 n1132) l1128 i1130 = some r := h
      unfold scalar_times_b1 at h
      obtain ⟨k1131, qk1131⟩ : ∃ k, k = scalar_times_l1 p0 p1 k683 n1132 := ⟨_, rfl⟩
      try rw [← qk1131] at h
      refine wc_seq ?_
      refine wc_ops ?_
      refine wj_q _ (q_bin rfl rfl rfl) ?_
      refine wj_nil ?_
      refine wc_seq ?_
      refine wc_if (c := (decide (i1130 < (p0.length : Int)))) rfl (fun d1134 => ?_) (fun d1134 => ?_)
      · have h := br_t h d1134
        refine wc_skip ?_
        refine wc_seq ?_
        refine wc_block ?_
        refine wc_seq ?_
        revert h
        refine chk_i fun c1136 => ?_
        refine bnd_i fun z1137 ez1137 => ?_
        intro h
        refine wc_ops ?_
        refine wj_q _ (q_mv rfl) ?_
        refine wj_q _ (q_iasP rfl rfl (Shp.rd A0) c1136) ?_
        refine wj_q _ (iz ez1137 (q_ldM10 (E := (El.int .u64)) (s := [.one (.int .u64 (p0.getD (i1130).toNat 0))]) rfl (rd_arg A0 apart0) (inB_n c1136) rfl rfl)) ?_
        refine wj_q _ (q_mv rfl) ?_
        refine wj_q _ (q_mv rfl) ?_
        refine wj_nil ?_
        refine wc_seq ?_
        refine wc_ops ?_
        refine wj_q _ (q_mv rfl) ?_
        refine wj_nil ?_
        refine wc_seq ?_
        refine wc_seq ?_
        refine wc_ops ?_
        refine wj_q _ (q_mv rfl) ?_
        refine wj_q _ (q_lenP rfl (Shp.rd A1)) ?_
        refine wj_q _ (q_mv rfl) ?_
        refine wj_nil ?_
        revert h
        refine jn_i fun k1245 qk1245 => ?_
        intro h
        refine wc_mono2 (G := fun t m => ∃ (l1242 : List (Int)) (i1244 : Int) (v1240 : Value) (ms1241 : List Chunk), k1245 l1242 i1244 = some r ∧ OwnSl (El.int .u64) v1240 ms1241 l1242 ∧ Fit [(1, v1), (5, v1240), (6, .int .i64 (i1130)), (8, .int .u64 (i1244)), (20, v0), (21, .int .i64 ((p0.length : Int))), (22, .int .i64 (i1130))] (ms1241 ++ []) t m) ?_ ?_
        · refine wc_block ?_
          refine wc_loopJ (fun n1316 t m => ∃ (l1311 : List (Int)) (i1313 : Int) (i1314 : Int) (v1309 : Value) (ms1310 : List Chunk), scalar_times_l2 p1 i1130 z1137 k1245 n1316 l1311 i1313 i1314 = some r ∧ OwnSl (El.int .u64) v1309 ms1310 l1311 ∧ Fit [(1, v1), (5, v1309), (6, .int .i64 (i1130)), (7, .int .u64 (z1137)), (8, .int .u64 (i1313)), (20, v0), (21, .int .i64 ((p0.length : Int))), (22, .int .i64 (i1130)), (27, v1), (28, .int .i64 ((p1.length : Int))), (29, .int .i64 (i1314))] (ms1310 ++ []) t m) big ?_ ?_
          · exact ⟨l1128, 0, 0, v1126, ms1127, h, O1129, ⟨⟨rfl, rfl, rfl, rfl, rfl, rfl, rfl, rfl, rfl, rfl, rfl, trivial⟩, (.all .here .nil)⟩⟩
          · rintro n1316 t m ⟨l1311, i1313, i1314, v1309, ms1310, h, O1312, hF⟩
            refine wc_fit hF ?_
            clear hF
            rcases n1316 with _ | n1316
            · exact none_i h
            have h : scalar_times_b2 p1 i1130 z1137 k1245 (scalar_times_l2 p1 i1130 z1137 k1245 n1316) l1311 i1313 i1314 = some r := h
            unfold scalar_times_b2 at h
            obtain ⟨k1315, qk1315⟩ : ∃ k, k = scalar_times_l2 p1 i1130 z1137 k1245 n1316 := ⟨_, rfl⟩
            try rw [← qk1315] at h
            refine wc_seq ?_
            refine wc_ops ?_
            refine wj_q _ (q_bin rfl rfl rfl) ?_
            refine wj_nil ?_
            refine wc_seq ?_
            refine wc_if (c := (decide (i1314 < (p1.length : Int)))) rfl (fun d1318 => ?_) (fun d1318 => ?_)
            · have h := br_t h d1318
              refine wc_skip ?_
              refine wc_seq ?_
              refine wc_block ?_
              refine wc_seq ?_
              revert h
              refine chk_i fun c1320 => ?_
              refine bnd_i fun z1321 ez1321 => ?_
              intro h
              refine wc_ops ?_
              refine wj_q _ (q_mv rfl) ?_
              refine wj_q _ (q_iasP rfl rfl (Shp.rd A1) c1320) ?_
              refine wj_q _ (iz ez1321 (q_ldM10 (E := (El.int .u64)) (s := [.one (.int .u64 (p1.getD (i1314).toNat 0))]) rfl (rd_arg A1 apart0) (inB_n c1320) rfl rfl)) ?_
              refine wj_q _ (q_mv rfl) ?_
              refine wj_q _ (q_mv rfl) ?_
              refine wj_nil ?_
              refine wc_seq ?_
              revert h
              refine opt_i fun y1323 ey1323 => ?_
              intro h
              refine wc_ops ?_
              refine wj_q _ (q_mv rfl) ?_
              refine wj_q _ (q_mv rfl) ?_
              refine wj_q _ (q_call (vs := [.int .u64 (z1137), .int .u64 (z1321)]) (v := .tuple #[.int .u64 (y1323.1), .int .u64 (y1323.2)]) rfl (fun w hw => math_bits_Mul64_spec (r := y1323) (p0 := z1137) (p1 := z1321) ey1323 )) ?_
              refine wj_q _ (q_mv rfl) ?_
              refine wj_q _ (q_ext rfl rfl) ?_
              refine wj_q _ (q_ext rfl rfl) ?_
              refine wj_q _ (q_mv rfl) ?_
              refine wj_q _ (q_mv rfl) ?_
              refine wj_nil ?_
              refine wc_seq ?_
              revert h
              refine bnd_i fun z1325 ez1325 => ?_
              refine chk_i fun c1326 => ?_
              refine bnd_i fun z1327 ez1327 => ?_
              refine chk_i fun c1328 => ?_
              refine bnd_i fun z1329 ez1329 => ?_
              refine bnd_i fun z1330 ez1330 => ?_
              intro h
              refine wc_ops ?_
              refine wj_q _ (q_mv rfl) ?_
              refine wj_q _ (q_mv rfl) ?_
              refine wj_q _ (q_mv rfl) ?_
              refine wj_q _ (q_mv rfl) ?_
              refine wj_q _ (iz ez1325 (q_bin rfl rfl rfl)) ?_
              refine wj_q _ (q_iasP rfl rfl (Shp.own O1312) c1326) ?_
              refine wj_q _ (iz ez1327 (q_ldM10 (E := (El.int .u64)) (s := [.one (.int .u64 (l1311.getD (z1325).toNat 0))]) rfl (rd_own O1312 .here) (inB_n c1326) rfl rfl)) ?_
              refine wj_q _ (q_xcall rfl ext_add (xadd ez1329 ez1330 c1328)) ?_
              refine wj_q _ (q_mv rfl) ?_
              refine wj_q _ (q_ext rfl rfl) ?_
              refine wj_q _ (q_ext rfl rfl) ?_
              refine wj_q _ (q_mv rfl) ?_
              refine wj_q _ (q_mv rfl) ?_
              refine wj_nil ?_
              refine wc_seq ?_
              revert h
              refine bnd_i fun z1332 ez1332 => ?_
              intro h
              refine wc_ops ?_
              refine wj_q _ (q_mv rfl) ?_
              refine wj_q _ (q_mv rfl) ?_
              refine wj_q _ (iz ez1332 (q_bin rfl rfl rfl)) ?_
              refine wj_q _ (q_mv rfl) ?_
              refine wj_nil ?_
              refine wc_seq ?_
              revert h
              refine chk_i fun c1334 => ?_
              refine bnd_i fun z1335 ez1335 => ?_
              refine bnd_i fun z1336 ez1336 => ?_
              intro h
              refine wc_ops ?_
              refine wj_q _ (q_mv rfl) ?_
              refine wj_q _ (q_mv rfl) ?_
              refine wj_q _ (q_xcall rfl ext_add (xadd ez1335 ez1336 c1334)) ?_
              refine wj_q _ (q_mv rfl) ?_
              refine wj_q _ (q_ext rfl rfl) ?_
              refine wj_q _ (q_ext rfl rfl) ?_
              refine wj_q _ (q_mv rfl) ?_
              refine wj_q _ (q_mv rfl) ?_
              refine wj_nil ?_
              revert h
              refine bnd_i fun z1338 ez1338 => ?_
              refine bnd_i fun z1339 ez1339 => ?_
              refine chk_i fun c1340 => ?_
              refine bnd_i fun l1341 el1341 => ?_
              intro h
              refine wc_ops ?_
              refine wj_q _ (q_mv rfl) ?_
              refine wj_q _ (q_mv rfl) ?_
              refine wj_q _ (q_mv rfl) ?_
              refine wj_q _ (iz ez1338 (q_bin rfl rfl rfl)) ?_
              refine wj_q _ (q_mv rfl) ?_
              refine wj_q _ (q_mv rfl) ?_
              refine wj_q _ (q_mv rfl) ?_
              refine wj_q _ (iz ez1339 (q_bin rfl rfl rfl)) ?_
              refine wj_q _ (q_iasP rfl rfl (Shp.own O1312) c1340) ?_
              refine wj_e (ef_stO (E := (El.int .u64)) el1341 O1312 .here rfl rfl rfl (inB_n c1340) fun ms1342 O1343 => ?_)
              refine wj_q _ (q_mv rfl) ?_
              refine wj_nil ?_
              revert h
              refine bnd_i fun z1345 ez1345 => ?_
              intro h
              refine wc_ops ?_
              refine wj_q _ (iz ez1345 (q_bin rfl rfl rfl)) ?_
              refine wj_q _ (q_mv rfl) ?_
              refine wj_nil ?_
              rw [qk1315] at h
              exact ⟨n1316, Nat.lt_succ_self _, l1341, z1339, z1345, v1309, ms1342, h, O1343, ⟨⟨rfl, rfl, rfl, rfl, rfl, rfl, rfl, rfl, rfl, rfl, rfl, trivial⟩, (.all .here .nil)⟩⟩
            · have h := br_f h d1318
              refine wc_exit _ rfl ?_
              exact ⟨l1311, i1313, v1309, ms1310, h, O1312, ⟨⟨rfl, rfl, rfl, rfl, rfl, rfl, rfl, trivial⟩, (.all .here .nil)⟩⟩
        · rintro t m ⟨l1242, i1244, v1240, ms1241, h, O1243, hF⟩
          refine wc_fit hF ?_
          clear hF
          subst qk1245
          revert h
          refine bnd_i fun z1347 ez1347 => ?_
          refine chk_i fun c1348 => ?_
          refine bnd_i fun l1349 el1349 => ?_
          intro h
          refine wc_ops ?_
          refine wj_q _ (q_mv rfl) ?_
          refine wj_q _ (q_mv rfl) ?_
          refine wj_q _ (q_mv rfl) ?_
          refine wj_q _ (q_lenP rfl (Shp.rd A1)) ?_
          refine wj_q _ (iz ez1347 (q_bin rfl rfl rfl)) ?_
          refine wj_q _ (q_mv rfl) ?_
          refine wj_q _ (q_iasP rfl rfl (Shp.own O1243) c1348) ?_
          refine wj_e (ef_stO (E := (El.int .u64)) el1349 O1243 .here rfl rfl rfl (inB_n c1348) fun ms1350 O1351 => ?_)
          refine wj_nil ?_
          revert h
          refine bnd_i fun z1353 ez1353 => ?_
          intro h
          refine wc_ops ?_
          refine wj_q _ (iz ez1353 (q_bin rfl rfl rfl)) ?_
          refine wj_q _ (q_mv rfl) ?_
          refine wj_nil ?_
          rw [qk1131] at h
          exact ⟨n1132, Nat.lt_succ_self _, l1349, z1353, v1240, ms1350, h, O1351, ⟨⟨rfl, rfl, rfl, rfl, rfl, trivial⟩, (.all .here .nil)⟩⟩
      · have h := br_f h d1134
        refine wc_exit _ rfl ?_
        exact ⟨l1128, v1126, ms1127, h, O1129, ⟨⟨rfl, trivial⟩, (.all .here .nil)⟩⟩
  · rintro t m ⟨l681, v679, ms680, h, O682, hF⟩
    refine wc_fit hF ?_
    clear hF
    subst qk683
    refine wc_seq ?_
    refine wc_ops ?_
    refine wj_q _ (q_mv rfl) ?_
    refine wj_q _ (q_mv rfl) ?_
    refine wj_nil ?_
    refine wc_ret ?_
    revert h; refine ret_i fun h => ?_
    subst h
    exact ⟨_, _, (.cons (.tmp rfl) .nil), (.all .here .nil), ⟨_, rfl, ⟨v679, ms680, rfl, rfl, O682⟩⟩⟩
end Go.Proofs.YtiflckckekjbnaaDoor
