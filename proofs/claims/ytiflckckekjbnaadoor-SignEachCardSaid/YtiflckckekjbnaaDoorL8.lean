/- Mirrors. -/
import Derived.Test.YtiflckckekjbnaaDoorL7
namespace Go.Proofs.YtiflckckekjbnaaDoor
open Go Go.Sx Go.RowKit
set_option linter.all false
set_option maxHeartbeats 400000
set_option maxRecDepth 100000
/- (*farebox/sha512.Digest).Sum -/
def sha512_Digest_Sum_b1 (y16 : sha512_Digest) (k75 : (List Int) → Option ((List Int) × sha512_Digest)) (k109 : (Int) → (List Int) → Option ((List Int) × sha512_Digest)) (i107 : Int) (a108 : List Int) : Option ((List Int) × sha512_Digest) :=
 br ((decide (i107 < 8))) (
 chk (inB i107 8) <|
 bnd (y16.gstate.getD (i107).toNat 0) fun z115 =>
 bnd (IntKind.wrap .i64 (8 * i107)) fun z117 =>
 chk (cutB z117 64 64) <|
 opt (bits_StoreBE_uint64 z115) fun y119 =>
 bnd (wr a108 (z117).toNat (y119.take (64 - (z117).toNat))) fun l125 =>
 bnd (IntKind.wrap .i64 (i107 + 1)) fun z127 =>
 k109 z127 l125
 ) (
 k75 a108
 )
def sha512_Digest_Sum_l1 (y16 : sha512_Digest) (k75 : (List Int) → Option ((List Int) × sha512_Digest)) : Nat → (Int) → (List Int) → Option ((List Int) × sha512_Digest)
  | 0, _, _ => none
  | n + 1, i107, a108 => sha512_Digest_Sum_b1 y16 k75 (sha512_Digest_Sum_l1 y16 k75 n) i107 a108
def sha512_Digest_Sum (p0 : sha512_Digest) : Option ((List Int) × sha512_Digest) :=
 opt (sha512_Digest_Clone p0) fun y4 =>
 opt (sha512_Pad y4.2.glength) fun y10 =>
 opt (sha512_Digest_Write y4.1 y10) fun y16 =>
 jn (fun (a74 : List Int) => some (a74, y4.2)) fun k75 => sha512_Digest_Sum_l1 y16 k75 big 0 (List.replicate 64 0)
theorem sha512_Digest_Sum_spec {W : World} {r : (List Int) × sha512_Digest} {p0 : sha512_Digest} {b : Nat} {T : TypeId} (h : sha512_Digest_Sum p0 = some r) (h0 : Sat W [b] (ck b T [.ints .u64 8 (p0.gstate), .ints .u8 128 (p0.gheld), .one (.int .i64 (p0.ghave)), .one (.int .u64 (p0.glength))] :: []) W) (hG : Globs W) (hS : ∀ g, g < ng → g ∉ [b]) :
    Calls Tryd.prog 48 [.pointer (some ⟨b, 0, none⟩)].toArray W (retS W [b] (fun v Ms => v = agg [.ints .u8 64 (r.1)] ∧ Ms = [.one (ck b T [.ints .u64 8 (r.2.gstate), .ints .u8 128 (r.2.gheld), .one (.int .i64 (r.2.ghave)), .one (.int .u64 (r.2.glength))])])) := by
  unfold sha512_Digest_Sum at h
  refine calls_memT mo ok48 rfl h0 ?_
  refine wc_seq ?_
  refine wc_ops ?_
  refine wj_e (ef_al fun b2 hb2 => ?_)
  refine wj_nil ?_
  refine wc_seq ?_
  revert h
  refine opt_i fun y4 ey4 => ?_
  intro h
  refine wc_ops ?_
  refine wj_q _ (q_mv rfl) ?_
  refine wj_e (ef_callS (mS := [_]) rfl (Take1.perm (.there .here)) (fun w hw => sha512_Digest_Clone_spec (b := b) (r := y4) (p0 := p0) ey4 (sat_own hw (mS := [_]) (Take1.perm (.there .here))) ) fun v5 Msv5 R6 => ?_)
  obtain ⟨b7, T8, rfl, rfl⟩ := R6
  refine wj_q _ (q_mv rfl) ?_
  refine wj_nil ?_
  refine wc_seq ?_
  revert h
  refine opt_i fun y10 ey10 => ?_
  refine opt_i fun y16 ey16 => ?_
  intro h
  refine wc_ops ?_
  refine wj_q _ (q_mv rfl) ?_
  refine wj_q _ (q_mv rfl) ?_
  refine wj_q _ (q_nilc rfl) ?_
  refine wj_q _ (q_fa rfl) ?_
  refine wj_q _ (q_ld1 rfl (.there .here) rfl) ?_
  refine wj_e (ef_callS0 rfl (fun w hw => sha512_Pad_spec (r := y10) (p0 := y4.2.glength) ey10 ) fun v11 Msv11 R12 => ?_)
  obtain ⟨_, ms14, rfl, rfl, O15⟩ := R12
  refine wj_e (ef_callS (mS := [_]) rfl (Take1.perm (.app .here)) (fun w hw => sha512_Digest_Write_spec (b := b7) (r := y16) (p0 := y4.1) (p1 := y10) ey16 (sat_own hw (mS := [_]) (Take1.perm (.app .here))) (hG.at hw hS) (hG.ap hS (.app .here) hw) ⟨(rd_own O15 .here) w hw, (apart_own (E := (El.int .u8)) O15 .here .here hw)⟩) fun v17 Msv17 R18 => ?_)
  obtain ⟨rfl, rfl⟩ := R18
  refine wj_nil ?_
  refine wc_seq ?_
  refine wc_ops ?_
  refine wj_e (ef_al fun b20 hb20 => ?_)
  refine wj_nil ?_
  refine wc_seq ?_
  refine wc_seq ?_
  refine wc_ops ?_
  refine wj_q _ (q_mv rfl) ?_
  refine wj_q _ (q_nilc rfl) ?_
  refine wj_q _ (q_fa rfl) ?_
  refine wj_q _ (q_ld (p := [.ints .u64 8 (y16.gstate)]) rfl (.there .here) rfl) ?_
  refine wj_q _ (q_mv rfl) ?_
  refine wj_nil ?_
  revert h
  refine jn_i fun k75 qk75 => ?_
  intro h
  refine wc_mono2 (G := fun t m => ∃ (a74 : List Int), k75 a74 = some r ∧ Fit [(2, .pointer (some ⟨b2, 0, none⟩)), (4, .pointer (some ⟨b20, 0, none⟩))] (ck b20 101 [.ints .u8 64 (a74)] :: (ck b7 T8 [.ints .u64 8 (y16.gstate), .ints .u8 128 (y16.gheld), .one (.int .i64 (y16.ghave)), .one (.int .u64 (y16.glength))] :: (ck b T [.ints .u64 8 (y4.2.gstate), .ints .u8 128 (y4.2.gheld), .one (.int .i64 (y4.2.ghave)), .one (.int .u64 (y4.2.glength))] :: (ck b2 101 [.ints .u8 64 ((List.replicate 64 0))] :: [])))) t m) ?_ ?_
  · refine wc_block ?_
    refine wc_loopJ (fun n110 t m => ∃ (i107 : Int) (a108 : List Int), sha512_Digest_Sum_l1 y16 k75 n110 i107 a108 = some r ∧ Fit [(2, .pointer (some ⟨b2, 0, none⟩)), (4, .pointer (some ⟨b20, 0, none⟩)), (19, agg [.ints .u64 8 (y16.gstate)]), (20, .int .i64 (i107))] (ck b20 101 [.ints .u8 64 (a108)] :: (ck b7 T8 [.ints .u64 8 (y16.gstate), .ints .u8 128 (y16.gheld), .one (.int .i64 (y16.ghave)), .one (.int .u64 (y16.glength))] :: (ck b T [.ints .u64 8 (y4.2.gstate), .ints .u8 128 (y4.2.gheld), .one (.int .i64 (y4.2.ghave)), .one (.int .u64 (y4.2.glength))] :: (ck b2 101 [.ints .u8 64 ((List.replicate 64 0))] :: [])))) t m) big ?_ ?_
    · exact ⟨0, (List.replicate 64 0), h, ⟨⟨rfl, rfl, rfl, rfl, trivial⟩, (.one .here (.one .here (.one (.app .here) (.one (.app .here) .nil))))⟩⟩
    · rintro n110 t m ⟨i107, a108, h, hF⟩
      refine wc_fit hF ?_
      clear hF
      rcases n110 with _ | n110
      · exact none_i h
      have h : sha512_Digest_Sum_b1 y16 k75 (sha512_Digest_Sum_l1 y16 k75 n110) i107 a108 = some r := h
      unfold sha512_Digest_Sum_b1 at h
      obtain ⟨k109, qk109⟩ : ∃ k, k = sha512_Digest_Sum_l1 y16 k75 n110 := ⟨_, rfl⟩
      try rw [← qk109] at h
      refine wc_seq ?_
      refine wc_ops ?_
      refine wj_q _ (q_bin rfl rfl rfl) ?_
      refine wj_nil ?_
      refine wc_seq ?_
      refine wc_if (c := (decide (i107 < 8))) rfl (fun d112 => ?_) (fun d112 => ?_)
      · have h := br_t h d112
        refine wc_skip ?_
        refine wc_seq ?_
        refine wc_block ?_
        refine wc_seq ?_
        revert h
        refine chk_i fun c114 => ?_
        refine bnd_i fun z115 ez115 => ?_
        intro h
        refine wc_ops ?_
        refine wj_q _ (q_mv rfl) ?_
        refine wj_q _ (iz ez115 (q_idxi (len := 8) rfl rfl (inB_z c114))) ?_
        refine wj_q _ (q_mv rfl) ?_
        refine wj_q _ (q_mv rfl) ?_
        refine wj_nil ?_
        revert h
        refine bnd_i fun z117 ez117 => ?_
        refine chk_i fun c118 => ?_
        refine opt_i fun y119 ey119 => ?_
        refine bnd_i fun l125 el125 => ?_
        intro h
        refine wc_draw ?_
        refine ws_p1 _ (q_mv rfl) ?_
        refine ws_p1 _ (iz ez117 (q_bin rfl rfl rfl)) ?_
        refine ws_p1 _ (q_sla rfl (.yes rfl) .no .no (by simp) (cut4 c118)) ?_
        refine ws_p1 _ (q_mv rfl) ?_
        refine ws_e1 (ef_callS0 rfl (fun w hw => bits_StoreBE_uint64_spec (r := y119) (p0 := z115) ey119 ) fun v120 Msv120 R121 => ?_)
        obtain ⟨_, ms123, rfl, rfl, O124⟩ := R121
        refine ⟨(by repeat (first | exact Sup.refl _ | apply Sup.cons | apply Sup.app)), ?_⟩
        refine ws_eL rfl (ef_cpyB (q := [.ints .u8 64 (l125)]) (lo := (z117).toNat) (hi := 64) (mz := 64) (base := 0) el125 rfl rfl (rd_own O124 .here) rfl (cutn c118) rfl (.app .here) ?_)
        refine ws_nil ?_
        revert h
        refine bnd_i fun z127 ez127 => ?_
        intro h
        refine wc_ops ?_
        refine wj_q _ (iz ez127 (q_bin rfl rfl rfl)) ?_
        refine wj_q _ (q_mv rfl) ?_
        refine wj_nil ?_
        rw [qk109] at h
        exact ⟨n110, Nat.lt_succ_self _, z127, l125, h, ⟨⟨rfl, rfl, rfl, rfl, trivial⟩, (.one (.app .here) (.one (.app .here) (.one (.app .here) (.one (.app .here) .nil))))⟩⟩
      · have h := br_f h d112
        refine wc_exit _ rfl ?_
        exact ⟨a108, h, ⟨⟨rfl, rfl, trivial⟩, (.one .here (.one .here (.one .here (.one .here .nil))))⟩⟩
  · rintro t m ⟨a74, h, hF⟩
    refine wc_fit hF ?_
    clear hF
    subst qk75
    refine wc_seq ?_
    refine wc_ops ?_
    refine wj_q _ (q_ld (p := [.ints .u8 64 (a74)]) rfl .here rfl) ?_
    refine wj_e (ef_st (q := [.ints .u8 64 (a74)]) rfl rfl rfl rfl rfl (.there (.there (.there .here))) ?_)
    refine wj_nil ?_
    refine wc_ret ?_
    revert h; refine ret_i fun h => ?_
    subst h
    exact ⟨_, _, (.cons (.agg rfl (.there (.there (.there .here))) rfl) .nil), (.one (.there (.there .here)) .nil), ⟨_, rfl, ⟨rfl, rfl⟩⟩⟩
/- farebox/sign.hash -/
def sign_hash_b1 (p0 : List (List Int)) (k55 : (List Int) → (List Int) → (Int) → (Int) → Option ((List Int))) (k85 : (Int) → (List Int) → (List Int) → (Int) → (Int) → Option ((List Int))) (i80 : Int) (a81 : List Int) (a82 : List Int) (i83 : Int) (i84 : Int) : Option ((List Int)) :=
 br ((decide (i80 < (p0.length : Int)))) (
 chk (inB i80 p0.length) <|
 opt (sha512_Digest_Write (⟨a81, a82, i83, i84⟩ : sha512_Digest) (p0.getD (i80).toNat [])) fun y92 =>
 bnd (IntKind.wrap .i64 (i80 + 1)) fun z96 =>
 k85 z96 y92.gstate y92.gheld y92.ghave y92.glength
 ) (
 k55 a81 a82 i83 i84
 )
def sign_hash_l1 (p0 : List (List Int)) (k55 : (List Int) → (List Int) → (Int) → (Int) → Option ((List Int))) : Nat → (Int) → (List Int) → (List Int) → (Int) → (Int) → Option ((List Int))
  | 0, _, _, _, _, _ => none
  | n + 1, i80, a81, a82, i83, i84 => sign_hash_b1 p0 k55 (sign_hash_l1 p0 k55 n) i80 a81 a82 i83 i84
def sign_hash (p0 : List (List Int)) : Option ((List Int)) :=
 opt (sha512_New ) fun y4 =>
 jn (fun (a51 : List Int) (a52 : List Int) (i53 : Int) (i54 : Int) => opt (sha512_Digest_Sum (⟨a51, a52, i53, i54⟩ : sha512_Digest)) fun y98 =>
 opt (scalar_Reduce y98.1) fun y101 =>
 some y101) fun k55 => sign_hash_l1 p0 k55 big 0 y4.gstate y4.gheld y4.ghave y4.glength
theorem sign_hash_spec {W : World} {r : (List Int)} {p0 : List (List Int)} {v0 : Value} {us0 : List SlT} (h : sign_hash p0 = some r) (hG : Globs W) (A0 : RdSl El.sl W v0 us0) (B0 : RdAll (El.int .u8) W us0 p0) :
    Calls Tryd.prog 20 [v0].toArray W (ret1 W (agg [.ints .u8 32 (r)])) := by
  unfold sign_hash at h
  refine calls_val mo ok20 rfl ?_
  refine wc_seq ?_
  refine wc_ops ?_
  refine wj_e (ef_al fun b2 hb2 => ?_)
  refine wj_nil ?_
  refine wc_seq ?_
  revert h
  refine opt_i fun y4 ey4 => ?_
  intro h
  refine wc_ops ?_
  refine wj_e (ef_callS0 rfl (fun w hw => sha512_New_spec (r := y4) ey4 (hG.at hw (by simp))) fun v5 Msv5 R6 => ?_)
  obtain ⟨b7, T8, rfl, rfl⟩ := R6
  refine wj_q _ (q_mv rfl) ?_
  refine wj_nil ?_
  refine wc_seq ?_
  refine wc_seq ?_
  refine wc_ops ?_
  refine wj_q _ (q_mv rfl) ?_
  refine wj_q _ ((len_nlP (q_lenP rfl (Shp.rd A0)) (RdAll.len B0))) ?_
  refine wj_q _ (q_mv rfl) ?_
  refine wj_nil ?_
  revert h
  refine jn_i fun k55 qk55 => ?_
  intro h
  refine wc_mono2 (G := fun t m => ∃ (a51 : List Int) (a52 : List Int) (i53 : Int) (i54 : Int), k55 a51 a52 i53 i54 = some r ∧ Fit [(2, .pointer (some ⟨b2, 0, none⟩)), (3, .pointer (some ⟨b7, 0, none⟩))] (ck b7 T8 [.ints .u64 8 (a51), .ints .u8 128 (a52), .one (.int .i64 (i53)), .one (.int .u64 (i54))] :: (ck b2 63 [.ints .u8 32 ((List.replicate 32 0))] :: [])) t m) ?_ ?_
  · refine wc_block ?_
    refine wc_loopJ (fun n86 t m => ∃ (i80 : Int) (a81 : List Int) (a82 : List Int) (i83 : Int) (i84 : Int), sign_hash_l1 p0 k55 n86 i80 a81 a82 i83 i84 = some r ∧ Fit [(2, .pointer (some ⟨b2, 0, none⟩)), (3, .pointer (some ⟨b7, 0, none⟩)), (7, v0), (8, .int .i64 ((p0.length : Int))), (9, .int .i64 (i80))] (ck b7 T8 [.ints .u64 8 (a81), .ints .u8 128 (a82), .one (.int .i64 (i83)), .one (.int .u64 (i84))] :: (ck b2 63 [.ints .u8 32 ((List.replicate 32 0))] :: [])) t m) big ?_ ?_
    · exact ⟨0, y4.gstate, y4.gheld, y4.ghave, y4.glength, h, ⟨⟨rfl, rfl, rfl, rfl, rfl, trivial⟩, (.one .here (.one .here .nil))⟩⟩
    · rintro n86 t m ⟨i80, a81, a82, i83, i84, h, hF⟩
      refine wc_fit hF ?_
      clear hF
      rcases n86 with _ | n86
      · exact none_i h
      have h : sign_hash_b1 p0 k55 (sign_hash_l1 p0 k55 n86) i80 a81 a82 i83 i84 = some r := h
      unfold sign_hash_b1 at h
      obtain ⟨k85, qk85⟩ : ∃ k, k = sign_hash_l1 p0 k55 n86 := ⟨_, rfl⟩
      try rw [← qk85] at h
      refine wc_seq ?_
      refine wc_ops ?_
      refine wj_q _ (q_bin rfl rfl rfl) ?_
      refine wj_nil ?_
      refine wc_seq ?_
      refine wc_if (c := (decide (i80 < (p0.length : Int)))) rfl (fun d88 => ?_) (fun d88 => ?_)
      · have h := br_t h d88
        refine wc_skip ?_
        refine wc_seq ?_
        refine wc_block ?_
        refine wc_seq ?_
        revert h
        refine chk_i fun c90 => ?_
        intro h
        refine wc_ops ?_
        refine wj_q _ (q_iasP rfl rfl (Shp.rd A0) (all_len B0 c90)) ?_
        refine wj_q _ (q_ldM10 (E := El.sl) (s := [.one (slV (us0.getD (i80).toNat (none, 0, 0)))]) rfl (rd_arg A0 apart0) (inB_n (all_len B0 c90)) rfl rfl) ?_
        refine wj_q _ (q_mv rfl) ?_
        refine wj_nil ?_
        revert h
        refine opt_i fun y92 ey92 => ?_
        intro h
        refine wc_ops ?_
        refine wj_q _ (q_mv rfl) ?_
        refine wj_q _ (q_mv rfl) ?_
        refine wj_e (ef_callS (mS := [_]) rfl (Take1.perm .here) (fun w hw => sha512_Digest_Write_spec (b := b7) (r := y92) (p0 := (⟨a81, a82, i83, i84⟩ : sha512_Digest)) (p1 := (p0.getD (i80).toNat [])) ey92 (sat_own hw (mS := [_]) (Take1.perm .here)) (hG.at hw (by simp)) (hG.ap (by simp) .here hw) ⟨(rd_arg (RdAll.get B0 _ (inB_n c90)) apart0) w hw, (apart_arg (E := (El.int .u8)) (RdAll.get B0 _ (inB_n c90)) .here hw)⟩) fun v93 Msv93 R94 => ?_)
        obtain ⟨rfl, rfl⟩ := R94
        refine wj_nil ?_
        revert h
        refine bnd_i fun z96 ez96 => ?_
        intro h
        refine wc_ops ?_
        refine wj_q _ (iz ez96 (q_bin rfl rfl rfl)) ?_
        refine wj_q _ (q_mv rfl) ?_
        refine wj_nil ?_
        rw [qk85] at h
        exact ⟨n86, Nat.lt_succ_self _, z96, y92.gstate, y92.gheld, y92.ghave, y92.glength, h, ⟨⟨rfl, rfl, rfl, rfl, rfl, trivial⟩, (.one .here (.one .here .nil))⟩⟩
      · have h := br_f h d88
        refine wc_exit _ rfl ?_
        exact ⟨a81, a82, i83, i84, h, ⟨⟨rfl, rfl, trivial⟩, (.one .here (.one .here .nil))⟩⟩
  · rintro t m ⟨a51, a52, i53, i54, h, hF⟩
    refine wc_fit hF ?_
    clear hF
    subst qk55
    refine wc_seq ?_
    revert h
    refine opt_i fun y98 ey98 => ?_
    refine opt_i fun y101 ey101 => ?_
    intro h
    refine wc_ops ?_
    refine wj_q _ (q_mv rfl) ?_
    refine wj_e (ef_callS (mS := [_]) rfl (Take1.perm .here) (fun w hw => sha512_Digest_Sum_spec (b := b7) (r := y98) (p0 := (⟨a51, a52, i53, i54⟩ : sha512_Digest)) ey98 (sat_own hw (mS := [_]) (Take1.perm .here)) (hG.at hw (by simp)) (hG.ap (by simp) .here hw)) fun v99 Msv99 R100 => ?_)
    obtain ⟨rfl, rfl⟩ := R100
    refine wj_q _ (q_call (vs := [agg [.ints .u8 64 (y98.1)]]) (v := agg [.ints .u8 32 (y101)]) rfl (fun w hw => scalar_Reduce_spec (r := y101) (p0 := y98.1) ey101 (hG.at hw (by simp)))) ?_
    refine wj_e (ef_st (q := [.ints .u8 32 (y101)]) rfl rfl rfl rfl rfl (.there .here) ?_)
    refine wj_nil ?_
    refine wc_ret ?_
    revert h; refine ret_i fun h => ?_
    subst h
    exact ⟨_, (.cons (.agg rfl (.there .here) rfl) .nil), rfl⟩
/- farebox/field.Invert -/
def field_Invert (p0 : List Int) : Option ((List Int)) :=
 opt (field_power 235 127) fun y5 =>
 opt (field_Pow p0 y5) fun y6 =>
 some y6
theorem field_Invert_spec {W : World} {r : (List Int)} {p0 : List Int} (h : field_Invert p0 = some r)  :
    Calls Tryd.prog 49 [agg [.ints .u64 5 (p0)]].toArray W (ret1 W (agg [.ints .u64 5 (r)])) := by
  unfold field_Invert at h
  refine calls_val mo ok49 rfl ?_
  refine wc_seq ?_
  refine wc_ops ?_
  refine wj_e (ef_bx (s := [.ints .u64 5 (p0)]) rfl fun b2 hb2 => ?_)
  refine wj_e (ef_al fun b3 hb3 => ?_)
  refine wj_nil ?_
  refine wc_seq ?_
  revert h
  refine opt_i fun y5 ey5 => ?_
  refine opt_i fun y6 ey6 => ?_
  intro h
  refine wc_draw ?_
  refine ws_p1 _ (q_call (vs := [.int .u8 235, .int .u8 127]) (v := agg [.ints .u8 32 (y5)]) rfl (fun w hw => field_power_spec (r := y5) (p0 := 235) (p1 := 127) ey5 )) ?_
  refine ws_q1 _ (q_ld (p := [.ints .u64 5 (p0)]) rfl (.there .here) rfl) ?_
  refine ws_p1 _ (q_call (vs := [agg [.ints .u64 5 (p0)], agg [.ints .u8 32 (y5)]]) (v := agg [.ints .u64 5 (y6)]) rfl (fun w hw => field_Pow_spec (r := y6) (p0 := p0) (p1 := y5) ey6 )) ?_
  refine ws_eL rfl (ef_st (q := [.ints .u64 5 (y6)]) rfl rfl rfl rfl rfl .here ?_)
  refine ws_nil ?_
  refine wc_ret ?_
  revert h; refine ret_i fun h => ?_
  subst h
  exact ⟨_, (.cons (.agg rfl .here rfl) .nil), rfl⟩
/- farebox/curve.Encode -/
def curve_Encode (p0 : api_Point) : Option ((List Int)) :=
 opt (field_Invert p0.gZ) fun y5 =>
 opt (field_Mul p0.gY y5) fun y8 =>
 opt (field_Bytes y8) fun y9 =>
 opt (field_Mul p0.gX y5) fun y12 =>
 opt (field_IsOdd y12) fun y13 =>
 jn (fun (a19 : List Int) => some a19) fun k20 => br (y13) (
 bnd (y9.getD 31 0) fun z23 =>
 bnd (bitsV .or .u8 z23 128) fun z24 =>
 bnd (setD y9 31 z24) fun l25 =>
 k20 l25
 ) (
 k20 y9
 )
theorem curve_Encode_spec {W : World} {r : (List Int)} {p0 : api_Point} (h : curve_Encode p0 = some r)  :
    Calls Tryd.prog 21 [agg [.ints .u64 5 (p0.gX), .ints .u64 5 (p0.gY), .ints .u64 5 (p0.gZ), .ints .u64 5 (p0.gT)]].toArray W (ret1 W (agg [.ints .u8 32 (r)])) := by
  unfold curve_Encode at h
  refine calls_val mo ok21 rfl ?_
  refine wc_seq ?_
  refine wc_ops ?_
  refine wj_e (ef_bx (s := [.ints .u64 5 (p0.gX), .ints .u64 5 (p0.gY), .ints .u64 5 (p0.gZ), .ints .u64 5 (p0.gT)]) rfl fun b2 hb2 => ?_)
  refine wj_e (ef_al fun b3 hb3 => ?_)
  refine wj_nil ?_
  refine wc_seq ?_
  revert h
  refine opt_i fun y5 ey5 => ?_
  intro h
  refine wc_ops ?_
  refine wj_q _ (q_fa rfl) ?_
  refine wj_q _ (q_ld (p := [.ints .u64 5 (p0.gZ)]) rfl (.there .here) rfl) ?_
  refine wj_q _ (q_call (vs := [agg [.ints .u64 5 (p0.gZ)]]) (v := agg [.ints .u64 5 (y5)]) rfl (fun w hw => field_Invert_spec (r := y5) (p0 := p0.gZ) ey5 )) ?_
  refine wj_e (ef_al fun b6 hb6 => ?_)
  refine wj_e (ef_st (q := [.ints .u64 5 (y5)]) rfl rfl rfl rfl rfl .here ?_)
  refine wj_nil ?_
  refine wc_seq ?_
  revert h
  refine opt_i fun y8 ey8 => ?_
  refine opt_i fun y9 ey9 => ?_
  intro h
  refine wc_ops ?_
  refine wj_q _ (q_fa rfl) ?_
  refine wj_q _ (q_ld (p := [.ints .u64 5 (p0.gY)]) rfl (.there (.there .here)) rfl) ?_
  refine wj_q _ (q_ld (p := [.ints .u64 5 (y5)]) rfl .here rfl) ?_
  refine wj_q _ (q_call (vs := [agg [.ints .u64 5 (p0.gY)], agg [.ints .u64 5 (y5)]]) (v := agg [.ints .u64 5 (y8)]) rfl (fun w hw => field_Mul_spec (r := y8) (p0 := p0.gY) (p1 := y5) ey8 )) ?_
  refine wj_q _ (q_call (vs := [agg [.ints .u64 5 (y8)]]) (v := agg [.ints .u8 32 (y9)]) rfl (fun w hw => field_Bytes_spec (r := y9) (p0 := y8) ey9 )) ?_
  refine wj_e (ef_al fun b10 hb10 => ?_)
  refine wj_e (ef_st (q := [.ints .u8 32 (y9)]) rfl rfl rfl rfl rfl .here ?_)
  refine wj_nil ?_
  refine wc_seq ?_
  refine wc_seq ?_
  revert h
  refine opt_i fun y12 ey12 => ?_
  refine opt_i fun y13 ey13 => ?_
  intro h
  refine wc_ops ?_
  refine wj_q _ (q_fa rfl) ?_
  refine wj_q _ (q_ld (p := [.ints .u64 5 (p0.gX)]) rfl (.there (.there (.there .here))) rfl) ?_
  refine wj_q _ (q_ld (p := [.ints .u64 5 (y5)]) rfl (.there .here) rfl) ?_
  refine wj_q _ (q_call (vs := [agg [.ints .u64 5 (p0.gX)], agg [.ints .u64 5 (y5)]]) (v := agg [.ints .u64 5 (y12)]) rfl (fun w hw => field_Mul_spec (r := y12) (p0 := p0.gX) (p1 := y5) ey12 )) ?_
  refine wj_q _ (q_call (vs := [agg [.ints .u64 5 (y12)]]) (v := .bool (y13)) rfl (fun w hw => field_IsOdd_spec (r := y13) (p0 := y12) ey13 )) ?_
  refine wj_nil ?_
  revert h
  refine jn_i fun k20 qk20 => ?_
  intro h
  refine wc_mono2 (G := fun t m => ∃ (a19 : List Int), k20 a19 = some r ∧ Fit [(2, .pointer (some ⟨b3, 0, none⟩)), (4, .pointer (some ⟨b10, 0, none⟩))] (ck b10 27 [.ints .u8 32 (a19)] :: (ck b6 58 [.ints .u64 5 (y5)] :: (ck b3 27 [.ints .u8 32 ((List.replicate 32 0))] :: (ck b2 60 [.ints .u64 5 (p0.gX), .ints .u64 5 (p0.gY), .ints .u64 5 (p0.gZ), .ints .u64 5 (p0.gT)] :: [])))) t m) ?_ ?_
  · refine wc_if (c := y13) rfl (fun d21 => ?_) (fun d21 => ?_)
    · have h := br_t h d21
      revert h
      refine bnd_i fun z23 ez23 => ?_
      refine bnd_i fun z24 ez24 => ?_
      refine bnd_i fun l25 el25 => ?_
      intro h
      refine wc_ops ?_
      refine wj_q _ (q_ia rfl rfl (by decide)) ?_
      refine wj_q _ (iz ez23 (q_ld1 rfl .here rfl)) ?_
      refine wj_q _ (iz ez24 (q_bin rfl rfl rfl)) ?_
      refine wj_q _ (q_ia rfl rfl (by decide)) ?_
      refine wj_e (ef_st1z (q := [.ints .u8 32 (l25)]) (congrArg (fun z => ([.ints .u8 32 (z)] : List Seg)) el25.symm) rfl rfl rfl rfl .here ?_)
      refine wj_nil ?_
      exact ⟨l25, h, ⟨⟨rfl, rfl, trivial⟩, (.one .here (.one .here (.one .here (.one .here .nil))))⟩⟩
    · have h := br_f h d21
      refine wc_skip ?_
      exact ⟨y9, h, ⟨⟨rfl, rfl, trivial⟩, (.one .here (.one .here (.one .here (.one .here .nil))))⟩⟩
  · rintro t m ⟨a19, h, hF⟩
    refine wc_fit hF ?_
    clear hF
    subst qk20
    refine wc_seq ?_
    refine wc_ops ?_
    refine wj_q _ (q_ld (p := [.ints .u8 32 (a19)]) rfl .here rfl) ?_
    refine wj_e (ef_st (q := [.ints .u8 32 (a19)]) rfl rfl rfl rfl rfl (.there (.there .here)) ?_)
    refine wj_nil ?_
    refine wc_ret ?_
    revert h; refine ret_i fun h => ?_
    subst h
    exact ⟨_, (.cons (.agg rfl (.there (.there .here)) rfl) .nil), rfl⟩
/- farebox/curve.start -/
def curve_start_b1 (k41 : (List Int) → Option (api_Point)) (k60 : (Int) → (List Int) → Option (api_Point)) (i58 : Int) (a59 : List Int) : Option (api_Point) :=
 br ((decide (i58 < 31))) (
 bnd (IntKind.wrap .i64 (i58 + 1)) fun z66 =>
 chk (inB z66 32) <|
 bnd (setD a59 (z66).toNat 102) fun l68 =>
 bnd (IntKind.wrap .i64 (i58 + 1)) fun z70 =>
 k60 z70 l68
 ) (
 k41 a59
 )
def curve_start_l1 (k41 : (List Int) → Option (api_Point)) : Nat → (Int) → (List Int) → Option (api_Point)
  | 0, _, _ => none
  | n + 1, i58, a59 => curve_start_b1 k41 (curve_start_l1 k41 n) i58 a59
def curve_start  : Option (api_Point) :=
 bnd (([26, 213, 37, 143, 96, 45, 86, 201, 178, 167, 37, 149, 96, 199, 44, 105, 92, 220, 214, 253, 49, 226, 164, 192, 254, 83, 110, 205, 211, 54, 105, 33] : List Int)) fun z4 =>
 opt (field_FromBytes z4) fun y5 =>
 bnd (([88, 0, 0, 0, 0, 0, 0, 0, 0, 0, 0, 0, 0, 0, 0, 0, 0, 0, 0, 0, 0, 0, 0, 0, 0, 0, 0, 0, 0, 0, 0, 0] : List Int)) fun z8 =>
 jn (fun (a40 : List Int) => opt (field_FromBytes a40) fun y72 =>
 opt (curve_unit) fun y75 =>
 opt (field_Mul y5 y72) fun y76 =>
 some (⟨y5, y72, y75, y76⟩ : api_Point)) fun k41 => curve_start_l1 k41 big 0 z8
theorem curve_start_spec {W : World} {r : api_Point} (h : curve_start  = some r)  :
    Calls Tryd.prog 52 [].toArray W (ret1 W (agg [.ints .u64 5 (r.gX), .ints .u64 5 (r.gY), .ints .u64 5 (r.gZ), .ints .u64 5 (r.gT)])) := by
  unfold curve_start at h
  refine calls_val mo ok52 rfl ?_
  refine wc_seq ?_
  refine wc_ops ?_
  refine wj_e (ef_al fun b2 hb2 => ?_)
  refine wj_nil ?_
  refine wc_seq ?_
  revert h
  refine bnd_i fun z4 ez4 => ?_
  refine opt_i fun y5 ey5 => ?_
  intro h
  refine wc_ops ?_
  refine wj_q _ (az (fun z => agg [.ints .u8 32 z]) ez4 (q_bd (.one rfl rfl rfl (.one rfl rfl rfl (.one rfl rfl rfl (.one rfl rfl rfl (.one rfl rfl rfl (.one rfl rfl rfl (.one rfl rfl rfl (.one rfl rfl rfl (.one rfl rfl rfl (.one rfl rfl rfl (.one rfl rfl rfl (.one rfl rfl rfl (.one rfl rfl rfl (.one rfl rfl rfl (.one rfl rfl rfl (.one rfl rfl rfl (.one rfl rfl rfl (.one rfl rfl rfl (.one rfl rfl rfl (.one rfl rfl rfl (.one rfl rfl rfl (.one rfl rfl rfl (.one rfl rfl rfl (.one rfl rfl rfl (.one rfl rfl rfl (.one rfl rfl rfl (.one rfl rfl rfl (.one rfl rfl rfl (.one rfl rfl rfl (.one rfl rfl rfl (.one rfl rfl rfl (.one rfl rfl rfl BdR.nil)))))))))))))))))))))))))))))))))) ?_
  refine wj_q _ (q_call (vs := [agg [.ints .u8 32 (z4)]]) (v := agg [.ints .u64 5 (y5)]) rfl (fun w hw => field_FromBytes_spec (r := y5) (p0 := z4) ey5 )) ?_
  refine wj_e (ef_al fun b6 hb6 => ?_)
  refine wj_e (ef_st (q := [.ints .u64 5 (y5)]) rfl rfl rfl rfl rfl .here ?_)
  refine wj_nil ?_
  refine wc_seq ?_
  revert h
  refine bnd_i fun z8 ez8 => ?_
  intro h
  refine wc_ops ?_
  refine wj_q _ (az (fun z => agg [.ints .u8 32 z]) ez8 (q_bd (.one rfl rfl rfl BdR.nil))) ?_
  refine wj_e (ef_al fun b9 hb9 => ?_)
  refine wj_e (ef_st (q := [.ints .u8 32 (z8)]) rfl rfl rfl rfl rfl .here ?_)
  refine wj_nil ?_
  refine wc_seq ?_
  refine wc_seq ?_
  refine wc_ops ?_
  refine wj_q _ (q_mv rfl) ?_
  refine wj_nil ?_
  revert h
  refine jn_i fun k41 qk41 => ?_
  intro h
  refine wc_mono2 (G := fun t m => ∃ (a40 : List Int), k41 a40 = some r ∧ Fit [(0, .pointer (some ⟨b2, 0, none⟩)), (1, .pointer (some ⟨b6, 0, none⟩)), (2, .pointer (some ⟨b9, 0, none⟩))] (ck b9 26 [.ints .u8 32 (a40)] :: (ck b6 58 [.ints .u64 5 (y5)] :: (ck b2 60 [.ints .u64 5 ((List.replicate 5 0)), .ints .u64 5 ((List.replicate 5 0)), .ints .u64 5 ((List.replicate 5 0)), .ints .u64 5 ((List.replicate 5 0))] :: []))) t m) ?_ ?_
  · refine wc_block ?_
    refine wc_loopJ (fun n61 t m => ∃ (i58 : Int) (a59 : List Int), curve_start_l1 k41 n61 i58 a59 = some r ∧ Fit [(0, .pointer (some ⟨b2, 0, none⟩)), (1, .pointer (some ⟨b6, 0, none⟩)), (2, .pointer (some ⟨b9, 0, none⟩)), (8, .int .i64 (i58))] (ck b9 26 [.ints .u8 32 (a59)] :: (ck b6 58 [.ints .u64 5 (y5)] :: (ck b2 60 [.ints .u64 5 ((List.replicate 5 0)), .ints .u64 5 ((List.replicate 5 0)), .ints .u64 5 ((List.replicate 5 0)), .ints .u64 5 ((List.replicate 5 0))] :: []))) t m) big ?_ ?_
    · exact ⟨0, z8, h, ⟨⟨rfl, rfl, rfl, rfl, trivial⟩, (.one .here (.one .here (.one .here .nil)))⟩⟩
    · rintro n61 t m ⟨i58, a59, h, hF⟩
      refine wc_fit hF ?_
      clear hF
      rcases n61 with _ | n61
      · exact none_i h
      have h : curve_start_b1 k41 (curve_start_l1 k41 n61) i58 a59 = some r := h
      unfold curve_start_b1 at h
      obtain ⟨k60, qk60⟩ : ∃ k, k = curve_start_l1 k41 n61 := ⟨_, rfl⟩
      try rw [← qk60] at h
      refine wc_seq ?_
      refine wc_ops ?_
      refine wj_q _ (q_bin rfl rfl rfl) ?_
      refine wj_nil ?_
      refine wc_seq ?_
      refine wc_if (c := (decide (i58 < 31))) rfl (fun d63 => ?_) (fun d63 => ?_)
      · have h := br_t h d63
        refine wc_skip ?_
        refine wc_seq ?_
        refine wc_block ?_
        refine wc_seq ?_
        refine wc_ops ?_
        refine wj_q _ (q_mv rfl) ?_
        refine wj_q _ (q_mv rfl) ?_
        refine wj_nil ?_
        revert h
        refine bnd_i fun z66 ez66 => ?_
        refine chk_i fun c67 => ?_
        refine bnd_i fun l68 el68 => ?_
        intro h
        refine wc_ops ?_
        refine wj_q _ (q_mv rfl) ?_
        refine wj_q _ (iz ez66 (q_bin rfl rfl rfl)) ?_
        refine wj_q _ (q_ia rfl rfl (inB_z c67)) ?_
        refine wj_e (ef_stiz (q := [.ints .u8 32 (l68)]) (base := 0) el68 rfl rfl rfl (inB_n c67) rfl .here ?_)
        refine wj_nil ?_
        revert h
        refine bnd_i fun z70 ez70 => ?_
        intro h
        refine wc_ops ?_
        refine wj_q _ (iz ez70 (q_bin rfl rfl rfl)) ?_
        refine wj_q _ (q_mv rfl) ?_
        refine wj_nil ?_
        rw [qk60] at h
        exact ⟨n61, Nat.lt_succ_self _, z70, l68, h, ⟨⟨rfl, rfl, rfl, rfl, trivial⟩, (.one .here (.one .here (.one .here .nil)))⟩⟩
      · have h := br_f h d63
        refine wc_exit _ rfl ?_
        exact ⟨a59, h, ⟨⟨rfl, rfl, rfl, trivial⟩, (.one .here (.one .here (.one .here .nil)))⟩⟩
  · rintro t m ⟨a40, h, hF⟩
    refine wc_fit hF ?_
    clear hF
    subst qk41
    refine wc_seq ?_
    revert h
    refine opt_i fun y72 ey72 => ?_
    intro h
    refine wc_ops ?_
    refine wj_q _ (q_ld (p := [.ints .u8 32 (a40)]) rfl .here rfl) ?_
    refine wj_q _ (q_call (vs := [agg [.ints .u8 32 (a40)]]) (v := agg [.ints .u64 5 (y72)]) rfl (fun w hw => field_FromBytes_spec (r := y72) (p0 := a40) ey72 )) ?_
    refine wj_e (ef_al fun b73 hb73 => ?_)
    refine wj_e (ef_st (q := [.ints .u64 5 (y72)]) rfl rfl rfl rfl rfl .here ?_)
    refine wj_nil ?_
    refine wc_seq ?_
    revert h
    refine opt_i fun y75 ey75 => ?_
    refine opt_i fun y76 ey76 => ?_
    intro h
    refine wc_draw ?_
    refine ws_p1 _ (q_call (vs := []) (v := agg [.ints .u64 5 (y75)]) rfl (fun w hw => curve_unit_spec (r := y75) ey75 )) ?_
    refine ws_q1 _ (q_ld (p := [.ints .u64 5 (y5)]) rfl (.there (.there .here)) rfl) ?_
    refine ws_q1 _ (q_ld (p := [.ints .u64 5 (y72)]) rfl .here rfl) ?_
    refine ws_q1 _ (q_ld (p := [.ints .u64 5 (y5)]) rfl (.there (.there .here)) rfl) ?_
    refine ws_q1 _ (q_ld (p := [.ints .u64 5 (y72)]) rfl .here rfl) ?_
    refine ws_p1 _ (q_call (vs := [agg [.ints .u64 5 (y5)], agg [.ints .u64 5 (y72)]]) (v := agg [.ints .u64 5 (y76)]) rfl (fun w hw => field_Mul_spec (r := y76) (p0 := y5) (p1 := y72) ey76 )) ?_
    refine ws_p1 _ (q_bd (q := [.ints .u64 5 (y5), .ints .u64 5 (y72), .ints .u64 5 (y75), .ints .u64 5 (y76)]) (.agg rfl rfl rfl (.agg rfl rfl rfl (.agg rfl rfl rfl (.agg rfl rfl rfl BdR.nil))))) ?_
    refine ws_eL rfl (ef_st (q := [.ints .u64 5 (y5), .ints .u64 5 (y72), .ints .u64 5 (y75), .ints .u64 5 (y76)]) rfl rfl rfl rfl rfl (.there (.there (.there .here))) ?_)
    refine ws_nil ?_
    refine wc_ret ?_
    revert h; refine ret_i fun h => ?_
    subst h
    exact ⟨_, (.cons (.agg rfl (.there (.there (.there .here))) rfl) .nil), rfl⟩
/- farebox/curve.Zero -/
def curve_Zero  : Option (api_Point) :=
 opt (curve_unit) fun y4 =>
 opt (curve_unit) fun y5 =>
 some (⟨(List.replicate 5 0), y4, y5, (List.replicate 5 0)⟩ : api_Point)
theorem curve_Zero_spec {W : World} {r : api_Point} (h : curve_Zero  = some r)  :
    Calls Tryd.prog 54 [].toArray W (ret1 W (agg [.ints .u64 5 (r.gX), .ints .u64 5 (r.gY), .ints .u64 5 (r.gZ), .ints .u64 5 (r.gT)])) := by
  unfold curve_Zero at h
  refine calls_val mo ok54 rfl ?_
  refine wc_seq ?_
  refine wc_ops ?_
  refine wj_e (ef_al fun b2 hb2 => ?_)
  refine wj_nil ?_
  refine wc_seq ?_
  revert h
  refine opt_i fun y4 ey4 => ?_
  refine opt_i fun y5 ey5 => ?_
  intro h
  refine wc_ops ?_
  refine wj_q _ (q_call (vs := []) (v := agg [.ints .u64 5 (y4)]) rfl (fun w hw => curve_unit_spec (r := y4) ey4 )) ?_
  refine wj_q _ (q_call (vs := []) (v := agg [.ints .u64 5 (y5)]) rfl (fun w hw => curve_unit_spec (r := y5) ey5 )) ?_
  refine wj_q _ (q_bd (q := [.ints .u64 5 ((List.replicate 5 0)), .ints .u64 5 (y4), .ints .u64 5 (y5), .ints .u64 5 ((List.replicate 5 0))]) (.agg rfl rfl rfl (.agg rfl rfl rfl BdR.nil))) ?_
  refine wj_e (ef_st (q := [.ints .u64 5 ((List.replicate 5 0)), .ints .u64 5 (y4), .ints .u64 5 (y5), .ints .u64 5 ((List.replicate 5 0))]) rfl rfl rfl rfl rfl .here ?_)
  refine wj_nil ?_
  refine wc_ret ?_
  revert h; refine ret_i fun h => ?_
  subst h
  exact ⟨_, (.cons (.agg rfl .here rfl) .nil), rfl⟩
/- farebox/curve.closed -/
def curve_closed (p0 : List Int) (p1 : List Int) (p2 : List Int) (p3 : List Int) : Option (api_Point) :=
 opt (field_Mul p0 p1) fun y8 =>
 opt (field_Mul p2 p3) fun y9 =>
 opt (field_Mul p1 p2) fun y10 =>
 opt (field_Mul p0 p3) fun y11 =>
 some (⟨y8, y9, y10, y11⟩ : api_Point)
theorem curve_closed_spec {W : World} {r : api_Point} {p0 : List Int} {p1 : List Int} {p2 : List Int} {p3 : List Int} (h : curve_closed p0 p1 p2 p3 = some r)  :
    Calls Tryd.prog 87 [agg [.ints .u64 5 (p0)], agg [.ints .u64 5 (p1)], agg [.ints .u64 5 (p2)], agg [.ints .u64 5 (p3)]].toArray W (ret1 W (agg [.ints .u64 5 (r.gX), .ints .u64 5 (r.gY), .ints .u64 5 (r.gZ), .ints .u64 5 (r.gT)])) := by
  unfold curve_closed at h
  refine calls_val mo ok87 rfl ?_
  refine wc_seq ?_
  refine wc_ops ?_
  refine wj_e (ef_bx (s := [.ints .u64 5 (p0)]) rfl fun b2 hb2 => ?_)
  refine wj_e (ef_bx (s := [.ints .u64 5 (p1)]) rfl fun b3 hb3 => ?_)
  refine wj_e (ef_bx (s := [.ints .u64 5 (p2)]) rfl fun b4 hb4 => ?_)
  refine wj_e (ef_bx (s := [.ints .u64 5 (p3)]) rfl fun b5 hb5 => ?_)
  refine wj_e (ef_al fun b6 hb6 => ?_)
  refine wj_nil ?_
  refine wc_seq ?_
  revert h
  refine opt_i fun y8 ey8 => ?_
  refine opt_i fun y9 ey9 => ?_
  refine opt_i fun y10 ey10 => ?_
  refine opt_i fun y11 ey11 => ?_
  intro h
  refine wc_draw ?_
  refine ws_q1 _ (q_ld (p := [.ints .u64 5 (p0)]) rfl (.there (.there (.there (.there .here)))) rfl) ?_
  refine ws_q1 _ (q_ld (p := [.ints .u64 5 (p1)]) rfl (.there (.there (.there .here))) rfl) ?_
  refine ws_p1 _ (q_call (vs := [agg [.ints .u64 5 (p0)], agg [.ints .u64 5 (p1)]]) (v := agg [.ints .u64 5 (y8)]) rfl (fun w hw => field_Mul_spec (r := y8) (p0 := p0) (p1 := p1) ey8 )) ?_
  refine ws_q1 _ (q_ld (p := [.ints .u64 5 (p2)]) rfl (.there (.there .here)) rfl) ?_
  refine ws_q1 _ (q_ld (p := [.ints .u64 5 (p3)]) rfl (.there .here) rfl) ?_
  refine ws_p1 _ (q_call (vs := [agg [.ints .u64 5 (p2)], agg [.ints .u64 5 (p3)]]) (v := agg [.ints .u64 5 (y9)]) rfl (fun w hw => field_Mul_spec (r := y9) (p0 := p2) (p1 := p3) ey9 )) ?_
  refine ws_q1 _ (q_ld (p := [.ints .u64 5 (p1)]) rfl (.there (.there (.there .here))) rfl) ?_
  refine ws_q1 _ (q_ld (p := [.ints .u64 5 (p2)]) rfl (.there (.there .here)) rfl) ?_
  refine ws_p1 _ (q_call (vs := [agg [.ints .u64 5 (p1)], agg [.ints .u64 5 (p2)]]) (v := agg [.ints .u64 5 (y10)]) rfl (fun w hw => field_Mul_spec (r := y10) (p0 := p1) (p1 := p2) ey10 )) ?_
  refine ws_q1 _ (q_ld (p := [.ints .u64 5 (p0)]) rfl (.there (.there (.there (.there .here)))) rfl) ?_
  refine ws_q1 _ (q_ld (p := [.ints .u64 5 (p3)]) rfl (.there .here) rfl) ?_
  refine ws_p1 _ (q_call (vs := [agg [.ints .u64 5 (p0)], agg [.ints .u64 5 (p3)]]) (v := agg [.ints .u64 5 (y11)]) rfl (fun w hw => field_Mul_spec (r := y11) (p0 := p0) (p1 := p3) ey11 )) ?_
  refine ws_p1 _ (q_bd (q := [.ints .u64 5 (y8), .ints .u64 5 (y9), .ints .u64 5 (y10), .ints .u64 5 (y11)]) (.agg rfl rfl rfl (.agg rfl rfl rfl (.agg rfl rfl rfl (.agg rfl rfl rfl BdR.nil))))) ?_
  refine ws_eL rfl (ef_st (q := [.ints .u64 5 (y8), .ints .u64 5 (y9), .ints .u64 5 (y10), .ints .u64 5 (y11)]) rfl rfl rfl rfl rfl .here ?_)
  refine ws_nil ?_
  refine wc_ret ?_
  revert h; refine ret_i fun h => ?_
  subst h
  exact ⟨_, (.cons (.agg rfl .here rfl) .nil), rfl⟩
/- farebox/curve.doubled -/
def curve_doubled  : Option ((List Int)) :=
 bnd (([1859910466990425, 932731440258426, 1072319116312658, 1815898335770999, 633789495995903] : List Int)) fun z4 =>
 some z4
theorem curve_doubled_spec {W : World} {r : (List Int)} (h : curve_doubled  = some r)  :
    Calls Tryd.prog 88 [].toArray W (ret1 W (agg [.ints .u64 5 (r)])) := by
  unfold curve_doubled at h
  refine calls_val mo ok88 rfl ?_
  refine wc_seq ?_
  refine wc_ops ?_
  refine wj_e (ef_al fun b2 hb2 => ?_)
  refine wj_nil ?_
  refine wc_seq ?_
  revert h
  refine bnd_i fun z4 ez4 => ?_
  intro h
  refine wc_ops ?_
  refine wj_q _ (az (fun z => agg [.ints .u64 5 z]) ez4 (q_bd (.one rfl rfl rfl (.one rfl rfl rfl (.one rfl rfl rfl (.one rfl rfl rfl (.one rfl rfl rfl BdR.nil))))))) ?_
  refine wj_e (ef_st (q := [.ints .u64 5 (z4)]) rfl rfl rfl rfl rfl .here ?_)
  refine wj_nil ?_
  refine wc_ret ?_
  revert h; refine ret_i fun h => ?_
  subst h
  exact ⟨_, (.cons (.agg rfl .here rfl) .nil), rfl⟩
/- farebox/curve.Add -/
def curve_Add (p0 : api_Point) (p1 : api_Point) : Option (api_Point) :=
 opt (field_Sub p0.gY p0.gX) fun y6 =>
 opt (field_Sub p1.gY p1.gX) fun y7 =>
 opt (field_Mul y6 y7) fun y8 =>
 opt (field_Add p0.gY p0.gX) fun y11 =>
 opt (field_Add p1.gY p1.gX) fun y12 =>
 opt (field_Mul y11 y12) fun y13 =>
 opt (curve_doubled) fun y16 =>
 opt (field_Mul p0.gT y16) fun y19 =>
 opt (field_Mul y19 p1.gT) fun y20 =>
 opt (field_Add p0.gZ p0.gZ) fun y23 =>
 opt (field_Mul y23 p1.gZ) fun y24 =>
 opt (field_Sub y13 y8) fun y27 =>
 opt (field_Sub y24 y20) fun y28 =>
 opt (field_Add y24 y20) fun y29 =>
 opt (field_Add y13 y8) fun y30 =>
 opt (curve_closed y27 y28 y29 y30) fun y31 =>
 some y31
theorem curve_Add_spec {W : World} {r : api_Point} {p0 : api_Point} {p1 : api_Point} (h : curve_Add p0 p1 = some r)  :
    Calls Tryd.prog 56 [agg [.ints .u64 5 (p0.gX), .ints .u64 5 (p0.gY), .ints .u64 5 (p0.gZ), .ints .u64 5 (p0.gT)], agg [.ints .u64 5 (p1.gX), .ints .u64 5 (p1.gY), .ints .u64 5 (p1.gZ), .ints .u64 5 (p1.gT)]].toArray W (ret1 W (agg [.ints .u64 5 (r.gX), .ints .u64 5 (r.gY), .ints .u64 5 (r.gZ), .ints .u64 5 (r.gT)])) := by
  unfold curve_Add at h
  refine calls_val mo ok56 rfl ?_
  refine wc_seq ?_
  refine wc_ops ?_
  refine wj_e (ef_bx (s := [.ints .u64 5 (p0.gX), .ints .u64 5 (p0.gY), .ints .u64 5 (p0.gZ), .ints .u64 5 (p0.gT)]) rfl fun b2 hb2 => ?_)
  refine wj_e (ef_bx (s := [.ints .u64 5 (p1.gX), .ints .u64 5 (p1.gY), .ints .u64 5 (p1.gZ), .ints .u64 5 (p1.gT)]) rfl fun b3 hb3 => ?_)
  refine wj_e (ef_al fun b4 hb4 => ?_)
  refine wj_nil ?_
  refine wc_seq ?_
  revert h
  refine opt_i fun y6 ey6 => ?_
  refine opt_i fun y7 ey7 => ?_
  refine opt_i fun y8 ey8 => ?_
  intro h
  refine wc_draw ?_
  refine ws_p1 _ (q_fa rfl) ?_
  refine ws_p1 _ (q_fa rfl) ?_
  refine ws_p1 _ (q_fa rfl) ?_
  refine ws_p1 _ (q_fa rfl) ?_
  refine ws_q1 _ (q_ld (p := [.ints .u64 5 (p0.gY)]) rfl (.there (.there .here)) rfl) ?_
  refine ws_q1 _ (q_ld (p := [.ints .u64 5 (p0.gX)]) rfl (.there (.there .here)) rfl) ?_
  refine ws_p1 _ (q_call (vs := [agg [.ints .u64 5 (p0.gY)], agg [.ints .u64 5 (p0.gX)]]) (v := agg [.ints .u64 5 (y6)]) rfl (fun w hw => field_Sub_spec (r := y6) (p0 := p0.gY) (p1 := p0.gX) ey6 )) ?_
  refine ws_q1 _ (q_ld (p := [.ints .u64 5 (p1.gY)]) rfl (.there .here) rfl) ?_
  refine ws_q1 _ (q_ld (p := [.ints .u64 5 (p1.gX)]) rfl (.there .here) rfl) ?_
  refine ws_p1 _ (q_call (vs := [agg [.ints .u64 5 (p1.gY)], agg [.ints .u64 5 (p1.gX)]]) (v := agg [.ints .u64 5 (y7)]) rfl (fun w hw => field_Sub_spec (r := y7) (p0 := p1.gY) (p1 := p1.gX) ey7 )) ?_
  refine ws_p1 _ (q_call (vs := [agg [.ints .u64 5 (y6)], agg [.ints .u64 5 (y7)]]) (v := agg [.ints .u64 5 (y8)]) rfl (fun w hw => field_Mul_spec (r := y8) (p0 := y6) (p1 := y7) ey8 )) ?_
  refine ws_e1 (ef_al fun b9 hb9 => ⟨(by repeat (first | exact Sup.refl _ | apply Sup.cons | apply Sup.app)), ?_⟩)
  refine ws_eL rfl (ef_st (q := [.ints .u64 5 (y8)]) rfl rfl rfl rfl rfl .here ?_)
  refine ws_nil ?_
  refine wc_seq ?_
  revert h
  refine opt_i fun y11 ey11 => ?_
  refine opt_i fun y12 ey12 => ?_
  refine opt_i fun y13 ey13 => ?_
  intro h
  refine wc_draw ?_
  refine ws_p1 _ (q_fa rfl) ?_
  refine ws_p1 _ (q_fa rfl) ?_
  refine ws_p1 _ (q_fa rfl) ?_
  refine ws_p1 _ (q_fa rfl) ?_
  refine ws_q1 _ (q_ld (p := [.ints .u64 5 (p0.gY)]) rfl (.there (.there (.there .here))) rfl) ?_
  refine ws_q1 _ (q_ld (p := [.ints .u64 5 (p0.gX)]) rfl (.there (.there (.there .here))) rfl) ?_
  refine ws_p1 _ (q_call (vs := [agg [.ints .u64 5 (p0.gY)], agg [.ints .u64 5 (p0.gX)]]) (v := agg [.ints .u64 5 (y11)]) rfl (fun w hw => field_Add_spec (r := y11) (p0 := p0.gY) (p1 := p0.gX) ey11 )) ?_
  refine ws_q1 _ (q_ld (p := [.ints .u64 5 (p1.gY)]) rfl (.there (.there .here)) rfl) ?_
  refine ws_q1 _ (q_ld (p := [.ints .u64 5 (p1.gX)]) rfl (.there (.there .here)) rfl) ?_
  refine ws_p1 _ (q_call (vs := [agg [.ints .u64 5 (p1.gY)], agg [.ints .u64 5 (p1.gX)]]) (v := agg [.ints .u64 5 (y12)]) rfl (fun w hw => field_Add_spec (r := y12) (p0 := p1.gY) (p1 := p1.gX) ey12 )) ?_
  refine ws_p1 _ (q_call (vs := [agg [.ints .u64 5 (y11)], agg [.ints .u64 5 (y12)]]) (v := agg [.ints .u64 5 (y13)]) rfl (fun w hw => field_Mul_spec (r := y13) (p0 := y11) (p1 := y12) ey13 )) ?_
  refine ws_e1 (ef_al fun b14 hb14 => ⟨(by repeat (first | exact Sup.refl _ | apply Sup.cons | apply Sup.app)), ?_⟩)
  refine ws_eL rfl (ef_st (q := [.ints .u64 5 (y13)]) rfl rfl rfl rfl rfl .here ?_)
  refine ws_nil ?_
  refine wc_seq ?_
  revert h
  refine opt_i fun y16 ey16 => ?_
  intro h
  refine wc_ops ?_
  refine wj_q _ (q_call (vs := []) (v := agg [.ints .u64 5 (y16)]) rfl (fun w hw => curve_doubled_spec (r := y16) ey16 )) ?_
  refine wj_e (ef_al fun b17 hb17 => ?_)
  refine wj_e (ef_st (q := [.ints .u64 5 (y16)]) rfl rfl rfl rfl rfl .here ?_)
  refine wj_nil ?_
  refine wc_seq ?_
  revert h
  refine opt_i fun y19 ey19 => ?_
  refine opt_i fun y20 ey20 => ?_
  intro h
  refine wc_draw ?_
  refine ws_p1 _ (q_fa rfl) ?_
  refine ws_p1 _ (q_fa rfl) ?_
  refine ws_q1 _ (q_ld (p := [.ints .u64 5 (p0.gT)]) rfl (.there (.there (.there (.there (.there .here))))) rfl) ?_
  refine ws_q1 _ (q_ld (p := [.ints .u64 5 (y16)]) rfl .here rfl) ?_
  refine ws_p1 _ (q_call (vs := [agg [.ints .u64 5 (p0.gT)], agg [.ints .u64 5 (y16)]]) (v := agg [.ints .u64 5 (y19)]) rfl (fun w hw => field_Mul_spec (r := y19) (p0 := p0.gT) (p1 := y16) ey19 )) ?_
  refine ws_q1 _ (q_ld (p := [.ints .u64 5 (p1.gT)]) rfl (.there (.there (.there (.there .here)))) rfl) ?_
  refine ws_p1 _ (q_call (vs := [agg [.ints .u64 5 (y19)], agg [.ints .u64 5 (p1.gT)]]) (v := agg [.ints .u64 5 (y20)]) rfl (fun w hw => field_Mul_spec (r := y20) (p0 := y19) (p1 := p1.gT) ey20 )) ?_
  refine ws_e1 (ef_al fun b21 hb21 => ⟨(by repeat (first | exact Sup.refl _ | apply Sup.cons | apply Sup.app)), ?_⟩)
  refine ws_eL rfl (ef_st (q := [.ints .u64 5 (y20)]) rfl rfl rfl rfl rfl .here ?_)
  refine ws_nil ?_
  refine wc_seq ?_
  revert h
  refine opt_i fun y23 ey23 => ?_
  refine opt_i fun y24 ey24 => ?_
  intro h
  refine wc_draw ?_
  refine ws_p1 _ (q_fa rfl) ?_
  refine ws_p1 _ (q_fa rfl) ?_
  refine ws_p1 _ (q_fa rfl) ?_
  refine ws_q1 _ (q_ld (p := [.ints .u64 5 (p0.gZ)]) rfl (.there (.there (.there (.there (.there (.there .here)))))) rfl) ?_
  refine ws_q1 _ (q_ld (p := [.ints .u64 5 (p0.gZ)]) rfl (.there (.there (.there (.there (.there (.there .here)))))) rfl) ?_
  refine ws_p1 _ (q_call (vs := [agg [.ints .u64 5 (p0.gZ)], agg [.ints .u64 5 (p0.gZ)]]) (v := agg [.ints .u64 5 (y23)]) rfl (fun w hw => field_Add_spec (r := y23) (p0 := p0.gZ) (p1 := p0.gZ) ey23 )) ?_
  refine ws_q1 _ (q_ld (p := [.ints .u64 5 (p1.gZ)]) rfl (.there (.there (.there (.there (.there .here))))) rfl) ?_
  refine ws_p1 _ (q_call (vs := [agg [.ints .u64 5 (y23)], agg [.ints .u64 5 (p1.gZ)]]) (v := agg [.ints .u64 5 (y24)]) rfl (fun w hw => field_Mul_spec (r := y24) (p0 := y23) (p1 := p1.gZ) ey24 )) ?_
  refine ws_e1 (ef_al fun b25 hb25 => ⟨(by repeat (first | exact Sup.refl _ | apply Sup.cons | apply Sup.app)), ?_⟩)
  refine ws_eL rfl (ef_st (q := [.ints .u64 5 (y24)]) rfl rfl rfl rfl rfl .here ?_)
  refine ws_nil ?_
  refine wc_seq ?_
  revert h
  refine opt_i fun y27 ey27 => ?_
  refine opt_i fun y28 ey28 => ?_
  refine opt_i fun y29 ey29 => ?_
  refine opt_i fun y30 ey30 => ?_
  refine opt_i fun y31 ey31 => ?_
  intro h
  refine wc_draw ?_
  refine ws_q1 _ (q_ld (p := [.ints .u64 5 (y13)]) rfl (.there (.there (.there .here))) rfl) ?_
  refine ws_q1 _ (q_ld (p := [.ints .u64 5 (y8)]) rfl (.there (.there (.there (.there .here)))) rfl) ?_
  refine ws_p1 _ (q_call (vs := [agg [.ints .u64 5 (y13)], agg [.ints .u64 5 (y8)]]) (v := agg [.ints .u64 5 (y27)]) rfl (fun w hw => field_Sub_spec (r := y27) (p0 := y13) (p1 := y8) ey27 )) ?_
  refine ws_q1 _ (q_ld (p := [.ints .u64 5 (y24)]) rfl .here rfl) ?_
  refine ws_q1 _ (q_ld (p := [.ints .u64 5 (y20)]) rfl (.there .here) rfl) ?_
  refine ws_p1 _ (q_call (vs := [agg [.ints .u64 5 (y24)], agg [.ints .u64 5 (y20)]]) (v := agg [.ints .u64 5 (y28)]) rfl (fun w hw => field_Sub_spec (r := y28) (p0 := y24) (p1 := y20) ey28 )) ?_
  refine ws_q1 _ (q_ld (p := [.ints .u64 5 (y24)]) rfl .here rfl) ?_
  refine ws_q1 _ (q_ld (p := [.ints .u64 5 (y20)]) rfl (.there .here) rfl) ?_
  refine ws_p1 _ (q_call (vs := [agg [.ints .u64 5 (y24)], agg [.ints .u64 5 (y20)]]) (v := agg [.ints .u64 5 (y29)]) rfl (fun w hw => field_Add_spec (r := y29) (p0 := y24) (p1 := y20) ey29 )) ?_
  refine ws_q1 _ (q_ld (p := [.ints .u64 5 (y13)]) rfl (.there (.there (.there .here))) rfl) ?_
  refine ws_q1 _ (q_ld (p := [.ints .u64 5 (y8)]) rfl (.there (.there (.there (.there .here)))) rfl) ?_
  refine ws_p1 _ (q_call (vs := [agg [.ints .u64 5 (y13)], agg [.ints .u64 5 (y8)]]) (v := agg [.ints .u64 5 (y30)]) rfl (fun w hw => field_Add_spec (r := y30) (p0 := y13) (p1 := y8) ey30 )) ?_
  refine ws_p1 _ (q_call (vs := [agg [.ints .u64 5 (y27)], agg [.ints .u64 5 (y28)], agg [.ints .u64 5 (y29)], agg [.ints .u64 5 (y30)]]) (v := agg [.ints .u64 5 (y31.gX), .ints .u64 5 (y31.gY), .ints .u64 5 (y31.gZ), .ints .u64 5 (y31.gT)]) rfl (fun w hw => curve_closed_spec (r := y31) (p0 := y27) (p1 := y28) (p2 := y29) (p3 := y30) ey31 )) ?_
  refine ws_eL rfl (ef_st (q := [.ints .u64 5 (y31.gX), .ints .u64 5 (y31.gY), .ints .u64 5 (y31.gZ), .ints .u64 5 (y31.gT)]) rfl rfl rfl rfl rfl (.there (.there (.there (.there (.there .here))))) ?_)
  refine ws_nil ?_
  refine wc_ret ?_
  revert h; refine ret_i fun h => ?_
  subst h
  exact ⟨_, (.cons (.agg rfl (.there (.there (.there (.there (.there .here))))) rfl) .nil), rfl⟩
end Go.Proofs.YtiflckckekjbnaaDoor
