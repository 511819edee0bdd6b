/- Mirrors. -/
import Derived.Test.YtiflckckekjbnaaDoorS1
namespace Go.Proofs.YtiflckckekjbnaaDoor
open Go Go.Sx Go.RowKit
set_option linter.all false
set_option maxHeartbeats 400000
set_option maxRecDepth 100000
def ng : Nat := 3
def G_order : List Int := [6346243789798364141, 1503914060200516822, 0, 1152921504606846976]
def G_first : List Int := [7640891576956012808, 13503953896175478587, 4354685564936845355, 11912009170470909681, 5840696475078001361, 11170449401992604703, 2270897969802886507, 6620516959819538809]
def G_table : List Int := [4794697086780616226, 8158064640168781261, 13096744586834688815, 16840607885511220156, 4131703408338449720, 6480981068601479193, 10538285296894168987, 12329834152419229976, 15566598209576043074, 1334009975649890238, 2608012711638119052, 6128411473006802146, 8268148722764581231, 9286055187155687089, 11230858885718282805, 13951009754708518548, 16472876342353939154, 17275323862435702243, 1135362057144423861, 2597628984639134821, 3308224258029322869, 5365058923640841347, 6679025012923562964, 8573033837759648693, 10970295158949994411, 12119686244451234320, 12683024718118986047, 13788192230050041572, 14330467153632333762, 15395433587784984357, 489312712824947311, 1452737877330783856, 2861767655752347644, 3322285676063803686, 5560940570517711597, 5996557281743188959, 7280758554555802590, 8532644243296465576, 9350256976987008742, 10552545826968843579, 11727347734174303076, 12113106623233404929, 14000437183269869457, 14369950271660146224, 15101387698204529176, 15463397548674623760, 17586052441742319658, 1182934255886127544, 1847814050463011016, 2177327727835720531, 2830643537854262169, 3796741975233480872, 4115178125766777443, 5681478168544905931, 6601373596472566643, 7507060721942968483, 8399075790359081724, 8693463985226723168, 9568029438360202098, 10144078919501101548, 10430055236837252648, 11840083180663258601, 13761210420658862357, 14299343276471374635, 14566680578165727644, 15097957966210449927, 16922976911328602910, 17689382322260857208, 500013540394364858, 748580250866718886, 1242879168328830382, 1977374033974150939, 2944078676154940804, 3659926193048069267, 4368137639120453308, 4836135668995329356, 5532061633213252278, 6448918945643986474, 6902733635092675308, 7801388544844847127]
structure Globs (W : World) : Prop where
  g0 : Mem W 0 0 [.ints .u64 4 G_order]
  g1 : Mem W 1 0 [.ints .u64 8 G_first]
  g2 : Mem W 2 0 [.ints .u64 80 G_table]
theorem Globs.at {C : Cfg} {m : List Chunk} {w : World} (h : Globs C.W0) (hw : Sat C.W0 C.S m w) (hS : ∀ g, g < ng → g ∉ C.S) : Globs w := ⟨mem_still h.g0 (hS 0 (by decide)) hw, mem_still h.g1 (hS 1 (by decide)) hw, mem_still h.g2 (hS 2 (by decide)) hw⟩
theorem Globs.ap {C : Cfg} {m : List Chunk} {w : World} {b : Nat} {o : Obj} (h : Globs C.W0) (hS : ∀ g, g < ng → g ∉ C.S) (hb : Has b o m) (hw : Sat C.W0 C.S m w) : ∀ g, g < ng → g ∉ [b] := by
  intro g hg hm
  simp only [List.mem_singleton] at hm
  subst hm
  rcases hw.base _ hb.mem with h1 | h1
  · have h2 : ∀ g, g < ng → g < C.W0.heap.size := fun g hg => match g, hg with
      | 0, _ => h.g0.lt
      | 1, _ => h.g1.lt
      | 2, _ => h.g2.lt
    exact absurd h1 (Nat.not_le.2 (h2 _ hg))
  · exact hS _ hg h1
/- farebox/field.carry -/
def field_carry (p0 : List Int) : Option ((List Int)) :=
 bnd (p0.getD 0 0) fun z5 =>
 bnd (bitsV .and .u64 z5 2251799813685247) fun z6 =>
 bnd (p0.getD 4 0) fun z7 =>
 bnd (shrV .u64 z7 51) fun z8 =>
 bnd (IntKind.wrap .u64 (z8 * 19)) fun z9 =>
 bnd (IntKind.wrap .u64 (z6 + z9)) fun z10 =>
 bnd (p0.getD 1 0) fun z11 =>
 bnd (bitsV .and .u64 z11 2251799813685247) fun z12 =>
 bnd (p0.getD 0 0) fun z13 =>
 bnd (shrV .u64 z13 51) fun z14 =>
 bnd (IntKind.wrap .u64 (z12 + z14)) fun z15 =>
 bnd (p0.getD 2 0) fun z16 =>
 bnd (bitsV .and .u64 z16 2251799813685247) fun z17 =>
 bnd (p0.getD 1 0) fun z18 =>
 bnd (shrV .u64 z18 51) fun z19 =>
 bnd (IntKind.wrap .u64 (z17 + z19)) fun z20 =>
 bnd (p0.getD 3 0) fun z21 =>
 bnd (bitsV .and .u64 z21 2251799813685247) fun z22 =>
 bnd (p0.getD 2 0) fun z23 =>
 bnd (shrV .u64 z23 51) fun z24 =>
 bnd (IntKind.wrap .u64 (z22 + z24)) fun z25 =>
 bnd (p0.getD 4 0) fun z26 =>
 bnd (bitsV .and .u64 z26 2251799813685247) fun z27 =>
 bnd (p0.getD 3 0) fun z28 =>
 bnd (shrV .u64 z28 51) fun z29 =>
 bnd (IntKind.wrap .u64 (z27 + z29)) fun z30 =>
 bnd (([z10, z15, z20, z25, z30] : List Int)) fun z31 =>
 some z31
theorem field_carry_spec {W : World} {r : (List Int)} {p0 : List Int} (h : field_carry p0 = some r)  :
    Calls Tryd.prog 76 [agg [.ints .u64 5 (p0)]].toArray W (ret1 W (agg [.ints .u64 5 (r)])) := by
  unfold field_carry at h
  refine calls_val mo ok76 rfl ?_
  refine wc_seq ?_
  refine wc_ops ?_
  refine wj_e (ef_bx (s := [.ints .u64 5 (p0)]) rfl fun b2 hb2 => ?_)
  refine wj_e (ef_al fun b3 hb3 => ?_)
  refine wj_nil ?_
  refine wc_seq ?_
  revert h
  refine bnd_i fun z5 ez5 => ?_
  refine bnd_i fun z6 ez6 => ?_
  refine bnd_i fun z7 ez7 => ?_
  refine bnd_i fun z8 ez8 => ?_
  refine bnd_i fun z9 ez9 => ?_
  refine bnd_i fun z10 ez10 => ?_
  refine bnd_i fun z11 ez11 => ?_
  refine bnd_i fun z12 ez12 => ?_
  refine bnd_i fun z13 ez13 => ?_
  refine bnd_i fun z14 ez14 => ?_
  refine bnd_i fun z15 ez15 => ?_
  refine bnd_i fun z16 ez16 => ?_
  refine bnd_i fun z17 ez17 => ?_
  refine bnd_i fun z18 ez18 => ?_
  refine bnd_i fun z19 ez19 => ?_
  refine bnd_i fun z20 ez20 => ?_
  refine bnd_i fun z21 ez21 => ?_
  refine bnd_i fun z22 ez22 => ?_
  refine bnd_i fun z23 ez23 => ?_
  refine bnd_i fun z24 ez24 => ?_
  refine bnd_i fun z25 ez25 => ?_
  refine bnd_i fun z26 ez26 => ?_
  refine bnd_i fun z27 ez27 => ?_
  refine bnd_i fun z28 ez28 => ?_
  refine bnd_i fun z29 ez29 => ?_
  refine bnd_i fun z30 ez30 => ?_
  refine bnd_i fun z31 ez31 => ?_
  intro h
  refine wc_ops ?_
  refine wj_q _ (q_ia rfl rfl (by decide)) ?_
  refine wj_q _ (iz ez5 (q_ld1 rfl (.there .here) rfl)) ?_
  refine wj_q _ (iz ez6 (q_bin rfl rfl rfl)) ?_
  refine wj_q _ (q_ia rfl rfl (by decide)) ?_
  refine wj_q _ (iz ez7 (q_ld1 rfl (.there .here) rfl)) ?_
  refine wj_q _ (iz ez8 (q_shr rfl rfl (by decide))) ?_
  refine wj_q _ (iz ez9 (q_bin rfl rfl rfl)) ?_
  refine wj_q _ (iz ez10 (q_bin rfl rfl rfl)) ?_
  refine wj_q _ (q_ia rfl rfl (by decide)) ?_
  refine wj_q _ (iz ez11 (q_ld1 rfl (.there .here) rfl)) ?_
  refine wj_q _ (iz ez12 (q_bin rfl rfl rfl)) ?_
  refine wj_q _ (q_ia rfl rfl (by decide)) ?_
  refine wj_q _ (iz ez13 (q_ld1 rfl (.there .here) rfl)) ?_
  refine wj_q _ (iz ez14 (q_shr rfl rfl (by decide))) ?_
  refine wj_q _ (iz ez15 (q_bin rfl rfl rfl)) ?_
  refine wj_q _ (q_ia rfl rfl (by decide)) ?_
  refine wj_q _ (iz ez16 (q_ld1 rfl (.there .here) rfl)) ?_
  refine wj_q _ (iz ez17 (q_bin rfl rfl rfl)) ?_
  refine wj_q _ (q_ia rfl rfl (by decide)) ?_
  refine wj_q _ (iz ez18 (q_ld1 rfl (.there .here) rfl)) ?_
  refine wj_q _ (iz ez19 (q_shr rfl rfl (by decide))) ?_
  refine wj_q _ (iz ez20 (q_bin rfl rfl rfl)) ?_
  refine wj_q _ (q_ia rfl rfl (by decide)) ?_
  refine wj_q _ (iz ez21 (q_ld1 rfl (.there .here) rfl)) ?_
  refine wj_q _ (iz ez22 (q_bin rfl rfl rfl)) ?_
  refine wj_q _ (q_ia rfl rfl (by decide)) ?_
  refine wj_q _ (iz ez23 (q_ld1 rfl (.there .here) rfl)) ?_
  refine wj_q _ (iz ez24 (q_shr rfl rfl (by decide))) ?_
  refine wj_q _ (iz ez25 (q_bin rfl rfl rfl)) ?_
  refine wj_q _ (q_ia rfl rfl (by decide)) ?_
  refine wj_q _ (iz ez26 (q_ld1 rfl (.there .here) rfl)) ?_
  refine wj_q _ (iz ez27 (q_bin rfl rfl rfl)) ?_
  refine wj_q _ (q_ia rfl rfl (by decide)) ?_
  refine wj_q _ (iz ez28 (q_ld1 rfl (.there .here) rfl)) ?_
  refine wj_q _ (iz ez29 (q_shr rfl rfl (by decide))) ?_
  refine wj_q _ (iz ez30 (q_bin rfl rfl rfl)) ?_
  refine wj_q _ (az (fun z => agg [.ints .u64 5 z]) ez31 (q_bd (.one rfl rfl rfl (.one rfl rfl rfl (.one rfl rfl rfl (.one rfl rfl rfl (.one rfl rfl rfl BdR.nil))))))) ?_
  refine wj_e (ef_st (q := [.ints .u64 5 (z31)]) rfl rfl rfl rfl rfl .here ?_)
  refine wj_nil ?_
  refine wc_ret ?_
  revert h; refine ret_i fun h => ?_
  subst h
  exact ⟨_, (.cons (.agg rfl .here rfl) .nil), rfl⟩
/- farebox/field.reduce -/
def field_reduce_b1 (y6 : (List Int)) (k47 : (Int) → Option ((List Int))) (k70 : (Int) → (Int) → Option ((List Int))) (i68 : Int) (i69 : Int) : Option ((List Int)) :=
 br ((decide (i68 < 4))) (
 chk (inB i68 (tk y6 1 (5 - 1)).length) <|
 bnd ((tk y6 1 (5 - 1)).getD (i68).toNat 0) fun z76 =>
 bnd (IntKind.wrap .u64 (z76 + i69)) fun z78 =>
 bnd (shrV .u64 z78 51) fun z79 =>
 bnd (IntKind.wrap .i64 (i68 + 1)) fun z81 =>
 k70 z81 z79
 ) (
 k47 i69
 )
def field_reduce_l1 (y6 : (List Int)) (k47 : (Int) → Option ((List Int))) : Nat → (Int) → (Int) → Option ((List Int))
  | 0, _, _ => none
  | n + 1, i68, i69 => field_reduce_b1 y6 k47 (field_reduce_l1 y6 k47 n) i68 i69
def field_reduce_b2 (k150 : (List Int) → Option ((List Int))) (k189 : (Int) → (List Int) → Option ((List Int))) (i187 : Int) (a188 : List Int) : Option ((List Int)) :=
 br ((decide (i187 < 4))) (
 bnd (IntKind.wrap .i64 (i187 + 1)) fun z195 =>
 chk (inB z195 5) <|
 chk (inB i187 5) <|
 bnd (a188.getD (z195).toNat 0) fun z198 =>
 bnd (a188.getD (i187).toNat 0) fun z199 =>
 bnd (shrV .u64 z199 51) fun z200 =>
 bnd (IntKind.wrap .u64 (z198 + z200)) fun z201 =>
 chk (inB z195 5) <|
 bnd (setD a188 (z195).toNat z201) fun l203 =>
 chk (inB i187 5) <|
 bnd (l203.getD (i187).toNat 0) fun z206 =>
 bnd (bitsV .and .u64 z206 2251799813685247) fun z207 =>
 chk (inB i187 5) <|
 bnd (setD l203 (i187).toNat z207) fun l209 =>
 bnd (IntKind.wrap .i64 (i187 + 1)) fun z211 =>
 k189 z211 l209
 ) (
 k150 a188
 )
def field_reduce_l2 (k150 : (List Int) → Option ((List Int))) : Nat → (Int) → (List Int) → Option ((List Int))
  | 0, _, _ => none
  | n + 1, i187, a188 => field_reduce_b2 k150 (field_reduce_l2 k150 n) i187 a188
def field_reduce (p0 : List Int) : Option ((List Int)) :=
 opt (field_carry p0) fun y5 =>
 opt (field_carry y5) fun y6 =>
 bnd (y6.getD 0 0) fun z8 =>
 bnd (IntKind.wrap .u64 (z8 + 19)) fun z9 =>
 bnd (shrV .u64 z9 51) fun z10 =>
 jn (fun (i46 : Int) => bnd (y6.getD 0 0) fun z83 =>
 bnd (IntKind.wrap .u64 (19 * i46)) fun z84 =>
 bnd (IntKind.wrap .u64 (z83 + z84)) fun z85 =>
 bnd (setD y6 0 z85) fun l86 =>
 jn (fun (a149 : List Int) => bnd (a149.getD 4 0) fun z213 =>
 bnd (bitsV .and .u64 z213 2251799813685247) fun z214 =>
 bnd (setD a149 4 z214) fun l215 =>
 some l215) fun k150 => field_reduce_l2 k150 big 0 l86) fun k47 => field_reduce_l1 y6 k47 big 0 z10
theorem field_reduce_spec {W : World} {r : (List Int)} {p0 : List Int} (h : field_reduce p0 = some r)  :
    Calls Tryd.prog 70 [agg [.ints .u64 5 (p0)]].toArray W (ret1 W (agg [.ints .u64 5 (r)])) := by
  unfold field_reduce at h
  refine calls_val mo ok70 rfl ?_
  refine wc_seq ?_
  refine wc_ops ?_
  refine wj_e (ef_bx (s := [.ints .u64 5 (p0)]) rfl fun b2 hb2 => ?_)
  refine wj_e (ef_al fun b3 hb3 => ?_)
  refine wj_nil ?_
  refine wc_seq ?_
  revert h
  refine opt_i fun y5 ey5 => ?_
  refine opt_i fun y6 ey6 => ?_
  intro h
  refine wc_ops ?_
  refine wj_q _ (q_ld (p := [.ints .u64 5 (p0)]) rfl (.there .here) rfl) ?_
  refine wj_q _ (q_call (vs := [agg [.ints .u64 5 (p0)]]) (v := agg [.ints .u64 5 (y5)]) rfl (fun w hw => field_carry_spec (r := y5) (p0 := p0) ey5 )) ?_
  refine wj_q _ (q_call (vs := [agg [.ints .u64 5 (y5)]]) (v := agg [.ints .u64 5 (y6)]) rfl (fun w hw => field_carry_spec (r := y6) (p0 := y5) ey6 )) ?_
  refine wj_e (ef_st (q := [.ints .u64 5 (y6)]) rfl rfl rfl rfl rfl (.there .here) ?_)
  refine wj_nil ?_
  refine wc_seq ?_
  revert h
  refine bnd_i fun z8 ez8 => ?_
  refine bnd_i fun z9 ez9 => ?_
  refine bnd_i fun z10 ez10 => ?_
  intro h
  refine wc_ops ?_
  refine wj_q _ (q_ia rfl rfl (by decide)) ?_
  refine wj_q _ (iz ez8 (q_ld1 rfl (.there .here) rfl)) ?_
  refine wj_q _ (iz ez9 (q_bin rfl rfl rfl)) ?_
  refine wj_q _ (iz ez10 (q_shr rfl rfl (by decide))) ?_
  refine wj_q _ (q_mv rfl) ?_
  refine wj_nil ?_
  refine wc_seq ?_
  refine wc_seq ?_
  refine wc_ops ?_
  refine wj_q _ (q_sla rfl (.yes rfl) .no .no (by simp) (by decide)) ?_
  refine wj_q _ (q_len rfl) ?_
  refine wj_q _ (q_mv rfl) ?_
  refine wj_nil ?_
  revert h
  refine jn_i fun k47 qk47 => ?_
  intro h
  refine wc_mono2 (G := fun t m => ∃ (i46 : Int), k47 i46 = some r ∧ Fit [(1, .pointer (some ⟨b2, 0, none⟩)), (2, .pointer (some ⟨b3, 0, none⟩)), (3, .int .u64 (i46))] (ck b3 58 [.ints .u64 5 ((List.replicate 5 0))] :: (ck b2 58 [.ints .u64 5 (y6)] :: [])) t m) ?_ ?_
  · refine wc_block ?_
    refine wc_loopJ (fun n71 t m => ∃ (i68 : Int) (i69 : Int), field_reduce_l1 y6 k47 n71 i68 i69 = some r ∧ Fit [(1, .pointer (some ⟨b2, 0, none⟩)), (2, .pointer (some ⟨b3, 0, none⟩)), (3, .int .u64 (i69)), (14, (.slice (some (slAddr b2 0 1 5 1)) (5 - 1) (5 - 1))), (15, .int .i64 4), (16, .int .i64 (i68))] (ck b3 58 [.ints .u64 5 ((List.replicate 5 0))] :: (ck b2 58 [.ints .u64 5 (y6)] :: [])) t m) big ?_ ?_
    · exact ⟨0, z10, h, ⟨⟨rfl, rfl, rfl, rfl, rfl, rfl, trivial⟩, (.one .here (.one .here .nil))⟩⟩
    · rintro n71 t m ⟨i68, i69, h, hF⟩
      refine wc_fit hF ?_
      clear hF
      rcases n71 with _ | n71
      · exact none_i h
      have h : field_reduce_b1 y6 k47 (field_reduce_l1 y6 k47 n71) i68 i69 = some r := h
      unfold field_reduce_b1 at h
      obtain ⟨k70, qk70⟩ : ∃ k, k = field_reduce_l1 y6 k47 n71 := ⟨_, rfl⟩
      try rw [← qk70] at h
      refine wc_seq ?_
      refine wc_ops ?_
      refine wj_q _ (q_bin rfl rfl rfl) ?_
      refine wj_nil ?_
      refine wc_seq ?_
      refine wc_if (c := (decide (i68 < 4))) rfl (fun d73 => ?_) (fun d73 => ?_)
      · have h := br_t h d73
        refine wc_skip ?_
        refine wc_seq ?_
        refine wc_block ?_
        refine wc_seq ?_
        revert h
        refine chk_i fun c75 => ?_
        refine bnd_i fun z76 ez76 => ?_
        intro h
        refine wc_ops ?_
        refine wj_q _ (q_iasP rfl rfl (Shp.blk (lo := 1) (hi := 5) (mz := 5) (by decide) (by simp [tk_length])) c75) ?_
        refine wj_q _ (iz ez76 (q_ldM10 (E := (El.int .u64)) (s := [.one (.int .u64 ((tk y6 1 (5 - 1)).getD (i68).toNat 0))]) rfl (rd_blk_i (s := [.ints .u64 5 (y6)]) (N := 5) (k := .u64) (base := 0) (lo := 1) (hi := 5) (mz := 5) (.there .here) rfl (by decide)) (inB_n c75) rfl rfl)) ?_
        refine wj_q _ (q_mv rfl) ?_
        refine wj_nil ?_
        revert h
        refine bnd_i fun z78 ez78 => ?_
        refine bnd_i fun z79 ez79 => ?_
        intro h
        refine wc_ops ?_
        refine wj_q _ (q_mv rfl) ?_
        refine wj_q _ (q_mv rfl) ?_
        refine wj_q _ (iz ez78 (q_bin rfl rfl rfl)) ?_
        refine wj_q _ (iz ez79 (q_shr rfl rfl (by decide))) ?_
        refine wj_q _ (q_mv rfl) ?_
        refine wj_nil ?_
        revert h
        refine bnd_i fun z81 ez81 => ?_
        intro h
        refine wc_ops ?_
        refine wj_q _ (iz ez81 (q_bin rfl rfl rfl)) ?_
        refine wj_q _ (q_mv rfl) ?_
        refine wj_nil ?_
        rw [qk70] at h
        exact ⟨n71, Nat.lt_succ_self _, z81, z79, h, ⟨⟨rfl, rfl, rfl, rfl, rfl, rfl, trivial⟩, (.one .here (.one .here .nil))⟩⟩
      · have h := br_f h d73
        refine wc_exit _ rfl ?_
        exact ⟨i69, h, ⟨⟨rfl, rfl, rfl, trivial⟩, (.one .here (.one .here .nil))⟩⟩
  · rintro t m ⟨i46, h, hF⟩
    refine wc_fit hF ?_
    clear hF
    subst qk47
    refine wc_seq ?_
    revert h
    refine bnd_i fun z83 ez83 => ?_
    refine bnd_i fun z84 ez84 => ?_
    refine bnd_i fun z85 ez85 => ?_
    refine bnd_i fun l86 el86 => ?_
    intro h
    refine wc_ops ?_
    refine wj_q _ (q_ia rfl rfl (by decide)) ?_
    refine wj_q _ (iz ez83 (q_ld1 rfl (.there .here) rfl)) ?_
    refine wj_q _ (q_mv rfl) ?_
    refine wj_q _ (iz ez84 (q_bin rfl rfl rfl)) ?_
    refine wj_q _ (iz ez85 (q_bin rfl rfl rfl)) ?_
    refine wj_q _ (q_ia rfl rfl (by decide)) ?_
    refine wj_e (ef_st1z (q := [.ints .u64 5 (l86)]) (congrArg (fun z => ([.ints .u64 5 (z)] : List Seg)) el86.symm) rfl rfl rfl rfl (.there .here) ?_)
    refine wj_nil ?_
    refine wc_seq ?_
    refine wc_seq ?_
    refine wc_ops ?_
    refine wj_q _ (q_mv rfl) ?_
    refine wj_nil ?_
    revert h
    refine jn_i fun k150 qk150 => ?_
    intro h
    refine wc_mono2 (G := fun t m => ∃ (a149 : List Int), k150 a149 = some r ∧ Fit [(1, .pointer (some ⟨b2, 0, none⟩)), (2, .pointer (some ⟨b3, 0, none⟩))] (ck b3 58 [.ints .u64 5 ((List.replicate 5 0))] :: (ck b2 58 [.ints .u64 5 (a149)] :: [])) t m) ?_ ?_
    · refine wc_block ?_
      refine wc_loopJ (fun n190 t m => ∃ (i187 : Int) (a188 : List Int), field_reduce_l2 k150 n190 i187 a188 = some r ∧ Fit [(1, .pointer (some ⟨b2, 0, none⟩)), (2, .pointer (some ⟨b3, 0, none⟩)), (31, .int .i64 (i187))] (ck b3 58 [.ints .u64 5 ((List.replicate 5 0))] :: (ck b2 58 [.ints .u64 5 (a188)] :: [])) t m) big ?_ ?_
      · exact ⟨0, l86, h, ⟨⟨rfl, rfl, rfl, trivial⟩, (.one .here (.one .here .nil))⟩⟩
      · rintro n190 t m ⟨i187, a188, h, hF⟩
        refine wc_fit hF ?_
        clear hF
        rcases n190 with _ | n190
        · exact none_i h
        have h : field_reduce_b2 k150 (field_reduce_l2 k150 n190) i187 a188 = some r := h
        unfold field_reduce_b2 at h
        obtain ⟨k189, qk189⟩ : ∃ k, k = field_reduce_l2 k150 n190 := ⟨_, rfl⟩
        try rw [← qk189] at h
        refine wc_seq ?_
        refine wc_ops ?_
        refine wj_q _ (q_bin rfl rfl rfl) ?_
        refine wj_nil ?_
        refine wc_seq ?_
        refine wc_if (c := (decide (i187 < 4))) rfl (fun d192 => ?_) (fun d192 => ?_)
        · have h := br_t h d192
          refine wc_skip ?_
          refine wc_seq ?_
          refine wc_block ?_
          refine wc_seq ?_
          refine wc_ops ?_
          refine wj_q _ (q_mv rfl) ?_
          refine wj_q _ (q_mv rfl) ?_
          refine wj_nil ?_
          refine wc_seq ?_
          revert h
          refine bnd_i fun z195 ez195 => ?_
          refine chk_i fun c196 => ?_
          refine chk_i fun c197 => ?_
          refine bnd_i fun z198 ez198 => ?_
          refine bnd_i fun z199 ez199 => ?_
          refine bnd_i fun z200 ez200 => ?_
          refine bnd_i fun z201 ez201 => ?_
          refine chk_i fun c202 => ?_
          refine bnd_i fun l203 el203 => ?_
          intro h
          refine wc_draw ?_
          refine ws_p1 _ (q_mv rfl) ?_
          refine ws_p1 _ (iz ez195 (q_bin rfl rfl rfl)) ?_
          refine ws_p1 _ (q_ia rfl rfl (inB_z c196)) ?_
          refine ws_p1 _ (q_mv rfl) ?_
          refine ws_p1 _ (q_ia rfl rfl (inB_z c197)) ?_
          refine ws_q1 _ (iz ez198 (q_ldi (base := 0) rfl (.there .here) rfl (inB_n c196))) ?_
          refine ws_q1 _ (iz ez199 (q_ldi (base := 0) rfl (.there .here) rfl (inB_n c197))) ?_
          refine ws_p1 _ (iz ez200 (q_shr rfl rfl (by decide))) ?_
          refine ws_p1 _ (iz ez201 (q_bin rfl rfl rfl)) ?_
          refine ws_p1 _ (q_ia rfl rfl (inB_z c202)) ?_
          refine ws_eL rfl (ef_stiz (q := [.ints .u64 5 (l203)]) (base := 0) el203 rfl rfl rfl (inB_n c202) rfl (.there .here) ?_)
          refine ws_nil ?_
          revert h
          refine chk_i fun c205 => ?_
          refine bnd_i fun z206 ez206 => ?_
          refine bnd_i fun z207 ez207 => ?_
          refine chk_i fun c208 => ?_
          refine bnd_i fun l209 el209 => ?_
          intro h
          refine wc_ops ?_
          refine wj_q _ (q_mv rfl) ?_
          refine wj_q _ (q_ia rfl rfl (inB_z c205)) ?_
          refine wj_q _ (iz ez206 (q_ldi (base := 0) rfl (.there .here) rfl (inB_n c205))) ?_
          refine wj_q _ (iz ez207 (q_bin rfl rfl rfl)) ?_
          refine wj_q _ (q_ia rfl rfl (inB_z c208)) ?_
          refine wj_e (ef_stiz (q := [.ints .u64 5 (l209)]) (base := 0) el209 rfl rfl rfl (inB_n c208) rfl (.there .here) ?_)
          refine wj_nil ?_
          revert h
          refine bnd_i fun z211 ez211 => ?_
          intro h
          refine wc_ops ?_
          refine wj_q _ (iz ez211 (q_bin rfl rfl rfl)) ?_
          refine wj_q _ (q_mv rfl) ?_
          refine wj_nil ?_
          rw [qk189] at h
          exact ⟨n190, Nat.lt_succ_self _, z211, l209, h, ⟨⟨rfl, rfl, rfl, trivial⟩, (.one .here (.one .here .nil))⟩⟩
        · have h := br_f h d192
          refine wc_exit _ rfl ?_
          exact ⟨a188, h, ⟨⟨rfl, rfl, trivial⟩, (.one .here (.one .here .nil))⟩⟩
    · rintro t m ⟨a149, h, hF⟩
      refine wc_fit hF ?_
      clear hF
      subst qk150
      refine wc_seq ?_
      revert h
      refine bnd_i fun z213 ez213 => ?_
      refine bnd_i fun z214 ez214 => ?_
      refine bnd_i fun l215 el215 => ?_
      intro h
      refine wc_ops ?_
      refine wj_q _ (q_ia rfl rfl (by decide)) ?_
      refine wj_q _ (iz ez213 (q_ld1 rfl (.there .here) rfl)) ?_
      refine wj_q _ (iz ez214 (q_bin rfl rfl rfl)) ?_
      refine wj_q _ (q_ia rfl rfl (by decide)) ?_
      refine wj_e (ef_st1z (q := [.ints .u64 5 (l215)]) (congrArg (fun z => ([.ints .u64 5 (z)] : List Seg)) el215.symm) rfl rfl rfl rfl (.there .here) ?_)
      refine wj_nil ?_
      refine wc_seq ?_
      refine wc_ops ?_
      refine wj_q _ (q_ld (p := [.ints .u64 5 (l215)]) rfl (.there .here) rfl) ?_
      refine wj_e (ef_st (q := [.ints .u64 5 (l215)]) rfl rfl rfl rfl rfl .here ?_)
      refine wj_nil ?_
      refine wc_ret ?_
      revert h; refine ret_i fun h => ?_
      subst h
      exact ⟨_, (.cons (.agg rfl .here rfl) .nil), rfl⟩
/- farebox/field.FromBytes -/
def field_FromBytes_b1 (p0 : List Int) (k214 : (List Int) → Option ((List Int))) (k333 : (Int) → (List Int) → Option ((List Int))) (i331 : Int) (a332 : List Int) : Option ((List Int)) :=
 br ((decide (i331 < 32))) (
 jn (fun (a377 : List Int) => bnd (IntKind.wrap .i64 (i331 + 1)) fun z420 =>
 k333 z420 a377) fun k378 => chk (inB i331 32) <|
 bnd (p0.getD (i331).toNat 0) fun z381 =>
 jn (fun (i386 : Int) => bnd (IntKind.wrap .i64 (8 * i331)) fun z392 =>
 bnd (IntKind.wrap .i64 (Int.tdiv z392 51)) fun z393 =>
 bnd (IntKind.wrap .i64 (8 * i331)) fun z394 =>
 bnd (Int.tmod z394 51) fun z395 =>
 chk (inB z393 5) <|
 bnd (IntKind.wrap .u64 i386) fun z398 =>
 chk (decide (0 ≤ z395)) <|
 bnd (shlV .u64 z398 z395) fun z400 =>
 bnd (bitsV .and .u64 z400 2251799813685247) fun z401 =>
 bnd (a332.getD (z393).toNat 0) fun z402 =>
 bnd (bitsV .or .u64 z402 z401) fun z403 =>
 chk (inB z393 5) <|
 bnd (setD a332 (z393).toNat z403) fun l405 =>
 br (((decide (z395 > 43)) && (decide (z393 < 4)))) (
 bnd (IntKind.wrap .i64 (z393 + 1)) fun z409 =>
 chk (inB z409 5) <|
 bnd (IntKind.wrap .u64 i386) fun z411 =>
 bnd (IntKind.wrap .i64 (51 - z395)) fun z412 =>
 chk (decide (0 ≤ z412)) <|
 bnd (shrV .u64 z411 z412) fun z414 =>
 bnd (l405.getD (z409).toNat 0) fun z415 =>
 bnd (bitsV .or .u64 z415 z414) fun z416 =>
 chk (inB z409 5) <|
 bnd (setD l405 (z409).toNat z416) fun l418 =>
 k378 l418
 ) (
 k378 l405
 )) fun k387 => br ((i331 == 31)) (
 bnd (bitsV .and .u8 z381 127) fun z390 =>
 k387 z390
 ) (
 k387 z381
 )
 ) (
 k214 a332
 )
def field_FromBytes_l1 (p0 : List Int) (k214 : (List Int) → Option ((List Int))) : Nat → (Int) → (List Int) → Option ((List Int))
  | 0, _, _ => none
  | n + 1, i331, a332 => field_FromBytes_b1 p0 k214 (field_FromBytes_l1 p0 k214 n) i331 a332
def field_FromBytes (p0 : List Int) : Option ((List Int)) :=
 jn (fun (a213 : List Int) => opt (field_reduce a213) fun y422 =>
 some y422) fun k214 => field_FromBytes_l1 p0 k214 big 0 (List.replicate 5 0)
theorem field_FromBytes_spec {W : World} {r : (List Int)} {p0 : List Int} (h : field_FromBytes p0 = some r)  :
    Calls Tryd.prog 33 [agg [.ints .u8 32 (p0)]].toArray W (ret1 W (agg [.ints .u64 5 (r)])) := by
  unfold field_FromBytes at h
  refine calls_val mo ok33 rfl ?_
  refine wc_seq ?_
  refine wc_ops ?_
  refine wj_e (ef_bx (s := [.ints .u8 32 (p0)]) rfl fun b2 hb2 => ?_)
  refine wj_e (ef_al fun b3 hb3 => ?_)
  refine wj_nil ?_
  refine wc_seq ?_
  refine wc_ops ?_
  refine wj_e (ef_al fun b5 hb5 => ?_)
  refine wj_nil ?_
  refine wc_seq ?_
  refine wc_seq ?_
  refine wc_ops ?_
  refine wj_q _ (q_ld (p := [.ints .u8 32 (p0)]) rfl (.there (.there .here)) rfl) ?_
  refine wj_q _ (q_mv rfl) ?_
  refine wj_nil ?_
  revert h
  refine jn_i fun k214 qk214 => ?_
  intro h
  refine wc_mono2 (G := fun t m => ∃ (a213 : List Int), k214 a213 = some r ∧ Fit [(2, .pointer (some ⟨b3, 0, none⟩)), (3, .pointer (some ⟨b5, 0, none⟩))] (ck b5 58 [.ints .u64 5 (a213)] :: (ck b3 58 [.ints .u64 5 ((List.replicate 5 0))] :: (ck b2 26 [.ints .u8 32 (p0)] :: []))) t m) ?_ ?_
  · refine wc_block ?_
    refine wc_loopJ (fun n334 t m => ∃ (i331 : Int) (a332 : List Int), field_FromBytes_l1 p0 k214 n334 i331 a332 = some r ∧ Fit [(2, .pointer (some ⟨b3, 0, none⟩)), (3, .pointer (some ⟨b5, 0, none⟩)), (8, agg [.ints .u8 32 (p0)]), (9, .int .i64 (i331))] (ck b5 58 [.ints .u64 5 (a332)] :: (ck b3 58 [.ints .u64 5 ((List.replicate 5 0))] :: (ck b2 26 [.ints .u8 32 (p0)] :: []))) t m) big ?_ ?_
    · exact ⟨0, (List.replicate 5 0), h, ⟨⟨rfl, rfl, rfl, rfl, trivial⟩, (.one .here (.one .here (.one .here .nil)))⟩⟩
    · rintro n334 t m ⟨i331, a332, h, hF⟩
      refine wc_fit hF ?_
      clear hF
      rcases n334 with _ | n334
      · exact none_i h
      have h : field_FromBytes_b1 p0 k214 (field_FromBytes_l1 p0 k214 n334) i331 a332 = some r := h
      unfold field_FromBytes_b1 at h
      obtain ⟨k333, qk333⟩ : ∃ k, k = field_FromBytes_l1 p0 k214 n334 := ⟨_, rfl⟩
      try rw [← qk333] at h
      refine wc_seq ?_
      refine wc_ops ?_
      refine wj_q _ (q_bin rfl rfl rfl) ?_
      refine wj_nil ?_
      refine wc_seq ?_
      refine wc_if (c := (decide (i331 < 32))) rfl (fun d336 => ?_) (fun d336 => ?_)
      · have h := br_t h d336
        refine wc_skip ?_
        refine wc_seq ?_
        revert h
        refine jn_i fun k378 qk378 => ?_
        intro h
        refine wc_mono2 (G := fun t m => ∃ (a377 : List Int), k378 a377 = some r ∧ Fit [(2, .pointer (some ⟨b3, 0, none⟩)), (3, .pointer (some ⟨b5, 0, none⟩)), (8, agg [.ints .u8 32 (p0)]), (9, .int .i64 (i331))] (ck b5 58 [.ints .u64 5 (a377)] :: (ck b3 58 [.ints .u64 5 ((List.replicate 5 0))] :: (ck b2 26 [.ints .u8 32 (p0)] :: []))) t m) ?_ ?_
        · refine wc_block ?_
          refine wc_seq ?_
          revert h
          refine chk_i fun c380 => ?_
          refine bnd_i fun z381 ez381 => ?_
          intro h
          refine wc_ops ?_
          refine wj_q _ (q_mv rfl) ?_
          refine wj_q _ (iz ez381 (q_idxi (len := 32) rfl rfl (inB_z c380))) ?_
          refine wj_q _ (q_mv rfl) ?_
          refine wj_q _ (q_mv rfl) ?_
          refine wj_nil ?_
          refine wc_seq ?_
          refine wc_seq ?_
          refine wc_ops ?_
          refine wj_q _ (q_mv rfl) ?_
          refine wj_q _ (q_bin rfl rfl rfl) ?_
          refine wj_nil ?_
          revert h
          refine jn_i fun k387 qk387 => ?_
          intro h
          refine wc_mono2 (G := fun t m => ∃ (i386 : Int), k387 i386 = some r ∧ Fit [(2, .pointer (some ⟨b3, 0, none⟩)), (3, .pointer (some ⟨b5, 0, none⟩)), (4, .int .i64 (i331)), (5, .int .u8 (i386)), (8, agg [.ints .u8 32 (p0)]), (9, .int .i64 (i331))] (ck b5 58 [.ints .u64 5 (a332)] :: (ck b3 58 [.ints .u64 5 ((List.replicate 5 0))] :: (ck b2 26 [.ints .u8 32 (p0)] :: []))) t m) ?_ ?_
          · refine wc_if (c := (i331 == 31)) rfl (fun d388 => ?_) (fun d388 => ?_)
            · have h := br_t h d388
              revert h
              refine bnd_i fun z390 ez390 => ?_
              intro h
              refine wc_ops ?_
              refine wj_q _ (q_mv rfl) ?_
              refine wj_q _ (iz ez390 (q_bin rfl rfl rfl)) ?_
              refine wj_q _ (q_mv rfl) ?_
              refine wj_nil ?_
              exact ⟨z390, h, ⟨⟨rfl, rfl, rfl, rfl, rfl, rfl, trivial⟩, (.one .here (.one .here (.one .here .nil)))⟩⟩
            · have h := br_f h d388
              refine wc_skip ?_
              exact ⟨z381, h, ⟨⟨rfl, rfl, rfl, rfl, rfl, rfl, trivial⟩, (.one .here (.one .here (.one .here .nil)))⟩⟩
          · rintro t m ⟨i386, h, hF⟩
            refine wc_fit hF ?_
            clear hF
            subst qk387
            refine wc_seq ?_
            revert h
            refine bnd_i fun z392 ez392 => ?_
            refine bnd_i fun z393 ez393 => ?_
            refine bnd_i fun z394 ez394 => ?_
            refine bnd_i fun z395 ez395 => ?_
            intro h
            refine wc_ops ?_
            refine wj_q _ (q_mv rfl) ?_
            refine wj_q _ (iz ez392 (q_bin rfl rfl rfl)) ?_
            refine wj_q _ (iz ez393 (q_quo rfl rfl (by decide))) ?_
            refine wj_q _ (q_mv rfl) ?_
            refine wj_q _ (iz ez394 (q_bin rfl rfl rfl)) ?_
            refine wj_q _ (iz ez395 (q_rem rfl rfl (by decide))) ?_
            refine wj_q _ (q_mv rfl) ?_
            refine wj_q _ (q_mv rfl) ?_
            refine wj_nil ?_
            refine wc_seq ?_
            revert h
            refine chk_i fun c397 => ?_
            refine bnd_i fun z398 ez398 => ?_
            refine chk_i fun c399 => ?_
            refine bnd_i fun z400 ez400 => ?_
            refine bnd_i fun z401 ez401 => ?_
            refine bnd_i fun z402 ez402 => ?_
            refine bnd_i fun z403 ez403 => ?_
            refine chk_i fun c404 => ?_
            refine bnd_i fun l405 el405 => ?_
            intro h
            refine wc_draw ?_
            refine ws_p1 _ (q_mv rfl) ?_
            refine ws_p1 _ (q_ia rfl rfl (inB_z c397)) ?_
            refine ws_p1 _ (q_mv rfl) ?_
            refine ws_p1 _ (iz ez398 (q_conv rfl)) ?_
            refine ws_p1 _ (q_mv rfl) ?_
            refine ws_p1 _ (iz ez400 (q_shl rfl rfl (of_decide_eq_true c399))) ?_
            refine ws_p1 _ (iz ez401 (q_bin rfl rfl rfl)) ?_
            refine ws_q1 _ (iz ez402 (q_ldi (base := 0) rfl .here rfl (inB_n c397))) ?_
            refine ws_p1 _ (iz ez403 (q_bin rfl rfl rfl)) ?_
            refine ws_p1 _ (q_ia rfl rfl (inB_z c404)) ?_
            refine ws_eL rfl (ef_stiz (q := [.ints .u64 5 (l405)]) (base := 0) el405 rfl rfl rfl (inB_n c404) rfl .here ?_)
            refine ws_nil ?_
            refine wc_seq ?_
            refine wc_ops ?_
            refine wj_q _ (q_mv rfl) ?_
            refine wj_q _ (q_bin rfl rfl rfl) ?_
            refine wj_q _ (q_mv rfl) ?_
            refine wj_and rfl rfl rfl (fun hg1 => qj_g rfl _ (q_mv rfl) (qj_g rfl _ (q_bin rfl rfl rfl) (qj_nil))) (fun hg1 => rfl) rfl ?_
            refine wj_nil ?_
            refine wc_if (c := ((decide (z395 > 43)) && (decide (z393 < 4)))) rfl (fun d407 => ?_) (fun d407 => ?_)
            · have h := br_t h d407
              revert h
              refine bnd_i fun z409 ez409 => ?_
              refine chk_i fun c410 => ?_
              refine bnd_i fun z411 ez411 => ?_
              refine bnd_i fun z412 ez412 => ?_
              refine chk_i fun c413 => ?_
              refine bnd_i fun z414 ez414 => ?_
              refine bnd_i fun z415 ez415 => ?_
              refine bnd_i fun z416 ez416 => ?_
              refine chk_i fun c417 => ?_
              refine bnd_i fun l418 el418 => ?_
              intro h
              refine wc_draw ?_
              refine ws_p1 _ (q_mv rfl) ?_
              refine ws_p1 _ (iz ez409 (q_bin rfl rfl rfl)) ?_
              refine ws_p1 _ (q_ia rfl rfl (inB_z c410)) ?_
              refine ws_p1 _ (q_mv rfl) ?_
              refine ws_p1 _ (iz ez411 (q_conv rfl)) ?_
              refine ws_p1 _ (q_mv rfl) ?_
              refine ws_p1 _ (iz ez412 (q_bin rfl rfl rfl)) ?_
              refine ws_p1 _ (iz ez414 (q_shr rfl rfl (of_decide_eq_true c413))) ?_
              refine ws_q1 _ (iz ez415 (q_ldi (base := 0) rfl .here rfl (inB_n c410))) ?_
              refine ws_p1 _ (iz ez416 (q_bin rfl rfl rfl)) ?_
              refine ws_p1 _ (q_ia rfl rfl (inB_z c417)) ?_
              refine ws_eL rfl (ef_stiz (q := [.ints .u64 5 (l418)]) (base := 0) el418 rfl rfl rfl (inB_n c417) rfl .here ?_)
              refine ws_nil ?_
              exact ⟨l418, h, ⟨⟨rfl, rfl, rfl, rfl, trivial⟩, (.one .here (.one .here (.one .here .nil)))⟩⟩
            · have h := br_f h d407
              refine wc_skip ?_
              exact ⟨l405, h, ⟨⟨rfl, rfl, rfl, rfl, trivial⟩, (.one .here (.one .here (.one .here .nil)))⟩⟩
        · rintro t m ⟨a377, h, hF⟩
          refine wc_fit hF ?_
          clear hF
          subst qk378
          revert h
          refine bnd_i fun z420 ez420 => ?_
          intro h
          refine wc_ops ?_
          refine wj_q _ (iz ez420 (q_bin rfl rfl rfl)) ?_
          refine wj_q _ (q_mv rfl) ?_
          refine wj_nil ?_
          rw [qk333] at h
          exact ⟨n334, Nat.lt_succ_self _, z420, a377, h, ⟨⟨rfl, rfl, rfl, rfl, trivial⟩, (.one .here (.one .here (.one .here .nil)))⟩⟩
      · have h := br_f h d336
        refine wc_exit _ rfl ?_
        exact ⟨a332, h, ⟨⟨rfl, rfl, trivial⟩, (.one .here (.one .here (.one .here .nil)))⟩⟩
  · rintro t m ⟨a213, h, hF⟩
    refine wc_fit hF ?_
    clear hF
    subst qk214
    refine wc_seq ?_
    revert h
    refine opt_i fun y422 ey422 => ?_
    intro h
    refine wc_ops ?_
    refine wj_q _ (q_ld (p := [.ints .u64 5 (a213)]) rfl .here rfl) ?_
    refine wj_q _ (q_call (vs := [agg [.ints .u64 5 (a213)]]) (v := agg [.ints .u64 5 (y422)]) rfl (fun w hw => field_reduce_spec (r := y422) (p0 := a213) ey422 )) ?_
    refine wj_e (ef_st (q := [.ints .u64 5 (y422)]) rfl rfl rfl rfl rfl (.there .here) ?_)
    refine wj_nil ?_
    refine wc_ret ?_
    revert h; refine ret_i fun h => ?_
    subst h
    exact ⟨_, (.cons (.agg rfl (.there .here) rfl) .nil), rfl⟩
/- farebox/field.Bytes -/
def field_Bytes_b1 (y5 : (List Int)) (k107 : (List Int) → Option ((List Int))) (k163 : (Int) → (List Int) → Option ((List Int))) (i161 : Int) (a162 : List Int) : Option ((List Int)) :=
 br ((decide (i161 < 32))) (
 bnd (IntKind.wrap .i64 (8 * i161)) fun z169 =>
 bnd (IntKind.wrap .i64 (Int.tdiv z169 51)) fun z170 =>
 bnd (IntKind.wrap .i64 (8 * i161)) fun z171 =>
 bnd (Int.tmod z171 51) fun z172 =>
 chk (inB z170 5) <|
 bnd (y5.getD (z170).toNat 0) fun z175 =>
 chk (decide (0 ≤ z172)) <|
 bnd (shrV .u64 z175 z172) fun z177 =>
 jn (fun (i188 : Int) => bnd (IntKind.wrap .u8 i188) fun z200 =>
 chk (inB i161 32) <|
 bnd (setD a162 (i161).toNat z200) fun l202 =>
 bnd (IntKind.wrap .i64 (i161 + 1)) fun z204 =>
 k163 z204 l202) fun k189 => br (((decide (z172 > 43)) && (decide (z170 < 4)))) (
 bnd (IntKind.wrap .i64 (z170 + 1)) fun z192 =>
 chk (inB z192 5) <|
 bnd (y5.getD (z192).toNat 0) fun z194 =>
 bnd (IntKind.wrap .i64 (51 - z172)) fun z195 =>
 chk (decide (0 ≤ z195)) <|
 bnd (shlV .u64 z194 z195) fun z197 =>
 bnd (bitsV .or .u64 z177 z197) fun z198 =>
 k189 z198
 ) (
 k189 z177
 )
 ) (
 k107 a162
 )
def field_Bytes_l1 (y5 : (List Int)) (k107 : (List Int) → Option ((List Int))) : Nat → (Int) → (List Int) → Option ((List Int))
  | 0, _, _ => none
  | n + 1, i161, a162 => field_Bytes_b1 y5 k107 (field_Bytes_l1 y5 k107 n) i161 a162
def field_Bytes (p0 : List Int) : Option ((List Int)) :=
 opt (field_reduce p0) fun y5 =>
 jn (fun (a106 : List Int) => some a106) fun k107 => field_Bytes_l1 y5 k107 big 0 (List.replicate 32 0)
theorem field_Bytes_spec {W : World} {r : (List Int)} {p0 : List Int} (h : field_Bytes p0 = some r)  :
    Calls Tryd.prog 50 [agg [.ints .u64 5 (p0)]].toArray W (ret1 W (agg [.ints .u8 32 (r)])) := by
  unfold field_Bytes at h
  refine calls_val mo ok50 rfl ?_
  refine wc_seq ?_
  refine wc_ops ?_
  refine wj_e (ef_bx (s := [.ints .u64 5 (p0)]) rfl fun b2 hb2 => ?_)
  refine wj_e (ef_al fun b3 hb3 => ?_)
  refine wj_nil ?_
  refine wc_seq ?_
  revert h
  refine opt_i fun y5 ey5 => ?_
  intro h
  refine wc_ops ?_
  refine wj_q _ (q_ld (p := [.ints .u64 5 (p0)]) rfl (.there .here) rfl) ?_
  refine wj_q _ (q_call (vs := [agg [.ints .u64 5 (p0)]]) (v := agg [.ints .u64 5 (y5)]) rfl (fun w hw => field_reduce_spec (r := y5) (p0 := p0) ey5 )) ?_
  refine wj_e (ef_st (q := [.ints .u64 5 (y5)]) rfl rfl rfl rfl rfl (.there .here) ?_)
  refine wj_nil ?_
  refine wc_seq ?_
  refine wc_ops ?_
  refine wj_e (ef_al fun b7 hb7 => ?_)
  refine wj_nil ?_
  refine wc_seq ?_
  refine wc_seq ?_
  refine wc_ops ?_
  refine wj_q _ (q_mv rfl) ?_
  refine wj_nil ?_
  revert h
  refine jn_i fun k107 qk107 => ?_
  intro h
  refine wc_mono2 (G := fun t m => ∃ (a106 : List Int), k107 a106 = some r ∧ Fit [(2, .pointer (some ⟨b3, 0, none⟩)), (3, .pointer (some ⟨b7, 0, none⟩))] (ck b7 26 [.ints .u8 32 (a106)] :: (ck b3 26 [.ints .u8 32 ((List.replicate 32 0))] :: (ck b2 58 [.ints .u64 5 (y5)] :: []))) t m) ?_ ?_
  · refine wc_block ?_
    refine wc_loopJ (fun n164 t m => ∃ (i161 : Int) (a162 : List Int), field_Bytes_l1 y5 k107 n164 i161 a162 = some r ∧ Fit [(1, .pointer (some ⟨b2, 0, none⟩)), (2, .pointer (some ⟨b3, 0, none⟩)), (3, .pointer (some ⟨b7, 0, none⟩)), (10, .int .i64 (i161))] (ck b7 26 [.ints .u8 32 (a162)] :: (ck b3 26 [.ints .u8 32 ((List.replicate 32 0))] :: (ck b2 58 [.ints .u64 5 (y5)] :: []))) t m) big ?_ ?_
    · exact ⟨0, (List.replicate 32 0), h, ⟨⟨rfl, rfl, rfl, rfl, trivial⟩, (.one .here (.one .here (.one .here .nil)))⟩⟩
    · rintro n164 t m ⟨i161, a162, h, hF⟩
      refine wc_fit hF ?_
      clear hF
      rcases n164 with _ | n164
      · exact none_i h
      have h : field_Bytes_b1 y5 k107 (field_Bytes_l1 y5 k107 n164) i161 a162 = some r := h
      unfold field_Bytes_b1 at h
      obtain ⟨k163, qk163⟩ : ∃ k, k = field_Bytes_l1 y5 k107 n164 := ⟨_, rfl⟩
      try rw [← qk163] at h
      refine wc_seq ?_
      refine wc_ops ?_
      refine wj_q _ (q_bin rfl rfl rfl) ?_
      refine wj_nil ?_
      refine wc_seq ?_
      refine wc_if (c := (decide (i161 < 32))) rfl (fun d166 => ?_) (fun d166 => ?_)
      · have h := br_t h d166
        refine wc_skip ?_
        refine wc_seq ?_
        refine wc_block ?_
        refine wc_seq ?_
        refine wc_ops ?_
        refine wj_q _ (q_mv rfl) ?_
        refine wj_q _ (q_mv rfl) ?_
        refine wj_nil ?_
        refine wc_seq ?_
        revert h
        refine bnd_i fun z169 ez169 => ?_
        refine bnd_i fun z170 ez170 => ?_
        refine bnd_i fun z171 ez171 => ?_
        refine bnd_i fun z172 ez172 => ?_
        intro h
        refine wc_ops ?_
        refine wj_q _ (q_mv rfl) ?_
        refine wj_q _ (iz ez169 (q_bin rfl rfl rfl)) ?_
        refine wj_q _ (iz ez170 (q_quo rfl rfl (by decide))) ?_
        refine wj_q _ (q_mv rfl) ?_
        refine wj_q _ (iz ez171 (q_bin rfl rfl rfl)) ?_
        refine wj_q _ (iz ez172 (q_rem rfl rfl (by decide))) ?_
        refine wj_q _ (q_mv rfl) ?_
        refine wj_q _ (q_mv rfl) ?_
        refine wj_nil ?_
        refine wc_seq ?_
        revert h
        refine chk_i fun c174 => ?_
        refine bnd_i fun z175 ez175 => ?_
        refine chk_i fun c176 => ?_
        refine bnd_i fun z177 ez177 => ?_
        intro h
        refine wc_ops ?_
        refine wj_q _ (q_mv rfl) ?_
        refine wj_q _ (q_ia rfl rfl (inB_z c174)) ?_
        refine wj_q _ (iz ez175 (q_ldi (base := 0) rfl (.there (.there .here)) rfl (inB_n c174))) ?_
        refine wj_q _ (q_mv rfl) ?_
        refine wj_q _ (iz ez177 (q_shr rfl rfl (of_decide_eq_true c176))) ?_
        refine wj_q _ (q_mv rfl) ?_
        refine wj_nil ?_
        refine wc_seq ?_
        refine wc_seq ?_
        refine wc_ops ?_
        refine wj_q _ (q_mv rfl) ?_
        refine wj_q _ (q_bin rfl rfl rfl) ?_
        refine wj_q _ (q_mv rfl) ?_
        refine wj_and rfl rfl rfl (fun hg1 => qj_g rfl _ (q_mv rfl) (qj_g rfl _ (q_bin rfl rfl rfl) (qj_nil))) (fun hg1 => rfl) rfl ?_
        refine wj_nil ?_
        revert h
        refine jn_i fun k189 qk189 => ?_
        intro h
        refine wc_mono2 (G := fun t m => ∃ (i188 : Int), k189 i188 = some r ∧ Fit [(1, .pointer (some ⟨b2, 0, none⟩)), (2, .pointer (some ⟨b3, 0, none⟩)), (3, .pointer (some ⟨b7, 0, none⟩)), (4, .int .i64 (i161)), (7, .int .u64 (i188)), (10, .int .i64 (i161))] (ck b7 26 [.ints .u8 32 (a162)] :: (ck b3 26 [.ints .u8 32 ((List.replicate 32 0))] :: (ck b2 58 [.ints .u64 5 (y5)] :: []))) t m) ?_ ?_
        · refine wc_if (c := ((decide (z172 > 43)) && (decide (z170 < 4)))) rfl (fun d190 => ?_) (fun d190 => ?_)
          · have h := br_t h d190
            revert h
            refine bnd_i fun z192 ez192 => ?_
            refine chk_i fun c193 => ?_
            refine bnd_i fun z194 ez194 => ?_
            refine bnd_i fun z195 ez195 => ?_
            refine chk_i fun c196 => ?_
            refine bnd_i fun z197 ez197 => ?_
            refine bnd_i fun z198 ez198 => ?_
            intro h
            refine wc_ops ?_
            refine wj_q _ (q_mv rfl) ?_
            refine wj_q _ (q_mv rfl) ?_
            refine wj_q _ (iz ez192 (q_bin rfl rfl rfl)) ?_
            refine wj_q _ (q_ia rfl rfl (inB_z c193)) ?_
            refine wj_q _ (iz ez194 (q_ldi (base := 0) rfl (.there (.there .here)) rfl (inB_n c193))) ?_
            refine wj_q _ (q_mv rfl) ?_
            refine wj_q _ (iz ez195 (q_bin rfl rfl rfl)) ?_
            refine wj_q _ (iz ez197 (q_shl rfl rfl (of_decide_eq_true c196))) ?_
            refine wj_q _ (iz ez198 (q_bin rfl rfl rfl)) ?_
            refine wj_q _ (q_mv rfl) ?_
            refine wj_nil ?_
            exact ⟨z198, h, ⟨⟨rfl, rfl, rfl, rfl, rfl, rfl, trivial⟩, (.one .here (.one .here (.one .here .nil)))⟩⟩
          · have h := br_f h d190
            refine wc_skip ?_
            exact ⟨z177, h, ⟨⟨rfl, rfl, rfl, rfl, rfl, rfl, trivial⟩, (.one .here (.one .here (.one .here .nil)))⟩⟩
        · rintro t m ⟨i188, h, hF⟩
          refine wc_fit hF ?_
          clear hF
          subst qk189
          revert h
          refine bnd_i fun z200 ez200 => ?_
          refine chk_i fun c201 => ?_
          refine bnd_i fun l202 el202 => ?_
          intro h
          refine wc_ops ?_
          refine wj_q _ (q_mv rfl) ?_
          refine wj_q _ (q_mv rfl) ?_
          refine wj_q _ (iz ez200 (q_conv rfl)) ?_
          refine wj_q _ (q_ia rfl rfl (inB_z c201)) ?_
          refine wj_e (ef_stiz (q := [.ints .u8 32 (l202)]) (base := 0) el202 rfl rfl rfl (inB_n c201) rfl .here ?_)
          refine wj_nil ?_
          revert h
          refine bnd_i fun z204 ez204 => ?_
          intro h
          refine wc_ops ?_
          refine wj_q _ (iz ez204 (q_bin rfl rfl rfl)) ?_
          refine wj_q _ (q_mv rfl) ?_
          refine wj_nil ?_
          rw [qk163] at h
          exact ⟨n164, Nat.lt_succ_self _, z204, l202, h, ⟨⟨rfl, rfl, rfl, rfl, trivial⟩, (.one .here (.one .here (.one .here .nil)))⟩⟩
      · have h := br_f h d166
        refine wc_exit _ rfl ?_
        exact ⟨a162, h, ⟨⟨rfl, rfl, trivial⟩, (.one .here (.one .here (.one .here .nil)))⟩⟩
  · rintro t m ⟨a106, h, hF⟩
    refine wc_fit hF ?_
    clear hF
    subst qk107
    refine wc_seq ?_
    refine wc_ops ?_
    refine wj_q _ (q_ld (p := [.ints .u8 32 (a106)]) rfl .here rfl) ?_
    refine wj_e (ef_st (q := [.ints .u8 32 (a106)]) rfl rfl rfl rfl rfl (.there .here) ?_)
    refine wj_nil ?_
    refine wc_ret ?_
    revert h; refine ret_i fun h => ?_
    subst h
    exact ⟨_, (.cons (.agg rfl (.there .here) rfl) .nil), rfl⟩
/- farebox/field.Canonical -/
def field_Canonical (p0 : List Int) : Option (Bool) :=
 opt (field_FromBytes p0) fun y4 =>
 opt (field_Bytes y4) fun y5 =>
 some (ieq 32 y5 p0)
theorem field_Canonical_spec {W : World} {r : Bool} {p0 : List Int} (h : field_Canonical p0 = some r)  :
    Calls Tryd.prog 32 [agg [.ints .u8 32 (p0)]].toArray W (ret1 W (.bool (r))) := by
  unfold field_Canonical at h
  refine calls_val mo ok32 rfl ?_
  refine wc_seq ?_
  refine wc_ops ?_
  refine wj_e (ef_bx (s := [.ints .u8 32 (p0)]) rfl fun b2 hb2 => ?_)
  refine wj_q _ (q_mv rfl) ?_
  refine wj_nil ?_
  refine wc_seq ?_
  revert h
  refine opt_i fun y4 ey4 => ?_
  refine opt_i fun y5 ey5 => ?_
  intro h
  refine wc_draw ?_
  refine ws_q1 _ (q_ld (p := [.ints .u8 32 (p0)]) rfl .here rfl) ?_
  refine ws_p1 _ (q_call (vs := [agg [.ints .u8 32 (p0)]]) (v := agg [.ints .u64 5 (y4)]) rfl (fun w hw => field_FromBytes_spec (r := y4) (p0 := p0) ey4 )) ?_
  refine ws_p1 _ (q_call (vs := [agg [.ints .u64 5 (y4)]]) (v := agg [.ints .u8 32 (y5)]) rfl (fun w hw => field_Bytes_spec (r := y5) (p0 := y4) ey5 )) ?_
  refine ws_q1 _ (q_ld (p := [.ints .u8 32 (p0)]) rfl .here rfl) ?_
  refine ws_p1 _ (q_eqa rfl rfl rfl rfl _ (eqc_last eqc_ints)) ?_
  refine ws_p1 _ (q_mv rfl) ?_
  refine ws_nil ?_
  refine wc_ret ?_
  revert h; refine ret_i fun h => ?_
  subst h
  exact ⟨_, (.cons (.tmp rfl) .nil), rfl⟩
end Go.Proofs.YtiflckckekjbnaaDoor
