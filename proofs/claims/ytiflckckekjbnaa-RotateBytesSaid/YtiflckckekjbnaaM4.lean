/- Texts of a proof, one behind the other: PL5 PLZ PF0 PB1 PB2 PB3 PB4 PB5 PE10 PG5 PG7. -/
import Derived.Test.YtiflckckekjbnaaM3
import Derived.JoinedOf
import Derived.LaidLaws
import Derived.Lay
import Derived.MakeChecks
import Derived.SevenTiedAt
import Derived.ChangeOld
import Derived.SizedLaws
/- Mirrors. -/
namespace Go.Proofs.Ytiflckckekjbnaa
open Go Go.Sx Go.RowKit
set_option linter.all false
set_option maxHeartbeats 400000
set_option maxRecDepth 100000
/- farebox/fareboxref30.link -/
def fareboxref30_link_b1 (p0 : List Int) (k37 : (List Int) → Option (api_Link)) (k57 : (Int) → (List Int) → Option (api_Link)) (i55 : Int) (a56 : List Int) : Option (api_Link) :=
 br ((decide (i55 < 32))) (
 chk (inB i55 p0.length) <|
 bnd (p0.getD (i55).toNat 0) fun z63 =>
 chk (inB i55 32) <|
 bnd (setD a56 (i55).toNat z63) fun l65 =>
 bnd (IntKind.wrap .i64 (i55 + 1)) fun z67 =>
 k57 z67 l65
 ) (
 k37 a56
 )
def fareboxref30_link_l1 (p0 : List Int) (k37 : (List Int) → Option (api_Link)) : Nat → (Int) → (List Int) → Option (api_Link)
  | 0, _, _ => none
  | n + 1, i55, a56 => fareboxref30_link_b1 p0 k37 (fareboxref30_link_l1 p0 k37 n) i55 a56
def fareboxref30_link_b2 (p0 : List Int) (k102 : (List Int) → Option (api_Link)) (k123 : (Int) → (List Int) → Option (api_Link)) (i121 : Int) (a122 : List Int) : Option (api_Link) :=
 br ((decide (i121 < 64))) (
 bnd (IntKind.wrap .i64 (32 + i121)) fun z128 =>
 chk (inB z128 p0.length) <|
 bnd (p0.getD (z128).toNat 0) fun z130 =>
 chk (inB i121 64) <|
 bnd (setD a122 (i121).toNat z130) fun l132 =>
 bnd (IntKind.wrap .i64 (i121 + 1)) fun z134 =>
 k123 z134 l132
 ) (
 k102 a122
 )
def fareboxref30_link_l2 (p0 : List Int) (k102 : (List Int) → Option (api_Link)) : Nat → (Int) → (List Int) → Option (api_Link)
  | 0, _, _ => none
  | n + 1, i121, a122 => fareboxref30_link_b2 p0 k102 (fareboxref30_link_l2 p0 k102 n) i121 a122
def fareboxref30_link (p0 : List Int) (p1 : Int) : Option (api_Link) :=
 jn (fun (a36 : List Int) => jn (fun (a101 : List Int) => some (⟨p1, a36, a101⟩ : api_Link)) fun k102 => fareboxref30_link_l2 p0 k102 big 0 (List.replicate 64 0)) fun k37 => fareboxref30_link_l1 p0 k37 big 0 (List.replicate 32 0)
theorem fareboxref30_link_spec {W : World} {r : api_Link} {p0 : List Int} {p1 : Int} {v0 : Value} (h : fareboxref30_link p0 p1 = some r) (A0 : RdSl (El.int .u8) W v0 p0) :
    Calls Try.prog 32 [v0, .int .i64 (p1)].toArray W (ret1 W (agg [.one (.int .i64 (r.gEpoch)), .ints .u8 32 (r.gKey), .ints .u8 64 (r.gSig)])) := by
 unfold fareboxref30_link at h
 refine calls_val mo ok32 rfl ?_
 refine wc_seq <| wc_ops <| wj_e (ef_al fun b2 hb2 => wj_nil <| wc_seq <| wc_ops <| wj_q _ (q_mv rfl) <| wj_q _ (q_bd (q := [.one (.int .i64 (p1)), .ints .u8 32 ((List.replicate 32 0)), .ints .u8 64 ((List.replicate 64 0))]) (.one rfl rfl rfl BdR.nil)) <| wj_e (ef_al fun b4 hb4 => wj_e (ef_st (q := [.one (.int .i64 (p1)), .ints .u8 32 ((List.replicate 32 0)), .ints .u8 64 ((List.replicate 64 0))]) rfl rfl rfl rfl rfl .here <| wj_nil <| wc_seq <| wc_seq <| wc_ops <| wj_q _ (q_mv rfl) <| wj_nil <| jH h fun k37 qk37 h => wc_mono2 (G := fun t m => ∃ (a36 : List Int), k37 a36 = some r ∧ Fit [(0, v0), (4, .pointer (some ⟨b2, 0, none⟩)), (5, .pointer (some ⟨b4, 0, none⟩))] (ck b4 41 [.one (.int .i64 (p1)), .ints .u8 32 (a36), .ints .u8 64 ((List.replicate 64 0))] :: (ck b2 41 [.one (.int .i64 (0)), .ints .u8 32 ((List.replicate 32 0)), .ints .u8 64 ((List.replicate 64 0))] :: [])) t m) ?_ ?_)))
 ·refine wc_block <| wc_loopJ (fun n58 t m => ∃ (i55 : Int) (a56 : List Int), fareboxref30_link_l1 p0 k37 n58 i55 a56 = some r ∧ Fit [(0, v0), (4, .pointer (some ⟨b2, 0, none⟩)), (5, .pointer (some ⟨b4, 0, none⟩)), (6, .int .i64 (i55))] (ck b4 41 [.one (.int .i64 (p1)), .ints .u8 32 (a56), .ints .u8 64 ((List.replicate 64 0))] :: (ck b2 41 [.one (.int .i64 (0)), .ints .u8 32 ((List.replicate 32 0)), .ints .u8 64 ((List.replicate 64 0))] :: [])) t m) big ?_ ?_
  ·exact ⟨0, (List.replicate 32 0), h, ⟨⟨rfl, rfl, rfl, rfl, trivial⟩, (.one .here (.one .here .nil))⟩⟩
  ·rintro n58 t m ⟨i55, a56, h, hF⟩
   refine wc_fit hF ?_
   clear hF
   rcases n58 with _ | n58
   · exact none_i h
   have h : fareboxref30_link_b1 p0 k37 (fareboxref30_link_l1 p0 k37 n58) i55 a56 = some r := h
   unfold fareboxref30_link_b1 at h
   obtain ⟨k57, qk57⟩ : ∃ k, k = fareboxref30_link_l1 p0 k37 n58 := ⟨_, rfl⟩
   try rw [← qk57] at h
   refine wc_seq <| wc_seq <| wc_ops <| wj_q _ (q_mv rfl) <| wj_q _ (q_bin rfl rfl rfl) <| wj_nil <| wc_br h rfl (fun h => ?_) (fun h => ?_)
   ·refine wc_skip <| wc_seq <| wc_block <| cH h fun c62 h => bH h fun z63 ez63 h => cH h fun c64 h => bH h fun l65 el65 h => wc_ops <| wj_q _ (q_mv rfl) <| wj_q _ (q_mv rfl) <| wj_q _ (q_mv rfl) <| wj_q _ (q_iasP rfl rfl (Shp.rd A0) c62) <| wj_q _ (iz ez63 (q_ldM10 (E := (El.int .u8)) (s := [.one (.int .u8 (p0.getD (i55).toNat 0))]) rfl (rd_arg A0 apart0) (inB_n c62) rfl rfl)) <| wj_q _ (q_fa rfl) <| wj_q _ (q_ia rfl rfl (inB_z c64)) <| wj_e (ef_stiz (q := [.one (.int .i64 (p1)), .ints .u8 32 (l65), .ints .u8 64 ((List.replicate 64 0))]) (base := 1) el65 rfl rfl rfl (inB_n c64) rfl .here <| wj_nil <| bH h fun z67 ez67 h => wc_ops <| wj_q _ (q_mv rfl) <| wj_q _ (iz ez67 (q_bin rfl rfl rfl)) <| wj_q _ (q_mv rfl) <| wj_nil ?_)
    rw [qk57] at h
    exact ⟨n58, Nat.lt_succ_self _, z67, l65, h, ⟨⟨rfl, rfl, rfl, rfl, trivial⟩, (.one .here (.one .here .nil))⟩⟩
   ·exact wc_exit _ rfl <| ⟨a56, h, ⟨⟨rfl, rfl, rfl, trivial⟩, (.one .here (.one .here .nil))⟩⟩
 ·rintro t m ⟨a36, h, hF⟩
  refine wc_fit hF ?_
  clear hF
  subst qk37
  refine wc_seq <| wc_seq <| wc_ops <| wj_q _ (q_mv rfl) <| wj_nil <| jH h fun k102 qk102 h => wc_mono2 (G := fun t m => ∃ (a101 : List Int), k102 a101 = some r ∧ Fit [(4, .pointer (some ⟨b2, 0, none⟩)), (5, .pointer (some ⟨b4, 0, none⟩))] (ck b4 41 [.one (.int .i64 (p1)), .ints .u8 32 (a36), .ints .u8 64 (a101)] :: (ck b2 41 [.one (.int .i64 (0)), .ints .u8 32 ((List.replicate 32 0)), .ints .u8 64 ((List.replicate 64 0))] :: [])) t m) ?_ ?_
  ·refine wc_block <| wc_loopJ (fun n124 t m => ∃ (i121 : Int) (a122 : List Int), fareboxref30_link_l2 p0 k102 n124 i121 a122 = some r ∧ Fit [(0, v0), (4, .pointer (some ⟨b2, 0, none⟩)), (5, .pointer (some ⟨b4, 0, none⟩)), (7, .int .i64 (i121))] (ck b4 41 [.one (.int .i64 (p1)), .ints .u8 32 (a36), .ints .u8 64 (a122)] :: (ck b2 41 [.one (.int .i64 (0)), .ints .u8 32 ((List.replicate 32 0)), .ints .u8 64 ((List.replicate 64 0))] :: [])) t m) big ?_ ?_
   ·exact ⟨0, (List.replicate 64 0), h, ⟨⟨rfl, rfl, rfl, rfl, trivial⟩, (.one .here (.one .here .nil))⟩⟩
   ·rintro n124 t m ⟨i121, a122, h, hF⟩
    refine wc_fit hF ?_
    clear hF
    rcases n124 with _ | n124
    · exact none_i h
    have h : fareboxref30_link_b2 p0 k102 (fareboxref30_link_l2 p0 k102 n124) i121 a122 = some r := h
    unfold fareboxref30_link_b2 at h
    obtain ⟨k123, qk123⟩ : ∃ k, k = fareboxref30_link_l2 p0 k102 n124 := ⟨_, rfl⟩
    try rw [← qk123] at h
    refine wc_seq <| wc_seq <| wc_ops <| wj_q _ (q_mv rfl) <| wj_q _ (q_bin rfl rfl rfl) <| wj_nil <| wc_br h rfl (fun h => ?_) (fun h => ?_)
    ·refine wc_skip <| wc_seq <| wc_block <| bH h fun z128 ez128 h => cH h fun c129 h => bH h fun z130 ez130 h => cH h fun c131 h => bH h fun l132 el132 h => wc_ops <| wj_q _ (q_mv rfl) <| wj_q _ (q_mv rfl) <| wj_q _ (q_mv rfl) <| wj_q _ (iz ez128 (q_bin rfl rfl rfl)) <| wj_q _ (q_iasP rfl rfl (Shp.rd A0) c129) <| wj_q _ (iz ez130 (q_ldM10 (E := (El.int .u8)) (s := [.one (.int .u8 (p0.getD (z128).toNat 0))]) rfl (rd_arg A0 apart0) (inB_n c129) rfl rfl)) <| wj_q _ (q_fa rfl) <| wj_q _ (q_ia rfl rfl (inB_z c131)) <| wj_e (ef_stiz (q := [.one (.int .i64 (p1)), .ints .u8 32 (a36), .ints .u8 64 (l132)]) (base := 33) el132 rfl rfl rfl (inB_n c131) rfl .here <| wj_nil <| bH h fun z134 ez134 h => wc_ops <| wj_q _ (q_mv rfl) <| wj_q _ (iz ez134 (q_bin rfl rfl rfl)) <| wj_q _ (q_mv rfl) <| wj_nil ?_)
     rw [qk123] at h
     exact ⟨n124, Nat.lt_succ_self _, z134, l132, h, ⟨⟨rfl, rfl, rfl, rfl, trivial⟩, (.one .here (.one .here .nil))⟩⟩
    ·exact wc_exit _ rfl <| ⟨a122, h, ⟨⟨rfl, rfl, trivial⟩, (.one .here (.one .here .nil))⟩⟩
  ·rintro t m ⟨a101, h, hF⟩
   refine wc_fit hF ?_
   clear hF
   subst qk102
   refine wc_seq <| wc_ops <| wj_q _ (q_ld (p := [.one (.int .i64 (p1)), .ints .u8 32 (a36), .ints .u8 64 (a101)]) rfl .here rfl) <| wj_e (ef_st (q := [.one (.int .i64 (p1)), .ints .u8 32 (a36), .ints .u8 64 (a101)]) rfl rfl rfl rfl rfl (.there .here) <| wj_nil <| wc_ret ?_)
   revert h; refine ret_i fun h => ?_
   subst h
   exact ⟨_, (.cons (.agg rfl (.there .here) rfl) .nil), rfl⟩
/- farebox/fareboxref30.Decode -/
def fareboxref30_Decode_b1 (p0 : List Int) (k95 : (List (api_Link)) → Option ((List (api_Link)) × Int)) (k144 : (List (api_Link)) → (Int) → Option ((List (api_Link)) × Int)) (l141 : List (api_Link)) (i143 : Int) : Option ((List (api_Link)) × Int) :=
 chk (inB 4 p0.length) <|
 bnd (p0.getD (4 : Int).toNat 0) fun z148 =>
 bnd (IntKind.wrap .i64 z148) fun z149 =>
 br ((decide (i143 < z149))) (
 bnd (IntKind.wrap .i64 (96 * i143)) fun z152 =>
 bnd (IntKind.wrap .i64 (5 + z152)) fun z153 =>
 chk (cutB z153 (p0.length : Int) p0.length) <|
 bnd (IntKind.wrap .i64 (i143 + 1)) fun z155 =>
 opt (fareboxref30_link ((p0.drop (z153).toNat).take (((p0.length : Int)).toNat - (z153).toNat)) z155) fun y156 =>
 chk (decide ((l141.length + ([y156] : List (api_Link)).length) * 104 ≤ 140737488355328)) <|
 bnd (l141 ++ ([y156] : List (api_Link))) fun l161 =>
 bnd (IntKind.wrap .i64 (i143 + 1)) fun z166 =>
 k144 l161 z166
 ) (
 k95 l141
 )
def fareboxref30_Decode_l1 (p0 : List Int) (k95 : (List (api_Link)) → Option ((List (api_Link)) × Int)) : Nat → (List (api_Link)) → (Int) → Option ((List (api_Link)) × Int)
  | 0, _, _ => none
  | n + 1, l141, i143 => fareboxref30_Decode_b1 p0 k95 (fareboxref30_Decode_l1 p0 k95 n) l141 i143
def fareboxref30_Decode (p0 : List Int) : Option ((List (api_Link)) × Int) :=
 br ((decide ((p0.length : Int) > 6149))) (
 some ([], 1)
 ) (
 opt (fareboxref09_ReadHead p0) fun y6 =>
 br ((y6.2.2 != 0)) (
 some ([], y6.2.2)
 ) (
 br ((y6.1 != 11)) (
 some ([], 91)
 ) (
 chk (imp (!(decide ((p0.length : Int) < 5))) (inB 4 p0.length)) <|
 chk (imp (!((decide ((p0.length : Int) < 5)) || (decide (p0.getD (4 : Int).toNat 0 > 64)))) (inB 4 p0.length)) <|
 br ((((decide ((p0.length : Int) < 5)) || (decide (p0.getD (4 : Int).toNat 0 > 64))) || ((p0.length : Int) != IntKind.wrap .i64 (5 + IntKind.wrap .i64 (96 * IntKind.wrap .i64 (p0.getD (4 : Int).toNat 0)))))) (
 some ([], 90)
 ) (
 jn (fun (l93 : List (api_Link)) => some (l93, 0)) fun k95 => fareboxref30_Decode_l1 p0 k95 big [] 0
 )
 )
 )
 )
theorem fareboxref30_Decode_spec {W : World} {r : (List (api_Link)) × Int} {p0 : List Int} {v0 : Value} (h : fareboxref30_Decode p0 = some r) (A0 : RdSl (El.int .u8) W v0 p0) :
    Calls Try.prog 12 [v0].toArray W (retS W [] (fun v Ms => ∃ (u0 : Value) (M0 : List Chunk), v = .tuple #[u0, .int .i64 (r.2)] ∧ Ms = [.all M0] ∧ OwnSl E_api_Link u0 M0 r.1)) := by
 unfold fareboxref30_Decode at h
 refine calls_memT mo ok12 rfl (sat0 _) ?_
 refine wc_seq <| wc_ops <| wj_q _ (q_mv rfl) <| wj_q _ (q_mv rfl) <| wj_nil <| wc_seq <| wc_seq <| wc_ops <| wj_q _ (q_mv rfl) <| wj_q _ (q_lenP rfl (Shp.rd A0)) <| wj_q _ (q_bin rfl rfl rfl) <| wj_nil <| wc_br h rfl (fun h => ?_) (fun h => ?_)
 ·refine wc_seq <| wc_ops <| wj_q _ (q_mv rfl) <| wj_q _ (q_mv rfl) <| wj_nil <| wc_ret ?_
  revert h; refine ret_i fun h => ?_
  subst h
  exact ⟨_, _, (.cons (.tmp rfl) (.cons (.tmp rfl) .nil)), (.no .nil), ⟨_, rfl, ⟨(.slice none 0 0), [], rfl, rfl, own_nil⟩⟩⟩
 ·refine wc_skip <| wc_seq <| oH h fun y6 ey6 h => wc_ops <| wj_q _ (q_mv rfl) <| wj_q _ (q_call rfl (fun w hw => fareboxref09_ReadHead_spec ey6 ((rd_arg A0 apart0) w hw))) <| wj_q _ (q_mv rfl) <| wj_q _ (q_ext rfl rfl) <| wj_q _ (q_ext rfl rfl) <| wj_q _ (q_ext rfl rfl) <| wj_q _ (q_mv rfl) <| wj_q _ (q_mv rfl) <| wj_q _ (q_mv rfl) <| wj_nil <| wc_seq <| wc_seq <| wc_ops <| wj_q _ (q_mv rfl) <| wj_q _ (q_bin rfl rfl rfl) <| wj_nil <| wc_br h rfl (fun h => ?_) (fun h => ?_)
  ·refine wc_seq <| wc_ops <| wj_q _ (q_mv rfl) <| wj_q _ (q_mv rfl) <| wj_q _ (q_mv rfl) <| wj_nil <| wc_ret ?_
   revert h; refine ret_i fun h => ?_
   subst h
   exact ⟨_, _, (.cons (.tmp rfl) (.cons (.tmp rfl) .nil)), (.no .nil), ⟨_, rfl, ⟨(.slice none 0 0), [], rfl, rfl, own_nil⟩⟩⟩
  ·refine wc_skip <| wc_seq <| wc_seq <| wc_ops <| wj_q _ (q_mv rfl) <| wj_q _ (q_bin rfl rfl rfl) <| wj_nil <| wc_br h rfl (fun h => ?_) (fun h => ?_)
   ·refine wc_seq <| wc_ops <| wj_q _ (q_mv rfl) <| wj_q _ (q_mv rfl) <| wj_nil <| wc_ret ?_
    revert h; refine ret_i fun h => ?_
    subst h
    exact ⟨_, _, (.cons (.tmp rfl) (.cons (.tmp rfl) .nil)), (.no .nil), ⟨_, rfl, ⟨(.slice none 0 0), [], rfl, rfl, own_nil⟩⟩⟩
   ·refine wc_skip <| wc_seq <| wc_seq <| cH h fun c14 h => cH h fun c15 h => wc_ops <| wj_q _ (q_mv rfl) <| wj_q _ (q_lenP rfl (Shp.rd A0)) <| wj_q _ (q_bin rfl rfl rfl) <| wj_q _ (q_mv rfl) <| wj_or rfl rfl rfl (fun hg1 => qj_g rfl _ (q_mv rfl) (qj_g rfl _ (q_iasP rfl rfl (Shp.rd A0) (imp_f c14 hg1)) (qj_g rfl _ (iz rfl (q_ldM10 (E := (El.int .u8)) (s := [.one (.int .u8 (p0.getD (4 : Int).toNat 0))]) rfl (rd_arg A0 apart0) (inB_n (imp_f c14 hg1)) rfl rfl)) (qj_g rfl _ (q_bin rfl rfl rfl) (qj_nil))))) (fun hg1 => rfl) rfl <| wj_q _ (q_mv rfl) <| wj_or rfl rfl rfl (fun hg1 => qj_g rfl _ (q_mv rfl) (qj_g rfl _ (q_lenP rfl (Shp.rd A0)) (qj_g rfl _ (q_mv rfl) (qj_g rfl _ (q_iasP rfl rfl (Shp.rd A0) (imp_f c15 hg1)) (qj_g rfl _ (iz rfl (q_ldM10 (E := (El.int .u8)) (s := [.one (.int .u8 (p0.getD (4 : Int).toNat 0))]) rfl (rd_arg A0 apart0) (inB_n (imp_f c15 hg1)) rfl rfl)) (qj_g rfl _ (iz rfl (q_conv rfl)) (qj_g rfl _ (iz rfl (q_bin rfl rfl rfl)) (qj_g rfl _ (iz rfl (q_bin rfl rfl rfl)) (qj_g rfl _ (q_bin rfl rfl rfl) (qj_nil)))))))))) (fun hg1 => rfl) rfl <| wj_nil <| wc_br h rfl (fun h => ?_) (fun h => ?_)
    ·refine wc_seq <| wc_ops <| wj_q _ (q_mv rfl) <| wj_q _ (q_mv rfl) <| wj_nil <| wc_ret ?_
     revert h; refine ret_i fun h => ?_
     subst h
     exact ⟨_, _, (.cons (.tmp rfl) (.cons (.tmp rfl) .nil)), (.no .nil), ⟨_, rfl, ⟨(.slice none 0 0), [], rfl, rfl, own_nil⟩⟩⟩
    ·refine wc_skip <| wc_seq <| wc_ops <| wj_q _ (q_mv rfl) <| wj_nil <| wc_seq <| wc_seq <| wc_ops <| wj_q _ (q_mv rfl) <| wj_nil <| jH h fun k95 qk95 h => wc_mono2 (G := fun t m => ∃ (l93 : List (api_Link)) (v91 : Value) (ms92 : List Chunk), k95 l93 = some r ∧ OwnSl E_api_Link v91 ms92 l93 ∧ Fit [(7, v91)] (ms92 ++ []) t m) ?_ ?_
     ·refine wc_block <| wc_loopJ (fun n145 t m => ∃ (l141 : List (api_Link)) (i143 : Int) (v139 : Value) (ms140 : List Chunk), fareboxref30_Decode_l1 p0 k95 n145 l141 i143 = some r ∧ OwnSl E_api_Link v139 ms140 l141 ∧ Fit [(0, v0), (7, v139), (8, .int .i64 (i143))] (ms140 ++ []) t m) big ?_ ?_
      ·exact ⟨[], 0, (.slice none 0 0), [], h, own_nil, ⟨⟨rfl, rfl, rfl, trivial⟩, (.no .nil)⟩⟩
      ·rintro n145 t m ⟨l141, i143, v139, ms140, h, O142, hF⟩
       refine wc_fit hF ?_
       clear hF
       rcases n145 with _ | n145
       · exact none_i h
       have h : fareboxref30_Decode_b1 p0 k95 (fareboxref30_Decode_l1 p0 k95 n145) l141 i143 = some r := h
       unfold fareboxref30_Decode_b1 at h
       obtain ⟨k144, qk144⟩ : ∃ k, k = fareboxref30_Decode_l1 p0 k95 n145 := ⟨_, rfl⟩
       try rw [← qk144] at h
       refine wc_seq <| wc_seq <| cH h fun c147 h => bH h fun z148 ez148 h => bH h fun z149 ez149 h => wc_ops <| wj_q _ (q_mv rfl) <| wj_q _ (q_mv rfl) <| wj_q _ (q_iasP rfl rfl (Shp.rd A0) c147) <| wj_q _ (iz ez148 (q_ldM10 (E := (El.int .u8)) (s := [.one (.int .u8 (p0.getD (4 : Int).toNat 0))]) rfl (rd_arg A0 apart0) (inB_n c147) rfl rfl)) <| wj_q _ (iz ez149 (q_conv rfl)) <| wj_q _ (q_bin rfl rfl rfl) <| wj_nil <| wc_br h rfl (fun h => ?_) (fun h => ?_)
       ·refine wc_skip <| wc_seq <| wc_block <| bH h fun z152 ez152 h => bH h fun z153 ez153 h => cH h fun c154 h => bH h fun z155 ez155 h => oH h fun y156 ey156 h => cH h fun c160 h => bH h fun l161 el161 h => wc_ops <| wj_q _ (q_mv rfl) <| wj_q _ (q_mv rfl) <| wj_q _ (q_mv rfl) <| wj_q _ (iz ez152 (q_bin rfl rfl rfl)) <| wj_q _ (iz ez153 (q_bin rfl rfl rfl)) <| wj_q _ (q_slsP (lz := z153) (hz := (p0.length : Int)) rfl (Shp.rd A0) (.yes rfl) .no c154) <| wj_q _ (q_mv rfl) <| wj_q _ (iz ez155 (q_bin rfl rfl rfl)) <| wj_q _ (q_call rfl (fun w hw => fareboxref30_link_spec ey156 ((rd_cut (rd_arg A0 apart0) (lz := z153) (hz := (p0.length : Int)) c154) w hw))) <| wj_e (ef_bsO (E := E_api_Link) (xs := [y156]) (.agg rfl rfl rfl BdR.nil) (.cons (p := [.one (.int .i64 (y156.gEpoch)), .ints .u8 32 (y156.gKey), .ints .u8 64 (y156.gSig)]) rfl .nil) rfl fun v157 ms158 O159 => wj_e (ef_appO (E := E_api_Link) el161 rfl O142 (.app .here) rfl (rd_own O159 .here) c160 fun v162 ms163 O164 => wj_q _ (q_mv rfl) <| wj_nil <| bH h fun z166 ez166 h => wc_ops <| wj_q _ (q_mv rfl) <| wj_q _ (iz ez166 (q_bin rfl rfl rfl)) <| wj_q _ (q_mv rfl) <| wj_nil ?_))
        rw [qk144] at h
        exact ⟨n145, Nat.lt_succ_self _, l161, z166, v162, ms163, h, O164, ⟨⟨rfl, rfl, rfl, trivial⟩, (.all .here .nil)⟩⟩
       ·exact wc_exit _ rfl <| ⟨l141, v139, ms140, h, O142, ⟨⟨rfl, trivial⟩, (.all .here .nil)⟩⟩
     ·rintro t m ⟨l93, v91, ms92, h, O94, hF⟩
      refine wc_fit hF ?_
      clear hF
      subst qk95
      refine wc_seq <| wc_ops <| wj_q _ (q_mv rfl) <| wj_q _ (q_mv rfl) <| wj_q _ (q_mv rfl) <| wj_nil <| wc_ret ?_
      revert h; refine ret_i fun h => ?_
      subst h
      exact ⟨_, _, (.cons (.tmp rfl) (.cons (.tmp rfl) .nil)), (.all .here .nil), ⟨_, rfl, ⟨v91, ms92, rfl, rfl, O94⟩⟩⟩
/- farebox/fareboxlaw30.linkRooms -/
def fareboxlaw30_linkRooms_b1 (k58 : (List (api_Link)) → Option (Bool)) (k93 : (List (api_Link)) → (Int) → Option (Bool)) (l90 : List (api_Link)) (i92 : Int) : Option (Bool) :=
 br ((decide (i92 < 64))) (
 chk (decide ((l90.length + ([(⟨(-21), (List.replicate 32 0), (List.replicate 64 0)⟩ : api_Link)] : List (api_Link)).length) * 104 ≤ 140737488355328)) <|
 bnd (l90 ++ ([(⟨(-21), (List.replicate 32 0), (List.replicate 64 0)⟩ : api_Link)] : List (api_Link))) fun l102 =>
 bnd (IntKind.wrap .i64 (i92 + 1)) fun z107 =>
 k93 l102 z107
 ) (
 k58 l90
 )
def fareboxlaw30_linkRooms_l1 (k58 : (List (api_Link)) → Option (Bool)) : Nat → (List (api_Link)) → (Int) → Option (Bool)
  | 0, _, _ => none
  | n + 1, l90, i92 => fareboxlaw30_linkRooms_b1 k58 (fareboxlaw30_linkRooms_l1 k58 n) l90 i92
def fareboxlaw30_linkRooms_b2 (k162 : (List (api_Link)) → Option (Bool)) (k197 : (List (api_Link)) → (Int) → Option (Bool)) (l194 : List (api_Link)) (i196 : Int) : Option (Bool) :=
 br ((decide (i196 < 64))) (
 chk (decide ((l194.length + ([(⟨(-22), (List.replicate 32 0), (List.replicate 64 0)⟩ : api_Link)] : List (api_Link)).length) * 104 ≤ 140737488355328)) <|
 bnd (l194 ++ ([(⟨(-22), (List.replicate 32 0), (List.replicate 64 0)⟩ : api_Link)] : List (api_Link))) fun l206 =>
 bnd (IntKind.wrap .i64 (i196 + 1)) fun z211 =>
 k197 l206 z211
 ) (
 k162 l194
 )
def fareboxlaw30_linkRooms_l2 (k162 : (List (api_Link)) → Option (Bool)) : Nat → (List (api_Link)) → (Int) → Option (Bool)
  | 0, _, _ => none
  | n + 1, l194, i196 => fareboxlaw30_linkRooms_b2 k162 (fareboxlaw30_linkRooms_l2 k162 n) l194 i196
def fareboxlaw30_linkRooms_b3 (l56 : List (api_Link)) (k244 : Unit → Option (Bool)) (k265 : (Int) → Option (Bool)) (i264 : Int) : Option (Bool) :=
 br ((decide (i264 < (l56.length : Int)))) (
 chk (inB i264 l56.length) <|
 bnd (l56.getD (i264).toNat api_Link_z) fun x271 =>
 br ((!((x271.gEpoch == (-21)) && ((ieq 32 x271.gKey (List.replicate 32 0)) && (ieq 64 x271.gSig (List.replicate 64 0)))))) (
 some false
 ) (
 bnd (IntKind.wrap .i64 (i264 + 1)) fun z275 =>
 k265 z275
 )
 ) (
 k244 ()
 )
def fareboxlaw30_linkRooms_l3 (l56 : List (api_Link)) (k244 : Unit → Option (Bool)) : Nat → (Int) → Option (Bool)
  | 0, _ => none
  | n + 1, i264 => fareboxlaw30_linkRooms_b3 l56 k244 (fareboxlaw30_linkRooms_l3 l56 k244 n) i264
def fareboxlaw30_linkRooms (p0 : List (api_Link)) (p1 : List (api_Link)) : Option (Bool) :=
 jn (fun (l56 : List (api_Link)) => jn (fun (l160 : List (api_Link)) => jn (fun (_ : Unit) => bnd (IntKind.wrap .i64 ((p1.length : Int) + 64)) fun z277 =>
 some ((l160.length : Int) == z277)) fun k244 => fareboxlaw30_linkRooms_l3 l56 k244 big (p0.length : Int)) fun k162 => fareboxlaw30_linkRooms_l2 k162 big p1 0) fun k58 => fareboxlaw30_linkRooms_l1 k58 big p0 0
theorem fareboxlaw30_linkRooms_spec {W : World} {r : Bool} {p0 : List (api_Link)} {p1 : List (api_Link)} {v0 : Value} {M0 : List Chunk} {v1 : Value} {M1 : List Chunk} (h : fareboxlaw30_linkRooms p0 p1 = some r) (h0 : Sat W ((M0 ++ M1).map (·.b)) (M0 ++ (M1 ++ [])) W) (O0 : OwnIn E_api_Link v0 M0 p0) (O1 : OwnIn E_api_Link v1 M1 p1) :
    Calls Try.prog 14 [v0, v1].toArray W (retS W ((M0 ++ M1).map (·.b)) (fun v Ms => ∃ (X0 : List Chunk) (X1 : List Chunk), v = .bool (r) ∧ Ms = [.all X0, .all X1] ∧ OwnIn E_api_Link v0 X0 p0 ∧ OwnIn E_api_Link v1 X1 p1)) := by
 unfold fareboxlaw30_linkRooms at h
 refine calls_memT mo ok14 rfl h0 ?_
 refine wc_seq <| wc_ops <| wj_q _ (q_mv rfl) <| wj_nil <| wc_seq <| wc_ops <| wj_q _ (q_mv rfl) <| wj_q _ (q_mv rfl) <| wj_nil <| wc_seq <| wc_ops <| wj_q _ (q_mv rfl) <| wj_q _ (q_mv rfl) <| wj_nil <| wc_seq <| wc_seq <| wc_ops <| wj_q _ (q_mv rfl) <| wj_nil <| jH h fun k58 qk58 h => wc_mono2 (G := fun t m => ∃ (l56 : List (api_Link)) (v54 : Value) (ms55 : List Chunk), k58 l56 = some r ∧ GrownIn E_api_Link v0 p0 v54 l56 ms55 ∧ Fit [(0, v0), (1, v1), (5, v54), (6, v1)] (M1 ++ (ms55 ++ [])) t m) ?_ ?_
 ·refine wc_block <| wc_loopJ (fun n94 t m => ∃ (l90 : List (api_Link)) (i92 : Int) (v88 : Value) (ms89 : List Chunk), fareboxlaw30_linkRooms_l1 k58 n94 l90 i92 = some r ∧ GrownIn E_api_Link v0 p0 v88 l90 ms89 ∧ Fit [(0, v0), (1, v1), (5, v88), (6, v1), (7, .int .i64 (i92))] (M1 ++ (ms89 ++ [])) t m) big ?_ ?_
  ·exact ⟨p0, 0, v0, M0, h, (OwnIn.grow O0), ⟨⟨rfl, rfl, rfl, rfl, rfl, trivial⟩, (.all (.app .here) (.all .here .nil))⟩⟩
  ·rintro n94 t m ⟨l90, i92, v88, ms89, h, G91, hF⟩
   refine wc_fit hF ?_
   clear hF
   rcases n94 with _ | n94
   · exact none_i h
   have h : fareboxlaw30_linkRooms_b1 k58 (fareboxlaw30_linkRooms_l1 k58 n94) l90 i92 = some r := h
   unfold fareboxlaw30_linkRooms_b1 at h
   obtain ⟨k93, qk93⟩ : ∃ k, k = fareboxlaw30_linkRooms_l1 k58 n94 := ⟨_, rfl⟩
   try rw [← qk93] at h
   refine wc_seq <| wc_seq <| wc_ops <| wj_q _ (q_mv rfl) <| wj_q _ (q_bin rfl rfl rfl) <| wj_nil <| wc_br h rfl (fun h => ?_) (fun h => ?_)
   ·refine wc_skip <| wc_seq <| wc_block <| cH h fun c101 h => bH h fun l102 el102 h => wc_ops <| wj_q _ (q_mv rfl) <| wj_q _ (q_bd (q := [.one (.int .i64 ((-21))), .ints .u8 32 ((List.replicate 32 0)), .ints .u8 64 ((List.replicate 64 0))]) (.one rfl rfl rfl BdR.nil)) <| wj_e (ef_bsO (E := E_api_Link) (xs := [(⟨(-21), (List.replicate 32 0), (List.replicate 64 0)⟩ : api_Link)]) (.agg rfl rfl rfl BdR.nil) (.cons (p := [.one (.int .i64 ((-21))), .ints .u8 32 ((List.replicate 32 0)), .ints .u8 64 ((List.replicate 64 0))]) rfl .nil) rfl fun v98 ms99 O100 => wj_e (ef_appGI (E := E_api_Link) el102 rfl G91 (.app (.app .here)) rfl (rd_own O100 .here) c101 fun v103 ms104 O105 => wj_q _ (q_mv rfl) <| wj_nil <| bH h fun z107 ez107 h => wc_ops <| wj_q _ (q_mv rfl) <| wj_q _ (iz ez107 (q_bin rfl rfl rfl)) <| wj_q _ (q_mv rfl) <| wj_nil ?_))
    rw [qk93] at h
    exact ⟨n94, Nat.lt_succ_self _, l102, z107, v103, ms104, h, O105, ⟨⟨rfl, rfl, rfl, rfl, rfl, trivial⟩, (.all (.app (.app .here)) (.all .here .nil))⟩⟩
   ·exact wc_exit _ rfl <| ⟨l90, v88, ms89, h, G91, ⟨⟨rfl, rfl, rfl, rfl, trivial⟩, (.all .here (.all .here .nil))⟩⟩
 ·rintro t m ⟨l56, v54, ms55, h, G57, hF⟩
  refine wc_fit hF ?_
  clear hF
  subst qk58
  refine wc_seq <| wc_seq <| wc_ops <| wj_q _ (q_mv rfl) <| wj_nil <| jH h fun k162 qk162 h => wc_mono2 (G := fun t m => ∃ (l160 : List (api_Link)) (v158 : Value) (ms159 : List Chunk), k162 l160 = some r ∧ GrownIn E_api_Link v1 p1 v158 l160 ms159 ∧ Fit [(0, v0), (1, v1), (5, v54), (6, v158)] (ms55 ++ (ms159 ++ [])) t m) ?_ ?_
  ·refine wc_block <| wc_loopJ (fun n198 t m => ∃ (l194 : List (api_Link)) (i196 : Int) (v192 : Value) (ms193 : List Chunk), fareboxlaw30_linkRooms_l2 k162 n198 l194 i196 = some r ∧ GrownIn E_api_Link v1 p1 v192 l194 ms193 ∧ Fit [(0, v0), (1, v1), (5, v54), (6, v192), (8, .int .i64 (i196))] (ms55 ++ (ms193 ++ [])) t m) big ?_ ?_
   ·exact ⟨p1, 0, v1, M1, h, (OwnIn.grow O1), ⟨⟨rfl, rfl, rfl, rfl, rfl, trivial⟩, (.all (.app .here) (.all .here .nil))⟩⟩
   ·rintro n198 t m ⟨l194, i196, v192, ms193, h, G195, hF⟩
    refine wc_fit hF ?_
    clear hF
    rcases n198 with _ | n198
    · exact none_i h
    have h : fareboxlaw30_linkRooms_b2 k162 (fareboxlaw30_linkRooms_l2 k162 n198) l194 i196 = some r := h
    unfold fareboxlaw30_linkRooms_b2 at h
    obtain ⟨k197, qk197⟩ : ∃ k, k = fareboxlaw30_linkRooms_l2 k162 n198 := ⟨_, rfl⟩
    try rw [← qk197] at h
    refine wc_seq <| wc_seq <| wc_ops <| wj_q _ (q_mv rfl) <| wj_q _ (q_bin rfl rfl rfl) <| wj_nil <| wc_br h rfl (fun h => ?_) (fun h => ?_)
    ·refine wc_skip <| wc_seq <| wc_block <| cH h fun c205 h => bH h fun l206 el206 h => wc_ops <| wj_q _ (q_mv rfl) <| wj_q _ (q_bd (q := [.one (.int .i64 ((-22))), .ints .u8 32 ((List.replicate 32 0)), .ints .u8 64 ((List.replicate 64 0))]) (.one rfl rfl rfl BdR.nil)) <| wj_e (ef_bsO (E := E_api_Link) (xs := [(⟨(-22), (List.replicate 32 0), (List.replicate 64 0)⟩ : api_Link)]) (.agg rfl rfl rfl BdR.nil) (.cons (p := [.one (.int .i64 ((-22))), .ints .u8 32 ((List.replicate 32 0)), .ints .u8 64 ((List.replicate 64 0))]) rfl .nil) rfl fun v202 ms203 O204 => wj_e (ef_appGI (E := E_api_Link) el206 rfl G195 (.app (.app .here)) rfl (rd_own O204 .here) c205 fun v207 ms208 O209 => wj_q _ (q_mv rfl) <| wj_nil <| bH h fun z211 ez211 h => wc_ops <| wj_q _ (q_mv rfl) <| wj_q _ (iz ez211 (q_bin rfl rfl rfl)) <| wj_q _ (q_mv rfl) <| wj_nil ?_))
     rw [qk197] at h
     exact ⟨n198, Nat.lt_succ_self _, l206, z211, v207, ms208, h, O209, ⟨⟨rfl, rfl, rfl, rfl, rfl, trivial⟩, (.all (.app (.app .here)) (.all .here .nil))⟩⟩
    ·exact wc_exit _ rfl <| ⟨l194, v192, ms193, h, G195, ⟨⟨rfl, rfl, rfl, rfl, trivial⟩, (.all .here (.all .here .nil))⟩⟩
  ·rintro t m ⟨l160, v158, ms159, h, G161, hF⟩
   refine wc_fit hF ?_
   clear hF
   subst qk162
   refine wc_seq <| wc_seq <| wc_ops <| wj_q _ (q_mv rfl) <| wj_q _ (q_lenP rfl (OwnIn.shp (GrownIn.base G57))) <| wj_q _ (q_mv rfl) <| wj_nil <| jH h fun k244 qk244 h => wc_mono2 (G := fun t m => k244 () = some r ∧ Fit [(1, v1), (6, v158)] (ms55 ++ (ms159 ++ [])) t m) ?_ ?_
   ·refine wc_block <| wc_loopJ (fun n266 t m => ∃ (i264 : Int), fareboxlaw30_linkRooms_l3 l56 k244 n266 i264 = some r ∧ Fit [(1, v1), (5, v54), (6, v158), (9, .int .i64 (i264))] (ms55 ++ (ms159 ++ [])) t m) big ?_ ?_
    ·exact ⟨(p0.length : Int), h, ⟨⟨rfl, rfl, rfl, rfl, trivial⟩, (.all .here (.all .here .nil))⟩⟩
    ·rintro n266 t m ⟨i264, h, hF⟩
     refine wc_fit hF ?_
     clear hF
     rcases n266 with _ | n266
     · exact none_i h
     have h : fareboxlaw30_linkRooms_b3 l56 k244 (fareboxlaw30_linkRooms_l3 l56 k244 n266) i264 = some r := h
     unfold fareboxlaw30_linkRooms_b3 at h
     obtain ⟨k265, qk265⟩ : ∃ k, k = fareboxlaw30_linkRooms_l3 l56 k244 n266 := ⟨_, rfl⟩
     try rw [← qk265] at h
     refine wc_seq <| wc_seq <| wc_ops <| wj_q _ (q_mv rfl) <| wj_q _ (q_mv rfl) <| wj_q _ (q_lenP rfl (GrownIn.shp G57)) <| wj_q _ (q_bin rfl rfl rfl) <| wj_nil <| wc_br h rfl (fun h => ?_) (fun h => ?_)
     ·refine wc_skip <| wc_seq <| wc_block <| wc_seq <| cH h fun c270 h => bH h fun x271 ex271 h => wc_ops <| wj_q _ (q_mv rfl) <| wj_q _ (q_mv rfl) <| wj_q _ (q_iasP rfl rfl (GrownIn.shp G57) c270) <| wj_q _ (az (fun (x271 : api_Link) => agg [.one (.int .i64 (x271.gEpoch)), .ints .u8 32 (x271.gKey), .ints .u8 64 (x271.gSig)]) ex271 (q_ldM0 (E := E_api_Link) (s := [.one (.int .i64 (((l56.getD (i264).toNat api_Link_z)).gEpoch)), .ints .u8 32 (((l56.getD (i264).toNat api_Link_z)).gKey), .ints .u8 64 (((l56.getD (i264).toNat api_Link_z)).gSig)]) rfl (rd_gin G57 .here) (inB_n c270) rfl rfl)) <| wj_q _ (q_bd (q := [.one (.int .i64 ((-21))), .ints .u8 32 ((List.replicate 32 0)), .ints .u8 64 ((List.replicate 64 0))]) (.one rfl rfl rfl BdR.nil)) <| wj_q _ (q_eqa (s := [.one (.int .i64 (x271.gEpoch)), .ints .u8 32 (x271.gKey), .ints .u8 64 (x271.gSig)]) (s' := [.one (.int .i64 ((-21))), .ints .u8 32 ((List.replicate 32 0)), .ints .u8 64 ((List.replicate 64 0))]) rfl rfl rfl rfl _ (eqc_cons rfl eqc_int (eqc_cons rfl eqc_ints (eqc_last eqc_ints)))) <| wj_nil <| wc_br h rfl (fun h => ?_) (fun h => ?_)
      ·refine wc_seq <| wc_ops <| wj_q _ (q_mv rfl) <| wj_nil <| wc_ret ?_
       revert h; refine ret_i fun h => ?_
       subst h
       exact ⟨_, _, (.cons (.tmp rfl) .nil), (.all .here (.all .here .nil)), ⟨_, rfl, ⟨ms55, ms159, rfl, rfl, (GrownIn.base G57), (GrownIn.base G161)⟩⟩⟩
      ·refine wc_skip <| bH h fun z275 ez275 h => wc_ops <| wj_q _ (q_mv rfl) <| wj_q _ (iz ez275 (q_bin rfl rfl rfl)) <| wj_q _ (q_mv rfl) <| wj_nil ?_
       rw [qk265] at h
       exact ⟨n266, Nat.lt_succ_self _, z275, h, ⟨⟨rfl, rfl, rfl, rfl, trivial⟩, (.all .here (.all .here .nil))⟩⟩
     ·exact wc_exit _ rfl <| ⟨h, ⟨⟨rfl, rfl, trivial⟩, (.all .here (.all .here .nil))⟩⟩
   ·rintro t m ⟨h, hF⟩
    refine wc_fit hF ?_
    clear hF
    subst qk244
    refine wc_seq <| bH h fun z277 ez277 h => wc_ops <| wj_q _ (q_mv rfl) <| wj_q _ (q_lenP rfl (GrownIn.shp G161)) <| wj_q _ (q_mv rfl) <| wj_q _ (q_lenP rfl (OwnIn.shp (GrownIn.base G161))) <| wj_q _ (iz ez277 (q_bin rfl rfl rfl)) <| wj_q _ (q_bin rfl rfl rfl) <| wj_q _ (q_mv rfl) <| wj_nil <| wc_ret ?_
    revert h; refine ret_i fun h => ?_
    subst h
    exact ⟨_, _, (.cons (.tmp rfl) .nil), (.all .here (.all .here .nil)), ⟨_, rfl, ⟨ms55, ms159, rfl, rfl, (GrownIn.base G57), (GrownIn.base G161)⟩⟩⟩
/- farebox/fareboxlaw30.RotateBytes -/
def fareboxlaw30_RotateBytes_b1 (k79 : (List (Int)) → Option (Bool)) (k107 : (List (Int)) → (Int) → Option (Bool)) (l104 : List (Int)) (i106 : Int) : Option (Bool) :=
 br ((decide (i106 < (l104.length : Int)))) (
 chk (inB i106 l104.length) <|
 bnd (setG 0 l104 (i106).toNat 51) fun l113 =>
 bnd (IntKind.wrap .i64 (i106 + 1)) fun z117 =>
 k107 l113 z117
 ) (
 k79 l104
 )
def fareboxlaw30_RotateBytes_l1 (k79 : (List (Int)) → Option (Bool)) : Nat → (List (Int)) → (Int) → Option (Bool)
  | 0, _, _ => none
  | n + 1, l104, i106 => fareboxlaw30_RotateBytes_b1 k79 (fareboxlaw30_RotateBytes_l1 k79 n) l104 i106
def fareboxlaw30_RotateBytes_b2 (k173 : (List (Int)) → Option (Bool)) (k208 : (List (Int)) → (Int) → Option (Bool)) (l205 : List (Int)) (i207 : Int) : Option (Bool) :=
 br ((decide (i207 < 200))) (
 chk (decide ((l205.length + ([68] : List (Int)).length) * 1 ≤ 140737488355328)) <|
 bnd (l205 ++ ([68] : List (Int))) fun l217 =>
 bnd (IntKind.wrap .i64 (i207 + 1)) fun z222 =>
 k208 l217 z222
 ) (
 k173 l205
 )
def fareboxlaw30_RotateBytes_l2 (k173 : (List (Int)) → Option (Bool)) : Nat → (List (Int)) → (Int) → Option (Bool)
  | 0, _, _ => none
  | n + 1, l205, i207 => fareboxlaw30_RotateBytes_b2 k173 (fareboxlaw30_RotateBytes_l2 k173 n) l205 i207
def fareboxlaw30_RotateBytes_b3 (p1 : List Int) (k359 : (List (Int)) → Option (Bool)) (k393 : (List (Int)) → (Int) → Option (Bool)) (l390 : List (Int)) (i392 : Int) : Option (Bool) :=
 br ((decide (i392 < (p1.length : Int)))) (
 chk (inB i392 l390.length) <|
 bnd (l390.getD (i392).toNat 0) fun z399 =>
 bnd (IntKind.wrap .u8 (z399 + 1)) fun z400 =>
 chk (inB i392 l390.length) <|
 bnd (setG 0 l390 (i392).toNat z400) fun l402 =>
 bnd (IntKind.wrap .i64 (i392 + 1)) fun z406 =>
 k393 l402 z406
 ) (
 k359 l390
 )
def fareboxlaw30_RotateBytes_l3 (p1 : List Int) (k359 : (List (Int)) → Option (Bool)) : Nat → (List (Int)) → (Int) → Option (Bool)
  | 0, _, _ => none
  | n + 1, l390, i392 => fareboxlaw30_RotateBytes_b3 p1 k359 (fareboxlaw30_RotateBytes_l3 p1 k359 n) l390 i392
def fareboxlaw30_RotateBytes_b4 (k458 : (List (api_Link)) → Option (Bool)) (k488 : (List (api_Link)) → (Int) → Option (Bool)) (l485 : List (api_Link)) (i487 : Int) : Option (Bool) :=
 br ((decide (i487 < (l485.length : Int)))) (
 chk (inB i487 l485.length) <|
 bnd (l485.getD (i487).toNat api_Link_z) fun x494 =>
 bnd (setG api_Link_z l485 (i487).toNat (⟨(-9), (List.replicate 32 0), (List.replicate 64 0)⟩ : api_Link)) fun l495 =>
 bnd (IntKind.wrap .i64 (i487 + 1)) fun z499 =>
 k488 l495 z499
 ) (
 k458 l485
 )
def fareboxlaw30_RotateBytes_l4 (k458 : (List (api_Link)) → Option (Bool)) : Nat → (List (api_Link)) → (Int) → Option (Bool)
  | 0, _, _ => none
  | n + 1, l485, i487 => fareboxlaw30_RotateBytes_b4 k458 (fareboxlaw30_RotateBytes_l4 k458 n) l485 i487
def fareboxlaw30_RotateBytes_b5 (k555 : (List (api_Link)) → Option (Bool)) (k590 : (List (api_Link)) → (Int) → Option (Bool)) (l587 : List (api_Link)) (i589 : Int) : Option (Bool) :=
 br ((decide (i589 < 8))) (
 chk (decide ((l587.length + ([(⟨(-10), (List.replicate 32 0), (List.replicate 64 0)⟩ : api_Link)] : List (api_Link)).length) * 104 ≤ 140737488355328)) <|
 bnd (l587 ++ ([(⟨(-10), (List.replicate 32 0), (List.replicate 64 0)⟩ : api_Link)] : List (api_Link))) fun l599 =>
 bnd (IntKind.wrap .i64 (i589 + 1)) fun z604 =>
 k590 l599 z604
 ) (
 k555 l587
 )
def fareboxlaw30_RotateBytes_l5 (k555 : (List (api_Link)) → Option (Bool)) : Nat → (List (api_Link)) → (Int) → Option (Bool)
  | 0, _, _ => none
  | n + 1, l587, i589 => fareboxlaw30_RotateBytes_b5 k555 (fareboxlaw30_RotateBytes_l5 k555 n) l587 i589
def fareboxlaw30_RotateBytes (p0 : List (api_Link)) (p1 : List Int) : Option (Bool) :=
 opt (fareboxlaw30_marked p0) fun y3 =>
 opt (rotate_Encode (y3.1.take (y3.2).toNat)) fun y11 =>
 opt (fareboxref30_Encode p0) fun y18 =>
 opt (rotate_Encode (y3.1.take (y3.2).toNat)) fun y25 =>
 opt (fareboxlaw30_same y11.1 y18.1) fun y32 =>
 chk (imp (!((!y32) || (y11.2 != y18.2))) ((fareboxlaw30_left y3.1 y3.2 p0).isSome)) <|
 br ((((!y32) || (y11.2 != y18.2)) || (!((fareboxlaw30_left y3.1 y3.2 p0).getD false)))) (
 some false
 ) (
 jn (fun (l77 : List (Int)) => jn (fun (l171 : List (Int)) => jn (fun (i240 : Bool) => br (i240) (
 some false
 ) (
 chk (decide ((([] : List (Int)).length + p1.length) * 1 ≤ 140737488355328)) <|
 bnd (([] : List (Int)) ++ p1) fun l264 =>
 chk (decide ((l264.length + ([165] : List (Int)).length) * 1 ≤ 140737488355328)) <|
 bnd (l264 ++ ([165] : List (Int))) fun l273 =>
 chk (cutB 0 (p1.length : Int) l273.length) <|
 opt (rotate_Decode (l273.take ((p1.length : Int)).toNat)) fun y280 =>
 opt (fareboxref30_Decode p1) fun y287 =>
 opt (fareboxlaw30_sameLinks y280.1 y287.1) fun y294 =>
 chk (imp (!((!y294) || (y280.2 != y287.2))) ((cutB 0 (p1.length : Int) l273.length && (fareboxlaw30_same (l273.take ((p1.length : Int)).toNat) p1).isSome))) <|
 chk (imp (!(((!y294) || (y280.2 != y287.2)) || (!((fareboxlaw30_same (l273.take ((p1.length : Int)).toNat) p1).getD false)))) (inB (p1.length : Int) l273.length)) <|
 br (((((!y294) || (y280.2 != y287.2)) || (!((fareboxlaw30_same (l273.take ((p1.length : Int)).toNat) p1).getD false))) || (l273.getD ((p1.length : Int)).toNat 0 != 165))) (
 some false
 ) (
 chk (cutB 0 (p1.length : Int) l273.length) <|
 opt (rotate_Decode (l273.take ((p1.length : Int)).toNat)) fun y301 =>
 jn (fun (l357 : List (Int)) => opt (fareboxlaw30_sameLinks y280.1 y287.1) fun y408 =>
 chk (imp (!(!y408)) ((fareboxlaw30_sameLinks y301.1 y287.1).isSome)) <|
 br (((!y408) || (!((fareboxlaw30_sameLinks y301.1 y287.1).getD false)))) (
 some false
 ) (
 jn (fun (l456 : List (api_Link)) => jn (fun (l553 : List (api_Link)) => chk (cutB 0 (p1.length : Int) l357.length) <|
 chk (decide ((([] : List (Int)).length + (l357.take ((p1.length : Int)).toNat).length) * 1 ≤ 140737488355328)) <|
 bnd (([] : List (Int)) ++ (l357.take ((p1.length : Int)).toNat)) fun l609 =>
 chk (cutB 0 (p1.length : Int) l357.length) <|
 opt (rotate_Decode (l357.take ((p1.length : Int)).toNat)) fun y615 =>
 opt (fareboxref30_Decode l609) fun y622 =>
 jn (fun (i646 : Bool) => some i646) fun k647 => opt (fareboxlaw30_sameLinks y615.1 y622.1) fun y649 =>
 chk (imp ((y649 && (y615.2 == y622.2)) && ((l553.length : Int) == IntKind.wrap .i64 ((y287.1.length : Int) + 8))) ((fareboxlaw30_sameLinks y301.1 y287.1).isSome)) <|
 chk (imp (((y649 && (y615.2 == y622.2)) && ((l553.length : Int) == IntKind.wrap .i64 ((y287.1.length : Int) + 8))) && ((fareboxlaw30_sameLinks y301.1 y287.1).getD false)) ((cutB 0 (p1.length : Int) l357.length && (fareboxlaw30_same (l357.take ((p1.length : Int)).toNat) l609).isSome))) <|
 br (((((y649 && (y615.2 == y622.2)) && ((l553.length : Int) == IntKind.wrap .i64 ((y287.1.length : Int) + 8))) && ((fareboxlaw30_sameLinks y301.1 y287.1).getD false)) && ((fareboxlaw30_same (l357.take ((p1.length : Int)).toNat) l609).getD false))) (
 opt (fareboxlaw30_linkRooms l456 y301.1) fun y652 =>
 br (y652) (
 opt (fareboxlaw30_linkRooms y301.1 y615.1) fun y659 =>
 k647 y659
 ) (
 k647 false
 )
 ) (
 k647 false
 )) fun k555 => fareboxlaw30_RotateBytes_l5 k555 big l456 0) fun k458 => fareboxlaw30_RotateBytes_l4 k458 big y280.1 0
 )) fun k359 => fareboxlaw30_RotateBytes_l3 p1 k359 big l273 0
 )
 )) fun k241 => bnd (IntKind.wrap .i64 ((y18.1.length : Int) + 200)) fun z243 =>
 chk (imp (!((l171.length : Int) != z243)) ((fareboxlaw30_same y25.1 y18.1).isSome)) <|
 br ((((l171.length : Int) != z243) || (!((fareboxlaw30_same y25.1 y18.1).getD false)))) (
 k241 true
 ) (
 opt (fareboxlaw30_rooms l77 y25.1) fun y245 =>
 br ((!y245)) (
 k241 true
 ) (
 opt (fareboxlaw30_encodedAgain y3.1 y3.2 p0) fun y252 =>
 chk (cutB 0 y3.2 y252.2.length) <|
 chk (cutB 0 y3.2 y252.2.length) <|
 k241 (!y252.1)
 )
 )) fun k173 => fareboxlaw30_RotateBytes_l2 k173 big l77 0) fun k79 => fareboxlaw30_RotateBytes_l1 k79 big y11.1 0
 )
theorem fareboxlaw30_RotateBytes_spec {W : World} {r : Bool} {p0 : List (api_Link)} {p1 : List Int} {v0 : Value} {v1 : Value} (h : fareboxlaw30_RotateBytes p0 p1 = some r) (A0 : RdSl E_api_Link W v0 p0) (A1 : RdSl (El.int .u8) W v1 p1) :
    Calls Try.prog 3 [v0, v1].toArray W (ret1 W (.bool (r))) := by
 unfold fareboxlaw30_RotateBytes at h
 refine calls_val mo ok3 rfl ?_
 refine wc_seq <| wc_ops <| wj_q _ (q_mv rfl) <| wj_nil <| wc_seq <| oH h fun y3 ey3 h => wc_ops <| wj_q _ (q_mv rfl) <| wj_e (ef_callS0 rfl (fun w hw => fareboxlaw30_marked_spec  ey3 ((rd_arg A0 apart0) w hw)) fun v4 Msv4 R5 => ?_)
 obtain ⟨v6, ms7, rfl, rfl, O8, H9⟩ := R5
 refine wj_q _ (q_mv rfl) <| wj_nil <| wc_seq <| oH h fun y11 ey11 h => wc_ops <| wj_q _ (q_mv rfl) <| wj_e (ef_callS0 rfl (fun w hw => rotate_Encode_spec  ey11 ((rd_pre (rd_own O8 .here) H9) w hw)) fun v12 Msv12 R13 => ?_)
 obtain ⟨v14, ms15, rfl, rfl, O16⟩ := R13
 refine wj_q _ (q_mv rfl) <| wj_q _ (q_ext rfl rfl) <| wj_q _ (q_ext rfl rfl) <| wj_q _ (q_mv rfl) <| wj_q _ (q_mv rfl) <| wj_nil <| wc_seq <| oH h fun y18 ey18 h => wc_ops <| wj_q _ (q_mv rfl) <| wj_e (ef_callS0 rfl (fun w hw => fareboxref30_Encode_spec  ey18 ((rd_arg A0 apart0) w hw)) fun v19 Msv19 R20 => ?_)
 obtain ⟨v21, ms22, rfl, rfl, O23⟩ := R20
 refine wj_q _ (q_mv rfl) <| wj_q _ (q_ext rfl rfl) <| wj_q _ (q_ext rfl rfl) <| wj_q _ (q_mv rfl) <| wj_q _ (q_mv rfl) <| wj_nil <| wc_seq <| oH h fun y25 ey25 h => wc_ops <| wj_q _ (q_mv rfl) <| wj_e (ef_callS0 rfl (fun w hw => rotate_Encode_spec  ey25 ((rd_pre (rd_own O8 (.app (.app .here))) H9) w hw)) fun v26 Msv26 R27 => ?_)
 obtain ⟨v28, ms29, rfl, rfl, O30⟩ := R27
 refine wj_q _ (q_mv rfl) <| wj_q _ (q_ext rfl rfl) <| wj_q _ (q_ext rfl rfl) <| wj_q _ (q_mv rfl) <| wj_q _ (q_mv rfl) <| wj_nil <| wc_seq <| wc_seq <| oH h fun y32 ey32 h => cH h fun c33 h => wc_ops <| wj_q _ (q_mv rfl) <| wj_q _ (q_mv rfl) <| wj_q _ (q_call rfl (fun w hw => fareboxlaw30_same_spec ey32 ((rd_own O16 (.app (.app .here))) w hw) ((rd_own O23 (.app .here)) w hw))) <| wj_q _ (q_un rfl rfl) <| wj_q _ (q_mv rfl) <| wj_or rfl rfl rfl (fun hg1 => qj_g rfl _ (q_mv rfl) (qj_g rfl _ (q_mv rfl) (qj_g rfl _ (q_bin rfl rfl rfl) (qj_nil)))) (fun hg1 => rfl) rfl <| wj_q _ (q_mv rfl) <| wj_or rfl rfl rfl (fun hg1 => qj_g rfl _ (q_mv rfl) (qj_g rfl _ (q_mv rfl) (qj_g rfl _ (q_call rfl (fun w hw => fareboxlaw30_left_spec (getD_some (z := false) (imp_f c33 hg1)) ((rd_own O8 (.app (.app (.app .here)))) w hw) H9 ((rd_arg A0 apart0) w hw))) (qj_g rfl _ (q_un rfl rfl) (qj_nil))))) (fun hg1 => rfl) rfl <| wj_nil <| wc_br h rfl (fun h => ?_) (fun h => ?_)
 ·refine wc_seq <| wc_ops <| wj_q _ (q_mv rfl) <| wj_nil <| wc_ret ?_
  revert h; refine ret_i fun h => ?_
  subst h
  exact ⟨_, (.cons (.tmp rfl) .nil), rfl⟩
 ·refine wc_skip <| wc_seq <| wc_seq <| wc_ops <| wj_q _ (q_mv rfl) <| wj_nil <| jH h fun k79 qk79 h => wc_mono2 (G := fun t m => ∃ (l77 : List (Int)) (v75 : Value) (ms76 : List Chunk), k79 l77 = some r ∧ OwnSl (El.int .u8) v75 ms76 l77 ∧ Fit [(0, v0), (1, v1), (5, (cutSl 97 v6 0 (y3.2).toNat)), (6, v75), (8, v21), (10, v28)] (ms29 ++ (ms22 ++ (ms7 ++ (ms76 ++ [])))) t m) ?_ ?_
  ·refine wc_block <| wc_loopJ (fun n108 t m => ∃ (l104 : List (Int)) (i106 : Int) (v102 : Value) (ms103 : List Chunk), fareboxlaw30_RotateBytes_l1 k79 n108 l104 i106 = some r ∧ OwnSl (El.int .u8) v102 ms103 l104 ∧ Fit [(0, v0), (1, v1), (5, (cutSl 97 v6 0 (y3.2).toNat)), (6, v102), (8, v21), (10, v28), (12, .int .i64 (i106))] (ms29 ++ (ms22 ++ (ms7 ++ (ms103 ++ [])))) t m) big ?_ ?_
   ·exact ⟨y11.1, 0, v14, ms15, h, O16, ⟨⟨rfl, rfl, rfl, rfl, rfl, rfl, rfl, trivial⟩, (.all .here (.all .here (.all (.app .here) (.all .here .nil))))⟩⟩
   ·rintro n108 t m ⟨l104, i106, v102, ms103, h, O105, hF⟩
    refine wc_fit hF ?_
    clear hF
    rcases n108 with _ | n108
    · exact none_i h
    have h : fareboxlaw30_RotateBytes_b1 k79 (fareboxlaw30_RotateBytes_l1 k79 n108) l104 i106 = some r := h
    unfold fareboxlaw30_RotateBytes_b1 at h
    obtain ⟨k107, qk107⟩ : ∃ k, k = fareboxlaw30_RotateBytes_l1 k79 n108 := ⟨_, rfl⟩
    try rw [← qk107] at h
    refine wc_seq <| wc_seq <| wc_ops <| wj_q _ (q_mv rfl) <| wj_q _ (q_mv rfl) <| wj_q _ (q_lenP rfl (Shp.own O105)) <| wj_q _ (q_bin rfl rfl rfl) <| wj_nil <| wc_br h rfl (fun h => ?_) (fun h => ?_)
    ·refine wc_skip <| wc_seq <| wc_block <| cH h fun c112 h => bH h fun l113 el113 h => wc_ops <| wj_q _ (q_mv rfl) <| wj_q _ (q_mv rfl) <| wj_q _ (q_iasP rfl rfl (Shp.own O105) c112) <| wj_e (ef_stO (E := (El.int .u8)) el113 O105 (.app (.app (.app .here))) rfl rfl rfl (inB_n c112) fun ms114 O115 => wj_nil <| bH h fun z117 ez117 h => wc_ops <| wj_q _ (q_mv rfl) <| wj_q _ (iz ez117 (q_bin rfl rfl rfl)) <| wj_q _ (q_mv rfl) <| wj_nil ?_)
     rw [qk107] at h
     exact ⟨n108, Nat.lt_succ_self _, l113, z117, v102, ms114, h, O115, ⟨⟨rfl, rfl, rfl, rfl, rfl, rfl, rfl, trivial⟩, (.all (.app .here) (.all (.app .here) (.all (.app .here) (.all .here .nil))))⟩⟩
    ·exact wc_exit _ rfl <| ⟨l104, v102, ms103, h, O105, ⟨⟨rfl, rfl, rfl, rfl, rfl, rfl, trivial⟩, (.all .here (.all .here (.all .here (.all .here .nil))))⟩⟩
  ·rintro t m ⟨l77, v75, ms76, h, O78, hF⟩
   refine wc_fit hF ?_
   clear hF
   subst qk79
   refine wc_seq <| wc_ops <| wj_q _ (q_mv rfl) <| wj_q _ (q_mv rfl) <| wj_nil <| wc_seq <| wc_seq <| wc_ops <| wj_q _ (q_mv rfl) <| wj_nil <| jH h fun k173 qk173 h => wc_mono2 (G := fun t m => ∃ (l171 : List (Int)) (v169 : Value) (ms170 : List Chunk), k173 l171 = some r ∧ GrownIn (El.int .u8) v75 l77 v169 l171 ms170 ∧ Fit [(0, v0), (1, v1), (5, (cutSl 97 v6 0 (y3.2).toNat)), (6, v75), (8, v21), (10, v28), (13, v169)] (ms29 ++ (ms22 ++ (ms7 ++ (ms170 ++ [])))) t m) ?_ ?_
   ·refine wc_block <| wc_loopJ (fun n209 t m => ∃ (l205 : List (Int)) (i207 : Int) (v203 : Value) (ms204 : List Chunk), fareboxlaw30_RotateBytes_l2 k173 n209 l205 i207 = some r ∧ GrownIn (El.int .u8) v75 l77 v203 l205 ms204 ∧ Fit [(0, v0), (1, v1), (5, (cutSl 97 v6 0 (y3.2).toNat)), (6, v75), (8, v21), (10, v28), (13, v203), (14, .int .i64 (i207))] (ms29 ++ (ms22 ++ (ms7 ++ (ms204 ++ [])))) t m) big ?_ ?_
    ·exact ⟨l77, 0, v75, ms76, h, (OwnIn.grow (OwnSl.oin O78)), ⟨⟨rfl, rfl, rfl, rfl, rfl, rfl, rfl, rfl, trivial⟩, (.all .here (.all .here (.all .here (.all .here .nil))))⟩⟩
    ·rintro n209 t m ⟨l205, i207, v203, ms204, h, G206, hF⟩
     refine wc_fit hF ?_
     clear hF
     rcases n209 with _ | n209
     · exact none_i h
     have h : fareboxlaw30_RotateBytes_b2 k173 (fareboxlaw30_RotateBytes_l2 k173 n209) l205 i207 = some r := h
     unfold fareboxlaw30_RotateBytes_b2 at h
     obtain ⟨k208, qk208⟩ : ∃ k, k = fareboxlaw30_RotateBytes_l2 k173 n209 := ⟨_, rfl⟩
     try rw [← qk208] at h
     refine wc_seq <| wc_seq <| wc_ops <| wj_q _ (q_mv rfl) <| wj_q _ (q_bin rfl rfl rfl) <| wj_nil <| wc_br h rfl (fun h => ?_) (fun h => ?_)
     ·refine wc_skip <| wc_seq <| wc_block <| cH h fun c216 h => bH h fun l217 el217 h => wc_ops <| wj_q _ (q_mv rfl) <| wj_e (ef_bsO (E := (El.int .u8)) (xs := [68]) (.one rfl rfl rfl BdR.nil) (.cons (p := [.one (.int .u8 (68))]) rfl .nil) rfl fun v213 ms214 O215 => wj_e (ef_appGI (E := (El.int .u8)) el217 rfl G206 (.app (.app (.app (.app .here)))) rfl (rd_own O215 .here) c216 fun v218 ms219 O220 => wj_q _ (q_mv rfl) <| wj_nil <| bH h fun z222 ez222 h => wc_ops <| wj_q _ (q_mv rfl) <| wj_q _ (iz ez222 (q_bin rfl rfl rfl)) <| wj_q _ (q_mv rfl) <| wj_nil ?_))
      rw [qk208] at h
      exact ⟨n209, Nat.lt_succ_self _, l217, z222, v218, ms219, h, O220, ⟨⟨rfl, rfl, rfl, rfl, rfl, rfl, rfl, rfl, trivial⟩, (.all (.app (.app .here)) (.all (.app (.app .here)) (.all (.app (.app .here)) (.all .here .nil))))⟩⟩
     ·exact wc_exit _ rfl <| ⟨l205, v203, ms204, h, G206, ⟨⟨rfl, rfl, rfl, rfl, rfl, rfl, rfl, trivial⟩, (.all .here (.all .here (.all .here (.all .here .nil))))⟩⟩
   ·rintro t m ⟨l171, v169, ms170, h, G172, hF⟩
    refine wc_fit hF ?_
    clear hF
    subst qk173
    refine wc_seq <| wc_seq <| jH h fun k241 qk241 h => wc_mono2 (G := fun t m => ∃ (i240 : Bool), k241 i240 = some r ∧ Fit [(1, v1), (104, .bool (i240))] [] t m) ?_ ?_
    ·refine wc_ops <| bH h fun z243 ez243 h => cH h fun c244 h => wj_q _ (q_mv rfl) <| wj_q _ (q_lenP rfl (GrownIn.shp G172)) <| wj_q _ (q_mv rfl) <| wj_q _ (q_lenP rfl (Shp.own O23)) <| wj_q _ (iz ez243 (q_bin rfl rfl rfl)) <| wj_q _ (q_bin rfl rfl rfl) <| wj_q _ (q_mv rfl) <| wj_or rfl rfl rfl (fun hg1 => qj_g rfl _ (q_mv rfl) (qj_g rfl _ (q_mv rfl) (qj_g rfl _ (q_call rfl (fun w hw => fareboxlaw30_same_spec (getD_some (z := false) (imp_f c244 hg1)) ((rd_own O30 .here) w hw) ((rd_own O23 (.app .here)) w hw))) (qj_g rfl _ (q_un rfl rfl) (qj_nil))))) (fun hg1 => rfl) rfl <| wj_q _ (q_mv rfl) <| wj_br (tc := 93) h rfl (fun h => ?_) (fun h => ?_)
     ·exact wj_gx rfl rfl <| wj_gx rfl rfl <| wj_gx rfl rfl <| wj_gx rfl rfl <| wj_q _ (pick_t rfl rfl) <| wj_q _ (q_mv rfl) <| wj_gx rfl rfl <| wj_gx rfl rfl <| wj_gx rfl rfl <| wj_gx rfl rfl <| wj_q _ (pick_t rfl rfl) <| wj_nil <| ⟨true, h, ⟨⟨rfl, rfl, trivial⟩, .nil⟩⟩
     ·refine oH h fun y245 ey245 h => wj_gq rfl _ (q_mv rfl) <| wj_gq rfl _ (q_mv rfl) <| wj_ge rfl (ef_callS (mS := ms170 ++ ms29) rfl (perm3 (.app (.app (.app .here))) .here) (fun w hw => fareboxlaw30_rooms_spec  ey245 (sat_own3 hw (perm3 (.app (.app (.app .here))) .here)) (GrownIn.base G172) (OwnSl.oin O30)) fun v246 Msv246 R247 => ?_)
      obtain ⟨ms248, ms250, rfl, rfl, O249, O251⟩ := R247
      refine wj_gq rfl _ (q_un rfl rfl) <| wj_q _ (pick_f rfl rfl) <| wj_q _ (q_mv rfl) <| wj_br (tc := 99) h rfl (fun h => ?_) (fun h => ?_)
      ·exact wj_gx rfl rfl <| wj_gx rfl rfl <| wj_gx rfl rfl <| wj_gx rfl rfl <| wj_q _ (pick_t rfl rfl) <| wj_nil <| ⟨true, h, ⟨⟨rfl, rfl, trivial⟩, .nil⟩⟩
      ·refine oH h fun y252 ey252 h => cH h fun c257 h => cH h fun c258 h => wj_gq rfl _ (q_mv rfl) <| wj_gq rfl _ (q_mv rfl) <| wj_ge rfl (ef_callS (mS := ms7) rfl (Take.perm (.app (.app (.app .here)))) (fun w hw => fareboxlaw30_encodedAgain_spec  ey252 (sat_own1 hw (Take.perm (.app (.app (.app .here))))) O8 H9 ⟨(rd_arg A0 apart0) w hw, apart_args (E := E_api_Link) A0 apart0 (.app (.app (.app .here))) hw⟩) fun v253 Msv253 R254 => ?_)
       obtain ⟨ms255, rfl, rfl, O256⟩ := R254
       exact wj_gq rfl _ (q_un rfl rfl) <| wj_q _ (pick_f rfl rfl) <| wj_nil <| ⟨(!y252.1), h, ⟨⟨rfl, rfl, trivial⟩, .nil⟩⟩
    ·rintro t m ⟨i240, h, hF⟩
     refine wc_fit hF ?_
     clear hF
     subst qk241
     refine wc_br h rfl (fun h => ?_) (fun h => ?_)
     ·refine wc_seq <| wc_ops <| wj_q _ (q_mv rfl) <| wj_nil <| wc_ret ?_
      revert h; refine ret_i fun h => ?_
      subst h
      exact ⟨_, (.cons (.tmp rfl) .nil), rfl⟩
     ·refine wc_skip <| wc_seq <| wc_ops <| wj_q _ (q_mv rfl) <| wj_nil <| wc_seq <| cH h fun c263 h => bH h fun l264 el264 h => wc_ops <| wj_q _ (q_mv rfl) <| wj_q _ (q_mv rfl) <| wj_e (ef_appO (E := (El.int .u8)) el264 rfl own_nil .here rfl (rd_arg A1 apart0) c263 fun v265 ms266 O267 => wj_q _ (q_mv rfl) <| wj_nil <| wc_seq <| cH h fun c272 h => bH h fun l273 el273 h => wc_ops <| wj_q _ (q_mv rfl) <| wj_e (ef_bsO (E := (El.int .u8)) (xs := [165]) (.one rfl rfl rfl BdR.nil) (.cons (p := [.one (.int .u8 (165))]) rfl .nil) rfl fun v269 ms270 O271 => wj_e (ef_appO (E := (El.int .u8)) el273 rfl O267 (.app .here) rfl (rd_own O271 .here) c272 fun v274 ms275 O276 => wj_q _ (q_mv rfl) <| wj_nil <| wc_seq <| wc_ops <| wj_q _ (q_mv rfl) <| wj_q _ (q_lenP rfl (Shp.rd A1)) <| wj_q _ (q_mv rfl) <| wj_nil <| wc_seq <| cH h fun c279 h => oH h fun y280 ey280 h => wc_ops <| wj_q _ (q_mv rfl) <| wj_q _ (q_mv rfl) <| wj_q _ (q_slsP (lz := 0) (hz := (p1.length : Int)) rfl (Shp.own O276) .no (.yes rfl) c279) <| wj_e (ef_callS0 rfl (fun w hw => rotate_Decode_spec  ey280 ((rd_pre (rd_own O276 .here) c279) w hw)) fun v281 Msv281 R282 => ?_))))
      obtain ⟨v283, ms284, rfl, rfl, O285⟩ := R282
      refine wj_q _ (q_mv rfl) <| wj_q _ (q_ext rfl rfl) <| wj_q _ (q_ext rfl rfl) <| wj_q _ (q_mv rfl) <| wj_q _ (q_mv rfl) <| wj_nil <| wc_seq <| oH h fun y287 ey287 h => wc_ops <| wj_q _ (q_mv rfl) <| wj_e (ef_callS0 rfl (fun w hw => fareboxref30_Decode_spec  ey287 ((rd_arg A1 apart0) w hw)) fun v288 Msv288 R289 => ?_)
      obtain ⟨v290, ms291, rfl, rfl, O292⟩ := R289
      refine wj_q _ (q_mv rfl) <| wj_q _ (q_ext rfl rfl) <| wj_q _ (q_ext rfl rfl) <| wj_q _ (q_mv rfl) <| wj_q _ (q_mv rfl) <| wj_nil <| wc_seq <| wc_seq <| oH h fun y294 ey294 h => cH h fun c295 h => cH h fun c296 h => wc_ops <| wj_q _ (q_mv rfl) <| wj_q _ (q_mv rfl) <| wj_q _ (q_call rfl (fun w hw => fareboxlaw30_sameLinks_spec ey294 ((rd_own O285 (.app .here)) w hw) ((rd_own O292 .here) w hw))) <| wj_q _ (q_un rfl rfl) <| wj_q _ (q_mv rfl) <| wj_or rfl rfl rfl (fun hg1 => qj_g rfl _ (q_mv rfl) (qj_g rfl _ (q_mv rfl) (qj_g rfl _ (q_bin rfl rfl rfl) (qj_nil)))) (fun hg1 => rfl) rfl <| wj_q _ (q_mv rfl) <| wj_or rfl rfl rfl (fun hg1 => qj_g rfl _ (q_mv rfl) (qj_g rfl _ (q_mv rfl) (qj_g rfl _ (q_slsP (lz := 0) (hz := (p1.length : Int)) rfl (Shp.own O276) .no (.yes rfl) (and_l (imp_f c295 hg1))) (qj_g rfl _ (q_mv rfl) (qj_g rfl _ (q_call rfl (fun w hw => fareboxlaw30_same_spec (getD_some (z := false) (and_r (imp_f c295 hg1))) ((rd_pre (rd_own O276 (.app (.app .here))) (and_l (imp_f c295 hg1))) w hw) ((rd_arg A1 apart0) w hw))) (qj_g rfl _ (q_un rfl rfl) (qj_nil))))))) (fun hg1 => rfl) rfl <| wj_q _ (q_mv rfl) <| wj_or rfl rfl rfl (fun hg1 => qj_g rfl _ (q_mv rfl) (qj_g rfl _ (q_mv rfl) (qj_g rfl _ (q_iasP rfl rfl (Shp.own O276) (imp_f c296 hg1)) (qj_g rfl _ (iz rfl (q_ldM10 (E := (El.int .u8)) (s := [.one (.int .u8 (l273.getD ((p1.length : Int)).toNat 0))]) rfl (rd_own O276 (.app (.app .here))) (inB_n (imp_f c296 hg1)) rfl rfl)) (qj_g rfl _ (q_bin rfl rfl rfl) (qj_nil)))))) (fun hg1 => rfl) rfl <| wj_nil <| wc_br h rfl (fun h => ?_) (fun h => ?_)
      ·refine wc_seq <| wc_ops <| wj_q _ (q_mv rfl) <| wj_nil <| wc_ret ?_
       revert h; refine ret_i fun h => ?_
       subst h
       exact ⟨_, (.cons (.tmp rfl) .nil), rfl⟩
      ·refine wc_skip <| wc_seq <| cH h fun c300 h => oH h fun y301 ey301 h => wc_ops <| wj_q _ (q_mv rfl) <| wj_q _ (q_mv rfl) <| wj_q _ (q_slsP (lz := 0) (hz := (p1.length : Int)) rfl (Shp.own O276) .no (.yes rfl) c300) <| wj_e (ef_callS0 rfl (fun w hw => rotate_Decode_spec  ey301 ((rd_pre (rd_own O276 (.app (.app .here))) c300) w hw)) fun v302 Msv302 R303 => ?_)
       obtain ⟨v304, ms305, rfl, rfl, O306⟩ := R303
       refine wj_q _ (q_mv rfl) <| wj_q _ (q_ext rfl rfl) <| wj_q _ (q_ext rfl rfl) <| wj_q _ (q_mv rfl) <| wj_q _ (q_mv rfl) <| wj_nil <| wc_seq <| wc_seq <| wc_ops <| wj_q _ (q_mv rfl) <| wj_nil <| jH h fun k359 qk359 h => wc_mono2 (G := fun t m => ∃ (l357 : List (Int)) (v355 : Value) (ms356 : List Chunk), k359 l357 = some r ∧ OwnSl (El.int .u8) v355 ms356 l357 ∧ Fit [(15, v355), (16, .int .i64 ((p1.length : Int))), (17, v283), (19, v290), (21, v304)] (ms305 ++ (ms291 ++ (ms284 ++ (ms356 ++ [])))) t m) ?_ ?_
       ·refine wc_block <| wc_loopJ (fun n394 t m => ∃ (l390 : List (Int)) (i392 : Int) (v388 : Value) (ms389 : List Chunk), fareboxlaw30_RotateBytes_l3 p1 k359 n394 l390 i392 = some r ∧ OwnSl (El.int .u8) v388 ms389 l390 ∧ Fit [(15, v388), (16, .int .i64 ((p1.length : Int))), (17, v283), (19, v290), (21, v304), (23, .int .i64 (i392))] (ms305 ++ (ms291 ++ (ms284 ++ (ms389 ++ [])))) t m) big ?_ ?_
        ·exact ⟨l273, 0, v274, ms275, h, O276, ⟨⟨rfl, rfl, rfl, rfl, rfl, rfl, trivial⟩, (.all .here (.all .here (.all .here (.all .here .nil))))⟩⟩
        ·rintro n394 t m ⟨l390, i392, v388, ms389, h, O391, hF⟩
         refine wc_fit hF ?_
         clear hF
         rcases n394 with _ | n394
         · exact none_i h
         have h : fareboxlaw30_RotateBytes_b3 p1 k359 (fareboxlaw30_RotateBytes_l3 p1 k359 n394) l390 i392 = some r := h
         unfold fareboxlaw30_RotateBytes_b3 at h
         obtain ⟨k393, qk393⟩ : ∃ k, k = fareboxlaw30_RotateBytes_l3 p1 k359 n394 := ⟨_, rfl⟩
         try rw [← qk393] at h
         refine wc_seq <| wc_seq <| wc_ops <| wj_q _ (q_mv rfl) <| wj_q _ (q_mv rfl) <| wj_q _ (q_bin rfl rfl rfl) <| wj_nil <| wc_br h rfl (fun h => ?_) (fun h => ?_)
         ·refine wc_skip <| wc_seq <| wc_block <| cH h fun c398 h => bH h fun z399 ez399 h => bH h fun z400 ez400 h => cH h fun c401 h => bH h fun l402 el402 h => wc_ops <| wj_q _ (q_mv rfl) <| wj_q _ (q_mv rfl) <| wj_q _ (q_mv rfl) <| wj_q _ (q_mv rfl) <| wj_q _ (q_iasP rfl rfl (Shp.own O391) c398) <| wj_q _ (iz ez399 (q_ldM10 (E := (El.int .u8)) (s := [.one (.int .u8 (l390.getD (i392).toNat 0))]) rfl (rd_own O391 (.app (.app (.app .here)))) (inB_n c398) rfl rfl)) <| wj_q _ (iz ez400 (q_bin rfl rfl rfl)) <| wj_q _ (q_iasP rfl rfl (Shp.own O391) c401) <| wj_e (ef_stO (E := (El.int .u8)) el402 O391 (.app (.app (.app .here))) rfl rfl rfl (inB_n c401) fun ms403 O404 => wj_nil <| bH h fun z406 ez406 h => wc_ops <| wj_q _ (q_mv rfl) <| wj_q _ (iz ez406 (q_bin rfl rfl rfl)) <| wj_q _ (q_mv rfl) <| wj_nil ?_)
          rw [qk393] at h
          exact ⟨n394, Nat.lt_succ_self _, l402, z406, v388, ms403, h, O404, ⟨⟨rfl, rfl, rfl, rfl, rfl, rfl, trivial⟩, (.all (.app .here) (.all (.app .here) (.all (.app .here) (.all .here .nil))))⟩⟩
         ·exact wc_exit _ rfl <| ⟨l390, v388, ms389, h, O391, ⟨⟨rfl, rfl, rfl, rfl, rfl, trivial⟩, (.all .here (.all .here (.all .here (.all .here .nil))))⟩⟩
       ·rintro t m ⟨l357, v355, ms356, h, O358, hF⟩
        refine wc_fit hF ?_
        clear hF
        subst qk359
        refine wc_seq <| wc_seq <| oH h fun y408 ey408 h => cH h fun c409 h => wc_ops <| wj_q _ (q_mv rfl) <| wj_q _ (q_mv rfl) <| wj_q _ (q_call rfl (fun w hw => fareboxlaw30_sameLinks_spec ey408 ((rd_own O285 (.app (.app .here))) w hw) ((rd_own O292 (.app .here)) w hw))) <| wj_q _ (q_un rfl rfl) <| wj_q _ (q_mv rfl) <| wj_or rfl rfl rfl (fun hg1 => qj_g rfl _ (q_mv rfl) (qj_g rfl _ (q_mv rfl) (qj_g rfl _ (q_call rfl (fun w hw => fareboxlaw30_sameLinks_spec (getD_some (z := false) (imp_f c409 hg1)) ((rd_own O306 .here) w hw) ((rd_own O292 (.app .here)) w hw))) (qj_g rfl _ (q_un rfl rfl) (qj_nil))))) (fun hg1 => rfl) rfl <| wj_nil <| wc_br h rfl (fun h => ?_) (fun h => ?_)
        ·refine wc_seq <| wc_ops <| wj_q _ (q_mv rfl) <| wj_nil <| wc_ret ?_
         revert h; refine ret_i fun h => ?_
         subst h
         exact ⟨_, (.cons (.tmp rfl) .nil), rfl⟩
        ·refine wc_skip <| wc_seq <| wc_seq <| wc_ops <| wj_q _ (q_mv rfl) <| wj_nil <| jH h fun k458 qk458 h => wc_mono2 (G := fun t m => ∃ (l456 : List (api_Link)) (v454 : Value) (ms455 : List Chunk), k458 l456 = some r ∧ OwnSl E_api_Link v454 ms455 l456 ∧ Fit [(15, v355), (16, .int .i64 ((p1.length : Int))), (17, v454), (19, v290), (21, v304)] (ms305 ++ (ms291 ++ (ms356 ++ (ms455 ++ [])))) t m) ?_ ?_
         ·refine wc_block <| wc_loopJ (fun n489 t m => ∃ (l485 : List (api_Link)) (i487 : Int) (v483 : Value) (ms484 : List Chunk), fareboxlaw30_RotateBytes_l4 k458 n489 l485 i487 = some r ∧ OwnSl E_api_Link v483 ms484 l485 ∧ Fit [(15, v355), (16, .int .i64 ((p1.length : Int))), (17, v483), (19, v290), (21, v304), (24, .int .i64 (i487))] (ms305 ++ (ms291 ++ (ms356 ++ (ms484 ++ [])))) t m) big ?_ ?_
          ·exact ⟨y280.1, 0, v283, ms284, h, O285, ⟨⟨rfl, rfl, rfl, rfl, rfl, rfl, trivial⟩, (.all .here (.all .here (.all (.app .here) (.all .here .nil))))⟩⟩
          ·rintro n489 t m ⟨l485, i487, v483, ms484, h, O486, hF⟩
           refine wc_fit hF ?_
           clear hF
           rcases n489 with _ | n489
           · exact none_i h
           have h : fareboxlaw30_RotateBytes_b4 k458 (fareboxlaw30_RotateBytes_l4 k458 n489) l485 i487 = some r := h
           unfold fareboxlaw30_RotateBytes_b4 at h
           obtain ⟨k488, qk488⟩ : ∃ k, k = fareboxlaw30_RotateBytes_l4 k458 n489 := ⟨_, rfl⟩
           try rw [← qk488] at h
           refine wc_seq <| wc_seq <| wc_ops <| wj_q _ (q_mv rfl) <| wj_q _ (q_mv rfl) <| wj_q _ (q_lenP rfl (Shp.own O486)) <| wj_q _ (q_bin rfl rfl rfl) <| wj_nil <| wc_br h rfl (fun h => ?_) (fun h => ?_)
           ·refine wc_skip <| wc_seq <| wc_block <| cH h fun c493 h => bH h fun x494 ex494 h => bH h fun l495 el495 h => wc_ops <| wj_q _ (q_mv rfl) <| wj_q _ (q_mv rfl) <| wj_q _ (q_bd (q := [.one (.int .i64 ((-9))), .ints .u8 32 ((List.replicate 32 0)), .ints .u8 64 ((List.replicate 64 0))]) (.one rfl rfl rfl BdR.nil)) <| wj_q _ (q_iasP rfl rfl (Shp.own O486) c493) <| wj_e (ef_stO (E := E_api_Link) el495 O486 (.app (.app (.app .here))) rfl rfl rfl (inB_n c493) fun ms496 O497 => wj_nil <| bH h fun z499 ez499 h => wc_ops <| wj_q _ (q_mv rfl) <| wj_q _ (iz ez499 (q_bin rfl rfl rfl)) <| wj_q _ (q_mv rfl) <| wj_nil ?_)
            rw [qk488] at h
            exact ⟨n489, Nat.lt_succ_self _, l495, z499, v483, ms496, h, O497, ⟨⟨rfl, rfl, rfl, rfl, rfl, rfl, trivial⟩, (.all (.app .here) (.all (.app .here) (.all (.app .here) (.all .here .nil))))⟩⟩
           ·exact wc_exit _ rfl <| ⟨l485, v483, ms484, h, O486, ⟨⟨rfl, rfl, rfl, rfl, rfl, trivial⟩, (.all .here (.all .here (.all .here (.all .here .nil))))⟩⟩
         ·rintro t m ⟨l456, v454, ms455, h, O457, hF⟩
          refine wc_fit hF ?_
          clear hF
          subst qk458
          refine wc_seq <| wc_ops <| wj_q _ (q_mv rfl) <| wj_q _ (q_mv rfl) <| wj_nil <| wc_seq <| wc_seq <| wc_ops <| wj_q _ (q_mv rfl) <| wj_nil <| jH h fun k555 qk555 h => wc_mono2 (G := fun t m => ∃ (l553 : List (api_Link)) (v551 : Value) (ms552 : List Chunk), k555 l553 = some r ∧ GrownIn E_api_Link v454 l456 v551 l553 ms552 ∧ Fit [(15, v355), (16, .int .i64 ((p1.length : Int))), (17, v454), (19, v290), (21, v304), (25, v551)] (ms305 ++ (ms291 ++ (ms356 ++ (ms552 ++ [])))) t m) ?_ ?_
          ·refine wc_block <| wc_loopJ (fun n591 t m => ∃ (l587 : List (api_Link)) (i589 : Int) (v585 : Value) (ms586 : List Chunk), fareboxlaw30_RotateBytes_l5 k555 n591 l587 i589 = some r ∧ GrownIn E_api_Link v454 l456 v585 l587 ms586 ∧ Fit [(15, v355), (16, .int .i64 ((p1.length : Int))), (17, v454), (19, v290), (21, v304), (25, v585), (26, .int .i64 (i589))] (ms305 ++ (ms291 ++ (ms356 ++ (ms586 ++ [])))) t m) big ?_ ?_
           ·exact ⟨l456, 0, v454, ms455, h, (OwnIn.grow (OwnSl.oin O457)), ⟨⟨rfl, rfl, rfl, rfl, rfl, rfl, rfl, trivial⟩, (.all .here (.all .here (.all .here (.all .here .nil))))⟩⟩
           ·rintro n591 t m ⟨l587, i589, v585, ms586, h, G588, hF⟩
            refine wc_fit hF ?_
            clear hF
            rcases n591 with _ | n591
            · exact none_i h
            have h : fareboxlaw30_RotateBytes_b5 k555 (fareboxlaw30_RotateBytes_l5 k555 n591) l587 i589 = some r := h
            unfold fareboxlaw30_RotateBytes_b5 at h
            obtain ⟨k590, qk590⟩ : ∃ k, k = fareboxlaw30_RotateBytes_l5 k555 n591 := ⟨_, rfl⟩
            try rw [← qk590] at h
            refine wc_seq <| wc_seq <| wc_ops <| wj_q _ (q_mv rfl) <| wj_q _ (q_bin rfl rfl rfl) <| wj_nil <| wc_br h rfl (fun h => ?_) (fun h => ?_)
            ·refine wc_skip <| wc_seq <| wc_block <| cH h fun c598 h => bH h fun l599 el599 h => wc_ops <| wj_q _ (q_mv rfl) <| wj_q _ (q_bd (q := [.one (.int .i64 ((-10))), .ints .u8 32 ((List.replicate 32 0)), .ints .u8 64 ((List.replicate 64 0))]) (.one rfl rfl rfl BdR.nil)) <| wj_e (ef_bsO (E := E_api_Link) (xs := [(⟨(-10), (List.replicate 32 0), (List.replicate 64 0)⟩ : api_Link)]) (.agg rfl rfl rfl BdR.nil) (.cons (p := [.one (.int .i64 ((-10))), .ints .u8 32 ((List.replicate 32 0)), .ints .u8 64 ((List.replicate 64 0))]) rfl .nil) rfl fun v595 ms596 O597 => wj_e (ef_appGI (E := E_api_Link) el599 rfl G588 (.app (.app (.app (.app .here)))) rfl (rd_own O597 .here) c598 fun v600 ms601 O602 => wj_q _ (q_mv rfl) <| wj_nil <| bH h fun z604 ez604 h => wc_ops <| wj_q _ (q_mv rfl) <| wj_q _ (iz ez604 (q_bin rfl rfl rfl)) <| wj_q _ (q_mv rfl) <| wj_nil ?_))
             rw [qk590] at h
             exact ⟨n591, Nat.lt_succ_self _, l599, z604, v600, ms601, h, O602, ⟨⟨rfl, rfl, rfl, rfl, rfl, rfl, rfl, trivial⟩, (.all (.app (.app .here)) (.all (.app (.app .here)) (.all (.app (.app .here)) (.all .here .nil))))⟩⟩
            ·exact wc_exit _ rfl <| ⟨l587, v585, ms586, h, G588, ⟨⟨rfl, rfl, rfl, rfl, rfl, rfl, trivial⟩, (.all .here (.all .here (.all .here (.all .here .nil))))⟩⟩
          ·rintro t m ⟨l553, v551, ms552, h, G554, hF⟩
           refine wc_fit hF ?_
           clear hF
           subst qk555
           refine wc_seq <| wc_ops <| wj_q _ (q_mv rfl) <| wj_nil <| wc_seq <| cH h fun c607 h => cH h fun c608 h => bH h fun l609 el609 h => wc_ops <| wj_q _ (q_mv rfl) <| wj_q _ (q_mv rfl) <| wj_q _ (q_mv rfl) <| wj_q _ (q_slsP (lz := 0) (hz := (p1.length : Int)) rfl (Shp.own O358) .no (.yes rfl) c607) <| wj_e (ef_appO (E := (El.int .u8)) el609 rfl own_nil .here rfl (rd_pre (rd_own O358 (.app (.app .here))) c607) c608 fun v610 ms611 O612 => wj_q _ (q_mv rfl) <| wj_nil <| wc_seq <| cH h fun c614 h => oH h fun y615 ey615 h => wc_ops <| wj_q _ (q_mv rfl) <| wj_q _ (q_mv rfl) <| wj_q _ (q_slsP (lz := 0) (hz := (p1.length : Int)) rfl (Shp.own O358) .no (.yes rfl) c614) <| wj_e (ef_callS0 rfl (fun w hw => rotate_Decode_spec  ey615 ((rd_pre (rd_own O358 (.app (.app (.app .here)))) c614) w hw)) fun v616 Msv616 R617 => ?_))
           obtain ⟨v618, ms619, rfl, rfl, O620⟩ := R617
           refine wj_q _ (q_mv rfl) <| wj_q _ (q_ext rfl rfl) <| wj_q _ (q_ext rfl rfl) <| wj_q _ (q_mv rfl) <| wj_q _ (q_mv rfl) <| wj_nil <| wc_seq <| oH h fun y622 ey622 h => wc_ops <| wj_q _ (q_mv rfl) <| wj_e (ef_callS0 rfl (fun w hw => fareboxref30_Decode_spec  ey622 ((rd_own O612 (.app .here)) w hw)) fun v623 Msv623 R624 => ?_)
           obtain ⟨v625, ms626, rfl, rfl, O627⟩ := R624
           refine wj_q _ (q_mv rfl) <| wj_q _ (q_ext rfl rfl) <| wj_q _ (q_ext rfl rfl) <| wj_q _ (q_mv rfl) <| wj_q _ (q_mv rfl) <| wj_nil <| wc_seq <| jH h fun k647 qk647 h => wc_mono2 (G := fun t m => ∃ (i646 : Bool), k647 i646 = some r ∧ Fit [(4, .bool (i646))] [] t m) ?_ ?_
           ·refine wc_ops <| oH h fun y649 ey649 h => cH h fun c650 h => cH h fun c651 h => wj_q _ (q_mv rfl) <| wj_q _ (q_mv rfl) <| wj_q _ (q_call rfl (fun w hw => fareboxlaw30_sameLinks_spec ey649 ((rd_own O620 (.app .here)) w hw) ((rd_own O627 .here) w hw))) <| wj_q _ (q_mv rfl) <| wj_and rfl rfl rfl (fun hg1 => qj_g rfl _ (q_mv rfl) (qj_g rfl _ (q_mv rfl) (qj_g rfl _ (q_bin rfl rfl rfl) (qj_nil)))) (fun hg1 => rfl) rfl <| wj_q _ (q_mv rfl) <| wj_and rfl rfl rfl (fun hg1 => qj_g rfl _ (q_mv rfl) (qj_g rfl _ (q_lenP rfl (GrownIn.shp G554)) (qj_g rfl _ (q_mv rfl) (qj_g rfl _ (q_lenP rfl (Shp.own O292)) (qj_g rfl _ (iz rfl (q_bin rfl rfl rfl)) (qj_g rfl _ (q_bin rfl rfl rfl) (qj_nil))))))) (fun hg1 => rfl) rfl <| wj_q _ (q_mv rfl) <| wj_and rfl rfl rfl (fun hg1 => qj_g rfl _ (q_mv rfl) (qj_g rfl _ (q_mv rfl) (qj_g rfl _ (q_call rfl (fun w hw => fareboxlaw30_sameLinks_spec (getD_some (z := false) (imp_t c650 hg1)) ((rd_own O306 (.app (.app (.app .here)))) w hw) ((rd_own O292 (.app (.app (.app (.app .here))))) w hw))) (qj_nil)))) (fun hg1 => rfl) rfl <| wj_q _ (q_mv rfl) <| wj_and rfl rfl rfl (fun hg1 => qj_g rfl _ (q_mv rfl) (qj_g rfl _ (q_mv rfl) (qj_g rfl _ (q_slsP (lz := 0) (hz := (p1.length : Int)) rfl (Shp.own O358) .no (.yes rfl) (and_l (imp_t c651 hg1))) (qj_g rfl _ (q_mv rfl) (qj_g rfl _ (q_call rfl (fun w hw => fareboxlaw30_same_spec (getD_some (z := false) (and_r (imp_t c651 hg1))) ((rd_pre (rd_own O358 (.app (.app (.app (.app (.app .here)))))) (and_l (imp_t c651 hg1))) w hw) ((rd_own O612 (.app (.app .here))) w hw))) (qj_nil)))))) (fun hg1 => rfl) rfl <| wj_q _ (q_mv rfl) <| wj_br (tc := 243) h rfl (fun h => ?_) (fun h => ?_)
            ·refine oH h fun y652 ey652 h => wj_gq rfl _ (q_mv rfl) <| wj_gq rfl _ (q_mv rfl) <| wj_ge rfl (ef_callS (mS := ms552 ++ ms305) rfl (perm3 (.app (.app (.app (.app (.app (.app .here)))))) (.app (.app (.app .here)))) (fun w hw => fareboxlaw30_linkRooms_spec  ey652 (sat_own3 hw (perm3 (.app (.app (.app (.app (.app (.app .here)))))) (.app (.app (.app .here))))) (GrownIn.base G554) (OwnSl.oin O306)) fun v653 Msv653 R654 => ?_)
             obtain ⟨ms655, ms657, rfl, rfl, O656, O658⟩ := R654
             refine wj_q _ (pick_t rfl rfl) <| wj_q _ (q_mv rfl) <| wj_br (tc := 248) h rfl (fun h => ?_) (fun h => ?_)
             ·refine oH h fun y659 ey659 h => wj_gq rfl _ (q_mv rfl) <| wj_gq rfl _ (q_mv rfl) <| wj_ge rfl (ef_callS (mS := ms657 ++ ms619) rfl (perm3 (.app .here) (.app (.app .here))) (fun w hw => fareboxlaw30_linkRooms_spec  ey659 (sat_own3 hw (perm3 (.app .here) (.app (.app .here)))) O658 (OwnSl.oin O620)) fun v660 Msv660 R661 => ?_)
              obtain ⟨ms662, ms664, rfl, rfl, O663, O665⟩ := R661
              exact wj_q _ (pick_t rfl rfl) <| wj_q _ (q_mv rfl) <| wj_nil <| ⟨y659, h, ⟨⟨rfl, trivial⟩, .nil⟩⟩
             ·exact wj_gx rfl rfl <| wj_gx rfl rfl <| wj_gx rfl rfl <| wj_q _ (pick_f rfl rfl) <| wj_q _ (q_mv rfl) <| wj_nil <| ⟨false, h, ⟨⟨rfl, trivial⟩, .nil⟩⟩
            ·exact wj_gx rfl rfl <| wj_gx rfl rfl <| wj_gx rfl rfl <| wj_q _ (pick_f rfl rfl) <| wj_q _ (q_mv rfl) <| wj_gx rfl rfl <| wj_gx rfl rfl <| wj_gx rfl rfl <| wj_q _ (pick_f rfl rfl) <| wj_q _ (q_mv rfl) <| wj_nil <| ⟨false, h, ⟨⟨rfl, trivial⟩, .nil⟩⟩
           ·rintro t m ⟨i646, h, hF⟩
            refine wc_fit hF ?_
            clear hF
            subst qk647
            refine wc_ret ?_
            revert h; refine ret_i fun h => ?_
            subst h
            exact ⟨_, (.cons (.tmp rfl) .nil), rfl⟩
end Go.Proofs.Ytiflckckekjbnaa
/- Numbers: bits, digits, and what the words of a mirror come to. -/
namespace Go.Proofs.Ytiflckckekjbnaa
open Go Go.Sx Go.RowKit
set_option linter.all false

theorem wu64_eq (x : Int) : IntKind.u64.wrap x = x % 18446744073709551616 := by simp [IntKind.wrap, IntKind.bits, IntKind.signed]
theorem wu8_eq (x : Int) : IntKind.u8.wrap x = x % 256 := by simp [IntKind.wrap, IntKind.bits, IntKind.signed]
theorem wu64_small {x : Int} (h0 : 0 ≤ x) (h1 : x < 18446744073709551616) : IntKind.u64.wrap x = x := by rw [wu64_eq]; omega
theorem wi64_small {x : Int} (h0 : -9223372036854775808 ≤ x) (h1 : x ≤ 9223372036854775807) : IntKind.i64.wrap x = x := by rw [IntKind.wrap_i64]; omega
theorem bv64 (m : Nat) (h : m < 18446744073709551616) : (BitVec.ofInt 64 (m : Int)).toNat = m := by
  rw [BitVec.toNat_ofInt]; simp; omega
theorem bv8 (m : Nat) (h : m < 256) : (BitVec.ofInt 8 (m : Int)).toNat = m := by
  rw [BitVec.toNat_ofInt]; simp; omega
theorem or64 {x y : Int} (m n : Nat) (hx : x = m) (hy : y = n) (h1 : m < 18446744073709551616) (h2 : n < 18446744073709551616) : bitsV .or .u64 x y = ((m ||| n : Nat) : Int) := by
  subst hx; subst hy
  show IntKind.u64.wrap (((BitVec.ofInt 64 (m : Int) ||| BitVec.ofInt 64 (n : Int)).toNat : Nat) : Int) = _
  rw [BitVec.toNat_or, bv64 m h1, bv64 n h2, wu64_small (by omega)]
  have : m ||| n < 2 ^ 64 := Nat.or_lt_two_pow (by simpa using h1) (by simpa using h2)
  simp at this; omega
theorem shl_eq (k : IntKind) {x : Int} {n : Nat} (h : n ≤ k.bits) : shlV k x (n : Int) = k.wrap (x * ((2 ^ n : Nat) : Int)) := by
  simp only [shlV, Int.toNat_natCast, Nat.min_eq_left h]
  simp
/-! ## The mirror's words, evaluated -/
section
variable {α β : Type}
/- These two are not to be taken for equations by reduction: the kernel would unfold the loops behind them. -/
theorem bnd_eq (x : α) (f : α → Option β) : bnd x f = f x := by
  have h : ∀ y, y = bnd x f → y = f x := fun y e => e
  exact h _ rfl
theorem chk_t {c : Bool} {o : Option β} (h : c = true) : chk c o = o := by subst h; rfl
theorem opt_some {o : Option α} {f : α → Option β} {y : α} (h : o = some y) : opt o f = f y := by subst h; rfl
theorem br_tt {c : Bool} {a b : Option β} (h : c = true) : br c a b = a := by subst h; rfl
theorem br_ff {c : Bool} {a b : Option β} (h : c = false) : br c a b = b := by subst h; rfl
theorem jn_eq {K : Type} (k : K) (g : K → Option β) : jn k g = g k := by
  have h : ∀ y, y = jn k g → y = g k := fun y e => e
  exact h _ rfl
end
theorem big_succ : ∃ n, big = n + 1 := ⟨18446744073709551615, big_eq⟩
theorem inB_t {z : Int} {n : Nat} (h0 : 0 ≤ z) (h1 : z < n) : inB z n = true := by simp [inB, h0, h1]

end Go.Proofs.Ytiflckckekjbnaa
/- Encode of links: the program's and the document's are the same. -/
namespace Go.Proofs.Ytiflckckekjbnaa
open Go Go.Sx Go.RowKit
set_option linter.all false
set_option maxRecDepth 100000
set_option maxHeartbeats 1000000

theorem walk {α : Type} (F : Nat → Nat → Option α) {j : Nat} {R : Option α} (hj : j < 18446744073709551616) (hs : ∀ i f, i < j → F (f + 1) i = F f (i + 1)) (he : ∀ f, F (f + 1) j = R) : F big 0 = R := by
  have key : ∀ d i f, i + d = j → F (f + 1 + d) i = R := by
    intro d
    induction d with
    | zero => intro i f h; obtain rfl : i = j := by omega
              exact he f
    | succ d ih => intro i f h; rw [show f + 1 + (d + 1) = (f + 1 + d) + 1 by omega, hs i _ (by omega)]; exact ih (i + 1) f (by omega)
  obtain ⟨f, hf⟩ : ∃ f, big = f + 1 + j := ⟨18446744073709551615 - j, by have : big = 18446744073709551616 := big_eq; omega⟩
  rw [hf]; exact key j 0 f (by omega)
theorem fuel {j : Nat} (h : j < 18446744073709551616) : ∃ f, big = f + 1 + j := ⟨18446744073709551615 - j, by have : big = 18446744073709551616 := big_eq; omega⟩
theorem wsucc {i : Nat} (h : i < 9223372036854775807) : IntKind.wrap .i64 ((i : Int) + 1) = ((i + 1 : Nat) : Int) := by rw [wi64_small (by omega) (by omega)]; omega
theorem drop_get {α : Type} {z : α} {l : List α} {i : Nat} (h : i < l.length) : l.drop i = l.getD i z :: l.drop (i + 1) := by
  rw [List.drop_eq_getElem_cons h]
  congr 1
  simp [List.getD_eq_getElem?_getD, List.getElem?_eq_getElem h]
theorem take_get {α : Type} {z : α} {l : List α} {i : Nat} (h : i < l.length) : l.take (i + 1) = l.take i ++ [l.getD i z] := by
  rw [List.take_succ, List.getElem?_eq_getElem h]
  simp [List.getD_eq_getElem?_getD, List.getElem?_eq_getElem h]
theorem mid_get {α : Type} {z x : α} {t d : List α} {i : Nat} (h : i = t.length) : (t ++ x :: d).getD i z = x := by subst h; simp [List.getD_eq_getElem?_getD]
theorem mid_set {α : Type} {x y : α} {t d : List α} {i : Nat} (h : i = t.length) : (t ++ x :: d).set i y = t ++ y :: d := by subst h; simp
theorem rep_snoc {α : Type} (p : List α) (c : α) (i : Nat) : (p ++ List.replicate i c) ++ [c] = p ++ List.replicate (i + 1) c := by rw [List.append_assoc, ← List.replicate_succ']
theorem wu8_small {x : Int} (h0 : 0 ≤ x) (h1 : x < 256) : IntKind.wrap .u8 x = x := by rw [wu8_eq]; omega
/-! ## Encode -/
def one1b (l : api_Link) : List Int := tk l.gKey 0 32 ++ tk l.gSig 0 64
def flat (p : List api_Link) : List Int := (p.map one1b).flatten
theorem flat_snoc (p : List api_Link) (l : api_Link) : flat (p ++ [l]) = (flat p ++ tk l.gKey 0 32) ++ tk l.gSig 0 64 := by simp [flat, one1b]
theorem flat_len (p : List api_Link) : (flat p).length = 96 * p.length := by
  unfold flat
  induction p with
  | nil => rfl
  | cons l p ih =>
    rw [List.map_cons, List.flatten_cons, List.length_append, ih, List.length_cons]
    simp [one1b, tk_length]; omega
def headB : List Int := [70, 66, 1, 11]
/-- Do the epochs rise by one from i + 1 on? -/
def eps : List api_Link → Nat → Bool
  | [], _ => true
  | l :: r, i => (l.gEpoch == ((i + 1 : Nat) : Int)) && eps r (i + 1)
theorem eps_cons (l : api_Link) (r : List api_Link) (i : Nat) : eps (l :: r) i = ((l.gEpoch == ((i + 1 : Nat) : Int)) && eps r (i + 1)) := rfl
def encOf (p : List api_Link) : List Int × Int := if p.length > 64 then ([], 1) else if eps p 0 = true then ((headB ++ [(p.length : Int)]) ++ flat p, 0) else ([], 2)
theorem pepochs (p : List api_Link) (hp : p.length ≤ 64) (k : Unit → Option (List Int × Int)) : ∀ (d i f : Nat), i + d = p.length → rotate_Encode_l1 p k (f + 1 + d) (i : Int) = if eps (p.drop i) i = true then k () else some ([], 2)
  | 0, i, f, hi => by
    show rotate_Encode_b1 p k _ _ = _
    rw [rotate_Encode_b1, br_ff (decide_eq_false (by omega)), List.drop_of_length_le (by omega)]
    rfl
  | d + 1, i, f, hi => by
    have ih := pepochs p hp k d (i + 1) f (by omega)
    rw [show f + 1 + (d + 1) = (f + 1 + d) + 1 by omega]
    show rotate_Encode_b1 p k (rotate_Encode_l1 p k (f + 1 + d)) _ = _
    rw [rotate_Encode_b1, br_tt (decide_eq_true (by omega)), chk_t (inB_t (by omega) (by omega)), bnd_eq, Int.toNat_natCast, wsucc (by omega), bnd_eq, bnd_eq, drop_get (z := api_Link_z) (by omega), ih, eps_cons]
    by_cases h : (p.getD i api_Link_z).gEpoch = ((i + 1 : Nat) : Int)
    · rw [br_ff (by simp only [bne_eq_false_iff_eq]; exact h), beq_iff_eq.2 h, Bool.true_and]
    · rw [br_tt (by simp only [bne_iff_ne]; exact h), if_neg]
      simp only [Bool.and_eq_true, beq_iff_eq]
      exact fun h2 => h h2.1
theorem lay_ok {l x : List Int} (h : l.length + x.length ≤ 1000000) : wire_Writer_lay ⟨l, 0⟩ x = some ⟨l ++ x, 0⟩ := by
  rw [wire_Writer_lay, br_tt (by rfl)]
  dsimp only
  rw [chk_t (decide_eq_true (by omega)), bnd_eq]
theorem fixed_ok {l x : List Int} (h : l.length + x.length ≤ 1000000) : wire_Writer_Fixed ⟨l, 0⟩ x = some ⟨l ++ x, 0⟩ := by
  rw [wire_Writer_Fixed, opt_some (lay_ok h)]
theorem uint_ok {l : List Int} {n : Nat} (h : l.length ≤ 1000) (hn : n < 128) : wire_Writer_Uint ⟨l, 0⟩ (n : Int) = some ⟨l ++ [(n : Int)], 0⟩ := by
  obtain ⟨f, hf⟩ := big_succ
  rw [wire_Writer_Uint, jn_eq, hf, wire_Writer_Uint_l1, wire_Writer_Uint_b1, br_ff (decide_eq_false (by omega)), bnd_eq, wu8_small (by omega) (by omega), opt_some (lay_ok (by simp; omega))]
theorem penc1 {l : List Int} (x : api_Link) (h : l.length ≤ 100000) : rotate_Encode_1 ⟨l, 0⟩ x = some ⟨(l ++ tk x.gKey 0 32) ++ tk x.gSig 0 64, 0⟩ := by
  rw [rotate_Encode_1, opt_some (fixed_ok (by rw [tk_length]; omega)), opt_some (fixed_ok (by rw [List.length_append, tk_length, tk_length]; omega))]
theorem pputs (p : List api_Link) (hp : p.length ≤ 64) (b : List Int) (hb : b.length ≤ 100) : ∀ (d i f : Nat), i + d = p.length → wire_PutList_api_Link_l1 p (f + 1 + d) (i : Int) (b ++ flat (p.take i)) 0 = some ⟨b ++ flat p, 0⟩
  | 0, i, f, hi => by
    show wire_PutList_api_Link_b1 p _ _ _ _ = _
    rw [wire_PutList_api_Link_b1, br_ff (decide_eq_false (by omega)), List.take_of_length_le (by omega)]
  | d + 1, i, f, hi => by
    have ih := pputs p hp b hb d (i + 1) f (by omega)
    have hl : (b ++ flat (p.take i)).length ≤ 100000 := by rw [List.length_append, flat_len, List.length_take]; omega
    rw [show f + 1 + (d + 1) = (f + 1 + d) + 1 by omega]
    show wire_PutList_api_Link_b1 p (wire_PutList_api_Link_l1 p (f + 1 + d)) _ _ _ = _
    rw [wire_PutList_api_Link_b1, br_tt (decide_eq_true (by omega)), chk_t (inB_t (by omega) (by omega)), bnd_eq, br_ff (by rfl), Int.toNat_natCast, opt_some (penc1 _ hl), bnd_eq, wsucc (by omega)]
    dsimp only
    rw [← ih, take_get (z := api_Link_z) (by omega), flat_snoc]
    simp only [List.append_assoc]
theorem pencode (p : List api_Link) (hb : p.length ≤ 9223372036854775806) : rotate_Encode p = some (encOf p) := by
  rw [rotate_Encode]
  unfold encOf
  by_cases h : p.length > 64
  · rw [br_tt (decide_eq_true (by omega)), if_pos h]
  · rw [br_ff (decide_eq_false (by omega)), if_neg h, jn_eq]
    obtain ⟨f, hf⟩ := fuel (j := p.length) (by omega)
    have he := pepochs p (by omega) (fun (_ : Unit) => opt (wire_NewWriter ) fun y84 =>
      opt (wire_Head 11) fun y93 =>
      opt (wire_Writer_Fixed y84 y93) fun y99 =>
      opt (wire_PutList_api_Link y99 p 64) fun y106 =>
      opt (wire_Writer_Done y106) fun y113 =>
      some (y113.1, y113.2.1)) p.length 0 f (by omega)
    rw [hf]
    refine he.trans ?_
    rw [List.drop_zero]
    by_cases h2 : eps p 0 = true
    · rw [if_pos h2, if_pos h2, wire_NewWriter, opt_some rfl, opt_some (show wire_Head 11 = some headB from rfl)]
      have hl := flat_len p
      obtain ⟨f, hf⟩ := fuel (j := p.length) (by omega)
      have hw : IntKind.wrap .u64 (p.length : Int) = (p.length : Int) := wu64_small (by omega) (by omega)
      have hputs : wire_PutList_api_Link ⟨headB, 0⟩ p 64 = some ⟨(headB ++ [(p.length : Int)]) ++ flat p, 0⟩ := by
        rw [wire_PutList_api_Link, jn_eq, br_ff (decide_eq_false (by omega))]
        dsimp only
        rw [bnd_eq, hw, opt_some (uint_ok (by decide) (by omega)), hf]
        have := pputs p (by omega) (headB ++ [(p.length : Int)]) (by simp [headB]) p.length 0 f (by omega)
        rw [List.take_zero] at this
        have e : (headB ++ [(p.length : Int)]) ++ flat [] = headB ++ [(p.length : Int)] := by simp [flat]
        rw [e] at this
        exact this
      rw [opt_some (fixed_ok (by decide)), List.nil_append, opt_some hputs, wire_Writer_Done, br_ff (by rfl)]
      dsimp only
      rw [chk_t (by simp [headB, hl]; omega), bnd_eq, List.nil_append]
      rfl
    · rw [if_neg h2, if_neg h2]
theorem put_ok {l x : List Int} (h : l.length + x.length ≤ 1000000) : fareboxref09_Out_Put ⟨l, 0⟩ x = some ⟨l ++ x, 0⟩ := by
  rw [fareboxref09_Out_Put, br_tt (by rfl)]
  dsimp only
  rw [chk_t (by simp; omega), bnd_eq, chk_t (by simp; omega), bnd_eq, List.nil_append]
theorem ofixed_ok {l x : List Int} (h : l.length + x.length ≤ 1000000) : fareboxref09_Out_Fixed ⟨l, 0⟩ x = some ⟨l ++ x, 0⟩ := by
  rw [fareboxref09_Out_Fixed, opt_some (put_ok h)]
theorem ouint_ok {l : List Int} {n : Nat} (h : l.length ≤ 1000) (hn : n < 128) : fareboxref09_Out_Uint ⟨l, 0⟩ (n : Int) = some ⟨l ++ [(n : Int)], 0⟩ := by
  obtain ⟨f, hf⟩ := big_succ
  have hu : fareboxref09_Uint (n : Int) = some [(n : Int)] := by
    rw [fareboxref09_Uint, jn_eq, hf, fareboxref09_Uint_l1, fareboxref09_Uint_b1, br_ff (decide_eq_false (by omega)), bnd_eq, wu8_small (by omega) (by omega), chk_t (by simp), bnd_eq]
    rfl
  rw [fareboxref09_Out_Uint, opt_some hu, opt_some (put_ok (by simp; omega))]
theorem rputs (p : List api_Link) (hp : p.length ≤ 64) (b : List Int) (hb : b.length ≤ 100) (k : List Int → Int → Option (List Int × Int)) : ∀ (d i f : Nat), i + d = p.length → fareboxref30_Encode_l1 p k (f + 1 + d) (i : Int) (b ++ flat (p.take i)) 0 = if eps (p.drop i) i = true then k (b ++ flat p) 0 else some ([], 2)
  | 0, i, f, hi => by
    show fareboxref30_Encode_b1 p k _ _ _ _ = _
    rw [fareboxref30_Encode_b1, br_ff (decide_eq_false (by omega)), List.take_of_length_le (by omega), List.drop_of_length_le (by omega)]
    rfl
  | d + 1, i, f, hi => by
    have ih := rputs p hp b hb k d (i + 1) f (by omega)
    have hl : (b ++ flat (p.take i)).length ≤ 100000 := by rw [List.length_append, flat_len, List.length_take]; omega
    rw [show f + 1 + (d + 1) = (f + 1 + d) + 1 by omega]
    show fareboxref30_Encode_b1 p k (fareboxref30_Encode_l1 p k (f + 1 + d)) _ _ _ = _
    rw [fareboxref30_Encode_b1, br_tt (decide_eq_true (by omega)), chk_t (inB_t (by omega) (by omega)), bnd_eq, Int.toNat_natCast, wsucc (by omega), bnd_eq, drop_get (z := api_Link_z) (by omega), eps_cons]
    by_cases h : (p.getD i api_Link_z).gEpoch = ((i + 1 : Nat) : Int)
    · rw [br_ff (by simp only [bne_eq_false_iff_eq]; exact h), beq_iff_eq.2 h, Bool.true_and, chk_t (inB_t (by omega) (by omega)), bnd_eq, opt_some (ofixed_ok (by rw [tk_length]; omega)), chk_t (inB_t (by omega) (by omega)), bnd_eq, opt_some (ofixed_ok (by rw [List.length_append, tk_length, tk_length]; omega)), bnd_eq]
      dsimp only
      rw [← ih, take_get (z := api_Link_z) (by omega), flat_snoc]
      simp only [List.append_assoc]
    · rw [br_tt (by simp only [bne_iff_ne]; exact h), if_neg]
      simp only [Bool.and_eq_true, beq_iff_eq]
      exact fun h2 => h h2.1
theorem rencode (p : List api_Link) (hb : p.length ≤ 9223372036854775806) : fareboxref30_Encode p = some (encOf p) := by
  rw [fareboxref30_Encode]
  unfold encOf
  by_cases h : p.length > 64
  · rw [br_tt (decide_eq_true (by omega)), if_pos h]
  · have hw : IntKind.wrap .u64 (p.length : Int) = (p.length : Int) := wu64_small (by omega) (by omega)
    obtain ⟨f, hf⟩ := fuel (j := p.length) (by omega)
    have he := rputs p (by omega) (headB ++ [(p.length : Int)]) (by simp [headB]) (fun (l127 : List (Int)) (i129 : Int) => some (l127, 0)) p.length 0 f (by omega)
    rw [List.take_zero, List.drop_zero] at he
    have e : (headB ++ [(p.length : Int)]) ++ flat [] = headB ++ [(p.length : Int)] := by simp [flat]
    rw [e] at he
    rw [br_ff (decide_eq_false (by omega)), if_neg h, opt_some (show fareboxref09_Head 11 = some headB from rfl), opt_some (ofixed_ok (by decide)), List.nil_append, bnd_eq, hw, opt_some (ouint_ok (by decide) (by omega)), jn_eq, hf]
    refine he.trans ?_
    split <;> rfl
theorem encOf_len (p : List api_Link) : (encOf p).1.length ≤ 6200 := by
  unfold encOf
  split
  · decide
  · split
    · have := flat_len p
      simp [headB, this]; omega
    · decide
end Go.Proofs.Ytiflckckekjbnaa
/- Decode of bytes: the program's and the document's are the same. -/
namespace Go.Proofs.Ytiflckckekjbnaa
open Go Go.Sx Go.RowKit
set_option linter.all false
set_option maxRecDepth 100000
set_option maxHeartbeats 1000000

def Byt (e : List Int) : Prop := ∀ i, 0 ≤ e.getD i 0 ∧ e.getD i 0 < 256
theorem getD_drop {l : List Int} {q i : Nat} : (l.drop q).getD i 0 = l.getD (q + i) 0 := by simp [List.getD_eq_getElem?_getD, List.getElem?_drop]
theorem getD_take {l : List Int} {q i : Nat} (h : i < q) : (l.take q).getD i 0 = l.getD i 0 := by simp [List.getD_eq_getElem?_getD, List.getElem?_take, h]
theorem getD_end {l : List Int} {i : Nat} (h : l.length ≤ i) : l.getD i 0 = 0 := by simp [List.getD_eq_getElem?_getD, List.getElem?_eq_none h]
theorem Byt_drop {l : List Int} (h : Byt l) (q : Nat) : Byt (l.drop q) := fun i => by rw [getD_drop]; exact h _
theorem list4 {l : List Int} (h : l.length = 4) : l = [l.getD 0 0, l.getD 1 0, l.getD 2 0, l.getD 3 0] := by
  match l, h with
  | [a0, a1, a2, a3], _ => rfl
/-! ## Heads -/
def isHead (b : List Int) : Bool := !(decide (b.length < 4)) && (b.getD 0 0 == 70 && (b.getD 1 0 == 66 && (b.getD 2 0 == 1 && !(b.getD 3 0 == 0))))
def headOf (b : List Int) : Int × Int × Int := bif isHead b then (b.getD 3 0, 4, 0) else (0, 0, 90)
theorem rhead {b : List Int} (h : Byt b) : fareboxref09_ReadHead b = some (headOf b) := by
  have b3 := h 3
  rw [fareboxref09_ReadHead]
  unfold headOf isHead
  by_cases hl : b.length < 4
  · have e : decide ((b.length : Int) < 4) = true := decide_eq_true (by omega)
    rw [e, chk_t (by rfl), chk_t (by rfl), chk_t (by rfl), chk_t (by rfl), br_tt (by rfl), decide_eq_true hl]
    rfl
  · have e : decide ((b.length : Int) < 4) = false := decide_eq_false (by omega)
    have i0 : inB 0 b.length = true := inB_t (by omega) (by omega)
    have i1 : inB 1 b.length = true := inB_t (by omega) (by omega)
    have i2 : inB 2 b.length = true := inB_t (by omega) (by omega)
    have i3 : inB 3 b.length = true := inB_t (by omega) (by omega)
    rw [e, i0, i1, i2, i3, chk_t (by simp [imp]), chk_t (by simp [imp]), chk_t (by simp [imp]), chk_t (by simp [imp]), chk_t (by rfl), bnd_eq, bnd_eq, decide_eq_false hl]
    show br ((((false || (b.getD 0 0 != 70)) || (b.getD 1 0 != 66)) || (b.getD 2 0 != 1)) || (b.getD 3 0 == 0)) _ (some (IntKind.wrap .i64 (b.getD 3 0), 4, 0)) = _
    rw [wi64_small (by omega) (by omega)]
    simp only [bne]
    cases b.getD 0 0 == 70 <;> cases b.getD 1 0 == 66 <;> cases b.getD 2 0 == 1 <;> cases b.getD 3 0 == 0 <;> rfl
theorem equal4 (a0 a1 a2 a3 c0 c1 c2 c3 : Int) : bits_Equal [a0, a1, a2, a3] [c0, c1, c2, c3] = some (bitsV .or .u8 (bitsV .or .u8 (bitsV .or .u8 (bitsV .or .u8 0 (bitsV .xor .u8 a0 c0)) (bitsV .xor .u8 a1 c1)) (bitsV .xor .u8 a2 c2)) (bitsV .xor .u8 a3 c3) == 0) := by kernel_rfl
theorem or8 {x y : Int} (m n : Nat) (hx : x = m) (hy : y = n) (h1 : m < 256) (h2 : n < 256) : bitsV .or .u8 x y = ((m ||| n : Nat) : Int) := by
  subst hx; subst hy
  show IntKind.u8.wrap (((BitVec.ofInt 8 (m : Int) ||| BitVec.ofInt 8 (n : Int)).toNat : Nat) : Int) = _
  rw [BitVec.toNat_or, bv8 m h1, bv8 n h2]
  have : m ||| n < 2 ^ 8 := Nat.or_lt_two_pow (by simpa using h1) (by simpa using h2)
  rw [wu8_eq]
  simp at this; omega
theorem xor8n {x y : Int} (m n : Nat) (hx : x = m) (hy : y = n) (h1 : m < 256) (h2 : n < 256) : bitsV .xor .u8 x y = ((m ^^^ n : Nat) : Int) := by
  subst hx; subst hy
  show IntKind.u8.wrap (((BitVec.ofInt 8 (m : Int) ^^^ BitVec.ofInt 8 (n : Int)).toNat : Nat) : Int) = _
  rw [BitVec.toNat_xor, bv8 m h1, bv8 n h2]
  have : m ^^^ n < 2 ^ 8 := Nat.xor_lt_two_pow (by simpa using h1) (by simpa using h2)
  rw [wu8_eq]
  simp at this; omega
theorem or_zero {m n : Nat} : (m ||| n = 0) ↔ (m = 0 ∧ n = 0) := by
  constructor
  · intro h
    have h1 : m ≤ m ||| n := Nat.left_le_or
    have h2 : n ≤ m ||| n := Nat.right_le_or
    omega
  · rintro ⟨rfl, rfl⟩; rfl
theorem equal4b {a0 a1 a2 a3 c0 c1 c2 c3 : Int} (h0 : 0 ≤ a0 ∧ a0 < 256) (h1 : 0 ≤ a1 ∧ a1 < 256) (h2 : 0 ≤ a2 ∧ a2 < 256) (h3 : 0 ≤ a3 ∧ a3 < 256) (g0 : 0 ≤ c0 ∧ c0 < 256) (g1 : 0 ≤ c1 ∧ c1 < 256) (g2 : 0 ≤ c2 ∧ c2 < 256) (g3 : 0 ≤ c3 ∧ c3 < 256) :
    bits_Equal [a0, a1, a2, a3] [c0, c1, c2, c3] = some (a0 == c0 && (a1 == c1 && (a2 == c2 && a3 == c3))) := by
  have lx : ∀ x y : Nat, x < 256 → y < 256 → x ^^^ y < 256 := fun x y hx hy => by have := Nat.xor_lt_two_pow (n := 8) (x := x) (y := y) (by simpa using hx) (by simpa using hy); simpa using this
  have lo : ∀ x y : Nat, x < 256 → y < 256 → x ||| y < 256 := fun x y hx hy => by have := Nat.or_lt_two_pow (n := 8) (x := x) (y := y) (by simpa using hx) (by simpa using hy); simpa using this
  obtain ⟨m0, rfl⟩ : ∃ m : Nat, a0 = m := ⟨a0.toNat, by omega⟩
  obtain ⟨m1, rfl⟩ : ∃ m : Nat, a1 = m := ⟨a1.toNat, by omega⟩
  obtain ⟨m2, rfl⟩ : ∃ m : Nat, a2 = m := ⟨a2.toNat, by omega⟩
  obtain ⟨m3, rfl⟩ : ∃ m : Nat, a3 = m := ⟨a3.toNat, by omega⟩
  obtain ⟨n0, rfl⟩ : ∃ m : Nat, c0 = m := ⟨c0.toNat, by omega⟩
  obtain ⟨n1, rfl⟩ : ∃ m : Nat, c1 = m := ⟨c1.toNat, by omega⟩
  obtain ⟨n2, rfl⟩ : ∃ m : Nat, c2 = m := ⟨c2.toNat, by omega⟩
  obtain ⟨n3, rfl⟩ : ∃ m : Nat, c3 = m := ⟨c3.toNat, by omega⟩
  have x0 := lx m0 n0 (by omega) (by omega)
  have x1 := lx m1 n1 (by omega) (by omega)
  have x2 := lx m2 n2 (by omega) (by omega)
  have x3 := lx m3 n3 (by omega) (by omega)
  have o1 := lo _ _ x0 x1
  have o2 := lo _ _ o1 x2
  rw [equal4, xor8n m0 n0 rfl rfl (by omega) (by omega), xor8n m1 n1 rfl rfl (by omega) (by omega), xor8n m2 n2 rfl rfl (by omega) (by omega), xor8n m3 n3 rfl rfl (by omega) (by omega),
    or8 (x := 0) 0 (m0 ^^^ n0) rfl rfl (by decide) x0, Nat.zero_or, or8 _ _ rfl rfl x0 x1, or8 _ _ rfl rfl o1 x2, or8 _ _ rfl rfl o2 x3]
  congr 1
  have xz : ∀ x y : Nat, x ^^^ y = 0 ↔ x = y := fun x y => ⟨fun h => by rw [← Nat.xor_zero x, ← h, ← Nat.xor_assoc, Nat.xor_self, Nat.zero_xor], fun h => by rw [h, Nat.xor_self]⟩
  rw [Bool.eq_iff_iff]
  simp only [beq_iff_eq, Bool.and_eq_true]
  rw [show (((m0 ^^^ n0 ||| m1 ^^^ n1 ||| m2 ^^^ n2 ||| m3 ^^^ n3 : Nat) : Int) = 0) ↔ ((m0 ^^^ n0 ||| m1 ^^^ n1 ||| m2 ^^^ n2 ||| m3 ^^^ n3) = 0) by omega, or_zero, or_zero, or_zero, xz, xz, xz, xz]
  omega
theorem phead {b : List Int} (h : Byt b) : wire_ReadHead b = some (headOf b) := by
  have b0 := h 0
  have b1 := h 1
  have b2 := h 2
  have b3 := h 3
  rw [wire_ReadHead, jn_eq]
  unfold headOf isHead
  by_cases hl : b.length < 4
  · have e : decide ((b.length : Int) < 4) = true := decide_eq_true (by omega)
    rw [e, chk_t (by rfl), br_tt (by rfl), decide_eq_true hl]
    rfl
  · have e : decide ((b.length : Int) < 4) = false := decide_eq_false (by omega)
    have i3 : inB 3 b.length = true := inB_t (by omega) (by omega)
    rw [e, i3, chk_t (by rfl), decide_eq_false hl]
    by_cases h3 : b.getD 3 0 = 0
    · have e3 : (b.getD 3 0 == 0) = true := by simpa using h3
      have e3' : (b.getD (3 : Int).toNat 0 == 0) = true := e3
      rw [br_tt (by rw [e3']; rfl), e3]
      dsimp only
      rw [br_tt (by rfl)]
      simp
    · have e3 : (b.getD 3 0 == 0) = false := by simpa using h3
      have e3' : (b.getD (3 : Int).toNat 0 == 0) = false := e3
      have hw : IntKind.wrap .i64 (b.getD (3 : Int).toNat 0) = b.getD 3 0 := wi64_small (by show _ ≤ b.getD 3 0; omega) (by show b.getD 3 0 ≤ _; omega)
      have hh : wire_Head (b.getD 3 0) = some [70, 66, 1, b.getD 3 0] := by
        rw [wire_Head, br_ff (by rw [decide_eq_false (by omega), decide_eq_false (by omega)]; rfl), bnd_eq, wu8_small (by omega) (by omega)]
      have l4 : ((b.drop 0).take (4 - 0)).length = 4 := by simp; omega
      have hq : (b.drop 0).take (4 - 0) = [b.getD 0 0, b.getD 1 0, b.getD 2 0, b.getD 3 0] := by
        have := list4 l4
        rw [this, List.drop_zero, getD_take (by decide), getD_take (by decide), getD_take (by decide), getD_take (by decide)]
      rw [br_ff (by rw [e3']; rfl), chk_t (by simp [cutB]; omega), chk_t (by rfl), bnd_eq, bnd_eq, hw, opt_some hh, hq, opt_some (equal4b b0 b1 b2 b3 (by decide) (by decide) (by decide) b3), e3, beq_self_eq_true, Bool.and_true, chk_t (by rfl), bnd_eq, bnd_eq, hw]
      cases b.getD 0 0 == 70 <;> cases b.getD 1 0 == 66 <;> cases b.getD 2 0 == 1 <;> rfl
end Go.Proofs.Ytiflckckekjbnaa
/- Reads that may give up. -/
namespace Go.Proofs.Ytiflckckekjbnaa
open Go Go.Sx Go.RowKit
set_option linter.all false
set_option maxRecDepth 100000
set_option maxHeartbeats 1000000

/-! ## Reading -/
theorem take_ok {c : List Int} {at_ n : Nat} (h : at_ + n ≤ c.length) (hc : c.length ≤ 1000000) : wire_Reader_take ⟨c, (at_ : Int), 0⟩ (n : Int) = some (.inr ((c.drop at_).take n, ⟨c, ((at_ + n : Nat) : Int), 0⟩)) := by
  have w1 : IntKind.wrap .i64 ((c.length : Int) - (at_ : Int)) = (c.length : Int) - (at_ : Int) := wi64_small (by omega) (by omega)
  have w2 : IntKind.wrap .i64 ((at_ : Int) + (n : Int)) = ((at_ + n : Nat) : Int) := by rw [wi64_small (by omega) (by omega)]; omega
  have w3 : IntKind.wrap .i64 (((at_ + n : Nat) : Int) - (n : Int)) = (at_ : Int) := by rw [wi64_small (by omega) (by omega)]; omega
  rw [wire_Reader_take]
  dsimp only
  rw [w1, br_ff (by simp; omega), w2, bnd_eq, w3, bnd_eq, chk_t (by simp [cutB]; omega), Int.toNat_natCast, Int.toNat_natCast, show at_ + n - at_ = n by omega, chk_t (by simp; omega), bnd_eq, List.nil_append]
theorem take_no {c : List Int} {at_ n : Nat} (h : c.length < at_ + n) (ha : at_ ≤ c.length) (hc : c.length ≤ 1000000) (hn : n ≤ 1000000) : wire_Reader_take ⟨c, (at_ : Int), 0⟩ (n : Int) = some (.inl (90, ⟨c, (at_ : Int), 0⟩)) := by
  have w1 : IntKind.wrap .i64 ((c.length : Int) - (at_ : Int)) = (c.length : Int) - (at_ : Int) := wi64_small (by omega) (by omega)
  rw [wire_Reader_take]
  dsimp only
  rw [w1, br_tt (by simp; omega)]
theorem get1 {c : List Int} {at_ : Nat} (h : at_ + 1 ≤ c.length) : (c.drop at_).take 1 = [c.getD at_ 0] := by
  rw [drop_get (z := 0) (by omega)]
  rfl
theorem and127 {x : Int} (h : 0 ≤ x ∧ x < 256) : bitsV .and .u8 x 127 = x % 128 := by
  have h2 : ∀ n : Fin 256, bitsV .and .u8 (n.val : Int) 127 = (n.val : Int) % 128 := by decide +kernel
  have := h2 ⟨x.toNat, by omega⟩
  have e : ((x.toNat : Nat) : Int) = x := by omega
  simp only [e] at this
  exact this
theorem or_ge {x y : Int} (hx : 0 ≤ x ∧ x < 18446744073709551616) (hy : 0 ≤ y ∧ y < 18446744073709551616) : y ≤ bitsV .or .u64 x y ∧ bitsV .or .u64 x y < 18446744073709551616 := by
  rw [or64 x.toNat y.toNat (by omega) (by omega) (by omega) (by omega)]
  have h1 : y.toNat ≤ x.toNat ||| y.toNat := Nat.right_le_or
  have h2 : x.toNat ||| y.toNat < 2 ^ 64 := Nat.or_lt_two_pow (by simp; omega) (by simp; omega)
  simp at h2
  omega
/-- A number of more than one byte is too great, or none at all. -/
theorem short_long {c : List Int} (hb : Byt c) (hc : c.length ≤ 1000000) : ∀ (d j f : Nat) (x : Int), j + d = 9 → 1 ≤ j → j ≤ c.length → (0 ≤ x ∧ x < 18446744073709551616) →
    (∃ q, wire_Reader_short_l1 (f + 1 + d) x ((7 * j : Nat) : Int) c (j : Int) 0 = some (.inl (90, q)) ∧ q.gbytes = c) ∨ (∃ y q, wire_Reader_short_l1 (f + 1 + d) x ((7 * j : Nat) : Int) c (j : Int) 0 = some (.inr (y, q)) ∧ 128 ≤ y ∧ y < 18446744073709551616 ∧ q.gbytes = c) := by
  intro d
  induction d with
  | zero =>
    intro j f x hj h1 hl hx
    obtain rfl : j = 9 := by omega
    show (∃ q, wire_Reader_short_b1 (wire_Reader_short_l1 f) x _ c _ 0 = _ ∧ _) ∨ (∃ y q, wire_Reader_short_b1 (wire_Reader_short_l1 f) x _ c _ 0 = _ ∧ _)
    unfold wire_Reader_short_b1
    by_cases h2 : 9 + 1 ≤ c.length
    · have hz := hb 9
      have ht := take_ok (c := c) (at_ := 9) (n := 1) h2 hc
      have ht' : wire_Reader_take ⟨c, ((9 : Nat) : Int), 0⟩ 1 = _ := ht
      rw [ht', get1 h2]
      simp only [opp]
      rw [chk_t (by rfl), bnd_eq]
      show (∃ q, br ((((7 * 9 : Nat) : Int) == 63 && decide (c.getD 9 0 > 1)) || (decide (((7 * 9 : Nat) : Int) > 0) && (c.getD 9 0 == 0))) _ _ = _ ∧ _) ∨ (∃ y q, br ((((7 * 9 : Nat) : Int) == 63 && decide (c.getD 9 0 > 1)) || (decide (((7 * 9 : Nat) : Int) > 0) && (c.getD 9 0 == 0))) _ _ = _ ∧ _)
      by_cases h3 : c.getD 9 0 = 1
      · right
        rw [h3, br_ff (by decide)]
        have hx2 := or_ge hx (y := 9223372036854775808) (by decide)
        have a1 : bitsV .and .u8 (([1] : List Int).getD (0 : Int).toNat 0) 127 = 1 := by decide
        have a2 : IntKind.wrap .u64 1 = 1 := by decide
        have a3 : shlV .u64 1 ((7 * 9 : Nat) : Int) = 9223372036854775808 := by decide
        refine ⟨bitsV .or .u64 x 9223372036854775808, ⟨c, ((9 + 1 : Nat) : Int), 0⟩, ?_, by omega, hx2.2, rfl⟩
        rw [a1, bnd_eq, a2, bnd_eq, chk_t (by decide), a3, bnd_eq, bnd_eq, br_tt (by decide)]
      · left
        rw [br_tt (by
          by_cases h4 : c.getD 9 0 = 0
          · rw [h4]; decide
          · have : c.getD 9 0 > 1 := by omega
            rw [decide_eq_true this, show (((7 * 9 : Nat) : Int) == 63) = true by decide]; rfl)]
        exact ⟨_, rfl, rfl⟩
    · left
      have ht := take_no (c := c) (at_ := 9) (n := 1) (by omega) (by omega) hc (by decide)
      have ht' : wire_Reader_take ⟨c, ((9 : Nat) : Int), 0⟩ 1 = _ := ht
      rw [ht']
      exact ⟨_, rfl, rfl⟩
  | succ d ih =>
    intro j f x hj h1 hl hx
    rw [show f + 1 + (d + 1) = (f + 1 + d) + 1 by omega]
    show (∃ q, wire_Reader_short_b1 (wire_Reader_short_l1 (f + 1 + d)) x _ c _ 0 = _ ∧ _) ∨ (∃ y q, wire_Reader_short_b1 (wire_Reader_short_l1 (f + 1 + d)) x _ c _ 0 = _ ∧ _)
    unfold wire_Reader_short_b1
    by_cases h2 : j + 1 ≤ c.length
    · have hz := hb j
      have ht' : wire_Reader_take ⟨c, (j : Int), 0⟩ 1 = _ := take_ok (c := c) (at_ := j) (n := 1) h2 hc
      rw [ht', get1 h2]
      simp only [opp]
      rw [chk_t (by rfl), bnd_eq]
      show (∃ q, br ((((7 * j : Nat) : Int) == 63 && decide (c.getD j 0 > 1)) || (decide (((7 * j : Nat) : Int) > 0) && (c.getD j 0 == 0))) _ _ = _ ∧ _) ∨ (∃ y q, br ((((7 * j : Nat) : Int) == 63 && decide (c.getD j 0 > 1)) || (decide (((7 * j : Nat) : Int) > 0) && (c.getD j 0 == 0))) _ _ = _ ∧ _)
      have e63 : (((7 * j : Nat) : Int) == 63) = false := by simp; omega
      have e0 : decide (((7 * j : Nat) : Int) > 0) = true := decide_eq_true (by omega)
      rw [e63, e0, Bool.false_and, Bool.false_or, Bool.true_and]
      by_cases h3 : c.getD j 0 = 0
      · left
        rw [br_tt (by simpa using h3)]
        exact ⟨_, rfl, rfl⟩
      · have hs : shlV .u64 (c.getD j 0 % 128) ((7 * j : Nat) : Int) = c.getD j 0 % 128 * ((2 ^ (7 * j) : Nat) : Int) := by
          have hp : (2 : Nat) ^ (7 * j) ≤ 2 ^ 56 := Nat.pow_le_pow_right (by decide) (by omega)
          rw [shl_eq .u64 (by show 7 * j ≤ 64; omega)]
          have hp2 : ((2 ^ (7 * j) : Nat) : Int) ≤ 72057594037927936 := by
            have : (2 : Nat) ^ 56 = 72057594037927936 := by decide
            omega
          have hp3 : (0 : Int) ≤ ((2 ^ (7 * j) : Nat) : Int) := Int.natCast_nonneg _
          refine wu64_small (Int.mul_nonneg (by omega) hp3) ?_
          have h4 : c.getD j 0 % 128 * ((2 ^ (7 * j) : Nat) : Int) ≤ 127 * ((2 ^ (7 * j) : Nat) : Int) := Int.mul_le_mul_of_nonneg_right (by omega) hp3
          omega
        have hq : 0 ≤ c.getD j 0 % 128 * ((2 ^ (7 * j) : Nat) : Int) ∧ c.getD j 0 % 128 * ((2 ^ (7 * j) : Nat) : Int) < 18446744073709551616 := by
          have hp : (2 : Nat) ^ (7 * j) ≤ 2 ^ 56 := Nat.pow_le_pow_right (by decide) (by omega)
          have hp2 : ((2 ^ (7 * j) : Nat) : Int) ≤ 72057594037927936 := by
            have : (2 : Nat) ^ 56 = 72057594037927936 := by decide
            omega
          have hp3 : (0 : Int) ≤ ((2 ^ (7 * j) : Nat) : Int) := Int.natCast_nonneg _
          have h4 : c.getD j 0 % 128 * ((2 ^ (7 * j) : Nat) : Int) ≤ 127 * ((2 ^ (7 * j) : Nat) : Int) := Int.mul_le_mul_of_nonneg_right (by omega) hp3
          exact ⟨Int.mul_nonneg (by omega) hp3, by omega⟩
        have hx2 := or_ge hx hq
        have hx0 : 0 ≤ bitsV .or .u64 x (c.getD j 0 % 128 * ((2 ^ (7 * j) : Nat) : Int)) := by omega
        rw [br_ff (by simpa using h3), bnd_eq, show bitsV .and .u8 (([c.getD j 0] : List Int).getD (0 : Int).toNat 0) 127 = c.getD j 0 % 128 from and127 hz, wu64_small (by omega) (by omega), bnd_eq, chk_t (decide_eq_true (by omega)), hs, bnd_eq, bnd_eq]
        show (∃ q, br (decide (c.getD j 0 < 128)) _ _ = _ ∧ _) ∨ (∃ y q, br (decide (c.getD j 0 < 128)) _ _ = _ ∧ _)
        by_cases h5 : c.getD j 0 < 128
        · right
          rw [br_tt (decide_eq_true h5)]
          refine ⟨_, _, rfl, ?_, hx2.2, rfl⟩
          have h6 : c.getD j 0 % 128 = c.getD j 0 := by omega
          rw [h6] at hx2 ⊢
          have hp : (2 : Nat) ^ 7 ≤ 2 ^ (7 * j) := Nat.pow_le_pow_right (by decide) (by omega)
          have hp2 : (128 : Int) ≤ ((2 ^ (7 * j) : Nat) : Int) := by
            have : (2 : Nat) ^ 7 = 128 := by decide
            omega
          have h7 : 1 * ((2 ^ (7 * j) : Nat) : Int) ≤ c.getD j 0 * ((2 ^ (7 * j) : Nat) : Int) := Int.mul_le_mul_of_nonneg_right (by omega) (by omega)
          omega
        · rw [br_ff (decide_eq_false h5)]
          have w : IntKind.wrap .i64 (((7 * j : Nat) : Int) + 7) = ((7 * (j + 1) : Nat) : Int) := by rw [wi64_small (by omega) (by omega)]; omega
          rw [w, bnd_eq]
          exact ih (j + 1) f _ (by omega) (by omega) h2 ⟨hx0, hx2.2⟩
    · left
      have ht' : wire_Reader_take ⟨c, (j : Int), 0⟩ 1 = _ := take_no (c := c) (at_ := j) (n := 1) (by omega) hl hc (by decide)
      rw [ht']
      exact ⟨_, rfl, rfl⟩
/-- The number at the head: its value if it is at most 64. -/
theorem count_one {c : List Int} (hb : Byt c) (hc : c.length ≤ 1000000) (h0 : 1 ≤ c.length) (h1 : c.getD 0 0 ≤ 64) : wire_Reader_count ⟨c, 0, 0⟩ 64 = some (.inr (c.getD 0 0, ⟨c, 1, 0⟩)) := by
  have hz := hb 0
  obtain ⟨f, hf⟩ := big_succ
  have ht : wire_Reader_take ⟨c, 0, 0⟩ 1 = some (.inr ((c.drop 0).take 1, ⟨c, 1, 0⟩)) := take_ok (c := c) (at_ := 0) (n := 1) h0 hc
  have hs : wire_Reader_short ⟨c, 0, 0⟩ = some (.inr (c.getD 0 0, ⟨c, 1, 0⟩)) := by
    rw [wire_Reader_short]
    dsimp only
    rw [hf, wire_Reader_short_l1, wire_Reader_short_b1, ht, get1 h0]
    simp only [opp]
    rw [chk_t (by rfl), bnd_eq, br_ff (by rfl), bnd_eq, show bitsV .and .u8 (([c.getD 0 0] : List Int).getD (0 : Int).toNat 0) 127 = c.getD 0 0 % 128 from and127 hz, wu64_small (by omega) (by omega), bnd_eq, chk_t (by decide)]
    have e1 : shlV .u64 (c.getD 0 0 % 128) 0 = c.getD 0 0 := by
      have := shl_eq .u64 (x := c.getD 0 0 % 128) (n := 0) (by decide)
      rw [show ((2 ^ 0 : Nat) : Int) = 1 from rfl, Int.mul_one, wu64_small (by omega) (by omega)] at this
      exact this.trans (by omega)
    have e2 : bitsV .or .u64 0 (c.getD 0 0) = c.getD 0 0 := by
      rw [or64 (x := 0) 0 (c.getD 0 0).toNat rfl (by omega) (by decide) (by omega), Nat.zero_or]; omega
    rw [e1, bnd_eq, e2, bnd_eq]
    show br (decide (c.getD 0 0 < 128)) _ _ = _
    rw [br_tt (decide_eq_true (by omega))]
  have w : IntKind.wrap .u64 64 = 64 := by decide
  rw [wire_Reader_count, hs]
  simp only [opp]
  rw [w, br_ff (by rw [decide_eq_false (by decide), decide_eq_false (by omega)]; rfl), bnd_eq, wi64_small (by omega) (by omega)]
theorem count_no {c : List Int} (hb : Byt c) (hc : c.length ≤ 1000000) (h : c.length < 1 ∨ 64 < c.getD 0 0) : ∃ e q, wire_Reader_count ⟨c, 0, 0⟩ 64 = some (.inl (e, q)) ∧ (e = 90 ∨ e = 1) ∧ q.gbytes = c := by
  have w : IntKind.wrap .u64 64 = 64 := by decide
  have key : (∃ q, wire_Reader_short ⟨c, 0, 0⟩ = some (.inl (90, q)) ∧ q.gbytes = c) ∨ (∃ y q, wire_Reader_short ⟨c, 0, 0⟩ = some (.inr (y, q)) ∧ 64 < y ∧ y < 18446744073709551616 ∧ q.gbytes = c) := by
    by_cases h0 : c.length < 1
    · left
      obtain ⟨f, hf⟩ := big_succ
      have ht : wire_Reader_take ⟨c, 0, 0⟩ 1 = some (.inl (90, ⟨c, 0, 0⟩)) := take_no (c := c) (at_ := 0) (n := 1) (by omega) (by omega) hc (by decide)
      refine ⟨⟨c, 0, 0⟩, ?_, rfl⟩
      rw [wire_Reader_short]
      dsimp only
      rw [hf, wire_Reader_short_l1, wire_Reader_short_b1, ht]
      rfl
    · have h1 : 64 < c.getD 0 0 := by omega
      have hz := hb 0
      obtain ⟨f, hf⟩ : ∃ f, big = f + 1 + 8 + 1 := ⟨18446744073709551606, by have : big = 18446744073709551616 := big_eq; omega⟩
      have ht : wire_Reader_take ⟨c, 0, 0⟩ 1 = some (.inr ((c.drop 0).take 1, ⟨c, ((1 : Nat) : Int), 0⟩)) := take_ok (c := c) (at_ := 0) (n := 1) (by omega) hc
      have e1 : shlV .u64 (c.getD 0 0 % 128) 0 = c.getD 0 0 % 128 := by
        have := shl_eq .u64 (x := c.getD 0 0 % 128) (n := 0) (by decide)
        rw [show ((2 ^ 0 : Nat) : Int) = 1 from rfl, Int.mul_one, wu64_small (by omega) (by omega)] at this
        exact this
      have e2 : bitsV .or .u64 0 (c.getD 0 0 % 128) = c.getD 0 0 % 128 := by
        rw [or64 (x := 0) 0 (c.getD 0 0 % 128).toNat rfl (by omega) (by decide) (by omega), Nat.zero_or]; omega
      have e3 : IntKind.wrap .i64 (0 + 7) = ((7 * 1 : Nat) : Int) := by decide
      obtain ⟨F, hF⟩ : ∃ F, F = f + 1 + 8 := ⟨_, rfl⟩
      have hf2 : big = F + 1 := by rw [hF]; exact hf
      have hs : wire_Reader_short ⟨c, 0, 0⟩ = br (decide (c.getD 0 0 < 128)) (some (.inr (c.getD 0 0 % 128, ⟨c, ((1 : Nat) : Int), 0⟩))) (wire_Reader_short_l1 F (c.getD 0 0 % 128) ((7 * 1 : Nat) : Int) c ((1 : Nat) : Int) 0) := by
        clear hF hf
        rw [wire_Reader_short]
        dsimp only
        rw [hf2, wire_Reader_short_l1, wire_Reader_short_b1, ht, get1 (by omega)]
        simp only [opp]
        rw [chk_t (by rfl), bnd_eq, br_ff (by rfl), bnd_eq, show bitsV .and .u8 (([c.getD 0 0] : List Int).getD (0 : Int).toNat 0) 127 = c.getD 0 0 % 128 from and127 hz, wu64_small (by omega) (by omega), bnd_eq, chk_t (by decide), e1, bnd_eq, e2, bnd_eq, e3, bnd_eq]
        rfl
      rw [hs, hF]
      clear hs hf2 hF hf
      by_cases h5 : c.getD 0 0 < 128
      · right
        rw [br_tt (decide_eq_true h5)]
        exact ⟨_, _, rfl, by omega, by omega, rfl⟩
      · rw [br_ff (decide_eq_false h5)]
        rcases short_long hb hc 8 1 f (c.getD 0 0 % 128) (by omega) (by omega) (by omega) (by omega) with ⟨q, h1, h2⟩ | ⟨y, q, h1, h2, h3, h4⟩
        · exact .inl ⟨q, h1, h2⟩
        · exact .inr ⟨y, q, h1, by omega, h3, h4⟩
  rcases key with ⟨q, h1, h2⟩ | ⟨y, q, h1, h2, h3, h4⟩
  · refine ⟨90, q, ?_, .inl rfl, h2⟩
    rw [wire_Reader_count, h1]
    rfl
  · refine ⟨1, q, ?_, .inr rfl, h4⟩
    rw [wire_Reader_count, h1]
    simp only [opp]
    rw [w, br_tt (by simp; omega)]
end Go.Proofs.Ytiflckckekjbnaa
/- Decode of bytes: the program's and the document's are the same. -/
namespace Go.Proofs.Ytiflckckekjbnaa
open Go Go.Sx Go.RowKit
set_option linter.all false
set_option maxRecDepth 100000
set_option maxHeartbeats 1000000

theorem fixed_yes {c : List Int} {at_ n : Nat} (h : at_ + n ≤ c.length) (hc : c.length ≤ 1000000) : wire_Reader_Fixed ⟨c, (at_ : Int), 0⟩ (n : Int) = some ((c.drop at_).take n, ⟨c, ((at_ + n : Nat) : Int), 0⟩) := by
  have h1 : wire_Reader_Fixed_1 ⟨c, (at_ : Int), 0⟩ (n : Int) = some (.inr ((c.drop at_).take n, ⟨c, ((at_ + n : Nat) : Int), 0⟩)) := by
    rw [wire_Reader_Fixed_1, take_ok h hc]; rfl
  rw [wire_Reader_Fixed, wire_caught, h1]; rfl
theorem fixed_no {c : List Int} {at_ n : Nat} (h : c.length < at_ + n) (ha : at_ ≤ c.length) (hc : c.length ≤ 1000000) (hn : n ≤ 1000000) : wire_Reader_Fixed ⟨c, (at_ : Int), 0⟩ (n : Int) = some ([], ⟨c, (at_ : Int), 90⟩) := by
  have h1 : wire_Reader_Fixed_1 ⟨c, (at_ : Int), 0⟩ (n : Int) = some (.inl (90, ⟨c, (at_ : Int), 0⟩)) := by
    rw [wire_Reader_Fixed_1, take_no h ha hc hn]; rfl
  rw [wire_Reader_Fixed, wire_caught, h1]; rfl
theorem fixed_bad (c : List Int) (a n : Int) : wire_Reader_Fixed ⟨c, a, 90⟩ n = some ([], ⟨c, a, 90⟩) := by
  rw [wire_Reader_Fixed, wire_caught, br_tt (by rfl)]; rfl
theorem wr_full {x : List Int} {n : Nat} (h : x.length = n) : wr (List.replicate n 0) 0 (x.take n) = x := by
  unfold wr
  rw [List.take_of_length_le (by omega), show tk (List.replicate n 0) 0 0 = [] from rfl, List.nil_append, List.drop_of_length_le (by simp; omega), List.append_nil]
theorem get_yes {c : List Int} {at_ : Nat} (h : at_ + 96 ≤ c.length) (hc : c.length ≤ 1000000) : rotate_Decode_1 ⟨c, (at_ : Int), 0⟩ = some (⟨0, (c.drop at_).take 32, (c.drop (at_ + 32)).take 64⟩, ⟨c, ((at_ + 96 : Nat) : Int), 0⟩) := by
  have h1 : wire_Reader_Fixed ⟨c, (at_ : Int), 0⟩ 32 = some ((c.drop at_).take 32, ⟨c, ((at_ + 32 : Nat) : Int), 0⟩) := fixed_yes (n := 32) (by omega) hc
  have h2 : wire_Reader_Fixed ⟨c, ((at_ + 32 : Nat) : Int), 0⟩ 64 = some ((c.drop (at_ + 32)).take 64, ⟨c, ((at_ + 32 + 64 : Nat) : Int), 0⟩) := fixed_yes (n := 64) (by omega) hc
  rw [rotate_Decode_1, opt_some h1, wr_full (by simp; omega), bnd_eq, opt_some h2, wr_full (by simp; omega), bnd_eq]
theorem get_no {c : List Int} {at_ : Nat} (h : c.length < at_ + 96) (ha : at_ ≤ c.length) (hc : c.length ≤ 1000000) : ∃ x z, rotate_Decode_1 ⟨c, (at_ : Int), 0⟩ = some (x, ⟨c, z, 90⟩) := by
  by_cases h1 : at_ + 32 ≤ c.length
  · have e1 : wire_Reader_Fixed ⟨c, (at_ : Int), 0⟩ 32 = some ((c.drop at_).take 32, ⟨c, ((at_ + 32 : Nat) : Int), 0⟩) := fixed_yes (n := 32) h1 hc
    have e2 : wire_Reader_Fixed ⟨c, ((at_ + 32 : Nat) : Int), 0⟩ 64 = some ([], ⟨c, ((at_ + 32 : Nat) : Int), 90⟩) := fixed_no (n := 64) (by omega) h1 hc (by decide)
    refine ⟨⟨0, wr (List.replicate 32 0) 0 (((c.drop at_).take 32).take 32), wr (List.replicate 64 0) 0 (([] : List Int).take 64)⟩, ((at_ + 32 : Nat) : Int), ?_⟩
    rw [rotate_Decode_1, opt_some e1, bnd_eq, opt_some e2, bnd_eq]
  · have e1 : wire_Reader_Fixed ⟨c, (at_ : Int), 0⟩ 32 = some ([], ⟨c, (at_ : Int), 90⟩) := fixed_no (n := 32) (by omega) ha hc (by decide)
    refine ⟨⟨0, wr (List.replicate 32 0) 0 (([] : List Int).take 32), wr (List.replicate 64 0) 0 (([] : List Int).take 64)⟩, (at_ : Int), ?_⟩
    rw [rotate_Decode_1, opt_some e1, bnd_eq, opt_some (fixed_bad _ _ _), bnd_eq]
def lk0 (c : List Int) (i : Nat) : api_Link := ⟨0, (c.drop (1 + 96 * i)).take 32, (c.drop (1 + 96 * i + 32)).take 64⟩
theorem list_loop {c : List Int} (hc : c.length ≤ 1000000) (n : Nat) (hn : n ≤ 64) (w : wire_Reader) (k : List api_Link → List Int → Int → Int → Option (List api_Link × wire_Reader)) : ∀ (d i f : Nat), i + d = n → 1 + 96 * i ≤ c.length →
    (1 + 96 * n ≤ c.length ∧ wire_GetList_api_Link_l1 ((n : Int), w) k (f + 1 + d) ((List.range i).map (lk0 c)) (i : Int) c ((1 + 96 * i : Nat) : Int) 0 = k ((List.range n).map (lk0 c)) c ((1 + 96 * n : Nat) : Int) 0) ∨
    (c.length < 1 + 96 * n ∧ ∃ z, wire_GetList_api_Link_l1 ((n : Int), w) k (f + 1 + d) ((List.range i).map (lk0 c)) (i : Int) c ((1 + 96 * i : Nat) : Int) 0 = some ([], ⟨c, z, 90⟩))
  | 0, i, f, hi, hl => by
    obtain rfl : i = n := by omega
    refine .inl ⟨hl, ?_⟩
    show wire_GetList_api_Link_b1 _ k _ _ _ _ _ _ = _
    rw [wire_GetList_api_Link_b1, br_ff (decide_eq_false (by omega))]
  | d + 1, i, f, hi, hl => by
    rw [show f + 1 + (d + 1) = (f + 1 + d) + 1 by omega]
    by_cases h : 1 + 96 * i + 96 ≤ c.length
    · have ih := list_loop hc n hn w k d (i + 1) f (by omega) (by omega)
      have e : wire_GetList_api_Link_l1 ((n : Int), w) k ((f + 1 + d) + 1) ((List.range i).map (lk0 c)) (i : Int) c ((1 + 96 * i : Nat) : Int) 0 = wire_GetList_api_Link_l1 ((n : Int), w) k (f + 1 + d) ((List.range (i + 1)).map (lk0 c)) ((i + 1 : Nat) : Int) c ((1 + 96 * (i + 1) : Nat) : Int) 0 := by
        show wire_GetList_api_Link_b1 _ k (wire_GetList_api_Link_l1 _ k (f + 1 + d)) _ _ _ _ _ = _
        rw [wire_GetList_api_Link_b1, br_tt (decide_eq_true (by omega)), opt_some (get_yes h hc), br_ff (by rfl)]
        dsimp only
        rw [chk_t (decide_eq_true (by simp; omega)), bnd_eq, wsucc (by omega), bnd_eq, List.range_succ, List.map_append, show 1 + 96 * (i + 1) = 1 + 96 * i + 96 by omega]
        rfl
      rw [e]
      exact ih
    · obtain ⟨x, z, hx⟩ := get_no (c := c) (at_ := 1 + 96 * i) (by omega) hl hc
      refine .inr ⟨by omega, z, ?_⟩
      show wire_GetList_api_Link_b1 _ k (wire_GetList_api_Link_l1 _ k (f + 1 + d)) _ _ _ _ _ = _
      rw [wire_GetList_api_Link_b1, br_tt (decide_eq_true (by omega)), opt_some hx, br_tt (by rfl)]
theorem list_zero (w : wire_Reader) : wire_GetList_api_Link_l1 (0, w) (fun (l110 : List (api_Link)) (l114 : List (Int)) (i116 : Int) (i117 : Int) => some (l110, (⟨l114, i116, i117⟩ : wire_Reader))) big [] 0 w.gbytes w.gat w.gfault = some ([], w) := by
  obtain ⟨f, hf⟩ := big_succ
  rw [hf, wire_GetList_api_Link_l1, wire_GetList_api_Link_b1, br_ff (by rfl)]
def goodC (c : List Int) : Prop := 1 ≤ c.length ∧ c.getD 0 0 ≤ 64 ∧ c.length = 1 + 96 * (c.getD 0 0).toNat
theorem getlist {c : List Int} (hb : Byt c) (hc : c.length ≤ 1000000) :
    (1 ≤ c.length ∧ c.getD 0 0 ≤ 64 ∧ 1 + 96 * (c.getD 0 0).toNat ≤ c.length ∧ wire_GetList_api_Link ⟨c, 0, 0⟩ 64 = some ((List.range (c.getD 0 0).toNat).map (lk0 c), ⟨c, ((1 + 96 * (c.getD 0 0).toNat : Nat) : Int), 0⟩)) ∨
    (¬ goodC c ∧ ∃ l z e, wire_GetList_api_Link ⟨c, 0, 0⟩ 64 = some (l, ⟨c, z, e⟩) ∧ e ≠ 0) := by
  have hz := hb 0
  by_cases h1 : c.length < 1 ∨ 64 < c.getD 0 0
  · obtain ⟨e, q, h2, h3, h4⟩ := count_no hb hc h1
    refine .inr ⟨fun g => by unfold goodC at g; omega, [], 0, e, ?_, by omega⟩
    have h5 : wire_caught 0 ⟨c, 0, 0⟩ (wire_GetList_api_Link_1 ⟨c, 0, 0⟩ 64) = some (0, ⟨c, 0, e⟩) := by
      rw [wire_GetList_api_Link_1, h2, wire_caught, br_ff (by rfl)]
      show some ((0 : Int), (⟨q.gbytes, 0, e⟩ : wire_Reader)) = _
      rw [h4]
    rw [wire_GetList_api_Link, opt_some h5, jn_eq]
    exact list_zero ⟨c, 0, e⟩
  · have hl : 1 ≤ c.length := by omega
    have h64 : c.getD 0 0 ≤ 64 := by omega
    obtain ⟨n, hn⟩ : ∃ n : Nat, c.getD 0 0 = n := ⟨(c.getD 0 0).toNat, by omega⟩
    have hcount := count_one hb hc hl h64
    have hleft : wire_Reader_Left ⟨c, 1, 0⟩ = some ((c.length : Int) - 1, ⟨c, 1, 0⟩) := by
      rw [wire_Reader_Left]
      dsimp only
      rw [wi64_small (by omega) (by omega), bnd_eq]
    by_cases h2 : c.getD 0 0 > (c.length : Int) - 1
    · refine .inr ⟨fun g => by unfold goodC at g; omega, [], 0, 90, ?_, by decide⟩
      have h5 : wire_caught 0 ⟨c, 0, 0⟩ (wire_GetList_api_Link_1 ⟨c, 0, 0⟩ 64) = some (0, ⟨c, 0, 90⟩) := by
        rw [wire_GetList_api_Link_1, hcount]
        simp only [opp]
        rw [opt_some hleft, br_tt (decide_eq_true h2), wire_caught, br_ff (by rfl)]
        rfl
      rw [wire_GetList_api_Link, opt_some h5, jn_eq]
      exact list_zero ⟨c, 0, 90⟩
    · have h5 : wire_caught 0 ⟨c, 0, 0⟩ (wire_GetList_api_Link_1 ⟨c, 0, 0⟩ 64) = some (c.getD 0 0, ⟨c, 1, 0⟩) := by
        rw [wire_GetList_api_Link_1, hcount]
        simp only [opp]
        rw [opt_some hleft, br_ff (decide_eq_false h2), wire_caught, br_ff (by rfl)]
        rfl
      obtain ⟨f, hf⟩ := fuel (j := n) (by omega)
      have key := list_loop hc n (by omega) ⟨c, 1, 0⟩ (fun (l110 : List (api_Link)) (l114 : List (Int)) (i116 : Int) (i117 : Int) => some (l110, (⟨l114, i116, i117⟩ : wire_Reader))) n 0 f (by omega) (by omega)
      have e0 : wire_GetList_api_Link ⟨c, 0, 0⟩ 64 = wire_GetList_api_Link_l1 ((n : Int), ⟨c, 1, 0⟩) (fun (l110 : List (api_Link)) (l114 : List (Int)) (i116 : Int) (i117 : Int) => some (l110, (⟨l114, i116, i117⟩ : wire_Reader))) (f + 1 + n) ((List.range 0).map (lk0 c)) ((0 : Nat) : Int) c ((1 + 96 * 0 : Nat) : Int) 0 := by
        rw [wire_GetList_api_Link, opt_some h5, jn_eq, hn, hf]
        rfl
      rw [e0, hn, Int.toNat_natCast]
      rcases key with ⟨k1, k2⟩ | ⟨k1, z, k2⟩
      · exact .inl ⟨hl, by omega, k1, k2⟩
      · refine .inr ⟨fun g => by unfold goodC at g; rw [hn, Int.toNat_natCast] at g; omega, [], z, 90, k2, by decide⟩
theorem done_bad (c : List Int) (z e : Int) (h : e ≠ 0) : wire_Reader_Done ⟨c, z, e⟩ = some (e, ⟨c, z, e⟩) := by
  rw [wire_Reader_Done, jn_eq, br_ff (by simpa using h)]
  dsimp only
  rw [br_ff (by rfl)]
theorem done_ok {c : List Int} {z : Nat} (hz : z ≤ c.length) (hc : c.length ≤ 1000000) : wire_Reader_Done ⟨c, (z : Int), 0⟩ = some ((if z = c.length then 0 else 90), ⟨c, (z : Int), 0⟩) := by
  have hleft : wire_Reader_Left ⟨c, (z : Int), 0⟩ = some ((c.length : Int) - (z : Int), ⟨c, (z : Int), 0⟩) := by
    rw [wire_Reader_Left]
    dsimp only
    rw [wi64_small (by omega) (by omega), bnd_eq]
  rw [wire_Reader_Done, jn_eq, br_tt (by rfl), opt_some hleft]
  dsimp only
  by_cases h : z = c.length
  · rw [br_ff (decide_eq_false (by omega)), if_pos h]
  · rw [br_tt (decide_eq_true (by omega)), if_neg h]
/-! ## Epochs -/
def lkE (b : List Int) (i : Nat) : api_Link := ⟨((i + 1 : Nat) : Int), (b.drop (5 + 96 * i)).take 32, (b.drop (5 + 96 * i + 32)).take 64⟩
def mixed (b : List Int) (n i : Nat) : List api_Link := (List.range n).map fun j => if j < i then lkE b j else lk0 (b.drop 4) j
theorem mixed_len (b : List Int) (n i : Nat) : (mixed b n i).length = n := by simp [mixed]
theorem mixed_get (b : List Int) {n i j : Nat} (h : j < n) : (mixed b n i).getD j api_Link_z = if j < i then lkE b j else lk0 (b.drop 4) j := by
  unfold mixed
  simp [List.getD_eq_getElem?_getD, h]
theorem mixed_elem (b : List Int) {n i j : Nat} (h : j < (mixed b n i).length) : (mixed b n i)[j] = if j < i then lkE b j else lk0 (b.drop 4) j := by simp [mixed]
theorem epochs (b : List Int) (n : Nat) (hn : n ≤ 64) (y : List api_Link × wire_Reader) (hy : y.1.length = n) (k : List api_Link → Option (List api_Link × Int)) : rotate_Decode_l1 y k big (mixed b n 0) 0 = k (mixed b n n) :=
  walk (fun f i => rotate_Decode_l1 y k f (mixed b n i) (i : Int)) (j := n) (by omega)
    (fun i f hi => by
      show rotate_Decode_b1 y k (rotate_Decode_l1 y k f) _ _ = _
      have hs : setG api_Link_z (mixed b n i) i ⟨((i + 1 : Nat) : Int), ((mixed b n i).getD i api_Link_z).gKey, ((mixed b n i).getD i api_Link_z).gSig⟩ = mixed b n (i + 1) := by
        rw [setG_eq (by rw [mixed_len]; exact hi), mixed_get b hi, if_neg (by omega)]
        apply List.ext_getElem
        · rw [List.length_set, mixed_len, mixed_len]
        · intro j h1 h2
          rw [mixed_len] at h2
          rw [List.getElem_set, mixed_elem, mixed_elem]
          by_cases e : i = j
          · subst e
            rw [if_pos rfl, if_pos (by omega)]
            unfold lkE lk0
            simp only [List.drop_drop]
            rw [show 4 + (1 + 96 * i) = 5 + 96 * i by omega, show 4 + (1 + 96 * i + 32) = 5 + 96 * i + 32 by omega]
          · rw [if_neg e]
            by_cases h3 : j < i
            · rw [if_pos h3, if_pos (by omega)]
            · rw [if_neg h3, if_neg (by omega)]
      rw [rotate_Decode_b1, br_tt (decide_eq_true (by omega)), wsucc (by omega), bnd_eq, chk_t (inB_t (by omega) (by rw [mixed_len]; omega)), bnd_eq, Int.toNat_natCast, hs, bnd_eq, bnd_eq])
    (fun f => by
      show rotate_Decode_b1 y k _ _ _ = _
      rw [rotate_Decode_b1, br_ff (decide_eq_false (by omega))])
def linksOf (b : List Int) (n : Nat) : List api_Link := (List.range n).map (lkE b)
theorem mixed_all (b : List Int) (n : Nat) : mixed b n n = linksOf b n := by
  unfold mixed linksOf
  apply List.map_congr_left
  intro j hj
  rw [if_pos (by simpa using hj)]
theorem mixed_none (b : List Int) (n : Nat) : mixed b n 0 = (List.range n).map (lk0 (b.drop 4)) := by
  unfold mixed
  apply List.map_congr_left
  intro j hj
  rw [if_neg (by omega)]
open Classical in
noncomputable def decOf (b : List Int) : List api_Link × Int := if b.length > 6149 then ([], 1) else if (headOf b).2.2 ≠ 0 then ([], (headOf b).2.2) else if (headOf b).1 ≠ 11 then ([], 91) else if goodC (b.drop 4) then (linksOf b (b.getD 4 0).toNat, 0) else ([], 90)
theorem head_in {b : List Int} (h : (headOf b).2.2 = 0) : 4 ≤ b.length ∧ (headOf b).2.1 = 4 := by
  unfold headOf at *
  cases hh : isHead b
  · rw [hh] at h; simp at h
  · refine ⟨?_, by rfl⟩
    unfold isHead at hh
    by_cases hl : b.length < 4
    · rw [decide_eq_true hl] at hh; simp at hh
    · omega
theorem pdecode {b : List Int} (hb : Byt b) (hl : b.length ≤ 140737488355328) : rotate_Decode b = some (decOf b) := by
  rw [rotate_Decode]
  unfold decOf
  by_cases h0 : b.length > 6149
  · rw [br_tt (decide_eq_true (by omega)), if_pos h0]
  · rw [br_ff (decide_eq_false (by omega)), if_neg h0, opt_some (phead hb)]
    by_cases h1 : (headOf b).2.2 = 0
    · have hh := head_in h1
      rw [br_ff (by simp [h1]), if_neg (by simp [h1])]
      by_cases h2 : (headOf b).1 = 11
      · rw [br_ff (by simp [h2]), if_neg (by simp [h2]), hh.2, chk_t (by simp [cutB]; omega)]
        have ec : (b.drop (4 : Int).toNat).take (((b.length : Int)).toNat - (4 : Int).toNat) = b.drop 4 := by
          rw [Int.toNat_natCast]
          exact List.take_of_length_le (by rw [List.length_drop]; exact Nat.le_refl _)
        have hnew : wire_NewReader (b.drop 4) = some ⟨b.drop 4, 0, 0⟩ := by
          rw [wire_NewReader, chk_t (by simp; omega), bnd_eq, List.nil_append]
        have hlc : (b.drop 4).length ≤ 1000000 := by rw [List.length_drop]; omega
        have e4 : (b.drop 4).getD 0 0 = b.getD 4 0 := getD_drop
        rw [ec, opt_some hnew]
        rcases getlist (Byt_drop hb 4) hlc with ⟨g1, g2, g3, g4⟩ | ⟨g1, l, z, e, g2, g3⟩
        · rw [opt_some g4, opt_some (done_ok g3 hlc)]
          by_cases h5 : 1 + 96 * ((b.drop 4).getD 0 0).toNat = (b.drop 4).length
          · rw [if_pos h5, br_ff (by rfl), jn_eq, if_pos ⟨g1, g2, h5.symm⟩]
            dsimp only
            rw [← mixed_none, epochs b _ (by omega) _ (mixed_len _ _ _), mixed_all, e4]
          · rw [if_neg h5, br_tt (by rfl), if_neg (fun g => h5 g.2.2.symm)]
        · rw [opt_some g2, opt_some (done_bad _ _ _ g3), br_tt (by simpa using g3), if_neg g1]
      · rw [br_tt (by simpa using h2), if_pos (by simpa using h2)]
    · rw [br_tt (by simpa using h1), if_pos (by simpa using h1)]
/-! ## The document -/
theorem fillL {α : Type} (l : List Int) (n : Nat) (hn : n ≤ l.length) (i : Nat) (hi : i < n) : setD (l.take i ++ List.replicate (n - i) 0) i (l.getD i 0) = l.take (i + 1) ++ List.replicate (n - (i + 1)) 0 := by
  have e : n - i = (n - (i + 1)) + 1 := by omega
  have hl : (l.take i).length = i := by rw [List.length_take]; omega
  rw [setD_eq (by rw [List.length_append, hl, List.length_replicate]; omega), e, List.replicate_succ, mid_set hl.symm, take_get (z := 0) (by omega), List.append_assoc]
  rfl
theorem rlink {d : List Int} (h : 96 ≤ d.length) (hd : d.length ≤ 1000000) (e : Int) : fareboxref30_link d e = some ⟨e, d.take 32, (d.drop 32).take 64⟩ := by
  have h1 : ∀ k, fareboxref30_link_l1 d k big 0 (List.replicate 32 0) = k (d.take 32) := fun k => by
    have := walk (fun f i => fareboxref30_link_l1 d k f (i : Int) (d.take i ++ List.replicate (32 - i) 0)) (j := 32) (R := k (d.take 32)) (by decide)
      (fun i f hi => by
        show fareboxref30_link_b1 d k (fareboxref30_link_l1 d k f) _ _ = _
        rw [fareboxref30_link_b1, br_tt (decide_eq_true (by omega)), chk_t (inB_t (by omega) (by omega)), bnd_eq, chk_t (inB_t (by omega) (by omega)), wsucc (by omega), Int.toNat_natCast, fillL (α := Int) d 32 (by omega) i hi, bnd_eq, bnd_eq])
      (fun f => by
        show fareboxref30_link_b1 d k _ _ _ = _
        rw [fareboxref30_link_b1, br_ff (by decide), Nat.sub_self, List.replicate_zero, List.append_nil])
    exact this
  have h2 : ∀ k, fareboxref30_link_l2 d k big 0 (List.replicate 64 0) = k ((d.drop 32).take 64) := fun k => by
    have := walk (fun f i => fareboxref30_link_l2 d k f (i : Int) ((d.drop 32).take i ++ List.replicate (64 - i) 0)) (j := 64) (R := k ((d.drop 32).take 64)) (by decide)
      (fun i f hi => by
        have w : IntKind.wrap .i64 (32 + (i : Int)) = ((32 + i : Nat) : Int) := by rw [wi64_small (by omega) (by omega)]; omega
        show fareboxref30_link_b2 d k (fareboxref30_link_l2 d k f) _ _ = _
        rw [fareboxref30_link_b2, br_tt (decide_eq_true (by omega)), w, bnd_eq, chk_t (inB_t (by omega) (by omega)), bnd_eq, chk_t (inB_t (by omega) (by omega)), wsucc (by omega), Int.toNat_natCast, Int.toNat_natCast, ← getD_drop, fillL (α := Int) (d.drop 32) 64 (by rw [List.length_drop]; omega) i hi, bnd_eq, bnd_eq])
      (fun f => by
        show fareboxref30_link_b2 d k _ _ _ = _
        rw [fareboxref30_link_b2, br_ff (by decide), Nat.sub_self, List.replicate_zero, List.append_nil])
    exact this
  rw [fareboxref30_link, jn_eq, h1, jn_eq, h2]
theorem rloop {b : List Int} (hb : b.length ≤ 6149) {n : Nat} (h4 : b.getD 4 0 = n) (hl : b.length = 5 + 96 * n) (k : List api_Link → Option (List api_Link × Int)) : fareboxref30_Decode_l1 b k big [] 0 = k (linksOf b n) :=
  walk (fun f i => fareboxref30_Decode_l1 b k f (linksOf b i) (i : Int)) (j := n) (by omega)
    (fun i f hi => by
      have w1 : IntKind.wrap .i64 (96 * (i : Int)) = ((96 * i : Nat) : Int) := by rw [wi64_small (by omega) (by omega)]; omega
      have w2 : IntKind.wrap .i64 (5 + ((96 * i : Nat) : Int)) = ((5 + 96 * i : Nat) : Int) := by rw [wi64_small (by omega) (by omega)]; omega
      have w3 : IntKind.wrap .i64 (b.getD (4 : Int).toNat 0) = (n : Int) := by
        show IntKind.wrap .i64 (b.getD 4 0) = _
        rw [h4, wi64_small (by omega) (by omega)]
      have hr := rlink (d := b.drop (5 + 96 * i)) (by rw [List.length_drop]; omega) (by rw [List.length_drop]; omega) (((i + 1 : Nat) : Int))
      have ed : (b.drop (5 + 96 * i)).take (((b.length : Int)).toNat - (5 + 96 * i)) = b.drop (5 + 96 * i) := List.take_of_length_le (by rw [List.length_drop, Int.toNat_natCast]; exact Nat.le_refl _)
      show fareboxref30_Decode_b1 b k (fareboxref30_Decode_l1 b k f) _ _ = _
      rw [fareboxref30_Decode_b1, chk_t (inB_t (by omega) (by omega)), bnd_eq, w3, bnd_eq, br_tt (decide_eq_true (by omega)), w1, bnd_eq, w2, bnd_eq, chk_t (by simp [cutB]; omega), wsucc (by omega), bnd_eq]
      simp only [Int.toNat_natCast (5 + 96 * i)]
      rw [ed, opt_some hr, chk_t (by simp [linksOf]; omega), bnd_eq, bnd_eq]
      have e : linksOf b i ++ [(⟨((i + 1 : Nat) : Int), (b.drop (5 + 96 * i)).take 32, ((b.drop (5 + 96 * i)).drop 32).take 64⟩ : api_Link)] = linksOf b (i + 1) := by
        unfold linksOf
        rw [List.range_succ, List.map_append, List.drop_drop]
        rfl
      rw [e])
    (fun f => by
      have w3 : IntKind.wrap .i64 (b.getD (4 : Int).toNat 0) = (n : Int) := by
        show IntKind.wrap .i64 (b.getD 4 0) = _
        rw [h4, wi64_small (by omega) (by omega)]
      show fareboxref30_Decode_b1 b k _ _ _ = _
      rw [fareboxref30_Decode_b1, chk_t (inB_t (by omega) (by omega)), bnd_eq, w3, bnd_eq, br_ff (decide_eq_false (by omega))])
theorem rdecode {b : List Int} (hb : Byt b) (hl : b.length ≤ 140737488355328) : fareboxref30_Decode b = some (decOf b) := by
  rw [fareboxref30_Decode]
  unfold decOf
  by_cases h0 : b.length > 6149
  · rw [br_tt (decide_eq_true (by omega)), if_pos h0]
  · rw [br_ff (decide_eq_false (by omega)), if_neg h0, opt_some (rhead hb)]
    by_cases h1 : (headOf b).2.2 = 0
    · have hh := head_in h1
      rw [br_ff (by simp [h1]), if_neg (by simp [h1])]
      by_cases h2 : (headOf b).1 = 11
      · rw [br_ff (by simp [h2]), if_neg (by simp [h2])]
        have hz := hb 4
        have e4 : (b.drop 4).getD 0 0 = b.getD 4 0 := getD_drop
        have eg : goodC (b.drop 4) ↔ (5 ≤ b.length ∧ b.getD 4 0 ≤ 64 ∧ b.length = 5 + 96 * (b.getD 4 0).toNat) := by
          unfold goodC
          rw [e4, List.length_drop]
          omega
        obtain ⟨n, hn⟩ : ∃ n : Nat, b.getD 4 0 = n := ⟨(b.getD 4 0).toNat, by omega⟩
        have hn' : b.getD (4 : Int).toNat 0 = (n : Int) := hn
        rw [hn'] 
        by_cases h3 : b.length < 5
        · rw [decide_eq_true (show (b.length : Int) < 5 by omega), chk_t (by rfl), chk_t (by rfl), br_tt (by rfl), if_neg (fun g => by have := (eg.1 g).1; omega)]
        · rw [decide_eq_false (show ¬ (b.length : Int) < 5 by omega), chk_t (by simp only [imp, Bool.not_false]; exact inB_t (by omega) (by omega))]
          by_cases h4 : (n : Int) > 64
          · rw [decide_eq_true h4, chk_t (by rfl), br_tt (by rfl), if_neg (fun g => by have := (eg.1 g).2.1; omega)]
          · have w1 : IntKind.wrap .i64 (n : Int) = (n : Int) := wi64_small (by omega) (by omega)
            have w2 : IntKind.wrap .i64 (96 * (n : Int)) = ((96 * n : Nat) : Int) := by rw [wi64_small (by omega) (by omega)]; omega
            have w3 : IntKind.wrap .i64 (5 + ((96 * n : Nat) : Int)) = ((5 + 96 * n : Nat) : Int) := by rw [wi64_small (by omega) (by omega)]; omega
            rw [decide_eq_false h4, chk_t (by simp only [imp, Bool.or_false, Bool.not_false, Bool.not_true, Bool.false_or]; exact inB_t (by omega) (by omega)), w1, w2, w3]
            by_cases h5 : b.length = 5 + 96 * n
            · rw [br_ff (by simp; omega), jn_eq, rloop (by omega) hn h5, if_pos (eg.2 ⟨by omega, by omega, by rw [hn, Int.toNat_natCast]; exact h5⟩), hn, Int.toNat_natCast]
            · rw [br_tt (by simp; omega), if_neg (fun g => by have := (eg.1 g).2.2; rw [hn, Int.toNat_natCast] at this; omega)]
      · rw [br_tt (by simpa using h2), if_pos (by simpa using h2)]
    · rw [br_tt (by simpa using h1), if_pos (by simpa using h1)]
theorem decOf_len (b : List Int) : (decOf b).1.length ≤ 64 := by
  unfold decOf
  split
  · exact Nat.zero_le _
  · split
    · exact Nat.zero_le _
    · split
      · exact Nat.zero_le _
      · split
        · rename_i g
          have e4 : (b.drop 4).getD 0 0 = b.getD 4 0 := getD_drop
          have := g.2.1
          rw [e4] at this
          show ((List.range (b.getD 4 0).toNat).map (lkE b)).length ≤ 64
          rw [List.length_map, List.length_range]; omega
        · exact Nat.zero_le _
end Go.Proofs.Ytiflckckekjbnaa
/- RotateBytes answers with true. -/
namespace Go.Proofs.Ytiflckckekjbnaa
open Go Go.Sx Go.RowKit
set_option linter.all false
set_option maxRecDepth 100000
set_option maxHeartbeats 1000000

theorem same_links {p : List api_Link} (hb : p.length ≤ 9223372036854775806) : fareboxlaw30_sameLinks p p = some true := by
  rw [fareboxlaw30_sameLinks, br_ff (by simp), jn_eq]
  exact walk (fun f i => fareboxlaw30_sameLinks_l1 p p (fun (_ : Unit) => some true) f (i : Int)) (j := p.length) (by omega)
    (fun i f hi => by
      show fareboxlaw30_sameLinks_b1 p p _ (fareboxlaw30_sameLinks_l1 p p _ f) _ = _
      rw [fareboxlaw30_sameLinks_b1, br_tt (decide_eq_true (by omega)), chk_t (inB_t (by omega) (by omega)), bnd_eq, chk_t (inB_t (by omega) (by omega)), bnd_eq, br_ff (by simp [ieq]), bnd_eq, wsucc (by omega)])
    (fun f => by
      show fareboxlaw30_sameLinks_b1 p p _ _ _ = _
      rw [fareboxlaw30_sameLinks_b1, br_ff (decide_eq_false (by omega))])
theorem same_bytes {p : List Int} (hb : p.length ≤ 9223372036854775806) : fareboxlaw30_same p p = some true := by
  rw [fareboxlaw30_same, br_ff (by simp), jn_eq]
  exact walk (fun f i => fareboxlaw30_same_l1 p p (fun (_ : Unit) => some true) f (i : Int)) (j := p.length) (by omega)
    (fun i f hi => by
      show fareboxlaw30_same_b1 p p _ (fareboxlaw30_same_l1 p p _ f) _ = _
      rw [fareboxlaw30_same_b1, br_tt (decide_eq_true (by omega)), chk_t (inB_t (by omega) (by omega)), chk_t (inB_t (by omega) (by omega)), bnd_eq, bnd_eq, br_ff (by simp), bnd_eq, wsucc (by omega)])
    (fun f => by
      show fareboxlaw30_same_b1 p p _ _ _ = _
      rw [fareboxlaw30_same_b1, br_ff (decide_eq_false (by omega))])
abbrev lkN (n : Int) : api_Link := ⟨n, List.replicate 32 0, List.replicate 64 0⟩
def mk7 : List api_Link := [lkN (-7), lkN (-8)]
theorem lmarked {a : List api_Link} (h : a.length * 104 + 208 ≤ 140737488355328) : fareboxlaw30_marked a = some (a ++ mk7, (a.length : Int)) := by
  rw [fareboxlaw30_marked, chk_t (by simp; omega), bnd_eq, chk_t (by simp; omega), bnd_eq, chk_t (by simp [cutB]; omega), List.nil_append]; rfl
theorem lleft {a : List api_Link} (h : a.length * 104 + 208 ≤ 140737488355328) : fareboxlaw30_left (a ++ mk7) (a.length : Int) a = some true := by
  have e2 : IntKind.wrap .i64 ((a.length : Int) + 2) = ((a.length + 2 : Nat) : Int) := by rw [wi64_small (by omega) (by omega)]; omega
  have l2 : (a ++ mk7).length = a.length + 2 := by simp [mk7]
  have g0 : (a ++ mk7).getD a.length api_Link_z = lkN (-7) := mid_get rfl
  have g1 : (a ++ mk7).getD (a.length + 1) api_Link_z = lkN (-8) := by
    show (a ++ (_ :: _)).getD _ _ = _
    rw [← List.singleton_append, ← List.append_assoc]; exact mid_get (by simp)
  rw [fareboxlaw30_left, bnd_eq, e2, chk_t (by rw [l2]; simp [cutB]; omega), wsucc (by omega)]
  simp only [Int.toNat_natCast]
  rw [List.take_left' rfl, opt_some (same_links (by omega)), chk_t (by simp [imp, inB]; omega), chk_t (by simp [imp, inB]; omega), g0, g1]
  rfl
theorem brooms {a b : List Int} (ha : a.length ≤ 10000) (hb : b.length ≤ 10000) : fareboxlaw30_rooms a b = some true := by
  have h1 : ∀ k, fareboxlaw30_rooms_l1 k big a 0 = k (a ++ List.replicate 64 33) := fun k => by
    have h := walk (fun f i => fareboxlaw30_rooms_l1 k f (a ++ List.replicate i 33) (i : Int)) (j := 64) (R := k (a ++ List.replicate 64 33)) (by omega)
      (fun i f hi => by
        show fareboxlaw30_rooms_b1 k (fareboxlaw30_rooms_l1 k f) _ _ = _
        rw [fareboxlaw30_rooms_b1, br_tt (decide_eq_true (by omega)), chk_t (by simp; omega), bnd_eq, bnd_eq, wsucc (by omega), rep_snoc])
      (fun f => by
        show fareboxlaw30_rooms_b1 k _ _ _ = _
        rw [fareboxlaw30_rooms_b1, br_ff (by rfl)])
    rw [List.replicate_zero, List.append_nil] at h
    exact h
  have h2 : ∀ k, fareboxlaw30_rooms_l2 k big b 0 = k (b ++ List.replicate 64 34) := fun k => by
    have h := walk (fun f i => fareboxlaw30_rooms_l2 k f (b ++ List.replicate i 34) (i : Int)) (j := 64) (R := k (b ++ List.replicate 64 34)) (by omega)
      (fun i f hi => by
        show fareboxlaw30_rooms_b2 k (fareboxlaw30_rooms_l2 k f) _ _ = _
        rw [fareboxlaw30_rooms_b2, br_tt (decide_eq_true (by omega)), chk_t (by simp; omega), bnd_eq, bnd_eq, wsucc (by omega), rep_snoc])
      (fun f => by
        show fareboxlaw30_rooms_b2 k _ _ _ = _
        rw [fareboxlaw30_rooms_b2, br_ff (by rfl)])
    rw [List.replicate_zero, List.append_nil] at h
    exact h
  have h3 : ∀ k, fareboxlaw30_rooms_l3 (a ++ List.replicate 64 33) k big (a.length : Int) = k () := fun k =>
    walk (fun f i => fareboxlaw30_rooms_l3 (a ++ List.replicate 64 33) k f ((a.length + i : Nat) : Int)) (j := 64) (by omega)
      (fun i f hi => by
        show fareboxlaw30_rooms_b3 _ k (fareboxlaw30_rooms_l3 _ k f) _ = _
        have e : (a ++ List.replicate 64 33).getD (a.length + i) 0 = 33 := by
          rw [List.getD_eq_getElem?_getD, List.getElem?_append_right (by omega), List.getElem?_replicate, if_pos (by omega)]; rfl
        rw [fareboxlaw30_rooms_b3, br_tt (decide_eq_true (by simp; omega)), chk_t (inB_t (by omega) (by simp; omega)), Int.toNat_natCast, e, bnd_eq, br_ff (by rfl), bnd_eq, wsucc (by omega)]
        rfl)
      (fun f => by
        show fareboxlaw30_rooms_b3 _ k _ _ = _
        rw [fareboxlaw30_rooms_b3, br_ff (decide_eq_false (by simp))])
  rw [fareboxlaw30_rooms, jn_eq, h1, jn_eq, h2, jn_eq, h3, bnd_eq, wi64_small (by omega) (by omega)]
  simp
theorem lrooms {a b : List api_Link} (ha : a.length ≤ 200) (hb : b.length ≤ 200) : fareboxlaw30_linkRooms a b = some true := by
  have h1 : ∀ k, fareboxlaw30_linkRooms_l1 k big a 0 = k (a ++ List.replicate 64 (lkN (-21))) := fun k => by
    have h := walk (fun f i => fareboxlaw30_linkRooms_l1 k f (a ++ List.replicate i (lkN (-21))) (i : Int)) (j := 64) (R := k (a ++ List.replicate 64 (lkN (-21)))) (by omega)
      (fun i f hi => by
        show fareboxlaw30_linkRooms_b1 k (fareboxlaw30_linkRooms_l1 k f) _ _ = _
        rw [fareboxlaw30_linkRooms_b1, br_tt (decide_eq_true (by omega)), chk_t (by simp; omega), bnd_eq, bnd_eq, wsucc (by omega), rep_snoc])
      (fun f => by
        show fareboxlaw30_linkRooms_b1 k _ _ _ = _
        rw [fareboxlaw30_linkRooms_b1, br_ff (by rfl)])
    rw [List.replicate_zero, List.append_nil] at h
    exact h
  have h2 : ∀ k, fareboxlaw30_linkRooms_l2 k big b 0 = k (b ++ List.replicate 64 (lkN (-22))) := fun k => by
    have h := walk (fun f i => fareboxlaw30_linkRooms_l2 k f (b ++ List.replicate i (lkN (-22))) (i : Int)) (j := 64) (R := k (b ++ List.replicate 64 (lkN (-22)))) (by omega)
      (fun i f hi => by
        show fareboxlaw30_linkRooms_b2 k (fareboxlaw30_linkRooms_l2 k f) _ _ = _
        rw [fareboxlaw30_linkRooms_b2, br_tt (decide_eq_true (by omega)), chk_t (by simp; omega), bnd_eq, bnd_eq, wsucc (by omega), rep_snoc])
      (fun f => by
        show fareboxlaw30_linkRooms_b2 k _ _ _ = _
        rw [fareboxlaw30_linkRooms_b2, br_ff (by rfl)])
    rw [List.replicate_zero, List.append_nil] at h
    exact h
  have h3 : ∀ k, fareboxlaw30_linkRooms_l3 (a ++ List.replicate 64 (lkN (-21))) k big (a.length : Int) = k () := fun k =>
    walk (fun f i => fareboxlaw30_linkRooms_l3 (a ++ List.replicate 64 (lkN (-21))) k f ((a.length + i : Nat) : Int)) (j := 64) (by omega)
      (fun i f hi => by
        show fareboxlaw30_linkRooms_b3 _ k (fareboxlaw30_linkRooms_l3 _ k f) _ = _
        have e : (a ++ List.replicate 64 (lkN (-21))).getD (a.length + i) api_Link_z = lkN (-21) := by
          rw [List.getD_eq_getElem?_getD, List.getElem?_append_right (by omega), List.getElem?_replicate, if_pos (by omega)]; rfl
        rw [fareboxlaw30_linkRooms_b3, br_tt (decide_eq_true (by simp; omega)), chk_t (inB_t (by omega) (by simp; omega)), Int.toNat_natCast, e, bnd_eq, br_ff (by simp [ieq]), bnd_eq, wsucc (by omega)]
        rfl)
      (fun f => by
        show fareboxlaw30_linkRooms_b3 _ k _ _ = _
        rw [fareboxlaw30_linkRooms_b3, br_ff (decide_eq_false (by simp))])
  rw [fareboxlaw30_linkRooms, jn_eq, h1, jn_eq, h2, jn_eq, h3, bnd_eq, wi64_small (by omega) (by omega)]
  simp
/-! ## Lists written over -/
theorem set_app {l : List api_Link} {i : Nat} {x : api_Link} (hi : i < l.length) : setG api_Link_z (l ++ mk7) i x = l.set i x ++ mk7 := by rw [setG_eq (by simp; omega), List.set_append_left _ _ hi]
theorem get_app {l : List api_Link} {i : Nat} (hi : i < l.length) : (l ++ mk7).getD i api_Link_z = l.getD i api_Link_z := by rw [List.getD_eq_getElem?_getD, List.getElem?_append_left hi, ← List.getD_eq_getElem?_getD]
def rv (l : List api_Link) (i : Nat) : List api_Link := (List.range l.length).map fun j => if j < i ∨ l.length - i ≤ j then l.getD (l.length - 1 - j) api_Link_z else l.getD j api_Link_z
theorem rv_len (l : List api_Link) (i : Nat) : (rv l i).length = l.length := by simp [rv]
theorem rv_elem (l : List api_Link) {i j : Nat} (h : j < (rv l i).length) : (rv l i)[j] = if j < i ∨ l.length - i ≤ j then l.getD (l.length - 1 - j) api_Link_z else l.getD j api_Link_z := by simp [rv]
theorem rv_getD (l : List api_Link) {i j : Nat} (h : j < l.length) : (rv l i).getD j api_Link_z = if j < i ∨ l.length - i ≤ j then l.getD (l.length - 1 - j) api_Link_z else l.getD j api_Link_z := by
  unfold rv
  simp [List.getD_eq_getElem?_getD, h]
theorem rv_zero (l : List api_Link) : rv l 0 = l := by
  apply List.ext_getElem
  · exact rv_len l 0
  · intro j h1 h2
    rw [rv_elem, if_neg (by omega)]
    simp [List.getD_eq_getElem?_getD, h2]
theorem rv_half (l : List api_Link) : rv l (l.length / 2) = l.reverse := by
  apply List.ext_getElem
  · rw [rv_len, List.length_reverse]
  · intro j h1 h2
    rw [List.length_reverse] at h2
    rw [rv_elem, List.getElem_reverse]
    have e : ∀ i (h : i < l.length), l.getD i api_Link_z = l[i] := fun i h => by simp [List.getD_eq_getElem?_getD, h]
    by_cases h3 : j < l.length / 2 ∨ l.length - l.length / 2 ≤ j
    · rw [if_pos h3, e _ (by omega)]
    · rw [if_neg h3, e _ h2]
      have : l.length - 1 - j = j := by omega
      simp only [this]
theorem rv_step (l : List api_Link) {i : Nat} (hi : i < l.length / 2) : ((rv l i).set i ((rv l i).getD (l.length - 1 - i) api_Link_z)).set (l.length - 1 - i) ((rv l i).getD i api_Link_z) = rv l (i + 1) := by
  rw [rv_getD l (by omega), if_neg (by omega), rv_getD l (by omega), if_neg (by omega)]
  apply List.ext_getElem
  · rw [List.length_set, List.length_set, rv_len, rv_len]
  · intro j h1 h2
    rw [rv_len] at h2
    rw [List.getElem_set, List.getElem_set, rv_elem, rv_elem]
    by_cases e1 : l.length - 1 - i = j
    · subst e1
      rw [if_pos rfl, if_pos (by omega)]
      congr 1; omega
    · rw [if_neg e1]
      by_cases e2 : i = j
      · subst e2
        rw [if_pos rfl, if_pos (by omega)]
      · rw [if_neg e2]
        by_cases e3 : j < i ∨ l.length - i ≤ j
        · rw [if_pos e3, if_pos (by omega)]
        · rw [if_neg e3, if_neg (by omega)]
theorem lturned {l : List api_Link} (hb : l.length * 104 + 208 ≤ 140737488355328) : fareboxlaw30_turned (l ++ mk7) (l.length : Int) = some (l.reverse, l.reverse ++ mk7) := by
  have e2 : IntKind.wrap .i64 (Int.tdiv (l.length : Int) 2) = ((l.length / 2 : Nat) : Int) := by rw [show Int.tdiv (l.length : Int) 2 = ((l.length / 2 : Nat) : Int) from rfl, wi64_small (by omega) (by omega)]
  have e3 : l.length ≠ 0 → IntKind.wrap .i64 ((l.length : Int) - 1) = ((l.length - 1 : Nat) : Int) := fun h => by rw [wi64_small (by omega) (by omega)]; omega
  have hc : ∀ q : List api_Link, q.length = l.length → cutB 0 (l.length : Int) (q ++ mk7).length = true := fun q h => by simp [cutB, h]; omega
  have key : ∀ k, fareboxlaw30_turned_l1 (l.length : Int) k big (l ++ mk7) 0 = k (l.reverse ++ mk7) := fun k => by
    have h := walk (fun f i => fareboxlaw30_turned_l1 (l.length : Int) k f (rv l i ++ mk7) (i : Int)) (j := l.length / 2) (R := k (l.reverse ++ mk7)) (by omega)
      (fun i f hi => by
        have e4 : IntKind.wrap .i64 (((l.length - 1 : Nat) : Int) - (i : Int)) = ((l.length - 1 - i : Nat) : Int) := by rw [wi64_small (by omega) (by omega)]; omega
        have s0 := rv_len l i
        have s1 : ∀ x, ((rv l i).set i x).length = l.length := fun x => by rw [List.length_set, s0]
        have s2 : ∀ x y, (((rv l i).set i x).set (l.length - 1 - i) y).length = l.length := fun x y => by rw [List.length_set, s1]
        show fareboxlaw30_turned_b1 (l.length : Int) k (fareboxlaw30_turned_l1 (l.length : Int) k f) _ _ = _
        rw [fareboxlaw30_turned_b1, bnd_eq, e2, br_tt (decide_eq_true (by omega)), Int.toNat_natCast, chk_t (inB_t (by omega) (by omega)), bnd_eq, bnd_eq, e3 (by omega), bnd_eq, e4, chk_t (inB_t (by omega) (by omega)), bnd_eq, chk_t (inB_t (by omega) (by omega)), bnd_eq, Int.toNat_natCast, Int.toNat_natCast, get_app (by omega), get_app (by omega), set_app (by omega), bnd_eq,
          chk_t (hc _ (s1 _)), chk_t (hc _ (s1 _)), chk_t (hc _ (s1 _)), chk_t (hc _ (s1 _)), bnd_eq, bnd_eq, e4, chk_t (inB_t (by omega) (by omega)), bnd_eq, Int.toNat_natCast, set_app (by rw [s1]; omega), bnd_eq,
          chk_t (hc _ (s2 _ _)), chk_t (hc _ (s2 _ _)), chk_t (hc _ (s2 _ _)), chk_t (hc _ (s2 _ _)), chk_t (hc _ (s2 _ _)), bnd_eq, wsucc (by omega), rv_step l hi])
      (fun f => by
        show fareboxlaw30_turned_b1 (l.length : Int) k _ _ _ = _
        rw [fareboxlaw30_turned_b1, bnd_eq, e2, br_ff (decide_eq_false (by omega)), rv_half])
    rw [rv_zero] at h
    exact h
  rw [fareboxlaw30_turned, jn_eq, key, Int.toNat_natCast, List.take_left' (by rw [List.length_reverse]), chk_t (by simp; omega), bnd_eq]; rfl
theorem again_eq {l : List api_Link} (hb : l.length * 104 + 208 ≤ 140737488355328) : fareboxlaw30_encodedAgain (l ++ mk7) (l.length : Int) l = some (true, l ++ mk7) := by
  have hr : l.reverse.length = l.length := List.length_reverse
  have hc : ∀ q : List api_Link, q.length = l.length → cutB 0 (l.length : Int) (q ++ mk7).length = true := fun q h => by simp [cutB, h]; omega
  have h1 := lturned hb
  have h2 : fareboxlaw30_turned (l.reverse ++ mk7) (l.length : Int) = some (l, l ++ mk7) := by
    have := lturned (l := l.reverse) (by rw [hr]; exact hb)
    rw [hr, List.reverse_reverse] at this
    exact this
  have h3 : fareboxlaw30_left (l.reverse ++ mk7) (l.length : Int) l.reverse = some true := by
    have := lleft (a := l.reverse) (by rw [hr]; exact hb)
    rw [hr] at this
    exact this
  have he := encOf_len l.reverse
  rw [fareboxlaw30_encodedAgain, opt_some h1, chk_t (hc _ hr), chk_t (hc _ hr)]
  dsimp only
  rw [Int.toNat_natCast, List.take_left' hr, opt_some (pencode _ (by omega)), opt_some (rencode _ (by omega)), opt_some (same_bytes (by omega)), h3, chk_t (by simp [imp]), opt_some h2, chk_t (hc _ rfl), chk_t (hc _ rfl), chk_t (hc _ rfl), chk_t (hc _ rfl)]
  dsimp only
  rw [lleft hb, chk_t (by simp [imp])]
  simp
theorem fill51 {a : List Int} (ha : a.length ≤ 100000) (k : List Int → Option Bool) : fareboxlaw30_RotateBytes_l1 k big a 0 = k (List.replicate a.length 51) := by
  have h := walk (fun f i => fareboxlaw30_RotateBytes_l1 k f (List.replicate i 51 ++ a.drop i) (i : Int)) (j := a.length) (R := k (List.replicate a.length 51)) (by omega)
    (fun i f hi => by
      show fareboxlaw30_RotateBytes_b1 k (fareboxlaw30_RotateBytes_l1 k f) _ _ = _
      have hl : (List.replicate i 51 ++ a.drop i).length = a.length := by simp; omega
      rw [fareboxlaw30_RotateBytes_b1, br_tt (decide_eq_true (by omega)), chk_t (inB_t (by omega) (by omega)), Int.toNat_natCast, setG_eq (by omega), bnd_eq, bnd_eq, wsucc (by omega), drop_get (z := 0) hi, mid_set (by simp), List.replicate_succ', List.append_assoc, List.singleton_append])
    (fun f => by
      show fareboxlaw30_RotateBytes_b1 k _ _ _ = _
      rw [List.drop_length, List.append_nil, fareboxlaw30_RotateBytes_b1, br_ff (decide_eq_false (by simp))])
  exact h
theorem more68 {a : List Int} (ha : a.length ≤ 100000) (k : List Int → Option Bool) : fareboxlaw30_RotateBytes_l2 k big a 0 = k (a ++ List.replicate 200 68) := by
  have h := walk (fun f i => fareboxlaw30_RotateBytes_l2 k f (a ++ List.replicate i 68) (i : Int)) (j := 200) (R := k (a ++ List.replicate 200 68)) (by omega)
    (fun i f hi => by
      show fareboxlaw30_RotateBytes_b2 k (fareboxlaw30_RotateBytes_l2 k f) _ _ = _
      rw [fareboxlaw30_RotateBytes_b2, br_tt (decide_eq_true (by omega)), chk_t (by simp; omega), bnd_eq, bnd_eq, wsucc (by omega), rep_snoc])
    (fun f => by
      show fareboxlaw30_RotateBytes_b2 k _ _ _ = _
      rw [fareboxlaw30_RotateBytes_b2, br_ff (by rfl)])
  rw [List.replicate_zero, List.append_nil] at h
  exact h
def inc (x : Int) : Int := IntKind.wrap .u8 (x + 1)
theorem inc_all {p : List Int} (hp : p.length ≤ 140737488355328) (k : List Int → Option Bool) : fareboxlaw30_RotateBytes_l3 p k big (p ++ [165]) 0 = k (p.map inc ++ [165]) := by
  have h := walk (fun f i => fareboxlaw30_RotateBytes_l3 p k f (((p.take i).map inc ++ p.drop i) ++ [165]) (i : Int)) (j := p.length) (R := k (p.map inc ++ [165])) (by omega)
    (fun i f hi => by
      have hl : ((p.take i).map inc).length = i := by simp; omega
      have e : ((p.take i).map inc ++ p.drop i) ++ [165] = (p.take i).map inc ++ (p.getD i 0 :: (p.drop (i + 1) ++ [165])) := by rw [drop_get (z := 0) hi, List.append_assoc]; rfl
      have e2 : ((p.take (i + 1)).map inc ++ p.drop (i + 1)) ++ [165] = (p.take i).map inc ++ (inc (p.getD i 0) :: (p.drop (i + 1) ++ [165])) := by rw [take_get (z := 0) hi, List.map_append, List.append_assoc, List.append_assoc]; rfl
      show fareboxlaw30_RotateBytes_b3 p k (fareboxlaw30_RotateBytes_l3 p k f) _ _ = _
      rw [e, e2, fareboxlaw30_RotateBytes_b3, br_tt (decide_eq_true (by omega)), chk_t (inB_t (by omega) (by simp; omega)), bnd_eq, Int.toNat_natCast, mid_get hl.symm, bnd_eq, chk_t (inB_t (by omega) (by simp; omega)), setG_eq (by simp; omega), mid_set hl.symm, bnd_eq, bnd_eq, wsucc (by omega)]
      rfl)
    (fun f => by
      show fareboxlaw30_RotateBytes_b3 p k _ _ _ = _
      rw [fareboxlaw30_RotateBytes_b3, br_ff (decide_eq_false (by omega)), List.drop_of_length_le (by omega), List.take_of_length_le (by omega), List.append_nil])
  rw [List.take_zero, List.drop_zero] at h
  exact h
theorem fillN {a : List api_Link} (ha : a.length ≤ 200) (k : List api_Link → Option Bool) : fareboxlaw30_RotateBytes_l4 k big a 0 = k (List.replicate a.length (lkN (-9))) := by
  have h := walk (fun f i => fareboxlaw30_RotateBytes_l4 k f (List.replicate i (lkN (-9)) ++ a.drop i) (i : Int)) (j := a.length) (R := k (List.replicate a.length (lkN (-9)))) (by omega)
    (fun i f hi => by
      show fareboxlaw30_RotateBytes_b4 k (fareboxlaw30_RotateBytes_l4 k f) _ _ = _
      have hl : (List.replicate i (lkN (-9)) ++ a.drop i).length = a.length := by simp; omega
      have er : List.replicate (i + 1) (lkN (-9)) = List.replicate i (lkN (-9)) ++ [lkN (-9)] := List.replicate_succ'
      rw [fareboxlaw30_RotateBytes_b4, br_tt (decide_eq_true (by omega)), chk_t (inB_t (by omega) (by omega)), bnd_eq, Int.toNat_natCast, setG_eq (by omega), bnd_eq, bnd_eq, wsucc (by omega), drop_get (z := api_Link_z) hi, mid_set (by simp), er, List.append_assoc, List.singleton_append])
    (fun f => by
      show fareboxlaw30_RotateBytes_b4 k _ _ _ = _
      rw [List.drop_length, List.append_nil, fareboxlaw30_RotateBytes_b4, br_ff (decide_eq_false (by simp))])
  exact h
theorem moreN {a : List api_Link} (ha : a.length ≤ 200) (k : List api_Link → Option Bool) : fareboxlaw30_RotateBytes_l5 k big a 0 = k (a ++ List.replicate 8 (lkN (-10))) := by
  have h := walk (fun f i => fareboxlaw30_RotateBytes_l5 k f (a ++ List.replicate i (lkN (-10))) (i : Int)) (j := 8) (R := k (a ++ List.replicate 8 (lkN (-10)))) (by omega)
    (fun i f hi => by
      show fareboxlaw30_RotateBytes_b5 k (fareboxlaw30_RotateBytes_l5 k f) _ _ = _
      rw [fareboxlaw30_RotateBytes_b5, br_tt (decide_eq_true (by omega)), chk_t (by simp; omega), bnd_eq, bnd_eq, wsucc (by omega), rep_snoc])
    (fun f => by
      show fareboxlaw30_RotateBytes_b5 k _ _ _ = _
      rw [fareboxlaw30_RotateBytes_b5, br_ff (by rfl)])
  rw [List.replicate_zero, List.append_nil] at h
  exact h
theorem Byt_inc (p : List Int) : Byt (p.map inc) := by
  intro i
  by_cases h : i < p.length
  · have e : (p.map inc).getD i 0 = inc (p.getD i 0) := by simp [List.getD_eq_getElem?_getD, h]
    rw [e]
    unfold inc
    rw [wu8_eq]; omega
  · rw [getD_end (by rw [List.length_map]; omega)]; decide
theorem rotateBytes_eq {p : List api_Link} {b : List Int} (hp : p.length * 104 + 208 ≤ 140737488355328) (hb : Byt b) (lb : b.length + 1 ≤ 140737488355328) : fareboxlaw30_RotateBytes p b = some true := by
  have he := encOf_len p
  have hd := decOf_len b
  have hd2 := decOf_len (b.map inc)
  have hl2 : (b.map inc).length = b.length := List.length_map ..
  have et : (p ++ mk7).take ((p.length : Int)).toNat = p := by rw [Int.toNat_natCast, List.take_left' rfl]
  have eb : ∀ q : List Int, q.length = b.length → (q ++ [165]).take ((b.length : Int)).toNat = q := fun q h => by rw [Int.toNat_natCast, List.take_left' h]
  have hcb : ∀ q : List Int, q.length = b.length → cutB 0 (b.length : Int) (q ++ [165]).length = true := fun q h => by simp [cutB, h]; omega
  have hc : cutB 0 (p.length : Int) (p ++ mk7).length = true := by simp [cutB]; omega
  rw [fareboxlaw30_RotateBytes, opt_some (lmarked hp)]
  dsimp only
  rw [et, opt_some (pencode _ (by omega)), opt_some (rencode _ (by omega)), opt_some (pencode _ (by omega)), opt_some (same_bytes (by omega)), lleft hp, chk_t (by simp [imp]), br_ff (by simp), jn_eq, fill51 (by omega), jn_eq, more68 (by simp; omega), jn_eq, bnd_eq, wi64_small (by omega) (by omega), same_bytes (by omega), chk_t (by simp [imp]), br_ff (by simp), opt_some (brooms (by simp; omega) (by omega)), br_ff (by rfl), opt_some (again_eq hp), chk_t hc, chk_t hc]
  dsimp only
  rw [br_ff (by rfl), chk_t (by simp; omega), bnd_eq, List.nil_append, chk_t (by simp; omega), bnd_eq, chk_t (hcb b rfl), eb b rfl, opt_some (pdecode hb (by omega)), opt_some (rdecode hb (by omega)), opt_some (same_links (by omega)), same_bytes (by omega), hcb b rfl, chk_t (by simp [imp]), chk_t (by simp only [imp, Bool.or_eq_true]; right; exact inB_t (by omega) (by simp; omega)), Int.toNat_natCast, mid_get rfl, br_ff (by simp), chk_t (by rfl), opt_some (pdecode hb (by omega)), jn_eq, inc_all (by omega), opt_some (same_links (by omega)), same_links (by omega), chk_t (by simp [imp]), br_ff (by simp), jn_eq, fillN (by omega), jn_eq, moreN (by simp; omega)]
  have eb2 := eb (b.map inc) hl2
  rw [Int.toNat_natCast] at eb2
  rw [hcb (b.map inc) hl2, chk_t (by rfl), eb2, chk_t (by simp; omega), bnd_eq, List.nil_append, chk_t (by rfl), opt_some (pdecode (Byt_inc b) (by rw [hl2]; omega)), opt_some (rdecode (Byt_inc b) (by rw [hl2]; omega)), jn_eq, opt_some (same_links (by omega)), same_bytes (by rw [hl2]; omega), wi64_small (by omega) (by omega), chk_t (by simp [imp]), chk_t (by simp [imp]), br_tt (by simp), opt_some (lrooms (by simp; omega) (by omega)), br_tt (by rfl), opt_some (lrooms (by omega) (by omega))]
end Go.Proofs.Ytiflckckekjbnaa
/- The engine, part 10: from a law's contract to its row. -/
namespace Go.Sx
open Go Go.RowKit Go.ChangeShapes
set_option linter.all false

section
variable {H : Type} {enc : TypeId × Value → H}

theorem below_trodAll {P : Program} (hl : laidOutB P = true) {W W' : World} (hb : Below W.heap.size W W') :
    ∀ {ts : List TypeId} {vs : List Value} {ds : List (DataW H)} {ps : List MemPlace}, (ts.all fun t => P.readableRec t && decide (t < P.types.size)) = true → (∀ x ∈ ps, x.block < W.heap.size) →
      DataW.TrodAll enc P W 0 (fun _ => true) true ts vs ds ps → DataW.TrodAll enc P W' 0 (fun b => decide (b < W.heap.size)) true ts vs ds ps
  | [], [], [], _, _, _, h => h
  | t :: ts, v :: vs, d :: ds, ps, hr, hlt, h => by
    obtain ⟨p, q, h1, h2, rfl⟩ := h
    simp only [List.all_cons, Bool.and_eq_true, decide_eq_true_eq] at hr
    exact ⟨p, q, Below.trod hl hr.1.1 hr.1.2 h1 hb (fun x hx => hlt x (by simp [hx])), below_trodAll hl hb hr.2 (fun x hx => hlt x (by simp [hx])) h2, rfl⟩
  | [], _ :: _, _, _, _, _, h => h.elim
  | [], [], _ :: _, _, _, _, h => h.elim
  | _ :: _, [], _, _, _, _, h => h.elim
  | _ :: _, _ :: _, [], _, _, _, h => h.elim

/-- What a law's proof gives. -/
def LawAt (P : Program) (f : FuncId) (args : Array Value) (W : World) : Prop := Calls P f args W fun e w' => e = .returned (.bool true) ∧ Below W.heap.size W w'

theorem trodAll_len {P : Program} {W : World} {base : Nat} {sp : Nat → Bool} {held : Bool} : ∀ {ts : List TypeId} {vs : List Value} {ds : List (DataW H)} {ps : List MemPlace}, DataW.TrodAll enc P W base sp held ts vs ds ps → ds.length = ts.length ∧ vs.length = ts.length
  | [], [], [], _, _ => ⟨rfl, rfl⟩
  | t :: ts, v :: vs, d :: ds, ps, h => by
    obtain ⟨p, q, _, h2, _⟩ := h
    have := trodAll_len h2
    simp [this]
  | [], _ :: _, _, _, h => h.elim
  | [], [], _ :: _, _, h => h.elim
  | _ :: _, [], _, _, h => h.elim
  | _ :: _, _ :: _, [], _, h => h.elim

theorem law_post {C : Checked} {f : FuncId} {fn : Func} {s : ChangeSpec} {tb : TypeId} (hvars : s.vars = [])
    (hs : ∀ ds : List (DataW H), ds.length = fn.params.size → s.fn H ds = { results := [.lit (.bool true)], args := ds }) (hres : fn.resultTypes = #[tb]) (htb : C.prog.underlying tb = some .bool)
    (hl : laidOutB C.prog = true) (hpar : (fn.params.toList.all fun t => C.prog.readableRec t && decide (t < C.prog.types.size)) = true)
    {W : World} {args : Array Value} {ds gs : List (DataW H)} {before : List MemPlace} (hW : DataW.Whole enc C.prog fn.params.toList s.vars false W args.toList ds gs before)
    (h : LawAt C.prog f args W) : Calls C.prog f args W fun e W' => ∃ v, e = .returned v ∧ s.post enc C.prog fn false true false false W args v W' := by
  have hW' := hW
  have hlt := hW.lt
  obtain ⟨p, q, hA, hV, rfl, hfz, hnd⟩ := hW
  rw [hvars] at hV
  obtain ⟨rfl, rfl⟩ := trodVars_none hV
  refine h.mono fun e W' ⟨he, bel⟩ => ⟨_, he, ds, [], p ++ [], [], p, [], hW', ?_, ?_, ?_, bel.frame _, fun h => by cases h⟩
  · rw [List.append_nil, hs ds (by simpa using (trodAll_len hA).1), hres]
    exact trodAll_mk1 (shut_bool htb true)
  · rw [List.append_nil, hs ds (by simpa using (trodAll_len hA).1)]
    exact below_trodAll hl bel hpar (fun x hx => hlt x (by simp [hx])) hA
  · rw [List.append_nil, hs ds (by simpa using (trodAll_len hA).1), hvars]
    rfl

/-- What a law's contract is given of its arguments. -/
structure Given (C : Checked) (fn : Func) (W : World) (args : Array Value) : Prop where
  wide : ∃ base, ∀ (j : Nat) t v, fn.params[j]? = some t → args[j]? = some v → Value.okWide C.prog W .any base t v
  read : ∃ (H : Type) (enc : TypeId × Value → H) (ds : List (DataW H)) (p : List MemPlace), DataW.TrodAll enc C.prog W 0 (fun _ => true) true fn.params.toList args.toList ds p ∧
    ((DataW.weightsEach C.prog fn.params.toList ds).all (· ≤ reachBytes) = true)

theorem law_plain {C : Checked} {os : Os} {f : FuncId} {fn : Func} {s : ChangeSpec} {tb : TypeId} {conds : List PathCond}
    (own : ownKnob C.prog.godebug = none) (started : os.Started) (noInit : C.prog.inits.idxOf? f = none) (hfn : C.prog.funcs[f]? = some fn) (hvars : s.vars = [])
    (hs : ∀ ds : List (DataW H), ds.length = fn.params.size → s.fn H ds = { results := [.lit (.bool true)], args := ds }) (hres : fn.resultTypes = #[tb]) (htb : C.prog.underlying tb = some .bool)
    (hl : laidOutB C.prog = true) (hpar : (fn.params.toList.all fun t => C.prog.readableRec t && decide (t < C.prog.types.size)) = true)
    (witness : ∃ (w : World) (tape : Tape) (i : Input), w.os = os ∧ (w.forCall tape i).Shaped C.prog ∧ i.vars = [] ∧ Input.okWide C.prog (w.forCall tape i) .any w.heap.size f i ∧
      s.pre6 enc C.prog fn conds false (w.forCall tape i).memory i.args ∧ ({} : Assume).holds C.prog (lone (Frame.enter C.prog f i.args .normal) [] (w.forCall tape i)))
    (h : ∀ (W : World) (args : Array Value), Given C fn W args → LawAt C.prog f args W) :
    ReturnsInHanded {} C os f .any (s.pre6 enc C.prog fn conds false) (s.post enc C.prog fn false true false false) := by
  refine returnsInHanded_of_change_sized own started noInit hfn witness ?_
  intro W base args ds gs before hval hW _ hsz _
  refine law_post hvars hs hres htb hl hpar hW (h W args ⟨⟨base, hval⟩, ?_⟩)
  obtain ⟨p, q, hA, hV, rfl, hfz, hnd⟩ := hW
  rw [hvars] at hV
  obtain ⟨rfl, rfl⟩ := trodVars_none hV
  refine ⟨H, enc, ds, p, hA, ?_⟩
  simpa [ChangeSpec.plain, DataSpec.varTypes, hvars] using hsz

end

/-! ## The arguments, opened -/

theorem fits_of_read {H : Type} {enc : TypeId × Value → H} {P : Program} {W : World} {n : Nat} {t : TypeId} {v : Value} {d : DataW H} {p : List MemPlace} {L : Lay}
    (hL : lay P n t .nil = some L) (h : DataW.Trod enc P W 0 (fun _ => true) true t v d p) : Fits W maxLen L v.cells.toList := by
  obtain ⟨fuel, hf⟩ := h
  have := trod_fits (Small.all) n t .nil L hL fuel v.cells.toList d p hf trivial [] rfl
  simpa using this

/-- The arguments, each with its cells' layout. -/
def Open (C : Checked) (W : World) (n : Nat) : List TypeId → List Value → Prop
  | [], vs => vs = []
  | t :: ts, vs => ∃ v vs', vs = v :: vs' ∧ (∃ base, Value.okWide C.prog W .any base t v) ∧ (∀ L, lay C.prog n t .nil = some L → Fits W maxLen L v.cells.toList) ∧ Open C W n ts vs'
theorem Given.open {C : Checked} {fn : Func} {W : World} {args : Array Value} (h : Given C fn W args) (n : Nat) : Open C W n fn.params.toList args.toList := by
  obtain ⟨⟨base, hw⟩, ⟨H, enc, ds, p, hA, _⟩⟩ := h
  have key : ∀ (ts : List TypeId) (vs : List Value) (ds : List (DataW H)) (p : List MemPlace), DataW.TrodAll enc C.prog W 0 (fun _ => true) true ts vs ds p →
      (∀ (j : Nat) t v, ts[j]? = some t → vs[j]? = some v → Value.okWide C.prog W .any base t v) → Open C W n ts vs := by
    intro ts
    induction ts with
    | nil =>
      intro vs ds p h _
      cases vs with
      | nil => rfl
      | cons v vs => cases ds <;> exact h.elim
    | cons t ts ih =>
      intro vs ds p h hv
      cases vs with
      | nil => cases ds <;> exact h.elim
      | cons v vs =>
        cases ds with
        | nil => exact h.elim
        | cons d ds =>
          obtain ⟨p1, q1, h1, h2, rfl⟩ := h
          exact ⟨v, vs, rfl, ⟨base, hv 0 t v rfl rfl⟩, fun L hL => fits_of_read hL h1, ih vs ds q1 h2 fun j t v h3 h4 => hv (j + 1) t v h3 h4⟩
  exact key _ _ ds p hA fun j t v h1 h2 => hw j t v (by simpa using h1) (by simpa using h2)

theorem wide_one {P : Program} {W : World} {base : Nat} {t : TypeId} {v x : Value} (hw : Value.okWide P W .any base t v) (hn : (match P.underlying t with | some (.struct _) | some (.array _ _) => false | _ => true) = true)
    (h : v.cells.toList = [x]) : v = x := by
  cases v with
  | agg cs =>
    exfalso
    unfold Value.okWide at hw
    split at hw
    · rename_i hu; rw [hu] at hn; cases hn
    · rename_i hu; rw [hu] at hn; cases hn
    · unfold Cell.okWide at hw
      split at hw <;> first | (rename_i h2; cases h2; done) | skip
      simp only [Cell.ok] at hw
      split at hw <;> simp_all
  | _ => simpa [Value.cells] using h
end Go.Sx
/- From a slice that is handed in to its list. -/
namespace Go.Sx
open Go Go.RowKit
set_option linter.all false

theorem rd_of_SlI {W : World} {k : IntKind} {a : Option Addr} {len cap : Nat} {xs : List Int} (h : SlI W k a cap xs) (hl : len ≤ cap) : RdSl (El.int k) W (slV (a, len, cap)) (xs.take len) := by
  have hx := h.len
  have hlen : (xs.take len).length = len := by rw [List.length_take]; omega
  rcases h.at_ with h0 | ⟨b, off, rfl, hm⟩
  · subst h0
    obtain rfl : len = 0 := by omega
    cases a with
    | none => exact .inl ⟨rfl, by simp⟩
    | some a => exact .inr (.inr ⟨a, rfl, by simp⟩)
  · refine .inr (.inl ⟨b, off, cap, by rw [hlen]; rfl, by omega, fun i hi j hj => ?_⟩)
    rw [hlen] at hi
    obtain rfl : j = 0 := by simp only at hj; omega
    have := hm.cell i (by simp only [width, Seg.width]; omega)
    simp only [cells, Seg.cells, List.append_nil] at this
    simp only [Nat.mul_one, Nat.add_zero]
    rw [this, intsCells_get (by omega)]
    simp [List.getD_eq_getElem?_getD, List.getElem?_take, hi]
theorem rd_of_SlR {α : Type} {E : El α} {W : World} {a : Option Addr} {len cap : Nat} {g : Nat → List Value} {xs : List α} (h : SlR W E.w a cap g) (hl : len ≤ cap) (hx : xs.length = len) (hf : ∀ i, i < len → g i = E.cell (xs.getD i E.z)) :
    RdSl E W (slV (a, len, cap)) xs := by
  rcases h.at_ with h0 | h0 | ⟨b, off, rfl, hm⟩
  · subst h0
    obtain rfl : len = 0 := by omega
    have : xs = [] := List.eq_nil_of_length_eq_zero hx
    cases a with
    | none => exact .inl ⟨rfl, this⟩
    | some a => exact .inr (.inr ⟨a, rfl, this⟩)
  · exact absurd h0 (by have := E.pos; omega)
  · refine .inr (.inl ⟨b, off, cap, by rw [hx]; rfl, by omega, fun i hi j hj => ?_⟩)
    rw [hx] at hi
    have hlt : i * E.w + j < cap * E.w := by
      have : i * E.w + E.w ≤ cap * E.w := by rw [← Nat.succ_mul]; exact Nat.mul_le_mul_right E.w (by omega)
      omega
    have := hm.cell (i * E.w + j) (by simp only [width, Seg.width, Nat.add_zero]; exact hlt)
    simp only [cells, Seg.cells, List.append_nil] at this
    rw [this, rowsCells_get2 (by omega) hj, fit_same (h.len i (by omega)), hf i hi]
end Go.Sx
/- From a slice that is handed in behind other arguments to its bytes. -/
namespace Go.Sx
open Go Go.RowKit
set_option linter.all false

theorem trod_bytes {H : Type} {enc : TypeId × Value → H} {P : Program} {W : World} {t e : TypeId} {ts : List TypeId} {a : Addr} {len cap : Nat} {vs : List Value} (hu : P.underlying t = some (.slice e)) :
    ∀ {ts0 : List TypeId} {vs0 : List Value} {ds : List (DataW H)} {p : List MemPlace}, ts0.length = vs0.length → DataW.TrodAll enc P W 0 (fun _ => true) true (ts0 ++ t :: ts) (vs0 ++ .slice (some a) len cap :: vs) ds p →
      ((DataW.weightsEach P (ts0 ++ t :: ts) ds).all (· ≤ reachBytes) = true) → cap * P.bytesOf e ≤ reachBytes
  | [], [], ds, p, _, hA, hw => by
    cases ds with
    | nil => exact hA.elim
    | cons d ds =>
      obtain ⟨p1, q1, ⟨fuel, hf⟩, h2, rfl⟩ := hA
      rcases DataW.trod_slice hu hf with ⟨e1, _⟩ | ⟨a', len', cap', elems, rest, m, e1, e2, hx, _, hlc, _, hel, _, hR, _⟩
      · exact absurd e1 (by simp [Value.cells])
      · have e3 : (Value.slice (some a) len cap) = .slice (some a') len' cap' := by simpa [Value.cells] using e2
        injection e3 with e4 e5 e6
        subst e5; subst e6
        obtain ⟨hr, _⟩ := hR rfl
        simp only [Prod.mk.injEq] at hx
        rw [hx.1] at hw
        simp only [List.nil_append, DataW.weightsEach, DataW.weights, hu, List.all_append, List.all_cons, Bool.and_eq_true, decide_eq_true_eq, List.length_map, hel, hr] at hw
        have := hw.1.1
        rwa [show len + (cap - len) = cap by omega] at this
  | t0 :: ts0, v0 :: vs0, [], p, _, hA, _ => hA.elim
  | t0 :: ts0, v0 :: vs0, d :: ds, p, h, hA, hw => by
    obtain ⟨p1, q1, _, h2, rfl⟩ := hA
    refine trod_bytes hu (by simpa using h) h2 ?_
    simp only [List.cons_append, DataW.weightsEach, List.all_append, Bool.and_eq_true] at hw
    exact hw.2
theorem Given.slice_bytesN {C : Checked} {fn : Func} {W : World} {args : Array Value} (h : Given C fn W args) (ts0 : List TypeId) (vs0 : List Value) {t e : TypeId} {ts : List TypeId} {a : Addr} {len cap : Nat} {vs : List Value}
    (hp : fn.params.toList = ts0 ++ t :: ts) (hu : C.prog.underlying t = some (.slice e)) (ha : args.toList = vs0 ++ .slice (some a) len cap :: vs) (hl : ts0.length = vs0.length) : cap * C.prog.bytesOf e ≤ reachBytes := by
  obtain ⟨H, enc, ds, p, hA, hw⟩ := h.read
  rw [hp, ha] at hA
  rw [hp] at hw
  exact trod_bytes hu hl hA hw
end Go.Sx
