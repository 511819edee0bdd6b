/- Mirrors of the statements. -/
import Derived.Test.YtiflckckekjbnaaDoorSL1
namespace Go.Proofs.YtiflckckekjbnaaDoor
open Go Go.Sx Go.RowKit
set_option linter.all false
set_option maxHeartbeats 400000
set_option maxRecDepth 100000
def fareboxlaw08_printed  : Option (Bool) :=
 bnd (([157, 97, 177, 157, 239, 253, 90, 96, 186, 132, 74, 244, 146, 236, 44, 196, 68, 73, 197, 105, 123, 50, 105, 25, 112, 59, 172, 3, 28, 174, 127, 96] : List Int)) fun z3 =>
 opt (sign_Public z3) fun y6 =>
 bnd (([215, 90, 152, 1, 130, 177, 10, 183, 213, 75, 254, 211, 201, 100, 7, 58, 14, 225, 114, 243, 218, 166, 35, 37, 175, 2, 26, 104, 247, 7, 81, 26] : List Int)) fun z7 =>
 some (ieq 32 y6 z7)
theorem fareboxlaw08_printed_spec {W : World} {r : Bool} (h : fareboxlaw08_printed  = some r) (hG : Globs W) :
    Calls Tryd.prog 9 [].toArray W (ret1 W (.bool (r))) := by
  unfold fareboxlaw08_printed at h
  refine calls_val mo ok9 rfl ?_
  refine wc_seq ?_
  refine wc_ops ?_
  refine wj_q _ (q_mv rfl) ?_
  refine wj_nil ?_
  refine wc_seq ?_
  revert h
  refine bnd_i fun z3 ez3 => ?_
  intro h
  refine wc_ops ?_
  refine wj_q _ (az (fun z => agg [.ints .u8 32 z]) ez3 (q_bd (.one rfl rfl rfl (.one rfl rfl rfl (.one rfl rfl rfl (.one rfl rfl rfl (.one rfl rfl rfl (.one rfl rfl rfl (.one rfl rfl rfl (.one rfl rfl rfl (.one rfl rfl rfl (.one rfl rfl rfl (.one rfl rfl rfl (.one rfl rfl rfl (.one rfl rfl rfl (.one rfl rfl rfl (.one rfl rfl rfl (.one rfl rfl rfl (.one rfl rfl rfl (.one rfl rfl rfl (.one rfl rfl rfl (.one rfl rfl rfl (.one rfl rfl rfl (.one rfl rfl rfl (.one rfl rfl rfl (.one rfl rfl rfl (.one rfl rfl rfl (.one rfl rfl rfl (.one rfl rfl rfl (.one rfl rfl rfl (.one rfl rfl rfl (.one rfl rfl rfl (.one rfl rfl rfl (.one rfl rfl rfl BdR.nil)))))))))))))))))))))))))))))))))) ?_
  refine wj_e (ef_al fun b4 hb4 => ?_)
  refine wj_e (ef_st (q := [.ints .u8 32 (z3)]) rfl rfl rfl rfl rfl .here ?_)
  refine wj_nil ?_
  refine wc_seq ?_
  revert h
  refine opt_i fun y6 ey6 => ?_
  refine bnd_i fun z7 ez7 => ?_
  intro h
  refine wc_ops ?_
  refine wj_q _ (q_ld (p := [.ints .u8 32 (z3)]) rfl .here rfl) ?_
  refine wj_q _ (q_call (vs := [agg [.ints .u8 32 (z3)]]) (v := agg [.ints .u8 32 (y6)]) rfl (fun w hw => sign_Public_spec (r := y6) (p0 := z3) ey6 (hG.at hw (by simp)))) ?_
  refine wj_q _ (az (fun z => agg [.ints .u8 32 z]) ez7 (q_bd (.one rfl rfl rfl (.one rfl rfl rfl (.one rfl rfl rfl (.one rfl rfl rfl (.one rfl rfl rfl (.one rfl rfl rfl (.one rfl rfl rfl (.one rfl rfl rfl (.one rfl rfl rfl (.one rfl rfl rfl (.one rfl rfl rfl (.one rfl rfl rfl (.one rfl rfl rfl (.one rfl rfl rfl (.one rfl rfl rfl (.one rfl rfl rfl (.one rfl rfl rfl (.one rfl rfl rfl (.one rfl rfl rfl (.one rfl rfl rfl (.one rfl rfl rfl (.one rfl rfl rfl (.one rfl rfl rfl (.one rfl rfl rfl (.one rfl rfl rfl (.one rfl rfl rfl (.one rfl rfl rfl (.one rfl rfl rfl (.one rfl rfl rfl (.one rfl rfl rfl (.one rfl rfl rfl (.one rfl rfl rfl BdR.nil)))))))))))))))))))))))))))))))))) ?_
  refine wj_q _ (q_eqa rfl rfl rfl rfl _ (eqc_last eqc_ints)) ?_
  refine wj_q _ (q_mv rfl) ?_
  refine wj_nil ?_
  refine wc_ret ?_
  revert h; refine ret_i fun h => ?_
  subst h
  exact ⟨_, (.cons (.tmp rfl) .nil), rfl⟩
structure fareboxlaw08_Case where
  gKey : List Int
  gMessage : List Int
  gSig : List Int
def fareboxlaw08_Case_z : fareboxlaw08_Case := ⟨(List.replicate 32 0), [], (List.replicate 64 0)⟩
abbrev EC_fareboxlaw08_Case : El (fareboxlaw08_Case × SlT) := ⟨97, fun x => cells [.ints .u8 32 (x.1.gKey), .one (slV x.2), .ints .u8 64 (x.1.gSig)], fun x => by rw [cells_length]; rfl, fun x => (ones_cons ones_ints (ones_cons (ones_one rfl) (ones_cons ones_ints ones_nil))), by decide, (fareboxlaw08_Case_z, (none, 0, 0))⟩
def fareboxlaw08_SignEach_b1 (p0 : List (fareboxlaw08_Case)) (k337 : (Int) → (List (List Int)) → (List (List Int)) → (List (List Int)) → Option (Bool)) (k557 : (List (List Int)) → (List (List Int)) → (List (List Int)) → (Int) → (Int) → Option (Bool)) (l543 : List (List Int)) (l548 : List (List Int)) (l553 : List (List Int)) (i555 : Int) (i556 : Int) : Option (Bool) :=
 br ((decide (i556 < (p0.length : Int)))) (
 jn (fun (l600 : List (List Int)) (l605 : List (List Int)) (l610 : List (List Int)) (i612 : Int) => bnd (IntKind.wrap .i64 (i556 + 1)) fun z652 =>
 k557 l600 l605 l610 i612 z652) fun k613 => chk (inB i556 p0.length) <|
 bnd (p0.getD (i556).toNat fareboxlaw08_Case_z) fun x616 =>
 chk (decide ((l543.length + ([x616.gKey] : List (List Int)).length) * 32 ≤ 140737488355328)) <|
 bnd (l543 ++ ([x616.gKey] : List (List Int))) fun l621 =>
 chk (inB i556 p0.length) <|
 bnd (p0.getD (i556).toNat fareboxlaw08_Case_z) fun x627 =>
 chk (decide (((l548 : List (List Int)).length + [x627.gMessage].length) * 24 ≤ 140737488355328)) <|
 bnd ((l548 : List (List Int)) ++ [x627.gMessage]) fun l632 =>
 chk (inB i556 p0.length) <|
 bnd (p0.getD (i556).toNat fareboxlaw08_Case_z) fun x638 =>
 chk (decide ((l553.length + ([x638.gSig] : List (List Int)).length) * 64 ≤ 140737488355328)) <|
 bnd (l553 ++ ([x638.gSig] : List (List Int))) fun l643 =>
 chk (imp (i555 == (p0.length : Int)) ((inB i556 p0.length && (inB i556 p0.length && (inB i556 p0.length && (sign_Verify (((p0.getD (i556).toNat fareboxlaw08_Case_z)).gKey) ((p0.getD (i556).toNat fareboxlaw08_Case_z).gMessage) (((p0.getD (i556).toNat fareboxlaw08_Case_z)).gSig)).isSome))))) <|
 br (((i555 == (p0.length : Int)) && (!((sign_Verify (((p0.getD (i556).toNat fareboxlaw08_Case_z)).gKey) ((p0.getD (i556).toNat fareboxlaw08_Case_z).gMessage) (((p0.getD (i556).toNat fareboxlaw08_Case_z)).gSig)).getD false)))) (
 k613 l621 l632 l643 i556
 ) (
 k613 l621 l632 l643 i555
 )
 ) (
 k337 i555 l543 l548 l553
 )
def fareboxlaw08_SignEach_l1 (p0 : List (fareboxlaw08_Case)) (k337 : (Int) → (List (List Int)) → (List (List Int)) → (List (List Int)) → Option (Bool)) : Nat → (List (List Int)) → (List (List Int)) → (List (List Int)) → (Int) → (Int) → Option (Bool)
  | 0, _, _, _, _, _ => none
  | n + 1, l543, l548, l553, i555, i556 => fareboxlaw08_SignEach_b1 p0 k337 (fareboxlaw08_SignEach_l1 p0 k337 n) l543 l548 l553 i555 i556
def fareboxlaw08_SignEach (p0 : List (fareboxlaw08_Case)) : Option (Bool) :=
 jn (fun (i322 : Int) (l325 : List (List Int)) (l330 : List (List Int)) (l335 : List (List Int)) => opt (sign_VerifyAll l325 l330 l335) fun y654 =>
 chk (imp ((y654.1 == i322) && (y654.2 == (i322 == (p0.length : Int)))) ((fareboxlaw08_printed).isSome)) <|
 some (((y654.1 == i322) && (y654.2 == (i322 == (p0.length : Int)))) && ((fareboxlaw08_printed).getD false))) fun k337 => fareboxlaw08_SignEach_l1 p0 k337 big [] [] [] (p0.length : Int) 0
theorem fareboxlaw08_SignEach_spec {W : World} {r : Bool} {p0 : List (fareboxlaw08_Case)} {v0 : Value} {us0 : List SlT} (h : fareboxlaw08_SignEach p0 = some r) (hG : Globs W) (A0 : RdSl EC_fareboxlaw08_Case W v0 (zipG fareboxlaw08_Case_z (none, 0, 0) p0 us0)) (B0 : ∀ i, i < p0.length → RdSl (El.int .u8) W (slV (us0.getD i (none, 0, 0))) (p0.getD i fareboxlaw08_Case_z).gMessage) :
    Calls Tryd.prog 3 [v0].toArray W (ret1 W (.bool (r))) := by
  unfold fareboxlaw08_SignEach at h
  refine calls_val mo ok3 rfl ?_
  refine wc_seq ?_
  refine wc_ops ?_
  refine wj_q _ (q_mv rfl) ?_
  refine wj_nil ?_
  refine wc_seq ?_
  refine wc_ops ?_
  refine wj_q _ (q_mv rfl) ?_
  refine wj_nil ?_
  refine wc_seq ?_
  refine wc_ops ?_
  refine wj_q _ (q_mv rfl) ?_
  refine wj_nil ?_
  refine wc_seq ?_
  refine wc_ops ?_
  refine wj_q _ (q_mv rfl) ?_
  refine wj_nil ?_
  refine wc_seq ?_
  refine wc_ops ?_
  refine wj_q _ (q_mv rfl) ?_
  refine wj_q _ ((len_nlP (q_lenP rfl (Shp.rd A0)) zipG_len)) ?_
  refine wj_q _ (q_mv rfl) ?_
  refine wj_nil ?_
  refine wc_seq ?_
  refine wc_seq ?_
  refine wc_ops ?_
  refine wj_q _ (q_mv rfl) ?_
  refine wj_nil ?_
  revert h
  refine jn_i fun k337 qk337 => ?_
  intro h
  refine wc_mono2 (G := fun t m => ∃ (i322 : Int) (l325 : List (List Int)) (l330 : List (List Int)) (l335 : List (List Int)) (v323 : Value) (ms324 : List Chunk) (v327 : Value) (ms328 : List Chunk) (us329 : List SlT) (v333 : Value) (ms334 : List Chunk), k337 i322 l325 l330 l335 = some r ∧ OwnSl E_a32_El_int_u8 v323 ms324 l325 ∧ OwnSl El.sl v327 ms328 us329 ∧ RdAll (El.int .u8) W us329 l330 ∧ OwnSl E_a64_El_int_u8 v333 ms334 l335 ∧ Fit [(0, v0), (3, v323), (4, v327), (5, v333), (6, .int .i64 (i322))] (ms324 ++ (ms328 ++ (ms334 ++ []))) t m) ?_ ?_
  · refine wc_block ?_
    refine wc_loopJ (fun n558 t m => ∃ (l543 : List (List Int)) (l548 : List (List Int)) (l553 : List (List Int)) (i555 : Int) (i556 : Int) (v541 : Value) (ms542 : List Chunk) (v545 : Value) (ms546 : List Chunk) (us547 : List SlT) (v551 : Value) (ms552 : List Chunk), fareboxlaw08_SignEach_l1 p0 k337 n558 l543 l548 l553 i555 i556 = some r ∧ OwnSl E_a32_El_int_u8 v541 ms542 l543 ∧ OwnSl El.sl v545 ms546 us547 ∧ RdAll (El.int .u8) W us547 l548 ∧ OwnSl E_a64_El_int_u8 v551 ms552 l553 ∧ Fit [(0, v0), (3, v541), (4, v545), (5, v551), (6, .int .i64 (i555)), (7, .int .i64 (i556))] (ms552 ++ (ms542 ++ (ms546 ++ []))) t m) big ?_ ?_
    · exact ⟨[], [], [], (p0.length : Int), 0, (.slice none 0 0), [], (.slice none 0 0), [], [], (.slice none 0 0), [], h, own_nil, own_nil, .nil, own_nil, ⟨⟨rfl, rfl, rfl, rfl, rfl, rfl, trivial⟩, (.no (.no (.no .nil)))⟩⟩
    · rintro n558 t m ⟨l543, l548, l553, i555, i556, v541, ms542, v545, ms546, us547, v551, ms552, h, O544, O549, B550, O554, hF⟩
      refine wc_fit hF ?_
      clear hF
      rcases n558 with _ | n558
      · exact none_i h
      have h : fareboxlaw08_SignEach_b1 p0 k337 (fareboxlaw08_SignEach_l1 p0 k337 n558) l543 l548 l553 i555 i556 = some r := h
      unfold fareboxlaw08_SignEach_b1 at h
      obtain ⟨k557, qk557⟩ : ∃ k, k = fareboxlaw08_SignEach_l1 p0 k337 n558 := ⟨_, rfl⟩
      try rw [← qk557] at h
      refine wc_seq ?_
      refine wc_seq ?_
      refine wc_ops ?_
      refine wj_q _ (q_mv rfl) ?_
      refine wj_q _ (q_mv rfl) ?_
      refine wj_q _ ((len_nlP (q_lenP rfl (Shp.rd A0)) zipG_len)) ?_
      refine wj_q _ (q_bin rfl rfl rfl) ?_
      refine wj_nil ?_
      refine wc_if (c := (decide (i556 < (p0.length : Int)))) rfl (fun d560 => ?_) (fun d560 => ?_)
      · have h := br_t h d560
        refine wc_skip ?_
        refine wc_seq ?_
        revert h
        refine jn_i fun k613 qk613 => ?_
        intro h
        refine wc_mono2 (G := fun t m => ∃ (l600 : List (List Int)) (l605 : List (List Int)) (l610 : List (List Int)) (i612 : Int) (v598 : Value) (ms599 : List Chunk) (v602 : Value) (ms603 : List Chunk) (us604 : List SlT) (v608 : Value) (ms609 : List Chunk), k613 l600 l605 l610 i612 = some r ∧ OwnSl E_a32_El_int_u8 v598 ms599 l600 ∧ OwnSl El.sl v602 ms603 us604 ∧ RdAll (El.int .u8) W us604 l605 ∧ OwnSl E_a64_El_int_u8 v608 ms609 l610 ∧ Fit [(0, v0), (3, v598), (4, v602), (5, v608), (6, .int .i64 (i612)), (7, .int .i64 (i556))] (ms603 ++ (ms599 ++ (ms609 ++ []))) t m) ?_ ?_
        · refine wc_block ?_
          refine wc_seq ?_
          revert h
          refine chk_i fun c615 => ?_
          refine bnd_i fun x616 ex616 => ?_
          refine chk_i fun c620 => ?_
          refine bnd_i fun l621 el621 => ?_
          intro h
          refine wc_ops ?_
          refine wj_q _ (q_mv rfl) ?_
          refine wj_q _ (q_mv rfl) ?_
          refine wj_q _ (q_mv rfl) ?_
          refine wj_q _ (q_iasP rfl rfl (Shp.rd A0) (zipG_b c615)) ?_
          refine wj_q _ (q_fa rfl) ?_
          refine wj_q _ (az (fun (x616 : fareboxlaw08_Case) => agg [.ints .u8 32 (x616.gKey)]) ex616 (q_ldM (c := 0) (E := EC_fareboxlaw08_Case) (s := [.ints .u8 32 (((p0.getD (i556).toNat fareboxlaw08_Case_z)).gKey), .one ((slV (us0.getD (i556).toNat (none, 0, 0)))), .ints .u8 64 (((p0.getD (i556).toNat fareboxlaw08_Case_z)).gSig)]) rfl (rd_arg A0 apart0) (zipG_n c615) (zipG_cell (E := EC_fareboxlaw08_Case) (inB_n c615)) rfl)) ?_
          refine wj_e (ef_bsO (E := E_a32_El_int_u8) (xs := [x616.gKey]) (.agg rfl rfl rfl BdR.nil) (.cons (p := [.ints .u8 32 (x616.gKey)]) rfl .nil) rfl fun v617 ms618 O619 => ?_)
          refine wj_e (ef_appO (E := E_a32_El_int_u8) el621 rfl O544 (.app (.app .here)) rfl (rd_own O619 .here) c620 fun v622 ms623 O624 => ?_)
          refine wj_q _ (q_mv rfl) ?_
          refine wj_nil ?_
          refine wc_seq ?_
          revert h
          refine chk_i fun c626 => ?_
          refine bnd_i fun x627 ex627 => ?_
          refine chk_i fun c631 => ?_
          refine bnd_i fun l632 el632 => ?_
          intro h
          refine wc_ops ?_
          refine wj_q _ (q_mv rfl) ?_
          refine wj_q _ (q_mv rfl) ?_
          refine wj_q _ (q_mv rfl) ?_
          refine wj_q _ (q_iasP rfl rfl (Shp.rd A0) (zipG_b c626)) ?_
          refine wj_q _ (q_fa rfl) ?_
          refine wj_q _ (q_ldM1 (c := 32) (E := EC_fareboxlaw08_Case) (s := [.ints .u8 32 (((p0.getD (i556).toNat fareboxlaw08_Case_z)).gKey), .one ((slV (us0.getD (i556).toNat (none, 0, 0)))), .ints .u8 64 (((p0.getD (i556).toNat fareboxlaw08_Case_z)).gSig)]) rfl (rd_arg A0 apart0) (zipG_n c626) (zipG_cell (E := EC_fareboxlaw08_Case) (inB_n c626)) rfl) ?_
          refine wj_e (ef_bsO (E := El.sl) (xs := [unS (slV (us0.getD (i556).toNat (none, 0, 0)))]) (.one rfl (IsSl.cells (Shp.isSl (Shp.rd (show RdSl (El.int .u8) W (slV (us0.getD (i556).toNat (none, 0, 0))) (x627.gMessage) from by rw [ex627]; exact B0 (i556).toNat (inB_n c626))))) rfl BdR.nil) (.cons (p := [.one (slV (us0.getD (i556).toNat (none, 0, 0)))]) (sl_cell (Shp.isSl (Shp.rd (show RdSl (El.int .u8) W (slV (us0.getD (i556).toNat (none, 0, 0))) (x627.gMessage) from by rw [ex627]; exact B0 (i556).toNat (inB_n c626))))) .nil) rfl fun v628 ms629 O630 => ?_)
          refine wj_e (ef_appO (E := El.sl) (xs := us547) (ys := [unS (slV (us0.getD (i556).toNat (none, 0, 0)))]) rfl rfl O549 (.app (.app (.app (.app .here)))) rfl (rd_own O630 .here) (by rw [RdAll.len (B550 : RdAll (El.int .u8) W us547 l548), RdAll.len ((.cons (rd_unS (show RdSl (El.int .u8) W (slV (us0.getD (i556).toNat (none, 0, 0))) (x627.gMessage) from by rw [ex627]; exact B0 (i556).toNat (inB_n c626))) .nil) : RdAll (El.int .u8) W [unS (slV (us0.getD (i556).toNat (none, 0, 0)))] [x627.gMessage])]; exact c631) fun v633 ms634 O635 => ?_)
          refine wj_q _ (q_mv rfl) ?_
          refine wj_nil ?_
          refine wc_seq ?_
          revert h
          refine chk_i fun c637 => ?_
          refine bnd_i fun x638 ex638 => ?_
          refine chk_i fun c642 => ?_
          refine bnd_i fun l643 el643 => ?_
          intro h
          refine wc_ops ?_
          refine wj_q _ (q_mv rfl) ?_
          refine wj_q _ (q_mv rfl) ?_
          refine wj_q _ (q_mv rfl) ?_
          refine wj_q _ (q_iasP rfl rfl (Shp.rd A0) (zipG_b c637)) ?_
          refine wj_q _ (q_fa rfl) ?_
          refine wj_q _ (az (fun (x638 : fareboxlaw08_Case) => agg [.ints .u8 64 (x638.gSig)]) ex638 (q_ldM (c := 33) (E := EC_fareboxlaw08_Case) (s := [.ints .u8 32 (((p0.getD (i556).toNat fareboxlaw08_Case_z)).gKey), .one ((slV (us0.getD (i556).toNat (none, 0, 0)))), .ints .u8 64 (((p0.getD (i556).toNat fareboxlaw08_Case_z)).gSig)]) rfl (rd_arg A0 apart0) (zipG_n c637) (zipG_cell (E := EC_fareboxlaw08_Case) (inB_n c637)) rfl)) ?_
          refine wj_e (ef_bsO (E := E_a64_El_int_u8) (xs := [x638.gSig]) (.agg rfl rfl rfl BdR.nil) (.cons (p := [.ints .u8 64 (x638.gSig)]) rfl .nil) rfl fun v639 ms640 O641 => ?_)
          refine wj_e (ef_appO (E := E_a64_El_int_u8) el643 rfl O554 (.app (.app (.app (.app (.app .here))))) rfl (rd_own O641 .here) c642 fun v644 ms645 O646 => ?_)
          refine wj_q _ (q_mv rfl) ?_
          refine wj_nil ?_
          refine wc_seq ?_
          revert h
          refine chk_i fun c648 => ?_
          intro h
          refine wc_draw ?_
          refine ws_p1 _ (q_mv rfl) ?_
          refine ws_p1 _ (q_mv rfl) ?_
          refine ws_p1 _ ((len_nlP (q_lenP rfl (Shp.rd A0)) zipG_len)) ?_
          refine ws_p1 _ (q_bin rfl rfl rfl) ?_
          refine ws_p1 _ (q_mv rfl) ?_
          refine ws_and rfl rfl rfl (fun hg1 => qj_g rfl _ (q_mv rfl) (qj_g rfl _ (q_mv rfl) (qj_g rfl _ (q_iasP rfl rfl (Shp.rd A0) (zipG_b (and_l (imp_t c648 hg1)))) (qj_g rfl _ (q_fa rfl) (qj_g rfl _ (az (fun (zz : fareboxlaw08_Case) => agg [.ints .u8 32 (zz.gKey)]) rfl (q_ldM (c := 0) (E := EC_fareboxlaw08_Case) (s := [.ints .u8 32 (((p0.getD (i556).toNat fareboxlaw08_Case_z)).gKey), .one ((slV (us0.getD (i556).toNat (none, 0, 0)))), .ints .u8 64 (((p0.getD (i556).toNat fareboxlaw08_Case_z)).gSig)]) rfl (rd_arg A0 apart0) (zipG_n (and_l (imp_t c648 hg1))) (zipG_cell (E := EC_fareboxlaw08_Case) (inB_n (and_l (imp_t c648 hg1)))) rfl)) (qj_g rfl _ (q_mv rfl) (qj_g rfl _ (q_mv rfl) (qj_g rfl _ (q_iasP rfl rfl (Shp.rd A0) (zipG_b (and_l (and_r (imp_t c648 hg1))))) (qj_g rfl _ (q_fa rfl) (qj_g rfl _ (q_ldM1 (c := 32) (E := EC_fareboxlaw08_Case) (s := [.ints .u8 32 (((p0.getD (i556).toNat fareboxlaw08_Case_z)).gKey), .one ((slV (us0.getD (i556).toNat (none, 0, 0)))), .ints .u8 64 (((p0.getD (i556).toNat fareboxlaw08_Case_z)).gSig)]) rfl (rd_arg A0 apart0) (zipG_n (and_l (and_r (imp_t c648 hg1)))) (zipG_cell (E := EC_fareboxlaw08_Case) (inB_n (and_l (and_r (imp_t c648 hg1))))) rfl) (qj_g rfl _ (q_mv rfl) (qj_g rfl _ (q_mv rfl) (qj_g rfl _ (q_iasP rfl rfl (Shp.rd A0) (zipG_b (and_l (and_r (and_r (imp_t c648 hg1)))))) (qj_g rfl _ (q_fa rfl) (qj_g rfl _ (az (fun (zz : fareboxlaw08_Case) => agg [.ints .u8 64 (zz.gSig)]) rfl (q_ldM (c := 33) (E := EC_fareboxlaw08_Case) (s := [.ints .u8 32 (((p0.getD (i556).toNat fareboxlaw08_Case_z)).gKey), .one ((slV (us0.getD (i556).toNat (none, 0, 0)))), .ints .u8 64 (((p0.getD (i556).toNat fareboxlaw08_Case_z)).gSig)]) rfl (rd_arg A0 apart0) (zipG_n (and_l (and_r (and_r (imp_t c648 hg1))))) (zipG_cell (E := EC_fareboxlaw08_Case) (inB_n (and_l (and_r (and_r (imp_t c648 hg1)))))) rfl)) (qj_g rfl _ (q_call (vs := [agg [.ints .u8 32 (((p0.getD (i556).toNat fareboxlaw08_Case_z)).gKey)], (slV (us0.getD (i556).toNat (none, 0, 0))), agg [.ints .u8 64 (((p0.getD (i556).toNat fareboxlaw08_Case_z)).gSig)]]) (v := .bool (((sign_Verify (((p0.getD (i556).toNat fareboxlaw08_Case_z)).gKey) ((p0.getD (i556).toNat fareboxlaw08_Case_z).gMessage) (((p0.getD (i556).toNat fareboxlaw08_Case_z)).gSig)).getD false))) rfl (fun w hw => sign_Verify_spec (r := ((sign_Verify (((p0.getD (i556).toNat fareboxlaw08_Case_z)).gKey) ((p0.getD (i556).toNat fareboxlaw08_Case_z).gMessage) (((p0.getD (i556).toNat fareboxlaw08_Case_z)).gSig)).getD false)) (p0 := (((p0.getD (i556).toNat fareboxlaw08_Case_z)).gKey)) (p1 := ((p0.getD (i556).toNat fareboxlaw08_Case_z).gMessage)) (p2 := (((p0.getD (i556).toNat fareboxlaw08_Case_z)).gSig)) (getD_some (z := false) (and_r (and_r (and_r (imp_t c648 hg1))))) (hG.at hw (by simp)) ((rd_arg (show RdSl (El.int .u8) W (slV (us0.getD (i556).toNat (none, 0, 0))) ((p0.getD (i556).toNat fareboxlaw08_Case_z).gMessage) from B0 (i556).toNat (inB_n (and_l (and_r (imp_t c648 hg1))))) apart0) w hw))) (qj_g rfl _ (q_un rfl rfl) (qj_nil)))))))))))))))))) (fun hg1 => rfl) rfl ?_
          refine ws_nil ?_
          refine wc_if (c := ((i555 == (p0.length : Int)) && (!((sign_Verify (((p0.getD (i556).toNat fareboxlaw08_Case_z)).gKey) ((p0.getD (i556).toNat fareboxlaw08_Case_z).gMessage) (((p0.getD (i556).toNat fareboxlaw08_Case_z)).gSig)).getD false)))) rfl (fun d649 => ?_) (fun d649 => ?_)
          · have h := br_t h d649
            refine wc_ops ?_
            refine wj_q _ (q_mv rfl) ?_
            refine wj_q _ (q_mv rfl) ?_
            refine wj_nil ?_
            exact ⟨l621, l632, l643, i556, v622, ms623, v633, ms634, (us547 ++ [unS (slV (us0.getD (i556).toNat (none, 0, 0)))]), v644, ms645, h, O624, O635, (by rw [el632]; exact RdAll.app (B550 : RdAll (El.int .u8) W us547 l548) ((.cons (rd_unS (show RdSl (El.int .u8) W (slV (us0.getD (i556).toNat (none, 0, 0))) (x627.gMessage) from by rw [ex627]; exact B0 (i556).toNat (inB_n c626))) .nil) : RdAll (El.int .u8) W [unS (slV (us0.getD (i556).toNat (none, 0, 0)))] [x627.gMessage])), O646, ⟨⟨rfl, rfl, rfl, rfl, rfl, rfl, trivial⟩, (.all (.app (.app .here)) (.all (.app (.app (.app .here))) (.all .here .nil)))⟩⟩
          · have h := br_f h d649
            refine wc_skip ?_
            exact ⟨l621, l632, l643, i555, v622, ms623, v633, ms634, (us547 ++ [unS (slV (us0.getD (i556).toNat (none, 0, 0)))]), v644, ms645, h, O624, O635, (by rw [el632]; exact RdAll.app (B550 : RdAll (El.int .u8) W us547 l548) ((.cons (rd_unS (show RdSl (El.int .u8) W (slV (us0.getD (i556).toNat (none, 0, 0))) (x627.gMessage) from by rw [ex627]; exact B0 (i556).toNat (inB_n c626))) .nil) : RdAll (El.int .u8) W [unS (slV (us0.getD (i556).toNat (none, 0, 0)))] [x627.gMessage])), O646, ⟨⟨rfl, rfl, rfl, rfl, rfl, rfl, trivial⟩, (.all (.app (.app .here)) (.all (.app (.app (.app .here))) (.all .here .nil)))⟩⟩
        · rintro t m ⟨l600, l605, l610, i612, v598, ms599, v602, ms603, us604, v608, ms609, h, O601, O606, B607, O611, hF⟩
          refine wc_fit hF ?_
          clear hF
          subst qk613
          revert h
          refine bnd_i fun z652 ez652 => ?_
          intro h
          refine wc_ops ?_
          refine wj_q _ (q_mv rfl) ?_
          refine wj_q _ (iz ez652 (q_bin rfl rfl rfl)) ?_
          refine wj_q _ (q_mv rfl) ?_
          refine wj_nil ?_
          rw [qk557] at h
          exact ⟨n558, Nat.lt_succ_self _, l600, l605, l610, i612, z652, v598, ms599, v602, ms603, us604, v608, ms609, h, O601, O606, B607, O611, ⟨⟨rfl, rfl, rfl, rfl, rfl, rfl, trivial⟩, (.all (.app (.app .here)) (.all (.app .here) (.all .here .nil)))⟩⟩
      · have h := br_f h d560
        refine wc_exit _ rfl ?_
        exact ⟨i555, l543, l548, l553, v541, ms542, v545, ms546, us547, v551, ms552, h, O544, O549, B550, O554, ⟨⟨rfl, rfl, rfl, rfl, rfl, trivial⟩, (.all (.app .here) (.all (.app .here) (.all .here .nil)))⟩⟩
  · rintro t m ⟨i322, l325, l330, l335, v323, ms324, v327, ms328, us329, v333, ms334, h, O326, O331, B332, O336, hF⟩
    refine wc_fit hF ?_
    clear hF
    subst qk337
    refine wc_seq ?_
    revert h
    refine opt_i fun y654 ey654 => ?_
    intro h
    refine wc_ops ?_
    refine wj_q _ (q_mv rfl) ?_
    refine wj_q _ (q_mv rfl) ?_
    refine wj_q _ (q_mv rfl) ?_
    refine wj_q _ (q_call (vs := [v323, v327, v333]) (v := .tuple #[.int .i64 (y654.1), .bool (y654.2)]) rfl (fun w hw => sign_VerifyAll_spec (r := y654) (p0 := l325) (p1 := l330) (p2 := l335) ey654 (hG.at hw (by simp)) ((rd_own O326 .here) w hw) (rd_own O331 (.app .here) w hw) (RdAll.still B332 hw.now) ((rd_own O336 (.app (.app .here))) w hw))) ?_
    refine wj_q _ (q_mv rfl) ?_
    refine wj_q _ (q_ext rfl rfl) ?_
    refine wj_q _ (q_ext rfl rfl) ?_
    refine wj_q _ (q_mv rfl) ?_
    refine wj_q _ (q_mv rfl) ?_
    refine wj_nil ?_
    refine wc_seq ?_
    revert h
    refine chk_i fun c656 => ?_
    intro h
    refine wc_ops ?_
    refine wj_q _ (q_mv rfl) ?_
    refine wj_q _ (q_mv rfl) ?_
    refine wj_q _ (q_bin rfl rfl rfl) ?_
    refine wj_q _ (q_mv rfl) ?_
    refine wj_and rfl rfl rfl (fun hg1 => qj_g rfl _ (q_mv rfl) (qj_g rfl _ (q_mv rfl) (qj_g rfl _ (q_mv rfl) (qj_g rfl _ ((len_nlP (q_lenP rfl (Shp.rd A0)) zipG_len)) (qj_g rfl _ (q_bin rfl rfl rfl) (qj_g rfl _ (q_beq rfl rfl) (qj_nil))))))) (fun hg1 => rfl) rfl ?_
    refine wj_q _ (q_mv rfl) ?_
    refine wj_and rfl rfl rfl (fun hg1 => qj_g rfl _ (q_call (vs := []) (v := .bool (((fareboxlaw08_printed).getD false))) rfl (fun w hw => fareboxlaw08_printed_spec (r := ((fareboxlaw08_printed).getD false)) (getD_some (z := false) (imp_t c656 hg1)) (hG.at hw (by simp)))) (qj_nil)) (fun hg1 => rfl) rfl ?_
    refine wj_q _ (q_mv rfl) ?_
    refine wj_nil ?_
    refine wc_ret ?_
    revert h; refine ret_i fun h => ?_
    subst h
    exact ⟨_, (.cons (.tmp rfl) .nil), rfl⟩
def fareboxlaw08_SignHolds (p0 : List Int) (p1 : List Int) : Option (Bool) :=
 opt (sign_Public p0) fun y4 =>
 opt (sign_Sign p0 p1) fun y5 =>
 opt (sign_Verify y4 p1 y5) fun y6 =>
 chk (imp y6 ((fareboxlaw08_printed).isSome)) <|
 some (y6 && ((fareboxlaw08_printed).getD false))
theorem fareboxlaw08_SignHolds_spec {W : World} {r : Bool} {p0 : List Int} {p1 : List Int} {v1 : Value} (h : fareboxlaw08_SignHolds p0 p1 = some r) (hG : Globs W) (A1 : RdSl (El.int .u8) W v1 p1) :
    Calls Tryd.prog 4 [agg [.ints .u8 32 (p0)], v1].toArray W (ret1 W (.bool (r))) := by
  unfold fareboxlaw08_SignHolds at h
  refine calls_val mo ok4 rfl ?_
  refine wc_seq ?_
  refine wc_ops ?_
  refine wj_e (ef_bx (s := [.ints .u8 32 (p0)]) rfl fun b2 hb2 => ?_)
  refine wj_q _ (q_mv rfl) ?_
  refine wj_nil ?_
  refine wc_seq ?_
  revert h
  refine opt_i fun y4 ey4 => ?_
  refine opt_i fun y5 ey5 => ?_
  refine opt_i fun y6 ey6 => ?_
  refine chk_i fun c7 => ?_
  intro h
  refine wc_draw ?_
  refine ws_p1 _ (q_mv rfl) ?_
  refine ws_p1 _ (q_mv rfl) ?_
  refine ws_q1 _ (q_ld (p := [.ints .u8 32 (p0)]) rfl .here rfl) ?_
  refine ws_p1 _ (q_call (vs := [agg [.ints .u8 32 (p0)]]) (v := agg [.ints .u8 32 (y4)]) rfl (fun w hw => sign_Public_spec (r := y4) (p0 := p0) ey4 (hG.at hw (by simp)))) ?_
  refine ws_q1 _ (q_ld (p := [.ints .u8 32 (p0)]) rfl .here rfl) ?_
  refine ws_q1 _ (q_call (vs := [agg [.ints .u8 32 (p0)], v1]) (v := agg [.ints .u8 64 (y5)]) rfl (fun w hw => sign_Sign_spec (r := y5) (p0 := p0) (p1 := p1) ey5 (hG.at hw (by simp)) ((rd_arg A1 apart0) w hw))) ?_
  refine ws_q1 _ (q_call (vs := [agg [.ints .u8 32 (y4)], v1, agg [.ints .u8 64 (y5)]]) (v := .bool (y6)) rfl (fun w hw => sign_Verify_spec (r := y6) (p0 := y4) (p1 := p1) (p2 := y5) ey6 (hG.at hw (by simp)) ((rd_arg A1 apart0) w hw))) ?_
  refine ws_p1 _ (q_mv rfl) ?_
  refine wsp_and rfl rfl rfl (fun hg1 => qj_g rfl _ (q_call (vs := []) (v := .bool (((fareboxlaw08_printed).getD false))) rfl (fun w hw => fareboxlaw08_printed_spec (r := ((fareboxlaw08_printed).getD false)) (getD_some (z := false) (imp_t c7 hg1)) (hG.at hw (by simp)))) (qj_nil)) (fun hg1 => rfl) rfl ?_
  refine ws_p1 _ (q_mv rfl) ?_
  refine ws_nil ?_
  refine wc_ret ?_
  revert h; refine ret_i fun h => ?_
  subst h
  exact ⟨_, (.cons (.tmp rfl) .nil), rfl⟩
def fareboxlaw08_order  : Option ((List Int)) :=
 bnd (([237, 211, 245, 92, 26, 99, 18, 88, 214, 156, 247, 162, 222, 249, 222, 20, 0, 0, 0, 0, 0, 0, 0, 0, 0, 0, 0, 0, 0, 0, 0, 16] : List Int)) fun z4 =>
 some z4
theorem fareboxlaw08_order_spec {W : World} {r : (List Int)} (h : fareboxlaw08_order  = some r)  :
    Calls Tryd.prog 27 [].toArray W (ret1 W (agg [.ints .u8 32 (r)])) := by
  unfold fareboxlaw08_order at h
  refine calls_val mo ok27 rfl ?_
  refine wc_seq ?_
  refine wc_ops ?_
  refine wj_e (ef_al fun b2 hb2 => ?_)
  refine wj_nil ?_
  refine wc_seq ?_
  revert h
  refine bnd_i fun z4 ez4 => ?_
  intro h
  refine wc_ops ?_
  refine wj_q _ (az (fun z => agg [.ints .u8 32 z]) ez4 (q_bd (.one rfl rfl rfl (.one rfl rfl rfl (.one rfl rfl rfl (.one rfl rfl rfl (.one rfl rfl rfl (.one rfl rfl rfl (.one rfl rfl rfl (.one rfl rfl rfl (.one rfl rfl rfl (.one rfl rfl rfl (.one rfl rfl rfl (.one rfl rfl rfl (.one rfl rfl rfl (.one rfl rfl rfl (.one rfl rfl rfl (.one rfl rfl rfl (.one rfl rfl rfl BdR.nil))))))))))))))))))) ?_
  refine wj_e (ef_st (q := [.ints .u8 32 (z4)]) rfl rfl rfl rfl rfl .here ?_)
  refine wj_nil ?_
  refine wc_ret ?_
  revert h; refine ret_i fun h => ?_
  subst h
  exact ⟨_, (.cons (.agg rfl .here rfl) .nil), rfl⟩
def fareboxlaw08_raised_b1 (y5 : (List Int)) (k78 : (Int) → (List Int) → Option ((List Int) × Bool)) (k122 : (Int) → (Int) → (List Int) → Option ((List Int) × Bool)) (i119 : Int) (i120 : Int) (a121 : List Int) : Option ((List Int) × Bool) :=
 br ((decide (i120 < 32))) (
 bnd (IntKind.wrap .i64 (32 + i120)) fun z127 =>
 chk (inB z127 64) <|
 chk (inB i120 32) <|
 bnd (a121.getD (z127).toNat 0) fun z130 =>
 bnd (IntKind.wrap .i64 z130) fun z131 =>
 bnd (y5.getD (i120).toNat 0) fun z132 =>
 bnd (IntKind.wrap .i64 z132) fun z133 =>
 bnd (IntKind.wrap .i64 (z131 + z133)) fun z134 =>
 bnd (IntKind.wrap .i64 (z134 + i119)) fun z135 =>
 bnd (IntKind.wrap .i64 (32 + i120)) fun z137 =>
 bnd (Int.tmod z135 256) fun z138 =>
 bnd (IntKind.wrap .u8 z138) fun z139 =>
 chk (inB z137 64) <|
 bnd (setD a121 (z137).toNat z139) fun l141 =>
 bnd (IntKind.wrap .i64 (Int.tdiv z135 256)) fun z143 =>
 bnd (IntKind.wrap .i64 (i120 + 1)) fun z145 =>
 k122 z143 z145 l141
 ) (
 k78 i119 a121
 )
def fareboxlaw08_raised_l1 (y5 : (List Int)) (k78 : (Int) → (List Int) → Option ((List Int) × Bool)) : Nat → (Int) → (Int) → (List Int) → Option ((List Int) × Bool)
  | 0, _, _, _ => none
  | n + 1, i119, i120, a121 => fareboxlaw08_raised_b1 y5 k78 (fareboxlaw08_raised_l1 y5 k78 n) i119 i120 a121
def fareboxlaw08_raised (p0 : List Int) : Option ((List Int) × Bool) :=
 opt (fareboxlaw08_order) fun y5 =>
 jn (fun (i76 : Int) (a77 : List Int) => some (a77, (i76 == 0))) fun k78 => fareboxlaw08_raised_l1 y5 k78 big 0 0 p0
theorem fareboxlaw08_raised_spec {W : World} {r : (List Int) × Bool} {p0 : List Int} (h : fareboxlaw08_raised p0 = some r)  :
    Calls Tryd.prog 12 [agg [.ints .u8 64 (p0)]].toArray W (ret1 W (.tuple #[agg [.ints .u8 64 (r.1)], .bool (r.2)])) := by
  unfold fareboxlaw08_raised at h
  refine calls_val mo ok12 rfl ?_
  refine wc_seq ?_
  refine wc_ops ?_
  refine wj_e (ef_bx (s := [.ints .u8 64 (p0)]) rfl fun b2 hb2 => ?_)
  refine wj_e (ef_al fun b3 hb3 => ?_)
  refine wj_q _ (q_mv rfl) ?_
  refine wj_nil ?_
  refine wc_seq ?_
  revert h
  refine opt_i fun y5 ey5 => ?_
  intro h
  refine wc_ops ?_
  refine wj_q _ (q_call (vs := []) (v := agg [.ints .u8 32 (y5)]) rfl (fun w hw => fareboxlaw08_order_spec (r := y5) ey5 )) ?_
  refine wj_e (ef_al fun b6 hb6 => ?_)
  refine wj_e (ef_st (q := [.ints .u8 32 (y5)]) rfl rfl rfl rfl rfl .here ?_)
  refine wj_nil ?_
  refine wc_seq ?_
  refine wc_ops ?_
  refine wj_q _ (q_mv rfl) ?_
  refine wj_nil ?_
  refine wc_seq ?_
  refine wc_seq ?_
  refine wc_ops ?_
  refine wj_q _ (q_mv rfl) ?_
  refine wj_nil ?_
  revert h
  refine jn_i fun k78 qk78 => ?_
  intro h
  refine wc_mono2 (G := fun t m => ∃ (i76 : Int) (a77 : List Int), k78 i76 a77 = some r ∧ Fit [(1, .pointer (some ⟨b2, 0, none⟩)), (2, .pointer (some ⟨b3, 0, none⟩)), (5, .int .i64 (i76))] (ck b6 26 [.ints .u8 32 (y5)] :: (ck b3 30 [.ints .u8 64 ((List.replicate 64 0))] :: (ck b2 30 [.ints .u8 64 (a77)] :: []))) t m) ?_ ?_
  · refine wc_block ?_
    refine wc_loopJ (fun n123 t m => ∃ (i119 : Int) (i120 : Int) (a121 : List Int), fareboxlaw08_raised_l1 y5 k78 n123 i119 i120 a121 = some r ∧ Fit [(1, .pointer (some ⟨b2, 0, none⟩)), (2, .pointer (some ⟨b3, 0, none⟩)), (4, .pointer (some ⟨b6, 0, none⟩)), (5, .int .i64 (i119)), (6, .int .i64 (i120))] (ck b6 26 [.ints .u8 32 (y5)] :: (ck b3 30 [.ints .u8 64 ((List.replicate 64 0))] :: (ck b2 30 [.ints .u8 64 (a121)] :: []))) t m) big ?_ ?_
    · exact ⟨0, 0, p0, h, ⟨⟨rfl, rfl, rfl, rfl, rfl, trivial⟩, (.one .here (.one .here (.one .here .nil)))⟩⟩
    · rintro n123 t m ⟨i119, i120, a121, h, hF⟩
      refine wc_fit hF ?_
      clear hF
      rcases n123 with _ | n123
      · exact none_i h
      have h : fareboxlaw08_raised_b1 y5 k78 (fareboxlaw08_raised_l1 y5 k78 n123) i119 i120 a121 = some r := h
      unfold fareboxlaw08_raised_b1 at h
      obtain ⟨k122, qk122⟩ : ∃ k, k = fareboxlaw08_raised_l1 y5 k78 n123 := ⟨_, rfl⟩
      try rw [← qk122] at h
      refine wc_seq ?_
      refine wc_seq ?_
      refine wc_ops ?_
      refine wj_q _ (q_mv rfl) ?_
      refine wj_q _ (q_bin rfl rfl rfl) ?_
      refine wj_nil ?_
      refine wc_if (c := (decide (i120 < 32))) rfl (fun d125 => ?_) (fun d125 => ?_)
      · have h := br_t h d125
        refine wc_skip ?_
        refine wc_seq ?_
        refine wc_block ?_
        refine wc_seq ?_
        revert h
        refine bnd_i fun z127 ez127 => ?_
        refine chk_i fun c128 => ?_
        refine chk_i fun c129 => ?_
        refine bnd_i fun z130 ez130 => ?_
        refine bnd_i fun z131 ez131 => ?_
        refine bnd_i fun z132 ez132 => ?_
        refine bnd_i fun z133 ez133 => ?_
        refine bnd_i fun z134 ez134 => ?_
        refine bnd_i fun z135 ez135 => ?_
        intro h
        refine wc_draw ?_
        refine ws_p1 _ (q_mv rfl) ?_
        refine ws_p1 _ (iz ez127 (q_bin rfl rfl rfl)) ?_
        refine ws_p1 _ (q_ia rfl rfl (inB_z c128)) ?_
        refine ws_p1 _ (q_mv rfl) ?_
        refine ws_p1 _ (q_ia rfl rfl (inB_z c129)) ?_
        refine ws_p1 _ (q_mv rfl) ?_
        refine ws_q1 _ (iz ez130 (q_ldi (base := 0) rfl (.there (.there .here)) rfl (inB_n c128))) ?_
        refine ws_p1 _ (iz ez131 (q_conv rfl)) ?_
        refine ws_q1 _ (iz ez132 (q_ldi (base := 0) rfl .here rfl (inB_n c129))) ?_
        refine ws_p1 _ (iz ez133 (q_conv rfl)) ?_
        refine ws_p1 _ (iz ez134 (q_bin rfl rfl rfl)) ?_
        refine ws_p1 _ (iz ez135 (q_bin rfl rfl rfl)) ?_
        refine ws_p1 _ (q_mv rfl) ?_
        refine ws_nil ?_
        refine wc_seq ?_
        revert h
        refine bnd_i fun z137 ez137 => ?_
        refine bnd_i fun z138 ez138 => ?_
        refine bnd_i fun z139 ez139 => ?_
        refine chk_i fun c140 => ?_
        refine bnd_i fun l141 el141 => ?_
        intro h
        refine wc_ops ?_
        refine wj_q _ (q_mv rfl) ?_
        refine wj_q _ (iz ez137 (q_bin rfl rfl rfl)) ?_
        refine wj_q _ (q_mv rfl) ?_
        refine wj_q _ (iz ez138 (q_rem rfl rfl (by decide))) ?_
        refine wj_q _ (iz ez139 (q_conv rfl)) ?_
        refine wj_q _ (q_ia rfl rfl (inB_z c140)) ?_
        refine wj_e (ef_stiz (q := [.ints .u8 64 (l141)]) (base := 0) el141 rfl rfl rfl (inB_n c140) rfl (.there (.there .here)) ?_)
        refine wj_nil ?_
        revert h
        refine bnd_i fun z143 ez143 => ?_
        intro h
        refine wc_ops ?_
        refine wj_q _ (q_mv rfl) ?_
        refine wj_q _ (iz ez143 (q_quo rfl rfl (by decide))) ?_
        refine wj_q _ (q_mv rfl) ?_
        refine wj_nil ?_
        revert h
        refine bnd_i fun z145 ez145 => ?_
        intro h
        refine wc_ops ?_
        refine wj_q _ (q_mv rfl) ?_
        refine wj_q _ (iz ez145 (q_bin rfl rfl rfl)) ?_
        refine wj_q _ (q_mv rfl) ?_
        refine wj_nil ?_
        rw [qk122] at h
        exact ⟨n123, Nat.lt_succ_self _, z143, z145, l141, h, ⟨⟨rfl, rfl, rfl, rfl, rfl, trivial⟩, (.one .here (.one .here (.one .here .nil)))⟩⟩
      · have h := br_f h d125
        refine wc_exit _ rfl ?_
        exact ⟨i119, a121, h, ⟨⟨rfl, rfl, rfl, trivial⟩, (.one .here (.one .here (.one .here .nil)))⟩⟩
  · rintro t m ⟨i76, a77, h, hF⟩
    refine wc_fit hF ?_
    clear hF
    subst qk78
    refine wc_seq ?_
    refine wc_ops ?_
    refine wj_q _ (q_ld (p := [.ints .u8 64 (a77)]) rfl (.there (.there .here)) rfl) ?_
    refine wj_q _ (q_mv rfl) ?_
    refine wj_q _ (q_bin rfl rfl rfl) ?_
    refine wj_e (ef_st (q := [.ints .u8 64 (a77)]) rfl rfl rfl rfl rfl (.there .here) ?_)
    refine wj_q _ (q_mv rfl) ?_
    refine wj_nil ?_
    refine wc_ret ?_
    revert h; refine ret_i fun h => ?_
    subst h
    exact ⟨_, (.cons (.agg rfl (.there .here) rfl) (.cons (.tmp rfl) .nil)), rfl⟩
def fareboxlaw08_SignOnce_b1 (p4 : List Int) (k71 : (List Int) → (List Int) → Option (Bool)) (k102 : (Int) → (List Int) → (List Int) → Option (Bool)) (i99 : Int) (a100 : List Int) (a101 : List Int) : Option (Bool) :=
 br ((decide (i99 < 32))) (
 bnd (IntKind.wrap .i64 (32 + i99)) fun z107 =>
 chk (inB i99 32) <|
 bnd (p4.getD (i99).toNat 0) fun z109 =>
 chk (inB z107 64) <|
 bnd (setD a101 (z107).toNat z109) fun l111 =>
 bnd (IntKind.wrap .i64 (32 + i99)) fun z113 =>
 chk (inB i99 32) <|
 bnd (p4.getD (i99).toNat 0) fun z115 =>
 chk (inB z113 64) <|
 bnd (setD a100 (z113).toNat z115) fun l117 =>
 bnd (IntKind.wrap .i64 (i99 + 1)) fun z119 =>
 k102 z119 l117 l111
 ) (
 k71 a100 a101
 )
def fareboxlaw08_SignOnce_l1 (p4 : List Int) (k71 : (List Int) → (List Int) → Option (Bool)) : Nat → (Int) → (List Int) → (List Int) → Option (Bool)
  | 0, _, _, _ => none
  | n + 1, i99, a100, a101 => fareboxlaw08_SignOnce_b1 p4 k71 (fareboxlaw08_SignOnce_l1 p4 k71 n) i99 a100 a101
def fareboxlaw08_SignOnce (p0 : List Int) (p1 : List Int) (p2 : List Int) (p3 : List Int) (p4 : List Int) : Option (Bool) :=
 opt (sign_Sign p0 p1) fun y7 =>
 opt (sign_Public p0) fun y10 =>
 opt (sign_Verify y10 p1 y7) fun y13 =>
 br ((!y13)) (
 some false
 ) (
 jn (fun (a69 : List Int) (a70 : List Int) => chk (imp (!(ieq 64 a70 y7)) ((sign_Verify y10 p1 a70).isSome)) <|
 br (((!(ieq 64 a70 y7)) && ((sign_Verify y10 p1 a70).getD false))) (
 some false
 ) (
 chk (imp (!(ieq 64 a69 p3)) ((sign_Verify p2 p1 p3).isSome)) <|
 chk (imp ((!(ieq 64 a69 p3)) && ((sign_Verify p2 p1 p3).getD false)) ((sign_Verify p2 p1 a69).isSome)) <|
 br ((((!(ieq 64 a69 p3)) && ((sign_Verify p2 p1 p3).getD false)) && ((sign_Verify p2 p1 a69).getD false))) (
 some false
 ) (
 opt (fareboxlaw08_raised y7) fun y130 =>
 chk (imp y130.2 ((sign_Verify y10 p1 y130.1).isSome)) <|
 chk (imp (y130.2 && (!((sign_Verify y10 p1 y130.1).getD false))) ((fareboxlaw08_printed).isSome)) <|
 some ((y130.2 && (!((sign_Verify y10 p1 y130.1).getD false))) && ((fareboxlaw08_printed).getD false))
 )
 )) fun k71 => fareboxlaw08_SignOnce_l1 p4 k71 big 0 p3 y7
 )
theorem fareboxlaw08_SignOnce_spec {W : World} {r : Bool} {p0 : List Int} {p1 : List Int} {p2 : List Int} {p3 : List Int} {p4 : List Int} {v1 : Value} (h : fareboxlaw08_SignOnce p0 p1 p2 p3 p4 = some r) (hG : Globs W) (A1 : RdSl (El.int .u8) W v1 p1) :
    Calls Tryd.prog 5 [agg [.ints .u8 32 (p0)], v1, agg [.ints .u8 32 (p2)], agg [.ints .u8 64 (p3)], agg [.ints .u8 32 (p4)]].toArray W (ret1 W (.bool (r))) := by
  unfold fareboxlaw08_SignOnce at h
  refine calls_val mo ok5 rfl ?_
  refine wc_seq ?_
  refine wc_ops ?_
  refine wj_e (ef_bx (s := [.ints .u8 32 (p0)]) rfl fun b2 hb2 => ?_)
  refine wj_e (ef_bx (s := [.ints .u8 32 (p2)]) rfl fun b3 hb3 => ?_)
  refine wj_e (ef_bx (s := [.ints .u8 64 (p3)]) rfl fun b4 hb4 => ?_)
  refine wj_e (ef_bx (s := [.ints .u8 32 (p4)]) rfl fun b5 hb5 => ?_)
  refine wj_q _ (q_mv rfl) ?_
  refine wj_nil ?_
  refine wc_seq ?_
  revert h
  refine opt_i fun y7 ey7 => ?_
  intro h
  refine wc_ops ?_
  refine wj_q _ (q_ld (p := [.ints .u8 32 (p0)]) rfl (.there (.there (.there .here))) rfl) ?_
  refine wj_q _ (q_mv rfl) ?_
  refine wj_q _ (q_call (vs := [agg [.ints .u8 32 (p0)], v1]) (v := agg [.ints .u8 64 (y7)]) rfl (fun w hw => sign_Sign_spec (r := y7) (p0 := p0) (p1 := p1) ey7 (hG.at hw (by simp)) ((rd_arg A1 apart0) w hw))) ?_
  refine wj_e (ef_al fun b8 hb8 => ?_)
  refine wj_e (ef_st (q := [.ints .u8 64 (y7)]) rfl rfl rfl rfl rfl .here ?_)
  refine wj_nil ?_
  refine wc_seq ?_
  revert h
  refine opt_i fun y10 ey10 => ?_
  intro h
  refine wc_ops ?_
  refine wj_q _ (q_ld (p := [.ints .u8 32 (p0)]) rfl (.there (.there (.there (.there .here)))) rfl) ?_
  refine wj_q _ (q_call (vs := [agg [.ints .u8 32 (p0)]]) (v := agg [.ints .u8 32 (y10)]) rfl (fun w hw => sign_Public_spec (r := y10) (p0 := p0) ey10 (hG.at hw (by simp)))) ?_
  refine wj_e (ef_al fun b11 hb11 => ?_)
  refine wj_e (ef_st (q := [.ints .u8 32 (y10)]) rfl rfl rfl rfl rfl .here ?_)
  refine wj_nil ?_
  refine wc_seq ?_
  refine wc_seq ?_
  revert h
  refine opt_i fun y13 ey13 => ?_
  intro h
  refine wc_ops ?_
  refine wj_q _ (q_ld (p := [.ints .u8 32 (y10)]) rfl .here rfl) ?_
  refine wj_q _ (q_mv rfl) ?_
  refine wj_q _ (q_ld (p := [.ints .u8 64 (y7)]) rfl (.there .here) rfl) ?_
  refine wj_q _ (q_call (vs := [agg [.ints .u8 32 (y10)], v1, agg [.ints .u8 64 (y7)]]) (v := .bool (y13)) rfl (fun w hw => sign_Verify_spec (r := y13) (p0 := y10) (p1 := p1) (p2 := y7) ey13 (hG.at hw (by simp)) ((rd_arg A1 apart0) w hw))) ?_
  refine wj_q _ (q_un rfl rfl) ?_
  refine wj_nil ?_
  refine wc_if (c := (!y13)) rfl (fun d14 => ?_) (fun d14 => ?_)
  · have h := br_t h d14
    refine wc_seq ?_
    refine wc_ops ?_
    refine wj_q _ (q_mv rfl) ?_
    refine wj_nil ?_
    refine wc_ret ?_
    revert h; refine ret_i fun h => ?_
    subst h
    exact ⟨_, (.cons (.tmp rfl) .nil), rfl⟩
  · have h := br_f h d14
    refine wc_skip ?_
    refine wc_seq ?_
    refine wc_ops ?_
    refine wj_q _ (q_ld (p := [.ints .u8 64 (y7)]) rfl (.there .here) rfl) ?_
    refine wj_e (ef_al fun b17 hb17 => ?_)
    refine wj_e (ef_st (q := [.ints .u8 64 (y7)]) rfl rfl rfl rfl rfl .here ?_)
    refine wj_nil ?_
    refine wc_seq ?_
    refine wc_ops ?_
    refine wj_q _ (q_ld (p := [.ints .u8 64 (p3)]) rfl (.there (.there (.there (.there .here)))) rfl) ?_
    refine wj_e (ef_al fun b19 hb19 => ?_)
    refine wj_e (ef_st (q := [.ints .u8 64 (p3)]) rfl rfl rfl rfl rfl .here ?_)
    refine wj_nil ?_
    refine wc_seq ?_
    refine wc_seq ?_
    refine wc_ops ?_
    refine wj_q _ (q_mv rfl) ?_
    refine wj_nil ?_
    revert h
    refine jn_i fun k71 qk71 => ?_
    intro h
    refine wc_mono2 (G := fun t m => ∃ (a69 : List Int) (a70 : List Int), k71 a69 a70 = some r ∧ Fit [(1, v1), (7, .pointer (some ⟨b3, 0, none⟩)), (8, .pointer (some ⟨b4, 0, none⟩)), (11, .pointer (some ⟨b8, 0, none⟩)), (12, .pointer (some ⟨b11, 0, none⟩)), (13, .pointer (some ⟨b17, 0, none⟩)), (14, .pointer (some ⟨b19, 0, none⟩))] (ck b19 30 [.ints .u8 64 (a69)] :: (ck b17 30 [.ints .u8 64 (a70)] :: (ck b11 27 [.ints .u8 32 (y10)] :: (ck b8 30 [.ints .u8 64 (y7)] :: (ck b5 26 [.ints .u8 32 (p4)] :: (ck b4 30 [.ints .u8 64 (p3)] :: (ck b3 27 [.ints .u8 32 (p2)] :: (ck b2 38 [.ints .u8 32 (p0)] :: [])))))))) t m) ?_ ?_
    · refine wc_block ?_
      refine wc_loopJ (fun n103 t m => ∃ (i99 : Int) (a100 : List Int) (a101 : List Int), fareboxlaw08_SignOnce_l1 p4 k71 n103 i99 a100 a101 = some r ∧ Fit [(1, v1), (7, .pointer (some ⟨b3, 0, none⟩)), (8, .pointer (some ⟨b4, 0, none⟩)), (9, .pointer (some ⟨b5, 0, none⟩)), (11, .pointer (some ⟨b8, 0, none⟩)), (12, .pointer (some ⟨b11, 0, none⟩)), (13, .pointer (some ⟨b17, 0, none⟩)), (14, .pointer (some ⟨b19, 0, none⟩)), (15, .int .i64 (i99))] (ck b19 30 [.ints .u8 64 (a100)] :: (ck b17 30 [.ints .u8 64 (a101)] :: (ck b11 27 [.ints .u8 32 (y10)] :: (ck b8 30 [.ints .u8 64 (y7)] :: (ck b5 26 [.ints .u8 32 (p4)] :: (ck b4 30 [.ints .u8 64 (p3)] :: (ck b3 27 [.ints .u8 32 (p2)] :: (ck b2 38 [.ints .u8 32 (p0)] :: [])))))))) t m) big ?_ ?_
      · exact ⟨0, p3, y7, h, ⟨⟨rfl, rfl, rfl, rfl, rfl, rfl, rfl, rfl, rfl, trivial⟩, (.one .here (.one .here (.one .here (.one .here (.one .here (.one .here (.one .here (.one .here .nil))))))))⟩⟩
      · rintro n103 t m ⟨i99, a100, a101, h, hF⟩
        refine wc_fit hF ?_
        clear hF
        rcases n103 with _ | n103
        · exact none_i h
        have h : fareboxlaw08_SignOnce_b1 p4 k71 (fareboxlaw08_SignOnce_l1 p4 k71 n103) i99 a100 a101 = some r := h
        unfold fareboxlaw08_SignOnce_b1 at h
        obtain ⟨k102, qk102⟩ : ∃ k, k = fareboxlaw08_SignOnce_l1 p4 k71 n103 := ⟨_, rfl⟩
        try rw [← qk102] at h
        refine wc_seq ?_
        refine wc_seq ?_
        refine wc_ops ?_
        refine wj_q _ (q_mv rfl) ?_
        refine wj_q _ (q_bin rfl rfl rfl) ?_
        refine wj_nil ?_
        refine wc_if (c := (decide (i99 < 32))) rfl (fun d105 => ?_) (fun d105 => ?_)
        · have h := br_t h d105
          refine wc_skip ?_
          refine wc_seq ?_
          refine wc_block ?_
          refine wc_seq ?_
          revert h
          refine bnd_i fun z107 ez107 => ?_
          refine chk_i fun c108 => ?_
          refine bnd_i fun z109 ez109 => ?_
          refine chk_i fun c110 => ?_
          refine bnd_i fun l111 el111 => ?_
          intro h
          refine wc_ops ?_
          refine wj_q _ (q_mv rfl) ?_
          refine wj_q _ (iz ez107 (q_bin rfl rfl rfl)) ?_
          refine wj_q _ (q_mv rfl) ?_
          refine wj_q _ (q_ia rfl rfl (inB_z c108)) ?_
          refine wj_q _ (iz ez109 (q_ldi (base := 0) rfl (.there (.there (.there (.there .here)))) rfl (inB_n c108))) ?_
          refine wj_q _ (q_ia rfl rfl (inB_z c110)) ?_
          refine wj_e (ef_stiz (q := [.ints .u8 64 (l111)]) (base := 0) el111 rfl rfl rfl (inB_n c110) rfl (.there .here) ?_)
          refine wj_nil ?_
          revert h
          refine bnd_i fun z113 ez113 => ?_
          refine chk_i fun c114 => ?_
          refine bnd_i fun z115 ez115 => ?_
          refine chk_i fun c116 => ?_
          refine bnd_i fun l117 el117 => ?_
          intro h
          refine wc_ops ?_
          refine wj_q _ (q_mv rfl) ?_
          refine wj_q _ (iz ez113 (q_bin rfl rfl rfl)) ?_
          refine wj_q _ (q_mv rfl) ?_
          refine wj_q _ (q_ia rfl rfl (inB_z c114)) ?_
          refine wj_q _ (iz ez115 (q_ldi (base := 0) rfl (.there (.there (.there (.there .here)))) rfl (inB_n c114))) ?_
          refine wj_q _ (q_ia rfl rfl (inB_z c116)) ?_
          refine wj_e (ef_stiz (q := [.ints .u8 64 (l117)]) (base := 0) el117 rfl rfl rfl (inB_n c116) rfl .here ?_)
          refine wj_nil ?_
          revert h
          refine bnd_i fun z119 ez119 => ?_
          intro h
          refine wc_ops ?_
          refine wj_q _ (q_mv rfl) ?_
          refine wj_q _ (iz ez119 (q_bin rfl rfl rfl)) ?_
          refine wj_q _ (q_mv rfl) ?_
          refine wj_nil ?_
          rw [qk102] at h
          exact ⟨n103, Nat.lt_succ_self _, z119, l117, l111, h, ⟨⟨rfl, rfl, rfl, rfl, rfl, rfl, rfl, rfl, rfl, trivial⟩, (.one .here (.one .here (.one .here (.one .here (.one .here (.one .here (.one .here (.one .here .nil))))))))⟩⟩
        · have h := br_f h d105
          refine wc_exit _ rfl ?_
          exact ⟨a100, a101, h, ⟨⟨rfl, rfl, rfl, rfl, rfl, rfl, rfl, trivial⟩, (.one .here (.one .here (.one .here (.one .here (.one .here (.one .here (.one .here (.one .here .nil))))))))⟩⟩
    · rintro t m ⟨a69, a70, h, hF⟩
      refine wc_fit hF ?_
      clear hF
      subst qk71
      refine wc_seq ?_
      refine wc_seq ?_
      revert h
      refine chk_i fun c121 => ?_
      intro h
      refine wc_ops ?_
      refine wj_q _ (q_ld (p := [.ints .u8 64 (a70)]) rfl (.there .here) rfl) ?_
      refine wj_q _ (q_ld (p := [.ints .u8 64 (y7)]) rfl (.there (.there (.there .here))) rfl) ?_
      refine wj_q _ (q_eqa rfl rfl rfl rfl _ (eqc_last eqc_ints)) ?_
      refine wj_q _ (q_mv rfl) ?_
      refine wj_and rfl rfl rfl (fun hg1 => qj_g rfl _ (q_ld (p := [.ints .u8 32 (y10)]) rfl (.there (.there .here)) rfl) (qj_g rfl _ (q_mv rfl) (qj_g rfl _ (q_ld (p := [.ints .u8 64 (a70)]) rfl (.there .here) rfl) (qj_g rfl _ (q_call (vs := [agg [.ints .u8 32 (y10)], v1, agg [.ints .u8 64 (a70)]]) (v := .bool (((sign_Verify y10 p1 a70).getD false))) rfl (fun w hw => sign_Verify_spec (r := ((sign_Verify y10 p1 a70).getD false)) (p0 := y10) (p1 := p1) (p2 := a70) (getD_some (z := false) (imp_t c121 hg1)) (hG.at hw (by simp)) ((rd_arg A1 apart0) w hw))) (qj_nil))))) (fun hg1 => rfl) rfl ?_
      refine wj_nil ?_
      refine wc_if (c := ((!(ieq 64 a70 y7)) && ((sign_Verify y10 p1 a70).getD false))) rfl (fun d122 => ?_) (fun d122 => ?_)
      · have h := br_t h d122
        refine wc_seq ?_
        refine wc_ops ?_
        refine wj_q _ (q_mv rfl) ?_
        refine wj_nil ?_
        refine wc_ret ?_
        revert h; refine ret_i fun h => ?_
        subst h
        exact ⟨_, (.cons (.tmp rfl) .nil), rfl⟩
      · have h := br_f h d122
        refine wc_skip ?_
        refine wc_seq ?_
        refine wc_seq ?_
        revert h
        refine chk_i fun c125 => ?_
        refine chk_i fun c126 => ?_
        intro h
        refine wc_ops ?_
        refine wj_q _ (q_ld (p := [.ints .u8 64 (a69)]) rfl .here rfl) ?_
        refine wj_q _ (q_ld (p := [.ints .u8 64 (p3)]) rfl (.there (.there (.there (.there (.there .here))))) rfl) ?_
        refine wj_q _ (q_eqa rfl rfl rfl rfl _ (eqc_last eqc_ints)) ?_
        refine wj_q _ (q_mv rfl) ?_
        refine wj_and rfl rfl rfl (fun hg1 => qj_g rfl _ (q_ld (p := [.ints .u8 32 (p2)]) rfl (.there (.there (.there (.there (.there (.there .here)))))) rfl) (qj_g rfl _ (q_mv rfl) (qj_g rfl _ (q_ld (p := [.ints .u8 64 (p3)]) rfl (.there (.there (.there (.there (.there .here))))) rfl) (qj_g rfl _ (q_call (vs := [agg [.ints .u8 32 (p2)], v1, agg [.ints .u8 64 (p3)]]) (v := .bool (((sign_Verify p2 p1 p3).getD false))) rfl (fun w hw => sign_Verify_spec (r := ((sign_Verify p2 p1 p3).getD false)) (p0 := p2) (p1 := p1) (p2 := p3) (getD_some (z := false) (imp_t c125 hg1)) (hG.at hw (by simp)) ((rd_arg A1 apart0) w hw))) (qj_nil))))) (fun hg1 => rfl) rfl ?_
        refine wj_q _ (q_mv rfl) ?_
        refine wj_and rfl rfl rfl (fun hg1 => qj_g rfl _ (q_ld (p := [.ints .u8 32 (p2)]) rfl (.there (.there (.there (.there (.there (.there .here)))))) rfl) (qj_g rfl _ (q_mv rfl) (qj_g rfl _ (q_ld (p := [.ints .u8 64 (a69)]) rfl .here rfl) (qj_g rfl _ (q_call (vs := [agg [.ints .u8 32 (p2)], v1, agg [.ints .u8 64 (a69)]]) (v := .bool (((sign_Verify p2 p1 a69).getD false))) rfl (fun w hw => sign_Verify_spec (r := ((sign_Verify p2 p1 a69).getD false)) (p0 := p2) (p1 := p1) (p2 := a69) (getD_some (z := false) (imp_t c126 hg1)) (hG.at hw (by simp)) ((rd_arg A1 apart0) w hw))) (qj_nil))))) (fun hg1 => rfl) rfl ?_
        refine wj_nil ?_
        refine wc_if (c := (((!(ieq 64 a69 p3)) && ((sign_Verify p2 p1 p3).getD false)) && ((sign_Verify p2 p1 a69).getD false))) rfl (fun d127 => ?_) (fun d127 => ?_)
        · have h := br_t h d127
          refine wc_seq ?_
          refine wc_ops ?_
          refine wj_q _ (q_mv rfl) ?_
          refine wj_nil ?_
          refine wc_ret ?_
          revert h; refine ret_i fun h => ?_
          subst h
          exact ⟨_, (.cons (.tmp rfl) .nil), rfl⟩
        · have h := br_f h d127
          refine wc_skip ?_
          refine wc_seq ?_
          revert h
          refine opt_i fun y130 ey130 => ?_
          intro h
          refine wc_ops ?_
          refine wj_q _ (q_ld (p := [.ints .u8 64 (y7)]) rfl (.there (.there (.there .here))) rfl) ?_
          refine wj_q _ (q_call (vs := [agg [.ints .u8 64 (y7)]]) (v := .tuple #[agg [.ints .u8 64 (y130.1)], .bool (y130.2)]) rfl (fun w hw => fareboxlaw08_raised_spec (r := y130) (p0 := y7) ey130 )) ?_
          refine wj_q _ (q_mv rfl) ?_
          refine wj_q _ (q_ext rfl rfl) ?_
          refine wj_q _ (q_ext rfl rfl) ?_
          refine wj_e (ef_al fun b131 hb131 => ?_)
          refine wj_e (ef_st (q := [.ints .u8 64 (y130.1)]) rfl rfl rfl rfl rfl .here ?_)
          refine wj_q _ (q_mv rfl) ?_
          refine wj_nil ?_
          refine wc_seq ?_
          revert h
          refine chk_i fun c133 => ?_
          refine chk_i fun c134 => ?_
          intro h
          refine wc_ops ?_
          refine wj_q _ (q_mv rfl) ?_
          refine wj_q _ (q_mv rfl) ?_
          refine wj_and rfl rfl rfl (fun hg1 => qj_g rfl _ (q_ld (p := [.ints .u8 32 (y10)]) rfl (.there (.there (.there .here))) rfl) (qj_g rfl _ (q_mv rfl) (qj_g rfl _ (q_ld (p := [.ints .u8 64 (y130.1)]) rfl .here rfl) (qj_g rfl _ (q_call (vs := [agg [.ints .u8 32 (y10)], v1, agg [.ints .u8 64 (y130.1)]]) (v := .bool (((sign_Verify y10 p1 y130.1).getD false))) rfl (fun w hw => sign_Verify_spec (r := ((sign_Verify y10 p1 y130.1).getD false)) (p0 := y10) (p1 := p1) (p2 := y130.1) (getD_some (z := false) (imp_t c133 hg1)) (hG.at hw (by simp)) ((rd_arg A1 apart0) w hw))) (qj_g rfl _ (q_un rfl rfl) (qj_nil)))))) (fun hg1 => rfl) rfl ?_
          refine wj_q _ (q_mv rfl) ?_
          refine wj_and rfl rfl rfl (fun hg1 => qj_g rfl _ (q_call (vs := []) (v := .bool (((fareboxlaw08_printed).getD false))) rfl (fun w hw => fareboxlaw08_printed_spec (r := ((fareboxlaw08_printed).getD false)) (getD_some (z := false) (imp_t c134 hg1)) (hG.at hw (by simp)))) (qj_nil)) (fun hg1 => rfl) rfl ?_
          refine wj_q _ (q_mv rfl) ?_
          refine wj_nil ?_
          refine wc_ret ?_
          revert h; refine ret_i fun h => ?_
          subst h
          exact ⟨_, (.cons (.tmp rfl) .nil), rfl⟩
end Go.Proofs.YtiflckckekjbnaaDoor
