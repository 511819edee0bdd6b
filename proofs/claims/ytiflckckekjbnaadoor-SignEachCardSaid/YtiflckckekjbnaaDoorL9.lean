/- Mirrors. -/
import Derived.Test.YtiflckckekjbnaaDoorL8
namespace Go.Proofs.YtiflckckekjbnaaDoor
open Go Go.Sx Go.RowKit
set_option linter.all false
set_option maxHeartbeats 400000
set_option maxRecDepth 100000
/- farebox/curve.multiples -/
abbrev E_api_Point : El (api_Point) := ⟨20, fun x => cells [.ints .u64 5 (x.gX), .ints .u64 5 (x.gY), .ints .u64 5 (x.gZ), .ints .u64 5 (x.gT)], fun x => by rw [cells_length]; rfl, fun x => (ones_cons ones_ints (ones_cons ones_ints (ones_cons ones_ints (ones_cons ones_ints ones_nil)))), by decide, api_Point_z⟩
def curve_multiples_b1 (p0 : api_Point) (k48 : (List (api_Point)) → Option ((List (api_Point)))) (k72 : (Int) → (List (api_Point)) → Option ((List (api_Point)))) (i70 : Int) (a71 : List (api_Point)) : Option ((List (api_Point))) :=
 br ((decide (i70 < 15))) (
 bnd (IntKind.wrap .i64 (i70 + 1)) fun z78 =>
 chk (inB i70 16) <|
 bnd (a71.getD (i70).toNat api_Point_z) fun x80 =>
 opt (curve_Add x80 p0) fun y81 =>
 chk (inB z78 16) <|
 bnd (setG api_Point_z a71 (z78).toNat y81) fun l83 =>
 bnd (IntKind.wrap .i64 (i70 + 1)) fun z85 =>
 k72 z85 l83
 ) (
 k48 a71
 )
def curve_multiples_l1 (p0 : api_Point) (k48 : (List (api_Point)) → Option ((List (api_Point)))) : Nat → (Int) → (List (api_Point)) → Option ((List (api_Point)))
  | 0, _, _ => none
  | n + 1, i70, a71 => curve_multiples_b1 p0 k48 (curve_multiples_l1 p0 k48 n) i70 a71
def curve_multiples (p0 : api_Point) : Option ((List (api_Point))) :=
 opt (curve_Zero) fun y7 =>
 bnd (setG api_Point_z (List.replicate 16 api_Point_z) 0 y7) fun l8 =>
 jn (fun (a47 : List (api_Point)) => some a47) fun k48 => curve_multiples_l1 p0 k48 big 0 l8
theorem curve_multiples_spec {W : World} {r : (List (api_Point))} {p0 : api_Point} (h : curve_multiples p0 = some r)  :
    Calls Tryd.prog 53 [agg [.ints .u64 5 (p0.gX), .ints .u64 5 (p0.gY), .ints .u64 5 (p0.gZ), .ints .u64 5 (p0.gT)]].toArray W (ret1 W (agg [.rows 20 16 (rowE E_api_Point (r))])) := by
  unfold curve_multiples at h
  refine calls_val mo ok53 rfl ?_
  refine wc_seq ?_
  refine wc_ops ?_
  refine wj_e (ef_bx (s := [.ints .u64 5 (p0.gX), .ints .u64 5 (p0.gY), .ints .u64 5 (p0.gZ), .ints .u64 5 (p0.gT)]) rfl fun b2 hb2 => ?_)
  refine wj_e (ef_al2 (z' := [.rows 20 16 (rowE E_api_Point ((List.replicate 16 api_Point_z)))]) (alz_rows (E := E_api_Point) rfl rfl) fun b3 hb3 => ?_)
  refine wj_nil ?_
  refine wc_seq ?_
  refine wc_ops ?_
  refine wj_e (ef_al2 (z' := [.rows 20 16 (rowE E_api_Point ((List.replicate 16 api_Point_z)))]) (alz_rows (E := E_api_Point) rfl rfl) fun b5 hb5 => ?_)
  refine wj_nil ?_
  refine wc_seq ?_
  revert h
  refine opt_i fun y7 ey7 => ?_
  refine bnd_i fun l8 el8 => ?_
  intro h
  refine wc_ops ?_
  refine wj_q _ (q_call (vs := []) (v := agg [.ints .u64 5 (y7.gX), .ints .u64 5 (y7.gY), .ints .u64 5 (y7.gZ), .ints .u64 5 (y7.gT)]) rfl (fun w hw => curve_Zero_spec (r := y7) ey7 )) ?_
  refine wj_q _ (q_ia rfl rfl (by decide)) ?_
  refine wj_e (ef_strz (q := [.rows 20 16 (rowE E_api_Point (l8))]) (E := E_api_Point) (base := 0) (i := 0) (len := 16) el8 rfl rfl rfl rfl (by decide) rfl .here ?_)
  refine wj_nil ?_
  refine wc_seq ?_
  refine wc_seq ?_
  refine wc_ops ?_
  refine wj_q _ (q_mv rfl) ?_
  refine wj_nil ?_
  revert h
  refine jn_i fun k48 qk48 => ?_
  intro h
  refine wc_mono2 (G := fun t m => ∃ (a47 : List (api_Point)), k48 a47 = some r ∧ Fit [(2, .pointer (some ⟨b3, 0, none⟩)), (3, .pointer (some ⟨b5, 0, none⟩))] (ck b5 105 [.rows 20 16 (rowE E_api_Point (a47))] :: (ck b3 105 [.rows 20 16 (rowE E_api_Point ((List.replicate 16 api_Point_z)))] :: (ck b2 60 [.ints .u64 5 (p0.gX), .ints .u64 5 (p0.gY), .ints .u64 5 (p0.gZ), .ints .u64 5 (p0.gT)] :: []))) t m) ?_ ?_
  · refine wc_block ?_
    refine wc_loopJ (fun n73 t m => ∃ (i70 : Int) (a71 : List (api_Point)), curve_multiples_l1 p0 k48 n73 i70 a71 = some r ∧ Fit [(1, .pointer (some ⟨b2, 0, none⟩)), (2, .pointer (some ⟨b3, 0, none⟩)), (3, .pointer (some ⟨b5, 0, none⟩)), (7, .int .i64 (i70))] (ck b5 105 [.rows 20 16 (rowE E_api_Point (a71))] :: (ck b3 105 [.rows 20 16 (rowE E_api_Point ((List.replicate 16 api_Point_z)))] :: (ck b2 60 [.ints .u64 5 (p0.gX), .ints .u64 5 (p0.gY), .ints .u64 5 (p0.gZ), .ints .u64 5 (p0.gT)] :: []))) t m) big ?_ ?_
    · exact ⟨0, l8, h, ⟨⟨rfl, rfl, rfl, rfl, trivial⟩, (.one .here (.one .here (.one .here .nil)))⟩⟩
    · rintro n73 t m ⟨i70, a71, h, hF⟩
      refine wc_fit hF ?_
      clear hF
      rcases n73 with _ | n73
      · exact none_i h
      have h : curve_multiples_b1 p0 k48 (curve_multiples_l1 p0 k48 n73) i70 a71 = some r := h
      unfold curve_multiples_b1 at h
      obtain ⟨k72, qk72⟩ : ∃ k, k = curve_multiples_l1 p0 k48 n73 := ⟨_, rfl⟩
      try rw [← qk72] at h
      refine wc_seq ?_
      refine wc_ops ?_
      refine wj_q _ (q_bin rfl rfl rfl) ?_
      refine wj_nil ?_
      refine wc_seq ?_
      refine wc_if (c := (decide (i70 < 15))) rfl (fun d75 => ?_) (fun d75 => ?_)
      · have h := br_t h d75
        refine wc_skip ?_
        refine wc_seq ?_
        refine wc_block ?_
        refine wc_seq ?_
        refine wc_ops ?_
        refine wj_q _ (q_mv rfl) ?_
        refine wj_q _ (q_mv rfl) ?_
        refine wj_nil ?_
        revert h
        refine bnd_i fun z78 ez78 => ?_
        refine chk_i fun c79 => ?_
        refine bnd_i fun x80 ex80 => ?_
        refine opt_i fun y81 ey81 => ?_
        refine chk_i fun c82 => ?_
        refine bnd_i fun l83 el83 => ?_
        intro h
        refine wc_draw ?_
        refine ws_p1 _ (q_mv rfl) ?_
        refine ws_p1 _ (iz ez78 (q_bin rfl rfl rfl)) ?_
        refine ws_p1 _ (q_mv rfl) ?_
        refine ws_p1 _ (q_ia rfl rfl (inB_z c79)) ?_
        refine ws_q1 _ (az (fun x80 => agg [.ints .u64 5 (x80.gX), .ints .u64 5 (x80.gY), .ints .u64 5 (x80.gZ), .ints .u64 5 (x80.gT)]) ex80 (q_ldr0 (base := 0) (w := 20) rfl .here rfl (inB_n c79) rfl rfl rfl)) ?_
        refine ws_q1 _ (q_ld (p := [.ints .u64 5 (p0.gX), .ints .u64 5 (p0.gY), .ints .u64 5 (p0.gZ), .ints .u64 5 (p0.gT)]) rfl (.there (.there .here)) rfl) ?_
        refine ws_p1 _ (q_call (vs := [agg [.ints .u64 5 (x80.gX), .ints .u64 5 (x80.gY), .ints .u64 5 (x80.gZ), .ints .u64 5 (x80.gT)], agg [.ints .u64 5 (p0.gX), .ints .u64 5 (p0.gY), .ints .u64 5 (p0.gZ), .ints .u64 5 (p0.gT)]]) (v := agg [.ints .u64 5 (y81.gX), .ints .u64 5 (y81.gY), .ints .u64 5 (y81.gZ), .ints .u64 5 (y81.gT)]) rfl (fun w hw => curve_Add_spec (r := y81) (p0 := x80) (p1 := p0) ey81 )) ?_
        refine ws_p1 _ (q_ia rfl rfl (inB_z c82)) ?_
        refine ws_eL rfl (ef_strz (q := [.rows 20 16 (rowE E_api_Point (l83))]) (E := E_api_Point) (base := 0) el83 rfl rfl rfl rfl (inB_n c82) rfl .here ?_)
        refine ws_nil ?_
        revert h
        refine bnd_i fun z85 ez85 => ?_
        intro h
        refine wc_ops ?_
        refine wj_q _ (iz ez85 (q_bin rfl rfl rfl)) ?_
        refine wj_q _ (q_mv rfl) ?_
        refine wj_nil ?_
        rw [qk72] at h
        exact ⟨n73, Nat.lt_succ_self _, z85, l83, h, ⟨⟨rfl, rfl, rfl, rfl, trivial⟩, (.one .here (.one .here (.one .here .nil)))⟩⟩
      · have h := br_f h d75
        refine wc_exit _ rfl ?_
        exact ⟨a71, h, ⟨⟨rfl, rfl, trivial⟩, (.one .here (.one .here (.one .here .nil)))⟩⟩
  · rintro t m ⟨a47, h, hF⟩
    refine wc_fit hF ?_
    clear hF
    subst qk48
    refine wc_seq ?_
    refine wc_ops ?_
    refine wj_q _ (q_ld (p := [.rows 20 16 (rowE E_api_Point (a47))]) rfl .here rfl) ?_
    refine wj_e (ef_stg (q := [.rows 20 16 (rowE E_api_Point (a47))]) rfl rfl rfl rfl (ones_cons (ones_rows (E := E_api_Point)) ones_nil) (.there .here) ?_)
    refine wj_nil ?_
    refine wc_ret ?_
    revert h; refine ret_i fun h => ?_
    subst h
    exact ⟨_, (.cons (.agg rfl (.there .here) rfl) .nil), rfl⟩
/- farebox/curve.Double -/
def curve_Double (p0 : api_Point) : Option (api_Point) :=
 opt (field_Square p0.gX) fun y5 =>
 opt (field_Square p0.gY) fun y8 =>
 opt (field_Square p0.gZ) fun y11 =>
 opt (field_Add y5 y8) fun y14 =>
 opt (field_Add p0.gX p0.gY) fun y17 =>
 opt (field_Square y17) fun y18 =>
 opt (field_Sub y14 y18) fun y19 =>
 opt (field_Sub y5 y8) fun y22 =>
 opt (field_Add y11 y11) fun y25 =>
 opt (field_Add y25 y22) fun y26 =>
 opt (curve_closed y19 y26 y22 y14) fun y29 =>
 some y29
theorem curve_Double_spec {W : World} {r : api_Point} {p0 : api_Point} (h : curve_Double p0 = some r)  :
    Calls Tryd.prog 55 [agg [.ints .u64 5 (p0.gX), .ints .u64 5 (p0.gY), .ints .u64 5 (p0.gZ), .ints .u64 5 (p0.gT)]].toArray W (ret1 W (agg [.ints .u64 5 (r.gX), .ints .u64 5 (r.gY), .ints .u64 5 (r.gZ), .ints .u64 5 (r.gT)])) := by
  unfold curve_Double at h
  refine calls_val mo ok55 rfl ?_
  refine wc_seq ?_
  refine wc_ops ?_
  refine wj_e (ef_bx (s := [.ints .u64 5 (p0.gX), .ints .u64 5 (p0.gY), .ints .u64 5 (p0.gZ), .ints .u64 5 (p0.gT)]) rfl fun b2 hb2 => ?_)
  refine wj_e (ef_al fun b3 hb3 => ?_)
  refine wj_nil ?_
  refine wc_seq ?_
  revert h
  refine opt_i fun y5 ey5 => ?_
  intro h
  refine wc_ops ?_
  refine wj_q _ (q_fa rfl) ?_
  refine wj_q _ (q_ld (p := [.ints .u64 5 (p0.gX)]) rfl (.there .here) rfl) ?_
  refine wj_q _ (q_call (vs := [agg [.ints .u64 5 (p0.gX)]]) (v := agg [.ints .u64 5 (y5)]) rfl (fun w hw => field_Square_spec (r := y5) (p0 := p0.gX) ey5 )) ?_
  refine wj_e (ef_al fun b6 hb6 => ?_)
  refine wj_e (ef_st (q := [.ints .u64 5 (y5)]) rfl rfl rfl rfl rfl .here ?_)
  refine wj_nil ?_
  refine wc_seq ?_
  revert h
  refine opt_i fun y8 ey8 => ?_
  intro h
  refine wc_ops ?_
  refine wj_q _ (q_fa rfl) ?_
  refine wj_q _ (q_ld (p := [.ints .u64 5 (p0.gY)]) rfl (.there (.there .here)) rfl) ?_
  refine wj_q _ (q_call (vs := [agg [.ints .u64 5 (p0.gY)]]) (v := agg [.ints .u64 5 (y8)]) rfl (fun w hw => field_Square_spec (r := y8) (p0 := p0.gY) ey8 )) ?_
  refine wj_e (ef_al fun b9 hb9 => ?_)
  refine wj_e (ef_st (q := [.ints .u64 5 (y8)]) rfl rfl rfl rfl rfl .here ?_)
  refine wj_nil ?_
  refine wc_seq ?_
  revert h
  refine opt_i fun y11 ey11 => ?_
  intro h
  refine wc_ops ?_
  refine wj_q _ (q_fa rfl) ?_
  refine wj_q _ (q_ld (p := [.ints .u64 5 (p0.gZ)]) rfl (.there (.there (.there .here))) rfl) ?_
  refine wj_q _ (q_call (vs := [agg [.ints .u64 5 (p0.gZ)]]) (v := agg [.ints .u64 5 (y11)]) rfl (fun w hw => field_Square_spec (r := y11) (p0 := p0.gZ) ey11 )) ?_
  refine wj_e (ef_al fun b12 hb12 => ?_)
  refine wj_e (ef_st (q := [.ints .u64 5 (y11)]) rfl rfl rfl rfl rfl .here ?_)
  refine wj_nil ?_
  refine wc_seq ?_
  revert h
  refine opt_i fun y14 ey14 => ?_
  intro h
  refine wc_ops ?_
  refine wj_q _ (q_ld (p := [.ints .u64 5 (y5)]) rfl (.there (.there .here)) rfl) ?_
  refine wj_q _ (q_ld (p := [.ints .u64 5 (y8)]) rfl (.there .here) rfl) ?_
  refine wj_q _ (q_call (vs := [agg [.ints .u64 5 (y5)], agg [.ints .u64 5 (y8)]]) (v := agg [.ints .u64 5 (y14)]) rfl (fun w hw => field_Add_spec (r := y14) (p0 := y5) (p1 := y8) ey14 )) ?_
  refine wj_e (ef_al fun b15 hb15 => ?_)
  refine wj_e (ef_st (q := [.ints .u64 5 (y14)]) rfl rfl rfl rfl rfl .here ?_)
  refine wj_nil ?_
  refine wc_seq ?_
  revert h
  refine opt_i fun y17 ey17 => ?_
  refine opt_i fun y18 ey18 => ?_
  refine opt_i fun y19 ey19 => ?_
  intro h
  refine wc_draw ?_
  refine ws_p1 _ (q_fa rfl) ?_
  refine ws_p1 _ (q_fa rfl) ?_
  refine ws_q1 _ (q_ld (p := [.ints .u64 5 (y14)]) rfl .here rfl) ?_
  refine ws_q1 _ (q_ld (p := [.ints .u64 5 (p0.gX)]) rfl (.there (.there (.there (.there (.there .here))))) rfl) ?_
  refine ws_q1 _ (q_ld (p := [.ints .u64 5 (p0.gY)]) rfl (.there (.there (.there (.there (.there .here))))) rfl) ?_
  refine ws_p1 _ (q_call (vs := [agg [.ints .u64 5 (p0.gX)], agg [.ints .u64 5 (p0.gY)]]) (v := agg [.ints .u64 5 (y17)]) rfl (fun w hw => field_Add_spec (r := y17) (p0 := p0.gX) (p1 := p0.gY) ey17 )) ?_
  refine ws_p1 _ (q_call (vs := [agg [.ints .u64 5 (y17)]]) (v := agg [.ints .u64 5 (y18)]) rfl (fun w hw => field_Square_spec (r := y18) (p0 := y17) ey18 )) ?_
  refine ws_p1 _ (q_call (vs := [agg [.ints .u64 5 (y14)], agg [.ints .u64 5 (y18)]]) (v := agg [.ints .u64 5 (y19)]) rfl (fun w hw => field_Sub_spec (r := y19) (p0 := y14) (p1 := y18) ey19 )) ?_
  refine ws_e1 (ef_al fun b20 hb20 => ⟨(by repeat (first | exact Sup.refl _ | apply Sup.cons | apply Sup.app)), ?_⟩)
  refine ws_eL rfl (ef_st (q := [.ints .u64 5 (y19)]) rfl rfl rfl rfl rfl .here ?_)
  refine ws_nil ?_
  refine wc_seq ?_
  revert h
  refine opt_i fun y22 ey22 => ?_
  intro h
  refine wc_ops ?_
  refine wj_q _ (q_ld (p := [.ints .u64 5 (y5)]) rfl (.there (.there (.there (.there .here)))) rfl) ?_
  refine wj_q _ (q_ld (p := [.ints .u64 5 (y8)]) rfl (.there (.there (.there .here))) rfl) ?_
  refine wj_q _ (q_call (vs := [agg [.ints .u64 5 (y5)], agg [.ints .u64 5 (y8)]]) (v := agg [.ints .u64 5 (y22)]) rfl (fun w hw => field_Sub_spec (r := y22) (p0 := y5) (p1 := y8) ey22 )) ?_
  refine wj_e (ef_al fun b23 hb23 => ?_)
  refine wj_e (ef_st (q := [.ints .u64 5 (y22)]) rfl rfl rfl rfl rfl .here ?_)
  refine wj_nil ?_
  refine wc_seq ?_
  revert h
  refine opt_i fun y25 ey25 => ?_
  refine opt_i fun y26 ey26 => ?_
  intro h
  refine wc_draw ?_
  refine ws_q1 _ (q_ld (p := [.ints .u64 5 (y11)]) rfl (.there (.there (.there .here))) rfl) ?_
  refine ws_q1 _ (q_ld (p := [.ints .u64 5 (y11)]) rfl (.there (.there (.there .here))) rfl) ?_
  refine ws_p1 _ (q_call (vs := [agg [.ints .u64 5 (y11)], agg [.ints .u64 5 (y11)]]) (v := agg [.ints .u64 5 (y25)]) rfl (fun w hw => field_Add_spec (r := y25) (p0 := y11) (p1 := y11) ey25 )) ?_
  refine ws_q1 _ (q_ld (p := [.ints .u64 5 (y22)]) rfl .here rfl) ?_
  refine ws_p1 _ (q_call (vs := [agg [.ints .u64 5 (y25)], agg [.ints .u64 5 (y22)]]) (v := agg [.ints .u64 5 (y26)]) rfl (fun w hw => field_Add_spec (r := y26) (p0 := y25) (p1 := y22) ey26 )) ?_
  refine ws_e1 (ef_al fun b27 hb27 => ⟨(by repeat (first | exact Sup.refl _ | apply Sup.cons | apply Sup.app)), ?_⟩)
  refine ws_eL rfl (ef_st (q := [.ints .u64 5 (y26)]) rfl rfl rfl rfl rfl .here ?_)
  refine ws_nil ?_
  refine wc_seq ?_
  revert h
  refine opt_i fun y29 ey29 => ?_
  intro h
  refine wc_ops ?_
  refine wj_q _ (q_ld (p := [.ints .u64 5 (y19)]) rfl (.there (.there .here)) rfl) ?_
  refine wj_q _ (q_ld (p := [.ints .u64 5 (y26)]) rfl .here rfl) ?_
  refine wj_q _ (q_ld (p := [.ints .u64 5 (y22)]) rfl (.there .here) rfl) ?_
  refine wj_q _ (q_ld (p := [.ints .u64 5 (y14)]) rfl (.there (.there (.there .here))) rfl) ?_
  refine wj_q _ (q_call (vs := [agg [.ints .u64 5 (y19)], agg [.ints .u64 5 (y26)], agg [.ints .u64 5 (y22)], agg [.ints .u64 5 (y14)]]) (v := agg [.ints .u64 5 (y29.gX), .ints .u64 5 (y29.gY), .ints .u64 5 (y29.gZ), .ints .u64 5 (y29.gT)]) rfl (fun w hw => curve_closed_spec (r := y29) (p0 := y19) (p1 := y26) (p2 := y22) (p3 := y14) ey29 )) ?_
  refine wj_e (ef_st (q := [.ints .u64 5 (y29.gX), .ints .u64 5 (y29.gY), .ints .u64 5 (y29.gZ), .ints .u64 5 (y29.gT)]) rfl rfl rfl rfl rfl (.there (.there (.there (.there (.there (.there (.there .here))))))) ?_)
  refine wj_nil ?_
  refine wc_ret ?_
  revert h; refine ret_i fun h => ?_
  subst h
  exact ⟨_, (.cons (.agg rfl (.there (.there (.there (.there (.there (.there (.there .here))))))) rfl) .nil), rfl⟩
/- farebox/curve.nibble -/
def curve_nibble (p0 : List Int) (p1 : Int) : Option (Int) :=
 bnd (IntKind.wrap .i64 (Int.tdiv p1 2)) fun z4 =>
 bnd (IntKind.wrap .i64 (31 - z4)) fun z5 =>
 chk (inB z5 32) <|
 bnd (p0.getD (z5).toNat 0) fun z7 =>
 bnd (Int.tmod p1 2) fun z8 =>
 bnd (IntKind.wrap .i64 (1 - z8)) fun z9 =>
 bnd (IntKind.wrap .i64 (4 * z9)) fun z10 =>
 chk (decide (0 ≤ z10)) <|
 bnd (shrV .u8 z7 z10) fun z12 =>
 bnd (bitsV .and .u8 z12 15) fun z13 =>
 some z13
theorem curve_nibble_spec {W : World} {r : Int} {p0 : List Int} {p1 : Int} (h : curve_nibble p0 p1 = some r)  :
    Calls Tryd.prog 57 [agg [.ints .u8 32 (p0)], .int .i64 (p1)].toArray W (ret1 W (.int .u8 (r))) := by
  unfold curve_nibble at h
  refine calls_val mo ok57 rfl ?_
  refine wc_seq ?_
  refine wc_ops ?_
  refine wj_e (ef_bx (s := [.ints .u8 32 (p0)]) rfl fun b2 hb2 => ?_)
  refine wj_q _ (q_mv rfl) ?_
  refine wj_nil ?_
  refine wc_seq ?_
  revert h
  refine bnd_i fun z4 ez4 => ?_
  refine bnd_i fun z5 ez5 => ?_
  refine chk_i fun c6 => ?_
  refine bnd_i fun z7 ez7 => ?_
  refine bnd_i fun z8 ez8 => ?_
  refine bnd_i fun z9 ez9 => ?_
  refine bnd_i fun z10 ez10 => ?_
  refine chk_i fun c11 => ?_
  refine bnd_i fun z12 ez12 => ?_
  refine bnd_i fun z13 ez13 => ?_
  intro h
  refine wc_ops ?_
  refine wj_q _ (q_mv rfl) ?_
  refine wj_q _ (iz ez4 (q_quo rfl rfl (by decide))) ?_
  refine wj_q _ (iz ez5 (q_bin rfl rfl rfl)) ?_
  refine wj_q _ (q_ia rfl rfl (inB_z c6)) ?_
  refine wj_q _ (iz ez7 (q_ldi (base := 0) rfl .here rfl (inB_n c6))) ?_
  refine wj_q _ (q_mv rfl) ?_
  refine wj_q _ (iz ez8 (q_rem rfl rfl (by decide))) ?_
  refine wj_q _ (iz ez9 (q_bin rfl rfl rfl)) ?_
  refine wj_q _ (iz ez10 (q_bin rfl rfl rfl)) ?_
  refine wj_q _ (iz ez12 (q_shr rfl rfl (of_decide_eq_true c11))) ?_
  refine wj_q _ (iz ez13 (q_bin rfl rfl rfl)) ?_
  refine wj_q _ (q_mv rfl) ?_
  refine wj_nil ?_
  refine wc_ret ?_
  revert h; refine ret_i fun h => ?_
  subst h
  exact ⟨_, (.cons (.tmp rfl) .nil), rfl⟩
/- farebox/curve.Combine -/
def curve_Combine_b2 (k469 : (List Int) → (List Int) → (List Int) → (List Int) → Option (api_Point)) (k490 : (Int) → (List Int) → (List Int) → (List Int) → (List Int) → Option (api_Point)) (i485 : Int) (a486 : List Int) (a487 : List Int) (a488 : List Int) (a489 : List Int) : Option (api_Point) :=
 br ((decide (i485 < 4))) (
 opt (curve_Double (⟨a486, a487, a488, a489⟩ : api_Point)) fun y495 =>
 bnd (IntKind.wrap .i64 (i485 + 1)) fun z497 =>
 k490 z497 y495.gX y495.gY y495.gZ y495.gT
 ) (
 k469 a486 a487 a488 a489
 )
def curve_Combine_l2 (k469 : (List Int) → (List Int) → (List Int) → (List Int) → Option (api_Point)) : Nat → (Int) → (List Int) → (List Int) → (List Int) → (List Int) → Option (api_Point)
  | 0, _, _, _, _, _ => none
  | n + 1, i485, a486, a487, a488, a489 => curve_Combine_b2 k469 (curve_Combine_l2 k469 n) i485 a486 a487 a488 a489
def curve_Combine_b1 (p0 : List Int) (p2 : List Int) (a15 : List (api_Point)) (a17 : List (api_Point)) (k270 : (List Int) → (List Int) → (List Int) → (List Int) → Option (api_Point)) (k431 : (Int) → (List Int) → (List Int) → (List Int) → (List Int) → Option (api_Point)) (i426 : Int) (a427 : List Int) (a428 : List Int) (a429 : List Int) (a430 : List Int) : Option (api_Point) :=
 br ((decide (i426 < 64))) (
 jn (fun (a465 : List Int) (a466 : List Int) (a467 : List Int) (a468 : List Int) => opt (curve_nibble p0 i426) fun y499 =>
 chk (inB y499 16) <|
 bnd (a15.getD (y499).toNat api_Point_z) fun x501 =>
 opt (curve_Add (⟨a465, a466, a467, a468⟩ : api_Point) x501) fun y502 =>
 opt (curve_nibble p2 i426) fun y503 =>
 chk (inB y503 16) <|
 bnd (a17.getD (y503).toNat api_Point_z) fun x505 =>
 opt (curve_Add y502 x505) fun y506 =>
 bnd (IntKind.wrap .i64 (i426 + 1)) fun z508 =>
 k431 z508 y506.gX y506.gY y506.gZ y506.gT) fun k469 => curve_Combine_l2 k469 big 0 a427 a428 a429 a430
 ) (
 k270 a427 a428 a429 a430
 )
def curve_Combine_l1 (p0 : List Int) (p2 : List Int) (a15 : List (api_Point)) (a17 : List (api_Point)) (k270 : (List Int) → (List Int) → (List Int) → (List Int) → Option (api_Point)) : Nat → (Int) → (List Int) → (List Int) → (List Int) → (List Int) → Option (api_Point)
  | 0, _, _, _, _, _ => none
  | n + 1, i426, a427, a428, a429, a430 => curve_Combine_b1 p0 p2 a15 a17 k270 (curve_Combine_l1 p0 p2 a15 a17 k270 n) i426 a427 a428 a429 a430
def curve_Combine (p0 : List Int) (p1 : api_Point) (p2 : List Int) : Option (api_Point) :=
 opt (curve_start) fun y7 =>
 jn (fun (a15 : List (api_Point)) (a17 : List (api_Point)) => opt (curve_Zero) fun y25 =>
 jn (fun (a266 : List Int) (a267 : List Int) (a268 : List Int) (a269 : List Int) => some (⟨a266, a267, a268, a269⟩ : api_Point)) fun k270 => curve_Combine_l1 p0 p2 a15 a17 k270 big 0 y25.gX y25.gY y25.gZ y25.gT) fun k18 => opt (curve_multiples p1) fun y20 =>
 opt (curve_multiples y7) fun y21 =>
 k18 y20 y21
theorem curve_Combine_spec {W : World} {r : api_Point} {p0 : List Int} {p1 : api_Point} {p2 : List Int} (h : curve_Combine p0 p1 p2 = some r)  :
    Calls Tryd.prog 22 [agg [.ints .u8 32 (p0)], agg [.ints .u64 5 (p1.gX), .ints .u64 5 (p1.gY), .ints .u64 5 (p1.gZ), .ints .u64 5 (p1.gT)], agg [.ints .u8 32 (p2)]].toArray W (ret1 W (agg [.ints .u64 5 (r.gX), .ints .u64 5 (r.gY), .ints .u64 5 (r.gZ), .ints .u64 5 (r.gT)])) := by
  unfold curve_Combine at h
  refine calls_val mo ok22 rfl ?_
  refine wc_seq ?_
  refine wc_ops ?_
  refine wj_e (ef_bx (s := [.ints .u8 32 (p0)]) rfl fun b2 hb2 => ?_)
  refine wj_e (ef_bx (s := [.ints .u64 5 (p1.gX), .ints .u64 5 (p1.gY), .ints .u64 5 (p1.gZ), .ints .u64 5 (p1.gT)]) rfl fun b3 hb3 => ?_)
  refine wj_e (ef_bx (s := [.ints .u8 32 (p2)]) rfl fun b4 hb4 => ?_)
  refine wj_e (ef_al fun b5 hb5 => ?_)
  refine wj_nil ?_
  refine wc_seq ?_
  revert h
  refine opt_i fun y7 ey7 => ?_
  intro h
  refine wc_ops ?_
  refine wj_q _ (q_call (vs := []) (v := agg [.ints .u64 5 (y7.gX), .ints .u64 5 (y7.gY), .ints .u64 5 (y7.gZ), .ints .u64 5 (y7.gT)]) rfl (fun w hw => curve_start_spec (r := y7) ey7 )) ?_
  refine wj_e (ef_al fun b8 hb8 => ?_)
  refine wj_e (ef_st (q := [.ints .u64 5 (y7.gX), .ints .u64 5 (y7.gY), .ints .u64 5 (y7.gZ), .ints .u64 5 (y7.gT)]) rfl rfl rfl rfl rfl .here ?_)
  refine wj_nil ?_
  refine wc_seq ?_
  revert h
  refine jn_i fun k18 qk18 => ?_
  intro h
  refine wc_mono2 (G := fun t m => ∃ (a15 : List (api_Point)) (a17 : List (api_Point)) (b14 : Nat) (b16 : Nat), k18 a15 a17 = some r ∧ Fit [(3, .pointer (some ⟨b2, 0, none⟩)), (5, .pointer (some ⟨b4, 0, none⟩)), (6, .pointer (some ⟨b5, 0, none⟩)), (8, .pointer (some ⟨b14, 0, none⟩)), (9, .pointer (some ⟨b16, 0, none⟩))] (ck b16 105 [.rows 20 16 (rowE E_api_Point (a17))] :: (ck b14 105 [.rows 20 16 (rowE E_api_Point (a15))] :: (ck b8 60 [.ints .u64 5 (y7.gX), .ints .u64 5 (y7.gY), .ints .u64 5 (y7.gZ), .ints .u64 5 (y7.gT)] :: (ck b5 60 [.ints .u64 5 ((List.replicate 5 0)), .ints .u64 5 ((List.replicate 5 0)), .ints .u64 5 ((List.replicate 5 0)), .ints .u64 5 ((List.replicate 5 0))] :: (ck b4 63 [.ints .u8 32 (p2)] :: (ck b3 60 [.ints .u64 5 (p1.gX), .ints .u64 5 (p1.gY), .ints .u64 5 (p1.gZ), .ints .u64 5 (p1.gT)] :: (ck b2 63 [.ints .u8 32 (p0)] :: []))))))) t m) ?_ ?_
  · revert h
    refine opt_i fun y20 ey20 => ?_
    refine opt_i fun y21 ey21 => ?_
    intro h
    refine wc_draw ?_
    refine ws_q1 _ (q_ld (p := [.ints .u64 5 (p1.gX), .ints .u64 5 (p1.gY), .ints .u64 5 (p1.gZ), .ints .u64 5 (p1.gT)]) rfl (.there (.there (.there .here))) rfl) ?_
    refine ws_p1 _ (q_call (vs := [agg [.ints .u64 5 (p1.gX), .ints .u64 5 (p1.gY), .ints .u64 5 (p1.gZ), .ints .u64 5 (p1.gT)]]) (v := agg [.rows 20 16 (rowE E_api_Point (y20))]) rfl (fun w hw => curve_multiples_spec (r := y20) (p0 := p1) ey20 )) ?_
    refine ws_q1 _ (q_ld (p := [.ints .u64 5 (y7.gX), .ints .u64 5 (y7.gY), .ints .u64 5 (y7.gZ), .ints .u64 5 (y7.gT)]) rfl .here rfl) ?_
    refine ws_p1 _ (q_call (vs := [agg [.ints .u64 5 (y7.gX), .ints .u64 5 (y7.gY), .ints .u64 5 (y7.gZ), .ints .u64 5 (y7.gT)]]) (v := agg [.rows 20 16 (rowE E_api_Point (y21))]) rfl (fun w hw => curve_multiples_spec (r := y21) (p0 := y7) ey21 )) ?_
    refine ws_two (ef_al2 (z' := [.rows 20 16 (rowE E_api_Point ((List.replicate 16 api_Point_z)))]) (alz_rows (E := E_api_Point) rfl rfl) fun b22 hb22 => ⟨(by repeat (first | exact Sup.refl _ | apply Sup.cons | apply Sup.app)), ?_⟩) (ef_al2 (z' := [.rows 20 16 (rowE E_api_Point ((List.replicate 16 api_Point_z)))]) (alz_rows (E := E_api_Point) rfl rfl) fun b23 hb23 => ⟨(by repeat (first | exact Sup.refl _ | apply Sup.cons | apply Sup.app)), ?_⟩)
    · refine ws_e1 (ef_al2 (z' := [.rows 20 16 (rowE E_api_Point ((List.replicate 16 api_Point_z)))]) (alz_rows (E := E_api_Point) rfl rfl) fun b23 hb23 => ⟨(by repeat (first | exact Sup.refl _ | apply Sup.cons | apply Sup.app)), ?_⟩)
      refine ws_eL rfl (ef_stg (q := [.rows 20 16 (rowE E_api_Point (y20))]) rfl rfl rfl rfl (ones_cons (ones_rows (E := E_api_Point)) ones_nil) (.there .here) ?_)
      refine ws_eM rfl (ef_stg (q := [.rows 20 16 (rowE E_api_Point (y21))]) rfl rfl rfl rfl (ones_cons (ones_rows (E := E_api_Point)) ones_nil) .here ?_)
      refine ws_nil ?_
      exact ⟨y20, y21, b22, b23, h, ⟨⟨rfl, rfl, rfl, rfl, rfl, trivial⟩, (.one .here (.one .here (.one .here (.one .here (.one .here (.one .here (.one .here .nil)))))))⟩⟩
    · refine ws_e1 (ef_al2 (z' := [.rows 20 16 (rowE E_api_Point ((List.replicate 16 api_Point_z)))]) (alz_rows (E := E_api_Point) rfl rfl) fun b22 hb22 => ⟨(by repeat (first | exact Sup.refl _ | apply Sup.cons | apply Sup.app)), ?_⟩)
      refine ws_eL rfl (ef_stg (q := [.rows 20 16 (rowE E_api_Point (y20))]) rfl rfl rfl rfl (ones_cons (ones_rows (E := E_api_Point)) ones_nil) .here ?_)
      refine ws_eM rfl (ef_stg (q := [.rows 20 16 (rowE E_api_Point (y21))]) rfl rfl rfl rfl (ones_cons (ones_rows (E := E_api_Point)) ones_nil) (.there .here) ?_)
      refine ws_nil ?_
      exact ⟨y20, y21, b22, b23, h, ⟨⟨rfl, rfl, rfl, rfl, rfl, trivial⟩, (.one (.there .here) (.one .here (.one .here (.one .here (.one .here (.one .here (.one .here .nil)))))))⟩⟩
  · rintro t m ⟨a15, a17, b14, b16, h, hF⟩
    refine wc_fit hF ?_
    clear hF
    subst qk18
    refine wc_seq ?_
    revert h
    refine opt_i fun y25 ey25 => ?_
    intro h
    refine wc_ops ?_
    refine wj_q _ (q_call (vs := []) (v := agg [.ints .u64 5 (y25.gX), .ints .u64 5 (y25.gY), .ints .u64 5 (y25.gZ), .ints .u64 5 (y25.gT)]) rfl (fun w hw => curve_Zero_spec (r := y25) ey25 )) ?_
    refine wj_e (ef_al fun b26 hb26 => ?_)
    refine wj_e (ef_st (q := [.ints .u64 5 (y25.gX), .ints .u64 5 (y25.gY), .ints .u64 5 (y25.gZ), .ints .u64 5 (y25.gT)]) rfl rfl rfl rfl rfl .here ?_)
    refine wj_nil ?_
    refine wc_seq ?_
    refine wc_seq ?_
    refine wc_ops ?_
    refine wj_q _ (q_mv rfl) ?_
    refine wj_nil ?_
    revert h
    refine jn_i fun k270 qk270 => ?_
    intro h
    refine wc_mono2 (G := fun t m => ∃ (a266 : List Int) (a267 : List Int) (a268 : List Int) (a269 : List Int), k270 a266 a267 a268 a269 = some r ∧ Fit [(6, .pointer (some ⟨b5, 0, none⟩)), (10, .pointer (some ⟨b26, 0, none⟩))] (ck b26 60 [.ints .u64 5 (a266), .ints .u64 5 (a267), .ints .u64 5 (a268), .ints .u64 5 (a269)] :: (ck b16 105 [.rows 20 16 (rowE E_api_Point (a17))] :: (ck b14 105 [.rows 20 16 (rowE E_api_Point (a15))] :: (ck b8 60 [.ints .u64 5 (y7.gX), .ints .u64 5 (y7.gY), .ints .u64 5 (y7.gZ), .ints .u64 5 (y7.gT)] :: (ck b5 60 [.ints .u64 5 ((List.replicate 5 0)), .ints .u64 5 ((List.replicate 5 0)), .ints .u64 5 ((List.replicate 5 0)), .ints .u64 5 ((List.replicate 5 0))] :: (ck b4 63 [.ints .u8 32 (p2)] :: (ck b3 60 [.ints .u64 5 (p1.gX), .ints .u64 5 (p1.gY), .ints .u64 5 (p1.gZ), .ints .u64 5 (p1.gT)] :: (ck b2 63 [.ints .u8 32 (p0)] :: [])))))))) t m) ?_ ?_
    · refine wc_block ?_
      refine wc_loopJ (fun n432 t m => ∃ (i426 : Int) (a427 : List Int) (a428 : List Int) (a429 : List Int) (a430 : List Int), curve_Combine_l1 p0 p2 a15 a17 k270 n432 i426 a427 a428 a429 a430 = some r ∧ Fit [(3, .pointer (some ⟨b2, 0, none⟩)), (5, .pointer (some ⟨b4, 0, none⟩)), (6, .pointer (some ⟨b5, 0, none⟩)), (8, .pointer (some ⟨b14, 0, none⟩)), (9, .pointer (some ⟨b16, 0, none⟩)), (10, .pointer (some ⟨b26, 0, none⟩)), (18, .int .i64 (i426))] (ck b26 60 [.ints .u64 5 (a427), .ints .u64 5 (a428), .ints .u64 5 (a429), .ints .u64 5 (a430)] :: (ck b16 105 [.rows 20 16 (rowE E_api_Point (a17))] :: (ck b14 105 [.rows 20 16 (rowE E_api_Point (a15))] :: (ck b8 60 [.ints .u64 5 (y7.gX), .ints .u64 5 (y7.gY), .ints .u64 5 (y7.gZ), .ints .u64 5 (y7.gT)] :: (ck b5 60 [.ints .u64 5 ((List.replicate 5 0)), .ints .u64 5 ((List.replicate 5 0)), .ints .u64 5 ((List.replicate 5 0)), .ints .u64 5 ((List.replicate 5 0))] :: (ck b4 63 [.ints .u8 32 (p2)] :: (ck b3 60 [.ints .u64 5 (p1.gX), .ints .u64 5 (p1.gY), .ints .u64 5 (p1.gZ), .ints .u64 5 (p1.gT)] :: (ck b2 63 [.ints .u8 32 (p0)] :: [])))))))) t m) big ?_ ?_
      · exact ⟨0, y25.gX, y25.gY, y25.gZ, y25.gT, h, ⟨⟨rfl, rfl, rfl, rfl, rfl, rfl, rfl, trivial⟩, (.one .here (.one .here (.one .here (.one .here (.one .here (.one .here (.one .here (.one .here .nil))))))))⟩⟩
      · rintro n432 t m ⟨i426, a427, a428, a429, a430, h, hF⟩
        refine wc_fit hF ?_
        clear hF
        rcases n432 with _ | n432
        · exact none_i h
        have h : curve_Combine_b1 p0 p2 a15 a17 k270 (curve_Combine_l1 p0 p2 a15 a17 k270 n432) i426 a427 a428 a429 a430 = some r := h
        unfold curve_Combine_b1 at h
        obtain ⟨k431, qk431⟩ : ∃ k, k = curve_Combine_l1 p0 p2 a15 a17 k270 n432 := ⟨_, rfl⟩
        try rw [← qk431] at h
        refine wc_seq ?_
        refine wc_ops ?_
        refine wj_q _ (q_bin rfl rfl rfl) ?_
        refine wj_nil ?_
        refine wc_seq ?_
        refine wc_if (c := (decide (i426 < 64))) rfl (fun d434 => ?_) (fun d434 => ?_)
        · have h := br_t h d434
          refine wc_skip ?_
          refine wc_seq ?_
          refine wc_block ?_
          refine wc_seq ?_
          refine wc_ops ?_
          refine wj_q _ (q_mv rfl) ?_
          refine wj_q _ (q_mv rfl) ?_
          refine wj_nil ?_
          refine wc_seq ?_
          refine wc_seq ?_
          refine wc_ops ?_
          refine wj_q _ (q_mv rfl) ?_
          refine wj_nil ?_
          revert h
          refine jn_i fun k469 qk469 => ?_
          intro h
          refine wc_mono2 (G := fun t m => ∃ (a465 : List Int) (a466 : List Int) (a467 : List Int) (a468 : List Int), k469 a465 a466 a467 a468 = some r ∧ Fit [(3, .pointer (some ⟨b2, 0, none⟩)), (5, .pointer (some ⟨b4, 0, none⟩)), (6, .pointer (some ⟨b5, 0, none⟩)), (8, .pointer (some ⟨b14, 0, none⟩)), (9, .pointer (some ⟨b16, 0, none⟩)), (10, .pointer (some ⟨b26, 0, none⟩)), (11, .int .i64 (i426)), (18, .int .i64 (i426))] (ck b26 60 [.ints .u64 5 (a465), .ints .u64 5 (a466), .ints .u64 5 (a467), .ints .u64 5 (a468)] :: (ck b16 105 [.rows 20 16 (rowE E_api_Point (a17))] :: (ck b14 105 [.rows 20 16 (rowE E_api_Point (a15))] :: (ck b8 60 [.ints .u64 5 (y7.gX), .ints .u64 5 (y7.gY), .ints .u64 5 (y7.gZ), .ints .u64 5 (y7.gT)] :: (ck b5 60 [.ints .u64 5 ((List.replicate 5 0)), .ints .u64 5 ((List.replicate 5 0)), .ints .u64 5 ((List.replicate 5 0)), .ints .u64 5 ((List.replicate 5 0))] :: (ck b4 63 [.ints .u8 32 (p2)] :: (ck b3 60 [.ints .u64 5 (p1.gX), .ints .u64 5 (p1.gY), .ints .u64 5 (p1.gZ), .ints .u64 5 (p1.gT)] :: (ck b2 63 [.ints .u8 32 (p0)] :: [])))))))) t m) ?_ ?_
          · refine wc_block ?_
            refine wc_loopJ (fun n491 t m => ∃ (i485 : Int) (a486 : List Int) (a487 : List Int) (a488 : List Int) (a489 : List Int), curve_Combine_l2 k469 n491 i485 a486 a487 a488 a489 = some r ∧ Fit [(3, .pointer (some ⟨b2, 0, none⟩)), (5, .pointer (some ⟨b4, 0, none⟩)), (6, .pointer (some ⟨b5, 0, none⟩)), (8, .pointer (some ⟨b14, 0, none⟩)), (9, .pointer (some ⟨b16, 0, none⟩)), (10, .pointer (some ⟨b26, 0, none⟩)), (11, .int .i64 (i426)), (18, .int .i64 (i426)), (21, .int .i64 (i485))] (ck b26 60 [.ints .u64 5 (a486), .ints .u64 5 (a487), .ints .u64 5 (a488), .ints .u64 5 (a489)] :: (ck b16 105 [.rows 20 16 (rowE E_api_Point (a17))] :: (ck b14 105 [.rows 20 16 (rowE E_api_Point (a15))] :: (ck b8 60 [.ints .u64 5 (y7.gX), .ints .u64 5 (y7.gY), .ints .u64 5 (y7.gZ), .ints .u64 5 (y7.gT)] :: (ck b5 60 [.ints .u64 5 ((List.replicate 5 0)), .ints .u64 5 ((List.replicate 5 0)), .ints .u64 5 ((List.replicate 5 0)), .ints .u64 5 ((List.replicate 5 0))] :: (ck b4 63 [.ints .u8 32 (p2)] :: (ck b3 60 [.ints .u64 5 (p1.gX), .ints .u64 5 (p1.gY), .ints .u64 5 (p1.gZ), .ints .u64 5 (p1.gT)] :: (ck b2 63 [.ints .u8 32 (p0)] :: [])))))))) t m) big ?_ ?_
            · exact ⟨0, a427, a428, a429, a430, h, ⟨⟨rfl, rfl, rfl, rfl, rfl, rfl, rfl, rfl, rfl, trivial⟩, (.one .here (.one .here (.one .here (.one .here (.one .here (.one .here (.one .here (.one .here .nil))))))))⟩⟩
            · rintro n491 t m ⟨i485, a486, a487, a488, a489, h, hF⟩
              refine wc_fit hF ?_
              clear hF
              rcases n491 with _ | n491
              · exact none_i h
              have h : curve_Combine_b2 k469 (curve_Combine_l2 k469 n491) i485 a486 a487 a488 a489 = some r := h
              unfold curve_Combine_b2 at h
              obtain ⟨k490, qk490⟩ : ∃ k, k = curve_Combine_l2 k469 n491 := ⟨_, rfl⟩
              try rw [← qk490] at h
              refine wc_seq ?_
              refine wc_ops ?_
              refine wj_q _ (q_bin rfl rfl rfl) ?_
              refine wj_nil ?_
              refine wc_seq ?_
              refine wc_if (c := (decide (i485 < 4))) rfl (fun d493 => ?_) (fun d493 => ?_)
              · have h := br_t h d493
                refine wc_skip ?_
                refine wc_seq ?_
                refine wc_block ?_
                revert h
                refine opt_i fun y495 ey495 => ?_
                intro h
                refine wc_ops ?_
                refine wj_q _ (q_ld (p := [.ints .u64 5 (a486), .ints .u64 5 (a487), .ints .u64 5 (a488), .ints .u64 5 (a489)]) rfl .here rfl) ?_
                refine wj_q _ (q_call (vs := [agg [.ints .u64 5 (a486), .ints .u64 5 (a487), .ints .u64 5 (a488), .ints .u64 5 (a489)]]) (v := agg [.ints .u64 5 (y495.gX), .ints .u64 5 (y495.gY), .ints .u64 5 (y495.gZ), .ints .u64 5 (y495.gT)]) rfl (fun w hw => curve_Double_spec (r := y495) (p0 := (⟨a486, a487, a488, a489⟩ : api_Point)) ey495 )) ?_
                refine wj_e (ef_st (q := [.ints .u64 5 (y495.gX), .ints .u64 5 (y495.gY), .ints .u64 5 (y495.gZ), .ints .u64 5 (y495.gT)]) rfl rfl rfl rfl rfl .here ?_)
                refine wj_nil ?_
                revert h
                refine bnd_i fun z497 ez497 => ?_
                intro h
                refine wc_ops ?_
                refine wj_q _ (iz ez497 (q_bin rfl rfl rfl)) ?_
                refine wj_q _ (q_mv rfl) ?_
                refine wj_nil ?_
                rw [qk490] at h
                exact ⟨n491, Nat.lt_succ_self _, z497, y495.gX, y495.gY, y495.gZ, y495.gT, h, ⟨⟨rfl, rfl, rfl, rfl, rfl, rfl, rfl, rfl, rfl, trivial⟩, (.one .here (.one .here (.one .here (.one .here (.one .here (.one .here (.one .here (.one .here .nil))))))))⟩⟩
              · have h := br_f h d493
                refine wc_exit _ rfl ?_
                exact ⟨a486, a487, a488, a489, h, ⟨⟨rfl, rfl, rfl, rfl, rfl, rfl, rfl, rfl, trivial⟩, (.one .here (.one .here (.one .here (.one .here (.one .here (.one .here (.one .here (.one .here .nil))))))))⟩⟩
          · rintro t m ⟨a465, a466, a467, a468, h, hF⟩
            refine wc_fit hF ?_
            clear hF
            subst qk469
            revert h
            refine opt_i fun y499 ey499 => ?_
            refine chk_i fun c500 => ?_
            refine bnd_i fun x501 ex501 => ?_
            refine opt_i fun y502 ey502 => ?_
            refine opt_i fun y503 ey503 => ?_
            refine chk_i fun c504 => ?_
            refine bnd_i fun x505 ex505 => ?_
            refine opt_i fun y506 ey506 => ?_
            intro h
            refine wc_draw ?_
            refine ws_p1 _ (q_mv rfl) ?_
            refine ws_p1 _ (q_mv rfl) ?_
            refine ws_q1 _ (q_ld (p := [.ints .u64 5 (a465), .ints .u64 5 (a466), .ints .u64 5 (a467), .ints .u64 5 (a468)]) rfl .here rfl) ?_
            refine ws_q1 _ (q_ld (p := [.ints .u8 32 (p0)]) rfl (.there (.there (.there (.there (.there (.there (.there .here))))))) rfl) ?_
            refine ws_p1 _ (q_call (vs := [agg [.ints .u8 32 (p0)], .int .i64 (i426)]) (v := .int .u8 (y499)) rfl (fun w hw => curve_nibble_spec (r := y499) (p0 := p0) (p1 := i426) ey499 )) ?_
            refine ws_p1 _ (q_ia rfl rfl (inB_z c500)) ?_
            refine ws_q1 _ (az (fun x501 => agg [.ints .u64 5 (x501.gX), .ints .u64 5 (x501.gY), .ints .u64 5 (x501.gZ), .ints .u64 5 (x501.gT)]) ex501 (q_ldr0 (base := 0) (w := 20) rfl (.there (.there .here)) rfl (inB_n c500) rfl rfl rfl)) ?_
            refine ws_p1 _ (q_call (vs := [agg [.ints .u64 5 (a465), .ints .u64 5 (a466), .ints .u64 5 (a467), .ints .u64 5 (a468)], agg [.ints .u64 5 (x501.gX), .ints .u64 5 (x501.gY), .ints .u64 5 (x501.gZ), .ints .u64 5 (x501.gT)]]) (v := agg [.ints .u64 5 (y502.gX), .ints .u64 5 (y502.gY), .ints .u64 5 (y502.gZ), .ints .u64 5 (y502.gT)]) rfl (fun w hw => curve_Add_spec (r := y502) (p0 := (⟨a465, a466, a467, a468⟩ : api_Point)) (p1 := x501) ey502 )) ?_
            refine ws_q1 _ (q_ld (p := [.ints .u8 32 (p2)]) rfl (.there (.there (.there (.there (.there .here))))) rfl) ?_
            refine ws_p1 _ (q_call (vs := [agg [.ints .u8 32 (p2)], .int .i64 (i426)]) (v := .int .u8 (y503)) rfl (fun w hw => curve_nibble_spec (r := y503) (p0 := p2) (p1 := i426) ey503 )) ?_
            refine ws_p1 _ (q_ia rfl rfl (inB_z c504)) ?_
            refine ws_q1 _ (az (fun x505 => agg [.ints .u64 5 (x505.gX), .ints .u64 5 (x505.gY), .ints .u64 5 (x505.gZ), .ints .u64 5 (x505.gT)]) ex505 (q_ldr0 (base := 0) (w := 20) rfl (.there .here) rfl (inB_n c504) rfl rfl rfl)) ?_
            refine ws_p1 _ (q_call (vs := [agg [.ints .u64 5 (y502.gX), .ints .u64 5 (y502.gY), .ints .u64 5 (y502.gZ), .ints .u64 5 (y502.gT)], agg [.ints .u64 5 (x505.gX), .ints .u64 5 (x505.gY), .ints .u64 5 (x505.gZ), .ints .u64 5 (x505.gT)]]) (v := agg [.ints .u64 5 (y506.gX), .ints .u64 5 (y506.gY), .ints .u64 5 (y506.gZ), .ints .u64 5 (y506.gT)]) rfl (fun w hw => curve_Add_spec (r := y506) (p0 := y502) (p1 := x505) ey506 )) ?_
            refine ws_eL rfl (ef_st (q := [.ints .u64 5 (y506.gX), .ints .u64 5 (y506.gY), .ints .u64 5 (y506.gZ), .ints .u64 5 (y506.gT)]) rfl rfl rfl rfl rfl .here ?_)
            refine ws_nil ?_
            revert h
            refine bnd_i fun z508 ez508 => ?_
            intro h
            refine wc_ops ?_
            refine wj_q _ (iz ez508 (q_bin rfl rfl rfl)) ?_
            refine wj_q _ (q_mv rfl) ?_
            refine wj_nil ?_
            rw [qk431] at h
            exact ⟨n432, Nat.lt_succ_self _, z508, y506.gX, y506.gY, y506.gZ, y506.gT, h, ⟨⟨rfl, rfl, rfl, rfl, rfl, rfl, rfl, trivial⟩, (.one .here (.one .here (.one .here (.one .here (.one .here (.one .here (.one .here (.one .here .nil))))))))⟩⟩
        · have h := br_f h d434
          refine wc_exit _ rfl ?_
          exact ⟨a427, a428, a429, a430, h, ⟨⟨rfl, rfl, trivial⟩, (.one .here (.one .here (.one .here (.one .here (.one .here (.one .here (.one .here (.one .here .nil))))))))⟩⟩
    · rintro t m ⟨a266, a267, a268, a269, h, hF⟩
      refine wc_fit hF ?_
      clear hF
      subst qk270
      refine wc_seq ?_
      refine wc_ops ?_
      refine wj_q _ (q_ld (p := [.ints .u64 5 (a266), .ints .u64 5 (a267), .ints .u64 5 (a268), .ints .u64 5 (a269)]) rfl .here rfl) ?_
      refine wj_e (ef_st (q := [.ints .u64 5 (a266), .ints .u64 5 (a267), .ints .u64 5 (a268), .ints .u64 5 (a269)]) rfl rfl rfl rfl rfl (.there (.there (.there (.there .here)))) ?_)
      refine wj_nil ?_
      refine wc_ret ?_
      revert h; refine ret_i fun h => ?_
      subst h
      exact ⟨_, (.cons (.agg rfl (.there (.there (.there (.there .here)))) rfl) .nil), rfl⟩
/- farebox/curve.Neg -/
def curve_Neg (p0 : api_Point) : Option (api_Point) :=
 opt (field_Neg p0.gX) fun y5 =>
 opt (field_Neg p0.gT) fun y6 =>
 some (⟨y5, p0.gY, p0.gZ, y6⟩ : api_Point)
theorem curve_Neg_spec {W : World} {r : api_Point} {p0 : api_Point} (h : curve_Neg p0 = some r)  :
    Calls Tryd.prog 23 [agg [.ints .u64 5 (p0.gX), .ints .u64 5 (p0.gY), .ints .u64 5 (p0.gZ), .ints .u64 5 (p0.gT)]].toArray W (ret1 W (agg [.ints .u64 5 (r.gX), .ints .u64 5 (r.gY), .ints .u64 5 (r.gZ), .ints .u64 5 (r.gT)])) := by
  unfold curve_Neg at h
  refine calls_val mo ok23 rfl ?_
  refine wc_seq ?_
  refine wc_ops ?_
  refine wj_e (ef_bx (s := [.ints .u64 5 (p0.gX), .ints .u64 5 (p0.gY), .ints .u64 5 (p0.gZ), .ints .u64 5 (p0.gT)]) rfl fun b2 hb2 => ?_)
  refine wj_e (ef_al fun b3 hb3 => ?_)
  refine wj_nil ?_
  refine wc_seq ?_
  revert h
  refine opt_i fun y5 ey5 => ?_
  refine opt_i fun y6 ey6 => ?_
  intro h
  refine wc_draw ?_
  refine ws_p1 _ (q_fa rfl) ?_
  refine ws_p1 _ (q_fa rfl) ?_
  refine ws_p1 _ (q_fa rfl) ?_
  refine ws_p1 _ (q_fa rfl) ?_
  refine ws_q1 _ (q_ld (p := [.ints .u64 5 (p0.gX)]) rfl (.there .here) rfl) ?_
  refine ws_p1 _ (q_call (vs := [agg [.ints .u64 5 (p0.gX)]]) (v := agg [.ints .u64 5 (y5)]) rfl (fun w hw => field_Neg_spec (r := y5) (p0 := p0.gX) ey5 )) ?_
  refine ws_q1 _ (q_ld (p := [.ints .u64 5 (p0.gY)]) rfl (.there .here) rfl) ?_
  refine ws_q1 _ (q_ld (p := [.ints .u64 5 (p0.gZ)]) rfl (.there .here) rfl) ?_
  refine ws_q1 _ (q_ld (p := [.ints .u64 5 (p0.gT)]) rfl (.there .here) rfl) ?_
  refine ws_p1 _ (q_call (vs := [agg [.ints .u64 5 (p0.gT)]]) (v := agg [.ints .u64 5 (y6)]) rfl (fun w hw => field_Neg_spec (r := y6) (p0 := p0.gT) ey6 )) ?_
  refine ws_p1 _ (q_bd (q := [.ints .u64 5 (y5), .ints .u64 5 (p0.gY), .ints .u64 5 (p0.gZ), .ints .u64 5 (y6)]) (.agg rfl rfl rfl (.agg rfl rfl rfl (.agg rfl rfl rfl (.agg rfl rfl rfl BdR.nil))))) ?_
  refine ws_eL rfl (ef_st (q := [.ints .u64 5 (y5), .ints .u64 5 (p0.gY), .ints .u64 5 (p0.gZ), .ints .u64 5 (y6)]) rfl rfl rfl rfl rfl .here ?_)
  refine ws_nil ?_
  refine wc_ret ?_
  revert h; refine ret_i fun h => ?_
  subst h
  exact ⟨_, (.cons (.agg rfl .here rfl) .nil), rfl⟩
end Go.Proofs.YtiflckckekjbnaaDoor
