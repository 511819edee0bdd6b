/- Mirrors. -/
import Derived.Test.YtiflckckekjbnaaDoorL10
namespace Go.Proofs.YtiflckckekjbnaaDoor
open Go Go.Sx Go.RowKit
set_option linter.all false
set_option maxHeartbeats 400000
set_option maxRecDepth 100000
/- farebox/curve.MulBase -/
def curve_MulBase (p0 : List Int) : Option (api_Point) :=
 opt (curve_start) fun y5 =>
 opt (curve_Mul p0 y5) fun y6 =>
 some y6
theorem curve_MulBase_spec {W : World} {r : api_Point} {p0 : List Int} (h : curve_MulBase p0 = some r)  :
    Calls Tryd.prog 25 [agg [.ints .u8 32 (p0)]].toArray W (ret1 W (agg [.ints .u64 5 (r.gX), .ints .u64 5 (r.gY), .ints .u64 5 (r.gZ), .ints .u64 5 (r.gT)])) := by
  unfold curve_MulBase at h
  refine calls_val mo ok25 rfl ?_
  refine wc_seq ?_
  refine wc_ops ?_
  refine wj_e (ef_bx (s := [.ints .u8 32 (p0)]) rfl fun b2 hb2 => ?_)
  refine wj_e (ef_al fun b3 hb3 => ?_)
  refine wj_nil ?_
  refine wc_seq ?_
  revert h
  refine opt_i fun y5 ey5 => ?_
  refine opt_i fun y6 ey6 => ?_
  intro h
  refine wc_draw ?_
  refine ws_p1 _ (q_call (vs := []) (v := agg [.ints .u64 5 (y5.gX), .ints .u64 5 (y5.gY), .ints .u64 5 (y5.gZ), .ints .u64 5 (y5.gT)]) rfl (fun w hw => curve_start_spec (r := y5) ey5 )) ?_
  refine ws_q1 _ (q_ld (p := [.ints .u8 32 (p0)]) rfl (.there .here) rfl) ?_
  refine ws_p1 _ (q_call (vs := [agg [.ints .u8 32 (p0)], agg [.ints .u64 5 (y5.gX), .ints .u64 5 (y5.gY), .ints .u64 5 (y5.gZ), .ints .u64 5 (y5.gT)]]) (v := agg [.ints .u64 5 (y6.gX), .ints .u64 5 (y6.gY), .ints .u64 5 (y6.gZ), .ints .u64 5 (y6.gT)]) rfl (fun w hw => curve_Mul_spec (r := y6) (p0 := p0) (p1 := y5) ey6 )) ?_
  refine ws_eL rfl (ef_st (q := [.ints .u64 5 (y6.gX), .ints .u64 5 (y6.gY), .ints .u64 5 (y6.gZ), .ints .u64 5 (y6.gT)]) rfl rfl rfl rfl rfl .here ?_)
  refine ws_nil ?_
  refine wc_ret ?_
  revert h; refine ret_i fun h => ?_
  subst h
  exact ⟨_, (.cons (.agg rfl .here rfl) .nil), rfl⟩
/- farebox/scalar.words -/
def scalar_words (p0 : List Int) : Option ((List Int)) :=
 opt (scalar_load p0) fun y4 =>
 some (tk y4 0 4)
theorem scalar_words_spec {W : World} {r : (List Int)} {p0 : List Int} (h : scalar_words p0 = some r)  :
    Calls Tryd.prog 93 [agg [.ints .u8 32 (p0)]].toArray W (retS W [] (fun v Ms => ∃ (u0 : Value) (M0 : List Chunk), v = u0 ∧ Ms = [.all M0] ∧ OwnSl (El.int .u64) u0 M0 r)) := by
  unfold scalar_words at h
  refine calls_memT mo ok93 rfl (sat0 _) ?_
  refine wc_seq ?_
  refine wc_ops ?_
  refine wj_e (ef_bx (s := [.ints .u8 32 (p0)]) rfl fun b2 hb2 => ?_)
  refine wj_q _ (q_mv rfl) ?_
  refine wj_nil ?_
  refine wc_seq ?_
  revert h
  refine opt_i fun y4 ey4 => ?_
  intro h
  refine wc_ops ?_
  refine wj_q _ (q_ld (p := [.ints .u8 32 (p0)]) rfl .here rfl) ?_
  refine wj_q _ (q_call (vs := [agg [.ints .u8 32 (p0)]]) (v := agg [.ints .u64 4 (y4)]) rfl (fun w hw => scalar_load_spec (r := y4) (p0 := p0) ey4 )) ?_
  refine wj_e (ef_al fun b5 hb5 => ?_)
  refine wj_e (ef_st (q := [.ints .u64 4 (y4)]) rfl rfl rfl rfl rfl .here ?_)
  refine wj_nil ?_
  refine wc_seq ?_
  refine wc_ops ?_
  refine wj_q _ (q_sla rfl .no .no .no (by simp) (by decide)) ?_
  refine wj_q _ (q_mv rfl) ?_
  refine wj_nil ?_
  refine wc_ret ?_
  revert h; refine ret_i fun h => ?_
  subst h
  exact ⟨_, _, (.cons (.tmp rfl) .nil), (.one .here .nil), ⟨_, rfl, ⟨(.slice (some (slAddr b5 0 0 4 1)) (4 - 0) (4 - 0)), [ck b5 93 [.ints .u64 4 (y4)]], rfl, rfl, (own_blk_i (s := [.ints .u64 4 (y4)]) (N := 4) (k := .u64) (base := 0) (lo := 0) (hi := 4) (mz := 4) rfl (by decide))⟩⟩⟩
/- farebox/scalar.mod -/
def scalar_mod (p0 : List Int) : Option ((List Int)) :=
 opt (scalar_words p0) fun y5 =>
 opt (scalar_reduce y5) fun y11 =>
 some y11
theorem scalar_mod_spec {W : World} {r : (List Int)} {p0 : List Int} (h : scalar_mod p0 = some r) (hG : Globs W) :
    Calls Tryd.prog 90 [agg [.ints .u8 32 (p0)]].toArray W (ret1 W (agg [.ints .u64 4 (r)])) := by
  unfold scalar_mod at h
  refine calls_val mo ok90 rfl ?_
  refine wc_seq ?_
  refine wc_ops ?_
  refine wj_e (ef_bx (s := [.ints .u8 32 (p0)]) rfl fun b2 hb2 => ?_)
  refine wj_e (ef_al fun b3 hb3 => ?_)
  refine wj_nil ?_
  refine wc_seq ?_
  revert h
  refine opt_i fun y5 ey5 => ?_
  refine opt_i fun y11 ey11 => ?_
  intro h
  refine wc_ops ?_
  refine wj_q _ (q_ld (p := [.ints .u8 32 (p0)]) rfl (.there .here) rfl) ?_
  refine wj_e (ef_callS0 rfl (fun w hw => scalar_words_spec (r := y5) (p0 := p0) ey5 ) fun v6 Msv6 R7 => ?_)
  obtain ⟨_, ms9, rfl, rfl, O10⟩ := R7
  refine wj_q _ (q_call (vs := [v6]) (v := agg [.ints .u64 4 (y11)]) rfl (fun w hw => scalar_reduce_spec (r := y11) (p0 := y5) ey11 (hG.at hw (by simp)) ((rd_own O10 .here) w hw))) ?_
  refine wj_e (ef_st (q := [.ints .u64 4 (y11)]) rfl rfl rfl rfl rfl (.app .here) ?_)
  refine wj_nil ?_
  refine wc_ret ?_
  revert h; refine ret_i fun h => ?_
  subst h
  exact ⟨_, (.cons (.agg rfl (.app .here) rfl) .nil), rfl⟩
/- farebox/scalar.Add -/
def scalar_Add (p0 : List Int) (p1 : List Int) : Option ((List Int)) :=
 opt (scalar_mod p0) fun y6 =>
 opt (scalar_mod p1) fun y7 =>
 opt (scalar_plus y6 y7) fun y8 =>
 opt (scalar_below y8.1) fun y11 =>
 opt (scalar_store y11) fun y12 =>
 some y12
theorem scalar_Add_spec {W : World} {r : (List Int)} {p0 : List Int} {p1 : List Int} (h : scalar_Add p0 p1 = some r) (hG : Globs W) :
    Calls Tryd.prog 61 [agg [.ints .u8 32 (p0)], agg [.ints .u8 32 (p1)]].toArray W (ret1 W (agg [.ints .u8 32 (r)])) := by
  unfold scalar_Add at h
  refine calls_val mo ok61 rfl ?_
  refine wc_seq ?_
  refine wc_ops ?_
  refine wj_e (ef_bx (s := [.ints .u8 32 (p0)]) rfl fun b2 hb2 => ?_)
  refine wj_e (ef_bx (s := [.ints .u8 32 (p1)]) rfl fun b3 hb3 => ?_)
  refine wj_e (ef_al fun b4 hb4 => ?_)
  refine wj_nil ?_
  refine wc_seq ?_
  revert h
  refine opt_i fun y6 ey6 => ?_
  refine opt_i fun y7 ey7 => ?_
  refine opt_i fun y8 ey8 => ?_
  intro h
  refine wc_draw ?_
  refine ws_q1 _ (q_ld (p := [.ints .u8 32 (p0)]) rfl (.there (.there .here)) rfl) ?_
  refine ws_p1 _ (q_call (vs := [agg [.ints .u8 32 (p0)]]) (v := agg [.ints .u64 4 (y6)]) rfl (fun w hw => scalar_mod_spec (r := y6) (p0 := p0) ey6 (hG.at hw (by simp)))) ?_
  refine ws_q1 _ (q_ld (p := [.ints .u8 32 (p1)]) rfl (.there .here) rfl) ?_
  refine ws_p1 _ (q_call (vs := [agg [.ints .u8 32 (p1)]]) (v := agg [.ints .u64 4 (y7)]) rfl (fun w hw => scalar_mod_spec (r := y7) (p0 := p1) ey7 (hG.at hw (by simp)))) ?_
  refine ws_p1 _ (q_call (vs := [agg [.ints .u64 4 (y6)], agg [.ints .u64 4 (y7)]]) (v := .tuple #[agg [.ints .u64 4 (y8.1)], .int .u64 (y8.2)]) rfl (fun w hw => scalar_plus_spec (r := y8) (p0 := y6) (p1 := y7) ey8 )) ?_
  refine ws_p1 _ (q_mv rfl) ?_
  refine ws_p1 _ (q_ext rfl rfl) ?_
  refine ws_p1 _ (q_ext rfl rfl) ?_
  refine ws_e1 (ef_al fun b9 hb9 => ⟨(by repeat (first | exact Sup.refl _ | apply Sup.cons | apply Sup.app)), ?_⟩)
  refine ws_eL rfl (ef_st (q := [.ints .u64 4 (y8.1)]) rfl rfl rfl rfl rfl .here ?_)
  refine ws_p1 _ (q_mv rfl) ?_
  refine ws_nil ?_
  refine wc_seq ?_
  revert h
  refine opt_i fun y11 ey11 => ?_
  refine opt_i fun y12 ey12 => ?_
  intro h
  refine wc_ops ?_
  refine wj_q _ (q_ld (p := [.ints .u64 4 (y8.1)]) rfl .here rfl) ?_
  refine wj_q _ (q_call (vs := [agg [.ints .u64 4 (y8.1)]]) (v := agg [.ints .u64 4 (y11)]) rfl (fun w hw => scalar_below_spec (r := y11) (p0 := y8.1) ey11 (hG.at hw (by simp)))) ?_
  refine wj_q _ (q_call (vs := [agg [.ints .u64 4 (y11)]]) (v := agg [.ints .u8 32 (y12)]) rfl (fun w hw => scalar_store_spec (r := y12) (p0 := y11) ey12 )) ?_
  refine wj_e (ef_st (q := [.ints .u8 32 (y12)]) rfl rfl rfl rfl rfl (.there .here) ?_)
  refine wj_nil ?_
  refine wc_ret ?_
  revert h; refine ret_i fun h => ?_
  subst h
  exact ⟨_, (.cons (.agg rfl (.there .here) rfl) .nil), rfl⟩
/- farebox/scalar.Mul -/
def scalar_Mul (p0 : List Int) (p1 : List Int) : Option ((List Int)) :=
 opt (scalar_words p0) fun y6 =>
 opt (scalar_words p1) fun y12 =>
 opt (scalar_times y6 y12) fun y18 =>
 opt (scalar_reduce y18) fun y24 =>
 opt (scalar_store y24) fun y25 =>
 some y25
theorem scalar_Mul_spec {W : World} {r : (List Int)} {p0 : List Int} {p1 : List Int} (h : scalar_Mul p0 p1 = some r) (hG : Globs W) :
    Calls Tryd.prog 62 [agg [.ints .u8 32 (p0)], agg [.ints .u8 32 (p1)]].toArray W (ret1 W (agg [.ints .u8 32 (r)])) := by
  unfold scalar_Mul at h
  refine calls_val mo ok62 rfl ?_
  refine wc_seq ?_
  refine wc_ops ?_
  refine wj_e (ef_bx (s := [.ints .u8 32 (p0)]) rfl fun b2 hb2 => ?_)
  refine wj_e (ef_bx (s := [.ints .u8 32 (p1)]) rfl fun b3 hb3 => ?_)
  refine wj_e (ef_al fun b4 hb4 => ?_)
  refine wj_nil ?_
  refine wc_seq ?_
  revert h
  refine opt_i fun y6 ey6 => ?_
  refine opt_i fun y12 ey12 => ?_
  refine opt_i fun y18 ey18 => ?_
  refine opt_i fun y24 ey24 => ?_
  refine opt_i fun y25 ey25 => ?_
  intro h
  refine wc_draw ?_
  refine ws_q1 _ (q_ld (p := [.ints .u8 32 (p0)]) rfl (.there (.there .here)) rfl) ?_
  refine ws_q1 _ (q_ld (p := [.ints .u8 32 (p1)]) rfl (.there .here) rfl) ?_
  refine ws_e1 (ef_callS0 rfl (fun w hw => scalar_words_spec (r := y6) (p0 := p0) ey6 ) fun v7 Msv7 R8 => ?_)
  obtain ⟨_, ms10, rfl, rfl, O11⟩ := R8
  refine ⟨(by repeat (first | exact Sup.refl _ | apply Sup.cons | apply Sup.app)), ?_⟩
  refine ws_e1 (ef_callS0 rfl (fun w hw => scalar_words_spec (r := y12) (p0 := p1) ey12 ) fun v13 Msv13 R14 => ?_)
  obtain ⟨_, ms16, rfl, rfl, O17⟩ := R14
  refine ⟨(by repeat (first | exact Sup.refl _ | apply Sup.cons | apply Sup.app)), ?_⟩
  refine ws_e1 (ef_callS0 rfl (fun w hw => scalar_times_spec (r := y18) (p0 := y6) (p1 := y12) ey18 ((rd_own O11 (.app .here)) w hw) ((rd_own O17 .here) w hw)) fun v19 Msv19 R20 => ?_)
  obtain ⟨_, ms22, rfl, rfl, O23⟩ := R20
  refine ⟨(by repeat (first | exact Sup.refl _ | apply Sup.cons | apply Sup.app)), ?_⟩
  refine ws_eq _ (q_call (vs := [v19]) (v := agg [.ints .u64 4 (y24)]) rfl (fun w hw => scalar_reduce_spec (r := y24) (p0 := y18) ey24 (hG.at hw (by simp)) ((rd_own O23 .here) w hw))) ?_ (by repeat (first | exact Sup.refl _ | apply Sup.cons | apply Sup.app))
  refine ws_p1 _ (q_call (vs := [agg [.ints .u64 4 (y24)]]) (v := agg [.ints .u8 32 (y25)]) rfl (fun w hw => scalar_store_spec (r := y25) (p0 := y24) ey25 )) ?_
  refine ws_eL rfl (ef_st (q := [.ints .u8 32 (y25)]) rfl rfl rfl rfl rfl (.app (.app (.app .here))) ?_)
  refine ws_nil ?_
  refine wc_ret ?_
  revert h; refine ret_i fun h => ?_
  subst h
  exact ⟨_, (.cons (.agg rfl (.app (.app (.app .here))) rfl) .nil), rfl⟩
/- farebox/scalar.MulAdd -/
def scalar_MulAdd (p0 : List Int) (p1 : List Int) (p2 : List Int) : Option ((List Int)) :=
 opt (scalar_Mul p0 p1) fun y7 =>
 opt (scalar_Add y7 p2) fun y8 =>
 some y8
theorem scalar_MulAdd_spec {W : World} {r : (List Int)} {p0 : List Int} {p1 : List Int} {p2 : List Int} (h : scalar_MulAdd p0 p1 p2 = some r) (hG : Globs W) :
    Calls Tryd.prog 26 [agg [.ints .u8 32 (p0)], agg [.ints .u8 32 (p1)], agg [.ints .u8 32 (p2)]].toArray W (ret1 W (agg [.ints .u8 32 (r)])) := by
  unfold scalar_MulAdd at h
  refine calls_val mo ok26 rfl ?_
  refine wc_seq ?_
  refine wc_ops ?_
  refine wj_e (ef_bx (s := [.ints .u8 32 (p0)]) rfl fun b2 hb2 => ?_)
  refine wj_e (ef_bx (s := [.ints .u8 32 (p1)]) rfl fun b3 hb3 => ?_)
  refine wj_e (ef_bx (s := [.ints .u8 32 (p2)]) rfl fun b4 hb4 => ?_)
  refine wj_e (ef_al fun b5 hb5 => ?_)
  refine wj_nil ?_
  refine wc_seq ?_
  revert h
  refine opt_i fun y7 ey7 => ?_
  refine opt_i fun y8 ey8 => ?_
  intro h
  refine wc_draw ?_
  refine ws_q1 _ (q_ld (p := [.ints .u8 32 (p0)]) rfl (.there (.there (.there .here))) rfl) ?_
  refine ws_q1 _ (q_ld (p := [.ints .u8 32 (p1)]) rfl (.there (.there .here)) rfl) ?_
  refine ws_p1 _ (q_call (vs := [agg [.ints .u8 32 (p0)], agg [.ints .u8 32 (p1)]]) (v := agg [.ints .u8 32 (y7)]) rfl (fun w hw => scalar_Mul_spec (r := y7) (p0 := p0) (p1 := p1) ey7 (hG.at hw (by simp)))) ?_
  refine ws_q1 _ (q_ld (p := [.ints .u8 32 (p2)]) rfl (.there .here) rfl) ?_
  refine ws_p1 _ (q_call (vs := [agg [.ints .u8 32 (y7)], agg [.ints .u8 32 (p2)]]) (v := agg [.ints .u8 32 (y8)]) rfl (fun w hw => scalar_Add_spec (r := y8) (p0 := y7) (p1 := p2) ey8 (hG.at hw (by simp)))) ?_
  refine ws_eL rfl (ef_st (q := [.ints .u8 32 (y8)]) rfl rfl rfl rfl rfl .here ?_)
  refine ws_nil ?_
  refine wc_ret ?_
  revert h; refine ret_i fun h => ?_
  subst h
  exact ⟨_, (.cons (.agg rfl .here rfl) .nil), rfl⟩
/- farebox/sign.Sign -/
def sign_Sign (p0 : List Int) (p1 : List Int) : Option ((List Int)) :=
 opt (sign_halves p0) fun y5 =>
 opt (curve_MulBase y5.1) fun y13 =>
 opt (curve_Encode y13) fun y14 =>
 opt (sign_hash [y5.2, p1]) fun y20 =>
 opt (curve_MulBase y20) fun y23 =>
 opt (curve_Encode y23) fun y24 =>
 jn (fun (a33 : List Int) => opt (scalar_MulAdd a33 y5.1 y20) fun y42 =>
 bnd (wr (List.replicate 64 0) 0 ((tk y24 0 32).take 32)) fun l47 =>
 bnd (wr l47 32 ((tk y42 0 32).take (64 - 32))) fun l49 =>
 some l49) fun k34 => opt (sign_hash [(tk y24 0 32), (tk y14 0 32), p1]) fun y39 =>
 k34 y39
theorem sign_Sign_spec {W : World} {r : (List Int)} {p0 : List Int} {p1 : List Int} {v1 : Value} (h : sign_Sign p0 p1 = some r) (hG : Globs W) (A1 : RdSl (El.int .u8) W v1 p1) :
    Calls Tryd.prog 11 [agg [.ints .u8 32 (p0)], v1].toArray W (ret1 W (agg [.ints .u8 64 (r)])) := by
  unfold sign_Sign at h
  refine calls_val mo ok11 rfl ?_
  refine wc_seq ?_
  refine wc_ops ?_
  refine wj_e (ef_bx (s := [.ints .u8 32 (p0)]) rfl fun b2 hb2 => ?_)
  refine wj_e (ef_al fun b3 hb3 => ?_)
  refine wj_nil ?_
  refine wc_seq ?_
  revert h
  refine opt_i fun y5 ey5 => ?_
  intro h
  refine wc_ops ?_
  refine wj_q _ (q_ld (p := [.ints .u8 32 (p0)]) rfl (.there .here) rfl) ?_
  refine wj_e (ef_callS0 rfl (fun w hw => sign_halves_spec (r := y5) (p0 := p0) ey5 (hG.at hw (by simp))) fun v6 Msv6 R7 => ?_)
  obtain ⟨v8, ms9, rfl, rfl, O10⟩ := R7
  refine wj_q _ (q_mv rfl) ?_
  refine wj_q _ (q_ext rfl rfl) ?_
  refine wj_q _ (q_ext rfl rfl) ?_
  refine wj_e (ef_al fun b11 hb11 => ?_)
  refine wj_e (ef_st (q := [.ints .u8 32 (y5.1)]) rfl rfl rfl rfl rfl .here ?_)
  refine wj_q _ (q_mv rfl) ?_
  refine wj_nil ?_
  refine wc_seq ?_
  revert h
  refine opt_i fun y13 ey13 => ?_
  refine opt_i fun y14 ey14 => ?_
  intro h
  refine wc_ops ?_
  refine wj_q _ (q_ld (p := [.ints .u8 32 (y5.1)]) rfl .here rfl) ?_
  refine wj_q _ (q_call (vs := [agg [.ints .u8 32 (y5.1)]]) (v := agg [.ints .u64 5 (y13.gX), .ints .u64 5 (y13.gY), .ints .u64 5 (y13.gZ), .ints .u64 5 (y13.gT)]) rfl (fun w hw => curve_MulBase_spec (r := y13) (p0 := y5.1) ey13 )) ?_
  refine wj_q _ (q_call (vs := [agg [.ints .u64 5 (y13.gX), .ints .u64 5 (y13.gY), .ints .u64 5 (y13.gZ), .ints .u64 5 (y13.gT)]]) (v := agg [.ints .u8 32 (y14)]) rfl (fun w hw => curve_Encode_spec (r := y14) (p0 := y13) ey14 )) ?_
  refine wj_e (ef_al fun b15 hb15 => ?_)
  refine wj_e (ef_st (q := [.ints .u8 32 (y14)]) rfl rfl rfl rfl rfl .here ?_)
  refine wj_nil ?_
  refine wc_seq ?_
  revert h
  refine opt_i fun y20 ey20 => ?_
  intro h
  refine wc_ops ?_
  refine wj_q _ (q_mv rfl) ?_
  refine wj_q _ (q_mv rfl) ?_
  refine wj_e (ef_bsO (E := El.sl) (xs := [unS v8, unS v1]) (.one rfl (IsSl.cells (OwnSl.isSl O10)) rfl (.one rfl (IsSl.cells (Shp.isSl (Shp.rd A1))) rfl BdR.nil)) (.cons (p := [.one v8]) (sl_cell (OwnSl.isSl O10)) (.cons (p := [.one v1]) (sl_cell (Shp.isSl (Shp.rd A1))) .nil)) rfl fun v17 ms18 O19 => ?_)
  refine wj_q _ (q_call (vs := [v17]) (v := agg [.ints .u8 32 (y20)]) rfl (fun w hw => sign_hash_spec (r := y20) (p0 := [y5.2, p1]) ey20 (hG.at hw (by simp)) (rd_own O19 .here w hw) (.cons (rd_unS ((rd_own O10 (.app (.there (.there .here)))) w hw)) (.cons (rd_unS ((rd_arg A1 apart0) w hw)) .nil)))) ?_
  refine wj_e (ef_al fun b21 hb21 => ?_)
  refine wj_e (ef_st (q := [.ints .u8 32 (y20)]) rfl rfl rfl rfl rfl .here ?_)
  refine wj_nil ?_
  refine wc_seq ?_
  revert h
  refine opt_i fun y23 ey23 => ?_
  refine opt_i fun y24 ey24 => ?_
  intro h
  refine wc_ops ?_
  refine wj_q _ (q_ld (p := [.ints .u8 32 (y20)]) rfl .here rfl) ?_
  refine wj_q _ (q_call (vs := [agg [.ints .u8 32 (y20)]]) (v := agg [.ints .u64 5 (y23.gX), .ints .u64 5 (y23.gY), .ints .u64 5 (y23.gZ), .ints .u64 5 (y23.gT)]) rfl (fun w hw => curve_MulBase_spec (r := y23) (p0 := y20) ey23 )) ?_
  refine wj_q _ (q_call (vs := [agg [.ints .u64 5 (y23.gX), .ints .u64 5 (y23.gY), .ints .u64 5 (y23.gZ), .ints .u64 5 (y23.gT)]]) (v := agg [.ints .u8 32 (y24)]) rfl (fun w hw => curve_Encode_spec (r := y24) (p0 := y23) ey24 )) ?_
  refine wj_e (ef_al fun b25 hb25 => ?_)
  refine wj_e (ef_st (q := [.ints .u8 32 (y24)]) rfl rfl rfl rfl rfl .here ?_)
  refine wj_nil ?_
  refine wc_seq ?_
  revert h
  refine jn_i fun k34 qk34 => ?_
  intro h
  refine wc_mono2 (G := fun t m => ∃ (a33 : List Int) (b32 : Nat), k34 a33 = some r ∧ Fit [(4, .pointer (some ⟨b3, 0, none⟩)), (5, .pointer (some ⟨b11, 0, none⟩)), (8, .pointer (some ⟨b21, 0, none⟩)), (9, .pointer (some ⟨b25, 0, none⟩)), (10, .pointer (some ⟨b32, 0, none⟩))] (ck b32 63 [.ints .u8 32 (a33)] :: (ck b25 27 [.ints .u8 32 (y24)] :: (ck b21 63 [.ints .u8 32 (y20)] :: (ck b15 27 [.ints .u8 32 (y14)] :: (ck b11 63 [.ints .u8 32 (y5.1)] :: (ck b3 30 [.ints .u8 64 ((List.replicate 64 0))] :: (ck b2 38 [.ints .u8 32 (p0)] :: []))))))) t m) ?_ ?_
  · revert h
    refine opt_i fun y39 ey39 => ?_
    intro h
    refine wc_draw ?_
    refine ws_p1 _ (q_sla rfl .no .no .no (by simp) (by decide)) ?_
    refine ws_p1 _ (q_sla rfl .no .no .no (by simp) (by decide)) ?_
    refine ws_p1 _ (q_mv rfl) ?_
    refine ws_two (ef_bsO (E := El.sl) (xs := [unS (.slice (some (slAddr b25 0 0 32 1)) (32 - 0) (32 - 0)), unS (.slice (some (slAddr b15 0 0 32 1)) (32 - 0) (32 - 0)), unS v1]) (.one rfl (IsSl.cells ⟨_, _, _, rfl⟩) rfl (.one rfl (IsSl.cells ⟨_, _, _, rfl⟩) rfl (.one rfl (IsSl.cells (Shp.isSl (Shp.rd A1))) rfl BdR.nil))) (.cons (p := [.one (.slice (some (slAddr b25 0 0 32 1)) (32 - 0) (32 - 0))]) (sl_cell ⟨_, _, _, rfl⟩) (.cons (p := [.one (.slice (some (slAddr b15 0 0 32 1)) (32 - 0) (32 - 0))]) (sl_cell ⟨_, _, _, rfl⟩) (.cons (p := [.one v1]) (sl_cell (Shp.isSl (Shp.rd A1))) .nil))) rfl fun v36 ms37 O38 => ⟨(by repeat (first | exact Sup.refl _ | apply Sup.cons | apply Sup.app)), ?_⟩) (ef_al fun b40 hb40 => ⟨(by repeat (first | exact Sup.refl _ | apply Sup.cons | apply Sup.app)), ?_⟩)
    · refine ws_two (ef_q _ (q_call (vs := [v36]) (v := agg [.ints .u8 32 (y39)]) rfl (fun w hw => sign_hash_spec (r := y39) (p0 := [(tk y24 0 32), (tk y14 0 32), p1]) ey39 (hG.at hw (by simp)) (rd_own O38 .here w hw) (.cons (rd_unS ((rd_blk_i (s := [.ints .u8 32 (y24)]) (N := 32) (k := .u8) (base := 0) (lo := 0) (hi := 32) (mz := 32) (.app .here) rfl (by decide)) w hw)) (.cons (rd_unS ((rd_blk_i (s := [.ints .u8 32 (y14)]) (N := 32) (k := .u8) (base := 0) (lo := 0) (hi := 32) (mz := 32) (.app (.there (.there (.app .here)))) rfl (by decide)) w hw)) (.cons (rd_unS ((rd_arg A1 apart0) w hw)) .nil))))) ⟨(by repeat (first | exact Sup.refl _ | apply Sup.cons | apply Sup.app)), ?_⟩) (ef_al fun b40 hb40 => ⟨(by repeat (first | exact Sup.refl _ | apply Sup.cons | apply Sup.app)), ?_⟩)
      · refine ws_e1 (ef_al fun b40 hb40 => ⟨(by repeat (first | exact Sup.refl _ | apply Sup.cons | apply Sup.app)), ?_⟩)
        refine ws_eL rfl (ef_st (q := [.ints .u8 32 (y39)]) rfl rfl rfl rfl rfl .here ?_)
        refine ws_nil ?_
        exact ⟨y39, b40, h, ⟨⟨rfl, rfl, rfl, rfl, rfl, trivial⟩, (.one .here (.one (.app .here) (.one (.app .here) (.one (.app (.app .here)) (.one (.app (.app .here)) (.one (.app (.app (.app .here))) (.one (.app (.app (.app .here))) .nil)))))))⟩⟩
      · refine ws_eq _ (q_call (vs := [v36]) (v := agg [.ints .u8 32 (y39)]) rfl (fun w hw => sign_hash_spec (r := y39) (p0 := [(tk y24 0 32), (tk y14 0 32), p1]) ey39 (hG.at hw (by simp)) (rd_own O38 (.there .here) w hw) (.cons (rd_unS ((rd_blk_i (s := [.ints .u8 32 (y24)]) (N := 32) (k := .u8) (base := 0) (lo := 0) (hi := 32) (mz := 32) (.there (.app .here)) rfl (by decide)) w hw)) (.cons (rd_unS ((rd_blk_i (s := [.ints .u8 32 (y14)]) (N := 32) (k := .u8) (base := 0) (lo := 0) (hi := 32) (mz := 32) (.there (.app (.there (.there (.app .here))))) rfl (by decide)) w hw)) (.cons (rd_unS ((rd_arg A1 apart0) w hw)) .nil))))) ?_ (by repeat (first | exact Sup.refl _ | apply Sup.cons | apply Sup.app))
        refine ws_eL rfl (ef_st (q := [.ints .u8 32 (y39)]) rfl rfl rfl rfl rfl .here ?_)
        refine ws_nil ?_
        exact ⟨y39, b40, h, ⟨⟨rfl, rfl, rfl, rfl, rfl, trivial⟩, (.one .here (.one (.app .here) (.one (.app .here) (.one (.app (.app .here)) (.one (.app (.app .here)) (.one (.app (.app (.app .here))) (.one (.app (.app (.app .here))) .nil)))))))⟩⟩
    · refine ws_e1 (ef_bsO (E := El.sl) (xs := [unS (.slice (some (slAddr b25 0 0 32 1)) (32 - 0) (32 - 0)), unS (.slice (some (slAddr b15 0 0 32 1)) (32 - 0) (32 - 0)), unS v1]) (.one rfl (IsSl.cells ⟨_, _, _, rfl⟩) rfl (.one rfl (IsSl.cells ⟨_, _, _, rfl⟩) rfl (.one rfl (IsSl.cells (Shp.isSl (Shp.rd A1))) rfl BdR.nil))) (.cons (p := [.one (.slice (some (slAddr b25 0 0 32 1)) (32 - 0) (32 - 0))]) (sl_cell ⟨_, _, _, rfl⟩) (.cons (p := [.one (.slice (some (slAddr b15 0 0 32 1)) (32 - 0) (32 - 0))]) (sl_cell ⟨_, _, _, rfl⟩) (.cons (p := [.one v1]) (sl_cell (Shp.isSl (Shp.rd A1))) .nil))) rfl fun v36 ms37 O38 => ⟨(by repeat (first | exact Sup.refl _ | apply Sup.cons | apply Sup.app)), ?_⟩)
      refine ws_eq _ (q_call (vs := [v36]) (v := agg [.ints .u8 32 (y39)]) rfl (fun w hw => sign_hash_spec (r := y39) (p0 := [(tk y24 0 32), (tk y14 0 32), p1]) ey39 (hG.at hw (by simp)) (rd_own O38 .here w hw) (.cons (rd_unS ((rd_blk_i (s := [.ints .u8 32 (y24)]) (N := 32) (k := .u8) (base := 0) (lo := 0) (hi := 32) (mz := 32) (.app (.there .here)) rfl (by decide)) w hw)) (.cons (rd_unS ((rd_blk_i (s := [.ints .u8 32 (y14)]) (N := 32) (k := .u8) (base := 0) (lo := 0) (hi := 32) (mz := 32) (.app (.there (.there (.there (.app .here))))) rfl (by decide)) w hw)) (.cons (rd_unS ((rd_arg A1 apart0) w hw)) .nil))))) ?_ (by repeat (first | exact Sup.refl _ | apply Sup.cons | apply Sup.app))
      refine ws_eL rfl (ef_st (q := [.ints .u8 32 (y39)]) rfl rfl rfl rfl rfl (.app .here) ?_)
      refine ws_nil ?_
      exact ⟨y39, b40, h, ⟨⟨rfl, rfl, rfl, rfl, rfl, trivial⟩, (.one (.app .here) (.one (.app .here) (.one (.app .here) (.one (.app (.app .here)) (.one (.app (.app .here)) (.one (.app (.app (.app .here))) (.one (.app (.app (.app .here))) .nil)))))))⟩⟩
  · rintro t m ⟨a33, b32, h, hF⟩
    refine wc_fit hF ?_
    clear hF
    subst qk34
    refine wc_seq ?_
    revert h
    refine opt_i fun y42 ey42 => ?_
    intro h
    refine wc_ops ?_
    refine wj_q _ (q_ld (p := [.ints .u8 32 (a33)]) rfl .here rfl) ?_
    refine wj_q _ (q_ld (p := [.ints .u8 32 (y5.1)]) rfl (.there (.there (.there (.there .here)))) rfl) ?_
    refine wj_q _ (q_ld (p := [.ints .u8 32 (y20)]) rfl (.there (.there .here)) rfl) ?_
    refine wj_q _ (q_call (vs := [agg [.ints .u8 32 (a33)], agg [.ints .u8 32 (y5.1)], agg [.ints .u8 32 (y20)]]) (v := agg [.ints .u8 32 (y42)]) rfl (fun w hw => scalar_MulAdd_spec (r := y42) (p0 := a33) (p1 := y5.1) (p2 := y20) ey42 (hG.at hw (by simp)))) ?_
    refine wj_e (ef_al fun b43 hb43 => ?_)
    refine wj_e (ef_st (q := [.ints .u8 32 (y42)]) rfl rfl rfl rfl rfl .here ?_)
    refine wj_nil ?_
    refine wc_seq ?_
    refine wc_ops ?_
    refine wj_e (ef_al fun b45 hb45 => ?_)
    refine wj_nil ?_
    refine wc_seq ?_
    revert h
    refine bnd_i fun l47 el47 => ?_
    intro h
    refine wc_draw ?_
    refine ws_p1 _ (q_sla rfl .no (.yes rfl) .no (by simp) (by decide)) ?_
    refine ws_p1 _ (q_sla rfl .no .no .no (by simp) (by decide)) ?_
    refine ws_eL rfl (ef_cpyB (q := [.ints .u8 64 (l47)]) (lo := 0) (hi := 32) (mz := 64) (base := 0) (cpy0 el47) rfl rfl (rd_blk_i (s := [.ints .u8 32 (y24)]) (N := 32) (k := .u8) (base := 0) (lo := 0) (hi := 32) (mz := 32) (.there (.there (.there .here))) rfl (by decide)) rfl (by decide) rfl .here ?_)
    refine ws_nil ?_
    refine wc_seq ?_
    revert h
    refine bnd_i fun l49 el49 => ?_
    intro h
    refine wc_draw ?_
    refine ws_p1 _ (q_sla rfl (.yes rfl) .no .no (by simp) (by decide)) ?_
    refine ws_p1 _ (q_sla rfl .no .no .no (by simp) (by decide)) ?_
    refine ws_eL rfl (ef_cpyB (q := [.ints .u8 64 (l49)]) (lo := 32) (hi := 64) (mz := 64) (base := 0) el49 rfl rfl (rd_blk_i (s := [.ints .u8 32 (y42)]) (N := 32) (k := .u8) (base := 0) (lo := 0) (hi := 32) (mz := 32) (.there .here) rfl (by decide)) rfl (by decide) rfl .here ?_)
    refine ws_nil ?_
    refine wc_seq ?_
    refine wc_ops ?_
    refine wj_q _ (q_ld (p := [.ints .u8 64 (l49)]) rfl .here rfl) ?_
    refine wj_e (ef_st (q := [.ints .u8 64 (l49)]) rfl rfl rfl rfl rfl (.there (.there (.there (.there (.there (.there (.there .here))))))) ?_)
    refine wj_nil ?_
    refine wc_ret ?_
    revert h; refine ret_i fun h => ?_
    subst h
    exact ⟨_, (.cons (.agg rfl (.there (.there (.there (.there (.there (.there (.there .here))))))) rfl) .nil), rfl⟩
/- farebox/sign.Public -/
def sign_Public (p0 : List Int) : Option ((List Int)) :=
 opt (sign_halves p0) fun y5 =>
 opt (curve_MulBase y5.1) fun y13 =>
 opt (curve_Encode y13) fun y14 =>
 some y14
theorem sign_Public_spec {W : World} {r : (List Int)} {p0 : List Int} (h : sign_Public p0 = some r) (hG : Globs W) :
    Calls Tryd.prog 10 [agg [.ints .u8 32 (p0)]].toArray W (ret1 W (agg [.ints .u8 32 (r)])) := by
  unfold sign_Public at h
  refine calls_val mo ok10 rfl ?_
  refine wc_seq ?_
  refine wc_ops ?_
  refine wj_e (ef_bx (s := [.ints .u8 32 (p0)]) rfl fun b2 hb2 => ?_)
  refine wj_e (ef_al fun b3 hb3 => ?_)
  refine wj_nil ?_
  refine wc_seq ?_
  revert h
  refine opt_i fun y5 ey5 => ?_
  intro h
  refine wc_ops ?_
  refine wj_q _ (q_ld (p := [.ints .u8 32 (p0)]) rfl (.there .here) rfl) ?_
  refine wj_e (ef_callS0 rfl (fun w hw => sign_halves_spec (r := y5) (p0 := p0) ey5 (hG.at hw (by simp))) fun v6 Msv6 R7 => ?_)
  obtain ⟨v8, ms9, rfl, rfl, O10⟩ := R7
  refine wj_q _ (q_mv rfl) ?_
  refine wj_q _ (q_ext rfl rfl) ?_
  refine wj_q _ (q_ext rfl rfl) ?_
  refine wj_e (ef_al fun b11 hb11 => ?_)
  refine wj_e (ef_st (q := [.ints .u8 32 (y5.1)]) rfl rfl rfl rfl rfl .here ?_)
  refine wj_q _ (q_mv rfl) ?_
  refine wj_nil ?_
  refine wc_seq ?_
  revert h
  refine opt_i fun y13 ey13 => ?_
  refine opt_i fun y14 ey14 => ?_
  intro h
  refine wc_ops ?_
  refine wj_q _ (q_ld (p := [.ints .u8 32 (y5.1)]) rfl .here rfl) ?_
  refine wj_q _ (q_call (vs := [agg [.ints .u8 32 (y5.1)]]) (v := agg [.ints .u64 5 (y13.gX), .ints .u64 5 (y13.gY), .ints .u64 5 (y13.gZ), .ints .u64 5 (y13.gT)]) rfl (fun w hw => curve_MulBase_spec (r := y13) (p0 := y5.1) ey13 )) ?_
  refine wj_q _ (q_call (vs := [agg [.ints .u64 5 (y13.gX), .ints .u64 5 (y13.gY), .ints .u64 5 (y13.gZ), .ints .u64 5 (y13.gT)]]) (v := agg [.ints .u8 32 (y14)]) rfl (fun w hw => curve_Encode_spec (r := y14) (p0 := y13) ey14 )) ?_
  refine wj_e (ef_st (q := [.ints .u8 32 (y14)]) rfl rfl rfl rfl rfl (.there (.app .here)) ?_)
  refine wj_nil ?_
  refine wc_ret ?_
  revert h; refine ret_i fun h => ?_
  subst h
  exact ⟨_, (.cons (.agg rfl (.there (.app .here)) rfl) .nil), rfl⟩
end Go.Proofs.YtiflckckekjbnaaDoor
