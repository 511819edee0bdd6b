/- Texts of a proof, one behind the other: L5 L6 LZ F0 D1 D2 D3 D4 D5 D6 D7 D8 D9 D10 D11 E10 G5. -/
import Derived.Test.YtaebomfgmadilaaM3
import Derived.JoinedOf
import Derived.LaidLaws
import Derived.Lay
import Derived.MakeChecks
import Derived.SevenTiedAt
import Derived.ChangeOld
import Derived.SizedLaws
/- Mirrors. -/
namespace Go.Proofs.Ytaebomfgmadilaa
open Go Go.Sx Go.RowKit
set_option linter.all false
set_option maxHeartbeats 400000
set_option maxRecDepth 100000
/- farebox/fareboxref17.Same -/
def fareboxref17_Same_b1 (p0 : api_GateState) (p1 : api_GateState) (k44 : Unit → Option (Bool)) (k68 : (Int) → Option (Bool)) (i67 : Int) : Option (Bool) :=
 br ((decide (i67 < (p0.gRows.length : Int)))) (
 chk (inB i67 p0.gRows.length) <|
 bnd (p0.gRows.getD (i67).toNat api_Entry_z) fun x74 =>
 chk (inB i67 p1.gRows.length) <|
 bnd (p1.gRows.getD (i67).toNat api_Entry_z) fun x76 =>
 br ((!((x74.gCert.gSerial == x76.gCert.gSerial) && ((x74.gCert.gRides == x76.gCert.gRides) && ((x74.gCert.gPrice == x76.gCert.gPrice) && ((ieq 32 x74.gCert.gAnchor x76.gCert.gAnchor) && ((ieq 64 x74.gCert.gSig x76.gCert.gSig) && ((x74.gIndex == x76.gIndex) && ((ieq 32 x74.gValue x76.gValue) && ((x74.gFrozen == x76.gFrozen) && ((ieq 64 x74.gFreeze x76.gFreeze) && ((x74.gRevoked == x76.gRevoked) && (ieq 64 x74.gRevoke x76.gRevoke))))))))))))) (
 some false
 ) (
 bnd (IntKind.wrap .i64 (i67 + 1)) fun z80 =>
 k68 z80
 )
 ) (
 k44 ()
 )
def fareboxref17_Same_l1 (p0 : api_GateState) (p1 : api_GateState) (k44 : Unit → Option (Bool)) : Nat → (Int) → Option (Bool)
  | 0, _ => none
  | n + 1, i67 => fareboxref17_Same_b1 p0 p1 k44 (fareboxref17_Same_l1 p0 p1 k44 n) i67
def fareboxref17_Same (p0 : api_GateState) (p1 : api_GateState) : Option (Bool) :=
 br ((((!((p0.gFloor.gFloor == p1.gFloor.gFloor) && (ieq 64 p0.gFloor.gSig p1.gFloor.gSig))) || (p0.gAccepted != p1.gAccepted)) || ((p0.gRows.length : Int) != (p1.gRows.length : Int)))) (
 some false
 ) (
 jn (fun (_ : Unit) => some true) fun k44 => fareboxref17_Same_l1 p0 p1 k44 big 0
 )
theorem fareboxref17_Same_spec {W : World} {r : Bool} {p0 : api_GateState} {p1 : api_GateState} {v0_0 : Value} {v1_0 : Value} (h : fareboxref17_Same p0 p1 = some r) (A0_0 : RdSl E_api_Entry W v0_0 p0.gRows) (A1_0 : RdSl E_api_Entry W v1_0 p1.gRows) :
    Calls Try.prog 22 [agg [.one (.int .i64 (p0.gFloor.gFloor)), .ints .u8 64 (p0.gFloor.gSig), .one (.int .i64 (p0.gAccepted)), .one (v0_0)], agg [.one (.int .i64 (p1.gFloor.gFloor)), .ints .u8 64 (p1.gFloor.gSig), .one (.int .i64 (p1.gAccepted)), .one (v1_0)]].toArray W (ret1 W (.bool (r))) := by
 unfold fareboxref17_Same at h
 refine calls_val mo ok22 rfl ?_
 refine wc_seq <| wc_ops <| wj_e (ef_bx (s := [.one (.int .i64 (p0.gFloor.gFloor)), .ints .u8 64 (p0.gFloor.gSig), .one (.int .i64 (p0.gAccepted)), .one (v0_0)]) rfl fun b2 hb2 => wj_e (ef_bx (s := [.one (.int .i64 (p1.gFloor.gFloor)), .ints .u8 64 (p1.gFloor.gSig), .one (.int .i64 (p1.gAccepted)), .one (v1_0)]) rfl fun b3 hb3 => wj_q _ (q_mv rfl) <| wj_nil <| wc_seq <| wc_seq <| wc_ops <| wj_q _ (q_fa rfl) <| wj_q _ (q_ld (p := [.one (.int .i64 (p0.gFloor.gFloor)), .ints .u8 64 (p0.gFloor.gSig)]) rfl (.there .here) rfl) <| wj_q _ (q_fa rfl) <| wj_q _ (q_ld (p := [.one (.int .i64 (p1.gFloor.gFloor)), .ints .u8 64 (p1.gFloor.gSig)]) rfl .here rfl) <| wj_q _ (q_eqa (s := [.one (.int .i64 (p0.gFloor.gFloor)), .ints .u8 64 (p0.gFloor.gSig)]) (s' := [.one (.int .i64 (p1.gFloor.gFloor)), .ints .u8 64 (p1.gFloor.gSig)]) rfl rfl rfl rfl _ (eqc_cons rfl eqc_int (eqc_last eqc_ints))) <| wj_q _ (q_mv rfl) <| wj_or rfl rfl rfl (fun hg1 => qj_g rfl _ (q_fa rfl) (qj_g rfl _ (q_ld1 rfl (.there .here) rfl) (qj_g rfl _ (q_fa rfl) (qj_g rfl _ (q_ld1 rfl .here rfl) (qj_g rfl _ (q_bin rfl rfl rfl) (qj_nil)))))) (fun hg1 => rfl) rfl <| wj_q _ (q_mv rfl) <| wj_or rfl rfl rfl (fun hg1 => qj_g rfl _ (q_fa rfl) (qj_g rfl _ (q_ld1 rfl (.there .here) rfl) (qj_g rfl _ (q_lenP rfl (Shp.rd A0_0)) (qj_g rfl _ (q_fa rfl) (qj_g rfl _ (q_ld1 rfl .here rfl) (qj_g rfl _ (q_lenP rfl (Shp.rd A1_0)) (qj_g rfl _ (q_bin rfl rfl rfl) (qj_nil)))))))) (fun hg1 => rfl) rfl <| wj_nil <| wc_br h rfl (fun h => ?_) (fun h => ?_)))
 ·refine wc_seq <| wc_ops <| wj_q _ (q_mv rfl) <| wj_nil <| wc_ret ?_
  revert h; refine ret_i fun h => ?_
  subst h
  exact ⟨_, (.cons (.tmp rfl) .nil), rfl⟩
 ·refine wc_skip <| wc_seq <| wc_seq <| wc_ops <| wj_q _ (q_mv rfl) <| wj_nil <| jH h fun k44 qk44 h => wc_mono2 (G := fun t m => k44 () = some r ∧ Fit [] (ck b3 30 [.one (.int .i64 (p1.gFloor.gFloor)), .ints .u8 64 (p1.gFloor.gSig), .one (.int .i64 (p1.gAccepted)), .one (v1_0)] :: (ck b2 30 [.one (.int .i64 (p0.gFloor.gFloor)), .ints .u8 64 (p0.gFloor.gSig), .one (.int .i64 (p0.gAccepted)), .one (v0_0)] :: [])) t m) ?_ ?_
  ·refine wc_block <| wc_loopJ (fun n69 t m => ∃ (i67 : Int), fareboxref17_Same_l1 p0 p1 k44 n69 i67 = some r ∧ Fit [(2, .pointer (some ⟨b2, 0, none⟩)), (3, .pointer (some ⟨b3, 0, none⟩)), (5, .int .i64 (i67))] (ck b3 30 [.one (.int .i64 (p1.gFloor.gFloor)), .ints .u8 64 (p1.gFloor.gSig), .one (.int .i64 (p1.gAccepted)), .one (v1_0)] :: (ck b2 30 [.one (.int .i64 (p0.gFloor.gFloor)), .ints .u8 64 (p0.gFloor.gSig), .one (.int .i64 (p0.gAccepted)), .one (v0_0)] :: [])) t m) big ?_ ?_
   ·exact ⟨0, h, ⟨⟨rfl, rfl, rfl, trivial⟩, (.one .here (.one .here .nil))⟩⟩
   ·rintro n69 t m ⟨i67, h, hF⟩
    refine wc_fit hF ?_
    clear hF
    rcases n69 with _ | n69
    · exact none_i h
    have h : fareboxref17_Same_b1 p0 p1 k44 (fareboxref17_Same_l1 p0 p1 k44 n69) i67 = some r := h
    unfold fareboxref17_Same_b1 at h
    obtain ⟨k68, qk68⟩ : ∃ k, k = fareboxref17_Same_l1 p0 p1 k44 n69 := ⟨_, rfl⟩
    try rw [← qk68] at h
    refine wc_seq <| wc_seq <| wc_ops <| wj_q _ (q_mv rfl) <| wj_q _ (q_fa rfl) <| wj_q _ (q_ld1 rfl (.there .here) rfl) <| wj_q _ (q_lenP rfl (Shp.rd A0_0)) <| wj_q _ (q_bin rfl rfl rfl) <| wj_nil <| wc_br h rfl (fun h => ?_) (fun h => ?_)
    ·refine wc_skip <| wc_seq <| wc_block <| wc_seq <| cH h fun c73 h => bH h fun x74 ex74 h => cH h fun c75 h => bH h fun x76 ex76 h => wc_draw <| ws_p1 _ (q_fa rfl) <| ws_p1 _ (q_mv rfl) <| ws_p1 _ (q_fa rfl) <| ws_p1 _ (q_mv rfl) <| ws_q1 _ (q_ld1 rfl (.there .here) rfl) <| ws_p1 _ (q_iasP rfl rfl (Shp.rd A0_0) c73) <| ws_q1 _ (az (fun (x74 : api_Entry) => agg [.one (.int .i64 (x74.gCert.gSerial)), .one (.int .i64 (x74.gCert.gRides)), .one (.int .i64 (x74.gCert.gPrice)), .ints .u8 32 (x74.gCert.gAnchor), .ints .u8 64 (x74.gCert.gSig), .one (.int .i64 (x74.gIndex)), .ints .u8 32 (x74.gValue), .one (.bool (x74.gFrozen)), .ints .u8 64 (x74.gFreeze), .one (.bool (x74.gRevoked)), .ints .u8 64 (x74.gRevoke)]) ex74 (q_ldM0 (E := E_api_Entry) (s := [.one (.int .i64 ((((p0.gRows.getD (i67).toNat api_Entry_z)).gCert).gSerial)), .one (.int .i64 ((((p0.gRows.getD (i67).toNat api_Entry_z)).gCert).gRides)), .one (.int .i64 ((((p0.gRows.getD (i67).toNat api_Entry_z)).gCert).gPrice)), .ints .u8 32 ((((p0.gRows.getD (i67).toNat api_Entry_z)).gCert).gAnchor), .ints .u8 64 ((((p0.gRows.getD (i67).toNat api_Entry_z)).gCert).gSig), .one (.int .i64 (((p0.gRows.getD (i67).toNat api_Entry_z)).gIndex)), .ints .u8 32 (((p0.gRows.getD (i67).toNat api_Entry_z)).gValue), .one (.bool (((p0.gRows.getD (i67).toNat api_Entry_z)).gFrozen)), .ints .u8 64 (((p0.gRows.getD (i67).toNat api_Entry_z)).gFreeze), .one (.bool (((p0.gRows.getD (i67).toNat api_Entry_z)).gRevoked)), .ints .u8 64 (((p0.gRows.getD (i67).toNat api_Entry_z)).gRevoke)]) rfl (rd_arg A0_0 apart0) (inB_n c73) rfl rfl)) <| ws_q1 _ (q_ld1 rfl .here rfl) <| ws_p1 _ (q_iasP rfl rfl (Shp.rd A1_0) c75) <| ws_q1 _ (az (fun (x76 : api_Entry) => agg [.one (.int .i64 (x76.gCert.gSerial)), .one (.int .i64 (x76.gCert.gRides)), .one (.int .i64 (x76.gCert.gPrice)), .ints .u8 32 (x76.gCert.gAnchor), .ints .u8 64 (x76.gCert.gSig), .one (.int .i64 (x76.gIndex)), .ints .u8 32 (x76.gValue), .one (.bool (x76.gFrozen)), .ints .u8 64 (x76.gFreeze), .one (.bool (x76.gRevoked)), .ints .u8 64 (x76.gRevoke)]) ex76 (q_ldM0 (E := E_api_Entry) (s := [.one (.int .i64 ((((p1.gRows.getD (i67).toNat api_Entry_z)).gCert).gSerial)), .one (.int .i64 ((((p1.gRows.getD (i67).toNat api_Entry_z)).gCert).gRides)), .one (.int .i64 ((((p1.gRows.getD (i67).toNat api_Entry_z)).gCert).gPrice)), .ints .u8 32 ((((p1.gRows.getD (i67).toNat api_Entry_z)).gCert).gAnchor), .ints .u8 64 ((((p1.gRows.getD (i67).toNat api_Entry_z)).gCert).gSig), .one (.int .i64 (((p1.gRows.getD (i67).toNat api_Entry_z)).gIndex)), .ints .u8 32 (((p1.gRows.getD (i67).toNat api_Entry_z)).gValue), .one (.bool (((p1.gRows.getD (i67).toNat api_Entry_z)).gFrozen)), .ints .u8 64 (((p1.gRows.getD (i67).toNat api_Entry_z)).gFreeze), .one (.bool (((p1.gRows.getD (i67).toNat api_Entry_z)).gRevoked)), .ints .u8 64 (((p1.gRows.getD (i67).toNat api_Entry_z)).gRevoke)]) rfl (rd_arg A1_0 apart0) (inB_n c75) rfl rfl)) <| ws_p1 _ (q_eqa (s := [.one (.int .i64 (x74.gCert.gSerial)), .one (.int .i64 (x74.gCert.gRides)), .one (.int .i64 (x74.gCert.gPrice)), .ints .u8 32 (x74.gCert.gAnchor), .ints .u8 64 (x74.gCert.gSig), .one (.int .i64 (x74.gIndex)), .ints .u8 32 (x74.gValue), .one (.bool (x74.gFrozen)), .ints .u8 64 (x74.gFreeze), .one (.bool (x74.gRevoked)), .ints .u8 64 (x74.gRevoke)]) (s' := [.one (.int .i64 (x76.gCert.gSerial)), .one (.int .i64 (x76.gCert.gRides)), .one (.int .i64 (x76.gCert.gPrice)), .ints .u8 32 (x76.gCert.gAnchor), .ints .u8 64 (x76.gCert.gSig), .one (.int .i64 (x76.gIndex)), .ints .u8 32 (x76.gValue), .one (.bool (x76.gFrozen)), .ints .u8 64 (x76.gFreeze), .one (.bool (x76.gRevoked)), .ints .u8 64 (x76.gRevoke)]) rfl rfl rfl rfl _ (eqc_cons rfl eqc_int (eqc_cons rfl eqc_int (eqc_cons rfl eqc_int (eqc_cons rfl eqc_ints (eqc_cons rfl eqc_ints (eqc_cons rfl eqc_int (eqc_cons rfl eqc_ints (eqc_cons rfl eqc_bool (eqc_cons rfl eqc_ints (eqc_cons rfl eqc_bool (eqc_last eqc_ints)))))))))))) <| ws_nil <| wc_br h rfl (fun h => ?_) (fun h => ?_)
     ·refine wc_seq <| wc_ops <| wj_q _ (q_mv rfl) <| wj_nil <| wc_ret ?_
      revert h; refine ret_i fun h => ?_
      subst h
      exact ⟨_, (.cons (.tmp rfl) .nil), rfl⟩
     ·refine wc_skip <| bH h fun z80 ez80 h => wc_ops <| wj_q _ (q_mv rfl) <| wj_q _ (iz ez80 (q_bin rfl rfl rfl)) <| wj_q _ (q_mv rfl) <| wj_nil ?_
      rw [qk68] at h
      exact ⟨n69, Nat.lt_succ_self _, z80, h, ⟨⟨rfl, rfl, rfl, trivial⟩, (.one .here (.one .here .nil))⟩⟩
    ·exact wc_exit _ rfl <| ⟨h, ⟨trivial, (.one .here (.one .here .nil))⟩⟩
  ·rintro t m ⟨h, hF⟩
   refine wc_fit hF ?_
   clear hF
   subst qk44
   refine wc_seq <| wc_ops <| wj_q _ (q_mv rfl) <| wj_nil <| wc_ret ?_
   revert h; refine ret_i fun h => ?_
   subst h
   exact ⟨_, (.cons (.tmp rfl) .nil), rfl⟩
/- farebox/fareboxlaw20.left -/
def fareboxlaw20_left (p0 : api_GateState) (n0 : Int) (p1 : api_GateState) : Option (Bool) :=
 opt (fareboxref17_Same (⟨p0.gFloor, p0.gAccepted, (p0.gRows.take (n0).toNat)⟩ : api_GateState) p1) fun y6 =>
 br ((!y6)) (
 some false
 ) (
 bnd (IntKind.wrap .i64 ((p1.gRows.length : Int) + 2)) fun z10 =>
 chk (cutB 0 z10 p0.gRows.length) <|
 chk (inB (p1.gRows.length : Int) (z10).toNat) <|
 bnd (p0.gRows.getD ((p1.gRows.length : Int)).toNat api_Entry_z) fun x14 =>
 chk (imp (x14.gIndex == (-7)) (inB (IntKind.wrap .i64 ((p1.gRows.length : Int) + 1)) (z10).toNat)) <|
 some ((x14.gIndex == (-7)) && ((p0.gRows.getD (IntKind.wrap .i64 ((p1.gRows.length : Int) + 1)).toNat api_Entry_z).gIndex == (-8)))
 )
theorem fareboxlaw20_left_spec {W : World} {r : Bool} {p0 : api_GateState} {n0 : Int} {p1 : api_GateState} {v0 : Value} {v1_0 : Value} (h : fareboxlaw20_left p0 n0 p1 = some r) (A0 : RdSl E_api_Entry W v0 p0.gRows) (N0 : cutB 0 n0 p0.gRows.length = true) (A1_0 : RdSl E_api_Entry W v1_0 p1.gRows) :
    Calls Try.prog 12 [agg [.one (.int .i64 (p0.gFloor.gFloor)), .ints .u8 64 (p0.gFloor.gSig), .one (.int .i64 (p0.gAccepted)), .one ((cutSl 262 v0 0 (n0).toNat))], agg [.one (.int .i64 (p1.gFloor.gFloor)), .ints .u8 64 (p1.gFloor.gSig), .one (.int .i64 (p1.gAccepted)), .one (v1_0)]].toArray W (ret1 W (.bool (r))) := by
 unfold fareboxlaw20_left at h
 refine calls_val mo ok12 rfl ?_
 refine wc_seq <| wc_ops <| wj_e (ef_bx (s := [.one (.int .i64 (p0.gFloor.gFloor)), .ints .u8 64 (p0.gFloor.gSig), .one (.int .i64 (p0.gAccepted)), .one ((cutSl 262 v0 0 (n0).toNat))]) rfl fun b2 hb2 => wj_e (ef_bx (s := [.one (.int .i64 (p1.gFloor.gFloor)), .ints .u8 64 (p1.gFloor.gSig), .one (.int .i64 (p1.gAccepted)), .one (v1_0)]) rfl fun b3 hb3 => wj_q _ (q_mv rfl) <| wj_nil <| wc_seq <| wc_ops <| wj_q _ (q_fa rfl) <| wj_q _ (q_ld1 rfl .here rfl) <| wj_q _ (q_lenP rfl (Shp.rd A1_0)) <| wj_q _ (q_mv rfl) <| wj_nil <| wc_seq <| wc_seq <| oH h fun y6 ey6 h => wc_ops <| wj_q _ (q_ld (p := [.one (.int .i64 (p0.gFloor.gFloor)), .ints .u8 64 (p0.gFloor.gSig), .one (.int .i64 (p0.gAccepted)), .one ((cutSl 262 v0 0 (n0).toNat))]) rfl (.there .here) rfl) <| wj_q _ (q_ld (p := [.one (.int .i64 (p1.gFloor.gFloor)), .ints .u8 64 (p1.gFloor.gSig), .one (.int .i64 (p1.gAccepted)), .one (v1_0)]) rfl .here rfl) <| wj_q _ (q_call rfl (fun w hw => fareboxref17_Same_spec (p0 := (⟨p0.gFloor, p0.gAccepted, (p0.gRows.take (n0).toNat)⟩ : api_GateState)) ey6 ((rd_pre (rd_arg A0 apart0) N0) w hw) ((rd_arg A1_0 apart0) w hw))) <| wj_q _ (q_un rfl rfl) <| wj_nil <| wc_br h rfl (fun h => ?_) (fun h => ?_)))
 ·refine wc_seq <| wc_ops <| wj_q _ (q_mv rfl) <| wj_nil <| wc_ret ?_
  revert h; refine ret_i fun h => ?_
  subst h
  exact ⟨_, (.cons (.tmp rfl) .nil), rfl⟩
 ·refine wc_skip <| wc_seq <| bH h fun z10 ez10 h => cH h fun c11 h => wc_ops <| wj_q _ (q_fa rfl) <| wj_q _ (q_ld1 rfl (.there .here) rfl) <| wj_q _ (q_mv rfl) <| wj_q _ (iz ez10 (q_bin rfl rfl rfl)) <| wj_q _ (q_slsU (lz := 0) (hz := z10) rfl (Shp.rd A0) N0 .no (.yes rfl) c11) <| wj_q _ (q_mv rfl) <| wj_nil <| wc_seq <| cH h fun c13 h => bH h fun x14 ex14 h => cH h fun c15 h => wc_ops <| wj_q _ (q_mv rfl) <| wj_q _ (q_mv rfl) <| wj_q _ (q_iasU rfl rfl (Shp.rd A0) c11 c13) <| wj_q _ (q_fa rfl) <| wj_q _ (az (fun (x14 : api_Entry) => .int .i64 (x14.gIndex)) ex14 (q_ldM1 (E := E_api_Entry) (s := [.one (.int .i64 ((((p0.gRows.getD ((p1.gRows.length : Int)).toNat api_Entry_z)).gCert).gSerial)), .one (.int .i64 ((((p0.gRows.getD ((p1.gRows.length : Int)).toNat api_Entry_z)).gCert).gRides)), .one (.int .i64 ((((p0.gRows.getD ((p1.gRows.length : Int)).toNat api_Entry_z)).gCert).gPrice)), .ints .u8 32 ((((p0.gRows.getD ((p1.gRows.length : Int)).toNat api_Entry_z)).gCert).gAnchor), .ints .u8 64 ((((p0.gRows.getD ((p1.gRows.length : Int)).toNat api_Entry_z)).gCert).gSig), .one (.int .i64 (((p0.gRows.getD ((p1.gRows.length : Int)).toNat api_Entry_z)).gIndex)), .ints .u8 32 (((p0.gRows.getD ((p1.gRows.length : Int)).toNat api_Entry_z)).gValue), .one (.bool (((p0.gRows.getD ((p1.gRows.length : Int)).toNat api_Entry_z)).gFrozen)), .ints .u8 64 (((p0.gRows.getD ((p1.gRows.length : Int)).toNat api_Entry_z)).gFreeze), .one (.bool (((p0.gRows.getD ((p1.gRows.length : Int)).toNat api_Entry_z)).gRevoked)), .ints .u8 64 (((p0.gRows.getD ((p1.gRows.length : Int)).toNat api_Entry_z)).gRevoke)]) (c := 99) rfl (rd_arg A0 apart0) (inB_n (inB_up c11 c13)) rfl rfl)) <| wj_q _ (q_bin rfl rfl rfl) <| wj_q _ (q_mv rfl) <| wj_and rfl rfl rfl (fun hg1 => qj_g rfl _ (q_mv rfl) (qj_g rfl _ (q_mv rfl) (qj_g rfl _ (iz rfl (q_bin rfl rfl rfl)) (qj_g rfl _ (q_iasU rfl rfl (Shp.rd A0) c11 (imp_t c15 hg1)) (qj_g rfl _ (q_fa rfl) (qj_g rfl _ (az (fun (zz : api_Entry) => .int .i64 (zz.gIndex)) rfl (q_ldM1 (E := E_api_Entry) (s := [.one (.int .i64 ((((p0.gRows.getD (IntKind.wrap .i64 ((p1.gRows.length : Int) + 1)).toNat api_Entry_z)).gCert).gSerial)), .one (.int .i64 ((((p0.gRows.getD (IntKind.wrap .i64 ((p1.gRows.length : Int) + 1)).toNat api_Entry_z)).gCert).gRides)), .one (.int .i64 ((((p0.gRows.getD (IntKind.wrap .i64 ((p1.gRows.length : Int) + 1)).toNat api_Entry_z)).gCert).gPrice)), .ints .u8 32 ((((p0.gRows.getD (IntKind.wrap .i64 ((p1.gRows.length : Int) + 1)).toNat api_Entry_z)).gCert).gAnchor), .ints .u8 64 ((((p0.gRows.getD (IntKind.wrap .i64 ((p1.gRows.length : Int) + 1)).toNat api_Entry_z)).gCert).gSig), .one (.int .i64 (((p0.gRows.getD (IntKind.wrap .i64 ((p1.gRows.length : Int) + 1)).toNat api_Entry_z)).gIndex)), .ints .u8 32 (((p0.gRows.getD (IntKind.wrap .i64 ((p1.gRows.length : Int) + 1)).toNat api_Entry_z)).gValue), .one (.bool (((p0.gRows.getD (IntKind.wrap .i64 ((p1.gRows.length : Int) + 1)).toNat api_Entry_z)).gFrozen)), .ints .u8 64 (((p0.gRows.getD (IntKind.wrap .i64 ((p1.gRows.length : Int) + 1)).toNat api_Entry_z)).gFreeze), .one (.bool (((p0.gRows.getD (IntKind.wrap .i64 ((p1.gRows.length : Int) + 1)).toNat api_Entry_z)).gRevoked)), .ints .u8 64 (((p0.gRows.getD (IntKind.wrap .i64 ((p1.gRows.length : Int) + 1)).toNat api_Entry_z)).gRevoke)]) (c := 99) rfl (rd_arg A0 apart0) (inB_n (inB_up c11 (imp_t c15 hg1))) rfl rfl)) (qj_g rfl _ (q_bin rfl rfl rfl) (qj_nil)))))))) (fun hg1 => rfl) rfl <| wj_q _ (q_mv rfl) <| wj_nil <| wc_ret ?_
  revert h; refine ret_i fun h => ?_
  subst h
  exact ⟨_, (.cons (.tmp rfl) .nil), rfl⟩
/- farebox/fareboxlaw20.summaryRooms -/
def fareboxlaw20_summaryRooms_b1 (k58 : (List (api_Summary)) → Option (Bool)) (k93 : (List (api_Summary)) → (Int) → Option (Bool)) (l90 : List (api_Summary)) (i92 : Int) : Option (Bool) :=
 br ((decide (i92 < 64))) (
 chk (decide ((l90.length + ([(⟨(-21), 0, false, false⟩ : api_Summary)] : List (api_Summary)).length) * 24 ≤ 140737488355328)) <|
 bnd (l90 ++ ([(⟨(-21), 0, false, false⟩ : api_Summary)] : List (api_Summary))) fun l102 =>
 bnd (IntKind.wrap .i64 (i92 + 1)) fun z107 =>
 k93 l102 z107
 ) (
 k58 l90
 )
def fareboxlaw20_summaryRooms_l1 (k58 : (List (api_Summary)) → Option (Bool)) : Nat → (List (api_Summary)) → (Int) → Option (Bool)
  | 0, _, _ => none
  | n + 1, l90, i92 => fareboxlaw20_summaryRooms_b1 k58 (fareboxlaw20_summaryRooms_l1 k58 n) l90 i92
def fareboxlaw20_summaryRooms_b2 (k162 : (List (api_Summary)) → Option (Bool)) (k197 : (List (api_Summary)) → (Int) → Option (Bool)) (l194 : List (api_Summary)) (i196 : Int) : Option (Bool) :=
 br ((decide (i196 < 64))) (
 chk (decide ((l194.length + ([(⟨(-22), 0, false, false⟩ : api_Summary)] : List (api_Summary)).length) * 24 ≤ 140737488355328)) <|
 bnd (l194 ++ ([(⟨(-22), 0, false, false⟩ : api_Summary)] : List (api_Summary))) fun l206 =>
 bnd (IntKind.wrap .i64 (i196 + 1)) fun z211 =>
 k197 l206 z211
 ) (
 k162 l194
 )
def fareboxlaw20_summaryRooms_l2 (k162 : (List (api_Summary)) → Option (Bool)) : Nat → (List (api_Summary)) → (Int) → Option (Bool)
  | 0, _, _ => none
  | n + 1, l194, i196 => fareboxlaw20_summaryRooms_b2 k162 (fareboxlaw20_summaryRooms_l2 k162 n) l194 i196
def fareboxlaw20_summaryRooms_b3 (l56 : List (api_Summary)) (k244 : Unit → Option (Bool)) (k265 : (Int) → Option (Bool)) (i264 : Int) : Option (Bool) :=
 br ((decide (i264 < (l56.length : Int)))) (
 chk (inB i264 l56.length) <|
 bnd (l56.getD (i264).toNat api_Summary_z) fun x271 =>
 br ((!((x271.gSerial == (-21)) && ((x271.gIndex == 0) && ((x271.gFrozen == false) && (x271.gRevoked == false)))))) (
 some false
 ) (
 bnd (IntKind.wrap .i64 (i264 + 1)) fun z275 =>
 k265 z275
 )
 ) (
 k244 ()
 )
def fareboxlaw20_summaryRooms_l3 (l56 : List (api_Summary)) (k244 : Unit → Option (Bool)) : Nat → (Int) → Option (Bool)
  | 0, _ => none
  | n + 1, i264 => fareboxlaw20_summaryRooms_b3 l56 k244 (fareboxlaw20_summaryRooms_l3 l56 k244 n) i264
def fareboxlaw20_summaryRooms (p0 : List (api_Summary)) (p1 : List (api_Summary)) : Option (Bool) :=
 jn (fun (l56 : List (api_Summary)) => jn (fun (l160 : List (api_Summary)) => jn (fun (_ : Unit) => bnd (IntKind.wrap .i64 ((p1.length : Int) + 64)) fun z277 =>
 some ((l160.length : Int) == z277)) fun k244 => fareboxlaw20_summaryRooms_l3 l56 k244 big (p0.length : Int)) fun k162 => fareboxlaw20_summaryRooms_l2 k162 big p1 0) fun k58 => fareboxlaw20_summaryRooms_l1 k58 big p0 0
theorem fareboxlaw20_summaryRooms_spec {W : World} {r : Bool} {p0 : List (api_Summary)} {p1 : List (api_Summary)} {v0 : Value} {M0 : List Chunk} {v1 : Value} {M1 : List Chunk} (h : fareboxlaw20_summaryRooms p0 p1 = some r) (h0 : Sat W ((M0 ++ M1).map (·.b)) (M0 ++ (M1 ++ [])) W) (O0 : OwnIn E_api_Summary v0 M0 p0) (O1 : OwnIn E_api_Summary v1 M1 p1) :
    Calls Try.prog 13 [v0, v1].toArray W (retS W ((M0 ++ M1).map (·.b)) (fun v Ms => ∃ (X0 : List Chunk) (X1 : List Chunk), v = .bool (r) ∧ Ms = [.all X0, .all X1] ∧ OwnIn E_api_Summary v0 X0 p0 ∧ OwnIn E_api_Summary v1 X1 p1)) := by
 unfold fareboxlaw20_summaryRooms at h
 refine calls_memT mo ok13 rfl h0 ?_
 refine wc_seq <| wc_ops <| wj_q _ (q_mv rfl) <| wj_nil <| wc_seq <| wc_ops <| wj_q _ (q_mv rfl) <| wj_q _ (q_mv rfl) <| wj_nil <| wc_seq <| wc_ops <| wj_q _ (q_mv rfl) <| wj_q _ (q_mv rfl) <| wj_nil <| wc_seq <| wc_seq <| wc_ops <| wj_q _ (q_mv rfl) <| wj_nil <| jH h fun k58 qk58 h => wc_mono2 (G := fun t m => ∃ (l56 : List (api_Summary)) (v54 : Value) (ms55 : List Chunk), k58 l56 = some r ∧ GrownIn E_api_Summary v0 p0 v54 l56 ms55 ∧ Fit [(0, v0), (1, v1), (5, v54), (6, v1)] (M1 ++ (ms55 ++ [])) t m) ?_ ?_
 ·refine wc_block <| wc_loopJ (fun n94 t m => ∃ (l90 : List (api_Summary)) (i92 : Int) (v88 : Value) (ms89 : List Chunk), fareboxlaw20_summaryRooms_l1 k58 n94 l90 i92 = some r ∧ GrownIn E_api_Summary v0 p0 v88 l90 ms89 ∧ Fit [(0, v0), (1, v1), (5, v88), (6, v1), (7, .int .i64 (i92))] (M1 ++ (ms89 ++ [])) t m) big ?_ ?_
  ·exact ⟨p0, 0, v0, M0, h, (OwnIn.grow O0), ⟨⟨rfl, rfl, rfl, rfl, rfl, trivial⟩, (.all (.app .here) (.all .here .nil))⟩⟩
  ·rintro n94 t m ⟨l90, i92, v88, ms89, h, G91, hF⟩
   refine wc_fit hF ?_
   clear hF
   rcases n94 with _ | n94
   · exact none_i h
   have h : fareboxlaw20_summaryRooms_b1 k58 (fareboxlaw20_summaryRooms_l1 k58 n94) l90 i92 = some r := h
   unfold fareboxlaw20_summaryRooms_b1 at h
   obtain ⟨k93, qk93⟩ : ∃ k, k = fareboxlaw20_summaryRooms_l1 k58 n94 := ⟨_, rfl⟩
   try rw [← qk93] at h
   refine wc_seq <| wc_seq <| wc_ops <| wj_q _ (q_mv rfl) <| wj_q _ (q_bin rfl rfl rfl) <| wj_nil <| wc_br h rfl (fun h => ?_) (fun h => ?_)
   ·refine wc_skip <| wc_seq <| wc_block <| cH h fun c101 h => bH h fun l102 el102 h => wc_ops <| wj_q _ (q_mv rfl) <| wj_q _ (q_bd (q := [.one (.int .i64 ((-21))), .one (.int .i64 (0)), .one (.bool (false)), .one (.bool (false))]) (.one rfl rfl rfl BdR.nil)) <| wj_e (ef_bsO (E := E_api_Summary) (xs := [(⟨(-21), 0, false, false⟩ : api_Summary)]) (.agg rfl rfl rfl BdR.nil) (.cons (p := [.one (.int .i64 ((-21))), .one (.int .i64 (0)), .one (.bool (false)), .one (.bool (false))]) rfl .nil) rfl fun v98 ms99 O100 => wj_e (ef_appGI (E := E_api_Summary) el102 rfl G91 (.app (.app .here)) rfl (rd_own O100 .here) c101 fun v103 ms104 O105 => wj_q _ (q_mv rfl) <| wj_nil <| bH h fun z107 ez107 h => wc_ops <| wj_q _ (q_mv rfl) <| wj_q _ (iz ez107 (q_bin rfl rfl rfl)) <| wj_q _ (q_mv rfl) <| wj_nil ?_))
    rw [qk93] at h
    exact ⟨n94, Nat.lt_succ_self _, l102, z107, v103, ms104, h, O105, ⟨⟨rfl, rfl, rfl, rfl, rfl, trivial⟩, (.all (.app (.app .here)) (.all .here .nil))⟩⟩
   ·exact wc_exit _ rfl <| ⟨l90, v88, ms89, h, G91, ⟨⟨rfl, rfl, rfl, rfl, trivial⟩, (.all .here (.all .here .nil))⟩⟩
 ·rintro t m ⟨l56, v54, ms55, h, G57, hF⟩
  refine wc_fit hF ?_
  clear hF
  subst qk58
  refine wc_seq <| wc_seq <| wc_ops <| wj_q _ (q_mv rfl) <| wj_nil <| jH h fun k162 qk162 h => wc_mono2 (G := fun t m => ∃ (l160 : List (api_Summary)) (v158 : Value) (ms159 : List Chunk), k162 l160 = some r ∧ GrownIn E_api_Summary v1 p1 v158 l160 ms159 ∧ Fit [(0, v0), (1, v1), (5, v54), (6, v158)] (ms55 ++ (ms159 ++ [])) t m) ?_ ?_
  ·refine wc_block <| wc_loopJ (fun n198 t m => ∃ (l194 : List (api_Summary)) (i196 : Int) (v192 : Value) (ms193 : List Chunk), fareboxlaw20_summaryRooms_l2 k162 n198 l194 i196 = some r ∧ GrownIn E_api_Summary v1 p1 v192 l194 ms193 ∧ Fit [(0, v0), (1, v1), (5, v54), (6, v192), (8, .int .i64 (i196))] (ms55 ++ (ms193 ++ [])) t m) big ?_ ?_
   ·exact ⟨p1, 0, v1, M1, h, (OwnIn.grow O1), ⟨⟨rfl, rfl, rfl, rfl, rfl, trivial⟩, (.all (.app .here) (.all .here .nil))⟩⟩
   ·rintro n198 t m ⟨l194, i196, v192, ms193, h, G195, hF⟩
    refine wc_fit hF ?_
    clear hF
    rcases n198 with _ | n198
    · exact none_i h
    have h : fareboxlaw20_summaryRooms_b2 k162 (fareboxlaw20_summaryRooms_l2 k162 n198) l194 i196 = some r := h
    unfold fareboxlaw20_summaryRooms_b2 at h
    obtain ⟨k197, qk197⟩ : ∃ k, k = fareboxlaw20_summaryRooms_l2 k162 n198 := ⟨_, rfl⟩
    try rw [← qk197] at h
    refine wc_seq <| wc_seq <| wc_ops <| wj_q _ (q_mv rfl) <| wj_q _ (q_bin rfl rfl rfl) <| wj_nil <| wc_br h rfl (fun h => ?_) (fun h => ?_)
    ·refine wc_skip <| wc_seq <| wc_block <| cH h fun c205 h => bH h fun l206 el206 h => wc_ops <| wj_q _ (q_mv rfl) <| wj_q _ (q_bd (q := [.one (.int .i64 ((-22))), .one (.int .i64 (0)), .one (.bool (false)), .one (.bool (false))]) (.one rfl rfl rfl BdR.nil)) <| wj_e (ef_bsO (E := E_api_Summary) (xs := [(⟨(-22), 0, false, false⟩ : api_Summary)]) (.agg rfl rfl rfl BdR.nil) (.cons (p := [.one (.int .i64 ((-22))), .one (.int .i64 (0)), .one (.bool (false)), .one (.bool (false))]) rfl .nil) rfl fun v202 ms203 O204 => wj_e (ef_appGI (E := E_api_Summary) el206 rfl G195 (.app (.app .here)) rfl (rd_own O204 .here) c205 fun v207 ms208 O209 => wj_q _ (q_mv rfl) <| wj_nil <| bH h fun z211 ez211 h => wc_ops <| wj_q _ (q_mv rfl) <| wj_q _ (iz ez211 (q_bin rfl rfl rfl)) <| wj_q _ (q_mv rfl) <| wj_nil ?_))
     rw [qk197] at h
     exact ⟨n198, Nat.lt_succ_self _, l206, z211, v207, ms208, h, O209, ⟨⟨rfl, rfl, rfl, rfl, rfl, trivial⟩, (.all (.app (.app .here)) (.all .here .nil))⟩⟩
    ·exact wc_exit _ rfl <| ⟨l194, v192, ms193, h, G195, ⟨⟨rfl, rfl, rfl, rfl, trivial⟩, (.all .here (.all .here .nil))⟩⟩
  ·rintro t m ⟨l160, v158, ms159, h, G161, hF⟩
   refine wc_fit hF ?_
   clear hF
   subst qk162
   refine wc_seq <| wc_seq <| wc_ops <| wj_q _ (q_mv rfl) <| wj_q _ (q_lenP rfl (OwnIn.shp (GrownIn.base G57))) <| wj_q _ (q_mv rfl) <| wj_nil <| jH h fun k244 qk244 h => wc_mono2 (G := fun t m => k244 () = some r ∧ Fit [(1, v1), (6, v158)] (ms55 ++ (ms159 ++ [])) t m) ?_ ?_
   ·refine wc_block <| wc_loopJ (fun n266 t m => ∃ (i264 : Int), fareboxlaw20_summaryRooms_l3 l56 k244 n266 i264 = some r ∧ Fit [(1, v1), (5, v54), (6, v158), (9, .int .i64 (i264))] (ms55 ++ (ms159 ++ [])) t m) big ?_ ?_
    ·exact ⟨(p0.length : Int), h, ⟨⟨rfl, rfl, rfl, rfl, trivial⟩, (.all .here (.all .here .nil))⟩⟩
    ·rintro n266 t m ⟨i264, h, hF⟩
     refine wc_fit hF ?_
     clear hF
     rcases n266 with _ | n266
     · exact none_i h
     have h : fareboxlaw20_summaryRooms_b3 l56 k244 (fareboxlaw20_summaryRooms_l3 l56 k244 n266) i264 = some r := h
     unfold fareboxlaw20_summaryRooms_b3 at h
     obtain ⟨k265, qk265⟩ : ∃ k, k = fareboxlaw20_summaryRooms_l3 l56 k244 n266 := ⟨_, rfl⟩
     try rw [← qk265] at h
     refine wc_seq <| wc_seq <| wc_ops <| wj_q _ (q_mv rfl) <| wj_q _ (q_mv rfl) <| wj_q _ (q_lenP rfl (GrownIn.shp G57)) <| wj_q _ (q_bin rfl rfl rfl) <| wj_nil <| wc_br h rfl (fun h => ?_) (fun h => ?_)
     ·refine wc_skip <| wc_seq <| wc_block <| wc_seq <| cH h fun c270 h => bH h fun x271 ex271 h => wc_ops <| wj_q _ (q_mv rfl) <| wj_q _ (q_mv rfl) <| wj_q _ (q_iasP rfl rfl (GrownIn.shp G57) c270) <| wj_q _ (az (fun (x271 : api_Summary) => agg [.one (.int .i64 (x271.gSerial)), .one (.int .i64 (x271.gIndex)), .one (.bool (x271.gFrozen)), .one (.bool (x271.gRevoked))]) ex271 (q_ldM0 (E := E_api_Summary) (s := [.one (.int .i64 (((l56.getD (i264).toNat api_Summary_z)).gSerial)), .one (.int .i64 (((l56.getD (i264).toNat api_Summary_z)).gIndex)), .one (.bool (((l56.getD (i264).toNat api_Summary_z)).gFrozen)), .one (.bool (((l56.getD (i264).toNat api_Summary_z)).gRevoked))]) rfl (rd_gin G57 .here) (inB_n c270) rfl rfl)) <| wj_q _ (q_bd (q := [.one (.int .i64 ((-21))), .one (.int .i64 (0)), .one (.bool (false)), .one (.bool (false))]) (.one rfl rfl rfl BdR.nil)) <| wj_q _ (q_eqa (s := [.one (.int .i64 (x271.gSerial)), .one (.int .i64 (x271.gIndex)), .one (.bool (x271.gFrozen)), .one (.bool (x271.gRevoked))]) (s' := [.one (.int .i64 ((-21))), .one (.int .i64 (0)), .one (.bool (false)), .one (.bool (false))]) rfl rfl rfl rfl _ (eqc_cons rfl eqc_int (eqc_cons rfl eqc_int (eqc_cons rfl eqc_bool (eqc_last eqc_bool))))) <| wj_nil <| wc_br h rfl (fun h => ?_) (fun h => ?_)
      ·refine wc_seq <| wc_ops <| wj_q _ (q_mv rfl) <| wj_nil <| wc_ret ?_
       revert h; refine ret_i fun h => ?_
       subst h
       exact ⟨_, _, (.cons (.tmp rfl) .nil), (.all .here (.all .here .nil)), ⟨_, rfl, ⟨ms55, ms159, rfl, rfl, (GrownIn.base G57), (GrownIn.base G161)⟩⟩⟩
      ·refine wc_skip <| bH h fun z275 ez275 h => wc_ops <| wj_q _ (q_mv rfl) <| wj_q _ (iz ez275 (q_bin rfl rfl rfl)) <| wj_q _ (q_mv rfl) <| wj_nil ?_
       rw [qk265] at h
       exact ⟨n266, Nat.lt_succ_self _, z275, h, ⟨⟨rfl, rfl, rfl, rfl, trivial⟩, (.all .here (.all .here .nil))⟩⟩
     ·exact wc_exit _ rfl <| ⟨h, ⟨⟨rfl, rfl, trivial⟩, (.all .here (.all .here .nil))⟩⟩
   ·rintro t m ⟨h, hF⟩
    refine wc_fit hF ?_
    clear hF
    subst qk244
    refine wc_seq <| bH h fun z277 ez277 h => wc_ops <| wj_q _ (q_mv rfl) <| wj_q _ (q_lenP rfl (GrownIn.shp G161)) <| wj_q _ (q_mv rfl) <| wj_q _ (q_lenP rfl (OwnIn.shp (GrownIn.base G161))) <| wj_q _ (iz ez277 (q_bin rfl rfl rfl)) <| wj_q _ (q_bin rfl rfl rfl) <| wj_q _ (q_mv rfl) <| wj_nil <| wc_ret ?_
    revert h; refine ret_i fun h => ?_
    subst h
    exact ⟨_, _, (.cons (.tmp rfl) .nil), (.all .here (.all .here .nil)), ⟨_, rfl, ⟨ms55, ms159, rfl, rfl, (GrownIn.base G57), (GrownIn.base G161)⟩⟩⟩
/- farebox/fareboxlaw20.rooms -/
def fareboxlaw20_rooms_b1 (k58 : (List (api_Entry)) → Option (Bool)) (k93 : (List (api_Entry)) → (Int) → Option (Bool)) (l90 : List (api_Entry)) (i92 : Int) : Option (Bool) :=
 br ((decide (i92 < 64))) (
 chk (decide ((l90.length + ([(⟨(⟨0, 0, 0, (List.replicate 32 0), (List.replicate 64 0)⟩ : api_Cert), (-21), (List.replicate 32 0), false, (List.replicate 64 0), false, (List.replicate 64 0)⟩ : api_Entry)] : List (api_Entry)).length) * 296 ≤ 140737488355328)) <|
 bnd (l90 ++ ([(⟨(⟨0, 0, 0, (List.replicate 32 0), (List.replicate 64 0)⟩ : api_Cert), (-21), (List.replicate 32 0), false, (List.replicate 64 0), false, (List.replicate 64 0)⟩ : api_Entry)] : List (api_Entry))) fun l102 =>
 bnd (IntKind.wrap .i64 (i92 + 1)) fun z107 =>
 k93 l102 z107
 ) (
 k58 l90
 )
def fareboxlaw20_rooms_l1 (k58 : (List (api_Entry)) → Option (Bool)) : Nat → (List (api_Entry)) → (Int) → Option (Bool)
  | 0, _, _ => none
  | n + 1, l90, i92 => fareboxlaw20_rooms_b1 k58 (fareboxlaw20_rooms_l1 k58 n) l90 i92
def fareboxlaw20_rooms_b2 (k162 : (List (api_Entry)) → Option (Bool)) (k197 : (List (api_Entry)) → (Int) → Option (Bool)) (l194 : List (api_Entry)) (i196 : Int) : Option (Bool) :=
 br ((decide (i196 < 64))) (
 chk (decide ((l194.length + ([(⟨(⟨0, 0, 0, (List.replicate 32 0), (List.replicate 64 0)⟩ : api_Cert), (-22), (List.replicate 32 0), false, (List.replicate 64 0), false, (List.replicate 64 0)⟩ : api_Entry)] : List (api_Entry)).length) * 296 ≤ 140737488355328)) <|
 bnd (l194 ++ ([(⟨(⟨0, 0, 0, (List.replicate 32 0), (List.replicate 64 0)⟩ : api_Cert), (-22), (List.replicate 32 0), false, (List.replicate 64 0), false, (List.replicate 64 0)⟩ : api_Entry)] : List (api_Entry))) fun l206 =>
 bnd (IntKind.wrap .i64 (i196 + 1)) fun z211 =>
 k197 l206 z211
 ) (
 k162 l194
 )
def fareboxlaw20_rooms_l2 (k162 : (List (api_Entry)) → Option (Bool)) : Nat → (List (api_Entry)) → (Int) → Option (Bool)
  | 0, _, _ => none
  | n + 1, l194, i196 => fareboxlaw20_rooms_b2 k162 (fareboxlaw20_rooms_l2 k162 n) l194 i196
def fareboxlaw20_rooms_b3 (l56 : List (api_Entry)) (k244 : Unit → Option (Bool)) (k265 : (Int) → Option (Bool)) (i264 : Int) : Option (Bool) :=
 br ((decide (i264 < (l56.length : Int)))) (
 chk (inB i264 l56.length) <|
 bnd (l56.getD (i264).toNat api_Entry_z) fun x271 =>
 br ((!((x271.gCert.gSerial == 0) && ((x271.gCert.gRides == 0) && ((x271.gCert.gPrice == 0) && ((ieq 32 x271.gCert.gAnchor (List.replicate 32 0)) && ((ieq 64 x271.gCert.gSig (List.replicate 64 0)) && ((x271.gIndex == (-21)) && ((ieq 32 x271.gValue (List.replicate 32 0)) && ((x271.gFrozen == false) && ((ieq 64 x271.gFreeze (List.replicate 64 0)) && ((x271.gRevoked == false) && (ieq 64 x271.gRevoke (List.replicate 64 0)))))))))))))) (
 some false
 ) (
 bnd (IntKind.wrap .i64 (i264 + 1)) fun z275 =>
 k265 z275
 )
 ) (
 k244 ()
 )
def fareboxlaw20_rooms_l3 (l56 : List (api_Entry)) (k244 : Unit → Option (Bool)) : Nat → (Int) → Option (Bool)
  | 0, _ => none
  | n + 1, i264 => fareboxlaw20_rooms_b3 l56 k244 (fareboxlaw20_rooms_l3 l56 k244 n) i264
def fareboxlaw20_rooms (p0 : List (api_Entry)) (p1 : List (api_Entry)) : Option (Bool) :=
 jn (fun (l56 : List (api_Entry)) => jn (fun (l160 : List (api_Entry)) => jn (fun (_ : Unit) => bnd (IntKind.wrap .i64 ((p1.length : Int) + 64)) fun z277 =>
 some ((l160.length : Int) == z277)) fun k244 => fareboxlaw20_rooms_l3 l56 k244 big (p0.length : Int)) fun k162 => fareboxlaw20_rooms_l2 k162 big p1 0) fun k58 => fareboxlaw20_rooms_l1 k58 big p0 0
theorem fareboxlaw20_rooms_spec {W : World} {r : Bool} {p0 : List (api_Entry)} {p1 : List (api_Entry)} {v0 : Value} {M0 : List Chunk} {v1 : Value} {M1 : List Chunk} (h : fareboxlaw20_rooms p0 p1 = some r) (h0 : Sat W ((M0 ++ M1).map (·.b)) (M0 ++ (M1 ++ [])) W) (O0 : OwnIn E_api_Entry v0 M0 p0) (O1 : OwnIn E_api_Entry v1 M1 p1) :
    Calls Try.prog 14 [v0, v1].toArray W (retS W ((M0 ++ M1).map (·.b)) (fun v Ms => ∃ (X0 : List Chunk) (X1 : List Chunk), v = .bool (r) ∧ Ms = [.all X0, .all X1] ∧ OwnIn E_api_Entry v0 X0 p0 ∧ OwnIn E_api_Entry v1 X1 p1)) := by
 unfold fareboxlaw20_rooms at h
 refine calls_memT mo ok14 rfl h0 ?_
 refine wc_seq <| wc_ops <| wj_q _ (q_mv rfl) <| wj_nil <| wc_seq <| wc_ops <| wj_q _ (q_mv rfl) <| wj_q _ (q_mv rfl) <| wj_nil <| wc_seq <| wc_ops <| wj_q _ (q_mv rfl) <| wj_q _ (q_mv rfl) <| wj_nil <| wc_seq <| wc_seq <| wc_ops <| wj_q _ (q_mv rfl) <| wj_nil <| jH h fun k58 qk58 h => wc_mono2 (G := fun t m => ∃ (l56 : List (api_Entry)) (v54 : Value) (ms55 : List Chunk), k58 l56 = some r ∧ GrownIn E_api_Entry v0 p0 v54 l56 ms55 ∧ Fit [(0, v0), (1, v1), (5, v54), (6, v1)] (M1 ++ (ms55 ++ [])) t m) ?_ ?_
 ·refine wc_block <| wc_loopJ (fun n94 t m => ∃ (l90 : List (api_Entry)) (i92 : Int) (v88 : Value) (ms89 : List Chunk), fareboxlaw20_rooms_l1 k58 n94 l90 i92 = some r ∧ GrownIn E_api_Entry v0 p0 v88 l90 ms89 ∧ Fit [(0, v0), (1, v1), (5, v88), (6, v1), (7, .int .i64 (i92))] (M1 ++ (ms89 ++ [])) t m) big ?_ ?_
  ·exact ⟨p0, 0, v0, M0, h, (OwnIn.grow O0), ⟨⟨rfl, rfl, rfl, rfl, rfl, trivial⟩, (.all (.app .here) (.all .here .nil))⟩⟩
  ·rintro n94 t m ⟨l90, i92, v88, ms89, h, G91, hF⟩
   refine wc_fit hF ?_
   clear hF
   rcases n94 with _ | n94
   · exact none_i h
   have h : fareboxlaw20_rooms_b1 k58 (fareboxlaw20_rooms_l1 k58 n94) l90 i92 = some r := h
   unfold fareboxlaw20_rooms_b1 at h
   obtain ⟨k93, qk93⟩ : ∃ k, k = fareboxlaw20_rooms_l1 k58 n94 := ⟨_, rfl⟩
   try rw [← qk93] at h
   refine wc_seq <| wc_seq <| wc_ops <| wj_q _ (q_mv rfl) <| wj_q _ (q_bin rfl rfl rfl) <| wj_nil <| wc_br h rfl (fun h => ?_) (fun h => ?_)
   ·refine wc_skip <| wc_seq <| wc_block <| cH h fun c101 h => bH h fun l102 el102 h => wc_ops <| wj_q _ (q_mv rfl) <| wj_q _ (q_bd (q := [.one (.int .i64 (0)), .one (.int .i64 (0)), .one (.int .i64 (0)), .ints .u8 32 ((List.replicate 32 0)), .ints .u8 64 ((List.replicate 64 0)), .one (.int .i64 ((-21))), .ints .u8 32 ((List.replicate 32 0)), .one (.bool (false)), .ints .u8 64 ((List.replicate 64 0)), .one (.bool (false)), .ints .u8 64 ((List.replicate 64 0))]) (.one (z' := [.one (.int .i64 (0)), .one (.int .i64 (0)), .one (.int .i64 (0)), .ints .u8 32 ((List.replicate 32 0)), .ints .u8 64 ((List.replicate 64 0)), .one (.int .i64 ((-21))), .ints .u8 32 ((List.replicate 32 0)), .one (.bool (false)), .ints .u8 64 ((List.replicate 64 0)), .one (.bool (false)), .ints .u8 64 ((List.replicate 64 0))]) rfl rfl (by kernel_rfl) BdR.nil)) <| wj_e (ef_bsO (E := E_api_Entry) (xs := [(⟨(⟨0, 0, 0, (List.replicate 32 0), (List.replicate 64 0)⟩ : api_Cert), (-21), (List.replicate 32 0), false, (List.replicate 64 0), false, (List.replicate 64 0)⟩ : api_Entry)]) (BdR.whole (p := [.one (.int .i64 (0)), .one (.int .i64 (0)), .one (.int .i64 (0)), .ints .u8 32 ((List.replicate 32 0)), .ints .u8 64 ((List.replicate 64 0)), .one (.int .i64 ((-21))), .ints .u8 32 ((List.replicate 32 0)), .one (.bool (false)), .ints .u8 64 ((List.replicate 64 0)), .one (.bool (false)), .ints .u8 64 ((List.replicate 64 0))]) rfl (by kernel_rfl) (by kernel_rfl)) (.cons (p := [.one (.int .i64 (0)), .one (.int .i64 (0)), .one (.int .i64 (0)), .ints .u8 32 ((List.replicate 32 0)), .ints .u8 64 ((List.replicate 64 0)), .one (.int .i64 ((-21))), .ints .u8 32 ((List.replicate 32 0)), .one (.bool (false)), .ints .u8 64 ((List.replicate 64 0)), .one (.bool (false)), .ints .u8 64 ((List.replicate 64 0))]) rfl .nil) rfl fun v98 ms99 O100 => wj_e (ef_appGI (E := E_api_Entry) el102 rfl G91 (.app (.app .here)) rfl (rd_own O100 .here) c101 fun v103 ms104 O105 => wj_q _ (q_mv rfl) <| wj_nil <| bH h fun z107 ez107 h => wc_ops <| wj_q _ (q_mv rfl) <| wj_q _ (iz ez107 (q_bin rfl rfl rfl)) <| wj_q _ (q_mv rfl) <| wj_nil ?_))
    rw [qk93] at h
    exact ⟨n94, Nat.lt_succ_self _, l102, z107, v103, ms104, h, O105, ⟨⟨rfl, rfl, rfl, rfl, rfl, trivial⟩, (.all (.app (.app .here)) (.all .here .nil))⟩⟩
   ·exact wc_exit _ rfl <| ⟨l90, v88, ms89, h, G91, ⟨⟨rfl, rfl, rfl, rfl, trivial⟩, (.all .here (.all .here .nil))⟩⟩
 ·rintro t m ⟨l56, v54, ms55, h, G57, hF⟩
  refine wc_fit hF ?_
  clear hF
  subst qk58
  refine wc_seq <| wc_seq <| wc_ops <| wj_q _ (q_mv rfl) <| wj_nil <| jH h fun k162 qk162 h => wc_mono2 (G := fun t m => ∃ (l160 : List (api_Entry)) (v158 : Value) (ms159 : List Chunk), k162 l160 = some r ∧ GrownIn E_api_Entry v1 p1 v158 l160 ms159 ∧ Fit [(0, v0), (1, v1), (5, v54), (6, v158)] (ms55 ++ (ms159 ++ [])) t m) ?_ ?_
  ·refine wc_block <| wc_loopJ (fun n198 t m => ∃ (l194 : List (api_Entry)) (i196 : Int) (v192 : Value) (ms193 : List Chunk), fareboxlaw20_rooms_l2 k162 n198 l194 i196 = some r ∧ GrownIn E_api_Entry v1 p1 v192 l194 ms193 ∧ Fit [(0, v0), (1, v1), (5, v54), (6, v192), (8, .int .i64 (i196))] (ms55 ++ (ms193 ++ [])) t m) big ?_ ?_
   ·exact ⟨p1, 0, v1, M1, h, (OwnIn.grow O1), ⟨⟨rfl, rfl, rfl, rfl, rfl, trivial⟩, (.all (.app .here) (.all .here .nil))⟩⟩
   ·rintro n198 t m ⟨l194, i196, v192, ms193, h, G195, hF⟩
    refine wc_fit hF ?_
    clear hF
    rcases n198 with _ | n198
    · exact none_i h
    have h : fareboxlaw20_rooms_b2 k162 (fareboxlaw20_rooms_l2 k162 n198) l194 i196 = some r := h
    unfold fareboxlaw20_rooms_b2 at h
    obtain ⟨k197, qk197⟩ : ∃ k, k = fareboxlaw20_rooms_l2 k162 n198 := ⟨_, rfl⟩
    try rw [← qk197] at h
    refine wc_seq <| wc_seq <| wc_ops <| wj_q _ (q_mv rfl) <| wj_q _ (q_bin rfl rfl rfl) <| wj_nil <| wc_br h rfl (fun h => ?_) (fun h => ?_)
    ·refine wc_skip <| wc_seq <| wc_block <| cH h fun c205 h => bH h fun l206 el206 h => wc_ops <| wj_q _ (q_mv rfl) <| wj_q _ (q_bd (q := [.one (.int .i64 (0)), .one (.int .i64 (0)), .one (.int .i64 (0)), .ints .u8 32 ((List.replicate 32 0)), .ints .u8 64 ((List.replicate 64 0)), .one (.int .i64 ((-22))), .ints .u8 32 ((List.replicate 32 0)), .one (.bool (false)), .ints .u8 64 ((List.replicate 64 0)), .one (.bool (false)), .ints .u8 64 ((List.replicate 64 0))]) (.one (z' := [.one (.int .i64 (0)), .one (.int .i64 (0)), .one (.int .i64 (0)), .ints .u8 32 ((List.replicate 32 0)), .ints .u8 64 ((List.replicate 64 0)), .one (.int .i64 ((-22))), .ints .u8 32 ((List.replicate 32 0)), .one (.bool (false)), .ints .u8 64 ((List.replicate 64 0)), .one (.bool (false)), .ints .u8 64 ((List.replicate 64 0))]) rfl rfl (by kernel_rfl) BdR.nil)) <| wj_e (ef_bsO (E := E_api_Entry) (xs := [(⟨(⟨0, 0, 0, (List.replicate 32 0), (List.replicate 64 0)⟩ : api_Cert), (-22), (List.replicate 32 0), false, (List.replicate 64 0), false, (List.replicate 64 0)⟩ : api_Entry)]) (BdR.whole (p := [.one (.int .i64 (0)), .one (.int .i64 (0)), .one (.int .i64 (0)), .ints .u8 32 ((List.replicate 32 0)), .ints .u8 64 ((List.replicate 64 0)), .one (.int .i64 ((-22))), .ints .u8 32 ((List.replicate 32 0)), .one (.bool (false)), .ints .u8 64 ((List.replicate 64 0)), .one (.bool (false)), .ints .u8 64 ((List.replicate 64 0))]) rfl (by kernel_rfl) (by kernel_rfl)) (.cons (p := [.one (.int .i64 (0)), .one (.int .i64 (0)), .one (.int .i64 (0)), .ints .u8 32 ((List.replicate 32 0)), .ints .u8 64 ((List.replicate 64 0)), .one (.int .i64 ((-22))), .ints .u8 32 ((List.replicate 32 0)), .one (.bool (false)), .ints .u8 64 ((List.replicate 64 0)), .one (.bool (false)), .ints .u8 64 ((List.replicate 64 0))]) rfl .nil) rfl fun v202 ms203 O204 => wj_e (ef_appGI (E := E_api_Entry) el206 rfl G195 (.app (.app .here)) rfl (rd_own O204 .here) c205 fun v207 ms208 O209 => wj_q _ (q_mv rfl) <| wj_nil <| bH h fun z211 ez211 h => wc_ops <| wj_q _ (q_mv rfl) <| wj_q _ (iz ez211 (q_bin rfl rfl rfl)) <| wj_q _ (q_mv rfl) <| wj_nil ?_))
     rw [qk197] at h
     exact ⟨n198, Nat.lt_succ_self _, l206, z211, v207, ms208, h, O209, ⟨⟨rfl, rfl, rfl, rfl, rfl, trivial⟩, (.all (.app (.app .here)) (.all .here .nil))⟩⟩
    ·exact wc_exit _ rfl <| ⟨l194, v192, ms193, h, G195, ⟨⟨rfl, rfl, rfl, rfl, trivial⟩, (.all .here (.all .here .nil))⟩⟩
  ·rintro t m ⟨l160, v158, ms159, h, G161, hF⟩
   refine wc_fit hF ?_
   clear hF
   subst qk162
   refine wc_seq <| wc_seq <| wc_ops <| wj_q _ (q_mv rfl) <| wj_q _ (q_lenP rfl (OwnIn.shp (GrownIn.base G57))) <| wj_q _ (q_mv rfl) <| wj_nil <| jH h fun k244 qk244 h => wc_mono2 (G := fun t m => k244 () = some r ∧ Fit [(1, v1), (6, v158)] (ms55 ++ (ms159 ++ [])) t m) ?_ ?_
   ·refine wc_block <| wc_loopJ (fun n266 t m => ∃ (i264 : Int), fareboxlaw20_rooms_l3 l56 k244 n266 i264 = some r ∧ Fit [(1, v1), (5, v54), (6, v158), (9, .int .i64 (i264))] (ms55 ++ (ms159 ++ [])) t m) big ?_ ?_
    ·exact ⟨(p0.length : Int), h, ⟨⟨rfl, rfl, rfl, rfl, trivial⟩, (.all .here (.all .here .nil))⟩⟩
    ·rintro n266 t m ⟨i264, h, hF⟩
     refine wc_fit hF ?_
     clear hF
     rcases n266 with _ | n266
     · exact none_i h
     have h : fareboxlaw20_rooms_b3 l56 k244 (fareboxlaw20_rooms_l3 l56 k244 n266) i264 = some r := h
     unfold fareboxlaw20_rooms_b3 at h
     obtain ⟨k265, qk265⟩ : ∃ k, k = fareboxlaw20_rooms_l3 l56 k244 n266 := ⟨_, rfl⟩
     try rw [← qk265] at h
     refine wc_seq <| wc_seq <| wc_ops <| wj_q _ (q_mv rfl) <| wj_q _ (q_mv rfl) <| wj_q _ (q_lenP rfl (GrownIn.shp G57)) <| wj_q _ (q_bin rfl rfl rfl) <| wj_nil <| wc_br h rfl (fun h => ?_) (fun h => ?_)
     ·refine wc_skip <| wc_seq <| wc_block <| wc_seq <| cH h fun c270 h => bH h fun x271 ex271 h => wc_ops <| wj_q _ (q_mv rfl) <| wj_q _ (q_mv rfl) <| wj_q _ (q_iasP rfl rfl (GrownIn.shp G57) c270) <| wj_q _ (az (fun (x271 : api_Entry) => agg [.one (.int .i64 (x271.gCert.gSerial)), .one (.int .i64 (x271.gCert.gRides)), .one (.int .i64 (x271.gCert.gPrice)), .ints .u8 32 (x271.gCert.gAnchor), .ints .u8 64 (x271.gCert.gSig), .one (.int .i64 (x271.gIndex)), .ints .u8 32 (x271.gValue), .one (.bool (x271.gFrozen)), .ints .u8 64 (x271.gFreeze), .one (.bool (x271.gRevoked)), .ints .u8 64 (x271.gRevoke)]) ex271 (q_ldM0 (E := E_api_Entry) (s := [.one (.int .i64 ((((l56.getD (i264).toNat api_Entry_z)).gCert).gSerial)), .one (.int .i64 ((((l56.getD (i264).toNat api_Entry_z)).gCert).gRides)), .one (.int .i64 ((((l56.getD (i264).toNat api_Entry_z)).gCert).gPrice)), .ints .u8 32 ((((l56.getD (i264).toNat api_Entry_z)).gCert).gAnchor), .ints .u8 64 ((((l56.getD (i264).toNat api_Entry_z)).gCert).gSig), .one (.int .i64 (((l56.getD (i264).toNat api_Entry_z)).gIndex)), .ints .u8 32 (((l56.getD (i264).toNat api_Entry_z)).gValue), .one (.bool (((l56.getD (i264).toNat api_Entry_z)).gFrozen)), .ints .u8 64 (((l56.getD (i264).toNat api_Entry_z)).gFreeze), .one (.bool (((l56.getD (i264).toNat api_Entry_z)).gRevoked)), .ints .u8 64 (((l56.getD (i264).toNat api_Entry_z)).gRevoke)]) rfl (rd_gin G57 .here) (inB_n c270) rfl rfl)) <| wj_q _ (q_bd (q := [.one (.int .i64 (0)), .one (.int .i64 (0)), .one (.int .i64 (0)), .ints .u8 32 ((List.replicate 32 0)), .ints .u8 64 ((List.replicate 64 0)), .one (.int .i64 ((-21))), .ints .u8 32 ((List.replicate 32 0)), .one (.bool (false)), .ints .u8 64 ((List.replicate 64 0)), .one (.bool (false)), .ints .u8 64 ((List.replicate 64 0))]) (.one (z' := [.one (.int .i64 (0)), .one (.int .i64 (0)), .one (.int .i64 (0)), .ints .u8 32 ((List.replicate 32 0)), .ints .u8 64 ((List.replicate 64 0)), .one (.int .i64 ((-21))), .ints .u8 32 ((List.replicate 32 0)), .one (.bool (false)), .ints .u8 64 ((List.replicate 64 0)), .one (.bool (false)), .ints .u8 64 ((List.replicate 64 0))]) rfl rfl (by kernel_rfl) BdR.nil)) <| wj_q _ (q_eqa (s := [.one (.int .i64 (x271.gCert.gSerial)), .one (.int .i64 (x271.gCert.gRides)), .one (.int .i64 (x271.gCert.gPrice)), .ints .u8 32 (x271.gCert.gAnchor), .ints .u8 64 (x271.gCert.gSig), .one (.int .i64 (x271.gIndex)), .ints .u8 32 (x271.gValue), .one (.bool (x271.gFrozen)), .ints .u8 64 (x271.gFreeze), .one (.bool (x271.gRevoked)), .ints .u8 64 (x271.gRevoke)]) (s' := [.one (.int .i64 (0)), .one (.int .i64 (0)), .one (.int .i64 (0)), .ints .u8 32 ((List.replicate 32 0)), .ints .u8 64 ((List.replicate 64 0)), .one (.int .i64 ((-21))), .ints .u8 32 ((List.replicate 32 0)), .one (.bool (false)), .ints .u8 64 ((List.replicate 64 0)), .one (.bool (false)), .ints .u8 64 ((List.replicate 64 0))]) rfl rfl rfl rfl _ (eqc_cons rfl eqc_int (eqc_cons rfl eqc_int (eqc_cons rfl eqc_int (eqc_cons rfl eqc_ints (eqc_cons rfl eqc_ints (eqc_cons rfl eqc_int (eqc_cons rfl eqc_ints (eqc_cons rfl eqc_bool (eqc_cons rfl eqc_ints (eqc_cons rfl eqc_bool (eqc_last eqc_ints)))))))))))) <| wj_nil <| wc_br h rfl (fun h => ?_) (fun h => ?_)
      ·refine wc_seq <| wc_ops <| wj_q _ (q_mv rfl) <| wj_nil <| wc_ret ?_
       revert h; refine ret_i fun h => ?_
       subst h
       exact ⟨_, _, (.cons (.tmp rfl) .nil), (.all .here (.all .here .nil)), ⟨_, rfl, ⟨ms55, ms159, rfl, rfl, (GrownIn.base G57), (GrownIn.base G161)⟩⟩⟩
      ·refine wc_skip <| bH h fun z275 ez275 h => wc_ops <| wj_q _ (q_mv rfl) <| wj_q _ (iz ez275 (q_bin rfl rfl rfl)) <| wj_q _ (q_mv rfl) <| wj_nil ?_
       rw [qk265] at h
       exact ⟨n266, Nat.lt_succ_self _, z275, h, ⟨⟨rfl, rfl, rfl, rfl, trivial⟩, (.all .here (.all .here .nil))⟩⟩
     ·exact wc_exit _ rfl <| ⟨h, ⟨⟨rfl, rfl, trivial⟩, (.all .here (.all .here .nil))⟩⟩
   ·rintro t m ⟨h, hF⟩
    refine wc_fit hF ?_
    clear hF
    subst qk244
    refine wc_seq <| bH h fun z277 ez277 h => wc_ops <| wj_q _ (q_mv rfl) <| wj_q _ (q_lenP rfl (GrownIn.shp G161)) <| wj_q _ (q_mv rfl) <| wj_q _ (q_lenP rfl (OwnIn.shp (GrownIn.base G161))) <| wj_q _ (iz ez277 (q_bin rfl rfl rfl)) <| wj_q _ (q_bin rfl rfl rfl) <| wj_q _ (q_mv rfl) <| wj_nil <| wc_ret ?_
    revert h; refine ret_i fun h => ?_
    subst h
    exact ⟨_, _, (.cons (.tmp rfl) .nil), (.all .here (.all .here .nil)), ⟨_, rfl, ⟨ms55, ms159, rfl, rfl, (GrownIn.base G57), (GrownIn.base G161)⟩⟩⟩
end Go.Proofs.Ytaebomfgmadilaa
/- Mirrors. -/
namespace Go.Proofs.Ytaebomfgmadilaa
open Go Go.Sx Go.RowKit
set_option linter.all false
set_option maxHeartbeats 400000
set_option maxRecDepth 100000
/- farebox/fareboxlaw20.turned -/
def fareboxlaw20_turned_b1 (n0 : Int) (k264 : (List (api_Entry)) → (List (api_Entry)) → Option (api_GateState × (List (api_Entry)))) (k434 : (List (api_Entry)) → (Int) → (List (api_Entry)) → Option (api_GateState × (List (api_Entry)))) (l426 : List (api_Entry)) (i428 : Int) (l431 : List (api_Entry)) : Option (api_GateState × (List (api_Entry))) :=
 br ((decide (i428 < n0))) (
 chk (inB i428 (n0).toNat) <|
 bnd (l426.getD (i428).toNat api_Entry_z) fun x440 =>
 bnd (setG api_Entry_z l426 (i428).toNat (⟨x440.gCert, x440.gIndex, x440.gValue, false, x440.gFreeze, x440.gRevoked, x440.gRevoke⟩ : api_Entry)) fun l441 =>
 chk (cutB 0 n0 l441.length) <|
 chk (cutB 0 n0 l441.length) <|
 chk (cutB 0 n0 l441.length) <|
 bnd (([0, 0, 0, 0, 0, 0, 0, 0, 0, 0, 0, 0, 0, 0, 0, 0, 0, 0, 0, 0, 0, 0, 0, 0, 0, 0, 0, 0, 0, 0, 0, 0, 0, 0, 0, 0, 0, 0, 0, 0, 0, 0, 0, 0, 0, 0, 0, 0, 0, 0, 0, 0, 0, 0, 0, 0, 0, 0, 0, 0, 0, 0, 0, 0] : List Int)) fun z448 =>
 chk (inB i428 (n0).toNat) <|
 bnd (l441.getD (i428).toNat api_Entry_z) fun x450 =>
 bnd (setG api_Entry_z l441 (i428).toNat (⟨x450.gCert, x450.gIndex, x450.gValue, x450.gFrozen, z448, x450.gRevoked, x450.gRevoke⟩ : api_Entry)) fun l451 =>
 chk (cutB 0 n0 l451.length) <|
 chk (cutB 0 n0 l451.length) <|
 chk (cutB 0 n0 l451.length) <|
 chk (cutB 0 n0 l451.length) <|
 chk (inB i428 (n0).toNat) <|
 bnd (l451.getD (i428).toNat api_Entry_z) fun x460 =>
 bnd (setG api_Entry_z l451 (i428).toNat (⟨x460.gCert, x460.gIndex, x460.gValue, x460.gFrozen, x460.gFreeze, false, x460.gRevoke⟩ : api_Entry)) fun l461 =>
 chk (cutB 0 n0 l461.length) <|
 chk (cutB 0 n0 l461.length) <|
 chk (cutB 0 n0 l461.length) <|
 chk (cutB 0 n0 l461.length) <|
 chk (cutB 0 n0 l461.length) <|
 bnd (([0, 0, 0, 0, 0, 0, 0, 0, 0, 0, 0, 0, 0, 0, 0, 0, 0, 0, 0, 0, 0, 0, 0, 0, 0, 0, 0, 0, 0, 0, 0, 0, 0, 0, 0, 0, 0, 0, 0, 0, 0, 0, 0, 0, 0, 0, 0, 0, 0, 0, 0, 0, 0, 0, 0, 0, 0, 0, 0, 0, 0, 0, 0, 0] : List Int)) fun z470 =>
 chk (inB i428 (n0).toNat) <|
 bnd (l461.getD (i428).toNat api_Entry_z) fun x472 =>
 bnd (setG api_Entry_z l461 (i428).toNat (⟨x472.gCert, x472.gIndex, x472.gValue, x472.gFrozen, x472.gFreeze, x472.gRevoked, z470⟩ : api_Entry)) fun l473 =>
 chk (cutB 0 n0 l473.length) <|
 chk (cutB 0 n0 l473.length) <|
 chk (cutB 0 n0 l473.length) <|
 chk (cutB 0 n0 l473.length) <|
 chk (cutB 0 n0 l473.length) <|
 chk (cutB 0 n0 l473.length) <|
 chk (inB i428 (n0).toNat) <|
 bnd (l473.getD (i428).toNat api_Entry_z) fun x484 =>
 bnd (IntKind.wrap .i64 (Int.tdiv x484.gIndex 2)) fun z485 =>
 chk (inB i428 (n0).toNat) <|
 bnd (l473.getD (i428).toNat api_Entry_z) fun x487 =>
 bnd (setG api_Entry_z l473 (i428).toNat (⟨x487.gCert, z485, x487.gValue, x487.gFrozen, x487.gFreeze, x487.gRevoked, x487.gRevoke⟩ : api_Entry)) fun l488 =>
 chk (cutB 0 n0 l488.length) <|
 chk (cutB 0 n0 l488.length) <|
 chk (cutB 0 n0 l488.length) <|
 chk (cutB 0 n0 l488.length) <|
 chk (cutB 0 n0 l488.length) <|
 chk (cutB 0 n0 l488.length) <|
 chk (cutB 0 n0 l488.length) <|
 chk (cutB 0 n0 l488.length) <|
 chk (inB i428 (n0).toNat) <|
 bnd (l488.getD (i428).toNat api_Entry_z) fun x501 =>
 chk (decide ((l431.length + ([x501] : List (api_Entry)).length) * 296 ≤ 140737488355328)) <|
 bnd (l431 ++ ([x501] : List (api_Entry))) fun l506 =>
 bnd (IntKind.wrap .i64 (i428 + 1)) fun z511 =>
 k434 l488 z511 l506
 ) (
 k264 l426 l431
 )
def fareboxlaw20_turned_l1 (n0 : Int) (k264 : (List (api_Entry)) → (List (api_Entry)) → Option (api_GateState × (List (api_Entry)))) : Nat → (List (api_Entry)) → (Int) → (List (api_Entry)) → Option (api_GateState × (List (api_Entry)))
  | 0, _, _, _ => none
  | n + 1, l426, i428, l431 => fareboxlaw20_turned_b1 n0 k264 (fareboxlaw20_turned_l1 n0 k264 n) l426 i428 l431
def fareboxlaw20_turned (p0 : api_GateState) (n0 : Int) : Option (api_GateState × (List (api_Entry))) :=
 jn (fun (l257 : List (api_Entry)) (l261 : List (api_Entry)) => jn (fun (_ : Unit) => some ((⟨p0.gFloor, p0.gAccepted, l261⟩ : api_GateState), l257)) fun k513 => k513 ()) fun k264 => fareboxlaw20_turned_l1 n0 k264 big p0.gRows 0 []
theorem fareboxlaw20_turned_spec {W : World} {r : api_GateState × (List (api_Entry))} {p0 : api_GateState} {n0 : Int} {v0 : Value} {M0 : List Chunk} (h : fareboxlaw20_turned p0 n0 = some r) (h0 : Sat W (M0.map (·.b)) (M0 ++ []) W) (O0 : OwnSl E_api_Entry v0 M0 p0.gRows) (N0 : cutB 0 n0 p0.gRows.length = true) :
    Calls Try.prog 15 [agg [.one (.int .i64 (p0.gFloor.gFloor)), .ints .u8 64 (p0.gFloor.gSig), .one (.int .i64 (p0.gAccepted)), .one ((cutSl 262 v0 0 (n0).toNat))]].toArray W (retS W (M0.map (·.b)) (fun v Ms => ∃ (u1 : Value) (M1 : List Chunk) (X0 : List Chunk), v = .tuple #[agg [.one (.int .i64 (p0.gFloor.gFloor)), .ints .u8 64 (p0.gFloor.gSig), .one (.int .i64 (p0.gAccepted)), .one ((cutSl 262 v0 0 (n0).toNat))], agg [.one (.int .i64 (r.1.gFloor.gFloor)), .ints .u8 64 (r.1.gFloor.gSig), .one (.int .i64 (r.1.gAccepted)), .one (u1)]] ∧ Ms = [.all M1, .all X0] ∧ OwnSl E_api_Entry u1 M1 r.1.gRows ∧ OwnSl E_api_Entry v0 X0 r.2)) := by
 unfold fareboxlaw20_turned at h
 refine calls_memT mo ok15 rfl h0 ?_
 refine wc_seq <| wc_ops <| wj_e (ef_bx (s := [.one (.int .i64 (p0.gFloor.gFloor)), .ints .u8 64 (p0.gFloor.gSig), .one (.int .i64 (p0.gAccepted)), .one ((cutSl 262 v0 0 (n0).toNat))]) rfl fun b2 hb2 => wj_e (ef_al fun b3 hb3 => wj_e (ef_al fun b4 hb4 => wj_nil <| wc_seq <| wc_ops <| wj_q _ (q_ld (p := [.one (.int .i64 (p0.gFloor.gFloor)), .ints .u8 64 (p0.gFloor.gSig), .one (.int .i64 (p0.gAccepted)), .one ((cutSl 262 v0 0 (n0).toNat))]) rfl (.there (.there .here)) rfl) <| wj_e (ef_al fun b6 hb6 => wj_e (ef_stg (q := [.one (.int .i64 (p0.gFloor.gFloor)), .ints .u8 64 (p0.gFloor.gSig), .one (.int .i64 (p0.gAccepted)), .one ((cutSl 262 v0 0 (n0).toNat))]) rfl rfl rfl rfl (ones_cons (ones_one rfl) (ones_cons ones_ints (ones_cons (ones_one rfl) (ones_cons (ones_one (IsSl.one1 cut_isSl)) ones_nil)))) .here <| wj_nil <| wc_seq <| wc_ops <| wj_q _ (q_fa rfl) <| wj_e (ef_st1 (q := [.one (.int .i64 (p0.gFloor.gFloor)), .ints .u8 64 (p0.gFloor.gSig), .one (.int .i64 (p0.gAccepted)), .one (.slice none 0 0)]) rfl rfl rfl rfl .here <| wj_nil <| wc_seq <| wc_seq <| wc_ops <| wj_q _ (q_mv rfl) <| wj_nil <| jH h fun k264 qk264 h => wc_mono2 (G := fun t m => ∃ (l257 : List (api_Entry)) (l261 : List (api_Entry)) (ms256 : List Chunk) (v259 : Value) (ms260 : List Chunk), k264 l257 l261 = some r ∧ OwnSl E_api_Entry v0 ms256 l257 ∧ OwnSl E_api_Entry v259 ms260 l261 ∧ cutB 0 n0 l257.length = true ∧ Fit [(1, .pointer (some ⟨b2, 0, none⟩)), (2, .pointer (some ⟨b3, 0, none⟩)), (3, .pointer (some ⟨b4, 0, none⟩)), (4, .pointer (some ⟨b6, 0, none⟩))] (ck b6 30 [.one (.int .i64 (p0.gFloor.gFloor)), .ints .u8 64 (p0.gFloor.gSig), .one (.int .i64 (p0.gAccepted)), .one (v259)] :: (ck b4 30 [.one (.int .i64 (0)), .ints .u8 64 ((List.replicate 64 0)), .one (.int .i64 (0)), .one (.slice none 0 0)] :: (ck b3 30 [.one (.int .i64 (0)), .ints .u8 64 ((List.replicate 64 0)), .one (.int .i64 (0)), .one (.slice none 0 0)] :: (ck b2 30 [.one (.int .i64 (p0.gFloor.gFloor)), .ints .u8 64 (p0.gFloor.gSig), .one (.int .i64 (p0.gAccepted)), .one ((cutSl 262 v0 0 (n0).toNat))] :: (ms256 ++ (ms260 ++ [])))))) t m) ?_ ?_))))))
 ·refine wc_block <| wc_loopJ (fun n435 t m => ∃ (l426 : List (api_Entry)) (i428 : Int) (l431 : List (api_Entry)) (ms425 : List Chunk) (v429 : Value) (ms430 : List Chunk), fareboxlaw20_turned_l1 n0 k264 n435 l426 i428 l431 = some r ∧ OwnSl E_api_Entry v0 ms425 l426 ∧ OwnSl E_api_Entry v429 ms430 l431 ∧ cutB 0 n0 l426.length = true ∧ Fit [(1, .pointer (some ⟨b2, 0, none⟩)), (2, .pointer (some ⟨b3, 0, none⟩)), (3, .pointer (some ⟨b4, 0, none⟩)), (4, .pointer (some ⟨b6, 0, none⟩)), (5, .int .i64 (i428))] (ck b6 30 [.one (.int .i64 (p0.gFloor.gFloor)), .ints .u8 64 (p0.gFloor.gSig), .one (.int .i64 (p0.gAccepted)), .one (v429)] :: (ck b4 30 [.one (.int .i64 (0)), .ints .u8 64 ((List.replicate 64 0)), .one (.int .i64 (0)), .one (.slice none 0 0)] :: (ck b3 30 [.one (.int .i64 (0)), .ints .u8 64 ((List.replicate 64 0)), .one (.int .i64 (0)), .one (.slice none 0 0)] :: (ck b2 30 [.one (.int .i64 (p0.gFloor.gFloor)), .ints .u8 64 (p0.gFloor.gSig), .one (.int .i64 (p0.gAccepted)), .one ((cutSl 262 v0 0 (n0).toNat))] :: (ms430 ++ (ms425 ++ [])))))) t m) big ?_ ?_
  ·exact ⟨p0.gRows, 0, [], M0, (.slice none 0 0), [], h, O0, own_nil, N0, ⟨⟨rfl, rfl, rfl, rfl, rfl, trivial⟩, (.one .here (.one .here (.one .here (.one .here (.no (.all .here .nil))))))⟩⟩
  ·rintro n435 t m ⟨l426, i428, l431, ms425, v429, ms430, h, O427, O432, H433, hF⟩
   refine wc_fit hF ?_
   clear hF
   rcases n435 with _ | n435
   · exact none_i h
   have h : fareboxlaw20_turned_b1 n0 k264 (fareboxlaw20_turned_l1 n0 k264 n435) l426 i428 l431 = some r := h
   unfold fareboxlaw20_turned_b1 at h
   obtain ⟨k434, qk434⟩ : ∃ k, k = fareboxlaw20_turned_l1 n0 k264 n435 := ⟨_, rfl⟩
   try rw [← qk434] at h
   refine wc_seq <| wc_seq <| wc_ops <| wj_q _ (q_mv rfl) <| wj_q _ (q_fa rfl) <| wj_q _ (q_ld1 rfl (.there (.there (.there .here))) rfl) <| wj_q _ (q_lenU rfl (Shp.own O427) H433) <| wj_q _ (q_bin rfl rfl rfl) <| wj_nil <| wc_br h rfl (fun h => ?_) (fun h => ?_)
   ·refine wc_skip <| wc_seq <| wc_block <| wc_seq <| cH h fun c439 h => bH h fun x440 ex440 h => bH h fun l441 el441 h => cH h fun c444 h => cH h fun c445 h => cH h fun c446 h => wc_ops <| wj_q _ (q_fa rfl) <| wj_q _ (q_ld1 rfl (.there (.there (.there .here))) rfl) <| wj_q _ (q_mv rfl) <| wj_q _ (q_iasU rfl rfl (Shp.own O427) H433 c439) <| wj_q _ (q_fa rfl) <| wj_e (ef_stOp (E := E_api_Entry) (c := 132) (x0 := x440) (y0 := (⟨x440.gCert, x440.gIndex, x440.gValue, false, x440.gFreeze, x440.gRevoked, x440.gRevoke⟩ : api_Entry)) ex440 el441 O427 (.there (.there (.there (.there (.app .here))))) rfl rfl rfl rfl (by kernel_rfl) (inB_n (inB_up H433 c439)) fun ms442 O443 => wj_nil <| wc_seq <| bH h fun z448 ez448 h => cH h fun c449 h => bH h fun x450 ex450 h => bH h fun l451 el451 h => cH h fun c454 h => cH h fun c455 h => cH h fun c456 h => cH h fun c457 h => wc_ops <| wj_q _ (q_fa rfl) <| wj_q _ (q_ld1 rfl (.app (.there (.there (.there .here)))) rfl) <| wj_q _ (q_mv rfl) <| wj_q _ (az (fun z => agg [.ints .u8 64 z]) ez448 (q_bd BdR.nil)) <| wj_q _ (q_iasU rfl rfl (Shp.own O443) c446 c449) <| wj_q _ (q_fa rfl) <| wj_e (ef_stOp (E := E_api_Entry) (c := 133) (x0 := x450) (y0 := (⟨x450.gCert, x450.gIndex, x450.gValue, x450.gFrozen, z448, x450.gRevoked, x450.gRevoke⟩ : api_Entry)) ex450 el451 O443 .here rfl rfl rfl rfl (by kernel_rfl) (inB_n (inB_up c446 c449)) fun ms452 O453 => wj_nil <| wc_seq <| cH h fun c459 h => bH h fun x460 ex460 h => bH h fun l461 el461 h => cH h fun c464 h => cH h fun c465 h => cH h fun c466 h => cH h fun c467 h => cH h fun c468 h => wc_ops <| wj_q _ (q_fa rfl) <| wj_q _ (q_ld1 rfl (.app (.there (.there (.there .here)))) rfl) <| wj_q _ (q_mv rfl) <| wj_q _ (q_iasU rfl rfl (Shp.own O453) c457 c459) <| wj_q _ (q_fa rfl) <| wj_e (ef_stOp (E := E_api_Entry) (c := 197) (x0 := x460) (y0 := (⟨x460.gCert, x460.gIndex, x460.gValue, x460.gFrozen, x460.gFreeze, false, x460.gRevoke⟩ : api_Entry)) ex460 el461 O453 .here rfl rfl rfl rfl (by kernel_rfl) (inB_n (inB_up c457 c459)) fun ms462 O463 => wj_nil <| wc_seq <| bH h fun z470 ez470 h => cH h fun c471 h => bH h fun x472 ex472 h => bH h fun l473 el473 h => cH h fun c476 h => cH h fun c477 h => cH h fun c478 h => cH h fun c479 h => cH h fun c480 h => cH h fun c481 h => wc_ops <| wj_q _ (q_fa rfl) <| wj_q _ (q_ld1 rfl (.app (.there (.there (.there .here)))) rfl) <| wj_q _ (q_mv rfl) <| wj_q _ (az (fun z => agg [.ints .u8 64 z]) ez470 (q_bd BdR.nil)) <| wj_q _ (q_iasU rfl rfl (Shp.own O463) c468 c471) <| wj_q _ (q_fa rfl) <| wj_e (ef_stOp (E := E_api_Entry) (c := 198) (x0 := x472) (y0 := (⟨x472.gCert, x472.gIndex, x472.gValue, x472.gFrozen, x472.gFreeze, x472.gRevoked, z470⟩ : api_Entry)) ex472 el473 O463 .here rfl rfl rfl rfl (by kernel_rfl) (inB_n (inB_up c468 c471)) fun ms474 O475 => wj_nil <| wc_seq <| cH h fun c483 h => bH h fun x484 ex484 h => bH h fun z485 ez485 h => cH h fun c486 h => bH h fun x487 ex487 h => bH h fun l488 el488 h => cH h fun c491 h => cH h fun c492 h => cH h fun c493 h => cH h fun c494 h => cH h fun c495 h => cH h fun c496 h => cH h fun c497 h => cH h fun c498 h => wc_draw <| ws_p1 _ (q_fa rfl) <| ws_p1 _ (q_mv rfl) <| ws_p1 _ (q_fa rfl) <| ws_p1 _ (q_mv rfl) <| ws_q1 _ (q_ld1 rfl (.app (.there (.there (.there .here)))) rfl) <| ws_q1 _ (q_ld1 rfl (.app (.there (.there (.there .here)))) rfl) <| ws_p1 _ (q_iasU rfl rfl (Shp.own O475) c481 c483) <| ws_p1 _ (q_fa rfl) <| ws_q1 _ (az (fun (x484 : api_Entry) => .int .i64 (x484.gIndex)) ex484 (q_ldM1 (E := E_api_Entry) (s := [.one (.int .i64 ((((l473.getD (i428).toNat api_Entry_z)).gCert).gSerial)), .one (.int .i64 ((((l473.getD (i428).toNat api_Entry_z)).gCert).gRides)), .one (.int .i64 ((((l473.getD (i428).toNat api_Entry_z)).gCert).gPrice)), .ints .u8 32 ((((l473.getD (i428).toNat api_Entry_z)).gCert).gAnchor), .ints .u8 64 ((((l473.getD (i428).toNat api_Entry_z)).gCert).gSig), .one (.int .i64 (((l473.getD (i428).toNat api_Entry_z)).gIndex)), .ints .u8 32 (((l473.getD (i428).toNat api_Entry_z)).gValue), .one (.bool (((l473.getD (i428).toNat api_Entry_z)).gFrozen)), .ints .u8 64 (((l473.getD (i428).toNat api_Entry_z)).gFreeze), .one (.bool (((l473.getD (i428).toNat api_Entry_z)).gRevoked)), .ints .u8 64 (((l473.getD (i428).toNat api_Entry_z)).gRevoke)]) (c := 99) rfl (rd_own O475 .here) (inB_n (inB_up c481 c483)) rfl rfl)) <| ws_p1 _ (iz ez485 (q_quo rfl rfl (by decide))) <| ws_p1 _ (q_iasU rfl rfl (Shp.own O475) c481 c486) <| ws_p1 _ (q_fa rfl) <| ws_eL rfl (ef_stOp (E := E_api_Entry) (c := 99) (x0 := x487) (y0 := (⟨x487.gCert, z485, x487.gValue, x487.gFrozen, x487.gFreeze, x487.gRevoked, x487.gRevoke⟩ : api_Entry)) ex487 el488 O475 .here rfl rfl rfl rfl (by kernel_rfl) (inB_n (inB_up c481 c486)) fun ms489 O490 => ws_nil <| cH h fun c500 h => bH h fun x501 ex501 h => cH h fun c505 h => bH h fun l506 el506 h => wc_draw <| ws_p1 _ (q_fa rfl) <| ws_p1 _ (q_fa rfl) <| ws_p1 _ (q_mv rfl) <| ws_q1 _ (q_ld1 rfl (.app .here) rfl) <| ws_q1 _ (q_ld1 rfl (.app (.there (.there (.there .here)))) rfl) <| ws_p1 _ (q_iasU rfl rfl (Shp.own O490) c498 c500) <| ws_q1 _ (az (fun (x501 : api_Entry) => agg [.one (.int .i64 (x501.gCert.gSerial)), .one (.int .i64 (x501.gCert.gRides)), .one (.int .i64 (x501.gCert.gPrice)), .ints .u8 32 (x501.gCert.gAnchor), .ints .u8 64 (x501.gCert.gSig), .one (.int .i64 (x501.gIndex)), .ints .u8 32 (x501.gValue), .one (.bool (x501.gFrozen)), .ints .u8 64 (x501.gFreeze), .one (.bool (x501.gRevoked)), .ints .u8 64 (x501.gRevoke)]) ex501 (q_ldM0 (E := E_api_Entry) (s := [.one (.int .i64 ((((l488.getD (i428).toNat api_Entry_z)).gCert).gSerial)), .one (.int .i64 ((((l488.getD (i428).toNat api_Entry_z)).gCert).gRides)), .one (.int .i64 ((((l488.getD (i428).toNat api_Entry_z)).gCert).gPrice)), .ints .u8 32 ((((l488.getD (i428).toNat api_Entry_z)).gCert).gAnchor), .ints .u8 64 ((((l488.getD (i428).toNat api_Entry_z)).gCert).gSig), .one (.int .i64 (((l488.getD (i428).toNat api_Entry_z)).gIndex)), .ints .u8 32 (((l488.getD (i428).toNat api_Entry_z)).gValue), .one (.bool (((l488.getD (i428).toNat api_Entry_z)).gFrozen)), .ints .u8 64 (((l488.getD (i428).toNat api_Entry_z)).gFreeze), .one (.bool (((l488.getD (i428).toNat api_Entry_z)).gRevoked)), .ints .u8 64 (((l488.getD (i428).toNat api_Entry_z)).gRevoke)]) rfl (rd_own O490 .here) (inB_n (inB_up c498 c500)) rfl rfl)) <| ws_e1 (ef_bsO (E := E_api_Entry) (xs := [x501]) (BdR.whole (p := [.one (.int .i64 (x501.gCert.gSerial)), .one (.int .i64 (x501.gCert.gRides)), .one (.int .i64 (x501.gCert.gPrice)), .ints .u8 32 (x501.gCert.gAnchor), .ints .u8 64 (x501.gCert.gSig), .one (.int .i64 (x501.gIndex)), .ints .u8 32 (x501.gValue), .one (.bool (x501.gFrozen)), .ints .u8 64 (x501.gFreeze), .one (.bool (x501.gRevoked)), .ints .u8 64 (x501.gRevoke)]) rfl (by kernel_rfl) (by kernel_rfl)) (.cons (p := [.one (.int .i64 (x501.gCert.gSerial)), .one (.int .i64 (x501.gCert.gRides)), .one (.int .i64 (x501.gCert.gPrice)), .ints .u8 32 (x501.gCert.gAnchor), .ints .u8 64 (x501.gCert.gSig), .one (.int .i64 (x501.gIndex)), .ints .u8 32 (x501.gValue), .one (.bool (x501.gFrozen)), .ints .u8 64 (x501.gFreeze), .one (.bool (x501.gRevoked)), .ints .u8 64 (x501.gRevoke)]) rfl .nil) rfl fun v502 ms503 O504 => ⟨(by repeat (first | exact Sup.refl _ | apply Sup.cons | apply Sup.app)), ws_eL rfl (ef_appO (E := E_api_Entry) el506 rfl O432 (.app (.app (.there (.there (.there (.there .here)))))) rfl (rd_own O504 .here) c505 fun v507 ms508 O509 => ws_p1 _ (q_fa rfl) (ws_eM rfl (ef_st1 (q := [.one (.int .i64 (p0.gFloor.gFloor)), .ints .u8 64 (p0.gFloor.gSig), .one (.int .i64 (p0.gAccepted)), .one (v507)]) rfl rfl (IsSl.one1 (OwnSl.isSl O509)) rfl (.app (.app (.app .here))) (ws_nil (bH h fun z511 ez511 h => wc_ops (wj_q _ (q_mv rfl) (wj_q _ (iz ez511 (q_bin rfl rfl rfl)) (wj_q _ (q_mv rfl) (wj_nil ?_)))))))))⟩))))))
    rw [qk434] at h
    exact ⟨n435, Nat.lt_succ_self _, l488, z511, l506, ms489, v507, ms508, h, O490, O509, c498, ⟨⟨rfl, rfl, rfl, rfl, rfl, trivial⟩, (.one (.app (.app (.app .here))) (.one (.app (.app (.app .here))) (.one (.app (.app (.app .here))) (.one (.app (.app (.app .here))) (.all .here (.all (.app .here) .nil))))))⟩⟩
   ·exact wc_exit _ rfl <| ⟨l426, l431, ms425, v429, ms430, h, O427, O432, H433, ⟨⟨rfl, rfl, rfl, rfl, trivial⟩, (.one .here (.one .here (.one .here (.one .here (.all (.app .here) (.all .here .nil))))))⟩⟩
 ·rintro t m ⟨l257, l261, ms256, v259, ms260, h, O258, O262, H263, hF⟩
  refine wc_fit hF ?_
  clear hF
  subst qk264
  refine wc_seq <| jH h fun k513 qk513 h => wc_mono2 (G := fun t m => k513 () = some r ∧ Fit [(2, .pointer (some ⟨b3, 0, none⟩)), (3, .pointer (some ⟨b4, 0, none⟩))] (ck b6 30 [.one (.int .i64 (p0.gFloor.gFloor)), .ints .u8 64 (p0.gFloor.gSig), .one (.int .i64 (p0.gAccepted)), .one (v259)] :: (ck b4 30 [.one (.int .i64 (p0.gFloor.gFloor)), .ints .u8 64 (p0.gFloor.gSig), .one (.int .i64 (p0.gAccepted)), .one (v259)] :: (ck b3 30 [.one (.int .i64 (p0.gFloor.gFloor)), .ints .u8 64 (p0.gFloor.gSig), .one (.int .i64 (p0.gAccepted)), .one ((cutSl 262 v0 0 (n0).toNat))] :: (ck b2 30 [.one (.int .i64 (p0.gFloor.gFloor)), .ints .u8 64 (p0.gFloor.gSig), .one (.int .i64 (p0.gAccepted)), .one ((cutSl 262 v0 0 (n0).toNat))] :: (ms256 ++ (ms260 ++ [])))))) t m) ?_ ?_
  ·exact wc_drawS (m0 := (ck b6 30 [.one (.int .i64 (p0.gFloor.gFloor)), .ints .u8 64 (p0.gFloor.gSig), .one (.int .i64 (p0.gAccepted)), .one (v259)] :: (ck b2 30 [.one (.int .i64 (p0.gFloor.gFloor)), .ints .u8 64 (p0.gFloor.gSig), .one (.int .i64 (p0.gAccepted)), .one ((cutSl 262 v0 0 (n0).toNat))] :: (ms256 ++ (ms260 ++ []))))) (.cons₂ _ (.cons _ (.cons _ (List.Sublist.refl _)))) <| ws_q1 _ (q_ld (p := [.one (.int .i64 (p0.gFloor.gFloor)), .ints .u8 64 (p0.gFloor.gSig), .one (.int .i64 (p0.gAccepted)), .one ((cutSl 262 v0 0 (n0).toNat))]) rfl (.there .here) rfl) <| ws_q1 _ (q_ld (p := [.one (.int .i64 (p0.gFloor.gFloor)), .ints .u8 64 (p0.gFloor.gSig), .one (.int .i64 (p0.gAccepted)), .one (v259)]) rfl .here rfl) <| ws_e1 (ef_stg (q := [.one (.int .i64 (p0.gFloor.gFloor)), .ints .u8 64 (p0.gFloor.gSig), .one (.int .i64 (p0.gAccepted)), .one ((cutSl 262 v0 0 (n0).toNat))]) rfl rfl rfl rfl (ones_cons (ones_one rfl) (ones_cons ones_ints (ones_cons (ones_one rfl) (ones_cons (ones_one (IsSl.one1 cut_isSl)) ones_nil)))) (.there (.there .here)) ⟨fun c h => List.Sublist.subset (.cons₂ _ (.cons _ (.cons _ (List.Sublist.refl _)))) h, ws_e1 (ef_stg (q := [.one (.int .i64 (p0.gFloor.gFloor)), .ints .u8 64 (p0.gFloor.gSig), .one (.int .i64 (p0.gAccepted)), .one (v259)]) rfl rfl rfl rfl (ones_cons (ones_one rfl) (ones_cons ones_ints (ones_cons (ones_one rfl) (ones_cons (ones_one (IsSl.one1 (OwnSl.isSl O262))) ones_nil)))) (.there .here) ⟨fun c h => List.Sublist.subset (.cons₂ _ (.cons _ (.cons _ (List.Sublist.refl _)))) h, ws_nil (⟨h, ⟨⟨rfl, rfl, trivial⟩, (.one .here (.one .here (.one .here (.one .here (.all .here (.all .here .nil))))))⟩⟩)⟩)⟩)
  ·rintro t m ⟨h, hF⟩
   refine wc_fit hF ?_
   clear hF
   subst qk513
   refine wc_ret ?_
   revert h; refine ret_i fun h => ?_
   subst h
   exact ⟨_, _, (.cons (.agg rfl (.there (.there .here)) rfl) (.cons (.agg rfl (.there .here) rfl) .nil)), (.all (.there (.there (.there (.there (.app .here))))) (.all (.there (.there (.there (.there .here)))) .nil)), ⟨_, rfl, ⟨v259, ms260, ms256, rfl, rfl, O262, O258⟩⟩⟩
/- farebox/fareboxlaw20.GossipDigests -/
noncomputable def fareboxlaw20_GossipDigests_b1 (k160 : (List (api_Summary)) → Option (Bool)) (k190 : (List (api_Summary)) → (Int) → Option (Bool)) (l187 : List (api_Summary)) (i189 : Int) : Option (Bool) :=
 br ((decide (i189 < (l187.length : Int)))) (
 chk (inB i189 l187.length) <|
 bnd (l187.getD (i189).toNat api_Summary_z) fun x196 =>
 bnd (setG api_Summary_z l187 (i189).toNat (⟨(-33), 0, false, false⟩ : api_Summary)) fun l197 =>
 bnd (IntKind.wrap .i64 (i189 + 1)) fun z201 =>
 k190 l197 z201
 ) (
 k160 l187
 )
noncomputable def fareboxlaw20_GossipDigests_l1 (k160 : (List (api_Summary)) → Option (Bool)) : Nat → (List (api_Summary)) → (Int) → Option (Bool)
  | 0, _, _ => none
  | n + 1, l187, i189 => fareboxlaw20_GossipDigests_b1 k160 (fareboxlaw20_GossipDigests_l1 k160 n) l187 i189
noncomputable def fareboxlaw20_GossipDigests_b2 (k257 : (List (api_Summary)) → Option (Bool)) (k292 : (List (api_Summary)) → (Int) → Option (Bool)) (l289 : List (api_Summary)) (i291 : Int) : Option (Bool) :=
 br ((decide (i291 < 8))) (
 chk (decide ((l289.length + ([(⟨(-34), 0, false, false⟩ : api_Summary)] : List (api_Summary)).length) * 24 ≤ 140737488355328)) <|
 bnd (l289 ++ ([(⟨(-34), 0, false, false⟩ : api_Summary)] : List (api_Summary))) fun l301 =>
 bnd (IntKind.wrap .i64 (i291 + 1)) fun z306 =>
 k292 l301 z306
 ) (
 k257 l289
 )
noncomputable def fareboxlaw20_GossipDigests_l2 (k257 : (List (api_Summary)) → Option (Bool)) : Nat → (List (api_Summary)) → (Int) → Option (Bool)
  | 0, _, _ => none
  | n + 1, l289, i291 => fareboxlaw20_GossipDigests_b2 k257 (fareboxlaw20_GossipDigests_l2 k257 n) l289 i291
noncomputable def fareboxlaw20_GossipDigests_b3 (k353 : (List (api_Entry)) → Option (Bool)) (k383 : (List (api_Entry)) → (Int) → Option (Bool)) (l380 : List (api_Entry)) (i382 : Int) : Option (Bool) :=
 br ((decide (i382 < (l380.length : Int)))) (
 chk (inB i382 l380.length) <|
 bnd (l380.getD (i382).toNat api_Entry_z) fun x389 =>
 bnd (setG api_Entry_z l380 (i382).toNat (⟨(⟨0, 0, 0, (List.replicate 32 0), (List.replicate 64 0)⟩ : api_Cert), (-33), (List.replicate 32 0), false, (List.replicate 64 0), false, (List.replicate 64 0)⟩ : api_Entry)) fun l390 =>
 bnd (IntKind.wrap .i64 (i382 + 1)) fun z394 =>
 k383 l390 z394
 ) (
 k353 l380
 )
noncomputable def fareboxlaw20_GossipDigests_l3 (k353 : (List (api_Entry)) → Option (Bool)) : Nat → (List (api_Entry)) → (Int) → Option (Bool)
  | 0, _, _ => none
  | n + 1, l380, i382 => fareboxlaw20_GossipDigests_b3 k353 (fareboxlaw20_GossipDigests_l3 k353 n) l380 i382
noncomputable def fareboxlaw20_GossipDigests_b4 (k450 : (List (api_Entry)) → Option (Bool)) (k485 : (List (api_Entry)) → (Int) → Option (Bool)) (l482 : List (api_Entry)) (i484 : Int) : Option (Bool) :=
 br ((decide (i484 < 8))) (
 chk (decide ((l482.length + ([(⟨(⟨0, 0, 0, (List.replicate 32 0), (List.replicate 64 0)⟩ : api_Cert), (-34), (List.replicate 32 0), false, (List.replicate 64 0), false, (List.replicate 64 0)⟩ : api_Entry)] : List (api_Entry)).length) * 296 ≤ 140737488355328)) <|
 bnd (l482 ++ ([(⟨(⟨0, 0, 0, (List.replicate 32 0), (List.replicate 64 0)⟩ : api_Cert), (-34), (List.replicate 32 0), false, (List.replicate 64 0), false, (List.replicate 64 0)⟩ : api_Entry)] : List (api_Entry))) fun l494 =>
 bnd (IntKind.wrap .i64 (i484 + 1)) fun z499 =>
 k485 l494 z499
 ) (
 k450 l482
 )
noncomputable def fareboxlaw20_GossipDigests_l4 (k450 : (List (api_Entry)) → Option (Bool)) : Nat → (List (api_Entry)) → (Int) → Option (Bool)
  | 0, _, _ => none
  | n + 1, l482, i484 => fareboxlaw20_GossipDigests_b4 k450 (fareboxlaw20_GossipDigests_l4 k450 n) l482 i484
noncomputable def fareboxlaw20_GossipDigests_b5 (p1 : List (api_Summary)) (k752 : (List (api_Summary)) → (List (api_Summary)) → Option (Bool)) (k838 : (List (api_Summary)) → (List (api_Summary)) → (Int) → Option (Bool)) (l830 : List (api_Summary)) (l835 : List (api_Summary)) (i837 : Int) : Option (Bool) :=
 br ((decide (i837 < (p1.length : Int)))) (
 chk (inB i837 p1.length) <|
 bnd (p1.getD (i837).toNat api_Summary_z) fun x844 =>
 bnd (IntKind.wrap .i64 ((p1.length : Int) - 1)) fun z845 =>
 bnd (IntKind.wrap .i64 (z845 - i837)) fun z846 =>
 chk (inB z846 p1.length) <|
 bnd (p1.getD (z846).toNat api_Summary_z) fun x848 =>
 chk (inB i837 p1.length) <|
 bnd (p1.getD (i837).toNat api_Summary_z) fun x850 =>
 chk (inB i837 p1.length) <|
 bnd (p1.getD (i837).toNat api_Summary_z) fun x852 =>
 chk (inB i837 ((p1.length : Int)).toNat) <|
 bnd (l830.getD (i837).toNat api_Summary_z) fun x854 =>
 bnd (setG api_Summary_z l830 (i837).toNat (⟨x844.gSerial, x848.gIndex, (!x850.gFrozen), x852.gRevoked⟩ : api_Summary)) fun l855 =>
 chk (cutB 0 (p1.length : Int) l855.length) <|
 chk (cutB 0 (p1.length : Int) l855.length) <|
 chk (cutB 0 (p1.length : Int) l855.length) <|
 chk (inB i837 ((p1.length : Int)).toNat) <|
 bnd (l855.getD (i837).toNat api_Summary_z) fun x863 =>
 chk (decide ((l835.length + ([x863] : List (api_Summary)).length) * 24 ≤ 140737488355328)) <|
 bnd (l835 ++ ([x863] : List (api_Summary))) fun l868 =>
 bnd (IntKind.wrap .i64 (i837 + 1)) fun z873 =>
 k838 l855 l868 z873
 ) (
 k752 l830 l835
 )
noncomputable def fareboxlaw20_GossipDigests_l5 (p1 : List (api_Summary)) (k752 : (List (api_Summary)) → (List (api_Summary)) → Option (Bool)) : Nat → (List (api_Summary)) → (List (api_Summary)) → (Int) → Option (Bool)
  | 0, _, _, _ => none
  | n + 1, l830, l835, i837 => fareboxlaw20_GossipDigests_b5 p1 k752 (fareboxlaw20_GossipDigests_l5 p1 k752 n) l830 l835 i837
noncomputable def fareboxlaw20_GossipDigests (p0 : List (api_Summary)) (p1 : List (api_Summary)) : Option (Bool) :=
 opt (fareboxlaw20_rowed p0) fun y3 =>
 opt (fareboxlaw20_marked y3) fun y11 =>
 chk (decide ((([] : List (api_Summary)).length + p1.length) * 24 ≤ 140737488355328)) <|
 bnd (([] : List (api_Summary)) ++ p1) fun l22 =>
 chk (decide ((l22.length + ([(⟨(-77), 0, false, false⟩ : api_Summary)] : List (api_Summary)).length) * 24 ≤ 140737488355328)) <|
 bnd (l22 ++ ([(⟨(-77), 0, false, false⟩ : api_Summary)] : List (api_Summary))) fun l31 =>
 chk (cutB 0 (p1.length : Int) l31.length) <|
 opt (gossip_Digest (⟨y11.1.gFloor, y11.1.gAccepted, (y11.1.gRows.take (y11.2).toNat)⟩ : api_GateState)) fun y38 =>
 opt (gossip_Lacks (⟨y11.1.gFloor, y11.1.gAccepted, (y11.1.gRows.take (y11.2).toNat)⟩ : api_GateState) (l31.take ((p1.length : Int)).toNat)) fun y45 =>
 opt (gossip_Digest (⟨y11.1.gFloor, y11.1.gAccepted, (y11.1.gRows.take (y11.2).toNat)⟩ : api_GateState)) fun y52 =>
 opt (gossip_Lacks (⟨y11.1.gFloor, y11.1.gAccepted, (y11.1.gRows.take (y11.2).toNat)⟩ : api_GateState) (l31.take ((p1.length : Int)).toNat)) fun y59 =>
 opt (gossip_Lacks (⟨y11.1.gFloor, y11.1.gAccepted, (y11.1.gRows.take (y11.2).toNat)⟩ : api_GateState) []) fun y66 =>
 jn (fun (i91 : Bool) => br (i91) (
 some false
 ) (
 jn (fun (l158 : List (api_Summary)) => jn (fun (l255 : List (api_Summary)) => jn (fun (l351 : List (api_Entry)) => jn (fun (l448 : List (api_Entry)) => opt (gossip_Lacks (⟨y11.1.gFloor, y11.1.gAccepted, (y11.1.gRows.take (y11.2).toNat)⟩ : api_GateState) (l31.take ((p1.length : Int)).toNat)) fun y501 =>
 jn (fun (i517 : Bool) => br (i517) (
 some false
 ) (
 jn (fun (i574 : Bool) => br (i574) (
 some false
 ) (
 jn (fun (l745 : List (api_Summary)) (l750 : List (api_Summary)) => opt (gossip_Lacks (⟨y11.1.gFloor, y11.1.gAccepted, (y11.1.gRows.take (y11.2).toNat)⟩ : api_GateState) (l745.take ((p1.length : Int)).toNat)) fun y875 =>
 opt (fareboxref20_Lacks y3 l750) fun y881 =>
 opt (fareboxlaw20_sameEntries y875 y881) fun y887 =>
 chk (imp (!(!y887)) ((fareboxlaw20_sameSummaries (l745.take ((p1.length : Int)).toNat) l750).isSome)) <|
 chk (imp (!((!y887) || (!((fareboxlaw20_sameSummaries (l745.take ((p1.length : Int)).toNat) l750).getD false)))) ((cutB 0 (IntKind.wrap .i64 ((p1.length : Int) + 1)) l745.length && inB (p1.length : Int) (IntKind.wrap .i64 ((p1.length : Int) + 1)).toNat))) <|
 br ((((!y887) || (!((fareboxlaw20_sameSummaries (l745.take ((p1.length : Int)).toNat) l750).getD false))) || ((l745.getD ((p1.length : Int)).toNat api_Summary_z).gSerial != (-77)))) (
 some false
 ) (
 opt (fareboxlaw20_turned y11.1 y11.2) fun y893 =>
 chk (cutB 0 y11.2 y893.2.length) <|
 chk (cutB 0 y11.2 y893.2.length) <|
 chk (cutB 0 y11.2 y893.2.length) <|
 chk (cutB 0 y11.2 y893.2.length) <|
 jn (fun (i936 : Bool) => some i936) fun k937 => opt (gossip_Digest (⟨y11.1.gFloor, y11.1.gAccepted, (y893.2.take (y11.2).toNat)⟩ : api_GateState)) fun y939 =>
 opt (fareboxref20_Digest y893.1) fun y945 =>
 opt (fareboxlaw20_sameSummaries y939 y945) fun y951 =>
 br (y951) (
 opt (gossip_Lacks (⟨y11.1.gFloor, y11.1.gAccepted, (y893.2.take (y11.2).toNat)⟩ : api_GateState) (l745.take ((p1.length : Int)).toNat)) fun y952 =>
 opt (fareboxref20_Lacks y893.1 l750) fun y958 =>
 opt (fareboxlaw20_sameEntries y952 y958) fun y964 =>
 chk (imp y964 ((fareboxlaw20_left (⟨y11.1.gFloor, y11.1.gAccepted, y893.2⟩ : api_GateState) y11.2 y893.1).isSome)) <|
 k937 (y964 && ((fareboxlaw20_left (⟨y11.1.gFloor, y11.1.gAccepted, y893.2⟩ : api_GateState) y11.2 y893.1).getD false))
 ) (
 chk (imp false ((fareboxlaw20_left (⟨y11.1.gFloor, y11.1.gAccepted, y893.2⟩ : api_GateState) y11.2 y893.1).isSome)) <|
 k937 false
 )
 )) fun k752 => fareboxlaw20_GossipDigests_l5 p1 k752 big l31 [] 0
 )) fun k575 => opt (fareboxref20_Digest y3) fun y577 =>
 opt (fareboxlaw20_sameSummaries y52 y577) fun y583 =>
 br ((!y583)) (
 k575 true
 ) (
 opt (fareboxref20_Lacks y3 p1) fun y584 =>
 opt (fareboxlaw20_sameEntries y59 y584) fun y590 =>
 br ((!y590)) (
 k575 true
 ) (
 opt (fareboxref20_Lacks y3 []) fun y591 =>
 opt (fareboxlaw20_sameEntries y66 y591) fun y597 =>
 br ((!y597)) (
 k575 true
 ) (
 opt (fareboxlaw20_summaryRooms l158 y52) fun y598 =>
 br ((!y598)) (
 k575 true
 ) (
 opt (fareboxlaw20_rooms l351 y59) fun y605 =>
 br ((!y605)) (
 k575 true
 ) (
 opt (fareboxlaw20_rooms y59 y66) fun y612 =>
 k575 (!y612)
 )
 )
 )
 )
 )
 )) fun k518 => bnd (IntKind.wrap .i64 ((l351.length : Int) + 8)) fun z520 =>
 chk (imp (!(((l448.length : Int) != z520) || ((l255.length : Int) != IntKind.wrap .i64 ((l158.length : Int) + 8)))) ((fareboxlaw20_left y11.1 y11.2 y3).isSome)) <|
 br (((((l448.length : Int) != z520) || ((l255.length : Int) != IntKind.wrap .i64 ((l158.length : Int) + 8))) || (!((fareboxlaw20_left y11.1 y11.2 y3).getD false)))) (
 k518 true
 ) (
 opt (fareboxref20_Lacks y3 p1) fun y522 =>
 opt (fareboxlaw20_sameEntries y501 y522) fun y528 =>
 k518 (!y528)
 )) fun k450 => fareboxlaw20_GossipDigests_l4 k450 big l351 0) fun k353 => fareboxlaw20_GossipDigests_l3 k353 big y45 0) fun k257 => fareboxlaw20_GossipDigests_l2 k257 big l158 0) fun k160 => fareboxlaw20_GossipDigests_l1 k160 big y38 0
 )) fun k92 => opt (fareboxref20_Digest y3) fun y94 =>
 opt (fareboxlaw20_sameSummaries y38 y94) fun y100 =>
 br ((!y100)) (
 chk (imp (!true) ((fareboxlaw20_sameSummaries (l31.take ((p1.length : Int)).toNat) p1).isSome)) <|
 chk (imp (!true) ((fareboxlaw20_left y11.1 y11.2 y3).isSome)) <|
 k92 true
 ) (
 opt (fareboxref20_Lacks y3 p1) fun y103 =>
 opt (fareboxlaw20_sameEntries y45 y103) fun y109 =>
 chk (imp (!(!y109)) ((fareboxlaw20_sameSummaries (l31.take ((p1.length : Int)).toNat) p1).isSome)) <|
 chk (imp (!((!y109) || (!((fareboxlaw20_sameSummaries (l31.take ((p1.length : Int)).toNat) p1).getD false)))) ((fareboxlaw20_left y11.1 y11.2 y3).isSome)) <|
 k92 (((!y109) || (!((fareboxlaw20_sameSummaries (l31.take ((p1.length : Int)).toNat) p1).getD false))) || (!((fareboxlaw20_left y11.1 y11.2 y3).getD false)))
 )
theorem fareboxlaw20_GossipDigests_spec {W : World} {r : Bool} {p0 : List (api_Summary)} {p1 : List (api_Summary)} {v0 : Value} {v1 : Value} (h : fareboxlaw20_GossipDigests p0 p1 = some r) (A0 : RdSl E_api_Summary W v0 p0) (A1 : RdSl E_api_Summary W v1 p1) :
    Calls Try.prog 3 [v0, v1].toArray W (ret1 W (.bool (r))) := by
 unfold fareboxlaw20_GossipDigests at h
 refine calls_val mo ok3 rfl ?_
 refine wc_seq <| wc_ops <| wj_q _ (q_mv rfl) <| wj_nil <| wc_seq <| oH h fun y3 ey3 h => wc_ops <| wj_q _ (q_mv rfl) <| wj_e (ef_callS0 rfl (fun w hw => fareboxlaw20_rowed_spec  ey3 ((rd_arg A0 apart0) w hw)) fun v4 Msv4 R5 => ?_)
 obtain ⟨v6, ms7, rfl, rfl, O8⟩ := R5
 refine wj_e (ef_al fun b9 hb9 => wj_e (ef_stg (q := [.one (.int .i64 (y3.gFloor.gFloor)), .ints .u8 64 (y3.gFloor.gSig), .one (.int .i64 (y3.gAccepted)), .one (v6)]) rfl rfl rfl rfl (ones_cons (ones_one rfl) (ones_cons ones_ints (ones_cons (ones_one rfl) (ones_cons (ones_one (IsSl.one1 (OwnSl.isSl O8))) ones_nil)))) .here <| wj_nil <| wc_seq <| oH h fun y11 ey11 h => wc_ops <| wj_q _ (q_ld (p := [.one (.int .i64 (y3.gFloor.gFloor)), .ints .u8 64 (y3.gFloor.gSig), .one (.int .i64 (y3.gAccepted)), .one (v6)]) rfl .here rfl) <| wj_e (ef_callS0 rfl (fun w hw => fareboxlaw20_marked_spec  ey11 ((rd_own O8 (.there .here)) w hw)) fun v12 Msv12 R13 => ?_)))
 obtain ⟨v14, ms15, rfl, rfl, O16, H17⟩ := R13
 refine wj_e (ef_al fun b18 hb18 => wj_e (ef_stg (q := [.one (.int .i64 (y11.1.gFloor.gFloor)), .ints .u8 64 (y11.1.gFloor.gSig), .one (.int .i64 (y11.1.gAccepted)), .one ((cutSl 262 v14 0 (y11.2).toNat))]) rfl rfl rfl rfl (ones_cons (ones_one rfl) (ones_cons ones_ints (ones_cons (ones_one rfl) (ones_cons (ones_one (IsSl.one1 cut_isSl)) ones_nil)))) .here <| wj_nil <| wc_seq <| wc_ops <| wj_q _ (q_mv rfl) <| wj_nil <| wc_seq <| cH h fun c21 h => bH h fun l22 el22 h => wc_ops <| wj_q _ (q_mv rfl) <| wj_q _ (q_mv rfl) <| wj_e (ef_appO (E := E_api_Summary) el22 rfl own_nil .here rfl (rd_arg A1 apart0) c21 fun v23 ms24 O25 => wj_q _ (q_mv rfl) <| wj_nil <| wc_seq <| cH h fun c30 h => bH h fun l31 el31 h => wc_ops <| wj_q _ (q_mv rfl) <| wj_q _ (q_bd (q := [.one (.int .i64 ((-77))), .one (.int .i64 (0)), .one (.bool (false)), .one (.bool (false))]) (.one rfl rfl rfl BdR.nil)) <| wj_e (ef_bsO (E := E_api_Summary) (xs := [(⟨(-77), 0, false, false⟩ : api_Summary)]) (.agg rfl rfl rfl BdR.nil) (.cons (p := [.one (.int .i64 ((-77))), .one (.int .i64 (0)), .one (.bool (false)), .one (.bool (false))]) rfl .nil) rfl fun v27 ms28 O29 => wj_e (ef_appO (E := E_api_Summary) el31 rfl O25 (.app .here) rfl (rd_own O29 .here) c30 fun v32 ms33 O34 => wj_q _ (q_mv rfl) <| wj_nil <| wc_seq <| cH h fun c36 h => wc_ops <| wj_q _ (q_mv rfl) <| wj_q _ (q_mv rfl) <| wj_q _ (q_lenP rfl (Shp.rd A1)) <| wj_q _ (q_slsP (lz := 0) (hz := (p1.length : Int)) rfl (Shp.own O34) .no (.yes rfl) c36) <| wj_q _ (q_mv rfl) <| wj_nil <| wc_seq <| oH h fun y38 ey38 h => wc_ops <| wj_q _ (q_ld (p := [.one (.int .i64 (y11.1.gFloor.gFloor)), .ints .u8 64 (y11.1.gFloor.gSig), .one (.int .i64 (y11.1.gAccepted)), .one ((cutSl 262 v14 0 (y11.2).toNat))]) rfl (.app (.app .here)) rfl) <| wj_e (ef_callS0 rfl (fun w hw => gossip_Digest_spec (p0 := (⟨y11.1.gFloor, y11.1.gAccepted, (y11.1.gRows.take (y11.2).toNat)⟩ : api_GateState)) ey38 ((rd_pre (rd_own O16 (.app (.app (.there .here)))) H17) w hw)) fun v39 Msv39 R40 => ?_))))))
 obtain ⟨_, ms42, rfl, rfl, O43⟩ := R40
 refine wj_q _ (q_mv rfl) <| wj_nil <| wc_seq <| oH h fun y45 ey45 h => wc_ops <| wj_q _ (q_ld (p := [.one (.int .i64 (y11.1.gFloor.gFloor)), .ints .u8 64 (y11.1.gFloor.gSig), .one (.int .i64 (y11.1.gAccepted)), .one ((cutSl 262 v14 0 (y11.2).toNat))]) rfl (.app (.app (.app .here))) rfl) <| wj_q _ (q_mv rfl) <| wj_e (ef_callS0 rfl (fun w hw => gossip_Lacks_spec (p0 := (⟨y11.1.gFloor, y11.1.gAccepted, (y11.1.gRows.take (y11.2).toNat)⟩ : api_GateState)) ey45 ((rd_pre (rd_own O16 (.app (.app (.app (.there .here))))) H17) w hw) ((rd_pre (rd_own O34 (.app .here)) c36) w hw)) fun v46 Msv46 R47 => ?_)
 obtain ⟨_, ms49, rfl, rfl, O50⟩ := R47
 refine wj_q _ (q_mv rfl) <| wj_nil <| wc_seq <| oH h fun y52 ey52 h => wc_ops <| wj_q _ (q_ld (p := [.one (.int .i64 (y11.1.gFloor.gFloor)), .ints .u8 64 (y11.1.gFloor.gSig), .one (.int .i64 (y11.1.gAccepted)), .one ((cutSl 262 v14 0 (y11.2).toNat))]) rfl (.app (.app (.app (.app .here)))) rfl) <| wj_e (ef_callS0 rfl (fun w hw => gossip_Digest_spec (p0 := (⟨y11.1.gFloor, y11.1.gAccepted, (y11.1.gRows.take (y11.2).toNat)⟩ : api_GateState)) ey52 ((rd_pre (rd_own O16 (.app (.app (.app (.app (.there .here)))))) H17) w hw)) fun v53 Msv53 R54 => ?_)
 obtain ⟨_, ms56, rfl, rfl, O57⟩ := R54
 refine wj_q _ (q_mv rfl) <| wj_nil <| wc_seq <| oH h fun y59 ey59 h => wc_ops <| wj_q _ (q_ld (p := [.one (.int .i64 (y11.1.gFloor.gFloor)), .ints .u8 64 (y11.1.gFloor.gSig), .one (.int .i64 (y11.1.gAccepted)), .one ((cutSl 262 v14 0 (y11.2).toNat))]) rfl (.app (.app (.app (.app (.app .here))))) rfl) <| wj_q _ (q_mv rfl) <| wj_e (ef_callS0 rfl (fun w hw => gossip_Lacks_spec (p0 := (⟨y11.1.gFloor, y11.1.gAccepted, (y11.1.gRows.take (y11.2).toNat)⟩ : api_GateState)) ey59 ((rd_pre (rd_own O16 (.app (.app (.app (.app (.app (.there .here))))))) H17) w hw) ((rd_pre (rd_own O34 (.app (.app (.app .here)))) c36) w hw)) fun v60 Msv60 R61 => ?_)
 obtain ⟨_, ms63, rfl, rfl, O64⟩ := R61
 refine wj_q _ (q_mv rfl) <| wj_nil <| wc_seq <| oH h fun y66 ey66 h => wc_ops <| wj_q _ (q_ld (p := [.one (.int .i64 (y11.1.gFloor.gFloor)), .ints .u8 64 (y11.1.gFloor.gSig), .one (.int .i64 (y11.1.gAccepted)), .one ((cutSl 262 v14 0 (y11.2).toNat))]) rfl (.app (.app (.app (.app (.app (.app .here)))))) rfl) <| wj_e (ef_callS0 rfl (fun w hw => gossip_Lacks_spec (p0 := (⟨y11.1.gFloor, y11.1.gAccepted, (y11.1.gRows.take (y11.2).toNat)⟩ : api_GateState)) ey66 ((rd_pre (rd_own O16 (.app (.app (.app (.app (.app (.app (.there .here)))))))) H17) w hw) (rd_own0 w hw)) fun v67 Msv67 R68 => ?_)
 obtain ⟨_, ms70, rfl, rfl, O71⟩ := R68
 refine wj_q _ (q_mv rfl) <| wj_nil <| wc_seq <| wc_seq <| jH h fun k92 qk92 h => wc_mono2 (G := fun t m => ∃ (i91 : Bool), k92 i91 = some r ∧ Fit [(1, v1), (5, .pointer (some ⟨b9, 0, none⟩)), (6, .pointer (some ⟨b18, 0, none⟩)), (7, (cutSl 4 v32 0 ((p1.length : Int)).toNat)), (8, v39), (9, v46), (10, v53), (11, v60), (12, v67), (75, .bool (i91))] (ms70 ++ (ms63 ++ (ms56 ++ (ms49 ++ (ms42 ++ (ms33 ++ (ck b18 30 [.one (.int .i64 (y11.1.gFloor.gFloor)), .ints .u8 64 (y11.1.gFloor.gSig), .one (.int .i64 (y11.1.gAccepted)), .one ((cutSl 262 v14 0 (y11.2).toNat))] :: (ms15 ++ (ck b9 30 [.one (.int .i64 (y3.gFloor.gFloor)), .ints .u8 64 (y3.gFloor.gSig), .one (.int .i64 (y3.gAccepted)), .one (v6)] :: (ms7 ++ [])))))))))) t m) ?_ ?_
 ·refine wc_ops <| oH h fun y94 ey94 h => oH h fun y100 ey100 h => wj_q _ (q_mv rfl) <| wj_q _ (q_ld (p := [.one (.int .i64 (y3.gFloor.gFloor)), .ints .u8 64 (y3.gFloor.gSig), .one (.int .i64 (y3.gAccepted)), .one (v6)]) rfl (.app (.app (.app (.app (.app (.app (.app (.there (.app .here))))))))) rfl) <| wj_e (ef_callS0 rfl (fun w hw => fareboxref20_Digest_spec  ey94 ((rd_own O8 (.app (.app (.app (.app (.app (.app (.app (.there (.app (.there .here))))))))))) w hw)) fun v95 Msv95 R96 => ?_)
  obtain ⟨_, ms98, rfl, rfl, O99⟩ := R96
  refine wj_q _ (q_call rfl (fun w hw => fareboxlaw20_sameSummaries_spec ey100 ((rd_own O43 (.app (.app (.app (.app (.app .here)))))) w hw) ((rd_own O99 .here) w hw))) <| wj_q _ (q_un rfl rfl) <| wj_q _ (q_mv rfl) <| wj_br (tc := 56) h rfl (fun h => ?_) (fun h => ?_)
  ·exact cH h fun c101 h => cH h fun c102 h => wj_gx rfl rfl <| wj_gx rfl rfl <| wj_gx rfl rfl <| wj_gx rfl rfl <| wj_gx rfl rfl <| wj_gx rfl rfl <| wj_q _ (pick_t rfl rfl) <| wj_q _ (q_mv rfl) <| wj_or rfl rfl rfl (fun hg1 => qj_g rfl _ (q_mv rfl) (qj_g rfl _ (q_mv rfl) (qj_g rfl _ (q_call rfl (fun w hw => fareboxlaw20_sameSummaries_spec (getD_some (z := false) (imp_f c101 hg1)) ((rd_pre (rd_own O34 (.app (.app (.app (.app (.app (.app .here))))))) c36) w hw) ((rd_arg A1 apart0) w hw))) (qj_g rfl _ (q_un rfl rfl) (qj_nil))))) (fun hg1 => rfl) rfl <| wj_q _ (q_mv rfl) <| wj_or rfl rfl rfl (fun hg1 => qj_g rfl _ (q_ld (p := [.one (.int .i64 (y11.1.gFloor.gFloor)), .ints .u8 64 (y11.1.gFloor.gSig), .one (.int .i64 (y11.1.gAccepted)), .one ((cutSl 262 v14 0 (y11.2).toNat))]) rfl (.app (.app (.app (.app (.app (.app (.app (.app .here)))))))) rfl) (qj_g rfl _ (q_ld (p := [.one (.int .i64 (y3.gFloor.gFloor)), .ints .u8 64 (y3.gFloor.gSig), .one (.int .i64 (y3.gAccepted)), .one (v6)]) rfl (.app (.app (.app (.app (.app (.app (.app (.app (.there (.app .here)))))))))) rfl) (qj_g rfl _ (q_call rfl (fun w hw => fareboxlaw20_left_spec (getD_some (z := false) (imp_f c102 hg1)) ((rd_own O16 (.app (.app (.app (.app (.app (.app (.app (.app (.there .here)))))))))) w hw) H17 ((rd_own O8 (.app (.app (.app (.app (.app (.app (.app (.app (.there (.app (.there .here)))))))))))) w hw))) (qj_g rfl _ (q_un rfl rfl) (qj_nil))))) (fun hg1 => rfl) rfl <| wj_nil <| ⟨true, h, ⟨⟨rfl, rfl, rfl, rfl, rfl, rfl, rfl, rfl, rfl, rfl, trivial⟩, (.all (.app .here) (.all (.app .here) (.all (.app .here) (.all (.app .here) (.all (.app .here) (.all (.app .here) (.one (.app (.app .here)) (.all (.app (.app .here)) (.one (.app (.app .here)) (.all (.app (.app .here)) .nil))))))))))⟩⟩
  ·refine oH h fun y103 ey103 h => oH h fun y109 ey109 h => cH h fun c110 h => cH h fun c111 h => wj_gq rfl _ (q_mv rfl) <| wj_gq rfl _ (q_ld (p := [.one (.int .i64 (y3.gFloor.gFloor)), .ints .u8 64 (y3.gFloor.gSig), .one (.int .i64 (y3.gAccepted)), .one (v6)]) rfl (.app (.app (.app (.app (.app (.app (.app (.app (.there (.app .here)))))))))) rfl) <| wj_gq rfl _ (q_mv rfl) <| wj_ge rfl (ef_callS0 rfl (fun w hw => fareboxref20_Lacks_spec  ey103 ((rd_own O8 (.app (.app (.app (.app (.app (.app (.app (.app (.there (.app (.there .here)))))))))))) w hw) ((rd_arg A1 apart0) w hw)) fun v104 Msv104 R105 => ?_)
   obtain ⟨_, ms107, rfl, rfl, O108⟩ := R105
   exact wj_gq rfl _ (q_call rfl (fun w hw => fareboxlaw20_sameEntries_spec ey109 ((rd_own O50 (.app (.app (.app (.app (.app .here)))))) w hw) ((rd_own O108 .here) w hw))) <| wj_gq rfl _ (q_un rfl rfl) <| wj_q _ (pick_f rfl rfl) <| wj_q _ (q_mv rfl) <| wj_or rfl rfl rfl (fun hg1 => qj_g rfl _ (q_mv rfl) (qj_g rfl _ (q_mv rfl) (qj_g rfl _ (q_call rfl (fun w hw => fareboxlaw20_sameSummaries_spec (getD_some (z := false) (imp_f c110 hg1)) ((rd_pre (rd_own O34 (.app (.app (.app (.app (.app (.app (.app .here)))))))) c36) w hw) ((rd_arg A1 apart0) w hw))) (qj_g rfl _ (q_un rfl rfl) (qj_nil))))) (fun hg1 => rfl) rfl <| wj_q _ (q_mv rfl) <| wj_or rfl rfl rfl (fun hg1 => qj_g rfl _ (q_ld (p := [.one (.int .i64 (y11.1.gFloor.gFloor)), .ints .u8 64 (y11.1.gFloor.gSig), .one (.int .i64 (y11.1.gAccepted)), .one ((cutSl 262 v14 0 (y11.2).toNat))]) rfl (.app (.app (.app (.app (.app (.app (.app (.app (.app .here))))))))) rfl) (qj_g rfl _ (q_ld (p := [.one (.int .i64 (y3.gFloor.gFloor)), .ints .u8 64 (y3.gFloor.gSig), .one (.int .i64 (y3.gAccepted)), .one (v6)]) rfl (.app (.app (.app (.app (.app (.app (.app (.app (.app (.there (.app .here))))))))))) rfl) (qj_g rfl _ (q_call rfl (fun w hw => fareboxlaw20_left_spec (getD_some (z := false) (imp_f c111 hg1)) ((rd_own O16 (.app (.app (.app (.app (.app (.app (.app (.app (.app (.there .here))))))))))) w hw) H17 ((rd_own O8 (.app (.app (.app (.app (.app (.app (.app (.app (.app (.there (.app (.there .here))))))))))))) w hw))) (qj_g rfl _ (q_un rfl rfl) (qj_nil))))) (fun hg1 => rfl) rfl <| wj_nil <| ⟨(((!y109) || (!((fareboxlaw20_sameSummaries (l31.take ((p1.length : Int)).toNat) p1).getD false))) || (!((fareboxlaw20_left y11.1 y11.2 y3).getD false))), h, ⟨⟨rfl, rfl, rfl, rfl, rfl, rfl, rfl, rfl, rfl, rfl, trivial⟩, (.all (.app (.app .here)) (.all (.app (.app .here)) (.all (.app (.app .here)) (.all (.app (.app .here)) (.all (.app (.app .here)) (.all (.app (.app .here)) (.one (.app (.app (.app .here))) (.all (.app (.app (.app .here))) (.one (.app (.app (.app .here))) (.all (.app (.app (.app .here))) .nil))))))))))⟩⟩
 ·rintro t m ⟨i91, h, hF⟩
  refine wc_fit hF ?_
  clear hF
  subst qk92
  refine wc_br h rfl (fun h => ?_) (fun h => ?_)
  ·refine wc_seq <| wc_ops <| wj_q _ (q_mv rfl) <| wj_nil <| wc_ret ?_
   revert h; refine ret_i fun h => ?_
   subst h
   exact ⟨_, (.cons (.tmp rfl) .nil), rfl⟩
  ·refine wc_skip <| wc_seq <| wc_seq <| wc_ops <| wj_q _ (q_mv rfl) <| wj_nil <| jH h fun k160 qk160 h => wc_mono2 (G := fun t m => ∃ (l158 : List (api_Summary)) (v156 : Value) (ms157 : List Chunk), k160 l158 = some r ∧ OwnSl E_api_Summary v156 ms157 l158 ∧ Fit [(1, v1), (5, .pointer (some ⟨b9, 0, none⟩)), (6, .pointer (some ⟨b18, 0, none⟩)), (7, (cutSl 4 v32 0 ((p1.length : Int)).toNat)), (8, v156), (9, v46), (10, v53), (11, v60), (12, v67)] (ms70 ++ (ms63 ++ (ms56 ++ (ms49 ++ (ms33 ++ (ck b18 30 [.one (.int .i64 (y11.1.gFloor.gFloor)), .ints .u8 64 (y11.1.gFloor.gSig), .one (.int .i64 (y11.1.gAccepted)), .one ((cutSl 262 v14 0 (y11.2).toNat))] :: (ms15 ++ (ck b9 30 [.one (.int .i64 (y3.gFloor.gFloor)), .ints .u8 64 (y3.gFloor.gSig), .one (.int .i64 (y3.gAccepted)), .one (v6)] :: (ms7 ++ (ms157 ++ [])))))))))) t m) ?_ ?_
   ·refine wc_block <| wc_loopJ (fun n191 t m => ∃ (l187 : List (api_Summary)) (i189 : Int) (v185 : Value) (ms186 : List Chunk), fareboxlaw20_GossipDigests_l1 k160 n191 l187 i189 = some r ∧ OwnSl E_api_Summary v185 ms186 l187 ∧ Fit [(1, v1), (5, .pointer (some ⟨b9, 0, none⟩)), (6, .pointer (some ⟨b18, 0, none⟩)), (7, (cutSl 4 v32 0 ((p1.length : Int)).toNat)), (8, v185), (9, v46), (10, v53), (11, v60), (12, v67), (13, .int .i64 (i189))] (ms70 ++ (ms63 ++ (ms56 ++ (ms49 ++ (ms33 ++ (ck b18 30 [.one (.int .i64 (y11.1.gFloor.gFloor)), .ints .u8 64 (y11.1.gFloor.gSig), .one (.int .i64 (y11.1.gAccepted)), .one ((cutSl 262 v14 0 (y11.2).toNat))] :: (ms15 ++ (ck b9 30 [.one (.int .i64 (y3.gFloor.gFloor)), .ints .u8 64 (y3.gFloor.gSig), .one (.int .i64 (y3.gAccepted)), .one (v6)] :: (ms7 ++ (ms186 ++ [])))))))))) t m) big ?_ ?_
    ·exact ⟨y38, 0, v39, ms42, h, O43, ⟨⟨rfl, rfl, rfl, rfl, rfl, rfl, rfl, rfl, rfl, rfl, trivial⟩, (.all .here (.all .here (.all .here (.all .here (.all (.app .here) (.one (.app .here) (.all (.app .here) (.one (.app .here) (.all (.app .here) (.all .here .nil))))))))))⟩⟩
    ·rintro n191 t m ⟨l187, i189, v185, ms186, h, O188, hF⟩
     refine wc_fit hF ?_
     clear hF
     rcases n191 with _ | n191
     · exact none_i h
     have h : fareboxlaw20_GossipDigests_b1 k160 (fareboxlaw20_GossipDigests_l1 k160 n191) l187 i189 = some r := h
     unfold fareboxlaw20_GossipDigests_b1 at h
     obtain ⟨k190, qk190⟩ : ∃ k, k = fareboxlaw20_GossipDigests_l1 k160 n191 := ⟨_, rfl⟩
     try rw [← qk190] at h
     refine wc_seq <| wc_seq <| wc_ops <| wj_q _ (q_mv rfl) <| wj_q _ (q_mv rfl) <| wj_q _ (q_lenP rfl (Shp.own O188)) <| wj_q _ (q_bin rfl rfl rfl) <| wj_nil <| wc_br h rfl (fun h => ?_) (fun h => ?_)
     ·refine wc_skip <| wc_seq <| wc_block <| cH h fun c195 h => bH h fun x196 ex196 h => bH h fun l197 el197 h => wc_ops <| wj_q _ (q_mv rfl) <| wj_q _ (q_mv rfl) <| wj_q _ (q_bd (q := [.one (.int .i64 ((-33))), .one (.int .i64 (0)), .one (.bool (false)), .one (.bool (false))]) (.one rfl rfl rfl BdR.nil)) <| wj_q _ (q_iasP rfl rfl (Shp.own O188) c195) <| wj_e (ef_stO (E := E_api_Summary) el197 O188 (.app (.app (.app (.app (.app (.there (.app (.there (.app .here))))))))) rfl rfl rfl (inB_n c195) fun ms198 O199 => wj_nil <| bH h fun z201 ez201 h => wc_ops <| wj_q _ (q_mv rfl) <| wj_q _ (iz ez201 (q_bin rfl rfl rfl)) <| wj_q _ (q_mv rfl) <| wj_nil ?_)
      rw [qk190] at h
      exact ⟨n191, Nat.lt_succ_self _, l197, z201, v185, ms198, h, O199, ⟨⟨rfl, rfl, rfl, rfl, rfl, rfl, rfl, rfl, rfl, rfl, trivial⟩, (.all (.app .here) (.all (.app .here) (.all (.app .here) (.all (.app .here) (.all (.app .here) (.one (.app .here) (.all (.app .here) (.one (.app .here) (.all (.app .here) (.all .here .nil))))))))))⟩⟩
     ·exact wc_exit _ rfl <| ⟨l187, v185, ms186, h, O188, ⟨⟨rfl, rfl, rfl, rfl, rfl, rfl, rfl, rfl, rfl, trivial⟩, (.all .here (.all .here (.all .here (.all .here (.all .here (.one .here (.all .here (.one .here (.all .here (.all .here .nil))))))))))⟩⟩
   ·rintro t m ⟨l158, v156, ms157, h, O159, hF⟩
    refine wc_fit hF ?_
    clear hF
    subst qk160
    refine wc_seq <| wc_ops <| wj_q _ (q_mv rfl) <| wj_q _ (q_mv rfl) <| wj_nil <| wc_seq <| wc_seq <| wc_ops <| wj_q _ (q_mv rfl) <| wj_nil <| jH h fun k257 qk257 h => wc_mono2 (G := fun t m => ∃ (l255 : List (api_Summary)) (v253 : Value) (ms254 : List Chunk), k257 l255 = some r ∧ GrownIn E_api_Summary v156 l158 v253 l255 ms254 ∧ Fit [(1, v1), (5, .pointer (some ⟨b9, 0, none⟩)), (6, .pointer (some ⟨b18, 0, none⟩)), (7, (cutSl 4 v32 0 ((p1.length : Int)).toNat)), (8, v156), (9, v46), (10, v53), (11, v60), (12, v67), (14, v253)] (ms70 ++ (ms63 ++ (ms56 ++ (ms49 ++ (ms33 ++ (ck b18 30 [.one (.int .i64 (y11.1.gFloor.gFloor)), .ints .u8 64 (y11.1.gFloor.gSig), .one (.int .i64 (y11.1.gAccepted)), .one ((cutSl 262 v14 0 (y11.2).toNat))] :: (ms15 ++ (ck b9 30 [.one (.int .i64 (y3.gFloor.gFloor)), .ints .u8 64 (y3.gFloor.gSig), .one (.int .i64 (y3.gAccepted)), .one (v6)] :: (ms7 ++ (ms254 ++ [])))))))))) t m) ?_ ?_
    ·refine wc_block <| wc_loopJ (fun n293 t m => ∃ (l289 : List (api_Summary)) (i291 : Int) (v287 : Value) (ms288 : List Chunk), fareboxlaw20_GossipDigests_l2 k257 n293 l289 i291 = some r ∧ GrownIn E_api_Summary v156 l158 v287 l289 ms288 ∧ Fit [(1, v1), (5, .pointer (some ⟨b9, 0, none⟩)), (6, .pointer (some ⟨b18, 0, none⟩)), (7, (cutSl 4 v32 0 ((p1.length : Int)).toNat)), (8, v156), (9, v46), (10, v53), (11, v60), (12, v67), (14, v287), (15, .int .i64 (i291))] (ms70 ++ (ms63 ++ (ms56 ++ (ms49 ++ (ms33 ++ (ck b18 30 [.one (.int .i64 (y11.1.gFloor.gFloor)), .ints .u8 64 (y11.1.gFloor.gSig), .one (.int .i64 (y11.1.gAccepted)), .one ((cutSl 262 v14 0 (y11.2).toNat))] :: (ms15 ++ (ck b9 30 [.one (.int .i64 (y3.gFloor.gFloor)), .ints .u8 64 (y3.gFloor.gSig), .one (.int .i64 (y3.gAccepted)), .one (v6)] :: (ms7 ++ (ms288 ++ [])))))))))) t m) big ?_ ?_
     ·exact ⟨l158, 0, v156, ms157, h, (OwnIn.grow (OwnSl.oin O159)), ⟨⟨rfl, rfl, rfl, rfl, rfl, rfl, rfl, rfl, rfl, rfl, rfl, trivial⟩, (.all .here (.all .here (.all .here (.all .here (.all .here (.one .here (.all .here (.one .here (.all .here (.all .here .nil))))))))))⟩⟩
     ·rintro n293 t m ⟨l289, i291, v287, ms288, h, G290, hF⟩
      refine wc_fit hF ?_
      clear hF
      rcases n293 with _ | n293
      · exact none_i h
      have h : fareboxlaw20_GossipDigests_b2 k257 (fareboxlaw20_GossipDigests_l2 k257 n293) l289 i291 = some r := h
      unfold fareboxlaw20_GossipDigests_b2 at h
      obtain ⟨k292, qk292⟩ : ∃ k, k = fareboxlaw20_GossipDigests_l2 k257 n293 := ⟨_, rfl⟩
      try rw [← qk292] at h
      refine wc_seq <| wc_seq <| wc_ops <| wj_q _ (q_mv rfl) <| wj_q _ (q_bin rfl rfl rfl) <| wj_nil <| wc_br h rfl (fun h => ?_) (fun h => ?_)
      ·refine wc_skip <| wc_seq <| wc_block <| cH h fun c300 h => bH h fun l301 el301 h => wc_ops <| wj_q _ (q_mv rfl) <| wj_q _ (q_bd (q := [.one (.int .i64 ((-34))), .one (.int .i64 (0)), .one (.bool (false)), .one (.bool (false))]) (.one rfl rfl rfl BdR.nil)) <| wj_e (ef_bsO (E := E_api_Summary) (xs := [(⟨(-34), 0, false, false⟩ : api_Summary)]) (.agg rfl rfl rfl BdR.nil) (.cons (p := [.one (.int .i64 ((-34))), .one (.int .i64 (0)), .one (.bool (false)), .one (.bool (false))]) rfl .nil) rfl fun v297 ms298 O299 => wj_e (ef_appGI (E := E_api_Summary) el301 rfl G290 (.app (.app (.app (.app (.app (.app (.there (.app (.there (.app .here)))))))))) rfl (rd_own O299 .here) c300 fun v302 ms303 O304 => wj_q _ (q_mv rfl) <| wj_nil <| bH h fun z306 ez306 h => wc_ops <| wj_q _ (q_mv rfl) <| wj_q _ (iz ez306 (q_bin rfl rfl rfl)) <| wj_q _ (q_mv rfl) <| wj_nil ?_))
       rw [qk292] at h
       exact ⟨n293, Nat.lt_succ_self _, l301, z306, v302, ms303, h, O304, ⟨⟨rfl, rfl, rfl, rfl, rfl, rfl, rfl, rfl, rfl, rfl, rfl, trivial⟩, (.all (.app (.app .here)) (.all (.app (.app .here)) (.all (.app (.app .here)) (.all (.app (.app .here)) (.all (.app (.app .here)) (.one (.app (.app .here)) (.all (.app (.app .here)) (.one (.app (.app .here)) (.all (.app (.app .here)) (.all .here .nil))))))))))⟩⟩
      ·exact wc_exit _ rfl <| ⟨l289, v287, ms288, h, G290, ⟨⟨rfl, rfl, rfl, rfl, rfl, rfl, rfl, rfl, rfl, rfl, trivial⟩, (.all .here (.all .here (.all .here (.all .here (.all .here (.one .here (.all .here (.one .here (.all .here (.all .here .nil))))))))))⟩⟩
    ·rintro t m ⟨l255, v253, ms254, h, G256, hF⟩
     refine wc_fit hF ?_
     clear hF
     subst qk257
     refine wc_seq <| wc_seq <| wc_ops <| wj_q _ (q_mv rfl) <| wj_nil <| jH h fun k353 qk353 h => wc_mono2 (G := fun t m => ∃ (l351 : List (api_Entry)) (v349 : Value) (ms350 : List Chunk), k353 l351 = some r ∧ OwnSl E_api_Entry v349 ms350 l351 ∧ Fit [(1, v1), (5, .pointer (some ⟨b9, 0, none⟩)), (6, .pointer (some ⟨b18, 0, none⟩)), (7, (cutSl 4 v32 0 ((p1.length : Int)).toNat)), (8, v156), (9, v349), (10, v53), (11, v60), (12, v67), (14, v253)] (ms70 ++ (ms63 ++ (ms56 ++ (ms33 ++ (ck b18 30 [.one (.int .i64 (y11.1.gFloor.gFloor)), .ints .u8 64 (y11.1.gFloor.gSig), .one (.int .i64 (y11.1.gAccepted)), .one ((cutSl 262 v14 0 (y11.2).toNat))] :: (ms15 ++ (ck b9 30 [.one (.int .i64 (y3.gFloor.gFloor)), .ints .u8 64 (y3.gFloor.gSig), .one (.int .i64 (y3.gAccepted)), .one (v6)] :: (ms7 ++ (ms254 ++ (ms350 ++ [])))))))))) t m) ?_ ?_
     ·refine wc_block <| wc_loopJ (fun n384 t m => ∃ (l380 : List (api_Entry)) (i382 : Int) (v378 : Value) (ms379 : List Chunk), fareboxlaw20_GossipDigests_l3 k353 n384 l380 i382 = some r ∧ OwnSl E_api_Entry v378 ms379 l380 ∧ Fit [(1, v1), (5, .pointer (some ⟨b9, 0, none⟩)), (6, .pointer (some ⟨b18, 0, none⟩)), (7, (cutSl 4 v32 0 ((p1.length : Int)).toNat)), (8, v156), (9, v378), (10, v53), (11, v60), (12, v67), (14, v253), (16, .int .i64 (i382))] (ms70 ++ (ms63 ++ (ms56 ++ (ms33 ++ (ck b18 30 [.one (.int .i64 (y11.1.gFloor.gFloor)), .ints .u8 64 (y11.1.gFloor.gSig), .one (.int .i64 (y11.1.gAccepted)), .one ((cutSl 262 v14 0 (y11.2).toNat))] :: (ms15 ++ (ck b9 30 [.one (.int .i64 (y3.gFloor.gFloor)), .ints .u8 64 (y3.gFloor.gSig), .one (.int .i64 (y3.gAccepted)), .one (v6)] :: (ms7 ++ (ms254 ++ (ms379 ++ [])))))))))) t m) big ?_ ?_
      ·exact ⟨y45, 0, v46, ms49, h, O50, ⟨⟨rfl, rfl, rfl, rfl, rfl, rfl, rfl, rfl, rfl, rfl, rfl, trivial⟩, (.all .here (.all .here (.all .here (.all (.app .here) (.one (.app .here) (.all (.app .here) (.one (.app .here) (.all (.app .here) (.all (.app .here) (.all .here .nil))))))))))⟩⟩
      ·rintro n384 t m ⟨l380, i382, v378, ms379, h, O381, hF⟩
       refine wc_fit hF ?_
       clear hF
       rcases n384 with _ | n384
       · exact none_i h
       have h : fareboxlaw20_GossipDigests_b3 k353 (fareboxlaw20_GossipDigests_l3 k353 n384) l380 i382 = some r := h
       unfold fareboxlaw20_GossipDigests_b3 at h
       obtain ⟨k383, qk383⟩ : ∃ k, k = fareboxlaw20_GossipDigests_l3 k353 n384 := ⟨_, rfl⟩
       try rw [← qk383] at h
       refine wc_seq <| wc_seq <| wc_ops <| wj_q _ (q_mv rfl) <| wj_q _ (q_mv rfl) <| wj_q _ (q_lenP rfl (Shp.own O381)) <| wj_q _ (q_bin rfl rfl rfl) <| wj_nil <| wc_br h rfl (fun h => ?_) (fun h => ?_)
       ·refine wc_skip <| wc_seq <| wc_block <| cH h fun c388 h => bH h fun x389 ex389 h => bH h fun l390 el390 h => wc_ops <| wj_q _ (q_mv rfl) <| wj_q _ (q_mv rfl) <| wj_q _ (q_bd (q := [.one (.int .i64 (0)), .one (.int .i64 (0)), .one (.int .i64 (0)), .ints .u8 32 ((List.replicate 32 0)), .ints .u8 64 ((List.replicate 64 0)), .one (.int .i64 ((-33))), .ints .u8 32 ((List.replicate 32 0)), .one (.bool (false)), .ints .u8 64 ((List.replicate 64 0)), .one (.bool (false)), .ints .u8 64 ((List.replicate 64 0))]) (.one (z' := [.one (.int .i64 (0)), .one (.int .i64 (0)), .one (.int .i64 (0)), .ints .u8 32 ((List.replicate 32 0)), .ints .u8 64 ((List.replicate 64 0)), .one (.int .i64 ((-33))), .ints .u8 32 ((List.replicate 32 0)), .one (.bool (false)), .ints .u8 64 ((List.replicate 64 0)), .one (.bool (false)), .ints .u8 64 ((List.replicate 64 0))]) rfl rfl (by kernel_rfl) BdR.nil)) <| wj_q _ (q_iasP rfl rfl (Shp.own O381) c388) <| wj_e (ef_stO (E := E_api_Entry) el390 O381 (.app (.app (.app (.app (.there (.app (.there (.app (.app .here))))))))) rfl rfl rfl (inB_n c388) fun ms391 O392 => wj_nil <| bH h fun z394 ez394 h => wc_ops <| wj_q _ (q_mv rfl) <| wj_q _ (iz ez394 (q_bin rfl rfl rfl)) <| wj_q _ (q_mv rfl) <| wj_nil ?_)
        rw [qk383] at h
        exact ⟨n384, Nat.lt_succ_self _, l390, z394, v378, ms391, h, O392, ⟨⟨rfl, rfl, rfl, rfl, rfl, rfl, rfl, rfl, rfl, rfl, rfl, trivial⟩, (.all (.app .here) (.all (.app .here) (.all (.app .here) (.all (.app .here) (.one (.app .here) (.all (.app .here) (.one (.app .here) (.all (.app .here) (.all (.app .here) (.all .here .nil))))))))))⟩⟩
       ·exact wc_exit _ rfl <| ⟨l380, v378, ms379, h, O381, ⟨⟨rfl, rfl, rfl, rfl, rfl, rfl, rfl, rfl, rfl, rfl, trivial⟩, (.all .here (.all .here (.all .here (.all .here (.one .here (.all .here (.one .here (.all .here (.all .here (.all .here .nil))))))))))⟩⟩
     ·rintro t m ⟨l351, v349, ms350, h, O352, hF⟩
      refine wc_fit hF ?_
      clear hF
      subst qk353
      refine wc_seq <| wc_ops <| wj_q _ (q_mv rfl) <| wj_q _ (q_mv rfl) <| wj_nil <| wc_seq <| wc_seq <| wc_ops <| wj_q _ (q_mv rfl) <| wj_nil <| jH h fun k450 qk450 h => wc_mono2 (G := fun t m => ∃ (l448 : List (api_Entry)) (v446 : Value) (ms447 : List Chunk), k450 l448 = some r ∧ GrownIn E_api_Entry v349 l351 v446 l448 ms447 ∧ Fit [(1, v1), (5, .pointer (some ⟨b9, 0, none⟩)), (6, .pointer (some ⟨b18, 0, none⟩)), (7, (cutSl 4 v32 0 ((p1.length : Int)).toNat)), (8, v156), (9, v349), (10, v53), (11, v60), (12, v67), (14, v253), (17, v446)] (ms70 ++ (ms63 ++ (ms56 ++ (ms33 ++ (ck b18 30 [.one (.int .i64 (y11.1.gFloor.gFloor)), .ints .u8 64 (y11.1.gFloor.gSig), .one (.int .i64 (y11.1.gAccepted)), .one ((cutSl 262 v14 0 (y11.2).toNat))] :: (ms15 ++ (ck b9 30 [.one (.int .i64 (y3.gFloor.gFloor)), .ints .u8 64 (y3.gFloor.gSig), .one (.int .i64 (y3.gAccepted)), .one (v6)] :: (ms7 ++ (ms254 ++ (ms447 ++ [])))))))))) t m) ?_ ?_
      ·refine wc_block <| wc_loopJ (fun n486 t m => ∃ (l482 : List (api_Entry)) (i484 : Int) (v480 : Value) (ms481 : List Chunk), fareboxlaw20_GossipDigests_l4 k450 n486 l482 i484 = some r ∧ GrownIn E_api_Entry v349 l351 v480 l482 ms481 ∧ Fit [(1, v1), (5, .pointer (some ⟨b9, 0, none⟩)), (6, .pointer (some ⟨b18, 0, none⟩)), (7, (cutSl 4 v32 0 ((p1.length : Int)).toNat)), (8, v156), (9, v349), (10, v53), (11, v60), (12, v67), (14, v253), (17, v480), (18, .int .i64 (i484))] (ms70 ++ (ms63 ++ (ms56 ++ (ms33 ++ (ck b18 30 [.one (.int .i64 (y11.1.gFloor.gFloor)), .ints .u8 64 (y11.1.gFloor.gSig), .one (.int .i64 (y11.1.gAccepted)), .one ((cutSl 262 v14 0 (y11.2).toNat))] :: (ms15 ++ (ck b9 30 [.one (.int .i64 (y3.gFloor.gFloor)), .ints .u8 64 (y3.gFloor.gSig), .one (.int .i64 (y3.gAccepted)), .one (v6)] :: (ms7 ++ (ms254 ++ (ms481 ++ [])))))))))) t m) big ?_ ?_
       ·exact ⟨l351, 0, v349, ms350, h, (OwnIn.grow (OwnSl.oin O352)), ⟨⟨rfl, rfl, rfl, rfl, rfl, rfl, rfl, rfl, rfl, rfl, rfl, rfl, trivial⟩, (.all .here (.all .here (.all .here (.all .here (.one .here (.all .here (.one .here (.all .here (.all .here (.all .here .nil))))))))))⟩⟩
       ·rintro n486 t m ⟨l482, i484, v480, ms481, h, G483, hF⟩
        refine wc_fit hF ?_
        clear hF
        rcases n486 with _ | n486
        · exact none_i h
        have h : fareboxlaw20_GossipDigests_b4 k450 (fareboxlaw20_GossipDigests_l4 k450 n486) l482 i484 = some r := h
        unfold fareboxlaw20_GossipDigests_b4 at h
        obtain ⟨k485, qk485⟩ : ∃ k, k = fareboxlaw20_GossipDigests_l4 k450 n486 := ⟨_, rfl⟩
        try rw [← qk485] at h
        refine wc_seq <| wc_seq <| wc_ops <| wj_q _ (q_mv rfl) <| wj_q _ (q_bin rfl rfl rfl) <| wj_nil <| wc_br h rfl (fun h => ?_) (fun h => ?_)
        ·refine wc_skip <| wc_seq <| wc_block <| cH h fun c493 h => bH h fun l494 el494 h => wc_ops <| wj_q _ (q_mv rfl) <| wj_q _ (q_bd (q := [.one (.int .i64 (0)), .one (.int .i64 (0)), .one (.int .i64 (0)), .ints .u8 32 ((List.replicate 32 0)), .ints .u8 64 ((List.replicate 64 0)), .one (.int .i64 ((-34))), .ints .u8 32 ((List.replicate 32 0)), .one (.bool (false)), .ints .u8 64 ((List.replicate 64 0)), .one (.bool (false)), .ints .u8 64 ((List.replicate 64 0))]) (.one (z' := [.one (.int .i64 (0)), .one (.int .i64 (0)), .one (.int .i64 (0)), .ints .u8 32 ((List.replicate 32 0)), .ints .u8 64 ((List.replicate 64 0)), .one (.int .i64 ((-34))), .ints .u8 32 ((List.replicate 32 0)), .one (.bool (false)), .ints .u8 64 ((List.replicate 64 0)), .one (.bool (false)), .ints .u8 64 ((List.replicate 64 0))]) rfl rfl (by kernel_rfl) BdR.nil)) <| wj_e (ef_bsO (E := E_api_Entry) (xs := [(⟨(⟨0, 0, 0, (List.replicate 32 0), (List.replicate 64 0)⟩ : api_Cert), (-34), (List.replicate 32 0), false, (List.replicate 64 0), false, (List.replicate 64 0)⟩ : api_Entry)]) (BdR.whole (p := [.one (.int .i64 (0)), .one (.int .i64 (0)), .one (.int .i64 (0)), .ints .u8 32 ((List.replicate 32 0)), .ints .u8 64 ((List.replicate 64 0)), .one (.int .i64 ((-34))), .ints .u8 32 ((List.replicate 32 0)), .one (.bool (false)), .ints .u8 64 ((List.replicate 64 0)), .one (.bool (false)), .ints .u8 64 ((List.replicate 64 0))]) rfl (by kernel_rfl) (by kernel_rfl)) (.cons (p := [.one (.int .i64 (0)), .one (.int .i64 (0)), .one (.int .i64 (0)), .ints .u8 32 ((List.replicate 32 0)), .ints .u8 64 ((List.replicate 64 0)), .one (.int .i64 ((-34))), .ints .u8 32 ((List.replicate 32 0)), .one (.bool (false)), .ints .u8 64 ((List.replicate 64 0)), .one (.bool (false)), .ints .u8 64 ((List.replicate 64 0))]) rfl .nil) rfl fun v490 ms491 O492 => wj_e (ef_appGI (E := E_api_Entry) el494 rfl G483 (.app (.app (.app (.app (.app (.there (.app (.there (.app (.app .here)))))))))) rfl (rd_own O492 .here) c493 fun v495 ms496 O497 => wj_q _ (q_mv rfl) <| wj_nil <| bH h fun z499 ez499 h => wc_ops <| wj_q _ (q_mv rfl) <| wj_q _ (iz ez499 (q_bin rfl rfl rfl)) <| wj_q _ (q_mv rfl) <| wj_nil ?_))
         rw [qk485] at h
         exact ⟨n486, Nat.lt_succ_self _, l494, z499, v495, ms496, h, O497, ⟨⟨rfl, rfl, rfl, rfl, rfl, rfl, rfl, rfl, rfl, rfl, rfl, rfl, trivial⟩, (.all (.app (.app .here)) (.all (.app (.app .here)) (.all (.app (.app .here)) (.all (.app (.app .here)) (.one (.app (.app .here)) (.all (.app (.app .here)) (.one (.app (.app .here)) (.all (.app (.app .here)) (.all (.app (.app .here)) (.all .here .nil))))))))))⟩⟩
        ·exact wc_exit _ rfl <| ⟨l482, v480, ms481, h, G483, ⟨⟨rfl, rfl, rfl, rfl, rfl, rfl, rfl, rfl, rfl, rfl, rfl, trivial⟩, (.all .here (.all .here (.all .here (.all .here (.one .here (.all .here (.one .here (.all .here (.all .here (.all .here .nil))))))))))⟩⟩
      ·rintro t m ⟨l448, v446, ms447, h, G449, hF⟩
       refine wc_fit hF ?_
       clear hF
       subst qk450
       refine wc_seq <| oH h fun y501 ey501 h => wc_ops <| wj_q _ (q_ld (p := [.one (.int .i64 (y11.1.gFloor.gFloor)), .ints .u8 64 (y11.1.gFloor.gSig), .one (.int .i64 (y11.1.gAccepted)), .one ((cutSl 262 v14 0 (y11.2).toNat))]) rfl (.app (.app (.app (.app .here)))) rfl) <| wj_q _ (q_mv rfl) <| wj_e (ef_callS0 rfl (fun w hw => gossip_Lacks_spec (p0 := (⟨y11.1.gFloor, y11.1.gAccepted, (y11.1.gRows.take (y11.2).toNat)⟩ : api_GateState)) ey501 ((rd_pre (rd_own O16 (.app (.app (.app (.app (.there .here)))))) H17) w hw) ((rd_pre (rd_own O34 (.app (.app (.app .here)))) c36) w hw)) fun v502 Msv502 R503 => ?_)
       obtain ⟨_, ms505, rfl, rfl, O506⟩ := R503
       refine wj_q _ (q_mv rfl) <| wj_nil <| wc_seq <| wc_seq <| jH h fun k518 qk518 h => wc_mono2 (G := fun t m => ∃ (i517 : Bool), k518 i517 = some r ∧ Fit [(1, v1), (5, .pointer (some ⟨b9, 0, none⟩)), (6, .pointer (some ⟨b18, 0, none⟩)), (7, (cutSl 4 v32 0 ((p1.length : Int)).toNat)), (8, v156), (9, v349), (10, v53), (11, v60), (12, v67), (144, .bool (i517))] (ms70 ++ (ms63 ++ (ms56 ++ (ms33 ++ (ck b18 30 [.one (.int .i64 (y11.1.gFloor.gFloor)), .ints .u8 64 (y11.1.gFloor.gSig), .one (.int .i64 (y11.1.gAccepted)), .one ((cutSl 262 v14 0 (y11.2).toNat))] :: (ms15 ++ (ck b9 30 [.one (.int .i64 (y3.gFloor.gFloor)), .ints .u8 64 (y3.gFloor.gSig), .one (.int .i64 (y3.gAccepted)), .one (v6)] :: (ms7 ++ (ms254 ++ (ms447 ++ [])))))))))) t m) ?_ ?_
       ·refine wc_ops <| bH h fun z520 ez520 h => cH h fun c521 h => wj_q _ (q_mv rfl) <| wj_q _ (q_lenP rfl (GrownIn.shp G449)) <| wj_q _ (q_mv rfl) <| wj_q _ (q_lenP rfl (OwnIn.shp (GrownIn.base G449))) <| wj_q _ (iz ez520 (q_bin rfl rfl rfl)) <| wj_q _ (q_bin rfl rfl rfl) <| wj_q _ (q_mv rfl) <| wj_or rfl rfl rfl (fun hg1 => qj_g rfl _ (q_mv rfl) (qj_g rfl _ (q_lenP rfl (GrownIn.shp G256)) (qj_g rfl _ (q_mv rfl) (qj_g rfl _ (q_lenP rfl (OwnIn.shp (GrownIn.base G256))) (qj_g rfl _ (iz rfl (q_bin rfl rfl rfl)) (qj_g rfl _ (q_bin rfl rfl rfl) (qj_nil))))))) (fun hg1 => rfl) rfl <| wj_q _ (q_mv rfl) <| wj_or rfl rfl rfl (fun hg1 => qj_g rfl _ (q_ld (p := [.one (.int .i64 (y11.1.gFloor.gFloor)), .ints .u8 64 (y11.1.gFloor.gSig), .one (.int .i64 (y11.1.gAccepted)), .one ((cutSl 262 v14 0 (y11.2).toNat))]) rfl (.app (.app (.app (.app (.app .here))))) rfl) (qj_g rfl _ (q_ld (p := [.one (.int .i64 (y3.gFloor.gFloor)), .ints .u8 64 (y3.gFloor.gSig), .one (.int .i64 (y3.gAccepted)), .one (v6)]) rfl (.app (.app (.app (.app (.app (.there (.app .here))))))) rfl) (qj_g rfl _ (q_call rfl (fun w hw => fareboxlaw20_left_spec (getD_some (z := false) (imp_f c521 hg1)) ((rd_own O16 (.app (.app (.app (.app (.app (.there .here))))))) w hw) H17 ((rd_own O8 (.app (.app (.app (.app (.app (.there (.app (.there .here))))))))) w hw))) (qj_g rfl _ (q_un rfl rfl) (qj_nil))))) (fun hg1 => rfl) rfl <| wj_q _ (q_mv rfl) <| wj_br (tc := 137) h rfl (fun h => ?_) (fun h => ?_)
        ·exact wj_gx rfl rfl <| wj_gx rfl rfl <| wj_gx rfl rfl <| wj_gx rfl rfl <| wj_gx rfl rfl <| wj_gx rfl rfl <| wj_q _ (pick_t rfl rfl) <| wj_nil <| ⟨true, h, ⟨⟨rfl, rfl, rfl, rfl, rfl, rfl, rfl, rfl, rfl, rfl, trivial⟩, (.all (.app .here) (.all (.app .here) (.all (.app .here) (.all (.app .here) (.one (.app .here) (.all (.app .here) (.one (.app .here) (.all (.app .here) (.all (.app .here) (.all (.app .here) .nil))))))))))⟩⟩
        ·refine oH h fun y522 ey522 h => oH h fun y528 ey528 h => wj_gq rfl _ (q_mv rfl) <| wj_gq rfl _ (q_ld (p := [.one (.int .i64 (y3.gFloor.gFloor)), .ints .u8 64 (y3.gFloor.gSig), .one (.int .i64 (y3.gAccepted)), .one (v6)]) rfl (.app (.app (.app (.app (.app (.there (.app .here))))))) rfl) <| wj_gq rfl _ (q_mv rfl) <| wj_ge rfl (ef_callS0 rfl (fun w hw => fareboxref20_Lacks_spec  ey522 ((rd_own O8 (.app (.app (.app (.app (.app (.there (.app (.there .here))))))))) w hw) ((rd_arg A1 apart0) w hw)) fun v523 Msv523 R524 => ?_)
         obtain ⟨_, ms526, rfl, rfl, O527⟩ := R524
         exact wj_gq rfl _ (q_call rfl (fun w hw => fareboxlaw20_sameEntries_spec ey528 ((rd_own O506 (.app .here)) w hw) ((rd_own O527 .here) w hw))) <| wj_gq rfl _ (q_un rfl rfl) <| wj_q _ (pick_f rfl rfl) <| wj_nil <| ⟨(!y528), h, ⟨⟨rfl, rfl, rfl, rfl, rfl, rfl, rfl, rfl, rfl, rfl, trivial⟩, (.all (.app (.app .here)) (.all (.app (.app .here)) (.all (.app (.app .here)) (.all (.app (.app .here)) (.one (.app (.app .here)) (.all (.app (.app .here)) (.one (.app (.app .here)) (.all (.app (.app .here)) (.all (.app (.app .here)) (.all (.app (.app .here)) .nil))))))))))⟩⟩
       ·rintro t m ⟨i517, h, hF⟩
        refine wc_fit hF ?_
        clear hF
        subst qk518
        refine wc_br h rfl (fun h => ?_) (fun h => ?_)
        ·refine wc_seq <| wc_ops <| wj_q _ (q_mv rfl) <| wj_nil <| wc_ret ?_
         revert h; refine ret_i fun h => ?_
         subst h
         exact ⟨_, (.cons (.tmp rfl) .nil), rfl⟩
        ·refine wc_skip <| wc_seq <| wc_seq <| jH h fun k575 qk575 h => wc_mono2 (G := fun t m => ∃ (i574 : Bool), k575 i574 = some r ∧ Fit [(1, v1), (5, .pointer (some ⟨b9, 0, none⟩)), (6, .pointer (some ⟨b18, 0, none⟩)), (7, (cutSl 4 v32 0 ((p1.length : Int)).toNat)), (182, .bool (i574))] (ms33 ++ (ck b18 30 [.one (.int .i64 (y11.1.gFloor.gFloor)), .ints .u8 64 (y11.1.gFloor.gSig), .one (.int .i64 (y11.1.gAccepted)), .one ((cutSl 262 v14 0 (y11.2).toNat))] :: (ms15 ++ (ck b9 30 [.one (.int .i64 (y3.gFloor.gFloor)), .ints .u8 64 (y3.gFloor.gSig), .one (.int .i64 (y3.gAccepted)), .one (v6)] :: (ms7 ++ []))))) t m) ?_ ?_
         ·refine wc_ops <| oH h fun y577 ey577 h => oH h fun y583 ey583 h => wj_q _ (q_mv rfl) <| wj_q _ (q_ld (p := [.one (.int .i64 (y3.gFloor.gFloor)), .ints .u8 64 (y3.gFloor.gSig), .one (.int .i64 (y3.gAccepted)), .one (v6)]) rfl (.app (.app (.app (.app (.there (.app .here)))))) rfl) <| wj_e (ef_callS0 rfl (fun w hw => fareboxref20_Digest_spec  ey577 ((rd_own O8 (.app (.app (.app (.app (.there (.app (.there .here)))))))) w hw)) fun v578 Msv578 R579 => ?_)
          obtain ⟨_, ms581, rfl, rfl, O582⟩ := R579
          refine wj_q _ (q_call rfl (fun w hw => fareboxlaw20_sameSummaries_spec ey583 ((rd_own O57 (.app (.app (.app .here)))) w hw) ((rd_own O582 .here) w hw))) <| wj_q _ (q_un rfl rfl) <| wj_q _ (q_mv rfl) <| wj_br (tc := 150) h rfl (fun h => ?_) (fun h => ?_)
          ·exact wj_gx rfl rfl <| wj_gx rfl rfl <| wj_gx rfl rfl <| wj_gx rfl rfl <| wj_gx rfl rfl <| wj_gx rfl rfl <| wj_q _ (pick_t rfl rfl) <| wj_q _ (q_mv rfl) <| wj_gx rfl rfl <| wj_gx rfl rfl <| wj_gx rfl rfl <| wj_gx rfl rfl <| wj_gx rfl rfl <| wj_q _ (pick_t rfl rfl) <| wj_q _ (q_mv rfl) <| wj_gx rfl rfl <| wj_gx rfl rfl <| wj_gx rfl rfl <| wj_gx rfl rfl <| wj_q _ (pick_t rfl rfl) <| wj_q _ (q_mv rfl) <| wj_gx rfl rfl <| wj_gx rfl rfl <| wj_gx rfl rfl <| wj_gx rfl rfl <| wj_q _ (pick_t rfl rfl) <| wj_q _ (q_mv rfl) <| wj_gx rfl rfl <| wj_gx rfl rfl <| wj_gx rfl rfl <| wj_gx rfl rfl <| wj_q _ (pick_t rfl rfl) <| wj_nil <| ⟨true, h, ⟨⟨rfl, rfl, rfl, rfl, rfl, trivial⟩, (.all (.app (.app (.app (.app .here)))) (.one (.app (.app (.app (.app .here)))) (.all (.app (.app (.app (.app .here)))) (.one (.app (.app (.app (.app .here)))) (.all (.app (.app (.app (.app .here)))) .nil)))))⟩⟩
          ·refine oH h fun y584 ey584 h => oH h fun y590 ey590 h => wj_gq rfl _ (q_mv rfl) <| wj_gq rfl _ (q_ld (p := [.one (.int .i64 (y3.gFloor.gFloor)), .ints .u8 64 (y3.gFloor.gSig), .one (.int .i64 (y3.gAccepted)), .one (v6)]) rfl (.app (.app (.app (.app (.app (.there (.app .here))))))) rfl) <| wj_gq rfl _ (q_mv rfl) <| wj_ge rfl (ef_callS0 rfl (fun w hw => fareboxref20_Lacks_spec  ey584 ((rd_own O8 (.app (.app (.app (.app (.app (.there (.app (.there .here))))))))) w hw) ((rd_arg A1 apart0) w hw)) fun v585 Msv585 R586 => ?_)
           obtain ⟨_, ms588, rfl, rfl, O589⟩ := R586
           refine wj_gq rfl _ (q_call rfl (fun w hw => fareboxlaw20_sameEntries_spec ey590 ((rd_own O64 (.app (.app (.app .here)))) w hw) ((rd_own O589 .here) w hw))) <| wj_gq rfl _ (q_un rfl rfl) <| wj_q _ (pick_f rfl rfl) <| wj_q _ (q_mv rfl) <| wj_br (tc := 158) h rfl (fun h => ?_) (fun h => ?_)
           ·exact wj_gx rfl rfl <| wj_gx rfl rfl <| wj_gx rfl rfl <| wj_gx rfl rfl <| wj_gx rfl rfl <| wj_q _ (pick_t rfl rfl) <| wj_q _ (q_mv rfl) <| wj_gx rfl rfl <| wj_gx rfl rfl <| wj_gx rfl rfl <| wj_gx rfl rfl <| wj_q _ (pick_t rfl rfl) <| wj_q _ (q_mv rfl) <| wj_gx rfl rfl <| wj_gx rfl rfl <| wj_gx rfl rfl <| wj_gx rfl rfl <| wj_q _ (pick_t rfl rfl) <| wj_q _ (q_mv rfl) <| wj_gx rfl rfl <| wj_gx rfl rfl <| wj_gx rfl rfl <| wj_gx rfl rfl <| wj_q _ (pick_t rfl rfl) <| wj_nil <| ⟨true, h, ⟨⟨rfl, rfl, rfl, rfl, rfl, trivial⟩, (.all (.app (.app (.app (.app (.app .here))))) (.one (.app (.app (.app (.app (.app .here))))) (.all (.app (.app (.app (.app (.app .here))))) (.one (.app (.app (.app (.app (.app .here))))) (.all (.app (.app (.app (.app (.app .here))))) .nil)))))⟩⟩
           ·refine oH h fun y591 ey591 h => oH h fun y597 ey597 h => wj_gq rfl _ (q_mv rfl) <| wj_gq rfl _ (q_ld (p := [.one (.int .i64 (y3.gFloor.gFloor)), .ints .u8 64 (y3.gFloor.gSig), .one (.int .i64 (y3.gAccepted)), .one (v6)]) rfl (.app (.app (.app (.app (.app (.app (.there (.app .here)))))))) rfl) <| wj_ge rfl (ef_callS0 rfl (fun w hw => fareboxref20_Lacks_spec  ey591 ((rd_own O8 (.app (.app (.app (.app (.app (.app (.there (.app (.there .here)))))))))) w hw) (rd_own0 w hw)) fun v592 Msv592 R593 => ?_)
            obtain ⟨_, ms595, rfl, rfl, O596⟩ := R593
            refine wj_gq rfl _ (q_call rfl (fun w hw => fareboxlaw20_sameEntries_spec ey597 ((rd_own O71 (.app (.app (.app .here)))) w hw) ((rd_own O596 .here) w hw))) <| wj_gq rfl _ (q_un rfl rfl) <| wj_q _ (pick_f rfl rfl) <| wj_q _ (q_mv rfl) <| wj_br (tc := 165) h rfl (fun h => ?_) (fun h => ?_)
            ·exact wj_gx rfl rfl <| wj_gx rfl rfl <| wj_gx rfl rfl <| wj_gx rfl rfl <| wj_q _ (pick_t rfl rfl) <| wj_q _ (q_mv rfl) <| wj_gx rfl rfl <| wj_gx rfl rfl <| wj_gx rfl rfl <| wj_gx rfl rfl <| wj_q _ (pick_t rfl rfl) <| wj_q _ (q_mv rfl) <| wj_gx rfl rfl <| wj_gx rfl rfl <| wj_gx rfl rfl <| wj_gx rfl rfl <| wj_q _ (pick_t rfl rfl) <| wj_nil <| ⟨true, h, ⟨⟨rfl, rfl, rfl, rfl, rfl, trivial⟩, (.all (.app (.app (.app (.app (.app (.app .here)))))) (.one (.app (.app (.app (.app (.app (.app .here)))))) (.all (.app (.app (.app (.app (.app (.app .here)))))) (.one (.app (.app (.app (.app (.app (.app .here)))))) (.all (.app (.app (.app (.app (.app (.app .here)))))) .nil)))))⟩⟩
            ·refine oH h fun y598 ey598 h => wj_gq rfl _ (q_mv rfl) <| wj_gq rfl _ (q_mv rfl) <| wj_ge rfl (ef_callS (mS := ms254 ++ ms56) rfl (perm3 (.app (.app (.app (.app (.app (.app (.app (.there (.app (.there (.app .here))))))))))) (.app (.app (.app (.app (.app .here)))))) (fun w hw => fareboxlaw20_summaryRooms_spec  ey598 (sat_own3 hw (perm3 (.app (.app (.app (.app (.app (.app (.app (.there (.app (.there (.app .here))))))))))) (.app (.app (.app (.app (.app .here))))))) (GrownIn.base G256) (OwnSl.oin O57)) fun v599 Msv599 R600 => ?_)
             obtain ⟨ms601, ms603, rfl, rfl, O602, O604⟩ := R600
             refine wj_gq rfl _ (q_un rfl rfl) <| wj_q _ (pick_f rfl rfl) <| wj_q _ (q_mv rfl) <| wj_br (tc := 171) h rfl (fun h => ?_) (fun h => ?_)
             ·exact wj_gx rfl rfl <| wj_gx rfl rfl <| wj_gx rfl rfl <| wj_gx rfl rfl <| wj_q _ (pick_t rfl rfl) <| wj_q _ (q_mv rfl) <| wj_gx rfl rfl <| wj_gx rfl rfl <| wj_gx rfl rfl <| wj_gx rfl rfl <| wj_q _ (pick_t rfl rfl) <| wj_nil <| ⟨true, h, ⟨⟨rfl, rfl, rfl, rfl, rfl, trivial⟩, (.all (.app (.app (.app (.app (.app (.app (.app .here))))))) (.one (.app (.app (.app (.app (.app (.app (.app .here))))))) (.all (.app (.app (.app (.app (.app (.app (.app .here))))))) (.one (.app (.app (.app (.app (.app (.app (.app .here))))))) (.all (.app (.app (.app (.app (.app (.app (.app .here))))))) .nil)))))⟩⟩
             ·refine oH h fun y605 ey605 h => wj_gq rfl _ (q_mv rfl) <| wj_gq rfl _ (q_mv rfl) <| wj_ge rfl (ef_callS (mS := ms447 ++ ms63) rfl (perm3 (.app (.app (.app (.app (.app (.app (.app (.app (.there (.app (.there (.app .here)))))))))))) (.app (.app (.app (.app (.app (.app .here))))))) (fun w hw => fareboxlaw20_rooms_spec  ey605 (sat_own3 hw (perm3 (.app (.app (.app (.app (.app (.app (.app (.app (.there (.app (.there (.app .here)))))))))))) (.app (.app (.app (.app (.app (.app .here)))))))) (GrownIn.base G449) (OwnSl.oin O64)) fun v606 Msv606 R607 => ?_)
              obtain ⟨ms608, ms610, rfl, rfl, O609, O611⟩ := R607
              refine wj_gq rfl _ (q_un rfl rfl) <| wj_q _ (pick_f rfl rfl) <| wj_q _ (q_mv rfl) <| wj_br (tc := 177) h rfl (fun h => ?_) (fun h => ?_)
              ·exact wj_gx rfl rfl <| wj_gx rfl rfl <| wj_gx rfl rfl <| wj_gx rfl rfl <| wj_q _ (pick_t rfl rfl) <| wj_nil <| ⟨true, h, ⟨⟨rfl, rfl, rfl, rfl, rfl, trivial⟩, (.all (.app (.app (.app (.app (.app (.app (.app (.app .here)))))))) (.one (.app (.app (.app (.app (.app (.app (.app (.app .here)))))))) (.all (.app (.app (.app (.app (.app (.app (.app (.app .here)))))))) (.one (.app (.app (.app (.app (.app (.app (.app (.app .here)))))))) (.all (.app (.app (.app (.app (.app (.app (.app (.app .here)))))))) .nil)))))⟩⟩
              ·refine oH h fun y612 ey612 h => wj_gq rfl _ (q_mv rfl) <| wj_gq rfl _ (q_mv rfl) <| wj_ge rfl (ef_callS (mS := ms610 ++ ms70) rfl (perm3 (.app .here) (.app (.app (.app (.app (.app (.app .here))))))) (fun w hw => fareboxlaw20_rooms_spec  ey612 (sat_own3 hw (perm3 (.app .here) (.app (.app (.app (.app (.app (.app .here)))))))) O611 (OwnSl.oin O71)) fun v613 Msv613 R614 => ?_)
               obtain ⟨ms615, ms617, rfl, rfl, O616, O618⟩ := R614
               exact wj_gq rfl _ (q_un rfl rfl) <| wj_q _ (pick_f rfl rfl) <| wj_nil <| ⟨(!y612), h, ⟨⟨rfl, rfl, rfl, rfl, rfl, trivial⟩, (.all (.app (.app (.app (.app (.app (.app (.app (.app .here)))))))) (.one (.app (.app (.app (.app (.app (.app (.app (.app .here)))))))) (.all (.app (.app (.app (.app (.app (.app (.app (.app .here)))))))) (.one (.app (.app (.app (.app (.app (.app (.app (.app .here)))))))) (.all (.app (.app (.app (.app (.app (.app (.app (.app .here)))))))) .nil)))))⟩⟩
         ·rintro t m ⟨i574, h, hF⟩
          refine wc_fit hF ?_
          clear hF
          subst qk575
          refine wc_br h rfl (fun h => ?_) (fun h => ?_)
          ·refine wc_seq <| wc_ops <| wj_q _ (q_mv rfl) <| wj_nil <| wc_ret ?_
           revert h; refine ret_i fun h => ?_
           subst h
           exact ⟨_, (.cons (.tmp rfl) .nil), rfl⟩
          ·refine wc_skip <| wc_seq <| wc_ops <| wj_q _ (q_mv rfl) <| wj_nil <| wc_seq <| wc_seq <| wc_ops <| wj_q _ (q_mv rfl) <| wj_nil <| jH h fun k752 qk752 h => wc_mono2 (G := fun t m => ∃ (l745 : List (api_Summary)) (l750 : List (api_Summary)) (ms744 : List Chunk) (v748 : Value) (ms749 : List Chunk), k752 l745 l750 = some r ∧ OwnSl E_api_Summary v32 ms744 l745 ∧ cutB 0 (p1.length : Int) l745.length = true ∧ OwnSl E_api_Summary v748 ms749 l750 ∧ Fit [(1, v1), (5, .pointer (some ⟨b9, 0, none⟩)), (6, .pointer (some ⟨b18, 0, none⟩)), (7, (cutSl 4 v32 0 ((p1.length : Int)).toNat)), (20, v748)] (ck b18 30 [.one (.int .i64 (y11.1.gFloor.gFloor)), .ints .u8 64 (y11.1.gFloor.gSig), .one (.int .i64 (y11.1.gAccepted)), .one ((cutSl 262 v14 0 (y11.2).toNat))] :: (ms15 ++ (ck b9 30 [.one (.int .i64 (y3.gFloor.gFloor)), .ints .u8 64 (y3.gFloor.gSig), .one (.int .i64 (y3.gAccepted)), .one (v6)] :: (ms7 ++ (ms749 ++ (ms744 ++ [])))))) t m) ?_ ?_
           ·refine wc_block <| wc_loopJ (fun n839 t m => ∃ (l830 : List (api_Summary)) (l835 : List (api_Summary)) (i837 : Int) (ms829 : List Chunk) (v833 : Value) (ms834 : List Chunk), fareboxlaw20_GossipDigests_l5 p1 k752 n839 l830 l835 i837 = some r ∧ OwnSl E_api_Summary v32 ms829 l830 ∧ cutB 0 (p1.length : Int) l830.length = true ∧ OwnSl E_api_Summary v833 ms834 l835 ∧ Fit [(1, v1), (5, .pointer (some ⟨b9, 0, none⟩)), (6, .pointer (some ⟨b18, 0, none⟩)), (7, (cutSl 4 v32 0 ((p1.length : Int)).toNat)), (20, v833), (21, .int .i64 (i837))] (ck b18 30 [.one (.int .i64 (y11.1.gFloor.gFloor)), .ints .u8 64 (y11.1.gFloor.gSig), .one (.int .i64 (y11.1.gAccepted)), .one ((cutSl 262 v14 0 (y11.2).toNat))] :: (ms15 ++ (ck b9 30 [.one (.int .i64 (y3.gFloor.gFloor)), .ints .u8 64 (y3.gFloor.gSig), .one (.int .i64 (y3.gAccepted)), .one (v6)] :: (ms7 ++ (ms829 ++ (ms834 ++ [])))))) t m) big ?_ ?_
            ·exact ⟨l31, [], 0, ms33, (.slice none 0 0), [], h, O34, c36, own_nil, ⟨⟨rfl, rfl, rfl, rfl, rfl, rfl, trivial⟩, (.one (.app .here) (.all (.app .here) (.one (.app .here) (.all (.app .here) (.all .here (.no .nil))))))⟩⟩
            ·rintro n839 t m ⟨l830, l835, i837, ms829, v833, ms834, h, O831, H832, O836, hF⟩
             refine wc_fit hF ?_
             clear hF
             rcases n839 with _ | n839
             · exact none_i h
             have h : fareboxlaw20_GossipDigests_b5 p1 k752 (fareboxlaw20_GossipDigests_l5 p1 k752 n839) l830 l835 i837 = some r := h
             unfold fareboxlaw20_GossipDigests_b5 at h
             obtain ⟨k838, qk838⟩ : ∃ k, k = fareboxlaw20_GossipDigests_l5 p1 k752 n839 := ⟨_, rfl⟩
             try rw [← qk838] at h
             refine wc_seq <| wc_seq <| wc_ops <| wj_q _ (q_mv rfl) <| wj_q _ (q_mv rfl) <| wj_q _ (q_lenU rfl (Shp.own O831) H832) <| wj_q _ (q_bin rfl rfl rfl) <| wj_nil <| wc_br h rfl (fun h => ?_) (fun h => ?_)
             ·refine wc_skip <| wc_seq <| wc_block <| wc_seq <| cH h fun c843 h => bH h fun x844 ex844 h => bH h fun z845 ez845 h => bH h fun z846 ez846 h => cH h fun c847 h => bH h fun x848 ex848 h => cH h fun c849 h => bH h fun x850 ex850 h => cH h fun c851 h => bH h fun x852 ex852 h => cH h fun c853 h => bH h fun x854 ex854 h => bH h fun l855 el855 h => cH h fun c858 h => cH h fun c859 h => cH h fun c860 h => wc_draw <| ws_p1 _ (q_mv rfl) <| ws_p1 _ (q_mv rfl) <| ws_p1 _ (q_mv rfl) <| ws_p1 _ (q_mv rfl) <| ws_p1 _ (q_iasP rfl rfl (Shp.rd A1) c843) <| ws_p1 _ (q_fa rfl) <| ws_p1 _ (q_mv rfl) <| ws_p1 _ (q_mv rfl) <| ws_p1 _ (q_lenP rfl (Shp.rd A1)) <| ws_p1 _ (iz ez845 (q_bin rfl rfl rfl)) <| ws_p1 _ (q_mv rfl) <| ws_p1 _ (iz ez846 (q_bin rfl rfl rfl)) <| ws_p1 _ (q_iasP rfl rfl (Shp.rd A1) c847) <| ws_p1 _ (q_fa rfl) <| ws_p1 _ (q_mv rfl) <| ws_p1 _ (q_mv rfl) <| ws_p1 _ (q_iasP rfl rfl (Shp.rd A1) c849) <| ws_p1 _ (q_fa rfl) <| ws_p1 _ (q_mv rfl) <| ws_p1 _ (q_mv rfl) <| ws_p1 _ (q_iasP rfl rfl (Shp.rd A1) c851) <| ws_p1 _ (q_fa rfl) <| ws_q1 _ (az (fun (x844 : api_Summary) => .int .i64 (x844.gSerial)) ex844 (q_ldM1 (E := E_api_Summary) (s := [.one (.int .i64 (((p1.getD (i837).toNat api_Summary_z)).gSerial)), .one (.int .i64 (((p1.getD (i837).toNat api_Summary_z)).gIndex)), .one (.bool (((p1.getD (i837).toNat api_Summary_z)).gFrozen)), .one (.bool (((p1.getD (i837).toNat api_Summary_z)).gRevoked))]) (c := 0) rfl (rd_arg A1 apart0) (inB_n c843) rfl rfl)) <| ws_q1 _ (az (fun (x848 : api_Summary) => .int .i64 (x848.gIndex)) ex848 (q_ldM1 (E := E_api_Summary) (s := [.one (.int .i64 (((p1.getD (z846).toNat api_Summary_z)).gSerial)), .one (.int .i64 (((p1.getD (z846).toNat api_Summary_z)).gIndex)), .one (.bool (((p1.getD (z846).toNat api_Summary_z)).gFrozen)), .one (.bool (((p1.getD (z846).toNat api_Summary_z)).gRevoked))]) (c := 1) rfl (rd_arg A1 apart0) (inB_n c847) rfl rfl)) <| ws_q1 _ (az (fun (x850 : api_Summary) => .bool (x850.gFrozen)) ex850 (q_ldM1 (E := E_api_Summary) (s := [.one (.int .i64 (((p1.getD (i837).toNat api_Summary_z)).gSerial)), .one (.int .i64 (((p1.getD (i837).toNat api_Summary_z)).gIndex)), .one (.bool (((p1.getD (i837).toNat api_Summary_z)).gFrozen)), .one (.bool (((p1.getD (i837).toNat api_Summary_z)).gRevoked))]) (c := 2) rfl (rd_arg A1 apart0) (inB_n c849) rfl rfl)) <| ws_p1 _ (q_un rfl rfl) <| ws_q1 _ (az (fun (x852 : api_Summary) => .bool (x852.gRevoked)) ex852 (q_ldM1 (E := E_api_Summary) (s := [.one (.int .i64 (((p1.getD (i837).toNat api_Summary_z)).gSerial)), .one (.int .i64 (((p1.getD (i837).toNat api_Summary_z)).gIndex)), .one (.bool (((p1.getD (i837).toNat api_Summary_z)).gFrozen)), .one (.bool (((p1.getD (i837).toNat api_Summary_z)).gRevoked))]) (c := 3) rfl (rd_arg A1 apart0) (inB_n c851) rfl rfl)) <| ws_p1 _ (q_bd (q := [.one (.int .i64 (x844.gSerial)), .one (.int .i64 (x848.gIndex)), .one (.bool ((!x850.gFrozen))), .one (.bool (x852.gRevoked))]) (.one rfl rfl rfl (.one rfl rfl rfl (.one rfl rfl rfl (.one rfl rfl rfl BdR.nil))))) <| ws_p1 _ (q_iasU rfl rfl (Shp.own O831) H832 c853) <| ws_eL rfl (ef_stO (E := E_api_Summary) el855 O831 (.there (.app (.there (.app .here)))) rfl rfl rfl (inB_n (inB_up H832 c853)) fun ms856 O857 => ws_nil <| cH h fun c862 h => bH h fun x863 ex863 h => cH h fun c867 h => bH h fun l868 el868 h => wc_ops <| wj_q _ (q_mv rfl) <| wj_q _ (q_mv rfl) <| wj_q _ (q_mv rfl) <| wj_q _ (q_iasU rfl rfl (Shp.own O857) c858 c862) <| wj_q _ (az (fun (x863 : api_Summary) => agg [.one (.int .i64 (x863.gSerial)), .one (.int .i64 (x863.gIndex)), .one (.bool (x863.gFrozen)), .one (.bool (x863.gRevoked))]) ex863 (q_ldM0 (E := E_api_Summary) (s := [.one (.int .i64 (((l855.getD (i837).toNat api_Summary_z)).gSerial)), .one (.int .i64 (((l855.getD (i837).toNat api_Summary_z)).gIndex)), .one (.bool (((l855.getD (i837).toNat api_Summary_z)).gFrozen)), .one (.bool (((l855.getD (i837).toNat api_Summary_z)).gRevoked))]) rfl (rd_own O857 .here) (inB_n (inB_up c858 c862)) rfl rfl)) <| wj_e (ef_bsO (E := E_api_Summary) (xs := [x863]) (.agg rfl rfl rfl BdR.nil) (.cons (p := [.one (.int .i64 (x863.gSerial)), .one (.int .i64 (x863.gIndex)), .one (.bool (x863.gFrozen)), .one (.bool (x863.gRevoked))]) rfl .nil) rfl fun v864 ms865 O866 => wj_e (ef_appO (E := E_api_Summary) el868 rfl O836 (.app (.app (.there (.app (.there (.app .here)))))) rfl (rd_own O866 .here) c867 fun v869 ms870 O871 => wj_q _ (q_mv rfl) <| wj_nil <| bH h fun z873 ez873 h => wc_ops <| wj_q _ (q_mv rfl) <| wj_q _ (iz ez873 (q_bin rfl rfl rfl)) <| wj_q _ (q_mv rfl) <| wj_nil ?_)))
              rw [qk838] at h
              exact ⟨n839, Nat.lt_succ_self _, l855, l868, z873, ms856, v869, ms870, h, O857, c858, O871, ⟨⟨rfl, rfl, rfl, rfl, rfl, rfl, trivial⟩, (.one (.app (.app (.app .here))) (.all (.app (.app (.app .here))) (.one (.app (.app (.app .here))) (.all (.app (.app (.app .here))) (.all (.app (.app .here)) (.all .here .nil))))))⟩⟩
             ·exact wc_exit _ rfl <| ⟨l830, l835, ms829, v833, ms834, h, O831, H832, O836, ⟨⟨rfl, rfl, rfl, rfl, rfl, trivial⟩, (.one .here (.all .here (.one .here (.all .here (.all (.app .here) (.all .here .nil))))))⟩⟩
           ·rintro t m ⟨l745, l750, ms744, v748, ms749, h, O746, H747, O751, hF⟩
            refine wc_fit hF ?_
            clear hF
            subst qk752
            refine wc_seq <| wc_seq <| oH h fun y875 ey875 h => oH h fun y881 ey881 h => oH h fun y887 ey887 h => cH h fun c888 h => cH h fun c889 h => wc_draw <| ws_p1 _ (q_mv rfl) <| ws_p1 _ (q_mv rfl) <| ws_q1 _ (q_ld (p := [.one (.int .i64 (y11.1.gFloor.gFloor)), .ints .u8 64 (y11.1.gFloor.gSig), .one (.int .i64 (y11.1.gAccepted)), .one ((cutSl 262 v14 0 (y11.2).toNat))]) rfl .here rfl) <| ws_q1 _ (q_ld (p := [.one (.int .i64 (y3.gFloor.gFloor)), .ints .u8 64 (y3.gFloor.gSig), .one (.int .i64 (y3.gAccepted)), .one (v6)]) rfl (.there (.app .here)) rfl) <| ws_e1 (ef_callS0 rfl (fun w hw => gossip_Lacks_spec (p0 := (⟨y11.1.gFloor, y11.1.gAccepted, (y11.1.gRows.take (y11.2).toNat)⟩ : api_GateState)) ey875 ((rd_pre (rd_own O16 (.there .here)) H17) w hw) ((rd_pre (rd_own O746 (.there (.app (.there (.app (.app .here)))))) H747) w hw)) fun v876 Msv876 R877 => ?_)
            obtain ⟨_, ms879, rfl, rfl, O880⟩ := R877
            refine ⟨(by repeat (first | exact Sup.refl _ | apply Sup.cons | apply Sup.app)), ws_e1 (ef_callS0 rfl (fun w hw => fareboxref20_Lacks_spec  ey881 ((rd_own O8 (.app (.there (.app (.there .here))))) w hw) ((rd_own O751 (.app (.there (.app (.there (.app .here)))))) w hw)) fun v882 Msv882 R883 => ?_)⟩
            obtain ⟨_, ms885, rfl, rfl, O886⟩ := R883
            refine ⟨(by repeat (first | exact Sup.refl _ | apply Sup.cons | apply Sup.app)), ws_eq _ (q_call rfl (fun w hw => fareboxlaw20_sameEntries_spec ey887 ((rd_own O880 (.app .here)) w hw) ((rd_own O886 .here) w hw))) (ws_p1 _ (q_un rfl rfl) (ws_p1 _ (q_mv rfl) (ws_or rfl rfl rfl (fun hg1 => qj_g rfl _ (q_mv rfl) (qj_g rfl _ (q_mv rfl) (qj_g rfl _ (q_call rfl (fun w hw => fareboxlaw20_sameSummaries_spec (getD_some (z := false) (imp_f c888 hg1)) ((rd_pre (rd_own O746 (.there (.app (.there (.app (.app .here)))))) H747) w hw) ((rd_own O751 (.there (.app (.there (.app .here))))) w hw))) (qj_g rfl _ (q_un rfl rfl) (qj_nil))))) (fun hg1 => rfl) rfl (ws_p1 _ (q_mv rfl) (ws_or rfl rfl rfl (fun hg1 => qj_g rfl _ (q_mv rfl) (qj_g rfl _ (q_mv rfl) (qj_g rfl _ (q_lenP rfl (Shp.rd A1)) (qj_g rfl _ (iz rfl (q_bin rfl rfl rfl)) (qj_g rfl _ (q_slsU (lz := 0) (hz := IntKind.wrap .i64 ((p1.length : Int) + 1)) rfl (Shp.own O746) H747 .no (.yes rfl) (and_l (imp_f c889 hg1))) (qj_g rfl _ (q_mv rfl) (qj_g rfl _ (q_lenP rfl (Shp.rd A1)) (qj_g rfl _ (q_iasU rfl rfl (Shp.own O746) (and_l (imp_f c889 hg1)) (and_r (imp_f c889 hg1))) (qj_g rfl _ (q_fa rfl) (qj_g rfl _ (az (fun (zz : api_Summary) => .int .i64 (zz.gSerial)) rfl (q_ldM1 (E := E_api_Summary) (s := [.one (.int .i64 (((l745.getD ((p1.length : Int)).toNat api_Summary_z)).gSerial)), .one (.int .i64 (((l745.getD ((p1.length : Int)).toNat api_Summary_z)).gIndex)), .one (.bool (((l745.getD ((p1.length : Int)).toNat api_Summary_z)).gFrozen)), .one (.bool (((l745.getD ((p1.length : Int)).toNat api_Summary_z)).gRevoked))]) (c := 0) rfl (rd_own O746 (.there (.app (.there (.app (.app .here)))))) (inB_n (inB_up (and_l (imp_f c889 hg1)) (and_r (imp_f c889 hg1)))) rfl rfl)) (qj_g rfl _ (q_bin rfl rfl rfl) (qj_nil)))))))))))) (fun hg1 => rfl) rfl (ws_nil (wc_br h rfl (fun h => ?_) (fun h => ?_)))))))) (by repeat (first | exact Sup.refl _ | apply Sup.cons | apply Sup.app))⟩
            ·refine wc_seq <| wc_ops <| wj_q _ (q_mv rfl) <| wj_nil <| wc_ret ?_
             revert h; refine ret_i fun h => ?_
             subst h
             exact ⟨_, (.cons (.tmp rfl) .nil), rfl⟩
            ·refine wc_skip <| wc_seq <| oH h fun y893 ey893 h => cH h fun c901 h => cH h fun c902 h => cH h fun c903 h => cH h fun c904 h => wc_ops <| wj_q _ (q_ld (p := [.one (.int .i64 (y11.1.gFloor.gFloor)), .ints .u8 64 (y11.1.gFloor.gSig), .one (.int .i64 (y11.1.gAccepted)), .one ((cutSl 262 v14 0 (y11.2).toNat))]) rfl (.app (.app .here)) rfl) <| wj_e (ef_callS (mS := ms15) rfl (Take.perm (.app (.app (.there .here)))) (fun w hw => fareboxlaw20_turned_spec  ey893 (sat_own1 hw (Take.perm (.app (.app (.there .here))))) O16 H17) fun v894 Msv894 R895 => ?_)
             obtain ⟨v896, ms897, ms899, rfl, rfl, O898, O900⟩ := R895
             refine wj_q _ (q_mv rfl) <| wj_q _ (q_ext rfl rfl) <| wj_q _ (q_ext rfl rfl) <| wj_e (ef_al fun b905 hb905 => wj_e (ef_al fun b906 hb906 => wj_e (ef_stg (q := [.one (.int .i64 (y11.1.gFloor.gFloor)), .ints .u8 64 (y11.1.gFloor.gSig), .one (.int .i64 (y11.1.gAccepted)), .one ((cutSl 262 v14 0 (y11.2).toNat))]) rfl rfl rfl rfl (ones_cons (ones_one rfl) (ones_cons ones_ints (ones_cons (ones_one rfl) (ones_cons (ones_one (IsSl.one1 cut_isSl)) ones_nil)))) (.there .here) <| wj_e (ef_stg (q := [.one (.int .i64 (y893.1.gFloor.gFloor)), .ints .u8 64 (y893.1.gFloor.gSig), .one (.int .i64 (y893.1.gAccepted)), .one (v896)]) rfl rfl rfl rfl (ones_cons (ones_one rfl) (ones_cons ones_ints (ones_cons (ones_one rfl) (ones_cons (ones_one (IsSl.one1 (OwnSl.isSl O898))) ones_nil)))) .here <| wj_nil <| wc_seq <| jH h fun k937 qk937 h => wc_mono2 (G := fun t m => ∃ (i936 : Bool), k937 i936 = some r ∧ Fit [(4, .bool (i936))] (ck b906 30 [.one (.int .i64 (y893.1.gFloor.gFloor)), .ints .u8 64 (y893.1.gFloor.gSig), .one (.int .i64 (y893.1.gAccepted)), .one (v896)] :: (ck b905 30 [.one (.int .i64 (y11.1.gFloor.gFloor)), .ints .u8 64 (y11.1.gFloor.gSig), .one (.int .i64 (y11.1.gAccepted)), .one ((cutSl 262 v14 0 (y11.2).toNat))] :: (ms897 ++ (ms899 ++ (ck b18 30 [.one (.int .i64 (y11.1.gFloor.gFloor)), .ints .u8 64 (y11.1.gFloor.gSig), .one (.int .i64 (y11.1.gAccepted)), .one ((cutSl 262 v14 0 (y11.2).toNat))] :: (ck b9 30 [.one (.int .i64 (y3.gFloor.gFloor)), .ints .u8 64 (y3.gFloor.gSig), .one (.int .i64 (y3.gAccepted)), .one (v6)] :: (ms7 ++ []))))))) t m) ?_ ?_))))
             ·refine wc_draw <| oH h fun y939 ey939 h => oH h fun y945 ey945 h => oH h fun y951 ey951 h => ws_q1 _ (q_ld (p := [.one (.int .i64 (y11.1.gFloor.gFloor)), .ints .u8 64 (y11.1.gFloor.gSig), .one (.int .i64 (y11.1.gAccepted)), .one ((cutSl 262 v14 0 (y11.2).toNat))]) rfl (.there .here) rfl) <| ws_q1 _ (q_ld (p := [.one (.int .i64 (y893.1.gFloor.gFloor)), .ints .u8 64 (y893.1.gFloor.gSig), .one (.int .i64 (y893.1.gAccepted)), .one (v896)]) rfl .here rfl) <| ws_e1 (ef_callS0 rfl (fun w hw => gossip_Digest_spec (p0 := (⟨y11.1.gFloor, y11.1.gAccepted, (y893.2.take (y11.2).toNat)⟩ : api_GateState)) ey939 ((rd_pre (rd_own O900 (.there (.there (.app .here)))) c901) w hw)) fun v940 Msv940 R941 => ?_)
              obtain ⟨_, ms943, rfl, rfl, O944⟩ := R941
              refine ⟨(by repeat (first | exact Sup.refl _ | apply Sup.cons | apply Sup.app)), ws_e1 (ef_callS0 rfl (fun w hw => fareboxref20_Digest_spec  ey945 ((rd_own O898 (.app (.there (.there .here)))) w hw)) fun v946 Msv946 R947 => ?_)⟩
              obtain ⟨_, ms949, rfl, rfl, O950⟩ := R947
              refine ⟨(by repeat (first | exact Sup.refl _ | apply Sup.cons | apply Sup.app)), ws_eq _ (q_call rfl (fun w hw => fareboxlaw20_sameSummaries_spec ey951 ((rd_own O944 (.app .here)) w hw) ((rd_own O950 .here) w hw))) (ws_p1 _ (q_mv rfl) (ws_br (tc := 262) h rfl (fun h => ?_) (fun h => ?_))) (by repeat (first | exact Sup.refl _ | apply Sup.cons | apply Sup.app))⟩
              ·refine oH h fun y952 ey952 h => oH h fun y958 ey958 h => oH h fun y964 ey964 h => cH h fun c965 h => ws_gp rfl _ (q_mv rfl) <| ws_gp rfl _ (q_mv rfl) <| ws_gq rfl _ (q_ld (p := [.one (.int .i64 (y11.1.gFloor.gFloor)), .ints .u8 64 (y11.1.gFloor.gSig), .one (.int .i64 (y11.1.gAccepted)), .one ((cutSl 262 v14 0 (y11.2).toNat))]) rfl (.there .here) rfl) <| ws_gq rfl _ (q_ld (p := [.one (.int .i64 (y893.1.gFloor.gFloor)), .ints .u8 64 (y893.1.gFloor.gSig), .one (.int .i64 (y893.1.gAccepted)), .one (v896)]) rfl .here rfl) <| ws_ge1 rfl (ef_callS0 rfl (fun w hw => gossip_Lacks_spec (p0 := (⟨y11.1.gFloor, y11.1.gAccepted, (y893.2.take (y11.2).toNat)⟩ : api_GateState)) ey952 ((rd_pre (rd_own O900 (.app (.app (.there (.there (.app .here)))))) c901) w hw) ((rd_pre (rd_own O746 (.app (.app (.there (.there (.app (.app (.app (.app (.there (.there (.app (.app .here))))))))))))) H747) w hw)) fun v953 Msv953 R954 => ?_)
               obtain ⟨_, ms956, rfl, rfl, O957⟩ := R954
               refine ⟨(by repeat (first | exact Sup.refl _ | apply Sup.cons | apply Sup.app)), ws_ge1 rfl (ef_callS0 rfl (fun w hw => fareboxref20_Lacks_spec  ey958 ((rd_own O898 (.app (.app (.app (.there (.there .here)))))) w hw) ((rd_own O751 (.app (.app (.app (.there (.there (.app (.app (.app (.app (.there (.there (.app .here))))))))))))) w hw)) fun v959 Msv959 R960 => ?_)⟩
               obtain ⟨_, ms962, rfl, rfl, O963⟩ := R960
               exact ⟨(by repeat (first | exact Sup.refl _ | apply Sup.cons | apply Sup.app)), ws_geq rfl _ (q_call rfl (fun w hw => fareboxlaw20_sameEntries_spec ey964 ((rd_own O957 (.app .here)) w hw) ((rd_own O963 .here) w hw))) (ws_p1 _ (pick_t rfl rfl) (ws_p1 _ (q_mv rfl) (ws_and rfl rfl rfl (fun hg1 => qj_g rfl _ (q_ld (p := [.one (.int .i64 (y11.1.gFloor.gFloor)), .ints .u8 64 (y11.1.gFloor.gSig), .one (.int .i64 (y11.1.gAccepted)), .one ((cutSl 262 v14 0 (y11.2).toNat))]) rfl (.there .here) rfl) (qj_g rfl _ (q_ld (p := [.one (.int .i64 (y893.1.gFloor.gFloor)), .ints .u8 64 (y893.1.gFloor.gSig), .one (.int .i64 (y893.1.gAccepted)), .one (v896)]) rfl .here rfl) (qj_g rfl _ (q_call rfl (fun w hw => fareboxlaw20_left_spec (p0 := (⟨y11.1.gFloor, y11.1.gAccepted, y893.2⟩ : api_GateState)) (getD_some (z := false) (imp_t c965 hg1)) ((rd_own O900 (.there (.there (.app .here)))) w hw) c901 ((rd_own O898 (.there (.there .here))) w hw))) (qj_nil)))) (fun hg1 => rfl) rfl (ws_p1 _ (q_mv rfl) (ws_nil (⟨(y964 && ((fareboxlaw20_left (⟨y11.1.gFloor, y11.1.gAccepted, y893.2⟩ : api_GateState) y11.2 y893.1).getD false)), h, ⟨⟨rfl, trivial⟩, (.one (.app (.app (.app (.app .here)))) (.one (.app (.app (.app (.app .here)))) (.all (.app (.app (.app (.app .here)))) (.all (.app (.app (.app (.app .here)))) (.one (.app (.app (.app (.app (.app (.app .here)))))) (.one (.app (.app (.app (.app (.app (.app .here)))))) (.all (.app (.app (.app (.app (.app (.app .here)))))) .nil)))))))⟩⟩)))))) (by repeat (first | exact Sup.refl _ | apply Sup.cons | apply Sup.app))⟩
              ·exact cH h fun c966 h => ws_gxp rfl rfl <| ws_gxp rfl rfl <| ws_gxq rfl rfl <| ws_gxq rfl rfl <| ws_gx rfl rfl <| ws_gx rfl rfl <| ws_gx rfl rfl <| ws_p1 _ (pick_f rfl rfl) <| ws_p1 _ (q_mv rfl) <| ws_and rfl rfl rfl (fun hg1 => qj_g rfl _ (q_ld (p := [.one (.int .i64 (y11.1.gFloor.gFloor)), .ints .u8 64 (y11.1.gFloor.gSig), .one (.int .i64 (y11.1.gAccepted)), .one ((cutSl 262 v14 0 (y11.2).toNat))]) rfl (.there .here) rfl) (qj_g rfl _ (q_ld (p := [.one (.int .i64 (y893.1.gFloor.gFloor)), .ints .u8 64 (y893.1.gFloor.gSig), .one (.int .i64 (y893.1.gAccepted)), .one (v896)]) rfl .here rfl) (qj_g rfl _ (q_call rfl (fun w hw => fareboxlaw20_left_spec (p0 := (⟨y11.1.gFloor, y11.1.gAccepted, y893.2⟩ : api_GateState)) (getD_some (z := false) (imp_t c966 hg1)) ((rd_own O900 (.there (.there (.app .here)))) w hw) c901 ((rd_own O898 (.there (.there .here))) w hw))) (qj_nil)))) (fun hg1 => rfl) rfl <| ws_p1 _ (q_mv rfl) <| ws_nil <| ⟨false, h, ⟨⟨rfl, trivial⟩, (.one (.app (.app .here)) (.one (.app (.app .here)) (.all (.app (.app .here)) (.all (.app (.app .here)) (.one (.app (.app (.app (.app .here)))) (.one (.app (.app (.app (.app .here)))) (.all (.app (.app (.app (.app .here)))) .nil)))))))⟩⟩
             ·rintro t m ⟨i936, h, hF⟩
              refine wc_fit hF ?_
              clear hF
              subst qk937
              refine wc_ret ?_
              revert h; refine ret_i fun h => ?_
              subst h
              exact ⟨_, (.cons (.tmp rfl) .nil), rfl⟩
end Go.Proofs.Ytaebomfgmadilaa
/- Numbers: bits, digits, and what the words of a mirror come to. -/
namespace Go.Proofs.Ytaebomfgmadilaa
open Go Go.Sx Go.RowKit
set_option linter.all false

theorem wi64_small {x : Int} (h0 : -9223372036854775808 ≤ x) (h1 : x ≤ 9223372036854775807) : IntKind.i64.wrap x = x := by rw [IntKind.wrap_i64]; omega
/-! ## The mirror's words, evaluated -/
section
variable {α β : Type}
/- These two are not to be taken for equations by reduction: the kernel would unfold the loops behind them. -/
theorem bnd_eq (x : α) (f : α → Option β) : bnd x f = f x := by
  have h : ∀ y, y = bnd x f → y = f x := fun y e => e
  exact h _ rfl
theorem chk_t {c : Bool} {o : Option β} (h : c = true) : chk c o = o := by subst h; rfl
theorem opt_some {o : Option α} {f : α → Option β} {y : α} (h : o = some y) : opt o f = f y := by subst h; rfl
theorem br_tt {c : Bool} {a b : Option β} (h : c = true) : br c a b = a := by subst h; rfl
theorem br_ff {c : Bool} {a b : Option β} (h : c = false) : br c a b = b := by subst h; rfl
theorem jn_eq {K : Type} (k : K) (g : K → Option β) : jn k g = g k := by
  have h : ∀ y, y = jn k g → y = g k := fun y e => e
  exact h _ rfl
end
theorem inB_t {z : Int} {n : Nat} (h0 : 0 ≤ z) (h1 : z < n) : inB z n = true := by simp [inB, h0, h1]

end Go.Proofs.Ytaebomfgmadilaa
/- Maps of numbers: what is found in them behind a store and a strike. -/
namespace Go.Proofs.Ytaebomfgmadilaa
open Go Go.Sx Go.RowKit
set_option linter.all false
set_option maxRecDepth 100000
set_option maxHeartbeats 1000000

section
variable {α : Type}
def lk (k : Int) : List (Int × α × Nat) → Option α
  | [] => none
  | e :: r => bif k == e.1 then some e.2.1 else lk k r
theorem seek_lk (k : Int) : ∀ (l : List (Int × α × Nat)) (i : Nat), (Mp.seek k l i).map (·.2) = lk k l
  | [], i => rfl
  | e :: r, i => by
    rw [Mp.seek, lk]
    cases k == e.1
    · exact seek_lk k r (i + 1)
    · rfl
theorem get_lk (m : Mp α) (k : Int) : m.get k = lk k m.es := seek_lk k m.es 0
theorem lk_none {k : Int} : ∀ {l : List (Int × α × Nat)}, lk k l = none ↔ ∀ e ∈ l, e.1 ≠ k
  | [] => by simp [lk]
  | e :: r => by
    rw [lk]
    by_cases h : k = e.1
    · simp [h]
    · have h' : (k == e.1) = false := by simpa using h
      rw [h', cond_false, lk_none]
      simp [Ne.symm h]
theorem lk_some {k : Int} {v : α} : ∀ {l : List (Int × α × Nat)}, lk k l = some v → ∃ e ∈ l, e.1 = k ∧ e.2.1 = v
  | [], h => by cases h
  | e :: r, h => by
    rw [lk] at h
    by_cases hk : k = e.1
    · have h' : (k == e.1) = true := by simpa using hk
      rw [h', cond_true] at h
      exact ⟨e, List.mem_cons_self, hk.symm, Option.some.inj h⟩
    · have h' : (k == e.1) = false := by simpa using hk
      rw [h', cond_false] at h
      obtain ⟨e', h1, h2⟩ := lk_some h
      exact ⟨e', List.mem_cons_of_mem _ h1, h2⟩
theorem lk_app (k : Int) (l2 : List (Int × α × Nat)) : ∀ (l : List (Int × α × Nat)), lk k (l ++ l2) = (lk k l).or (lk k l2)
  | [] => by simp [lk]
  | e :: r => by
    rw [List.cons_append, lk, lk]
    cases k == e.1
    · exact lk_app k l2 r
    · rfl
theorem lk_mod {k : Int} {v v0 : α} : ∀ {l : List (Int × α × Nat)} {i n : Nat}, Mp.seek k l i = some (i + n, v0) → ∀ k', lk k' (l.modify n fun e => (k, v, e.2.2)) = if k' = k then some v else lk k' l
  | [], i, n, h, k' => by cases h
  | e :: r, i, n, h, k' => by
    rw [Mp.seek] at h
    by_cases hk : k = e.1
    · have h' : (k == e.1) = true := by simpa using hk
      rw [h', cond_true] at h
      have hn : n = 0 := by simp at h; omega
      subst hn
      rw [List.modify_zero_cons, lk, lk, ← hk]
      by_cases hk' : k' = k
      · simp [hk']
      · have : (k' == k) = false := by simpa using hk'
        simp [this, hk']
    · have h' : (k == e.1) = false := by simpa using hk
      rw [h', cond_false] at h
      cases n with
      | zero =>
        obtain ⟨m, _, hm, _⟩ := Mp.seek_some h
        omega
      | succ n =>
        have h2 : Mp.seek k r (i + 1) = some (i + 1 + n, v0) := by rw [h]; congr 2; omega
        rw [List.modify_succ_cons, lk, lk, lk_mod h2]
        by_cases hk' : k' = k
        · subst hk'; simp [h']
        · simp [hk']
theorem get_put (m : Mp α) (k : Int) (v : α) (k' : Int) : (m.put k v).get k' = if k' = k then some v else m.get k' := by
  rw [get_lk, get_lk]
  unfold Mp.put
  cases hs : Mp.seek k m.es 0 with
  | none =>
    simp only
    have h0 : lk k m.es = none := by rw [← seek_lk k m.es 0, hs]; rfl
    rw [lk_app, lk, lk]
    by_cases hk' : k' = k
    · subst hk'; rw [h0]; simp
    · have : (k' == k) = false := by simpa using hk'
      simp [this, hk']
  | some p =>
    obtain ⟨i, v0⟩ := p
    exact lk_mod (i := 0) (n := i) (by rw [hs, Nat.zero_add]) k'
theorem ok_put {m : Mp α} (h : m.Ok) (k : Int) (v : α) : (m.put k v).Ok := by
  unfold Mp.put
  cases hs : Mp.seek k m.es 0 with
  | none =>
    have h0 := Mp.seek_none.1 hs
    refine ⟨?_, ?_, ?_⟩
    · intro e he
      simp only [List.mem_append, List.mem_singleton] at he
      rcases he with he | rfl
      · exact Nat.lt_succ_of_lt (h.lt e he)
      · exact Nat.lt_succ_self _
    · simp only [List.map_append, List.map_cons, List.map_nil]
      rw [List.nodup_append]
      refine ⟨h.born, by simp, ?_⟩
      intro a ha b hb
      simp only [List.mem_singleton] at hb
      subst hb
      obtain ⟨e, he, rfl⟩ := List.mem_map.1 ha
      exact Nat.ne_of_lt (h.lt e he)
    · simp only [List.map_append, List.map_cons, List.map_nil]
      rw [List.nodup_append]
      refine ⟨h.keys, by simp, ?_⟩
      intro a ha b hb
      simp only [List.mem_singleton] at hb
      subst hb
      obtain ⟨e, he, rfl⟩ := List.mem_map.1 ha
      exact h0 e he
  | some p =>
    obtain ⟨i, v0⟩ := p
    obtain ⟨n, e0, hn, hx, hk0, _⟩ := Mp.seek_some hs
    have hn' : i = n := by omega
    subst hn'
    have hb : (m.es.modify i fun e => (k, v, e.2.2)).map (fun e => e.2.2) = m.es.map fun e => e.2.2 := by
      apply List.ext_getElem?
      intro j
      simp only [List.getElem?_map, List.getElem?_modify]
      cases m.es[j]? <;> simp
      split <;> rfl
    have hky : (m.es.modify i fun e => (k, v, e.2.2)).map (fun e => e.1) = m.es.map fun e => e.1 := by
      apply List.ext_getElem?
      intro j
      simp only [List.getElem?_map, List.getElem?_modify]
      by_cases hj : i = j
      · subst hj; rw [hx]; simp [hk0]
      · cases m.es[j]? <;> simp [hj]
    refine ⟨?_, by rw [hb]; exact h.born, by rw [hky]; exact h.keys⟩
    intro e he
    have h1 : e.2.2 ∈ (m.es.modify i fun e => (k, v, e.2.2)).map (fun e => e.2.2) := List.mem_map.2 ⟨e, he, rfl⟩
    rw [hb] at h1
    obtain ⟨e', he', h2⟩ := List.mem_map.1 h1
    rw [← h2]; exact h.lt e' he'
end
end Go.Proofs.Ytaebomfgmadilaa
/- Digest of both sides; what Lacks has gathered behind its first two loops. -/
namespace Go.Proofs.Ytaebomfgmadilaa
open Go Go.Sx Go.RowKit
set_option linter.all false
set_option maxRecDepth 100000
set_option maxHeartbeats 1000000

theorem walk {α : Type} (F : Nat → Nat → Option α) {j : Nat} {R : Option α} (hj : j < 18446744073709551616) (hs : ∀ i f, i < j → F (f + 1) i = F f (i + 1)) (he : ∀ f, F (f + 1) j = R) : F big 0 = R := by
  have key : ∀ d i f, i + d = j → F (f + 1 + d) i = R := by
    intro d
    induction d with
    | zero =>
      intro i f h
      obtain rfl : i = j := by omega
      exact he f
    | succ d ih => intro i f h; rw [show f + 1 + (d + 1) = (f + 1 + d) + 1 by omega, hs i _ (by omega)]; exact ih (i + 1) f (by omega)
  obtain ⟨f, hf⟩ : ∃ f, big = f + 1 + j := ⟨18446744073709551615 - j, by have : big = 18446744073709551616 := big_eq; omega⟩
  rw [hf]; exact key j 0 f (by omega)
theorem wsucc {i : Nat} (h : i < 9223372036854775807) : IntKind.wrap .i64 ((i : Int) + 1) = ((i + 1 : Nat) : Int) := by rw [wi64_small (by omega) (by omega)]; omega
theorem drop_get {α : Type} {z : α} {l : List α} {i : Nat} (h : i < l.length) : l.drop i = l.getD i z :: l.drop (i + 1) := by
  rw [List.drop_eq_getElem_cons h]
  congr 1
  simp [List.getD_eq_getElem?_getD, List.getElem?_eq_getElem h]
theorem take_get {α : Type} {z : α} {l : List α} {i : Nat} (h : i < l.length) : l.take (i + 1) = l.take i ++ [l.getD i z] := by
  rw [List.take_succ, List.getElem?_eq_getElem h]
  simp [List.getD_eq_getElem?_getD, List.getElem?_eq_getElem h]
theorem mid_get {α : Type} {z x : α} {t d : List α} {i : Nat} (h : i = t.length) : (t ++ x :: d).getD i z = x := by subst h; simp [List.getD_eq_getElem?_getD]
theorem rep_snoc {α : Type} (p : List α) (c : α) (i : Nat) : (p ++ List.replicate i c) ++ [c] = p ++ List.replicate (i + 1) c := by rw [List.append_assoc, ← List.replicate_succ']

/-! ## Digest -/
def smOf (e : api_Entry) : api_Summary := ⟨e.gCert.gSerial, e.gIndex, e.gFrozen, e.gRevoked⟩
theorem pdigest {s : api_GateState} (hb : s.gRows.length ≤ 2000000) : gossip_Digest s = some (s.gRows.map smOf) := by
  rw [gossip_Digest, jn_eq]
  have h := walk (fun f i => gossip_Digest_l1 s (fun l => some l) f ((s.gRows.take i).map smOf) (i : Int)) (j := s.gRows.length) (R := some (s.gRows.map smOf)) (by omega)
    (fun i f hi => by
      show gossip_Digest_b1 s _ (gossip_Digest_l1 s _ f) _ _ = _
      have hl : ((s.gRows.take i).map smOf).length = i := by simp; omega
      rw [gossip_Digest_b1, br_tt (decide_eq_true (by omega)), chk_t (inB_t (by omega) (by omega)), bnd_eq, opt_some (y := smOf (s.gRows.getD i api_Entry_z)) (by rw [Int.toNat_natCast]; rfl), chk_t (by simp only [List.length_append, hl, List.length_singleton]; exact decide_eq_true (by omega)), bnd_eq, bnd_eq, wsucc (by omega), take_get (z := api_Entry_z) hi, List.map_append]
      rfl)
    (fun f => by
      show gossip_Digest_b1 s _ _ _ _ = _
      rw [gossip_Digest_b1, br_ff (decide_eq_false (by omega)), List.take_length])
  simpa using h
theorem rdigest {s : api_GateState} (hb : s.gRows.length ≤ 2000000) : fareboxref20_Digest s = some (s.gRows.map smOf) := by
  rw [fareboxref20_Digest, jn_eq]
  have h := walk (fun f i => fareboxref20_Digest_l1 s (fun l => some l) f ((s.gRows.take i).map smOf) (i : Int)) (j := s.gRows.length) (R := some (s.gRows.map smOf)) (by omega)
    (fun i f hi => by
      show fareboxref20_Digest_b1 s _ (fareboxref20_Digest_l1 s _ f) _ _ = _
      have hl : ((s.gRows.take i).map smOf).length = i := by simp; omega
      rw [fareboxref20_Digest_b1, br_tt (decide_eq_true (by omega)), chk_t (inB_t (by omega) (by omega)), bnd_eq, chk_t (by simp only [List.length_append, hl, List.length_singleton]; exact decide_eq_true (by omega)), bnd_eq, bnd_eq, wsucc (by omega), take_get (z := api_Entry_z) hi, List.map_append, Int.toNat_natCast]
      rfl)
    (fun f => by
      show fareboxref20_Digest_b1 s _ _ _ _ = _
      rw [fareboxref20_Digest_b1, br_ff (decide_eq_false (by omega)), List.take_length])
  simpa using h

/-! ## What somebody has -/
def tog (a b : api_Summary) : api_Summary := ⟨a.gSerial, max a.gIndex b.gIndex, a.gFrozen || b.gFrozen, a.gRevoked || b.gRevoked⟩
theorem tog_eq (a b : api_Summary) : gossip_together a b = some (tog a b) := rfl
def addT (m : Mp api_Summary) (h : api_Summary) : Mp api_Summary := m.put h.gSerial (match m.get h.gSerial with | some o => tog o h | none => h)
/-- An entry's element bears its key. -/
def Ser (m : Mp api_Summary) : Prop := ∀ k v, m.get k = some v → v.gSerial = k
theorem ser_z : Ser Mp.z := by intro k v h; cases h
theorem ser_put {m : Mp api_Summary} (h : Ser m) {k : Int} {v : api_Summary} (hv : v.gSerial = k) : Ser (m.put k v) := by
  intro k' v' h'
  rw [get_put] at h'
  by_cases hk : k' = k
  · rw [if_pos hk] at h'; cases h'; rw [hv, hk]
  · rw [if_neg hk] at h'; exact h _ _ h'
theorem ser_addT {m : Mp api_Summary} (h : Ser m) (x : api_Summary) : Ser (addT m x) := by
  unfold addT
  refine ser_put h ?_
  cases hg : m.get x.gSerial with
  | none => rfl
  | some o => exact (h _ _ hg : o.gSerial = x.gSerial)
theorem ser_fold : ∀ (l : List api_Summary) {m : Mp api_Summary}, Ser m → Ser (l.foldl addT m)
  | [], _, h => h
  | x :: r, _, h => ser_fold r (ser_addT h x)
theorem ok_fold : ∀ (l : List api_Summary) {m : Mp api_Summary}, m.Ok → (l.foldl addT m).Ok
  | [], _, h => h
  | x :: r, _, h => ok_fold r (ok_put h _ _)
/-- What the list tells of one serial. -/
def sf (k : Int) (o : Option api_Summary) (h : api_Summary) : Option api_Summary := if k = h.gSerial then some (match o with | some a => tog a h | none => h) else o
theorem addT_get (m : Mp api_Summary) (h : api_Summary) (k : Int) : (addT m h).get k = sf k (m.get k) h := by
  unfold addT sf
  rw [get_put]
  by_cases hk : k = h.gSerial
  · rw [if_pos hk, if_pos hk, hk]
  · rw [if_neg hk, if_neg hk]
theorem fold_get (k : Int) : ∀ (l : List api_Summary) (m : Mp api_Summary), (l.foldl addT m).get k = l.foldl (sf k) (m.get k)
  | [], _ => rfl
  | x :: r, m => by rw [List.foldl_cons, List.foldl_cons, fold_get k r, addT_get]
theorem theirs_run {has : List api_Summary} (hb : has.length ≤ 2000000) (k : Mp api_Summary → Option (List api_Entry)) : gossip_Lacks_l1 has k big 0 Mp.z = k (has.foldl addT Mp.z) := by
  have h := walk (fun f i => gossip_Lacks_l1 has k f (i : Int) ((has.take i).foldl addT Mp.z)) (j := has.length) (R := k (has.foldl addT Mp.z)) (by omega)
    (fun i f hi => by
      show gossip_Lacks_b1 has k (gossip_Lacks_l1 has k f) _ _ = _
      have hser := ser_fold (has.take i) ser_z
      have hstep : (has.take (i + 1)).foldl addT Mp.z = addT ((has.take i).foldl addT Mp.z) (has.getD i api_Summary_z) := by
        rw [take_get (z := api_Summary_z) hi, List.foldl_append]; rfl
      rw [gossip_Lacks_b1, br_tt (decide_eq_true (by omega)), chk_t (inB_t (by omega) (by omega)), bnd_eq, jn_eq, Int.toNat_natCast, hstep]
      generalize (has.take i).foldl addT Mp.z = m at hser ⊢
      generalize has.getD i api_Summary_z = x
      cases hg : m.get x.gSerial with
      | none =>
        rw [br_ff (by simp)]
        show bnd _ _ = _
        rw [bnd_eq, wsucc (by omega)]
        unfold addT
        rw [hg]
      | some o =>
        rw [br_tt (by simp), Option.getD_some, opt_some (tog_eq o x)]
        show bnd _ _ = _
        rw [bnd_eq, wsucc (by omega)]
        unfold addT
        rw [hg]
        have : o.gSerial = x.gSerial := hser _ _ hg
        show gossip_Lacks_l1 has k f _ (m.put o.gSerial (tog o x)) = _
        rw [this])
    (fun f => by
      show gossip_Lacks_b1 has k _ _ _ = _
      rw [gossip_Lacks_b1, br_ff (decide_eq_false (by omega)), List.take_length])
  simpa using h
/-! ## What is wanted -/
def putW (m : Mp api_Summary) (w : api_Summary) : Mp api_Summary := m.put w.gSerial w
theorem wanted_run {ws : List api_Summary} (hb : ws.length ≤ 2000000) (k : Mp api_Summary → Option (List api_Entry)) : gossip_Lacks_l2 ws k big 0 Mp.z = k (ws.foldl putW Mp.z) := by
  have h := walk (fun f i => gossip_Lacks_l2 ws k f (i : Int) ((ws.take i).foldl putW Mp.z)) (j := ws.length) (R := k (ws.foldl putW Mp.z)) (by omega)
    (fun i f hi => by
      show gossip_Lacks_b2 ws k (gossip_Lacks_l2 ws k f) _ _ = _
      rw [gossip_Lacks_b2, br_tt (decide_eq_true (by omega)), chk_t (inB_t (by omega) (by omega)), bnd_eq, bnd_eq, wsucc (by omega), take_get (z := api_Summary_z) hi, List.foldl_append, Int.toNat_natCast]
      rfl)
    (fun f => by
      show gossip_Lacks_b2 ws k _ _ _ = _
      rw [gossip_Lacks_b2, br_ff (decide_eq_false (by omega)), List.take_length])
  simpa using h
end Go.Proofs.Ytaebomfgmadilaa
/- Lacks of the program: the rows that the list of summaries lacks. -/
namespace Go.Proofs.Ytaebomfgmadilaa
open Go Go.Sx Go.RowKit
set_option linter.all false
set_option maxRecDepth 100000
set_option maxHeartbeats 1000000

section
variable {α : Type}
theorem era_filter {k : Int} {v0 : α} : ∀ {l : List (Int × α × Nat)} {i n : Nat}, (l.map fun e => e.1).Nodup → Mp.seek k l i = some (i + n, v0) → l.eraseIdx n = l.filter fun e => !(k == e.1)
  | [], i, n, hd, h => by cases h
  | e :: r, i, n, hd, h => by
    rw [Mp.seek] at h
    rw [List.map_cons, List.nodup_cons] at hd
    by_cases hk : k = e.1
    · have h' : (k == e.1) = true := by simpa using hk
      rw [h', cond_true] at h
      have hn : n = 0 := by simp at h; omega
      subst hn
      rw [List.eraseIdx_cons_zero, List.filter_cons, h']
      simp only [Bool.not_true, Bool.false_eq_true, if_false]
      rw [eq_comm, List.filter_eq_self]
      intro e' he'
      have : k ≠ e'.1 := fun hc => hd.1 (List.mem_map.2 ⟨e', he', by rw [← hc, hk]⟩)
      simpa using this
    · have h' : (k == e.1) = false := by simpa using hk
      rw [h', cond_false] at h
      cases n with
      | zero =>
        obtain ⟨m, _, hm, _⟩ := Mp.seek_some h
        omega
      | succ n =>
        have h2 : Mp.seek k r (i + 1) = some (i + 1 + n, v0) := by rw [h]; congr 2; omega
        rw [List.eraseIdx_cons_succ, List.filter_cons, h', era_filter hd.2 h2]
        rfl
theorem del_eq {m : Mp α} (hk : (m.es.map fun e => e.1).Nodup) (k : Int) : m.del k = ⟨m.es.filter fun e => !(k == e.1), m.clock⟩ := by
  unfold Mp.del
  cases hs : Mp.seek k m.es 0 with
  | none =>
    have h0 := Mp.seek_none.1 hs
    have : (m.es.filter fun e => !(k == e.1)) = m.es := by
      rw [List.filter_eq_self]
      intro e he
      have : k ≠ e.1 := fun hc => h0 e he hc.symm
      simpa using this
    rw [this]
  | some p =>
    obtain ⟨i, v0⟩ := p
    simp only
    rw [era_filter hk (i := 0) (n := i) (by rw [hs, Nat.zero_add])]
theorem lk_mem {k : Int} {e : Int × α × Nat} : ∀ {l : List (Int × α × Nat)}, (l.map fun e => e.1).Nodup → e ∈ l → e.1 = k → lk k l = some e.2.1
  | [], _, h, _ => by cases h
  | x :: r, hd, h, hk => by
    rw [List.map_cons, List.nodup_cons] at hd
    rw [lk]
    rcases List.mem_cons.1 h with rfl | h
    · have : (k == e.1) = true := by simpa using hk.symm
      rw [this]; rfl
    · have : (k == x.1) = false := by
        have : k ≠ x.1 := fun hc => hd.1 (List.mem_map.2 ⟨e, h, by rw [hk, hc]⟩)
        simpa using this
      rw [this]; exact lk_mem hd.2 h hk
theorem lk_filter (Q : Int → α → Bool) (k : Int) : ∀ {l : List (Int × α × Nat)}, (l.map fun e => e.1).Nodup → lk k (l.filter fun e => Q e.1 e.2.1) = (lk k l).filter (Q k)
  | [], _ => rfl
  | x :: r, hd => by
    rw [List.map_cons, List.nodup_cons] at hd
    rw [List.filter_cons, lk]
    by_cases hk : k = x.1
    · have h' : (k == x.1) = true := by simpa using hk
      rw [h', cond_true]
      cases hq : Q x.1 x.2.1
      · simp only [Bool.false_eq_true, if_false]
        rw [lk_filter Q k hd.2]
        have : lk k r = none := lk_none.2 fun e he hc => hd.1 (List.mem_map.2 ⟨e, he, by rw [hc, hk]⟩)
        rw [this, hk]
        simp [Option.filter, hq]
      · simp only [if_true]
        rw [lk, h', cond_true, hk]
        simp [Option.filter, hq]
    · have h' : (k == x.1) = false := by simpa using hk
      rw [h', cond_false]
      cases hq : Q x.1 x.2.1
      · simp only [Bool.false_eq_true, if_false]
        exact lk_filter Q k hd.2
      · simp only [if_true]
        rw [lk, h', cond_false]
        exact lk_filter Q k hd.2
end

/-! ## The rounds over what somebody has -/
def enB (h w : api_Summary) : Bool := (tog h w).gSerial == h.gSerial && ((tog h w).gIndex == h.gIndex && ((tog h w).gFrozen == h.gFrozen && (tog h w).gRevoked == h.gRevoked))
theorem en_eq (h w : api_Summary) : gossip_enough h w = some (enB h w) := rfl
def hit (en e : Int × api_Summary × Nat) : Bool := en.1 == e.1 && enB en.2.1 e.2.1
theorem g3_eq {w : Mp api_Summary} (hk : (w.es.map fun e => e.1).Nodup) (en : Int × api_Summary × Nat) : gossip_Lacks_g3 w en = some ⟨w.es.filter fun e => !(hit en e), w.clock⟩ := by
  rw [gossip_Lacks_g3, en_eq, chk_t (by simp [imp]), Option.getD_some]
  have hid : (∀ e ∈ w.es, hit en e = false) → (⟨w.es.filter fun e => !(hit en e), w.clock⟩ : Mp api_Summary) = w := by
    intro h
    have : (w.es.filter fun e => !(hit en e)) = w.es := by
      rw [List.filter_eq_self]
      intro e he; rw [h e he]; rfl
    rw [this]
  cases hg : w.get en.1 with
  | none =>
    rw [br_ff (by simp)]
    rw [hid]
    intro e he
    rw [get_lk] at hg
    have := lk_none.1 hg e he
    have h2 : (en.1 == e.1) = false := by simpa using fun hc => this hc.symm
    unfold hit; rw [h2]; rfl
  | some v =>
    have hv : ∀ e ∈ w.es, en.1 = e.1 → e.2.1 = v := by
      intro e he hc
      rw [get_lk, lk_mem hk he hc.symm] at hg
      exact Option.some.inj hg
    rw [Option.getD_some]
    cases hq : enB en.2.1 v
    · rw [br_ff (by simp)]
      rw [hid]
      intro e he
      unfold hit
      by_cases hc : en.1 = e.1
      · rw [hv e he hc, hq]; simp
      · have : (en.1 == e.1) = false := by simpa using hc
        rw [this]; rfl
    · rw [br_tt (by simp), del_eq hk]
      congr 2
      apply List.filter_congr
      intro e he
      unfold hit
      by_cases hc : en.1 = e.1
      · rw [hv e he hc, hq]; simp
      · have : (en.1 == e.1) = false := by simpa using hc
        rw [this]; rfl
theorem fold_g3 : ∀ (l : List (Int × api_Summary × Nat)) {w : Mp api_Summary}, (w.es.map fun e => e.1).Nodup → l.foldlM (fun w e => gossip_Lacks_g3 w e) w = some ⟨w.es.filter fun e => l.all fun en => !(hit en e), w.clock⟩
  | [], w, _ => by
    have h : (w.es.filter fun _ => true) = w.es := List.filter_eq_self.2 fun _ _ => rfl
    show some w = some ⟨w.es.filter fun _ => true, w.clock⟩
    rw [h]
  | en :: r, w, hk => by
    rw [List.foldlM_cons, g3_eq hk]
    simp only [Option.bind_eq_bind, Option.bind_some]
    rw [fold_g3 r (hk.sublist ((List.filter_sublist).map _))]
    simp only [List.filter_filter, List.all_cons]
    congr 3
    funext e
    rw [Bool.and_comm]
theorem rng_eq {t w : Mp api_Summary} (ht : t.Ok) (hk : (w.es.map fun e => e.1).Nodup) : rngM t (fun w e => gossip_Lacks_g3 w e) w = some ⟨w.es.filter fun e => t.es.all fun en => !(hit en e), w.clock⟩ := by
  refine rngM_of ht fun l hl => ?_
  rw [fold_g3 l hk]
  congr 3
  funext e
  rw [Bool.eq_iff_iff, List.all_eq_true, List.all_eq_true]
  exact ⟨fun h x hx => h x (hl.mem_iff.2 hx), fun h x hx => h x (hl.mem_iff.1 hx)⟩

/-! ## Lacks -/
/-- What a list tells of one serial. -/
def told (has : List api_Summary) (k : Int) : Option api_Summary := has.foldl (sf k) none
/-- Is the row lacking to somebody of whom this is told? -/
def lackB (o : Option api_Summary) (e : api_Entry) : Bool := match o with
  | none => true
  | some h => !(enB h (smOf e))
theorem putW_ok : ∀ (l : List api_Summary) {m : Mp api_Summary}, m.Ok → (l.foldl putW m).Ok
  | [], _, h => h
  | x :: r, _, h => putW_ok r (ok_put h _ _)
theorem putW_get : ∀ (l : List api_Summary) (m : Mp api_Summary) (k : Int), (∀ w ∈ l, w.gSerial ≠ k) → (l.foldl putW m).get k = m.get k
  | [], _, _, _ => rfl
  | x :: r, m, k, h => by
    rw [List.foldl_cons, putW_get r _ k fun w hw => h w (List.mem_cons_of_mem _ hw)]
    unfold putW
    rw [get_put, if_neg fun hc => h x List.mem_cons_self hc.symm]
theorem putW_mem : ∀ (l : List api_Summary) (m : Mp api_Summary), (l.map fun w => w.gSerial).Nodup → ∀ w ∈ l, (l.foldl putW m).get w.gSerial = some w
  | [], _, _, w, h => by cases h
  | x :: r, m, hd, w, h => by
    rw [List.map_cons, List.nodup_cons] at hd
    rw [List.foldl_cons]
    rcases List.mem_cons.1 h with rfl | h
    · rw [putW_get r _ _ fun w' hw' hc => hd.1 (List.mem_map.2 ⟨w', hw', hc⟩)]
      unfold putW
      rw [get_put, if_pos rfl]
    · exact putW_mem r _ hd.2 w h
theorem fis {β : Type} {p : β → Bool} {v : β} : ((some v).filter p).isSome = p v := by cases h : p v <;> simp [Option.filter, h]
theorem left_get {t w : Mp api_Summary} (ht : t.Ok) (hk : (w.es.map fun e => e.1).Nodup) {e : api_Entry} (hw : w.get e.gCert.gSerial = some (smOf e)) :
    ((⟨w.es.filter fun e => t.es.all fun en => !(hit en e), w.clock⟩ : Mp api_Summary).get e.gCert.gSerial).isSome = lackB (t.get e.gCert.gSerial) e := by
  rw [get_lk, get_lk] at *
  have h1 := lk_filter (fun k v => t.es.all fun en => !(en.1 == k && enB en.2.1 v)) e.gCert.gSerial hk
  have h2 : (w.es.filter fun e => t.es.all fun en => !(hit en e)) = w.es.filter fun e => (fun k v => t.es.all fun en => !(en.1 == k && enB en.2.1 v)) e.1 e.2.1 := rfl
  rw [h2, h1, hw]
  cases hg : lk e.gCert.gSerial t.es with
  | none =>
    have : (t.es.all fun en => !(en.1 == e.gCert.gSerial && enB en.2.1 (smOf e))) = true := by
      rw [List.all_eq_true]
      intro en hen
      have := lk_none.1 hg en hen
      have h3 : (en.1 == e.gCert.gSerial) = false := by simpa using this
      rw [h3]; rfl
    rw [fis]; exact this
  | some h =>
    obtain ⟨e0, he0, hk0, hv0⟩ := lk_some hg
    have : (t.es.all fun en => !(en.1 == e.gCert.gSerial && enB en.2.1 (smOf e))) = !(enB h (smOf e)) := by
      rw [Bool.eq_iff_iff, List.all_eq_true]
      constructor
      · intro hall
        have := hall e0 he0
        have h3 : (e0.1 == e.gCert.gSerial) = true := by simpa using hk0
        rw [h3, hv0] at this
        simpa using this
      · intro hn en hen
        by_cases hc : en.1 = e.gCert.gSerial
        · have := lk_mem ht.keys hen hc
          rw [hg] at this
          have h4 : en.2.1 = h := (Option.some.inj this).symm
          rw [h4]
          have h5 : enB h (smOf e) = false := by simpa using hn
          rw [h5]; simp
        · have h3 : (en.1 == e.gCert.gSerial) = false := by simpa using hc
          rw [h3]; rfl
    rw [fis]; exact this
theorem out_run {s : api_GateState} {w : Mp api_Summary} {Q : api_Entry → Bool} (hb : s.gRows.length ≤ 2000000) (hQ : ∀ e ∈ s.gRows, (w.get e.gCert.gSerial).isSome = Q e) :
    gossip_Lacks_l4 s w (fun l => some l) big [] 0 = some (s.gRows.filter Q) := by
  have h := walk (fun f i => gossip_Lacks_l4 s w (fun l => some l) f ((s.gRows.take i).filter Q) (i : Int)) (j := s.gRows.length) (R := some (s.gRows.filter Q)) (by omega)
    (fun i f hi => by
      show gossip_Lacks_b4 s w _ (gossip_Lacks_l4 s w _ f) _ _ = _
      have hl : ((s.gRows.take i).filter Q).length ≤ i := Nat.le_trans (List.length_filter_le _ _) (by simp; omega)
      have hm : s.gRows.getD i api_Entry_z ∈ s.gRows := by
        rw [List.getD_eq_getElem?_getD, List.getElem?_eq_getElem hi]; exact List.getElem_mem hi
      have hq := hQ _ hm
      rw [gossip_Lacks_b4, br_tt (decide_eq_true (by omega)), jn_eq, chk_t (inB_t (by omega) (by omega)), bnd_eq, Int.toNat_natCast, hq, take_get (z := api_Entry_z) hi, List.filter_append]
      cases hc : Q (s.gRows.getD i api_Entry_z)
      · rw [br_ff rfl]
        show bnd _ _ = _
        rw [bnd_eq, wsucc (by omega), List.filter_cons, hc]
        simp
      · rw [br_tt rfl, chk_t (by simp only [List.length_append, List.length_singleton]; exact decide_eq_true (by omega)), bnd_eq]
        show bnd _ _ = _
        rw [bnd_eq, wsucc (by omega), List.filter_cons, hc]
        simp)
    (fun f => by
      show gossip_Lacks_b4 s w _ _ _ _ = _
      rw [gossip_Lacks_b4, br_ff (decide_eq_false (by omega)), List.take_length])
  simpa using h
theorem placks {s : api_GateState} {has : List api_Summary} (hb : s.gRows.length ≤ 2000000) (hh : has.length ≤ 2000000) (hd : (s.gRows.map fun e => e.gCert.gSerial).Nodup) :
    gossip_Lacks s has = some (s.gRows.filter fun e => lackB (told has e.gCert.gSerial) e) := by
  have hok := ok_fold has (m := Mp.z) Mp.ok_z
  have hw := putW_ok (s.gRows.map smOf) (m := Mp.z) Mp.ok_z
  have hd' : ((s.gRows.map smOf).map fun w => w.gSerial).Nodup := by rw [List.map_map]; exact hd
  rw [gossip_Lacks, jn_eq, theirs_run hh, opt_some (pdigest hb), jn_eq, wanted_run (by simpa using hb), jn_eq, opt_some (rng_eq hok hw.keys)]
  show jn _ _ = _
  rw [jn_eq]
  refine out_run hb fun e he => ?_
  rw [left_get hok hw.keys (putW_mem _ _ hd' (smOf e) (List.mem_map.2 ⟨e, he, rfl⟩)), fold_get]
  rfl
end Go.Proofs.Ytaebomfgmadilaa
/- Lacks of the document: the same rows. -/
namespace Go.Proofs.Ytaebomfgmadilaa
open Go Go.Sx Go.RowKit
set_option linter.all false
set_option maxRecDepth 100000
set_option maxHeartbeats 1000000

def oT (o : Option api_Summary) : Bool := o.isSome
def oI (o : Option api_Summary) : Int := match o with | none => 0 | some a => a.gIndex
def oF (o : Option api_Summary) : Bool := match o with | none => false | some a => a.gFrozen
def oR (o : Option api_Summary) : Bool := match o with | none => false | some a => a.gRevoked
theorem lack_eq (o : Option api_Summary) (e : api_Entry) : ((((!oT o) || (decide (oI o < e.gIndex))) || (e.gFrozen && (!oF o))) || (e.gRevoked && (!oR o))) = lackB o e := by
  cases o with
  | none => rfl
  | some h =>
    have h1 : ((max h.gIndex e.gIndex) == h.gIndex) = !(decide (h.gIndex < e.gIndex)) := by
      rw [Bool.eq_iff_iff]; simp; omega
    unfold lackB enB tog smOf oT oI oF oR
    simp only [Option.isSome_some, Bool.not_true, Bool.false_or, beq_self_eq_true, Bool.true_and, h1]
    cases decide (h.gIndex < e.gIndex) <;> cases e.gFrozen <;> cases h.gFrozen <;> cases e.gRevoked <;> cases h.gRevoked <;> rfl
theorem sf_i {k : Int} {o : Option api_Summary} {x : api_Summary} (hk : k = x.gSerial) : sf k o x = some (match o with | some a => tog a x | none => x) := by unfold sf; cases o <;> exact if_pos hk
theorem rlacking {e : api_Entry} {has : List api_Summary} (hb : has.length ≤ 2000000) : fareboxref20_lacking e has = some (lackB (told has e.gCert.gSerial) e) := by
  rw [fareboxref20_lacking, jn_eq, ← lack_eq]
  have h := walk (fun f i => fareboxref20_lacking_l1 e has (fun (i158 : Bool) (i159 : Int) (i160 : Bool) (i161 : Bool) => some ((((!i158) || (decide (i159 < e.gIndex))) || (e.gFrozen && (!i160))) || (e.gRevoked && (!i161)))) f
      (oT (told (has.take i) e.gCert.gSerial)) (oI (told (has.take i) e.gCert.gSerial)) (oF (told (has.take i) e.gCert.gSerial)) (oR (told (has.take i) e.gCert.gSerial)) (i : Int)) (j := has.length)
    (R := some ((((!oT (told has e.gCert.gSerial)) || (decide (oI (told has e.gCert.gSerial) < e.gIndex))) || (e.gFrozen && (!oF (told has e.gCert.gSerial)))) || (e.gRevoked && (!oR (told has e.gCert.gSerial))))) (by omega)
    (fun i f hi => by
      show fareboxref20_lacking_b1 e has _ (fareboxref20_lacking_l1 e has _ f) _ _ _ _ _ = _
      have hstep : told (has.take (i + 1)) e.gCert.gSerial = sf e.gCert.gSerial (told (has.take i) e.gCert.gSerial) (has.getD i api_Summary_z) := by
        unfold told
        rw [take_get (z := api_Summary_z) hi, List.foldl_append]; rfl
      rw [hstep, fareboxref20_lacking_b1, br_tt (decide_eq_true (by omega)), jn_eq, chk_t (inB_t (by omega) (by omega)), bnd_eq, Int.toNat_natCast]
      generalize told (has.take i) e.gCert.gSerial = o
      have hin : inB (i : Int) has.length = true := inB_t (by omega) (by omega)
      rw [hin]
      generalize has.getD i api_Summary_z = x
      by_cases hk : e.gCert.gSerial = x.gSerial
      · rw [br_tt (by simpa using hk.symm), chk_t (by simp [imp]), jn_eq, sf_i hk]
        cases o with
        | none =>
          rw [br_tt (by rfl), chk_t (by rfl), bnd_eq]
          show chk _ _ = _
          rw [chk_t (by rfl), chk_t (by rfl)]
          show bnd _ _ = _
          rw [bnd_eq, wsucc (by omega)]
          show _ = fareboxref20_lacking_l1 e has _ f true x.gIndex x.gFrozen x.gRevoked _
          simp [oF, oR]
        | some a =>
          by_cases hx : x.gIndex > a.gIndex
          · rw [br_tt (by simp [oI, hx]), chk_t (by rfl), bnd_eq]
            show chk _ _ = _
            rw [chk_t (by simp [imp]), chk_t (by simp [imp])]
            show bnd _ _ = _
            rw [bnd_eq, wsucc (by omega)]
            show _ = fareboxref20_lacking_l1 e has _ f true (max a.gIndex x.gIndex) (a.gFrozen || x.gFrozen) (a.gRevoked || x.gRevoked) _
            rw [show max a.gIndex x.gIndex = x.gIndex by omega]; rfl
          · rw [br_ff (by simp [oT, oI, hx])]
            show chk _ _ = _
            rw [chk_t (by simp [imp]), chk_t (by simp [imp])]
            show bnd _ _ = _
            rw [bnd_eq, wsucc (by omega)]
            show _ = fareboxref20_lacking_l1 e has _ f true (max a.gIndex x.gIndex) (a.gFrozen || x.gFrozen) (a.gRevoked || x.gRevoked) _
            rw [show max a.gIndex x.gIndex = a.gIndex by omega]; rfl
      · rw [br_ff (by simpa using fun hc => hk hc.symm)]
        show bnd _ _ = _
        rw [bnd_eq, wsucc (by omega)]
        unfold sf
        rw [if_neg hk])
    (fun f => by
      show fareboxref20_lacking_b1 e has _ _ _ _ _ _ _ = _
      rw [fareboxref20_lacking_b1, br_ff (decide_eq_false (by omega)), List.take_length])
  simpa [told, oT, oI, oF, oR] using h
theorem rlacks {s : api_GateState} {has : List api_Summary} (hb : s.gRows.length ≤ 2000000) (hh : has.length ≤ 2000000) :
    fareboxref20_Lacks s has = some (s.gRows.filter fun e => lackB (told has e.gCert.gSerial) e) := by
  rw [fareboxref20_Lacks, jn_eq]
  generalize hQ : (fun e : api_Entry => lackB (told has e.gCert.gSerial) e) = Q
  have hQ' : ∀ e, lackB (told has e.gCert.gSerial) e = Q e := fun e => by rw [← hQ]
  have h := walk (fun f i => fareboxref20_Lacks_l1 s has (fun l => some l) f ((s.gRows.take i).filter Q) (i : Int)) (j := s.gRows.length) (R := some (s.gRows.filter Q)) (by omega)
    (fun i f hi => by
      show fareboxref20_Lacks_b1 s has _ (fareboxref20_Lacks_l1 s has _ f) _ _ = _
      have hl : ((s.gRows.take i).filter Q).length ≤ i := Nat.le_trans (List.length_filter_le _ _) (by simp; omega)
      rw [fareboxref20_Lacks_b1, br_tt (decide_eq_true (by omega)), jn_eq, chk_t (inB_t (by omega) (by omega)), bnd_eq, Int.toNat_natCast, opt_some (rlacking hh), hQ', take_get (z := api_Entry_z) hi, List.filter_append]
      cases hc : Q (s.gRows.getD i api_Entry_z)
      · rw [br_ff rfl]
        show bnd _ _ = _
        rw [bnd_eq, wsucc (by omega), List.filter_cons, hc]
        simp
      · rw [br_tt rfl, chk_t (inB_t (by omega) (by omega)), bnd_eq, chk_t (by simp only [List.length_append, List.length_singleton]; exact decide_eq_true (by omega)), bnd_eq]
        show bnd _ _ = _
        rw [bnd_eq, wsucc (by omega), List.filter_cons, hc]
        simp)
    (fun f => by
      show fareboxref20_Lacks_b1 s has _ _ _ _ = _
      rw [fareboxref20_Lacks_b1, br_ff (decide_eq_false (by omega)), List.take_length])
  simpa using h
end Go.Proofs.Ytaebomfgmadilaa
/- The table that is made of the list: its rows' serials differ. -/
namespace Go.Proofs.Ytaebomfgmadilaa
open Go Go.Sx Go.RowKit
set_option linter.all false
set_option maxRecDepth 100000
set_option maxHeartbeats 1000000

abbrev serOf (e : api_Entry) : Int := e.gCert.gSerial
def hasS (rows : List api_Entry) (k : Int) : Bool := rows.any fun e => serOf e == k
theorem find_eq {s : api_GateState} {k : Int} (hb : s.gRows.length ≤ 2000000) : ∃ y, fareboxref17_Find s k = some y ∧ y.2 = hasS s.gRows k := by
  rw [fareboxref17_Find, jn_eq]
  generalize (⟨(⟨0, 0, 0, (List.replicate 32 0), (List.replicate 64 0)⟩ : api_Cert), 0, (List.replicate 32 0), false, (List.replicate 64 0), false, (List.replicate 64 0)⟩ : api_Entry) = z
  have key : ∀ d i f, i + d = s.gRows.length → ∃ y, fareboxref17_Find_l1 s k (fun (_ : Unit) => some (z, false)) (f + 1 + d) (i : Int) = some y ∧ y.2 = hasS (s.gRows.drop i) k := by
    intro d
    induction d with
    | zero =>
      intro i f h
      refine ⟨(z, false), ?_, ?_⟩
      · show fareboxref17_Find_b1 s k _ _ _ = _
        rw [fareboxref17_Find_b1, br_ff (decide_eq_false (by omega))]
      · rw [List.drop_eq_nil_of_le (by omega)]; rfl
    | succ d ih =>
      intro i f h
      have hi : i < s.gRows.length := by omega
      have hstep : fareboxref17_Find_l1 s k (fun (_ : Unit) => some (z, false)) (f + 1 + (d + 1)) (i : Int) = fareboxref17_Find_b1 s k (fun (_ : Unit) => some (z, false)) (fareboxref17_Find_l1 s k (fun (_ : Unit) => some (z, false)) (f + 1 + d)) (i : Int) := rfl
      rw [hstep, fareboxref17_Find_b1, br_tt (decide_eq_true (by omega)), chk_t (inB_t (by omega) (by omega)), bnd_eq, Int.toNat_natCast, drop_get (z := api_Entry_z) hi]
      by_cases hk : (s.gRows.getD i api_Entry_z).gCert.gSerial = k
      · refine ⟨(s.gRows.getD i api_Entry_z, true), ?_, ?_⟩
        · rw [br_tt (by simpa using hk), chk_t (inB_t (by omega) (by omega)), bnd_eq]
        · unfold hasS
          rw [List.any_cons]
          have : (serOf (s.gRows.getD i api_Entry_z) == k) = true := by simpa using hk
          rw [this]; rfl
      · obtain ⟨y, h1, h2⟩ := ih (i + 1) f (by omega)
        refine ⟨y, ?_, ?_⟩
        · rw [br_ff (by simpa using hk), bnd_eq, wsucc (by omega)]; exact h1
        · rw [h2]
          unfold hasS
          rw [List.any_cons]
          have : (serOf (s.gRows.getD i api_Entry_z) == k) = false := by simpa using hk
          rw [this]; rfl
  obtain ⟨f, hf⟩ : ∃ f, big = f + 1 + s.gRows.length := ⟨18446744073709551615 - s.gRows.length, by have : big = 18446744073709551616 := big_eq; omega⟩
  rw [hf]
  have h := key s.gRows.length 0 f (by omega)
  simpa using h
def insE (e : api_Entry) : List api_Entry → List api_Entry
  | [] => [e]
  | x :: r => bif decide (serOf x > serOf e) then e :: x :: r else x :: insE e r
theorem insE_perm (e : api_Entry) : ∀ l, (insE e l).Perm (e :: l)
  | [] => List.Perm.refl _
  | x :: r => by
    rw [insE]
    cases decide (serOf x > serOf e)
    · exact ((insE_perm e r).cons x).trans (List.Perm.swap e x r)
    · exact List.Perm.refl _
def plS (e : api_Entry) (d : Bool) (l : List api_Entry) : List api_Entry := bif d then l else insE e l
theorem placed_eq {rows : List api_Entry} {e : api_Entry} (hb : rows.length ≤ 2000000) : fareboxref17_placed rows e = some (insE e rows) := by
  rw [fareboxref17_placed, jn_eq]
  generalize hk : (fun (l156 : List (api_Entry)) (i158 : Bool) => jn (fun (l321 : List (api_Entry)) => some l321) fun k323 => br ((!i158)) (
 chk (decide ((l156.length + ([e] : List (api_Entry)).length) * 296 ≤ 140737488355328)) <|
 bnd (l156 ++ ([e] : List (api_Entry))) fun l330 =>
 k323 l330
 ) (
 k323 l156
 )) = kk
  have hkk : ∀ l d, l.length ≤ 3000000 → kk l d = some (l ++ plS e d []) := by
    intro l d hl
    rw [← hk]
    show jn _ _ = _
    rw [jn_eq]
    cases d
    · rw [br_tt (by rfl), chk_t (by simp only [List.length_singleton]; exact decide_eq_true (by omega)), bnd_eq]; rfl
    · rw [br_ff (by rfl)]; simp [plS]
  have key : ∀ d i f l b, i + d = rows.length → l.length ≤ i + b.toNat → l ++ plS e b (rows.drop i) = insE e rows → fareboxref17_placed_l1 rows e kk (f + 1 + d) l b (i : Int) = some (insE e rows) := by
    intro d
    induction d with
    | zero =>
      intro i f l b h hl he
      have hbl : b.toNat ≤ 1 := by cases b <;> decide
      show fareboxref17_placed_b1 rows e kk _ l b _ = _
      rw [fareboxref17_placed_b1, br_ff (decide_eq_false (by omega)), hkk l b (by omega), ← he, List.drop_eq_nil_of_le (by omega)]
    | succ d ih =>
      intro i f l b h hl he
      have hbl : b.toNat ≤ 1 := by cases b <;> decide
      have hi : i < rows.length := by omega
      have hstep : fareboxref17_placed_l1 rows e kk (f + 1 + (d + 1)) l b (i : Int) = fareboxref17_placed_b1 rows e kk (fareboxref17_placed_l1 rows e kk (f + 1 + d)) l b (i : Int) := rfl
      have hin : inB (i : Int) rows.length = true := inB_t (by omega) (by omega)
      rw [hstep, fareboxref17_placed_b1, br_tt (decide_eq_true (by omega)), hin, chk_t (by cases b <;> rfl), jn_eq, Int.toNat_natCast]
      rw [drop_get (z := api_Entry_z) hi] at he
      cases b with
      | true =>
        rw [br_ff (by rfl)]
        show chk _ _ = _
        rw [chk_t rfl, bnd_eq, chk_t (by simp only [List.length_singleton]; exact decide_eq_true (by omega)), bnd_eq, bnd_eq, wsucc (by omega)]
        refine ih (i + 1) f _ true (by omega) (by simp at hl ⊢ <;> omega) ?_
        rw [← he]; simp [plS]
      | false =>
        cases hc : decide (serOf (rows.getD i api_Entry_z) > serOf e)
        · rw [br_ff (by rfl)]
          show chk _ _ = _
          rw [chk_t rfl, bnd_eq, chk_t (by simp only [List.length_singleton]; exact decide_eq_true (by omega)), bnd_eq, bnd_eq, wsucc (by omega)]
          refine ih (i + 1) f _ false (by omega) (by simp at hl ⊢ <;> omega) ?_
          rw [← he]; simp only [plS, cond_false]; rw [insE, hc]; simp
        · rw [br_tt (by rfl), chk_t (by simp only [List.length_singleton]; exact decide_eq_true (by omega)), bnd_eq]
          show chk _ _ = _
          rw [chk_t rfl, bnd_eq, chk_t (by simp only [List.length_append, List.length_singleton]; exact decide_eq_true (by omega)), bnd_eq, bnd_eq, wsucc (by omega)]
          refine ih (i + 1) f _ true (by omega) (by simp at hl ⊢ <;> omega) ?_
          rw [← he]; simp only [plS, cond_false, cond_true]; rw [insE, hc]; simp
  obtain ⟨f, hf⟩ : ∃ f, big = f + 1 + rows.length := ⟨18446744073709551615 - rows.length, by have : big = 18446744073709551616 := big_eq; omega⟩
  rw [hf]
  exact key rows.length 0 f [] false (by omega) (by simp) (by simp [plS])
end Go.Proofs.Ytaebomfgmadilaa
/- The table that is made of the list. -/
namespace Go.Proofs.Ytaebomfgmadilaa
open Go Go.Sx Go.RowKit
set_option linter.all false
set_option maxRecDepth 100000
set_option maxHeartbeats 1000000

def enOf (x : api_Summary) : api_Entry := ⟨(⟨x.gSerial, 0, 0, (List.replicate 32 0), (List.replicate 64 0)⟩ : api_Cert), x.gIndex, (List.replicate 32 0), x.gFrozen, (List.replicate 64 0), x.gRevoked, (List.replicate 64 0)⟩
def addR (rows : List api_Entry) (x : api_Summary) : List api_Entry := bif !(hasS rows x.gSerial) && decide (x.gSerial ≥ 0) then insE (enOf x) rows else rows
def rowsOf (l : List api_Summary) : List api_Entry := l.foldl addR []
def stOf (rows : List api_Entry) : api_GateState := ⟨⟨0, List.replicate 64 0⟩, 0, rows⟩
theorem addR_len (rows : List api_Entry) (x : api_Summary) : (addR rows x).length ≤ rows.length + 1 := by
  unfold addR
  cases !(hasS rows x.gSerial) && decide (x.gSerial ≥ 0)
  · simp
  · simp only [cond_true]; rw [(insE_perm _ _).length_eq]; simp
theorem rowsOf_len (l : List api_Summary) : (rowsOf l).length ≤ l.length := by
  have key : ∀ (l : List api_Summary) (r : List api_Entry), (l.foldl addR r).length ≤ r.length + l.length := by
    intro l
    induction l with
    | nil => intro r; simp
    | cons x l ih => intro r; rw [List.foldl_cons, List.length_cons]; have := ih (addR r x); have := addR_len r x; omega
  have := key l []
  simpa [rowsOf] using this
theorem addR_nd {rows : List api_Entry} (h : (rows.map serOf).Nodup) (x : api_Summary) : ((addR rows x).map serOf).Nodup := by
  unfold addR
  cases hc : !(hasS rows x.gSerial) && decide (x.gSerial ≥ 0)
  · exact h
  · simp only [cond_true]
    rw [((insE_perm (enOf x) rows).map serOf).nodup_iff, List.map_cons, List.nodup_cons]
    refine ⟨?_, h⟩
    intro hm
    obtain ⟨e, he, hs⟩ := List.mem_map.1 hm
    have h1 : hasS rows x.gSerial = true := List.any_eq_true.2 ⟨e, he, by rw [hs]; simp [enOf, serOf]⟩
    rw [h1] at hc; cases hc
theorem rowsOf_nd (l : List api_Summary) : ((rowsOf l).map serOf).Nodup := by
  have key : ∀ (l : List api_Summary) (r : List api_Entry), (r.map serOf).Nodup → ((l.foldl addR r).map serOf).Nodup := by
    intro l
    induction l with
    | nil => intro r h; exact h
    | cons x l ih => intro r h; exact ih _ (addR_nd h x)
  exact key l [] (by simp)
theorem put_eq {rows : List api_Entry} {e : api_Entry} {n : Int} (hb : rows.length ≤ 2000000) (hs : serOf e ≥ 0) (hf : hasS rows (serOf e) = false) (hn : (rows.length : Int) < n) :
    fareboxref17_Put (stOf rows) n e = some (stOf (insE e rows), true, 0) := by
  obtain ⟨y, h1, h2⟩ := find_eq (s := stOf rows) (k := serOf e) hb
  have h2' : y.2 = false := h2.trans hf
  rw [fareboxref17_Put, br_ff (c := decide (e.gCert.gSerial < (stOf rows).gFloor.gFloor)) (decide_eq_false (show ¬ (e.gCert.gSerial < 0) by have : e.gCert.gSerial ≥ 0 := hs; omega)), opt_some h1, h2', br_tt (by rfl), br_ff (c := decide (((stOf rows).gRows.length : Int) ≥ n)) (decide_eq_false (show ¬ ((rows.length : Int) ≥ n) by omega)), opt_some (show fareboxref17_placed (stOf rows).gRows e = some (insE e rows) from placed_eq hb)]
  rfl
theorem rowed_eq {l : List api_Summary} (hb : l.length ≤ 1999999) : fareboxlaw20_rowed l = some (stOf (rowsOf l)) := by
  rw [fareboxlaw20_rowed, jn_eq]
  have h := walk (fun f i => fareboxlaw20_rowed_l1 l (fun (i215 : Int) (a216 : List Int) (i217 : Int) (l220 : List (api_Entry)) => some (⟨(⟨i215, a216⟩ : api_Floor), i217, l220⟩ : api_GateState)) f (i : Int) 0 (List.replicate 64 0) 0 (rowsOf (l.take i))) (j := l.length) (R := some (stOf (rowsOf l))) (by omega)
    (fun i f hi => by
      show fareboxlaw20_rowed_b1 l _ (fareboxlaw20_rowed_l1 l _ f) _ _ _ _ _ = _
      have hin : inB (i : Int) l.length = true := inB_t (by omega) (by omega)
      have hstep : rowsOf (l.take (i + 1)) = addR (rowsOf (l.take i)) (l.getD i api_Summary_z) := by
        unfold rowsOf
        rw [take_get (z := api_Summary_z) hi, List.foldl_append]; rfl
      have hl : (rowsOf (l.take i)).length ≤ i := Nat.le_trans (rowsOf_len _) (by simp; omega)
      rw [hstep, fareboxlaw20_rowed_b1, br_tt (decide_eq_true (by omega)), jn_eq, hin, chk_t rfl, bnd_eq, chk_t rfl, bnd_eq, chk_t rfl, bnd_eq, chk_t rfl, bnd_eq, chk_t rfl, bnd_eq, Int.toNat_natCast]
      generalize rowsOf (l.take i) = rows at hl ⊢
      generalize l.getD i api_Summary_z = x
      obtain ⟨y, h1, h2⟩ := find_eq (s := stOf rows) (k := x.gSerial) (show rows.length ≤ 2000000 by omega)
      have h2' : y.2 = hasS rows x.gSerial := h2
      rw [opt_some (show fareboxref17_Find (⟨(⟨0, List.replicate 64 0⟩ : api_Floor), 0, rows⟩ : api_GateState) x.gSerial = some y from h1), h2', chk_t (by simp [imp])]
      unfold addR
      cases hc : !(hasS rows x.gSerial) && decide (x.gSerial ≥ 0)
      · rw [br_ff (by rfl)]
        show bnd _ _ = _
        rw [bnd_eq, wsucc (by omega)]; rfl
      · have hc' := Bool.and_eq_true_iff.1 hc
        have hf : hasS rows x.gSerial = false := by simpa using hc'.1
        have hs : x.gSerial ≥ 0 := of_decide_eq_true hc'.2
        rw [br_tt (by rfl), bnd_eq, wsucc (by omega), opt_some (show fareboxref17_Put (⟨(⟨0, List.replicate 64 0⟩ : api_Floor), 0, rows⟩ : api_GateState) ((l.length + 1 : Nat) : Int) (⟨(⟨x.gSerial, 0, 0, (List.replicate 32 0), (List.replicate 64 0)⟩ : api_Cert), x.gIndex, (List.replicate 32 0), x.gFrozen, (List.replicate 64 0), x.gRevoked, (List.replicate 64 0)⟩ : api_Entry) = some (stOf (insE (enOf x) rows), true, 0) from put_eq (e := enOf x) (by omega) hs hf (by omega))]
        show bnd _ _ = _
        rw [bnd_eq, wsucc (by omega)]; rfl)
    (fun f => by
      show fareboxlaw20_rowed_b1 l _ _ _ _ _ _ _ = _
      rw [fareboxlaw20_rowed_b1, br_ff (decide_eq_false (by omega)), List.take_length]; rfl)
  simpa [rowsOf] using h
end Go.Proofs.Ytaebomfgmadilaa
/- Lists and states that are the same; marks. -/
namespace Go.Proofs.Ytaebomfgmadilaa
open Go Go.Sx Go.RowKit
set_option linter.all false
set_option maxRecDepth 100000
set_option maxHeartbeats 1000000

theorem same_sums {p : List api_Summary} (hb : p.length ≤ 9223372036854775806) : fareboxlaw20_sameSummaries p p = some true := by
  rw [fareboxlaw20_sameSummaries, br_ff (by simp), jn_eq]
  exact walk (fun f i => fareboxlaw20_sameSummaries_l1 p p (fun (_ : Unit) => some true) f (i : Int)) (j := p.length) (by omega)
    (fun i f hi => by
      show fareboxlaw20_sameSummaries_b1 p p _ (fareboxlaw20_sameSummaries_l1 p p _ f) _ = _
      rw [fareboxlaw20_sameSummaries_b1, br_tt (decide_eq_true (by omega)), chk_t (inB_t (by omega) (by omega)), bnd_eq, chk_t (inB_t (by omega) (by omega)), bnd_eq, br_ff (by simp), bnd_eq, wsucc (by omega)])
    (fun f => by
      show fareboxlaw20_sameSummaries_b1 p p _ _ _ = _
      rw [fareboxlaw20_sameSummaries_b1, br_ff (decide_eq_false (by omega))])
theorem same_ents {p : List api_Entry} (hb : p.length ≤ 9223372036854775806) : fareboxlaw20_sameEntries p p = some true := by
  rw [fareboxlaw20_sameEntries, br_ff (by simp), jn_eq]
  exact walk (fun f i => fareboxlaw20_sameEntries_l1 p p (fun (_ : Unit) => some true) f (i : Int)) (j := p.length) (by omega)
    (fun i f hi => by
      show fareboxlaw20_sameEntries_b1 p p _ (fareboxlaw20_sameEntries_l1 p p _ f) _ = _
      rw [fareboxlaw20_sameEntries_b1, br_tt (decide_eq_true (by omega)), chk_t (inB_t (by omega) (by omega)), bnd_eq, chk_t (inB_t (by omega) (by omega)), bnd_eq, br_ff (by simp [ieq]), bnd_eq, wsucc (by omega)])
    (fun f => by
      show fareboxlaw20_sameEntries_b1 p p _ _ _ = _
      rw [fareboxlaw20_sameEntries_b1, br_ff (decide_eq_false (by omega))])
theorem same_st {s : api_GateState} (hb : s.gRows.length ≤ 9223372036854775806) : fareboxref17_Same s s = some true := by
  rw [fareboxref17_Same, br_ff (by simp [ieq]), jn_eq]
  exact walk (fun f i => fareboxref17_Same_l1 s s (fun (_ : Unit) => some true) f (i : Int)) (j := s.gRows.length) (by omega)
    (fun i f hi => by
      show fareboxref17_Same_b1 s s _ (fareboxref17_Same_l1 s s _ f) _ = _
      rw [fareboxref17_Same_b1, br_tt (decide_eq_true (by omega)), chk_t (inB_t (by omega) (by omega)), bnd_eq, chk_t (inB_t (by omega) (by omega)), bnd_eq, br_ff (by simp [ieq]), bnd_eq, wsucc (by omega)])
    (fun f => by
      show fareboxref17_Same_b1 s s _ _ _ = _
      rw [fareboxref17_Same_b1, br_ff (decide_eq_false (by omega))])
abbrev enN (n : Int) : api_Entry := ⟨(⟨0, 0, 0, (List.replicate 32 0), (List.replicate 64 0)⟩ : api_Cert), n, (List.replicate 32 0), false, (List.replicate 64 0), false, (List.replicate 64 0)⟩
def mk7 : List api_Entry := [enN (-7), enN (-8)]
theorem marked_eq {r : List api_Entry} (h : r.length ≤ 2000000) : fareboxlaw20_marked (stOf r) = some (stOf (r ++ mk7), (r.length : Int)) := by
  rw [fareboxlaw20_marked]
  show chk (decide ((0 + r.length) * 296 ≤ 140737488355328)) _ = _
  rw [chk_t (decide_eq_true (by omega)), bnd_eq]
  show chk (decide ((([] ++ r).length + 2) * 296 ≤ 140737488355328)) _ = _
  rw [List.nil_append, chk_t (decide_eq_true (by omega)), bnd_eq]
  show chk (cutB 0 (r.length : Int) (r ++ mk7).length) _ = _
  rw [chk_t (by simp [cutB]; omega)]
  rfl
theorem left_eq {r : List api_Entry} (h : r.length ≤ 2000000) : fareboxlaw20_left (stOf (r ++ mk7)) (r.length : Int) (stOf r) = some true := by
  have e2 : IntKind.wrap .i64 ((r.length : Int) + 2) = ((r.length + 2 : Nat) : Int) := by rw [wi64_small (by omega) (by omega)]; omega
  have l2 : (r ++ mk7).length = r.length + 2 := by simp [mk7]
  have g0 : (r ++ mk7).getD r.length api_Entry_z = enN (-7) := mid_get rfl
  have g1 : (r ++ mk7).getD (r.length + 1) api_Entry_z = enN (-8) := by
    show (r ++ (_ :: _)).getD _ _ = _
    rw [← List.singleton_append, ← List.append_assoc]; exact mid_get (by simp)
  have hs : fareboxref17_Same (⟨(stOf (r ++ mk7)).gFloor, (stOf (r ++ mk7)).gAccepted, ((stOf (r ++ mk7)).gRows.take ((r.length : Int)).toNat)⟩ : api_GateState) (stOf r) = some true := by
    have : ((stOf (r ++ mk7)).gRows.take ((r.length : Int)).toNat) = r := by rw [Int.toNat_natCast]; exact List.take_left' rfl
    rw [this]
    exact same_st (s := stOf r) (show r.length ≤ _ by omega)
  rw [fareboxlaw20_left, opt_some hs, br_ff (by rfl)]
  show bnd (IntKind.wrap .i64 ((r.length : Int) + 2)) _ = _
  rw [bnd_eq, e2]
  show chk (cutB 0 ((r.length + 2 : Nat) : Int) (r ++ mk7).length) (chk (inB (r.length : Int) _) (bnd ((r ++ mk7).getD ((r.length : Int)).toNat api_Entry_z) fun x14 => chk (imp (x14.gIndex == (-7)) (inB (IntKind.wrap .i64 ((r.length : Int) + 1)) _)) (some ((x14.gIndex == (-7)) && (((r ++ mk7).getD (IntKind.wrap .i64 ((r.length : Int) + 1)).toNat api_Entry_z).gIndex == (-8)))))) = _
  rw [chk_t (by rw [l2]; simp [cutB]; omega), chk_t (by rw [Int.toNat_natCast]; exact inB_t (by omega) (by omega)), bnd_eq, wsucc (by omega), Int.toNat_natCast, Int.toNat_natCast, Int.toNat_natCast, g0, g1, chk_t (by simp [imp, inB]; omega)]
  rfl
end Go.Proofs.Ytaebomfgmadilaa
/- Answers that are grown, one behind the other. -/
namespace Go.Proofs.Ytaebomfgmadilaa
open Go Go.Sx Go.RowKit
set_option linter.all false
set_option maxRecDepth 100000
set_option maxHeartbeats 1000000

theorem rep_get {α : Type} {z c : α} {a : List α} {n j : Nat} (h1 : a.length ≤ j) (h2 : j < a.length + n) : (a ++ List.replicate n c).getD j z = c := by
  rw [List.getD_eq_getElem?_getD, List.getElem?_append_right h1, List.getElem?_replicate, if_pos (by omega)]; rfl
theorem rooms_eq {a b : List api_Entry} (ha : a.length ≤ 2000000) (hb : b.length ≤ 2000000) : fareboxlaw20_rooms a b = some true := by
  have h1 : ∀ k, fareboxlaw20_rooms_l1 k big a 0 = k (a ++ List.replicate 64 (enN (-21))) := fun k => by
    have h := walk (fun f i => fareboxlaw20_rooms_l1 k f (a ++ List.replicate i (enN (-21))) (i : Int)) (j := 64) (R := k (a ++ List.replicate 64 (enN (-21)))) (by omega)
      (fun i f hi => by
        show fareboxlaw20_rooms_b1 k (fareboxlaw20_rooms_l1 k f) _ _ = _
        rw [fareboxlaw20_rooms_b1, br_tt (decide_eq_true (by omega)), chk_t (by simp; omega), bnd_eq, bnd_eq, wsucc (by omega), rep_snoc])
      (fun f => by
        show fareboxlaw20_rooms_b1 k _ _ _ = _
        rw [fareboxlaw20_rooms_b1, br_ff (by rfl)])
    rw [List.replicate_zero, List.append_nil] at h
    exact h
  have h2 : ∀ k, fareboxlaw20_rooms_l2 k big b 0 = k (b ++ List.replicate 64 (enN (-22))) := fun k => by
    have h := walk (fun f i => fareboxlaw20_rooms_l2 k f (b ++ List.replicate i (enN (-22))) (i : Int)) (j := 64) (R := k (b ++ List.replicate 64 (enN (-22)))) (by omega)
      (fun i f hi => by
        show fareboxlaw20_rooms_b2 k (fareboxlaw20_rooms_l2 k f) _ _ = _
        rw [fareboxlaw20_rooms_b2, br_tt (decide_eq_true (by omega)), chk_t (by simp; omega), bnd_eq, bnd_eq, wsucc (by omega), rep_snoc])
      (fun f => by
        show fareboxlaw20_rooms_b2 k _ _ _ = _
        rw [fareboxlaw20_rooms_b2, br_ff (by rfl)])
    rw [List.replicate_zero, List.append_nil] at h
    exact h
  have h3 : ∀ k, fareboxlaw20_rooms_l3 (a ++ List.replicate 64 (enN (-21))) k big (a.length : Int) = k () := fun k => by
    have hl : (a ++ List.replicate 64 (enN (-21))).length = a.length + 64 := by simp
    have h := walk (fun f i => fareboxlaw20_rooms_l3 (a ++ List.replicate 64 (enN (-21))) k f ((a.length + i : Nat) : Int)) (j := 64) (R := k ()) (by omega)
      (fun i f hi => by
        show fareboxlaw20_rooms_b3 _ k (fareboxlaw20_rooms_l3 _ k f) _ = _
        rw [fareboxlaw20_rooms_b3, br_tt (decide_eq_true (by omega)), chk_t (inB_t (by omega) (by omega)), bnd_eq, Int.toNat_natCast, rep_get (by omega) (by omega), br_ff (by rfl), bnd_eq, wsucc (by omega), Nat.add_assoc])
      (fun f => by
        show fareboxlaw20_rooms_b3 _ k _ _ = _
        rw [fareboxlaw20_rooms_b3, br_ff (decide_eq_false (by omega))])
    exact h
  rw [fareboxlaw20_rooms, jn_eq, h1, jn_eq, h2, jn_eq, h3, bnd_eq, wi64_small (by omega) (by omega)]
  simp
abbrev smN (n : Int) : api_Summary := ⟨n, 0, false, false⟩
theorem srooms_eq {a b : List api_Summary} (ha : a.length ≤ 2000000) (hb : b.length ≤ 2000000) : fareboxlaw20_summaryRooms a b = some true := by
  have h1 : ∀ k, fareboxlaw20_summaryRooms_l1 k big a 0 = k (a ++ List.replicate 64 (smN (-21))) := fun k => by
    have h := walk (fun f i => fareboxlaw20_summaryRooms_l1 k f (a ++ List.replicate i (smN (-21))) (i : Int)) (j := 64) (R := k (a ++ List.replicate 64 (smN (-21)))) (by omega)
      (fun i f hi => by
        show fareboxlaw20_summaryRooms_b1 k (fareboxlaw20_summaryRooms_l1 k f) _ _ = _
        rw [fareboxlaw20_summaryRooms_b1, br_tt (decide_eq_true (by omega)), chk_t (by simp; omega), bnd_eq, bnd_eq, wsucc (by omega), rep_snoc])
      (fun f => by
        show fareboxlaw20_summaryRooms_b1 k _ _ _ = _
        rw [fareboxlaw20_summaryRooms_b1, br_ff (by rfl)])
    rw [List.replicate_zero, List.append_nil] at h
    exact h
  have h2 : ∀ k, fareboxlaw20_summaryRooms_l2 k big b 0 = k (b ++ List.replicate 64 (smN (-22))) := fun k => by
    have h := walk (fun f i => fareboxlaw20_summaryRooms_l2 k f (b ++ List.replicate i (smN (-22))) (i : Int)) (j := 64) (R := k (b ++ List.replicate 64 (smN (-22)))) (by omega)
      (fun i f hi => by
        show fareboxlaw20_summaryRooms_b2 k (fareboxlaw20_summaryRooms_l2 k f) _ _ = _
        rw [fareboxlaw20_summaryRooms_b2, br_tt (decide_eq_true (by omega)), chk_t (by simp; omega), bnd_eq, bnd_eq, wsucc (by omega), rep_snoc])
      (fun f => by
        show fareboxlaw20_summaryRooms_b2 k _ _ _ = _
        rw [fareboxlaw20_summaryRooms_b2, br_ff (by rfl)])
    rw [List.replicate_zero, List.append_nil] at h
    exact h
  have h3 : ∀ k, fareboxlaw20_summaryRooms_l3 (a ++ List.replicate 64 (smN (-21))) k big (a.length : Int) = k () := fun k => by
    have hl : (a ++ List.replicate 64 (smN (-21))).length = a.length + 64 := by simp
    have h := walk (fun f i => fareboxlaw20_summaryRooms_l3 (a ++ List.replicate 64 (smN (-21))) k f ((a.length + i : Nat) : Int)) (j := 64) (R := k ()) (by omega)
      (fun i f hi => by
        show fareboxlaw20_summaryRooms_b3 _ k (fareboxlaw20_summaryRooms_l3 _ k f) _ = _
        rw [fareboxlaw20_summaryRooms_b3, br_tt (decide_eq_true (by omega)), chk_t (inB_t (by omega) (by omega)), bnd_eq, Int.toNat_natCast, rep_get (by omega) (by omega), br_ff (by rfl), bnd_eq, wsucc (by omega), Nat.add_assoc])
      (fun f => by
        show fareboxlaw20_summaryRooms_b3 _ k _ _ = _
        rw [fareboxlaw20_summaryRooms_b3, br_ff (decide_eq_false (by omega))])
    exact h
  rw [fareboxlaw20_summaryRooms, jn_eq, h1, jn_eq, h2, jn_eq, h3, bnd_eq, wi64_small (by omega) (by omega)]
  simp
end Go.Proofs.Ytaebomfgmadilaa
/- The rows halved in their own memory. -/
namespace Go.Proofs.Ytaebomfgmadilaa
open Go Go.Sx Go.RowKit
set_option linter.all false
set_option maxRecDepth 100000
set_option maxHeartbeats 1000000

def halfE (x : api_Entry) : api_Entry := ⟨x.gCert, IntKind.wrap .i64 (Int.tdiv x.gIndex 2), x.gValue, false, List.replicate 64 0, false, List.replicate 64 0⟩
theorem setG_mid {α : Type} {z x y : α} {t d : List α} {i : Nat} (h : i = t.length) : setG z (t ++ x :: d) i y = t ++ y :: d := by
  subst h
  have e : setG z (t ++ x :: d) t.length y = (t ++ x :: d).set t.length y := by
    first
    | exact setG_eq (by simp)
    | (unfold setG; simp)
  rw [e]; simp
theorem turned_eq {r : List api_Entry} (hb : r.length ≤ 2000000) : fareboxlaw20_turned (stOf (r ++ mk7)) (r.length : Int) = some (stOf (r.map halfE), r.map halfE ++ mk7) := by
  rw [fareboxlaw20_turned, jn_eq]
  have h := walk (fun f i => fareboxlaw20_turned_l1 (r.length : Int) (fun (l257 : List (api_Entry)) (l261 : List (api_Entry)) => jn (fun (_ : Unit) => some ((⟨(stOf (r ++ mk7)).gFloor, (stOf (r ++ mk7)).gAccepted, l261⟩ : api_GateState), l257)) fun k513 => k513 ()) f ((r.take i).map halfE ++ (r.drop i ++ mk7)) (i : Int) ((r.take i).map halfE)) (j := r.length) (R := some (stOf (r.map halfE), r.map halfE ++ mk7)) (by omega)
    (fun i f hi => by
      show fareboxlaw20_turned_b1 _ _ (fareboxlaw20_turned_l1 _ _ f) _ _ _ = _
      have hp : ((r.take i).map halfE).length = i := by simp; omega
      have hn : ((r.take i).map halfE).length + (1 + (r.drop (i + 1) ++ mk7).length) = r.length + 2 := by simp [mk7]; omega
      have hin : inB (i : Int) ((r.length : Int)).toNat = true := by rw [Int.toNat_natCast]; exact inB_t (by omega) (by omega)
      rw [take_get (z := api_Entry_z) hi, drop_get (z := api_Entry_z) hi, List.map_append, List.cons_append]
      generalize (r.take i).map halfE = P at hp hn ⊢
      generalize r.drop (i + 1) ++ mk7 = D at hn ⊢
      generalize r.getD i api_Entry_z = x
      have hc : ∀ y, cutB 0 (r.length : Int) (P ++ y :: D).length = true := fun y => by simp [cutB]; omega
      rw [fareboxlaw20_turned_b1, br_tt (decide_eq_true (by omega)), hin]
      simp only [bnd_eq, chk_t rfl, Int.toNat_natCast, mid_get hp.symm, setG_mid hp.symm, hc]
      rw [chk_t (by simp only [List.length_singleton]; exact decide_eq_true (by omega)), wsucc (by omega)]
      simp only [List.map_cons, List.map_nil, List.append_assoc, List.singleton_append]
      rfl)
    (fun f => by
      show fareboxlaw20_turned_b1 _ _ _ _ _ _ = _
      rw [fareboxlaw20_turned_b1, br_ff (decide_eq_false (by omega)), List.take_length, List.drop_length]
      rfl)
  rw [List.take_zero, List.map_nil, List.nil_append, List.drop_zero] at h
  exact h
end Go.Proofs.Ytaebomfgmadilaa
/- The loops of GossipDigests. -/
namespace Go.Proofs.Ytaebomfgmadilaa
open Go Go.Sx Go.RowKit
set_option linter.all false
set_option maxRecDepth 100000
set_option maxHeartbeats 1000000

theorem fillS {a : List api_Summary} (ha : a.length ≤ 2000000) (k : List api_Summary → Option Bool) : fareboxlaw20_GossipDigests_l1 k big a 0 = k (List.replicate a.length (smN (-33))) := by
  have h := walk (fun f i => fareboxlaw20_GossipDigests_l1 k f (List.replicate i (smN (-33)) ++ a.drop i) (i : Int)) (j := a.length) (R := k (List.replicate a.length (smN (-33)))) (by omega)
    (fun i f hi => by
      show fareboxlaw20_GossipDigests_b1 k (fareboxlaw20_GossipDigests_l1 k f) _ _ = _
      have hl : (List.replicate i (smN (-33)) ++ a.drop i).length = a.length := by simp; omega
      rw [fareboxlaw20_GossipDigests_b1, br_tt (decide_eq_true (by omega)), chk_t (inB_t (by omega) (by omega)), bnd_eq, bnd_eq, bnd_eq, Int.toNat_natCast, drop_get (z := api_Summary_z) hi, setG_mid (by simp), wsucc (by omega), ← List.singleton_append, ← List.append_assoc, ← List.replicate_succ'])
    (fun f => by
      show fareboxlaw20_GossipDigests_b1 k _ _ _ = _
      rw [fareboxlaw20_GossipDigests_b1, br_ff (decide_eq_false (by simp)), List.drop_length, List.append_nil])
  rw [List.replicate_zero, List.nil_append, List.drop_zero] at h
  exact h
theorem fillE {a : List api_Entry} (ha : a.length ≤ 2000000) (k : List api_Entry → Option Bool) : fareboxlaw20_GossipDigests_l3 k big a 0 = k (List.replicate a.length (enN (-33))) := by
  have h := walk (fun f i => fareboxlaw20_GossipDigests_l3 k f (List.replicate i (enN (-33)) ++ a.drop i) (i : Int)) (j := a.length) (R := k (List.replicate a.length (enN (-33)))) (by omega)
    (fun i f hi => by
      show fareboxlaw20_GossipDigests_b3 k (fareboxlaw20_GossipDigests_l3 k f) _ _ = _
      have hl : (List.replicate i (enN (-33)) ++ a.drop i).length = a.length := by simp; omega
      rw [fareboxlaw20_GossipDigests_b3, br_tt (decide_eq_true (by omega)), chk_t (inB_t (by omega) (by omega)), bnd_eq, bnd_eq, bnd_eq, Int.toNat_natCast, drop_get (z := api_Entry_z) hi, setG_mid (by simp), wsucc (by omega), ← List.singleton_append, ← List.append_assoc, ← List.replicate_succ'])
    (fun f => by
      show fareboxlaw20_GossipDigests_b3 k _ _ _ = _
      rw [fareboxlaw20_GossipDigests_b3, br_ff (decide_eq_false (by simp)), List.drop_length, List.append_nil])
  rw [List.replicate_zero, List.nil_append, List.drop_zero] at h
  exact h
theorem moreS {a : List api_Summary} (ha : a.length ≤ 2000000) (k : List api_Summary → Option Bool) : fareboxlaw20_GossipDigests_l2 k big a 0 = k (a ++ List.replicate 8 (smN (-34))) := by
  have h := walk (fun f i => fareboxlaw20_GossipDigests_l2 k f (a ++ List.replicate i (smN (-34))) (i : Int)) (j := 8) (R := k (a ++ List.replicate 8 (smN (-34)))) (by omega)
    (fun i f hi => by
      show fareboxlaw20_GossipDigests_b2 k (fareboxlaw20_GossipDigests_l2 k f) _ _ = _
      rw [fareboxlaw20_GossipDigests_b2, br_tt (decide_eq_true (by omega)), chk_t (by simp; omega), bnd_eq, bnd_eq, wsucc (by omega), rep_snoc])
    (fun f => by
      show fareboxlaw20_GossipDigests_b2 k _ _ _ = _
      rw [fareboxlaw20_GossipDigests_b2, br_ff (by rfl)])
  rw [List.replicate_zero, List.append_nil] at h
  exact h
theorem moreE {a : List api_Entry} (ha : a.length ≤ 2000000) (k : List api_Entry → Option Bool) : fareboxlaw20_GossipDigests_l4 k big a 0 = k (a ++ List.replicate 8 (enN (-34))) := by
  have h := walk (fun f i => fareboxlaw20_GossipDigests_l4 k f (a ++ List.replicate i (enN (-34))) (i : Int)) (j := 8) (R := k (a ++ List.replicate 8 (enN (-34)))) (by omega)
    (fun i f hi => by
      show fareboxlaw20_GossipDigests_b4 k (fareboxlaw20_GossipDigests_l4 k f) _ _ = _
      rw [fareboxlaw20_GossipDigests_b4, br_tt (decide_eq_true (by omega)), chk_t (by simp; omega), bnd_eq, bnd_eq, wsucc (by omega), rep_snoc])
    (fun f => by
      show fareboxlaw20_GossipDigests_b4 k _ _ _ = _
      rw [fareboxlaw20_GossipDigests_b4, br_ff (by rfl)])
  rw [List.replicate_zero, List.append_nil] at h
  exact h
def otS (p : List api_Summary) (i : Nat) : api_Summary := ⟨(p.getD i api_Summary_z).gSerial, (p.getD (p.length - 1 - i) api_Summary_z).gIndex, !(p.getD i api_Summary_z).gFrozen, (p.getD i api_Summary_z).gRevoked⟩
def others (p : List api_Summary) : List api_Summary := (List.range p.length).map (otS p)
theorem others_len (p : List api_Summary) : (others p).length = p.length := by simp [others]
theorem overS {p : List api_Summary} (hp : p.length ≤ 2000000) (k : List api_Summary → List api_Summary → Option Bool) : fareboxlaw20_GossipDigests_l5 p k big (p ++ [smN (-77)]) [] 0 = k (others p ++ [smN (-77)]) (others p) := by
  have h := walk (fun f i => fareboxlaw20_GossipDigests_l5 p k f ((List.range i).map (otS p) ++ (p.drop i ++ [smN (-77)])) ((List.range i).map (otS p)) (i : Int)) (j := p.length) (R := k (others p ++ [smN (-77)]) (others p)) (by omega)
    (fun i f hi => by
      show fareboxlaw20_GossipDigests_b5 p k (fareboxlaw20_GossipDigests_l5 p k f) _ _ _ = _
      have hP : ((List.range i).map (otS p)).length = i := by simp
      have hD : (p.drop (i + 1) ++ [smN (-77)]).length = p.length - i := by simp; omega
      have hin : inB (i : Int) p.length = true := inB_t (by omega) (by omega)
      have e1 : IntKind.wrap .i64 ((p.length : Int) - 1) = ((p.length - 1 : Nat) : Int) := by rw [wi64_small (by omega) (by omega)]; omega
      have e2 : IntKind.wrap .i64 (((p.length - 1 : Nat) : Int) - (i : Int)) = ((p.length - 1 - i : Nat) : Int) := by rw [wi64_small (by omega) (by omega)]; omega
      have hin2 : inB ((p.length - 1 - i : Nat) : Int) p.length = true := inB_t (by omega) (by omega)
      have hot : otS p i = ⟨(p.getD i api_Summary_z).gSerial, (p.getD (p.length - 1 - i) api_Summary_z).gIndex, !(p.getD i api_Summary_z).gFrozen, (p.getD i api_Summary_z).gRevoked⟩ := rfl
      rw [List.range_succ, List.map_append, List.map_singleton, drop_get (z := api_Summary_z) hi, List.cons_append]
      generalize (List.range i).map (otS p) = P at hP ⊢
      generalize p.drop (i + 1) ++ [smN (-77)] = D at hD ⊢
      have hc : ∀ y, cutB 0 (p.length : Int) (P ++ y :: D).length = true := fun y => by simp [cutB]; omega
      rw [fareboxlaw20_GossipDigests_b5, br_tt (decide_eq_true (by omega))]
      simp only [bnd_eq, chk_t rfl, hin, e1, e2, hin2, Int.toNat_natCast, mid_get hP.symm, setG_mid hP.symm, hc]
      rw [chk_t (by simp only [List.length_singleton]; exact decide_eq_true (by omega)), wsucc (by omega), ← hot]
      simp only [List.append_assoc, List.singleton_append])
    (fun f => by
      show fareboxlaw20_GossipDigests_b5 p k _ _ _ _ = _
      rw [fareboxlaw20_GossipDigests_b5, br_ff (decide_eq_false (by omega)), List.drop_length, List.nil_append]
      rfl)
  rw [List.range_zero, List.map_nil, List.nil_append, List.drop_zero] at h
  exact h
end Go.Proofs.Ytaebomfgmadilaa
/- GossipDigests answers true. -/
namespace Go.Proofs.Ytaebomfgmadilaa
open Go Go.Sx Go.RowKit
set_option linter.all false
set_option maxRecDepth 100000
set_option maxHeartbeats 1000000

theorem gossip_eq {p0 p1 : List api_Summary} (h0 : p0.length ≤ 1048576) (h1 : p1.length ≤ 1048576) : fareboxlaw20_GossipDigests p0 p1 = some true := by
  have hR := rowsOf_len p0
  have hnd := rowsOf_nd p0
  rw [fareboxlaw20_GossipDigests, opt_some (rowed_eq (by omega)), opt_some (marked_eq (by omega))]
  generalize rowsOf p0 = R at hR hnd ⊢
  have hG : (⟨(stOf (R ++ mk7)).gFloor, (stOf (R ++ mk7)).gAccepted, ((stOf (R ++ mk7)).gRows.take ((R.length : Int)).toNat)⟩ : api_GateState) = stOf R := by
    have : ((stOf (R ++ mk7)).gRows.take ((R.length : Int)).toNat) = R := by rw [Int.toNat_natCast]; exact List.take_left' rfl
    rw [this]; rfl
  have hT : ∀ l : List api_Summary, l.length = p1.length → (l ++ [smN (-77)]).take ((p1.length : Int)).toNat = l := fun l hl => by rw [Int.toNat_natCast]; exact List.take_left' hl
  have hL : ∀ has : List api_Summary, has.length ≤ 2000000 → gossip_Lacks (stOf R) has = some (R.filter fun e => lackB (told has e.gCert.gSerial) e) := fun has hh => placks (s := stOf R) (show R.length ≤ _ by omega) hh hnd
  have hF : ∀ Q : api_Entry → Bool, (R.filter Q).length ≤ 2000000 := fun Q => Nat.le_trans (List.length_filter_le _ _) (by omega)
  rw [chk_t (by simp; omega), bnd_eq, List.nil_append, chk_t (by simp; omega), bnd_eq, chk_t (by simp [cutB]; omega)]
  simp only [hG, hT p1 rfl]
  rw [opt_some (pdigest (s := stOf R) (show R.length ≤ _ by omega)), opt_some (hL p1 (by omega)), opt_some (pdigest (s := stOf R) (show R.length ≤ _ by omega)), opt_some (hL p1 (by omega)), opt_some (hL [] (by simp)), jn_eq]
  have hrd : fareboxref20_Digest (stOf R) = some ((stOf R).gRows.map smOf) := rdigest (s := stOf R) (show R.length ≤ _ by omega)
  have hrl : ∀ has : List api_Summary, has.length ≤ 2000000 → fareboxref20_Lacks (stOf R) has = some (R.filter fun e => lackB (told has e.gCert.gSerial) e) := fun has hh => rlacks (s := stOf R) (show R.length ≤ _ by omega) hh
  have hle : fareboxlaw20_left (stOf (R ++ mk7)) (R.length : Int) (stOf R) = some true := left_eq (by omega)
  have hdl : ((stOf R).gRows.map smOf).length = R.length := by rw [List.length_map]; rfl
  rw [opt_some hrd, opt_some (same_sums (by rw [hdl]; omega)), br_ff (by rfl), opt_some (hrl p1 (by omega)), opt_some (same_ents (by have := hF fun e => lackB (told p1 e.gCert.gSerial) e; omega)), same_sums (p := p1) (by omega), hle, chk_t (by rfl), chk_t (by rfl)]
  show br false _ _ = _
  rw [br_ff rfl, jn_eq, fillS (by rw [hdl]; omega), hdl]
  show jn _ _ = _
  rw [jn_eq, moreS (by rw [List.length_replicate]; omega)]
  show jn _ _ = _
  rw [jn_eq, fillE (hF _)]
  show jn _ _ = _
  rw [jn_eq, moreE (by rw [List.length_replicate]; exact hF _)]
  show opt _ _ = _
  rw [opt_some (hL p1 (by omega)), jn_eq]
  generalize hQ : (R.filter fun e => lackB (told p1 e.gCert.gSerial) e) = Q1
  have hq : Q1.length ≤ 2000000 := by rw [← hQ]; exact hF _
  rw [bnd_eq, chk_t (by simp [imp]), show IntKind.wrap .i64 ((List.replicate Q1.length (enN (-33))).length + 8 : Int) = ((Q1.length + 8 : Nat) : Int) by rw [List.length_replicate, wi64_small (by omega) (by omega)]; omega]
  rw [show IntKind.wrap .i64 ((List.replicate R.length (smN (-33))).length + 8 : Int) = ((R.length + 8 : Nat) : Int) by rw [List.length_replicate, wi64_small (by omega) (by omega)]; omega]
  rw [br_ff (by simp), opt_some ((hrl p1 (by omega)).trans (by rw [hQ])), opt_some (same_ents (by omega))]
  show br false _ _ = _
  rw [br_ff rfl, jn_eq]
  rw [opt_some hrd, opt_some (same_sums (by rw [hdl]; omega)), br_ff (by rfl), opt_some ((hrl p1 (by omega)).trans (by rw [hQ])), opt_some (same_ents (by omega)), br_ff (by rfl), opt_some (hrl [] (by simp)), opt_some (same_ents (by have := hF fun e => lackB (told [] e.gCert.gSerial) e; omega)), br_ff (by rfl)]
  rw [opt_some (srooms_eq (by rw [List.length_replicate]; omega) (by rw [hdl]; omega)), br_ff (by rfl), opt_some (rooms_eq (by rw [List.length_replicate]; omega) hq), br_ff (by rfl), opt_some (rooms_eq hq (hF _))]
  show br false _ _ = _
  rw [br_ff rfl, jn_eq, show p1 ++ [(⟨(-77), 0, false, false⟩ : api_Summary)] = p1 ++ [smN (-77)] from rfl, overS (by omega)]
  have hol := others_len p1
  generalize others p1 = O at hol ⊢
  simp only [hT O hol]
  show opt _ _ = _
  have hol2 : (O ++ [smN (-77)]).length = p1.length + 1 := by simp [hol]
  have hget : (O ++ [smN (-77)]).getD ((p1.length : Int)).toNat api_Summary_z = smN (-77) := by rw [Int.toNat_natCast]; exact mid_get hol.symm
  rw [opt_some (hL O (by omega)), opt_some (hrl O (by omega)), opt_some (same_ents (Nat.le_trans (hF _) (by omega))), same_sums (p := O) (by omega), hget, hol2, wsucc (by omega)]
  rw [chk_t (by rfl), chk_t (by simp [imp, cutB, inB]; omega), br_ff (by rfl), opt_some (turned_eq (by omega))]
  have hnH : ((R.map halfE).map serOf).Nodup := by rw [List.map_map]; exact hnd
  have hlH : (R.map halfE).length = R.length := by simp
  rw [← hlH]
  generalize R.map halfE = H at hnH hlH ⊢
  have hGH : (⟨(stOf (R ++ mk7)).gFloor, (stOf (R ++ mk7)).gAccepted, ((H ++ mk7).take ((H.length : Int)).toNat)⟩ : api_GateState) = stOf H := by
    have : ((H ++ mk7).take ((H.length : Int)).toNat) = H := by rw [Int.toNat_natCast]; exact List.take_left' rfl
    rw [this]; rfl
  have hcH : cutB 0 (H.length : Int) (H ++ mk7).length = true := by simp [cutB]; omega
  simp only [hGH, hcH, chk_t rfl]
  have hLH := placks (s := stOf H) (has := O) (show H.length ≤ _ by omega) (by omega) hnH
  have hRH := rlacks (s := stOf H) (has := O) (show H.length ≤ _ by omega) (by omega)
  have hdH : ((stOf H).gRows.map smOf).length = H.length := by rw [List.length_map]; rfl
  have hlH2 : fareboxlaw20_left (⟨(stOf (R ++ mk7)).gFloor, (stOf (R ++ mk7)).gAccepted, H ++ mk7⟩ : api_GateState) (H.length : Int) (stOf H) = some true := left_eq (r := H) (by omega)
  rw [jn_eq, opt_some (pdigest (s := stOf H) (show H.length ≤ _ by omega)), opt_some (rdigest (s := stOf H) (show H.length ≤ _ by omega)), opt_some (same_sums (by rw [hdH]; omega)), br_tt rfl, opt_some hLH, opt_some hRH, opt_some (same_ents (p := (stOf H).gRows.filter fun e => lackB (told O e.gCert.gSerial) e) (Nat.le_trans (List.length_filter_le _ _) (show H.length ≤ _ by omega))), hlH2, chk_t (by rfl)]
  rfl
end Go.Proofs.Ytaebomfgmadilaa
/- The engine, part 10: from a law's contract to its row. -/
namespace Go.Sx
open Go Go.RowKit Go.ChangeShapes
set_option linter.all false

section
variable {H : Type} {enc : TypeId × Value → H}

theorem below_trodAll {P : Program} (hl : laidOutB P = true) {W W' : World} (hb : Below W.heap.size W W') :
    ∀ {ts : List TypeId} {vs : List Value} {ds : List (DataW H)} {ps : List MemPlace}, (ts.all fun t => P.readableRec t && decide (t < P.types.size)) = true → (∀ x ∈ ps, x.block < W.heap.size) →
      DataW.TrodAll enc P W 0 (fun _ => true) true ts vs ds ps → DataW.TrodAll enc P W' 0 (fun b => decide (b < W.heap.size)) true ts vs ds ps
  | [], [], [], _, _, _, h => h
  | t :: ts, v :: vs, d :: ds, ps, hr, hlt, h => by
    obtain ⟨p, q, h1, h2, rfl⟩ := h
    simp only [List.all_cons, Bool.and_eq_true, decide_eq_true_eq] at hr
    exact ⟨p, q, Below.trod hl hr.1.1 hr.1.2 h1 hb (fun x hx => hlt x (by simp [hx])), below_trodAll hl hb hr.2 (fun x hx => hlt x (by simp [hx])) h2, rfl⟩
  | [], _ :: _, _, _, _, _, h => h.elim
  | [], [], _ :: _, _, _, _, h => h.elim
  | _ :: _, [], _, _, _, _, h => h.elim
  | _ :: _, _ :: _, [], _, _, _, h => h.elim

/-- What a law's proof gives. -/
def LawAt (P : Program) (f : FuncId) (args : Array Value) (W : World) : Prop := Calls P f args W fun e w' => e = .returned (.bool true) ∧ Below W.heap.size W w'

theorem trodAll_len {P : Program} {W : World} {base : Nat} {sp : Nat → Bool} {held : Bool} : ∀ {ts : List TypeId} {vs : List Value} {ds : List (DataW H)} {ps : List MemPlace}, DataW.TrodAll enc P W base sp held ts vs ds ps → ds.length = ts.length ∧ vs.length = ts.length
  | [], [], [], _, _ => ⟨rfl, rfl⟩
  | t :: ts, v :: vs, d :: ds, ps, h => by
    obtain ⟨p, q, _, h2, _⟩ := h
    have := trodAll_len h2
    simp [this]
  | [], _ :: _, _, _, h => h.elim
  | [], [], _ :: _, _, h => h.elim
  | _ :: _, [], _, _, h => h.elim
  | _ :: _, _ :: _, [], _, h => h.elim

theorem law_post {C : Checked} {f : FuncId} {fn : Func} {s : ChangeSpec} {tb : TypeId} (hvars : s.vars = [])
    (hs : ∀ ds : List (DataW H), ds.length = fn.params.size → s.fn H ds = { results := [.lit (.bool true)], args := ds }) (hres : fn.resultTypes = #[tb]) (htb : C.prog.underlying tb = some .bool)
    (hl : laidOutB C.prog = true) (hpar : (fn.params.toList.all fun t => C.prog.readableRec t && decide (t < C.prog.types.size)) = true)
    {W : World} {args : Array Value} {ds gs : List (DataW H)} {before : List MemPlace} (hW : DataW.Whole enc C.prog fn.params.toList s.vars false W args.toList ds gs before)
    (h : LawAt C.prog f args W) : Calls C.prog f args W fun e W' => ∃ v, e = .returned v ∧ s.post enc C.prog fn false true false false W args v W' := by
  have hW' := hW
  have hlt := hW.lt
  obtain ⟨p, q, hA, hV, rfl, hfz, hnd⟩ := hW
  rw [hvars] at hV
  obtain ⟨rfl, rfl⟩ := trodVars_none hV
  refine h.mono fun e W' ⟨he, bel⟩ => ⟨_, he, ds, [], p ++ [], [], p, [], hW', ?_, ?_, ?_, bel.frame _, fun h => by cases h⟩
  · rw [List.append_nil, hs ds (by simpa using (trodAll_len hA).1), hres]
    exact trodAll_mk1 (shut_bool htb true)
  · rw [List.append_nil, hs ds (by simpa using (trodAll_len hA).1)]
    exact below_trodAll hl bel hpar (fun x hx => hlt x (by simp [hx])) hA
  · rw [List.append_nil, hs ds (by simpa using (trodAll_len hA).1), hvars]
    rfl

/-- What a law's contract is given of its arguments. -/
structure Given (C : Checked) (fn : Func) (W : World) (args : Array Value) : Prop where
  wide : ∃ base, ∀ (j : Nat) t v, fn.params[j]? = some t → args[j]? = some v → Value.okWide C.prog W .any base t v
  read : ∃ (H : Type) (enc : TypeId × Value → H) (ds : List (DataW H)) (p : List MemPlace), DataW.TrodAll enc C.prog W 0 (fun _ => true) true fn.params.toList args.toList ds p ∧
    ((DataW.weightsEach C.prog fn.params.toList ds).all (· ≤ reachBytes) = true)

end

/-! ## The arguments, opened -/

theorem fits_of_read {H : Type} {enc : TypeId × Value → H} {P : Program} {W : World} {n : Nat} {t : TypeId} {v : Value} {d : DataW H} {p : List MemPlace} {L : Lay}
    (hL : lay P n t .nil = some L) (h : DataW.Trod enc P W 0 (fun _ => true) true t v d p) : Fits W maxLen L v.cells.toList := by
  obtain ⟨fuel, hf⟩ := h
  have := trod_fits (Small.all) n t .nil L hL fuel v.cells.toList d p hf trivial [] rfl
  simpa using this

/-- The arguments, each with its cells' layout. -/
def Open (C : Checked) (W : World) (n : Nat) : List TypeId → List Value → Prop
  | [], vs => vs = []
  | t :: ts, vs => ∃ v vs', vs = v :: vs' ∧ (∃ base, Value.okWide C.prog W .any base t v) ∧ (∀ L, lay C.prog n t .nil = some L → Fits W maxLen L v.cells.toList) ∧ Open C W n ts vs'
theorem Given.open {C : Checked} {fn : Func} {W : World} {args : Array Value} (h : Given C fn W args) (n : Nat) : Open C W n fn.params.toList args.toList := by
  obtain ⟨⟨base, hw⟩, ⟨H, enc, ds, p, hA, _⟩⟩ := h
  have key : ∀ (ts : List TypeId) (vs : List Value) (ds : List (DataW H)) (p : List MemPlace), DataW.TrodAll enc C.prog W 0 (fun _ => true) true ts vs ds p →
      (∀ (j : Nat) t v, ts[j]? = some t → vs[j]? = some v → Value.okWide C.prog W .any base t v) → Open C W n ts vs := by
    intro ts
    induction ts with
    | nil =>
      intro vs ds p h _
      cases vs with
      | nil => rfl
      | cons v vs => cases ds <;> exact h.elim
    | cons t ts ih =>
      intro vs ds p h hv
      cases vs with
      | nil => cases ds <;> exact h.elim
      | cons v vs =>
        cases ds with
        | nil => exact h.elim
        | cons d ds =>
          obtain ⟨p1, q1, h1, h2, rfl⟩ := h
          exact ⟨v, vs, rfl, ⟨base, hv 0 t v rfl rfl⟩, fun L hL => fits_of_read hL h1, ih vs ds q1 h2 fun j t v h3 h4 => hv (j + 1) t v h3 h4⟩
  exact key _ _ ds p hA fun j t v h1 h2 => hw j t v (by simpa using h1) (by simpa using h2)

theorem wide_one {P : Program} {W : World} {base : Nat} {t : TypeId} {v x : Value} (hw : Value.okWide P W .any base t v) (hn : (match P.underlying t with | some (.struct _) | some (.array _ _) => false | _ => true) = true)
    (h : v.cells.toList = [x]) : v = x := by
  cases v with
  | agg cs =>
    exfalso
    unfold Value.okWide at hw
    split at hw
    · rename_i hu; rw [hu] at hn; cases hn
    · rename_i hu; rw [hu] at hn; cases hn
    · unfold Cell.okWide at hw
      split at hw <;> first | (rename_i h2; cases h2; done) | skip
      simp only [Cell.ok] at hw
      split at hw <;> simp_all
  | _ => simpa [Value.cells] using h
end Go.Sx
/- From a slice that is handed in to its list. -/
namespace Go.Sx
open Go Go.RowKit
set_option linter.all false

theorem rd_of_SlR {α : Type} {E : El α} {W : World} {a : Option Addr} {len cap : Nat} {g : Nat → List Value} {xs : List α} (h : SlR W E.w a cap g) (hl : len ≤ cap) (hx : xs.length = len) (hf : ∀ i, i < len → g i = E.cell (xs.getD i E.z)) :
    RdSl E W (slV (a, len, cap)) xs := by
  rcases h.at_ with h0 | h0 | ⟨b, off, rfl, hm⟩
  · subst h0
    obtain rfl : len = 0 := by omega
    have : xs = [] := List.eq_nil_of_length_eq_zero hx
    cases a with
    | none => exact .inl ⟨rfl, this⟩
    | some a => exact .inr (.inr ⟨a, rfl, this⟩)
  · exact absurd h0 (by have := E.pos; omega)
  · refine .inr (.inl ⟨b, off, cap, by rw [hx]; rfl, by omega, fun i hi j hj => ?_⟩)
    rw [hx] at hi
    have hlt : i * E.w + j < cap * E.w := by
      have : i * E.w + E.w ≤ cap * E.w := by rw [← Nat.succ_mul]; exact Nat.mul_le_mul_right E.w (by omega)
      omega
    have := hm.cell (i * E.w + j) (by simp only [width, Seg.width, Nat.add_zero]; exact hlt)
    simp only [cells, Seg.cells, List.append_nil] at this
    rw [this, rowsCells_get2 (by omega) hj, fit_same (h.len i (by omega)), hf i hi]
end Go.Sx
