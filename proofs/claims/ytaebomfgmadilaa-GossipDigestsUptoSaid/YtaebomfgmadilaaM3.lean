/- Texts of a proof, one behind the other: L1 L2 L3 L4. -/
import Derived.Test.YtaebomfgmadilaaM2
/- Mirrors. -/
namespace Go.Proofs.Ytaebomfgmadilaa
open Go Go.Sx Go.RowKit
set_option linter.all false
set_option maxHeartbeats 400000
set_option maxRecDepth 100000
/- farebox/fareboxref17.Find -/
structure api_Floor where
  gFloor : Int
  gSig : List Int
structure api_Cert where
  gSerial : Int
  gRides : Int
  gPrice : Int
  gAnchor : List Int
  gSig : List Int
def api_Cert_z : api_Cert := ⟨0, 0, 0, (List.replicate 32 0), (List.replicate 64 0)⟩
structure api_Entry where
  gCert : api_Cert
  gIndex : Int
  gValue : List Int
  gFrozen : Bool
  gFreeze : List Int
  gRevoked : Bool
  gRevoke : List Int
def api_Entry_z : api_Entry := ⟨api_Cert_z, 0, (List.replicate 32 0), false, (List.replicate 64 0), false, (List.replicate 64 0)⟩
structure api_GateState where
  gFloor : api_Floor
  gAccepted : Int
  gRows : List (api_Entry)
abbrev E_api_Entry : El (api_Entry) := ⟨262, fun x => cells [.one (.int .i64 (x.gCert.gSerial)), .one (.int .i64 (x.gCert.gRides)), .one (.int .i64 (x.gCert.gPrice)), .ints .u8 32 (x.gCert.gAnchor), .ints .u8 64 (x.gCert.gSig), .one (.int .i64 (x.gIndex)), .ints .u8 32 (x.gValue), .one (.bool (x.gFrozen)), .ints .u8 64 (x.gFreeze), .one (.bool (x.gRevoked)), .ints .u8 64 (x.gRevoke)], fun x => by rw [cells_length]; rfl, fun x => (ones_cons (ones_one rfl) (ones_cons (ones_one rfl) (ones_cons (ones_one rfl) (ones_cons ones_ints (ones_cons ones_ints (ones_cons (ones_one rfl) (ones_cons ones_ints (ones_cons (ones_one rfl) (ones_cons ones_ints (ones_cons (ones_one rfl) (ones_cons ones_ints ones_nil))))))))))), by decide, api_Entry_z⟩
def fareboxref17_Find_b1 (p0 : api_GateState) (p1 : Int) (k41 : Unit → Option (api_Entry × Bool)) (k65 : (Int) → Option (api_Entry × Bool)) (i64 : Int) : Option (api_Entry × Bool) :=
 br ((decide (i64 < (p0.gRows.length : Int)))) (
 chk (inB i64 p0.gRows.length) <|
 bnd (p0.gRows.getD (i64).toNat api_Entry_z) fun x71 =>
 br ((x71.gCert.gSerial == p1)) (
 chk (inB i64 p0.gRows.length) <|
 bnd (p0.gRows.getD (i64).toNat api_Entry_z) fun x75 =>
 some (x75, true)
 ) (
 bnd (IntKind.wrap .i64 (i64 + 1)) fun z77 =>
 k65 z77
 )
 ) (
 k41 ()
 )
def fareboxref17_Find_l1 (p0 : api_GateState) (p1 : Int) (k41 : Unit → Option (api_Entry × Bool)) : Nat → (Int) → Option (api_Entry × Bool)
  | 0, _ => none
  | n + 1, i64 => fareboxref17_Find_b1 p0 p1 k41 (fareboxref17_Find_l1 p0 p1 k41 n) i64
def fareboxref17_Find (p0 : api_GateState) (p1 : Int) : Option (api_Entry × Bool) :=
 jn (fun (_ : Unit) => some ((⟨(⟨0, 0, 0, (List.replicate 32 0), (List.replicate 64 0)⟩ : api_Cert), 0, (List.replicate 32 0), false, (List.replicate 64 0), false, (List.replicate 64 0)⟩ : api_Entry), false)) fun k41 => fareboxref17_Find_l1 p0 p1 k41 big 0
theorem fareboxref17_Find_spec {W : World} {r : api_Entry × Bool} {p0 : api_GateState} {p1 : Int} {v0_0 : Value} (h : fareboxref17_Find p0 p1 = some r) (A0_0 : RdSl E_api_Entry W v0_0 p0.gRows) :
    Calls Try.prog 16 [agg [.one (.int .i64 (p0.gFloor.gFloor)), .ints .u8 64 (p0.gFloor.gSig), .one (.int .i64 (p0.gAccepted)), .one (v0_0)], .int .i64 (p1)].toArray W (ret1 W (.tuple #[agg [.one (.int .i64 (r.1.gCert.gSerial)), .one (.int .i64 (r.1.gCert.gRides)), .one (.int .i64 (r.1.gCert.gPrice)), .ints .u8 32 (r.1.gCert.gAnchor), .ints .u8 64 (r.1.gCert.gSig), .one (.int .i64 (r.1.gIndex)), .ints .u8 32 (r.1.gValue), .one (.bool (r.1.gFrozen)), .ints .u8 64 (r.1.gFreeze), .one (.bool (r.1.gRevoked)), .ints .u8 64 (r.1.gRevoke)], .bool (r.2)])) := by
 unfold fareboxref17_Find at h
 refine calls_val mo ok16 rfl ?_
 refine wc_seq <| wc_ops <| wj_e (ef_bx (s := [.one (.int .i64 (p0.gFloor.gFloor)), .ints .u8 64 (p0.gFloor.gSig), .one (.int .i64 (p0.gAccepted)), .one (v0_0)]) rfl fun b2 hb2 => wj_e (ef_al fun b3 hb3 => wj_q _ (q_mv rfl) <| wj_nil <| wc_seq <| wc_seq <| wc_ops <| wj_q _ (q_mv rfl) <| wj_nil <| jH h fun k41 qk41 h => wc_mono2 (G := fun t m => k41 () = some r ∧ Fit [(4, .pointer (some ⟨b3, 0, none⟩))] (ck b3 45 [.one (.int .i64 (0)), .one (.int .i64 (0)), .one (.int .i64 (0)), .ints .u8 32 ((List.replicate 32 0)), .ints .u8 64 ((List.replicate 64 0)), .one (.int .i64 (0)), .ints .u8 32 ((List.replicate 32 0)), .one (.bool (false)), .ints .u8 64 ((List.replicate 64 0)), .one (.bool (false)), .ints .u8 64 ((List.replicate 64 0))] :: (ck b2 30 [.one (.int .i64 (p0.gFloor.gFloor)), .ints .u8 64 (p0.gFloor.gSig), .one (.int .i64 (p0.gAccepted)), .one (v0_0)] :: [])) t m) ?_ ?_))
 ·refine wc_block <| wc_loopJ (fun n66 t m => ∃ (i64 : Int), fareboxref17_Find_l1 p0 p1 k41 n66 i64 = some r ∧ Fit [(1, .int .i64 (p1)), (2, .pointer (some ⟨b2, 0, none⟩)), (4, .pointer (some ⟨b3, 0, none⟩)), (6, .int .i64 (i64))] (ck b3 45 [.one (.int .i64 (0)), .one (.int .i64 (0)), .one (.int .i64 (0)), .ints .u8 32 ((List.replicate 32 0)), .ints .u8 64 ((List.replicate 64 0)), .one (.int .i64 (0)), .ints .u8 32 ((List.replicate 32 0)), .one (.bool (false)), .ints .u8 64 ((List.replicate 64 0)), .one (.bool (false)), .ints .u8 64 ((List.replicate 64 0))] :: (ck b2 30 [.one (.int .i64 (p0.gFloor.gFloor)), .ints .u8 64 (p0.gFloor.gSig), .one (.int .i64 (p0.gAccepted)), .one (v0_0)] :: [])) t m) big ?_ ?_
  ·exact ⟨0, h, ⟨⟨rfl, rfl, rfl, rfl, trivial⟩, (.one .here (.one .here .nil))⟩⟩
  ·rintro n66 t m ⟨i64, h, hF⟩
   refine wc_fit hF ?_
   clear hF
   rcases n66 with _ | n66
   · exact none_i h
   have h : fareboxref17_Find_b1 p0 p1 k41 (fareboxref17_Find_l1 p0 p1 k41 n66) i64 = some r := h
   unfold fareboxref17_Find_b1 at h
   obtain ⟨k65, qk65⟩ : ∃ k, k = fareboxref17_Find_l1 p0 p1 k41 n66 := ⟨_, rfl⟩
   try rw [← qk65] at h
   refine wc_seq <| wc_seq <| wc_ops <| wj_q _ (q_mv rfl) <| wj_q _ (q_fa rfl) <| wj_q _ (q_ld1 rfl (.there .here) rfl) <| wj_q _ (q_lenP rfl (Shp.rd A0_0)) <| wj_q _ (q_bin rfl rfl rfl) <| wj_nil <| wc_br h rfl (fun h => ?_) (fun h => ?_)
   ·refine wc_skip <| wc_seq <| wc_block <| wc_seq <| cH h fun c70 h => bH h fun x71 ex71 h => wc_ops <| wj_q _ (q_fa rfl) <| wj_q _ (q_ld1 rfl (.there .here) rfl) <| wj_q _ (q_mv rfl) <| wj_q _ (q_iasP rfl rfl (Shp.rd A0_0) c70) <| wj_q _ (q_fa rfl) <| wj_q _ (q_fa rfl) <| wj_q _ (az (fun (x71 : api_Entry) => .int .i64 (x71.gCert.gSerial)) ex71 (q_ldM1 (E := E_api_Entry) (s := [.one (.int .i64 ((((p0.gRows.getD (i64).toNat api_Entry_z)).gCert).gSerial)), .one (.int .i64 ((((p0.gRows.getD (i64).toNat api_Entry_z)).gCert).gRides)), .one (.int .i64 ((((p0.gRows.getD (i64).toNat api_Entry_z)).gCert).gPrice)), .ints .u8 32 ((((p0.gRows.getD (i64).toNat api_Entry_z)).gCert).gAnchor), .ints .u8 64 ((((p0.gRows.getD (i64).toNat api_Entry_z)).gCert).gSig), .one (.int .i64 (((p0.gRows.getD (i64).toNat api_Entry_z)).gIndex)), .ints .u8 32 (((p0.gRows.getD (i64).toNat api_Entry_z)).gValue), .one (.bool (((p0.gRows.getD (i64).toNat api_Entry_z)).gFrozen)), .ints .u8 64 (((p0.gRows.getD (i64).toNat api_Entry_z)).gFreeze), .one (.bool (((p0.gRows.getD (i64).toNat api_Entry_z)).gRevoked)), .ints .u8 64 (((p0.gRows.getD (i64).toNat api_Entry_z)).gRevoke)]) (c := 0) rfl (rd_arg A0_0 apart0) (inB_n c70) rfl rfl)) <| wj_q _ (q_mv rfl) <| wj_q _ (q_bin rfl rfl rfl) <| wj_nil <| wc_br h rfl (fun h => ?_) (fun h => ?_)
    ·refine wc_seq <| cH h fun c74 h => bH h fun x75 ex75 h => wc_ops <| wj_q _ (q_fa rfl) <| wj_q _ (q_ld1 rfl (.there .here) rfl) <| wj_q _ (q_mv rfl) <| wj_q _ (q_iasP rfl rfl (Shp.rd A0_0) c74) <| wj_q _ (az (fun (x75 : api_Entry) => agg [.one (.int .i64 (x75.gCert.gSerial)), .one (.int .i64 (x75.gCert.gRides)), .one (.int .i64 (x75.gCert.gPrice)), .ints .u8 32 (x75.gCert.gAnchor), .ints .u8 64 (x75.gCert.gSig), .one (.int .i64 (x75.gIndex)), .ints .u8 32 (x75.gValue), .one (.bool (x75.gFrozen)), .ints .u8 64 (x75.gFreeze), .one (.bool (x75.gRevoked)), .ints .u8 64 (x75.gRevoke)]) ex75 (q_ldM0 (E := E_api_Entry) (s := [.one (.int .i64 ((((p0.gRows.getD (i64).toNat api_Entry_z)).gCert).gSerial)), .one (.int .i64 ((((p0.gRows.getD (i64).toNat api_Entry_z)).gCert).gRides)), .one (.int .i64 ((((p0.gRows.getD (i64).toNat api_Entry_z)).gCert).gPrice)), .ints .u8 32 ((((p0.gRows.getD (i64).toNat api_Entry_z)).gCert).gAnchor), .ints .u8 64 ((((p0.gRows.getD (i64).toNat api_Entry_z)).gCert).gSig), .one (.int .i64 (((p0.gRows.getD (i64).toNat api_Entry_z)).gIndex)), .ints .u8 32 (((p0.gRows.getD (i64).toNat api_Entry_z)).gValue), .one (.bool (((p0.gRows.getD (i64).toNat api_Entry_z)).gFrozen)), .ints .u8 64 (((p0.gRows.getD (i64).toNat api_Entry_z)).gFreeze), .one (.bool (((p0.gRows.getD (i64).toNat api_Entry_z)).gRevoked)), .ints .u8 64 (((p0.gRows.getD (i64).toNat api_Entry_z)).gRevoke)]) rfl (rd_arg A0_0 apart0) (inB_n c74) rfl rfl)) <| wj_e (ef_st (p := [.one (.int .i64 (x75.gCert.gSerial)), .one (.int .i64 (x75.gCert.gRides)), .one (.int .i64 (x75.gCert.gPrice)), .ints .u8 32 (x75.gCert.gAnchor), .ints .u8 64 (x75.gCert.gSig), .one (.int .i64 (x75.gIndex)), .ints .u8 32 (x75.gValue), .one (.bool (x75.gFrozen)), .ints .u8 64 (x75.gFreeze), .one (.bool (x75.gRevoked)), .ints .u8 64 (x75.gRevoke)]) (q := [.one (.int .i64 (x75.gCert.gSerial)), .one (.int .i64 (x75.gCert.gRides)), .one (.int .i64 (x75.gCert.gPrice)), .ints .u8 32 (x75.gCert.gAnchor), .ints .u8 64 (x75.gCert.gSig), .one (.int .i64 (x75.gIndex)), .ints .u8 32 (x75.gValue), .one (.bool (x75.gFrozen)), .ints .u8 64 (x75.gFreeze), .one (.bool (x75.gRevoked)), .ints .u8 64 (x75.gRevoke)]) rfl rfl (by kernel_rfl) (by kernel_rfl) (by kernel_rfl) .here <| wj_q _ (q_mv rfl) <| wj_nil <| wc_ret ?_)
     revert h; refine ret_i fun h => ?_
     subst h
     exact ⟨_, (.cons (.agg rfl .here rfl) (.cons (.tmp rfl) .nil)), rfl⟩
    ·refine wc_skip <| bH h fun z77 ez77 h => wc_ops <| wj_q _ (q_mv rfl) <| wj_q _ (iz ez77 (q_bin rfl rfl rfl)) <| wj_q _ (q_mv rfl) <| wj_nil ?_
     rw [qk65] at h
     exact ⟨n66, Nat.lt_succ_self _, z77, h, ⟨⟨rfl, rfl, rfl, rfl, trivial⟩, (.one .here (.one .here .nil))⟩⟩
   ·exact wc_exit _ rfl <| ⟨h, ⟨⟨rfl, trivial⟩, (.one .here (.one .here .nil))⟩⟩
 ·rintro t m ⟨h, hF⟩
  refine wc_fit hF ?_
  clear hF
  subst qk41
  refine wc_seq <| wc_ops <| wj_q _ (q_bd (q := [.one (.int .i64 (0)), .one (.int .i64 (0)), .one (.int .i64 (0)), .ints .u8 32 ((List.replicate 32 0)), .ints .u8 64 ((List.replicate 64 0)), .one (.int .i64 (0)), .ints .u8 32 ((List.replicate 32 0)), .one (.bool (false)), .ints .u8 64 ((List.replicate 64 0)), .one (.bool (false)), .ints .u8 64 ((List.replicate 64 0))]) BdR.nil) <| wj_e (ef_st (p := [.one (.int .i64 (0)), .one (.int .i64 (0)), .one (.int .i64 (0)), .ints .u8 32 ((List.replicate 32 0)), .ints .u8 64 ((List.replicate 64 0)), .one (.int .i64 (0)), .ints .u8 32 ((List.replicate 32 0)), .one (.bool (false)), .ints .u8 64 ((List.replicate 64 0)), .one (.bool (false)), .ints .u8 64 ((List.replicate 64 0))]) (q := [.one (.int .i64 (0)), .one (.int .i64 (0)), .one (.int .i64 (0)), .ints .u8 32 ((List.replicate 32 0)), .ints .u8 64 ((List.replicate 64 0)), .one (.int .i64 (0)), .ints .u8 32 ((List.replicate 32 0)), .one (.bool (false)), .ints .u8 64 ((List.replicate 64 0)), .one (.bool (false)), .ints .u8 64 ((List.replicate 64 0))]) rfl rfl (by kernel_rfl) (by kernel_rfl) (by kernel_rfl) .here <| wj_q _ (q_mv rfl) <| wj_nil <| wc_ret ?_)
  revert h; refine ret_i fun h => ?_
  subst h
  exact ⟨_, (.cons (.agg rfl .here rfl) (.cons (.tmp rfl) .nil)), rfl⟩
/- farebox/fareboxref17.placed -/
def fareboxref17_placed_b1 (p0 : List (api_Entry)) (p1 : api_Entry) (k159 : (List (api_Entry)) → (Bool) → Option ((List (api_Entry)))) (k261 : (List (api_Entry)) → (Bool) → (Int) → Option ((List (api_Entry)))) (l257 : List (api_Entry)) (i259 : Bool) (i260 : Int) : Option ((List (api_Entry))) :=
 br ((decide (i260 < (p0.length : Int)))) (
 chk (imp (!i259) (inB i260 p0.length)) <|
 jn (fun (l280 : List (api_Entry)) (i282 : Bool) => chk (inB i260 p0.length) <|
 bnd (p0.getD (i260).toNat api_Entry_z) fun x297 =>
 chk (decide ((l280.length + ([x297] : List (api_Entry)).length) * 296 ≤ 140737488355328)) <|
 bnd (l280 ++ ([x297] : List (api_Entry))) fun l302 =>
 bnd (IntKind.wrap .i64 (i260 + 1)) fun z307 =>
 k261 l302 i282 z307) fun k283 => br (((!i259) && (decide (((p0.getD (i260).toNat api_Entry_z).gCert).gSerial > p1.gCert.gSerial)))) (
 chk (decide ((l257.length + ([p1] : List (api_Entry)).length) * 296 ≤ 140737488355328)) <|
 bnd (l257 ++ ([p1] : List (api_Entry))) fun l290 =>
 k283 l290 true
 ) (
 k283 l257 i259
 )
 ) (
 k159 l257 i259
 )
def fareboxref17_placed_l1 (p0 : List (api_Entry)) (p1 : api_Entry) (k159 : (List (api_Entry)) → (Bool) → Option ((List (api_Entry)))) : Nat → (List (api_Entry)) → (Bool) → (Int) → Option ((List (api_Entry)))
  | 0, _, _, _ => none
  | n + 1, l257, i259, i260 => fareboxref17_placed_b1 p0 p1 k159 (fareboxref17_placed_l1 p0 p1 k159 n) l257 i259 i260
def fareboxref17_placed (p0 : List (api_Entry)) (p1 : api_Entry) : Option ((List (api_Entry))) :=
 jn (fun (l156 : List (api_Entry)) (i158 : Bool) => jn (fun (l321 : List (api_Entry)) => some l321) fun k323 => br ((!i158)) (
 chk (decide ((l156.length + ([p1] : List (api_Entry)).length) * 296 ≤ 140737488355328)) <|
 bnd (l156 ++ ([p1] : List (api_Entry))) fun l330 =>
 k323 l330
 ) (
 k323 l156
 )) fun k159 => fareboxref17_placed_l1 p0 p1 k159 big [] false 0
theorem fareboxref17_placed_spec {W : World} {r : (List (api_Entry))} {p0 : List (api_Entry)} {p1 : api_Entry} {v0 : Value} (h : fareboxref17_placed p0 p1 = some r) (A0 : RdSl E_api_Entry W v0 p0) :
    Calls Try.prog 23 [v0, agg [.one (.int .i64 (p1.gCert.gSerial)), .one (.int .i64 (p1.gCert.gRides)), .one (.int .i64 (p1.gCert.gPrice)), .ints .u8 32 (p1.gCert.gAnchor), .ints .u8 64 (p1.gCert.gSig), .one (.int .i64 (p1.gIndex)), .ints .u8 32 (p1.gValue), .one (.bool (p1.gFrozen)), .ints .u8 64 (p1.gFreeze), .one (.bool (p1.gRevoked)), .ints .u8 64 (p1.gRevoke)]].toArray W (retS W [] (fun v Ms => ∃ (u0 : Value) (M0 : List Chunk), v = u0 ∧ Ms = [.all M0] ∧ OwnSl E_api_Entry u0 M0 r)) := by
 unfold fareboxref17_placed at h
 refine calls_memT mo ok23 rfl (sat0 _) ?_
 refine wc_seq <| wc_ops <| wj_e (ef_bx (s := [.one (.int .i64 (p1.gCert.gSerial)), .one (.int .i64 (p1.gCert.gRides)), .one (.int .i64 (p1.gCert.gPrice)), .ints .u8 32 (p1.gCert.gAnchor), .ints .u8 64 (p1.gCert.gSig), .one (.int .i64 (p1.gIndex)), .ints .u8 32 (p1.gValue), .one (.bool (p1.gFrozen)), .ints .u8 64 (p1.gFreeze), .one (.bool (p1.gRevoked)), .ints .u8 64 (p1.gRevoke)]) rfl fun b2 hb2 => wj_q _ (q_mv rfl) <| wj_nil <| wc_seq <| wc_ops <| wj_q _ (q_mv rfl) <| wj_nil <| wc_seq <| wc_ops <| wj_q _ (q_mv rfl) <| wj_nil <| wc_seq <| wc_seq <| wc_ops <| wj_q _ (q_mv rfl) <| wj_nil <| jH h fun k159 qk159 h => wc_mono2 (G := fun t m => ∃ (l156 : List (api_Entry)) (i158 : Bool) (v154 : Value) (ms155 : List Chunk), k159 l156 i158 = some r ∧ OwnSl E_api_Entry v154 ms155 l156 ∧ Fit [(3, .pointer (some ⟨b2, 0, none⟩)), (5, v154), (6, .bool (i158))] (ck b2 45 [.one (.int .i64 (p1.gCert.gSerial)), .one (.int .i64 (p1.gCert.gRides)), .one (.int .i64 (p1.gCert.gPrice)), .ints .u8 32 (p1.gCert.gAnchor), .ints .u8 64 (p1.gCert.gSig), .one (.int .i64 (p1.gIndex)), .ints .u8 32 (p1.gValue), .one (.bool (p1.gFrozen)), .ints .u8 64 (p1.gFreeze), .one (.bool (p1.gRevoked)), .ints .u8 64 (p1.gRevoke)] :: (ms155 ++ [])) t m) ?_ ?_)
 ·refine wc_block <| wc_loopJ (fun n262 t m => ∃ (l257 : List (api_Entry)) (i259 : Bool) (i260 : Int) (v255 : Value) (ms256 : List Chunk), fareboxref17_placed_l1 p0 p1 k159 n262 l257 i259 i260 = some r ∧ OwnSl E_api_Entry v255 ms256 l257 ∧ Fit [(0, v0), (3, .pointer (some ⟨b2, 0, none⟩)), (5, v255), (6, .bool (i259)), (7, .int .i64 (i260))] (ck b2 45 [.one (.int .i64 (p1.gCert.gSerial)), .one (.int .i64 (p1.gCert.gRides)), .one (.int .i64 (p1.gCert.gPrice)), .ints .u8 32 (p1.gCert.gAnchor), .ints .u8 64 (p1.gCert.gSig), .one (.int .i64 (p1.gIndex)), .ints .u8 32 (p1.gValue), .one (.bool (p1.gFrozen)), .ints .u8 64 (p1.gFreeze), .one (.bool (p1.gRevoked)), .ints .u8 64 (p1.gRevoke)] :: (ms256 ++ [])) t m) big ?_ ?_
  ·exact ⟨[], false, 0, (.slice none 0 0), [], h, own_nil, ⟨⟨rfl, rfl, rfl, rfl, rfl, trivial⟩, (.one .here (.no .nil))⟩⟩
  ·rintro n262 t m ⟨l257, i259, i260, v255, ms256, h, O258, hF⟩
   refine wc_fit hF ?_
   clear hF
   rcases n262 with _ | n262
   · exact none_i h
   have h : fareboxref17_placed_b1 p0 p1 k159 (fareboxref17_placed_l1 p0 p1 k159 n262) l257 i259 i260 = some r := h
   unfold fareboxref17_placed_b1 at h
   obtain ⟨k261, qk261⟩ : ∃ k, k = fareboxref17_placed_l1 p0 p1 k159 n262 := ⟨_, rfl⟩
   try rw [← qk261] at h
   refine wc_seq <| wc_seq <| wc_ops <| wj_q _ (q_mv rfl) <| wj_q _ (q_mv rfl) <| wj_q _ (q_lenP rfl (Shp.rd A0)) <| wj_q _ (q_bin rfl rfl rfl) <| wj_nil <| wc_br h rfl (fun h => ?_) (fun h => ?_)
   ·refine wc_skip <| wc_seq <| wc_block <| wc_seq <| wc_seq <| cH h fun c266 h => wc_draw <| ws_p1 _ (q_mv rfl) <| ws_p1 _ (q_un rfl rfl) <| ws_p1 _ (q_mv rfl) <| ws_and rfl rfl rfl (fun hg1 => qj_g rfl _ (q_mv rfl) (qj_g rfl _ (q_mv rfl) (qj_g rfl _ (q_iasP rfl rfl (Shp.rd A0) (imp_t c266 hg1)) (qj_g rfl _ (q_fa rfl) (qj_g rfl _ (q_fa rfl) (qj_g rfl _ (az (fun (zz : api_Entry) => .int .i64 (zz.gCert.gSerial)) rfl (q_ldM1 (E := E_api_Entry) (s := [.one (.int .i64 ((((p0.getD (i260).toNat api_Entry_z)).gCert).gSerial)), .one (.int .i64 ((((p0.getD (i260).toNat api_Entry_z)).gCert).gRides)), .one (.int .i64 ((((p0.getD (i260).toNat api_Entry_z)).gCert).gPrice)), .ints .u8 32 ((((p0.getD (i260).toNat api_Entry_z)).gCert).gAnchor), .ints .u8 64 ((((p0.getD (i260).toNat api_Entry_z)).gCert).gSig), .one (.int .i64 (((p0.getD (i260).toNat api_Entry_z)).gIndex)), .ints .u8 32 (((p0.getD (i260).toNat api_Entry_z)).gValue), .one (.bool (((p0.getD (i260).toNat api_Entry_z)).gFrozen)), .ints .u8 64 (((p0.getD (i260).toNat api_Entry_z)).gFreeze), .one (.bool (((p0.getD (i260).toNat api_Entry_z)).gRevoked)), .ints .u8 64 (((p0.getD (i260).toNat api_Entry_z)).gRevoke)]) (c := 0) rfl (rd_arg A0 apart0) (inB_n (imp_t c266 hg1)) rfl rfl)) (qj_g rfl _ (q_fa rfl) (qj_g rfl _ (q_fa rfl) (qj_g rfl _ (q_ld1 rfl .here rfl) (qj_g rfl _ (q_bin rfl rfl rfl) (qj_nil))))))))))) (fun hg1 => rfl) rfl <| ws_nil <| jH h fun k283 qk283 h => wc_mono2 (G := fun t m => ∃ (l280 : List (api_Entry)) (i282 : Bool) (v278 : Value) (ms279 : List Chunk), k283 l280 i282 = some r ∧ OwnSl E_api_Entry v278 ms279 l280 ∧ Fit [(0, v0), (3, .pointer (some ⟨b2, 0, none⟩)), (5, v278), (6, .bool (i282)), (7, .int .i64 (i260))] (ck b2 45 [.one (.int .i64 (p1.gCert.gSerial)), .one (.int .i64 (p1.gCert.gRides)), .one (.int .i64 (p1.gCert.gPrice)), .ints .u8 32 (p1.gCert.gAnchor), .ints .u8 64 (p1.gCert.gSig), .one (.int .i64 (p1.gIndex)), .ints .u8 32 (p1.gValue), .one (.bool (p1.gFrozen)), .ints .u8 64 (p1.gFreeze), .one (.bool (p1.gRevoked)), .ints .u8 64 (p1.gRevoke)] :: (ms279 ++ [])) t m) ?_ ?_
    ·refine wc_br h rfl (fun h => ?_) (fun h => ?_)
     ·exact wc_seq <| cH h fun c289 h => bH h fun l290 el290 h => wc_ops <| wj_q _ (q_mv rfl) <| wj_q _ (q_ld (p := [.one (.int .i64 (p1.gCert.gSerial)), .one (.int .i64 (p1.gCert.gRides)), .one (.int .i64 (p1.gCert.gPrice)), .ints .u8 32 (p1.gCert.gAnchor), .ints .u8 64 (p1.gCert.gSig), .one (.int .i64 (p1.gIndex)), .ints .u8 32 (p1.gValue), .one (.bool (p1.gFrozen)), .ints .u8 64 (p1.gFreeze), .one (.bool (p1.gRevoked)), .ints .u8 64 (p1.gRevoke)]) rfl .here (by kernel_rfl)) <| wj_e (ef_bsO (E := E_api_Entry) (xs := [p1]) (BdR.whole (p := [.one (.int .i64 (p1.gCert.gSerial)), .one (.int .i64 (p1.gCert.gRides)), .one (.int .i64 (p1.gCert.gPrice)), .ints .u8 32 (p1.gCert.gAnchor), .ints .u8 64 (p1.gCert.gSig), .one (.int .i64 (p1.gIndex)), .ints .u8 32 (p1.gValue), .one (.bool (p1.gFrozen)), .ints .u8 64 (p1.gFreeze), .one (.bool (p1.gRevoked)), .ints .u8 64 (p1.gRevoke)]) rfl (by kernel_rfl) (by kernel_rfl)) (.cons (p := [.one (.int .i64 (p1.gCert.gSerial)), .one (.int .i64 (p1.gCert.gRides)), .one (.int .i64 (p1.gCert.gPrice)), .ints .u8 32 (p1.gCert.gAnchor), .ints .u8 64 (p1.gCert.gSig), .one (.int .i64 (p1.gIndex)), .ints .u8 32 (p1.gValue), .one (.bool (p1.gFrozen)), .ints .u8 64 (p1.gFreeze), .one (.bool (p1.gRevoked)), .ints .u8 64 (p1.gRevoke)]) rfl .nil) rfl fun v286 ms287 O288 => wj_e (ef_appO (E := E_api_Entry) el290 rfl O258 (.app (.there .here)) rfl (rd_own O288 .here) c289 fun v291 ms292 O293 => wj_q _ (q_mv rfl) <| wj_nil <| wc_ops <| wj_q _ (q_mv rfl) <| wj_nil <| ⟨l290, true, v291, ms292, h, O293, ⟨⟨rfl, rfl, rfl, rfl, rfl, trivial⟩, (.one (.app (.app .here)) (.all .here .nil))⟩⟩))
     ·exact wc_skip <| ⟨l257, i259, v255, ms256, h, O258, ⟨⟨rfl, rfl, rfl, rfl, rfl, trivial⟩, (.one .here (.all .here .nil))⟩⟩
    ·rintro t m ⟨l280, i282, v278, ms279, h, O281, hF⟩
     refine wc_fit hF ?_
     clear hF
     subst qk283
     refine cH h fun c296 h => bH h fun x297 ex297 h => cH h fun c301 h => bH h fun l302 el302 h => wc_ops <| wj_q _ (q_mv rfl) <| wj_q _ (q_mv rfl) <| wj_q _ (q_mv rfl) <| wj_q _ (q_iasP rfl rfl (Shp.rd A0) c296) <| wj_q _ (az (fun (x297 : api_Entry) => agg [.one (.int .i64 (x297.gCert.gSerial)), .one (.int .i64 (x297.gCert.gRides)), .one (.int .i64 (x297.gCert.gPrice)), .ints .u8 32 (x297.gCert.gAnchor), .ints .u8 64 (x297.gCert.gSig), .one (.int .i64 (x297.gIndex)), .ints .u8 32 (x297.gValue), .one (.bool (x297.gFrozen)), .ints .u8 64 (x297.gFreeze), .one (.bool (x297.gRevoked)), .ints .u8 64 (x297.gRevoke)]) ex297 (q_ldM0 (E := E_api_Entry) (s := [.one (.int .i64 ((((p0.getD (i260).toNat api_Entry_z)).gCert).gSerial)), .one (.int .i64 ((((p0.getD (i260).toNat api_Entry_z)).gCert).gRides)), .one (.int .i64 ((((p0.getD (i260).toNat api_Entry_z)).gCert).gPrice)), .ints .u8 32 ((((p0.getD (i260).toNat api_Entry_z)).gCert).gAnchor), .ints .u8 64 ((((p0.getD (i260).toNat api_Entry_z)).gCert).gSig), .one (.int .i64 (((p0.getD (i260).toNat api_Entry_z)).gIndex)), .ints .u8 32 (((p0.getD (i260).toNat api_Entry_z)).gValue), .one (.bool (((p0.getD (i260).toNat api_Entry_z)).gFrozen)), .ints .u8 64 (((p0.getD (i260).toNat api_Entry_z)).gFreeze), .one (.bool (((p0.getD (i260).toNat api_Entry_z)).gRevoked)), .ints .u8 64 (((p0.getD (i260).toNat api_Entry_z)).gRevoke)]) rfl (rd_arg A0 apart0) (inB_n c296) rfl rfl)) <| wj_e (ef_bsO (E := E_api_Entry) (xs := [x297]) (BdR.whole (p := [.one (.int .i64 (x297.gCert.gSerial)), .one (.int .i64 (x297.gCert.gRides)), .one (.int .i64 (x297.gCert.gPrice)), .ints .u8 32 (x297.gCert.gAnchor), .ints .u8 64 (x297.gCert.gSig), .one (.int .i64 (x297.gIndex)), .ints .u8 32 (x297.gValue), .one (.bool (x297.gFrozen)), .ints .u8 64 (x297.gFreeze), .one (.bool (x297.gRevoked)), .ints .u8 64 (x297.gRevoke)]) rfl (by kernel_rfl) (by kernel_rfl)) (.cons (p := [.one (.int .i64 (x297.gCert.gSerial)), .one (.int .i64 (x297.gCert.gRides)), .one (.int .i64 (x297.gCert.gPrice)), .ints .u8 32 (x297.gCert.gAnchor), .ints .u8 64 (x297.gCert.gSig), .one (.int .i64 (x297.gIndex)), .ints .u8 32 (x297.gValue), .one (.bool (x297.gFrozen)), .ints .u8 64 (x297.gFreeze), .one (.bool (x297.gRevoked)), .ints .u8 64 (x297.gRevoke)]) rfl .nil) rfl fun v298 ms299 O300 => wj_e (ef_appO (E := E_api_Entry) el302 rfl O281 (.app (.there .here)) rfl (rd_own O300 .here) c301 fun v303 ms304 O305 => wj_q _ (q_mv rfl) <| wj_nil <| bH h fun z307 ez307 h => wc_ops <| wj_q _ (q_mv rfl) <| wj_q _ (iz ez307 (q_bin rfl rfl rfl)) <| wj_q _ (q_mv rfl) <| wj_nil ?_))
     rw [qk261] at h
     exact ⟨n262, Nat.lt_succ_self _, l302, i282, z307, v303, ms304, h, O305, ⟨⟨rfl, rfl, rfl, rfl, rfl, trivial⟩, (.one (.app (.app .here)) (.all .here .nil))⟩⟩
   ·exact wc_exit _ rfl <| ⟨l257, i259, v255, ms256, h, O258, ⟨⟨rfl, rfl, rfl, trivial⟩, (.one .here (.all .here .nil))⟩⟩
 ·rintro t m ⟨l156, i158, v154, ms155, h, O157, hF⟩
  refine wc_fit hF ?_
  clear hF
  subst qk159
  refine wc_seq <| wc_seq <| wc_ops <| wj_q _ (q_mv rfl) <| wj_q _ (q_un rfl rfl) <| wj_nil <| jH h fun k323 qk323 h => wc_mono2 (G := fun t m => ∃ (l321 : List (api_Entry)) (v319 : Value) (ms320 : List Chunk), k323 l321 = some r ∧ OwnSl E_api_Entry v319 ms320 l321 ∧ Fit [(5, v319)] (ck b2 45 [.one (.int .i64 (p1.gCert.gSerial)), .one (.int .i64 (p1.gCert.gRides)), .one (.int .i64 (p1.gCert.gPrice)), .ints .u8 32 (p1.gCert.gAnchor), .ints .u8 64 (p1.gCert.gSig), .one (.int .i64 (p1.gIndex)), .ints .u8 32 (p1.gValue), .one (.bool (p1.gFrozen)), .ints .u8 64 (p1.gFreeze), .one (.bool (p1.gRevoked)), .ints .u8 64 (p1.gRevoke)] :: (ms320 ++ [])) t m) ?_ ?_
  ·refine wc_br h rfl (fun h => ?_) (fun h => ?_)
   ·exact cH h fun c329 h => bH h fun l330 el330 h => wc_ops <| wj_q _ (q_mv rfl) <| wj_q _ (q_ld (p := [.one (.int .i64 (p1.gCert.gSerial)), .one (.int .i64 (p1.gCert.gRides)), .one (.int .i64 (p1.gCert.gPrice)), .ints .u8 32 (p1.gCert.gAnchor), .ints .u8 64 (p1.gCert.gSig), .one (.int .i64 (p1.gIndex)), .ints .u8 32 (p1.gValue), .one (.bool (p1.gFrozen)), .ints .u8 64 (p1.gFreeze), .one (.bool (p1.gRevoked)), .ints .u8 64 (p1.gRevoke)]) rfl .here (by kernel_rfl)) <| wj_e (ef_bsO (E := E_api_Entry) (xs := [p1]) (BdR.whole (p := [.one (.int .i64 (p1.gCert.gSerial)), .one (.int .i64 (p1.gCert.gRides)), .one (.int .i64 (p1.gCert.gPrice)), .ints .u8 32 (p1.gCert.gAnchor), .ints .u8 64 (p1.gCert.gSig), .one (.int .i64 (p1.gIndex)), .ints .u8 32 (p1.gValue), .one (.bool (p1.gFrozen)), .ints .u8 64 (p1.gFreeze), .one (.bool (p1.gRevoked)), .ints .u8 64 (p1.gRevoke)]) rfl (by kernel_rfl) (by kernel_rfl)) (.cons (p := [.one (.int .i64 (p1.gCert.gSerial)), .one (.int .i64 (p1.gCert.gRides)), .one (.int .i64 (p1.gCert.gPrice)), .ints .u8 32 (p1.gCert.gAnchor), .ints .u8 64 (p1.gCert.gSig), .one (.int .i64 (p1.gIndex)), .ints .u8 32 (p1.gValue), .one (.bool (p1.gFrozen)), .ints .u8 64 (p1.gFreeze), .one (.bool (p1.gRevoked)), .ints .u8 64 (p1.gRevoke)]) rfl .nil) rfl fun v326 ms327 O328 => wj_e (ef_appO (E := E_api_Entry) el330 rfl O157 (.app (.there .here)) rfl (rd_own O328 .here) c329 fun v331 ms332 O333 => wj_q _ (q_mv rfl) <| wj_nil <| ⟨l330, v331, ms332, h, O333, ⟨⟨rfl, trivial⟩, (.one (.app (.app .here)) (.all .here .nil))⟩⟩))
   ·exact wc_skip <| ⟨l156, v154, ms155, h, O157, ⟨⟨rfl, trivial⟩, (.one .here (.all .here .nil))⟩⟩
  ·rintro t m ⟨l321, v319, ms320, h, O322, hF⟩
   refine wc_fit hF ?_
   clear hF
   subst qk323
   refine wc_seq <| wc_ops <| wj_q _ (q_mv rfl) <| wj_q _ (q_mv rfl) <| wj_nil <| wc_ret ?_
   revert h; refine ret_i fun h => ?_
   subst h
   exact ⟨_, _, (.cons (.tmp rfl) .nil), (.all (.there .here) .nil), ⟨_, rfl, ⟨v319, ms320, rfl, rfl, O322⟩⟩⟩
/- farebox/fareboxref17.above -/
def fareboxref17_above_b1 (p0 : List Int) (p1 : List Int) (k51 : Unit → Option (Bool)) (k83 : (Int) → Option (Bool)) (i82 : Int) : Option (Bool) :=
 br ((decide (i82 < (p0.length : Int)))) (
 chk (inB i82 p0.length) <|
 chk (inB i82 p1.length) <|
 bnd (p0.getD (i82).toNat 0) fun z90 =>
 bnd (p1.getD (i82).toNat 0) fun z91 =>
 br ((z90 != z91)) (
 chk (inB i82 p0.length) <|
 chk (inB i82 p1.length) <|
 bnd (p0.getD (i82).toNat 0) fun z96 =>
 bnd (p1.getD (i82).toNat 0) fun z97 =>
 some (decide (z96 > z97))
 ) (
 bnd (IntKind.wrap .i64 (i82 + 1)) fun z99 =>
 k83 z99
 )
 ) (
 k51 ()
 )
def fareboxref17_above_l1 (p0 : List Int) (p1 : List Int) (k51 : Unit → Option (Bool)) : Nat → (Int) → Option (Bool)
  | 0, _ => none
  | n + 1, i82 => fareboxref17_above_b1 p0 p1 k51 (fareboxref17_above_l1 p0 p1 k51 n) i82
def fareboxref17_above (p0 : List Int) (p1 : List Int) : Option (Bool) :=
 jn (fun (_ : Unit) => some false) fun k51 => fareboxref17_above_l1 p0 p1 k51 big 0
theorem fareboxref17_above_spec {W : World} {r : Bool} {p0 : List Int} {p1 : List Int} {v0 : Value} {v1 : Value} (h : fareboxref17_above p0 p1 = some r) (A0 : RdSl (El.int .u8) W v0 p0) (A1 : RdSl (El.int .u8) W v1 p1) :
    Calls Try.prog 26 [v0, v1].toArray W (ret1 W (.bool (r))) := by
 unfold fareboxref17_above at h
 refine calls_val mo ok26 rfl ?_
 refine wc_seq <| wc_ops <| wj_q _ (q_mv rfl) <| wj_nil <| wc_seq <| wc_seq <| wc_ops <| wj_q _ (q_mv rfl) <| wj_nil <| jH h fun k51 qk51 h => wc_mono2 (G := fun t m => k51 () = some r ∧ Fit [] [] t m) ?_ ?_
 ·refine wc_block <| wc_loopJ (fun n84 t m => ∃ (i82 : Int), fareboxref17_above_l1 p0 p1 k51 n84 i82 = some r ∧ Fit [(0, v0), (1, v1), (5, .int .i64 (i82))] [] t m) big ?_ ?_
  ·exact ⟨0, h, ⟨⟨rfl, rfl, rfl, trivial⟩, .nil⟩⟩
  ·rintro n84 t m ⟨i82, h, hF⟩
   refine wc_fit hF ?_
   clear hF
   rcases n84 with _ | n84
   · exact none_i h
   have h : fareboxref17_above_b1 p0 p1 k51 (fareboxref17_above_l1 p0 p1 k51 n84) i82 = some r := h
   unfold fareboxref17_above_b1 at h
   obtain ⟨k83, qk83⟩ : ∃ k, k = fareboxref17_above_l1 p0 p1 k51 n84 := ⟨_, rfl⟩
   try rw [← qk83] at h
   refine wc_seq <| wc_seq <| wc_ops <| wj_q _ (q_mv rfl) <| wj_q _ (q_mv rfl) <| wj_q _ (q_lenP rfl (Shp.rd A0)) <| wj_q _ (q_bin rfl rfl rfl) <| wj_nil <| wc_br h rfl (fun h => ?_) (fun h => ?_)
   ·refine wc_skip <| wc_seq <| wc_block <| wc_seq <| cH h fun c88 h => cH h fun c89 h => bH h fun z90 ez90 h => bH h fun z91 ez91 h => wc_draw <| ws_p1 _ (q_mv rfl) <| ws_p1 _ (q_mv rfl) <| ws_p1 _ (q_iasP rfl rfl (Shp.rd A0) c88) <| ws_p1 _ (q_mv rfl) <| ws_p1 _ (q_mv rfl) <| ws_p1 _ (q_iasP rfl rfl (Shp.rd A1) c89) <| ws_q1 _ (iz ez90 (q_ldM10 (E := (El.int .u8)) (s := [.one (.int .u8 (p0.getD (i82).toNat 0))]) rfl (rd_arg A0 apart0) (inB_n c88) rfl rfl)) <| ws_q1 _ (iz ez91 (q_ldM10 (E := (El.int .u8)) (s := [.one (.int .u8 (p1.getD (i82).toNat 0))]) rfl (rd_arg A1 apart0) (inB_n c89) rfl rfl)) <| ws_p1 _ (q_bin rfl rfl rfl) <| ws_nil <| wc_br h rfl (fun h => ?_) (fun h => ?_)
    ·refine wc_seq <| cH h fun c94 h => cH h fun c95 h => bH h fun z96 ez96 h => bH h fun z97 ez97 h => wc_draw <| ws_p1 _ (q_mv rfl) <| ws_p1 _ (q_mv rfl) <| ws_p1 _ (q_iasP rfl rfl (Shp.rd A0) c94) <| ws_p1 _ (q_mv rfl) <| ws_p1 _ (q_mv rfl) <| ws_p1 _ (q_iasP rfl rfl (Shp.rd A1) c95) <| ws_q1 _ (iz ez96 (q_ldM10 (E := (El.int .u8)) (s := [.one (.int .u8 (p0.getD (i82).toNat 0))]) rfl (rd_arg A0 apart0) (inB_n c94) rfl rfl)) <| ws_q1 _ (iz ez97 (q_ldM10 (E := (El.int .u8)) (s := [.one (.int .u8 (p1.getD (i82).toNat 0))]) rfl (rd_arg A1 apart0) (inB_n c95) rfl rfl)) <| ws_p1 _ (q_bin rfl rfl rfl) <| ws_p1 _ (q_mv rfl) <| ws_nil <| wc_ret ?_
     revert h; refine ret_i fun h => ?_
     subst h
     exact ⟨_, (.cons (.tmp rfl) .nil), rfl⟩
    ·refine wc_skip <| bH h fun z99 ez99 h => wc_ops <| wj_q _ (q_mv rfl) <| wj_q _ (iz ez99 (q_bin rfl rfl rfl)) <| wj_q _ (q_mv rfl) <| wj_nil ?_
     rw [qk83] at h
     exact ⟨n84, Nat.lt_succ_self _, z99, h, ⟨⟨rfl, rfl, rfl, trivial⟩, .nil⟩⟩
   ·exact wc_exit _ rfl <| ⟨h, ⟨trivial, .nil⟩⟩
 ·rintro t m ⟨h, hF⟩
  refine wc_fit hF ?_
  clear hF
  subst qk51
  refine wc_seq <| wc_ops <| wj_q _ (q_mv rfl) <| wj_nil <| wc_ret ?_
  revert h; refine ret_i fun h => ?_
  subst h
  exact ⟨_, (.cons (.tmp rfl) .nil), rfl⟩
/- farebox/fareboxref17.sealed -/
def fareboxref17_sealed (p0 : Bool) (p1 : List Int) (p2 : Bool) (p3 : List Int) : Option (Bool × (List Int)) :=
 br ((p0 && p2)) (
 opt (fareboxref17_above (tk p1 0 64) (tk p3 0 64)) fun y8 =>
 br (y8) (
 some (true, p1)
 ) (
 some (true, p3)
 )
 ) (
 br (p0) (
 some (true, p1)
 ) (
 br (p2) (
 some (true, p3)
 ) (
 bnd (([0, 0, 0, 0, 0, 0, 0, 0, 0, 0, 0, 0, 0, 0, 0, 0, 0, 0, 0, 0, 0, 0, 0, 0, 0, 0, 0, 0, 0, 0, 0, 0, 0, 0, 0, 0, 0, 0, 0, 0, 0, 0, 0, 0, 0, 0, 0, 0, 0, 0, 0, 0, 0, 0, 0, 0, 0, 0, 0, 0, 0, 0, 0, 0] : List Int)) fun z19 =>
 some (false, z19)
 )
 )
 )
theorem fareboxref17_sealed_spec {W : World} {r : Bool × (List Int)} {p0 : Bool} {p1 : List Int} {p2 : Bool} {p3 : List Int} (h : fareboxref17_sealed p0 p1 p2 p3 = some r)  :
    Calls Try.prog 27 [.bool (p0), agg [.ints .u8 64 (p1)], .bool (p2), agg [.ints .u8 64 (p3)]].toArray W (ret1 W (.tuple #[.bool (r.1), agg [.ints .u8 64 (r.2)]])) := by
 unfold fareboxref17_sealed at h
 refine calls_val mo ok27 rfl ?_
 refine wc_seq <| wc_ops <| wj_e (ef_bx (s := [.ints .u8 64 (p1)]) rfl fun b2 hb2 => wj_e (ef_bx (s := [.ints .u8 64 (p3)]) rfl fun b3 hb3 => wj_q _ (q_mv rfl) <| wj_e (ef_al fun b4 hb4 => wj_nil <| wc_seq <| wc_seq <| wc_ops <| wj_q _ (q_mv rfl) <| wj_q _ (q_mv rfl) <| wj_and rfl rfl rfl (fun hg1 => qj_g rfl _ (q_mv rfl) (qj_nil)) (fun hg1 => rfl) rfl <| wj_nil <| wc_br h rfl (fun h => ?_) (fun h => ?_))))
 ·refine wc_seq <| wc_seq <| oH h fun y8 ey8 h => wc_draw <| ws_p1 _ (q_sla rfl .no .no .no (by simp) (by decide)) <| ws_p1 _ (q_sla rfl .no .no .no (by simp) (by decide)) <| ws_q1 _ (q_call rfl (fun w hw => fareboxref17_above_spec ey8 ((rd_blk_i (s := [.ints .u8 64 (p1)]) (N := 64) (k := .u8) (base := 0) (lo := 0) (hi := 64) (mz := 64) (.there (.there .here)) rfl (by decide)) w hw) ((rd_blk_i (s := [.ints .u8 64 (p3)]) (N := 64) (k := .u8) (base := 0) (lo := 0) (hi := 64) (mz := 64) (.there .here) rfl (by decide)) w hw))) <| ws_nil <| wc_br h rfl (fun h => ?_) (fun h => ?_)
  ·refine wc_seq <| wc_draw <| ws_p1 _ (q_mv rfl) <| ws_q1 _ (q_ld (p := [.ints .u8 64 (p1)]) rfl (.there (.there .here)) rfl) <| ws_eL rfl (ef_st (q := [.ints .u8 64 (p1)]) rfl rfl rfl rfl rfl .here <| ws_nil <| wc_ret ?_)
   revert h; refine ret_i fun h => ?_
   subst h
   exact ⟨_, (.cons (.tmp rfl) (.cons (.agg rfl .here rfl) .nil)), rfl⟩
  ·refine wc_skip <| wc_seq <| wc_draw <| ws_p1 _ (q_mv rfl) <| ws_q1 _ (q_ld (p := [.ints .u8 64 (p3)]) rfl (.there .here) rfl) <| ws_eL rfl (ef_st (q := [.ints .u8 64 (p3)]) rfl rfl rfl rfl rfl .here <| ws_nil <| wc_ret ?_)
   revert h; refine ret_i fun h => ?_
   subst h
   exact ⟨_, (.cons (.tmp rfl) (.cons (.agg rfl .here rfl) .nil)), rfl⟩
 ·refine wc_skip <| wc_seq <| wc_seq <| wc_ops <| wj_q _ (q_mv rfl) <| wj_nil <| wc_br h rfl (fun h => ?_) (fun h => ?_)
  ·refine wc_seq <| wc_draw <| ws_p1 _ (q_mv rfl) <| ws_q1 _ (q_ld (p := [.ints .u8 64 (p1)]) rfl (.there (.there .here)) rfl) <| ws_eL rfl (ef_st (q := [.ints .u8 64 (p1)]) rfl rfl rfl rfl rfl .here <| ws_nil <| wc_ret ?_)
   revert h; refine ret_i fun h => ?_
   subst h
   exact ⟨_, (.cons (.tmp rfl) (.cons (.agg rfl .here rfl) .nil)), rfl⟩
  ·refine wc_skip <| wc_seq <| wc_seq <| wc_ops <| wj_q _ (q_mv rfl) <| wj_nil <| wc_br h rfl (fun h => ?_) (fun h => ?_)
   ·refine wc_seq <| wc_draw <| ws_p1 _ (q_mv rfl) <| ws_q1 _ (q_ld (p := [.ints .u8 64 (p3)]) rfl (.there .here) rfl) <| ws_eL rfl (ef_st (q := [.ints .u8 64 (p3)]) rfl rfl rfl rfl rfl .here <| ws_nil <| wc_ret ?_)
    revert h; refine ret_i fun h => ?_
    subst h
    exact ⟨_, (.cons (.tmp rfl) (.cons (.agg rfl .here rfl) .nil)), rfl⟩
   ·refine wc_skip <| wc_seq <| bH h fun z19 ez19 h => wc_ops <| wj_q _ (az (fun z => agg [.ints .u8 64 z]) ez19 (q_bd BdR.nil)) <| wj_q _ (q_mv rfl) <| wj_e (ef_st (q := [.ints .u8 64 (z19)]) rfl rfl rfl rfl rfl .here <| wj_nil <| wc_ret ?_)
    revert h; refine ret_i fun h => ?_
    subst h
    exact ⟨_, (.cons (.tmp rfl) (.cons (.agg rfl .here rfl) .nil)), rfl⟩
/- farebox/fareboxref17.Join -/
def fareboxref17_Join (p0 : api_Entry) (p1 : api_Entry) : Option (api_Entry × Int) :=
 br ((!((p0.gCert.gSerial == p1.gCert.gSerial) && ((p0.gCert.gRides == p1.gCert.gRides) && ((p0.gCert.gPrice == p1.gCert.gPrice) && ((ieq 32 p0.gCert.gAnchor p1.gCert.gAnchor) && (ieq 64 p0.gCert.gSig p1.gCert.gSig))))))) (
 some ((⟨(⟨0, 0, 0, (List.replicate 32 0), (List.replicate 64 0)⟩ : api_Cert), 0, (List.replicate 32 0), false, (List.replicate 64 0), false, (List.replicate 64 0)⟩ : api_Entry), 171)
 ) (
 chk (imp (!(decide (p1.gIndex > p0.gIndex))) (imp (p1.gIndex == p0.gIndex) ((fareboxref17_above (tk p1.gValue 0 32) (tk p0.gValue 0 32)).isSome))) <|
 jn (fun (i15 : Int) (a16 : List Int) => opt (fareboxref17_sealed p0.gFrozen p0.gFreeze p1.gFrozen p1.gFreeze) fun y22 =>
 opt (fareboxref17_sealed p0.gRevoked p0.gRevoke p1.gRevoked p1.gRevoke) fun y24 =>
 some ((⟨p0.gCert, i15, a16, y22.1, y22.2, y24.1, y24.2⟩ : api_Entry), 0)) fun k17 => br (((decide (p1.gIndex > p0.gIndex)) || ((p1.gIndex == p0.gIndex) && ((fareboxref17_above (tk p1.gValue 0 32) (tk p0.gValue 0 32)).getD false)))) (
 k17 p1.gIndex p1.gValue
 ) (
 k17 p0.gIndex p0.gValue
 )
 )
theorem fareboxref17_Join_spec {W : World} {r : api_Entry × Int} {p0 : api_Entry} {p1 : api_Entry} (h : fareboxref17_Join p0 p1 = some r)  :
    Calls Try.prog 24 [agg [.one (.int .i64 (p0.gCert.gSerial)), .one (.int .i64 (p0.gCert.gRides)), .one (.int .i64 (p0.gCert.gPrice)), .ints .u8 32 (p0.gCert.gAnchor), .ints .u8 64 (p0.gCert.gSig), .one (.int .i64 (p0.gIndex)), .ints .u8 32 (p0.gValue), .one (.bool (p0.gFrozen)), .ints .u8 64 (p0.gFreeze), .one (.bool (p0.gRevoked)), .ints .u8 64 (p0.gRevoke)], agg [.one (.int .i64 (p1.gCert.gSerial)), .one (.int .i64 (p1.gCert.gRides)), .one (.int .i64 (p1.gCert.gPrice)), .ints .u8 32 (p1.gCert.gAnchor), .ints .u8 64 (p1.gCert.gSig), .one (.int .i64 (p1.gIndex)), .ints .u8 32 (p1.gValue), .one (.bool (p1.gFrozen)), .ints .u8 64 (p1.gFreeze), .one (.bool (p1.gRevoked)), .ints .u8 64 (p1.gRevoke)]].toArray W (ret1 W (.tuple #[agg [.one (.int .i64 (r.1.gCert.gSerial)), .one (.int .i64 (r.1.gCert.gRides)), .one (.int .i64 (r.1.gCert.gPrice)), .ints .u8 32 (r.1.gCert.gAnchor), .ints .u8 64 (r.1.gCert.gSig), .one (.int .i64 (r.1.gIndex)), .ints .u8 32 (r.1.gValue), .one (.bool (r.1.gFrozen)), .ints .u8 64 (r.1.gFreeze), .one (.bool (r.1.gRevoked)), .ints .u8 64 (r.1.gRevoke)], .int .i64 (r.2)])) := by
 unfold fareboxref17_Join at h
 refine calls_val mo ok24 rfl ?_
 refine wc_seq <| wc_ops <| wj_e (ef_bx (s := [.one (.int .i64 (p0.gCert.gSerial)), .one (.int .i64 (p0.gCert.gRides)), .one (.int .i64 (p0.gCert.gPrice)), .ints .u8 32 (p0.gCert.gAnchor), .ints .u8 64 (p0.gCert.gSig), .one (.int .i64 (p0.gIndex)), .ints .u8 32 (p0.gValue), .one (.bool (p0.gFrozen)), .ints .u8 64 (p0.gFreeze), .one (.bool (p0.gRevoked)), .ints .u8 64 (p0.gRevoke)]) rfl fun b2 hb2 => wj_e (ef_bx (s := [.one (.int .i64 (p1.gCert.gSerial)), .one (.int .i64 (p1.gCert.gRides)), .one (.int .i64 (p1.gCert.gPrice)), .ints .u8 32 (p1.gCert.gAnchor), .ints .u8 64 (p1.gCert.gSig), .one (.int .i64 (p1.gIndex)), .ints .u8 32 (p1.gValue), .one (.bool (p1.gFrozen)), .ints .u8 64 (p1.gFreeze), .one (.bool (p1.gRevoked)), .ints .u8 64 (p1.gRevoke)]) rfl fun b3 hb3 => wj_e (ef_al fun b4 hb4 => wj_q _ (q_mv rfl) <| wj_nil <| wc_seq <| wc_seq <| wc_ops <| wj_q _ (q_fa rfl) <| wj_q _ (q_ld (p := [.one (.int .i64 (p0.gCert.gSerial)), .one (.int .i64 (p0.gCert.gRides)), .one (.int .i64 (p0.gCert.gPrice)), .ints .u8 32 (p0.gCert.gAnchor), .ints .u8 64 (p0.gCert.gSig)]) rfl (.there (.there .here)) (by kernel_rfl)) <| wj_q _ (q_fa rfl) <| wj_q _ (q_ld (p := [.one (.int .i64 (p1.gCert.gSerial)), .one (.int .i64 (p1.gCert.gRides)), .one (.int .i64 (p1.gCert.gPrice)), .ints .u8 32 (p1.gCert.gAnchor), .ints .u8 64 (p1.gCert.gSig)]) rfl (.there .here) (by kernel_rfl)) <| wj_q _ (q_eqa (s := [.one (.int .i64 (p0.gCert.gSerial)), .one (.int .i64 (p0.gCert.gRides)), .one (.int .i64 (p0.gCert.gPrice)), .ints .u8 32 (p0.gCert.gAnchor), .ints .u8 64 (p0.gCert.gSig)]) (s' := [.one (.int .i64 (p1.gCert.gSerial)), .one (.int .i64 (p1.gCert.gRides)), .one (.int .i64 (p1.gCert.gPrice)), .ints .u8 32 (p1.gCert.gAnchor), .ints .u8 64 (p1.gCert.gSig)]) rfl rfl rfl rfl _ (eqc_cons rfl eqc_int (eqc_cons rfl eqc_int (eqc_cons rfl eqc_int (eqc_cons rfl eqc_ints (eqc_last eqc_ints)))))) <| wj_nil <| wc_br h rfl (fun h => ?_) (fun h => ?_))))
 ·refine wc_seq <| wc_ops <| wj_q _ (q_bd (q := [.one (.int .i64 (0)), .one (.int .i64 (0)), .one (.int .i64 (0)), .ints .u8 32 ((List.replicate 32 0)), .ints .u8 64 ((List.replicate 64 0)), .one (.int .i64 (0)), .ints .u8 32 ((List.replicate 32 0)), .one (.bool (false)), .ints .u8 64 ((List.replicate 64 0)), .one (.bool (false)), .ints .u8 64 ((List.replicate 64 0))]) BdR.nil) <| wj_e (ef_st (p := [.one (.int .i64 (0)), .one (.int .i64 (0)), .one (.int .i64 (0)), .ints .u8 32 ((List.replicate 32 0)), .ints .u8 64 ((List.replicate 64 0)), .one (.int .i64 (0)), .ints .u8 32 ((List.replicate 32 0)), .one (.bool (false)), .ints .u8 64 ((List.replicate 64 0)), .one (.bool (false)), .ints .u8 64 ((List.replicate 64 0))]) (q := [.one (.int .i64 (0)), .one (.int .i64 (0)), .one (.int .i64 (0)), .ints .u8 32 ((List.replicate 32 0)), .ints .u8 64 ((List.replicate 64 0)), .one (.int .i64 (0)), .ints .u8 32 ((List.replicate 32 0)), .one (.bool (false)), .ints .u8 64 ((List.replicate 64 0)), .one (.bool (false)), .ints .u8 64 ((List.replicate 64 0))]) rfl rfl (by kernel_rfl) (by kernel_rfl) (by kernel_rfl) .here <| wj_q _ (q_mv rfl) <| wj_nil <| wc_ret ?_)
  revert h; refine ret_i fun h => ?_
  subst h
  exact ⟨_, (.cons (.agg rfl .here rfl) (.cons (.tmp rfl) .nil)), rfl⟩
 ·refine wc_skip <| wc_seq <| wc_ops <| wj_q _ (q_fa rfl) <| wj_q _ (q_ld (p := [.one (.int .i64 (p0.gCert.gSerial)), .one (.int .i64 (p0.gCert.gRides)), .one (.int .i64 (p0.gCert.gPrice)), .ints .u8 32 (p0.gCert.gAnchor), .ints .u8 64 (p0.gCert.gSig)]) rfl (.there (.there .here)) (by kernel_rfl)) <| wj_q _ (q_fa rfl) <| wj_q _ (q_ld1 rfl (.there (.there .here)) rfl) <| wj_q _ (q_fa rfl) <| wj_q _ (q_ld (p := [.ints .u8 32 (p0.gValue)]) rfl (.there (.there .here)) (by kernel_rfl)) <| wj_q _ (q_bd (q := [.one (.int .i64 (p0.gCert.gSerial)), .one (.int .i64 (p0.gCert.gRides)), .one (.int .i64 (p0.gCert.gPrice)), .ints .u8 32 (p0.gCert.gAnchor), .ints .u8 64 (p0.gCert.gSig), .one (.int .i64 (p0.gIndex)), .ints .u8 32 (p0.gValue), .one (.bool (false)), .ints .u8 64 ((List.replicate 64 0)), .one (.bool (false)), .ints .u8 64 ((List.replicate 64 0))]) (.agg (z' := [.one (.int .i64 (p0.gCert.gSerial)), .one (.int .i64 (p0.gCert.gRides)), .one (.int .i64 (p0.gCert.gPrice)), .ints .u8 32 (p0.gCert.gAnchor), .ints .u8 64 (p0.gCert.gSig), .one (.int .i64 (0)), .ints .u8 32 ((List.replicate 32 0)), .one (.bool (false)), .ints .u8 64 ((List.replicate 64 0)), .one (.bool (false)), .ints .u8 64 ((List.replicate 64 0))]) rfl (by kernel_rfl) (by kernel_rfl) (.one (z' := [.one (.int .i64 (p0.gCert.gSerial)), .one (.int .i64 (p0.gCert.gRides)), .one (.int .i64 (p0.gCert.gPrice)), .ints .u8 32 (p0.gCert.gAnchor), .ints .u8 64 (p0.gCert.gSig), .one (.int .i64 (p0.gIndex)), .ints .u8 32 ((List.replicate 32 0)), .one (.bool (false)), .ints .u8 64 ((List.replicate 64 0)), .one (.bool (false)), .ints .u8 64 ((List.replicate 64 0))]) rfl rfl (by kernel_rfl) (.agg (z' := [.one (.int .i64 (p0.gCert.gSerial)), .one (.int .i64 (p0.gCert.gRides)), .one (.int .i64 (p0.gCert.gPrice)), .ints .u8 32 (p0.gCert.gAnchor), .ints .u8 64 (p0.gCert.gSig), .one (.int .i64 (p0.gIndex)), .ints .u8 32 (p0.gValue), .one (.bool (false)), .ints .u8 64 ((List.replicate 64 0)), .one (.bool (false)), .ints .u8 64 ((List.replicate 64 0))]) rfl (by kernel_rfl) (by kernel_rfl) BdR.nil)))) <| wj_e (ef_al fun b9 hb9 => wj_e (ef_st (p := [.one (.int .i64 (p0.gCert.gSerial)), .one (.int .i64 (p0.gCert.gRides)), .one (.int .i64 (p0.gCert.gPrice)), .ints .u8 32 (p0.gCert.gAnchor), .ints .u8 64 (p0.gCert.gSig), .one (.int .i64 (p0.gIndex)), .ints .u8 32 (p0.gValue), .one (.bool (false)), .ints .u8 64 ((List.replicate 64 0)), .one (.bool (false)), .ints .u8 64 ((List.replicate 64 0))]) (q := [.one (.int .i64 (p0.gCert.gSerial)), .one (.int .i64 (p0.gCert.gRides)), .one (.int .i64 (p0.gCert.gPrice)), .ints .u8 32 (p0.gCert.gAnchor), .ints .u8 64 (p0.gCert.gSig), .one (.int .i64 (p0.gIndex)), .ints .u8 32 (p0.gValue), .one (.bool (false)), .ints .u8 64 ((List.replicate 64 0)), .one (.bool (false)), .ints .u8 64 ((List.replicate 64 0))]) rfl rfl (by kernel_rfl) (by kernel_rfl) (by kernel_rfl) .here <| wj_nil <| wc_seq <| wc_seq <| cH h fun c11 h => wc_draw <| ws_p1 _ (q_fa rfl) <| ws_p1 _ (q_fa rfl) <| ws_q1 _ (q_ld1 rfl (.there (.there .here)) rfl) <| ws_q1 _ (q_ld1 rfl (.there (.there (.there .here))) rfl) <| ws_p1 _ (q_bin rfl rfl rfl) <| ws_p1 _ (q_mv rfl) <| ws_or rfl rfl rfl (fun hg1 => qj_g rfl _ (q_fa rfl) (qj_g rfl _ (q_ld1 rfl (.there (.there .here)) rfl) (qj_g rfl _ (q_fa rfl) (qj_g rfl _ (q_ld1 rfl (.there (.there (.there .here))) rfl) (qj_g rfl _ (q_bin rfl rfl rfl) (qj_g rfl _ (q_mv rfl) (qj_and rfl (fun _ h => by cases h; rfl) rfl rfl (fun hg2 => qj_g rfl _ (q_fa rfl) (qj_g rfl _ (q_sla rfl .no .no .no (by simp) (by decide)) (qj_g rfl _ (q_fa rfl) (qj_g rfl _ (q_sla rfl .no .no .no (by simp) (by decide)) (qj_g rfl _ (q_call rfl (fun w hw => fareboxref17_above_spec (getD_some (z := false) (imp_t (imp_f c11 hg1) hg2)) ((rd_blk_i (s := [.one (.int .i64 (p1.gCert.gSerial)), .one (.int .i64 (p1.gCert.gRides)), .one (.int .i64 (p1.gCert.gPrice)), .ints .u8 32 (p1.gCert.gAnchor), .ints .u8 64 (p1.gCert.gSig), .one (.int .i64 (p1.gIndex)), .ints .u8 32 (p1.gValue), .one (.bool (p1.gFrozen)), .ints .u8 64 (p1.gFreeze), .one (.bool (p1.gRevoked)), .ints .u8 64 (p1.gRevoke)]) (N := 32) (k := .u8) (base := 100) (lo := 0) (hi := 32) (mz := 32) (.there (.there .here)) rfl (by decide)) w hw) ((rd_blk_i (s := [.one (.int .i64 (p0.gCert.gSerial)), .one (.int .i64 (p0.gCert.gRides)), .one (.int .i64 (p0.gCert.gPrice)), .ints .u8 32 (p0.gCert.gAnchor), .ints .u8 64 (p0.gCert.gSig), .one (.int .i64 (p0.gIndex)), .ints .u8 32 (p0.gValue), .one (.bool (p0.gFrozen)), .ints .u8 64 (p0.gFreeze), .one (.bool (p0.gRevoked)), .ints .u8 64 (p0.gRevoke)]) (N := 32) (k := .u8) (base := 100) (lo := 0) (hi := 32) (mz := 32) (.there (.there (.there .here))) rfl (by decide)) w hw))) (qj_nil)))))) (fun hg2 => rfl) rfl (qj_nil)))))))) (fun hg1 => rfl) rfl <| ws_nil <| jH h fun k17 qk17 h => wc_mono2 (G := fun t m => ∃ (i15 : Int) (a16 : List Int), k17 i15 a16 = some r ∧ Fit [(2, .pointer (some ⟨b2, 0, none⟩)), (3, .pointer (some ⟨b3, 0, none⟩)), (4, .pointer (some ⟨b4, 0, none⟩)), (6, .pointer (some ⟨b9, 0, none⟩))] (ck b9 45 [.one (.int .i64 (p0.gCert.gSerial)), .one (.int .i64 (p0.gCert.gRides)), .one (.int .i64 (p0.gCert.gPrice)), .ints .u8 32 (p0.gCert.gAnchor), .ints .u8 64 (p0.gCert.gSig), .one (.int .i64 (i15)), .ints .u8 32 (a16), .one (.bool (false)), .ints .u8 64 ((List.replicate 64 0)), .one (.bool (false)), .ints .u8 64 ((List.replicate 64 0))] :: (ck b4 45 [.one (.int .i64 (0)), .one (.int .i64 (0)), .one (.int .i64 (0)), .ints .u8 32 ((List.replicate 32 0)), .ints .u8 64 ((List.replicate 64 0)), .one (.int .i64 (0)), .ints .u8 32 ((List.replicate 32 0)), .one (.bool (false)), .ints .u8 64 ((List.replicate 64 0)), .one (.bool (false)), .ints .u8 64 ((List.replicate 64 0))] :: (ck b3 45 [.one (.int .i64 (p1.gCert.gSerial)), .one (.int .i64 (p1.gCert.gRides)), .one (.int .i64 (p1.gCert.gPrice)), .ints .u8 32 (p1.gCert.gAnchor), .ints .u8 64 (p1.gCert.gSig), .one (.int .i64 (p1.gIndex)), .ints .u8 32 (p1.gValue), .one (.bool (p1.gFrozen)), .ints .u8 64 (p1.gFreeze), .one (.bool (p1.gRevoked)), .ints .u8 64 (p1.gRevoke)] :: (ck b2 45 [.one (.int .i64 (p0.gCert.gSerial)), .one (.int .i64 (p0.gCert.gRides)), .one (.int .i64 (p0.gCert.gPrice)), .ints .u8 32 (p0.gCert.gAnchor), .ints .u8 64 (p0.gCert.gSig), .one (.int .i64 (p0.gIndex)), .ints .u8 32 (p0.gValue), .one (.bool (p0.gFrozen)), .ints .u8 64 (p0.gFreeze), .one (.bool (p0.gRevoked)), .ints .u8 64 (p0.gRevoke)] :: [])))) t m) ?_ ?_))
  ·refine wc_br h rfl (fun h => ?_) (fun h => ?_)
   ·exact wc_seq <| wc_ops <| wj_q _ (q_fa rfl) <| wj_q _ (q_ld1 rfl (.there (.there .here)) rfl) <| wj_q _ (q_fa rfl) <| wj_e (ef_st1 (q := [.one (.int .i64 (p0.gCert.gSerial)), .one (.int .i64 (p0.gCert.gRides)), .one (.int .i64 (p0.gCert.gPrice)), .ints .u8 32 (p0.gCert.gAnchor), .ints .u8 64 (p0.gCert.gSig), .one (.int .i64 (p1.gIndex)), .ints .u8 32 (p0.gValue), .one (.bool (false)), .ints .u8 64 ((List.replicate 64 0)), .one (.bool (false)), .ints .u8 64 ((List.replicate 64 0))]) rfl rfl rfl (by kernel_rfl) .here <| wj_nil <| wc_ops <| wj_q _ (q_fa rfl) <| wj_q _ (q_ld (p := [.ints .u8 32 (p1.gValue)]) rfl (.there (.there .here)) (by kernel_rfl)) <| wj_q _ (q_fa rfl) <| wj_e (ef_st (p := [.ints .u8 32 (p1.gValue)]) (q := [.one (.int .i64 (p0.gCert.gSerial)), .one (.int .i64 (p0.gCert.gRides)), .one (.int .i64 (p0.gCert.gPrice)), .ints .u8 32 (p0.gCert.gAnchor), .ints .u8 64 (p0.gCert.gSig), .one (.int .i64 (p1.gIndex)), .ints .u8 32 (p1.gValue), .one (.bool (false)), .ints .u8 64 ((List.replicate 64 0)), .one (.bool (false)), .ints .u8 64 ((List.replicate 64 0))]) rfl rfl (by kernel_rfl) (by kernel_rfl) (by kernel_rfl) .here <| wj_nil <| ⟨p1.gIndex, p1.gValue, h, ⟨⟨rfl, rfl, rfl, rfl, trivial⟩, (.one .here (.one .here (.one .here (.one .here .nil))))⟩⟩))
   ·exact wc_skip <| ⟨p0.gIndex, p0.gValue, h, ⟨⟨rfl, rfl, rfl, rfl, trivial⟩, (.one .here (.one .here (.one .here (.one .here .nil))))⟩⟩
  ·rintro t m ⟨i15, a16, h, hF⟩
   refine wc_fit hF ?_
   clear hF
   subst qk17
   refine wc_seq <| oH h fun y22 ey22 h => wc_ops <| wj_q _ (q_fa rfl) <| wj_q _ (q_ld1 rfl (.there (.there (.there .here))) rfl) <| wj_q _ (q_fa rfl) <| wj_q _ (q_ld (p := [.ints .u8 64 (p0.gFreeze)]) rfl (.there (.there (.there .here))) (by kernel_rfl)) <| wj_q _ (q_fa rfl) <| wj_q _ (q_ld1 rfl (.there (.there .here)) rfl) <| wj_q _ (q_fa rfl) <| wj_q _ (q_ld (p := [.ints .u8 64 (p1.gFreeze)]) rfl (.there (.there .here)) (by kernel_rfl)) <| wj_q _ (q_call rfl (fun _ _ => fareboxref17_sealed_spec ey22)) <| wj_q _ (q_mv rfl) <| wj_q _ (q_ext rfl rfl) <| wj_q _ (q_ext rfl rfl) <| wj_q _ (q_fa rfl) <| wj_e (ef_st1 (q := [.one (.int .i64 (p0.gCert.gSerial)), .one (.int .i64 (p0.gCert.gRides)), .one (.int .i64 (p0.gCert.gPrice)), .ints .u8 32 (p0.gCert.gAnchor), .ints .u8 64 (p0.gCert.gSig), .one (.int .i64 (i15)), .ints .u8 32 (a16), .one (.bool (y22.1)), .ints .u8 64 ((List.replicate 64 0)), .one (.bool (false)), .ints .u8 64 ((List.replicate 64 0))]) rfl rfl rfl (by kernel_rfl) .here <| wj_q _ (q_fa rfl) <| wj_e (ef_st (p := [.ints .u8 64 (y22.2)]) (q := [.one (.int .i64 (p0.gCert.gSerial)), .one (.int .i64 (p0.gCert.gRides)), .one (.int .i64 (p0.gCert.gPrice)), .ints .u8 32 (p0.gCert.gAnchor), .ints .u8 64 (p0.gCert.gSig), .one (.int .i64 (i15)), .ints .u8 32 (a16), .one (.bool (y22.1)), .ints .u8 64 (y22.2), .one (.bool (false)), .ints .u8 64 ((List.replicate 64 0))]) rfl rfl (by kernel_rfl) (by kernel_rfl) (by kernel_rfl) .here <| wj_nil <| wc_seq <| oH h fun y24 ey24 h => wc_ops <| wj_q _ (q_fa rfl) <| wj_q _ (q_ld1 rfl (.there (.there (.there .here))) rfl) <| wj_q _ (q_fa rfl) <| wj_q _ (q_ld (p := [.ints .u8 64 (p0.gRevoke)]) rfl (.there (.there (.there .here))) (by kernel_rfl)) <| wj_q _ (q_fa rfl) <| wj_q _ (q_ld1 rfl (.there (.there .here)) rfl) <| wj_q _ (q_fa rfl) <| wj_q _ (q_ld (p := [.ints .u8 64 (p1.gRevoke)]) rfl (.there (.there .here)) (by kernel_rfl)) <| wj_q _ (q_call rfl (fun _ _ => fareboxref17_sealed_spec ey24)) <| wj_q _ (q_mv rfl) <| wj_q _ (q_ext rfl rfl) <| wj_q _ (q_ext rfl rfl) <| wj_q _ (q_fa rfl) <| wj_e (ef_st1 (q := [.one (.int .i64 (p0.gCert.gSerial)), .one (.int .i64 (p0.gCert.gRides)), .one (.int .i64 (p0.gCert.gPrice)), .ints .u8 32 (p0.gCert.gAnchor), .ints .u8 64 (p0.gCert.gSig), .one (.int .i64 (i15)), .ints .u8 32 (a16), .one (.bool (y22.1)), .ints .u8 64 (y22.2), .one (.bool (y24.1)), .ints .u8 64 ((List.replicate 64 0))]) rfl rfl rfl (by kernel_rfl) .here <| wj_q _ (q_fa rfl) <| wj_e (ef_st (p := [.ints .u8 64 (y24.2)]) (q := [.one (.int .i64 (p0.gCert.gSerial)), .one (.int .i64 (p0.gCert.gRides)), .one (.int .i64 (p0.gCert.gPrice)), .ints .u8 32 (p0.gCert.gAnchor), .ints .u8 64 (p0.gCert.gSig), .one (.int .i64 (i15)), .ints .u8 32 (a16), .one (.bool (y22.1)), .ints .u8 64 (y22.2), .one (.bool (y24.1)), .ints .u8 64 (y24.2)]) rfl rfl (by kernel_rfl) (by kernel_rfl) (by kernel_rfl) .here <| wj_nil <| wc_seq <| wc_ops <| wj_q _ (q_ld (p := [.one (.int .i64 (p0.gCert.gSerial)), .one (.int .i64 (p0.gCert.gRides)), .one (.int .i64 (p0.gCert.gPrice)), .ints .u8 32 (p0.gCert.gAnchor), .ints .u8 64 (p0.gCert.gSig), .one (.int .i64 (i15)), .ints .u8 32 (a16), .one (.bool (y22.1)), .ints .u8 64 (y22.2), .one (.bool (y24.1)), .ints .u8 64 (y24.2)]) rfl .here (by kernel_rfl)) <| wj_e (ef_st (p := [.one (.int .i64 (p0.gCert.gSerial)), .one (.int .i64 (p0.gCert.gRides)), .one (.int .i64 (p0.gCert.gPrice)), .ints .u8 32 (p0.gCert.gAnchor), .ints .u8 64 (p0.gCert.gSig), .one (.int .i64 (i15)), .ints .u8 32 (a16), .one (.bool (y22.1)), .ints .u8 64 (y22.2), .one (.bool (y24.1)), .ints .u8 64 (y24.2)]) (q := [.one (.int .i64 (p0.gCert.gSerial)), .one (.int .i64 (p0.gCert.gRides)), .one (.int .i64 (p0.gCert.gPrice)), .ints .u8 32 (p0.gCert.gAnchor), .ints .u8 64 (p0.gCert.gSig), .one (.int .i64 (i15)), .ints .u8 32 (a16), .one (.bool (y22.1)), .ints .u8 64 (y22.2), .one (.bool (y24.1)), .ints .u8 64 (y24.2)]) rfl rfl (by kernel_rfl) (by kernel_rfl) (by kernel_rfl) (.there .here) <| wj_q _ (q_mv rfl) <| wj_nil <| wc_ret ?_)))))
   revert h; refine ret_i fun h => ?_
   subst h
   exact ⟨_, (.cons (.agg rfl (.there .here) rfl) (.cons (.tmp rfl) .nil)), rfl⟩
end Go.Proofs.Ytaebomfgmadilaa
/- Mirrors. -/
namespace Go.Proofs.Ytaebomfgmadilaa
open Go Go.Sx Go.RowKit
set_option linter.all false
set_option maxHeartbeats 400000
set_option maxRecDepth 100000
/- farebox/fareboxref17.changed -/
def fareboxref17_changed_b1 (p0 : List (api_Entry)) (p1 : api_Entry) (k191 : (List (api_Entry)) → Option ((List (api_Entry)))) (k315 : (List (api_Entry)) → (Int) → Option ((List (api_Entry)))) (l312 : List (api_Entry)) (i314 : Int) : Option ((List (api_Entry))) :=
 br ((decide (i314 < (p0.length : Int)))) (
 jn (fun (l345 : List (api_Entry)) => bnd (IntKind.wrap .i64 (i314 + 1)) fun z373 =>
 k315 l345 z373) fun k347 => chk (inB i314 p0.length) <|
 bnd (p0.getD (i314).toNat api_Entry_z) fun x350 =>
 br ((x350.gCert.gSerial == p1.gCert.gSerial)) (
 chk (decide ((l312.length + ([p1] : List (api_Entry)).length) * 296 ≤ 140737488355328)) <|
 bnd (l312 ++ ([p1] : List (api_Entry))) fun l357 =>
 k347 l357
 ) (
 chk (inB i314 p0.length) <|
 bnd (p0.getD (i314).toNat api_Entry_z) fun x363 =>
 chk (decide ((l312.length + ([x363] : List (api_Entry)).length) * 296 ≤ 140737488355328)) <|
 bnd (l312 ++ ([x363] : List (api_Entry))) fun l368 =>
 k347 l368
 )
 ) (
 k191 l312
 )
def fareboxref17_changed_l1 (p0 : List (api_Entry)) (p1 : api_Entry) (k191 : (List (api_Entry)) → Option ((List (api_Entry)))) : Nat → (List (api_Entry)) → (Int) → Option ((List (api_Entry)))
  | 0, _, _ => none
  | n + 1, l312, i314 => fareboxref17_changed_b1 p0 p1 k191 (fareboxref17_changed_l1 p0 p1 k191 n) l312 i314
def fareboxref17_changed (p0 : List (api_Entry)) (p1 : api_Entry) : Option ((List (api_Entry))) :=
 jn (fun (l189 : List (api_Entry)) => some l189) fun k191 => fareboxref17_changed_l1 p0 p1 k191 big [] 0
theorem fareboxref17_changed_spec {W : World} {r : (List (api_Entry))} {p0 : List (api_Entry)} {p1 : api_Entry} {v0 : Value} (h : fareboxref17_changed p0 p1 = some r) (A0 : RdSl E_api_Entry W v0 p0) :
    Calls Try.prog 25 [v0, agg [.one (.int .i64 (p1.gCert.gSerial)), .one (.int .i64 (p1.gCert.gRides)), .one (.int .i64 (p1.gCert.gPrice)), .ints .u8 32 (p1.gCert.gAnchor), .ints .u8 64 (p1.gCert.gSig), .one (.int .i64 (p1.gIndex)), .ints .u8 32 (p1.gValue), .one (.bool (p1.gFrozen)), .ints .u8 64 (p1.gFreeze), .one (.bool (p1.gRevoked)), .ints .u8 64 (p1.gRevoke)]].toArray W (retS W [] (fun v Ms => ∃ (u0 : Value) (M0 : List Chunk), v = u0 ∧ Ms = [.all M0] ∧ OwnSl E_api_Entry u0 M0 r)) := by
 unfold fareboxref17_changed at h
 refine calls_memT mo ok25 rfl (sat0 _) ?_
 refine wc_seq <| wc_ops <| wj_e (ef_bx (s := [.one (.int .i64 (p1.gCert.gSerial)), .one (.int .i64 (p1.gCert.gRides)), .one (.int .i64 (p1.gCert.gPrice)), .ints .u8 32 (p1.gCert.gAnchor), .ints .u8 64 (p1.gCert.gSig), .one (.int .i64 (p1.gIndex)), .ints .u8 32 (p1.gValue), .one (.bool (p1.gFrozen)), .ints .u8 64 (p1.gFreeze), .one (.bool (p1.gRevoked)), .ints .u8 64 (p1.gRevoke)]) rfl fun b2 hb2 => wj_q _ (q_mv rfl) <| wj_nil <| wc_seq <| wc_ops <| wj_q _ (q_mv rfl) <| wj_nil <| wc_seq <| wc_seq <| wc_ops <| wj_q _ (q_mv rfl) <| wj_nil <| jH h fun k191 qk191 h => wc_mono2 (G := fun t m => ∃ (l189 : List (api_Entry)) (v187 : Value) (ms188 : List Chunk), k191 l189 = some r ∧ OwnSl E_api_Entry v187 ms188 l189 ∧ Fit [(5, v187)] (ck b2 45 [.one (.int .i64 (p1.gCert.gSerial)), .one (.int .i64 (p1.gCert.gRides)), .one (.int .i64 (p1.gCert.gPrice)), .ints .u8 32 (p1.gCert.gAnchor), .ints .u8 64 (p1.gCert.gSig), .one (.int .i64 (p1.gIndex)), .ints .u8 32 (p1.gValue), .one (.bool (p1.gFrozen)), .ints .u8 64 (p1.gFreeze), .one (.bool (p1.gRevoked)), .ints .u8 64 (p1.gRevoke)] :: (ms188 ++ [])) t m) ?_ ?_)
 ·refine wc_block <| wc_loopJ (fun n316 t m => ∃ (l312 : List (api_Entry)) (i314 : Int) (v310 : Value) (ms311 : List Chunk), fareboxref17_changed_l1 p0 p1 k191 n316 l312 i314 = some r ∧ OwnSl E_api_Entry v310 ms311 l312 ∧ Fit [(0, v0), (3, .pointer (some ⟨b2, 0, none⟩)), (5, v310), (6, .int .i64 (i314))] (ck b2 45 [.one (.int .i64 (p1.gCert.gSerial)), .one (.int .i64 (p1.gCert.gRides)), .one (.int .i64 (p1.gCert.gPrice)), .ints .u8 32 (p1.gCert.gAnchor), .ints .u8 64 (p1.gCert.gSig), .one (.int .i64 (p1.gIndex)), .ints .u8 32 (p1.gValue), .one (.bool (p1.gFrozen)), .ints .u8 64 (p1.gFreeze), .one (.bool (p1.gRevoked)), .ints .u8 64 (p1.gRevoke)] :: (ms311 ++ [])) t m) big ?_ ?_
  ·exact ⟨[], 0, (.slice none 0 0), [], h, own_nil, ⟨⟨rfl, rfl, rfl, rfl, trivial⟩, (.one .here (.no .nil))⟩⟩
  ·rintro n316 t m ⟨l312, i314, v310, ms311, h, O313, hF⟩
   refine wc_fit hF ?_
   clear hF
   rcases n316 with _ | n316
   · exact none_i h
   have h : fareboxref17_changed_b1 p0 p1 k191 (fareboxref17_changed_l1 p0 p1 k191 n316) l312 i314 = some r := h
   unfold fareboxref17_changed_b1 at h
   obtain ⟨k315, qk315⟩ : ∃ k, k = fareboxref17_changed_l1 p0 p1 k191 n316 := ⟨_, rfl⟩
   try rw [← qk315] at h
   refine wc_seq <| wc_seq <| wc_ops <| wj_q _ (q_mv rfl) <| wj_q _ (q_mv rfl) <| wj_q _ (q_lenP rfl (Shp.rd A0)) <| wj_q _ (q_bin rfl rfl rfl) <| wj_nil <| wc_br h rfl (fun h => ?_) (fun h => ?_)
   ·refine wc_skip <| wc_seq <| jH h fun k347 qk347 h => wc_mono2 (G := fun t m => ∃ (l345 : List (api_Entry)) (v343 : Value) (ms344 : List Chunk), k347 l345 = some r ∧ OwnSl E_api_Entry v343 ms344 l345 ∧ Fit [(0, v0), (3, .pointer (some ⟨b2, 0, none⟩)), (5, v343), (6, .int .i64 (i314))] (ck b2 45 [.one (.int .i64 (p1.gCert.gSerial)), .one (.int .i64 (p1.gCert.gRides)), .one (.int .i64 (p1.gCert.gPrice)), .ints .u8 32 (p1.gCert.gAnchor), .ints .u8 64 (p1.gCert.gSig), .one (.int .i64 (p1.gIndex)), .ints .u8 32 (p1.gValue), .one (.bool (p1.gFrozen)), .ints .u8 64 (p1.gFreeze), .one (.bool (p1.gRevoked)), .ints .u8 64 (p1.gRevoke)] :: (ms344 ++ [])) t m) ?_ ?_
    ·refine wc_block <| wc_seq <| cH h fun c349 h => bH h fun x350 ex350 h => wc_draw <| ws_p1 _ (q_mv rfl) <| ws_p1 _ (q_mv rfl) <| ws_p1 _ (q_iasP rfl rfl (Shp.rd A0) c349) <| ws_p1 _ (q_fa rfl) <| ws_p1 _ (q_fa rfl) <| ws_p1 _ (q_fa rfl) <| ws_p1 _ (q_fa rfl) <| ws_q1 _ (az (fun (x350 : api_Entry) => .int .i64 (x350.gCert.gSerial)) ex350 (q_ldM1 (E := E_api_Entry) (s := [.one (.int .i64 ((((p0.getD (i314).toNat api_Entry_z)).gCert).gSerial)), .one (.int .i64 ((((p0.getD (i314).toNat api_Entry_z)).gCert).gRides)), .one (.int .i64 ((((p0.getD (i314).toNat api_Entry_z)).gCert).gPrice)), .ints .u8 32 ((((p0.getD (i314).toNat api_Entry_z)).gCert).gAnchor), .ints .u8 64 ((((p0.getD (i314).toNat api_Entry_z)).gCert).gSig), .one (.int .i64 (((p0.getD (i314).toNat api_Entry_z)).gIndex)), .ints .u8 32 (((p0.getD (i314).toNat api_Entry_z)).gValue), .one (.bool (((p0.getD (i314).toNat api_Entry_z)).gFrozen)), .ints .u8 64 (((p0.getD (i314).toNat api_Entry_z)).gFreeze), .one (.bool (((p0.getD (i314).toNat api_Entry_z)).gRevoked)), .ints .u8 64 (((p0.getD (i314).toNat api_Entry_z)).gRevoke)]) (c := 0) rfl (rd_arg A0 apart0) (inB_n c349) rfl rfl)) <| ws_q1 _ (q_ld1 rfl .here rfl) <| ws_p1 _ (q_bin rfl rfl rfl) <| ws_nil <| wc_br h rfl (fun h => ?_) (fun h => ?_)
     ·exact cH h fun c356 h => bH h fun l357 el357 h => wc_ops <| wj_q _ (q_mv rfl) <| wj_q _ (q_ld (p := [.one (.int .i64 (p1.gCert.gSerial)), .one (.int .i64 (p1.gCert.gRides)), .one (.int .i64 (p1.gCert.gPrice)), .ints .u8 32 (p1.gCert.gAnchor), .ints .u8 64 (p1.gCert.gSig), .one (.int .i64 (p1.gIndex)), .ints .u8 32 (p1.gValue), .one (.bool (p1.gFrozen)), .ints .u8 64 (p1.gFreeze), .one (.bool (p1.gRevoked)), .ints .u8 64 (p1.gRevoke)]) rfl .here (by kernel_rfl)) <| wj_e (ef_bsO (E := E_api_Entry) (xs := [p1]) (BdR.whole (p := [.one (.int .i64 (p1.gCert.gSerial)), .one (.int .i64 (p1.gCert.gRides)), .one (.int .i64 (p1.gCert.gPrice)), .ints .u8 32 (p1.gCert.gAnchor), .ints .u8 64 (p1.gCert.gSig), .one (.int .i64 (p1.gIndex)), .ints .u8 32 (p1.gValue), .one (.bool (p1.gFrozen)), .ints .u8 64 (p1.gFreeze), .one (.bool (p1.gRevoked)), .ints .u8 64 (p1.gRevoke)]) rfl (by kernel_rfl) (by kernel_rfl)) (.cons (p := [.one (.int .i64 (p1.gCert.gSerial)), .one (.int .i64 (p1.gCert.gRides)), .one (.int .i64 (p1.gCert.gPrice)), .ints .u8 32 (p1.gCert.gAnchor), .ints .u8 64 (p1.gCert.gSig), .one (.int .i64 (p1.gIndex)), .ints .u8 32 (p1.gValue), .one (.bool (p1.gFrozen)), .ints .u8 64 (p1.gFreeze), .one (.bool (p1.gRevoked)), .ints .u8 64 (p1.gRevoke)]) rfl .nil) rfl fun v353 ms354 O355 => wj_e (ef_appO (E := E_api_Entry) el357 rfl O313 (.app (.there .here)) rfl (rd_own O355 .here) c356 fun v358 ms359 O360 => wj_q _ (q_mv rfl) <| wj_nil <| ⟨l357, v358, ms359, h, O360, ⟨⟨rfl, rfl, rfl, rfl, trivial⟩, (.one (.app (.app .here)) (.all .here .nil))⟩⟩))
     ·exact cH h fun c362 h => bH h fun x363 ex363 h => cH h fun c367 h => bH h fun l368 el368 h => wc_ops <| wj_q _ (q_mv rfl) <| wj_q _ (q_mv rfl) <| wj_q _ (q_mv rfl) <| wj_q _ (q_iasP rfl rfl (Shp.rd A0) c362) <| wj_q _ (az (fun (x363 : api_Entry) => agg [.one (.int .i64 (x363.gCert.gSerial)), .one (.int .i64 (x363.gCert.gRides)), .one (.int .i64 (x363.gCert.gPrice)), .ints .u8 32 (x363.gCert.gAnchor), .ints .u8 64 (x363.gCert.gSig), .one (.int .i64 (x363.gIndex)), .ints .u8 32 (x363.gValue), .one (.bool (x363.gFrozen)), .ints .u8 64 (x363.gFreeze), .one (.bool (x363.gRevoked)), .ints .u8 64 (x363.gRevoke)]) ex363 (q_ldM0 (E := E_api_Entry) (s := [.one (.int .i64 ((((p0.getD (i314).toNat api_Entry_z)).gCert).gSerial)), .one (.int .i64 ((((p0.getD (i314).toNat api_Entry_z)).gCert).gRides)), .one (.int .i64 ((((p0.getD (i314).toNat api_Entry_z)).gCert).gPrice)), .ints .u8 32 ((((p0.getD (i314).toNat api_Entry_z)).gCert).gAnchor), .ints .u8 64 ((((p0.getD (i314).toNat api_Entry_z)).gCert).gSig), .one (.int .i64 (((p0.getD (i314).toNat api_Entry_z)).gIndex)), .ints .u8 32 (((p0.getD (i314).toNat api_Entry_z)).gValue), .one (.bool (((p0.getD (i314).toNat api_Entry_z)).gFrozen)), .ints .u8 64 (((p0.getD (i314).toNat api_Entry_z)).gFreeze), .one (.bool (((p0.getD (i314).toNat api_Entry_z)).gRevoked)), .ints .u8 64 (((p0.getD (i314).toNat api_Entry_z)).gRevoke)]) rfl (rd_arg A0 apart0) (inB_n c362) rfl rfl)) <| wj_e (ef_bsO (E := E_api_Entry) (xs := [x363]) (BdR.whole (p := [.one (.int .i64 (x363.gCert.gSerial)), .one (.int .i64 (x363.gCert.gRides)), .one (.int .i64 (x363.gCert.gPrice)), .ints .u8 32 (x363.gCert.gAnchor), .ints .u8 64 (x363.gCert.gSig), .one (.int .i64 (x363.gIndex)), .ints .u8 32 (x363.gValue), .one (.bool (x363.gFrozen)), .ints .u8 64 (x363.gFreeze), .one (.bool (x363.gRevoked)), .ints .u8 64 (x363.gRevoke)]) rfl (by kernel_rfl) (by kernel_rfl)) (.cons (p := [.one (.int .i64 (x363.gCert.gSerial)), .one (.int .i64 (x363.gCert.gRides)), .one (.int .i64 (x363.gCert.gPrice)), .ints .u8 32 (x363.gCert.gAnchor), .ints .u8 64 (x363.gCert.gSig), .one (.int .i64 (x363.gIndex)), .ints .u8 32 (x363.gValue), .one (.bool (x363.gFrozen)), .ints .u8 64 (x363.gFreeze), .one (.bool (x363.gRevoked)), .ints .u8 64 (x363.gRevoke)]) rfl .nil) rfl fun v364 ms365 O366 => wj_e (ef_appO (E := E_api_Entry) el368 rfl O313 (.app (.there .here)) rfl (rd_own O366 .here) c367 fun v369 ms370 O371 => wj_q _ (q_mv rfl) <| wj_nil <| ⟨l368, v369, ms370, h, O371, ⟨⟨rfl, rfl, rfl, rfl, trivial⟩, (.one (.app (.app .here)) (.all .here .nil))⟩⟩))
    ·rintro t m ⟨l345, v343, ms344, h, O346, hF⟩
     refine wc_fit hF ?_
     clear hF
     subst qk347
     refine bH h fun z373 ez373 h => wc_ops <| wj_q _ (q_mv rfl) <| wj_q _ (iz ez373 (q_bin rfl rfl rfl)) <| wj_q _ (q_mv rfl) <| wj_nil ?_
     rw [qk315] at h
     exact ⟨n316, Nat.lt_succ_self _, l345, z373, v343, ms344, h, O346, ⟨⟨rfl, rfl, rfl, rfl, trivial⟩, (.one .here (.all .here .nil))⟩⟩
   ·exact wc_exit _ rfl <| ⟨l312, v310, ms311, h, O313, ⟨⟨rfl, trivial⟩, (.one .here (.all .here .nil))⟩⟩
 ·rintro t m ⟨l189, v187, ms188, h, O190, hF⟩
  refine wc_fit hF ?_
  clear hF
  subst qk191
  refine wc_seq <| wc_ops <| wj_q _ (q_mv rfl) <| wj_q _ (q_mv rfl) <| wj_nil <| wc_ret ?_
  revert h; refine ret_i fun h => ?_
  subst h
  exact ⟨_, _, (.cons (.tmp rfl) .nil), (.all (.there .here) .nil), ⟨_, rfl, ⟨v187, ms188, rfl, rfl, O190⟩⟩⟩
/- farebox/fareboxref17.Put -/
def fareboxref17_Put (p0 : api_GateState) (p1 : Int) (p2 : api_Entry) : Option (api_GateState × Bool × Int) :=
 br ((decide (p2.gCert.gSerial < p0.gFloor.gFloor))) (
 some (p0, false, 172)
 ) (
 opt (fareboxref17_Find p0 p2.gCert.gSerial) fun y9 =>
 br ((!y9.2)) (
 br ((decide ((p0.gRows.length : Int) ≥ p1))) (
 some (p0, false, 170)
 ) (
 opt (fareboxref17_placed p0.gRows p2) fun y17 =>
 some ((⟨p0.gFloor, p0.gAccepted, y17⟩ : api_GateState), true, 0)
 )
 ) (
 opt (fareboxref17_Join y9.1 p2) fun y25 =>
 br ((y25.2 != 0)) (
 some (p0, false, y25.2)
 ) (
 opt (fareboxref17_changed p0.gRows y25.1) fun y31 =>
 some ((⟨p0.gFloor, p0.gAccepted, y31⟩ : api_GateState), (!((y25.1.gCert.gSerial == y9.1.gCert.gSerial) && ((y25.1.gCert.gRides == y9.1.gCert.gRides) && ((y25.1.gCert.gPrice == y9.1.gCert.gPrice) && ((ieq 32 y25.1.gCert.gAnchor y9.1.gCert.gAnchor) && ((ieq 64 y25.1.gCert.gSig y9.1.gCert.gSig) && ((y25.1.gIndex == y9.1.gIndex) && ((ieq 32 y25.1.gValue y9.1.gValue) && ((y25.1.gFrozen == y9.1.gFrozen) && ((ieq 64 y25.1.gFreeze y9.1.gFreeze) && ((y25.1.gRevoked == y9.1.gRevoked) && (ieq 64 y25.1.gRevoke y9.1.gRevoke)))))))))))), 0)
 )
 )
 )
theorem fareboxref17_Put_spec {W : World} {r : api_GateState × Bool × Int} {p0 : api_GateState} {p1 : Int} {p2 : api_Entry} {v0 : Value} {M0 : List Chunk} (h : fareboxref17_Put p0 p1 p2 = some r) (h0 : Sat W (M0.map (·.b)) (M0 ++ []) W) (O0 : OwnSl E_api_Entry v0 M0 p0.gRows) :
    Calls Try.prog 17 [agg [.one (.int .i64 (p0.gFloor.gFloor)), .ints .u8 64 (p0.gFloor.gSig), .one (.int .i64 (p0.gAccepted)), .one (v0)], .int .i64 (p1), agg [.one (.int .i64 (p2.gCert.gSerial)), .one (.int .i64 (p2.gCert.gRides)), .one (.int .i64 (p2.gCert.gPrice)), .ints .u8 32 (p2.gCert.gAnchor), .ints .u8 64 (p2.gCert.gSig), .one (.int .i64 (p2.gIndex)), .ints .u8 32 (p2.gValue), .one (.bool (p2.gFrozen)), .ints .u8 64 (p2.gFreeze), .one (.bool (p2.gRevoked)), .ints .u8 64 (p2.gRevoke)]].toArray W (retS W (M0.map (·.b)) (fun v Ms => ∃ (u0 : Value) (M0 : List Chunk), v = .tuple #[agg [.one (.int .i64 (r.1.gFloor.gFloor)), .ints .u8 64 (r.1.gFloor.gSig), .one (.int .i64 (r.1.gAccepted)), .one (u0)], .bool (r.2.1), .int .i64 (r.2.2)] ∧ Ms = [.all M0] ∧ OwnSl E_api_Entry u0 M0 r.1.gRows)) := by
 unfold fareboxref17_Put at h
 refine calls_memT mo ok17 rfl h0 ?_
 refine wc_seq <| wc_ops <| wj_e (ef_bx (s := [.one (.int .i64 (p0.gFloor.gFloor)), .ints .u8 64 (p0.gFloor.gSig), .one (.int .i64 (p0.gAccepted)), .one (v0)]) rfl fun b2 hb2 => wj_e (ef_bx (s := [.one (.int .i64 (p2.gCert.gSerial)), .one (.int .i64 (p2.gCert.gRides)), .one (.int .i64 (p2.gCert.gPrice)), .ints .u8 32 (p2.gCert.gAnchor), .ints .u8 64 (p2.gCert.gSig), .one (.int .i64 (p2.gIndex)), .ints .u8 32 (p2.gValue), .one (.bool (p2.gFrozen)), .ints .u8 64 (p2.gFreeze), .one (.bool (p2.gRevoked)), .ints .u8 64 (p2.gRevoke)]) rfl fun b3 hb3 => wj_e (ef_al fun b4 hb4 => wj_q _ (q_mv rfl) <| wj_q _ (q_mv rfl) <| wj_nil <| wc_seq <| wc_seq <| wc_ops <| wj_q _ (q_fa rfl) <| wj_q _ (q_fa rfl) <| wj_q _ (q_ld1 rfl (.there .here) rfl) <| wj_q _ (q_fa rfl) <| wj_q _ (q_fa rfl) <| wj_q _ (q_ld1 rfl (.there (.there .here)) rfl) <| wj_q _ (q_bin rfl rfl rfl) <| wj_nil <| wc_br h rfl (fun h => ?_) (fun h => ?_))))
 ·refine wc_seq <| wc_ops <| wj_q _ (q_ld (p := [.one (.int .i64 (p0.gFloor.gFloor)), .ints .u8 64 (p0.gFloor.gSig), .one (.int .i64 (p0.gAccepted)), .one (v0)]) rfl (.there (.there .here)) rfl) <| wj_e (ef_stg (q := [.one (.int .i64 (p0.gFloor.gFloor)), .ints .u8 64 (p0.gFloor.gSig), .one (.int .i64 (p0.gAccepted)), .one (v0)]) rfl rfl rfl rfl (ones_cons (ones_one rfl) (ones_cons ones_ints (ones_cons (ones_one rfl) (ones_cons (ones_one (IsSl.one1 (OwnSl.isSl O0))) ones_nil)))) .here <| wj_q _ (q_mv rfl) <| wj_q _ (q_mv rfl) <| wj_nil <| wc_ret ?_)
  revert h; refine ret_i fun h => ?_
  subst h
  exact ⟨_, _, (.cons (.agg rfl .here rfl) (.cons (.tmp rfl) (.cons (.tmp rfl) .nil))), (.all (.there (.there (.there .here))) .nil), ⟨_, rfl, ⟨v0, M0, rfl, rfl, O0⟩⟩⟩
 ·refine wc_skip <| wc_seq <| oH h fun y9 ey9 h => wc_ops <| wj_q _ (q_ld (p := [.one (.int .i64 (p0.gFloor.gFloor)), .ints .u8 64 (p0.gFloor.gSig), .one (.int .i64 (p0.gAccepted)), .one (v0)]) rfl (.there (.there .here)) rfl) <| wj_q _ (q_fa rfl) <| wj_q _ (q_fa rfl) <| wj_q _ (q_ld1 rfl (.there .here) rfl) <| wj_q _ (q_call rfl (fun w hw => fareboxref17_Find_spec ey9 ((rd_own O0 (.there (.there (.there .here)))) w hw))) <| wj_q _ (q_mv rfl) <| wj_q _ (q_ext rfl rfl) <| wj_q _ (q_ext rfl rfl) <| wj_e (ef_al fun b10 hb10 => wj_e (ef_st (p := [.one (.int .i64 (y9.1.gCert.gSerial)), .one (.int .i64 (y9.1.gCert.gRides)), .one (.int .i64 (y9.1.gCert.gPrice)), .ints .u8 32 (y9.1.gCert.gAnchor), .ints .u8 64 (y9.1.gCert.gSig), .one (.int .i64 (y9.1.gIndex)), .ints .u8 32 (y9.1.gValue), .one (.bool (y9.1.gFrozen)), .ints .u8 64 (y9.1.gFreeze), .one (.bool (y9.1.gRevoked)), .ints .u8 64 (y9.1.gRevoke)]) (q := [.one (.int .i64 (y9.1.gCert.gSerial)), .one (.int .i64 (y9.1.gCert.gRides)), .one (.int .i64 (y9.1.gCert.gPrice)), .ints .u8 32 (y9.1.gCert.gAnchor), .ints .u8 64 (y9.1.gCert.gSig), .one (.int .i64 (y9.1.gIndex)), .ints .u8 32 (y9.1.gValue), .one (.bool (y9.1.gFrozen)), .ints .u8 64 (y9.1.gFreeze), .one (.bool (y9.1.gRevoked)), .ints .u8 64 (y9.1.gRevoke)]) rfl rfl (by kernel_rfl) (by kernel_rfl) (by kernel_rfl) .here <| wj_q _ (q_mv rfl) <| wj_nil <| wc_seq <| wc_seq <| wc_ops <| wj_q _ (q_mv rfl) <| wj_q _ (q_un rfl rfl) <| wj_nil <| wc_br h rfl (fun h => ?_) (fun h => ?_)))
  ·refine wc_seq <| wc_seq <| wc_ops <| wj_q _ (q_fa rfl) <| wj_q _ (q_ld1 rfl (.there (.there (.there .here))) rfl) <| wj_q _ (q_lenP rfl (Shp.own O0)) <| wj_q _ (q_mv rfl) <| wj_q _ (q_bin rfl rfl rfl) <| wj_nil <| wc_br h rfl (fun h => ?_) (fun h => ?_)
   ·refine wc_seq <| wc_ops <| wj_q _ (q_ld (p := [.one (.int .i64 (p0.gFloor.gFloor)), .ints .u8 64 (p0.gFloor.gSig), .one (.int .i64 (p0.gAccepted)), .one (v0)]) rfl (.there (.there (.there .here))) rfl) <| wj_e (ef_stg (q := [.one (.int .i64 (p0.gFloor.gFloor)), .ints .u8 64 (p0.gFloor.gSig), .one (.int .i64 (p0.gAccepted)), .one (v0)]) rfl rfl rfl rfl (ones_cons (ones_one rfl) (ones_cons ones_ints (ones_cons (ones_one rfl) (ones_cons (ones_one (IsSl.one1 (OwnSl.isSl O0))) ones_nil)))) (.there .here) <| wj_q _ (q_mv rfl) <| wj_q _ (q_mv rfl) <| wj_nil <| wc_ret ?_)
    revert h; refine ret_i fun h => ?_
    subst h
    exact ⟨_, _, (.cons (.agg rfl (.there .here) rfl) (.cons (.tmp rfl) (.cons (.tmp rfl) .nil))), (.all (.there (.there (.there (.there .here)))) .nil), ⟨_, rfl, ⟨v0, M0, rfl, rfl, O0⟩⟩⟩
   ·refine wc_skip <| wc_seq <| oH h fun y17 ey17 h => wc_ops <| wj_q _ (q_fa rfl) <| wj_q _ (q_ld1 rfl (.there (.there (.there .here))) rfl) <| wj_q _ (q_ld (p := [.one (.int .i64 (p2.gCert.gSerial)), .one (.int .i64 (p2.gCert.gRides)), .one (.int .i64 (p2.gCert.gPrice)), .ints .u8 32 (p2.gCert.gAnchor), .ints .u8 64 (p2.gCert.gSig), .one (.int .i64 (p2.gIndex)), .ints .u8 32 (p2.gValue), .one (.bool (p2.gFrozen)), .ints .u8 64 (p2.gFreeze), .one (.bool (p2.gRevoked)), .ints .u8 64 (p2.gRevoke)]) rfl (.there (.there .here)) (by kernel_rfl)) <| wj_e (ef_callS0 rfl (fun w hw => fareboxref17_placed_spec  ey17 ((rd_own O0 (.there (.there (.there (.there .here))))) w hw)) fun v18 Msv18 R19 => ?_)
    obtain ⟨_, ms21, rfl, rfl, O22⟩ := R19
    refine wj_q _ (q_fa rfl) <| wj_e (ef_st1 (q := [.one (.int .i64 (p0.gFloor.gFloor)), .ints .u8 64 (p0.gFloor.gSig), .one (.int .i64 (p0.gAccepted)), .one (v18)]) rfl rfl (IsSl.one1 (OwnSl.isSl O22)) rfl (.app (.there (.there (.there .here)))) <| wj_nil <| wc_seq <| wc_ops <| wj_q _ (q_ld (p := [.one (.int .i64 (p0.gFloor.gFloor)), .ints .u8 64 (p0.gFloor.gSig), .one (.int .i64 (p0.gAccepted)), .one (v18)]) rfl (.app (.there (.there (.there .here)))) rfl) <| wj_e (ef_stg (q := [.one (.int .i64 (p0.gFloor.gFloor)), .ints .u8 64 (p0.gFloor.gSig), .one (.int .i64 (p0.gAccepted)), .one (v18)]) rfl rfl rfl rfl (ones_cons (ones_one rfl) (ones_cons ones_ints (ones_cons (ones_one rfl) (ones_cons (ones_one (IsSl.one1 (OwnSl.isSl O22))) ones_nil)))) (.app (.there .here)) <| wj_q _ (q_mv rfl) <| wj_q _ (q_mv rfl) <| wj_nil <| wc_ret ?_))
    revert h; refine ret_i fun h => ?_
    subst h
    exact ⟨_, _, (.cons (.agg rfl (.app (.there .here)) rfl) (.cons (.tmp rfl) (.cons (.tmp rfl) .nil))), (.all .here .nil), ⟨_, rfl, ⟨v18, ms21, rfl, rfl, O22⟩⟩⟩
  ·refine wc_skip <| wc_seq <| oH h fun y25 ey25 h => wc_ops <| wj_q _ (q_ld (p := [.one (.int .i64 (y9.1.gCert.gSerial)), .one (.int .i64 (y9.1.gCert.gRides)), .one (.int .i64 (y9.1.gCert.gPrice)), .ints .u8 32 (y9.1.gCert.gAnchor), .ints .u8 64 (y9.1.gCert.gSig), .one (.int .i64 (y9.1.gIndex)), .ints .u8 32 (y9.1.gValue), .one (.bool (y9.1.gFrozen)), .ints .u8 64 (y9.1.gFreeze), .one (.bool (y9.1.gRevoked)), .ints .u8 64 (y9.1.gRevoke)]) rfl .here (by kernel_rfl)) <| wj_q _ (q_ld (p := [.one (.int .i64 (p2.gCert.gSerial)), .one (.int .i64 (p2.gCert.gRides)), .one (.int .i64 (p2.gCert.gPrice)), .ints .u8 32 (p2.gCert.gAnchor), .ints .u8 64 (p2.gCert.gSig), .one (.int .i64 (p2.gIndex)), .ints .u8 32 (p2.gValue), .one (.bool (p2.gFrozen)), .ints .u8 64 (p2.gFreeze), .one (.bool (p2.gRevoked)), .ints .u8 64 (p2.gRevoke)]) rfl (.there (.there .here)) (by kernel_rfl)) <| wj_q _ (q_call rfl (fun _ _ => fareboxref17_Join_spec ey25)) <| wj_q _ (q_mv rfl) <| wj_q _ (q_ext rfl rfl) <| wj_q _ (q_ext rfl rfl) <| wj_e (ef_al fun b26 hb26 => wj_e (ef_st (p := [.one (.int .i64 (y25.1.gCert.gSerial)), .one (.int .i64 (y25.1.gCert.gRides)), .one (.int .i64 (y25.1.gCert.gPrice)), .ints .u8 32 (y25.1.gCert.gAnchor), .ints .u8 64 (y25.1.gCert.gSig), .one (.int .i64 (y25.1.gIndex)), .ints .u8 32 (y25.1.gValue), .one (.bool (y25.1.gFrozen)), .ints .u8 64 (y25.1.gFreeze), .one (.bool (y25.1.gRevoked)), .ints .u8 64 (y25.1.gRevoke)]) (q := [.one (.int .i64 (y25.1.gCert.gSerial)), .one (.int .i64 (y25.1.gCert.gRides)), .one (.int .i64 (y25.1.gCert.gPrice)), .ints .u8 32 (y25.1.gCert.gAnchor), .ints .u8 64 (y25.1.gCert.gSig), .one (.int .i64 (y25.1.gIndex)), .ints .u8 32 (y25.1.gValue), .one (.bool (y25.1.gFrozen)), .ints .u8 64 (y25.1.gFreeze), .one (.bool (y25.1.gRevoked)), .ints .u8 64 (y25.1.gRevoke)]) rfl rfl (by kernel_rfl) (by kernel_rfl) (by kernel_rfl) .here <| wj_q _ (q_mv rfl) <| wj_nil <| wc_seq <| wc_seq <| wc_ops <| wj_q _ (q_mv rfl) <| wj_q _ (q_bin rfl rfl rfl) <| wj_nil <| wc_br h rfl (fun h => ?_) (fun h => ?_)))
   ·refine wc_seq <| wc_ops <| wj_q _ (q_ld (p := [.one (.int .i64 (p0.gFloor.gFloor)), .ints .u8 64 (p0.gFloor.gSig), .one (.int .i64 (p0.gAccepted)), .one (v0)]) rfl (.there (.there (.there (.there .here)))) rfl) <| wj_q _ (q_mv rfl) <| wj_e (ef_stg (q := [.one (.int .i64 (p0.gFloor.gFloor)), .ints .u8 64 (p0.gFloor.gSig), .one (.int .i64 (p0.gAccepted)), .one (v0)]) rfl rfl rfl rfl (ones_cons (ones_one rfl) (ones_cons ones_ints (ones_cons (ones_one rfl) (ones_cons (ones_one (IsSl.one1 (OwnSl.isSl O0))) ones_nil)))) (.there (.there .here)) <| wj_q _ (q_mv rfl) <| wj_q _ (q_mv rfl) <| wj_nil <| wc_ret ?_)
    revert h; refine ret_i fun h => ?_
    subst h
    exact ⟨_, _, (.cons (.agg rfl (.there (.there .here)) rfl) (.cons (.tmp rfl) (.cons (.tmp rfl) .nil))), (.all (.there (.there (.there (.there (.there .here))))) .nil), ⟨_, rfl, ⟨v0, M0, rfl, rfl, O0⟩⟩⟩
   ·refine wc_skip <| wc_seq <| oH h fun y31 ey31 h => wc_ops <| wj_q _ (q_fa rfl) <| wj_q _ (q_ld1 rfl (.there (.there (.there (.there .here)))) rfl) <| wj_q _ (q_ld (p := [.one (.int .i64 (y25.1.gCert.gSerial)), .one (.int .i64 (y25.1.gCert.gRides)), .one (.int .i64 (y25.1.gCert.gPrice)), .ints .u8 32 (y25.1.gCert.gAnchor), .ints .u8 64 (y25.1.gCert.gSig), .one (.int .i64 (y25.1.gIndex)), .ints .u8 32 (y25.1.gValue), .one (.bool (y25.1.gFrozen)), .ints .u8 64 (y25.1.gFreeze), .one (.bool (y25.1.gRevoked)), .ints .u8 64 (y25.1.gRevoke)]) rfl .here (by kernel_rfl)) <| wj_e (ef_callS0 rfl (fun w hw => fareboxref17_changed_spec  ey31 ((rd_own O0 (.there (.there (.there (.there (.there .here)))))) w hw)) fun v32 Msv32 R33 => ?_)
    obtain ⟨_, ms35, rfl, rfl, O36⟩ := R33
    refine wj_q _ (q_fa rfl) <| wj_e (ef_st1 (q := [.one (.int .i64 (p0.gFloor.gFloor)), .ints .u8 64 (p0.gFloor.gSig), .one (.int .i64 (p0.gAccepted)), .one (v32)]) rfl rfl (IsSl.one1 (OwnSl.isSl O36)) rfl (.app (.there (.there (.there (.there .here))))) <| wj_nil <| wc_seq <| wc_drawS (m0 := (ms35 ++ (ck b26 45 [.one (.int .i64 (y25.1.gCert.gSerial)), .one (.int .i64 (y25.1.gCert.gRides)), .one (.int .i64 (y25.1.gCert.gPrice)), .ints .u8 32 (y25.1.gCert.gAnchor), .ints .u8 64 (y25.1.gCert.gSig), .one (.int .i64 (y25.1.gIndex)), .ints .u8 32 (y25.1.gValue), .one (.bool (y25.1.gFrozen)), .ints .u8 64 (y25.1.gFreeze), .one (.bool (y25.1.gRevoked)), .ints .u8 64 (y25.1.gRevoke)] :: (ck b10 45 [.one (.int .i64 (y9.1.gCert.gSerial)), .one (.int .i64 (y9.1.gCert.gRides)), .one (.int .i64 (y9.1.gCert.gPrice)), .ints .u8 32 (y9.1.gCert.gAnchor), .ints .u8 64 (y9.1.gCert.gSig), .one (.int .i64 (y9.1.gIndex)), .ints .u8 32 (y9.1.gValue), .one (.bool (y9.1.gFrozen)), .ints .u8 64 (y9.1.gFreeze), .one (.bool (y9.1.gRevoked)), .ints .u8 64 (y9.1.gRevoke)] :: (ck b3 45 [.one (.int .i64 (p2.gCert.gSerial)), .one (.int .i64 (p2.gCert.gRides)), .one (.int .i64 (p2.gCert.gPrice)), .ints .u8 32 (p2.gCert.gAnchor), .ints .u8 64 (p2.gCert.gSig), .one (.int .i64 (p2.gIndex)), .ints .u8 32 (p2.gValue), .one (.bool (p2.gFrozen)), .ints .u8 64 (p2.gFreeze), .one (.bool (p2.gRevoked)), .ints .u8 64 (p2.gRevoke)] :: (ck b2 30 [.one (.int .i64 (p0.gFloor.gFloor)), .ints .u8 64 (p0.gFloor.gSig), .one (.int .i64 (p0.gAccepted)), .one (v32)] :: (M0 ++ []))))))) (List.Sublist.append (List.Sublist.refl _) (.cons₂ _ (.cons₂ _ (.cons _ (List.Sublist.refl _))))) <| ws_q1 _ (q_ld (p := [.one (.int .i64 (p0.gFloor.gFloor)), .ints .u8 64 (p0.gFloor.gSig), .one (.int .i64 (p0.gAccepted)), .one (v32)]) rfl (.app (.there (.there (.there .here)))) rfl) <| ws_q1 _ (q_ld (p := [.one (.int .i64 (y25.1.gCert.gSerial)), .one (.int .i64 (y25.1.gCert.gRides)), .one (.int .i64 (y25.1.gCert.gPrice)), .ints .u8 32 (y25.1.gCert.gAnchor), .ints .u8 64 (y25.1.gCert.gSig), .one (.int .i64 (y25.1.gIndex)), .ints .u8 32 (y25.1.gValue), .one (.bool (y25.1.gFrozen)), .ints .u8 64 (y25.1.gFreeze), .one (.bool (y25.1.gRevoked)), .ints .u8 64 (y25.1.gRevoke)]) rfl (.app .here) (by kernel_rfl)) <| ws_q1 _ (q_ld (p := [.one (.int .i64 (y9.1.gCert.gSerial)), .one (.int .i64 (y9.1.gCert.gRides)), .one (.int .i64 (y9.1.gCert.gPrice)), .ints .u8 32 (y9.1.gCert.gAnchor), .ints .u8 64 (y9.1.gCert.gSig), .one (.int .i64 (y9.1.gIndex)), .ints .u8 32 (y9.1.gValue), .one (.bool (y9.1.gFrozen)), .ints .u8 64 (y9.1.gFreeze), .one (.bool (y9.1.gRevoked)), .ints .u8 64 (y9.1.gRevoke)]) rfl (.app (.there .here)) (by kernel_rfl)) <| ws_p1 _ (q_eqa (s := [.one (.int .i64 (y25.1.gCert.gSerial)), .one (.int .i64 (y25.1.gCert.gRides)), .one (.int .i64 (y25.1.gCert.gPrice)), .ints .u8 32 (y25.1.gCert.gAnchor), .ints .u8 64 (y25.1.gCert.gSig), .one (.int .i64 (y25.1.gIndex)), .ints .u8 32 (y25.1.gValue), .one (.bool (y25.1.gFrozen)), .ints .u8 64 (y25.1.gFreeze), .one (.bool (y25.1.gRevoked)), .ints .u8 64 (y25.1.gRevoke)]) (s' := [.one (.int .i64 (y9.1.gCert.gSerial)), .one (.int .i64 (y9.1.gCert.gRides)), .one (.int .i64 (y9.1.gCert.gPrice)), .ints .u8 32 (y9.1.gCert.gAnchor), .ints .u8 64 (y9.1.gCert.gSig), .one (.int .i64 (y9.1.gIndex)), .ints .u8 32 (y9.1.gValue), .one (.bool (y9.1.gFrozen)), .ints .u8 64 (y9.1.gFreeze), .one (.bool (y9.1.gRevoked)), .ints .u8 64 (y9.1.gRevoke)]) rfl rfl rfl rfl _ (eqc_cons rfl eqc_int (eqc_cons rfl eqc_int (eqc_cons rfl eqc_int (eqc_cons rfl eqc_ints (eqc_cons rfl eqc_ints (eqc_cons rfl eqc_int (eqc_cons rfl eqc_ints (eqc_cons rfl eqc_bool (eqc_cons rfl eqc_ints (eqc_cons rfl eqc_bool (eqc_last eqc_ints)))))))))))) <| ws_e1 (ef_stg (q := [.one (.int .i64 (p0.gFloor.gFloor)), .ints .u8 64 (p0.gFloor.gSig), .one (.int .i64 (p0.gAccepted)), .one (v32)]) rfl rfl rfl rfl (ones_cons (ones_one rfl) (ones_cons ones_ints (ones_cons (ones_one rfl) (ones_cons (ones_one (IsSl.one1 (OwnSl.isSl O36))) ones_nil)))) (.app (.there (.there .here))) ⟨fun c h => List.Sublist.subset (List.Sublist.append (List.Sublist.refl _) (.cons₂ _ (.cons₂ _ (.cons _ (List.Sublist.refl _))))) h, ws_p1 _ (q_mv rfl) (ws_p1 _ (q_mv rfl) (ws_nil (wc_ret ?_)))⟩))
    revert h; refine ret_i fun h => ?_
    subst h
    exact ⟨_, _, (.cons (.agg rfl (.app (.there (.there .here))) rfl) (.cons (.tmp rfl) (.cons (.tmp rfl) .nil))), (.all .here .nil), ⟨_, rfl, ⟨v32, ms35, rfl, rfl, O36⟩⟩⟩
/- farebox/fareboxlaw20.rowed -/
structure api_Summary where
  gSerial : Int
  gIndex : Int
  gFrozen : Bool
  gRevoked : Bool
def api_Summary_z : api_Summary := ⟨0, 0, false, false⟩
abbrev E_api_Summary : El (api_Summary) := ⟨4, fun x => cells [.one (.int .i64 (x.gSerial)), .one (.int .i64 (x.gIndex)), .one (.bool (x.gFrozen)), .one (.bool (x.gRevoked))], fun x => by rw [cells_length]; rfl, fun x => (ones_cons (ones_one rfl) (ones_cons (ones_one rfl) (ones_cons (ones_one rfl) (ones_cons (ones_one rfl) ones_nil)))), by decide, api_Summary_z⟩
def fareboxlaw20_rowed_b1 (p0 : List (api_Summary)) (k222 : (Int) → (List Int) → (Int) → (List (api_Entry)) → Option (api_GateState)) (k366 : (Int) → (Int) → (List Int) → (Int) → (List (api_Entry)) → Option (api_GateState)) (i358 : Int) (i359 : Int) (a360 : List Int) (i361 : Int) (l364 : List (api_Entry)) : Option (api_GateState) :=
 br ((decide (i358 < (p0.length : Int)))) (
 jn (fun (i396 : Int) (a397 : List Int) (i398 : Int) (l401 : List (api_Entry)) => bnd (IntKind.wrap .i64 (i358 + 1)) fun z431 =>
 k366 z431 i396 a397 i398 l401) fun k403 => chk (inB i358 p0.length) <|
 bnd (p0.getD (i358).toNat api_Summary_z) fun x406 =>
 chk (inB i358 p0.length) <|
 bnd (p0.getD (i358).toNat api_Summary_z) fun x408 =>
 chk (inB i358 p0.length) <|
 bnd (p0.getD (i358).toNat api_Summary_z) fun x410 =>
 chk (inB i358 p0.length) <|
 bnd (p0.getD (i358).toNat api_Summary_z) fun x412 =>
 chk (inB i358 p0.length) <|
 bnd (p0.getD (i358).toNat api_Summary_z) fun x416 =>
 opt (fareboxref17_Find (⟨(⟨i359, a360⟩ : api_Floor), i361, l364⟩ : api_GateState) x416.gSerial) fun y417 =>
 chk (imp (!y417.2) (inB i358 p0.length)) <|
 br (((!y417.2) && (decide ((p0.getD (i358).toNat api_Summary_z).gSerial ≥ 0)))) (
 bnd (IntKind.wrap .i64 ((p0.length : Int) + 1)) fun z423 =>
 opt (fareboxref17_Put (⟨(⟨i359, a360⟩ : api_Floor), i361, l364⟩ : api_GateState) z423 (⟨(⟨x406.gSerial, 0, 0, (List.replicate 32 0), (List.replicate 64 0)⟩ : api_Cert), x408.gIndex, (List.replicate 32 0), x410.gFrozen, (List.replicate 64 0), x412.gRevoked, (List.replicate 64 0)⟩ : api_Entry)) fun y424 =>
 k403 y424.1.gFloor.gFloor y424.1.gFloor.gSig y424.1.gAccepted y424.1.gRows
 ) (
 k403 i359 a360 i361 l364
 )
 ) (
 k222 i359 a360 i361 l364
 )
def fareboxlaw20_rowed_l1 (p0 : List (api_Summary)) (k222 : (Int) → (List Int) → (Int) → (List (api_Entry)) → Option (api_GateState)) : Nat → (Int) → (Int) → (List Int) → (Int) → (List (api_Entry)) → Option (api_GateState)
  | 0, _, _, _, _, _ => none
  | n + 1, i358, i359, a360, i361, l364 => fareboxlaw20_rowed_b1 p0 k222 (fareboxlaw20_rowed_l1 p0 k222 n) i358 i359 a360 i361 l364
def fareboxlaw20_rowed (p0 : List (api_Summary)) : Option (api_GateState) :=
 jn (fun (i215 : Int) (a216 : List Int) (i217 : Int) (l220 : List (api_Entry)) => some (⟨(⟨i215, a216⟩ : api_Floor), i217, l220⟩ : api_GateState)) fun k222 => fareboxlaw20_rowed_l1 p0 k222 big 0 0 (List.replicate 64 0) 0 []
theorem fareboxlaw20_rowed_spec {W : World} {r : api_GateState} {p0 : List (api_Summary)} {v0 : Value} (h : fareboxlaw20_rowed p0 = some r) (A0 : RdSl E_api_Summary W v0 p0) :
    Calls Try.prog 4 [v0].toArray W (retS W [] (fun v Ms => ∃ (u0 : Value) (M0 : List Chunk), v = agg [.one (.int .i64 (r.gFloor.gFloor)), .ints .u8 64 (r.gFloor.gSig), .one (.int .i64 (r.gAccepted)), .one (u0)] ∧ Ms = [.all M0] ∧ OwnSl E_api_Entry u0 M0 r.gRows)) := by
 unfold fareboxlaw20_rowed at h
 refine calls_memT mo ok4 rfl (sat0 _) ?_
 refine wc_seq <| wc_ops <| wj_e (ef_al fun b2 hb2 => wj_nil <| wc_seq <| wc_ops <| wj_e (ef_al fun b4 hb4 => wj_nil <| wc_seq <| wc_seq <| wc_ops <| wj_q _ (q_mv rfl) <| wj_nil <| jH h fun k222 qk222 h => wc_mono2 (G := fun t m => ∃ (i215 : Int) (a216 : List Int) (i217 : Int) (l220 : List (api_Entry)) (v218 : Value) (ms219 : List Chunk), k222 i215 a216 i217 l220 = some r ∧ OwnSl E_api_Entry v218 ms219 l220 ∧ Fit [(2, .pointer (some ⟨b2, 0, none⟩)), (3, .pointer (some ⟨b4, 0, none⟩))] (ck b4 30 [.one (.int .i64 (i215)), .ints .u8 64 (a216), .one (.int .i64 (i217)), .one (v218)] :: (ck b2 30 [.one (.int .i64 (0)), .ints .u8 64 ((List.replicate 64 0)), .one (.int .i64 (0)), .one (.slice none 0 0)] :: (ms219 ++ []))) t m) ?_ ?_))
 ·refine wc_block <| wc_loopJ (fun n367 t m => ∃ (i358 : Int) (i359 : Int) (a360 : List Int) (i361 : Int) (l364 : List (api_Entry)) (v362 : Value) (ms363 : List Chunk), fareboxlaw20_rowed_l1 p0 k222 n367 i358 i359 a360 i361 l364 = some r ∧ OwnSl E_api_Entry v362 ms363 l364 ∧ Fit [(0, v0), (2, .pointer (some ⟨b2, 0, none⟩)), (3, .pointer (some ⟨b4, 0, none⟩)), (4, .int .i64 (i358))] (ck b4 30 [.one (.int .i64 (i359)), .ints .u8 64 (a360), .one (.int .i64 (i361)), .one (v362)] :: (ck b2 30 [.one (.int .i64 (0)), .ints .u8 64 ((List.replicate 64 0)), .one (.int .i64 (0)), .one (.slice none 0 0)] :: (ms363 ++ []))) t m) big ?_ ?_
  ·exact ⟨0, 0, (List.replicate 64 0), 0, [], (.slice none 0 0), [], h, own_nil, ⟨⟨rfl, rfl, rfl, rfl, trivial⟩, (.one .here (.one .here (.no .nil)))⟩⟩
  ·rintro n367 t m ⟨i358, i359, a360, i361, l364, v362, ms363, h, O365, hF⟩
   refine wc_fit hF ?_
   clear hF
   rcases n367 with _ | n367
   · exact none_i h
   have h : fareboxlaw20_rowed_b1 p0 k222 (fareboxlaw20_rowed_l1 p0 k222 n367) i358 i359 a360 i361 l364 = some r := h
   unfold fareboxlaw20_rowed_b1 at h
   obtain ⟨k366, qk366⟩ : ∃ k, k = fareboxlaw20_rowed_l1 p0 k222 n367 := ⟨_, rfl⟩
   try rw [← qk366] at h
   refine wc_seq <| wc_seq <| wc_ops <| wj_q _ (q_mv rfl) <| wj_q _ (q_mv rfl) <| wj_q _ (q_lenP rfl (Shp.rd A0)) <| wj_q _ (q_bin rfl rfl rfl) <| wj_nil <| wc_br h rfl (fun h => ?_) (fun h => ?_)
   ·refine wc_skip <| wc_seq <| jH h fun k403 qk403 h => wc_mono2 (G := fun t m => ∃ (i396 : Int) (a397 : List Int) (i398 : Int) (l401 : List (api_Entry)) (v399 : Value) (ms400 : List Chunk), k403 i396 a397 i398 l401 = some r ∧ OwnSl E_api_Entry v399 ms400 l401 ∧ Fit [(0, v0), (2, .pointer (some ⟨b2, 0, none⟩)), (3, .pointer (some ⟨b4, 0, none⟩)), (4, .int .i64 (i358))] (ck b4 30 [.one (.int .i64 (i396)), .ints .u8 64 (a397), .one (.int .i64 (i398)), .one (v399)] :: (ck b2 30 [.one (.int .i64 (0)), .ints .u8 64 ((List.replicate 64 0)), .one (.int .i64 (0)), .one (.slice none 0 0)] :: (ms400 ++ []))) t m) ?_ ?_
    ·refine wc_block <| wc_seq <| cH h fun c405 h => bH h fun x406 ex406 h => cH h fun c407 h => bH h fun x408 ex408 h => cH h fun c409 h => bH h fun x410 ex410 h => cH h fun c411 h => bH h fun x412 ex412 h => wc_draw <| ws_p1 _ (q_mv rfl) <| ws_p1 _ (q_mv rfl) <| ws_p1 _ (q_iasP rfl rfl (Shp.rd A0) c405) <| ws_p1 _ (q_fa rfl) <| ws_p1 _ (q_mv rfl) <| ws_p1 _ (q_mv rfl) <| ws_p1 _ (q_iasP rfl rfl (Shp.rd A0) c407) <| ws_p1 _ (q_fa rfl) <| ws_p1 _ (q_mv rfl) <| ws_p1 _ (q_mv rfl) <| ws_p1 _ (q_iasP rfl rfl (Shp.rd A0) c409) <| ws_p1 _ (q_fa rfl) <| ws_p1 _ (q_mv rfl) <| ws_p1 _ (q_mv rfl) <| ws_p1 _ (q_iasP rfl rfl (Shp.rd A0) c411) <| ws_p1 _ (q_fa rfl) <| ws_q1 _ (az (fun (x406 : api_Summary) => .int .i64 (x406.gSerial)) ex406 (q_ldM1 (E := E_api_Summary) (s := [.one (.int .i64 (((p0.getD (i358).toNat api_Summary_z)).gSerial)), .one (.int .i64 (((p0.getD (i358).toNat api_Summary_z)).gIndex)), .one (.bool (((p0.getD (i358).toNat api_Summary_z)).gFrozen)), .one (.bool (((p0.getD (i358).toNat api_Summary_z)).gRevoked))]) (c := 0) rfl (rd_arg A0 apart0) (inB_n c405) rfl rfl)) <| ws_p1 _ (q_bd (q := [.one (.int .i64 (x406.gSerial)), .one (.int .i64 (0)), .one (.int .i64 (0)), .ints .u8 32 ((List.replicate 32 0)), .ints .u8 64 ((List.replicate 64 0))]) (.one rfl rfl rfl BdR.nil)) <| ws_q1 _ (az (fun (x408 : api_Summary) => .int .i64 (x408.gIndex)) ex408 (q_ldM1 (E := E_api_Summary) (s := [.one (.int .i64 (((p0.getD (i358).toNat api_Summary_z)).gSerial)), .one (.int .i64 (((p0.getD (i358).toNat api_Summary_z)).gIndex)), .one (.bool (((p0.getD (i358).toNat api_Summary_z)).gFrozen)), .one (.bool (((p0.getD (i358).toNat api_Summary_z)).gRevoked))]) (c := 1) rfl (rd_arg A0 apart0) (inB_n c407) rfl rfl)) <| ws_q1 _ (az (fun (x410 : api_Summary) => .bool (x410.gFrozen)) ex410 (q_ldM1 (E := E_api_Summary) (s := [.one (.int .i64 (((p0.getD (i358).toNat api_Summary_z)).gSerial)), .one (.int .i64 (((p0.getD (i358).toNat api_Summary_z)).gIndex)), .one (.bool (((p0.getD (i358).toNat api_Summary_z)).gFrozen)), .one (.bool (((p0.getD (i358).toNat api_Summary_z)).gRevoked))]) (c := 2) rfl (rd_arg A0 apart0) (inB_n c409) rfl rfl)) <| ws_q1 _ (az (fun (x412 : api_Summary) => .bool (x412.gRevoked)) ex412 (q_ldM1 (E := E_api_Summary) (s := [.one (.int .i64 (((p0.getD (i358).toNat api_Summary_z)).gSerial)), .one (.int .i64 (((p0.getD (i358).toNat api_Summary_z)).gIndex)), .one (.bool (((p0.getD (i358).toNat api_Summary_z)).gFrozen)), .one (.bool (((p0.getD (i358).toNat api_Summary_z)).gRevoked))]) (c := 3) rfl (rd_arg A0 apart0) (inB_n c411) rfl rfl)) <| ws_p1 _ (q_bd (q := [.one (.int .i64 (x406.gSerial)), .one (.int .i64 (0)), .one (.int .i64 (0)), .ints .u8 32 ((List.replicate 32 0)), .ints .u8 64 ((List.replicate 64 0)), .one (.int .i64 (x408.gIndex)), .ints .u8 32 ((List.replicate 32 0)), .one (.bool (x410.gFrozen)), .ints .u8 64 ((List.replicate 64 0)), .one (.bool (x412.gRevoked)), .ints .u8 64 ((List.replicate 64 0))]) (.agg (z' := [.one (.int .i64 (x406.gSerial)), .one (.int .i64 (0)), .one (.int .i64 (0)), .ints .u8 32 ((List.replicate 32 0)), .ints .u8 64 ((List.replicate 64 0)), .one (.int .i64 (0)), .ints .u8 32 ((List.replicate 32 0)), .one (.bool (false)), .ints .u8 64 ((List.replicate 64 0)), .one (.bool (false)), .ints .u8 64 ((List.replicate 64 0))]) rfl (by kernel_rfl) (by kernel_rfl) (.one (z' := [.one (.int .i64 (x406.gSerial)), .one (.int .i64 (0)), .one (.int .i64 (0)), .ints .u8 32 ((List.replicate 32 0)), .ints .u8 64 ((List.replicate 64 0)), .one (.int .i64 (x408.gIndex)), .ints .u8 32 ((List.replicate 32 0)), .one (.bool (false)), .ints .u8 64 ((List.replicate 64 0)), .one (.bool (false)), .ints .u8 64 ((List.replicate 64 0))]) rfl rfl (by kernel_rfl) (.one (z' := [.one (.int .i64 (x406.gSerial)), .one (.int .i64 (0)), .one (.int .i64 (0)), .ints .u8 32 ((List.replicate 32 0)), .ints .u8 64 ((List.replicate 64 0)), .one (.int .i64 (x408.gIndex)), .ints .u8 32 ((List.replicate 32 0)), .one (.bool (x410.gFrozen)), .ints .u8 64 ((List.replicate 64 0)), .one (.bool (false)), .ints .u8 64 ((List.replicate 64 0))]) rfl rfl (by kernel_rfl) (.one (z' := [.one (.int .i64 (x406.gSerial)), .one (.int .i64 (0)), .one (.int .i64 (0)), .ints .u8 32 ((List.replicate 32 0)), .ints .u8 64 ((List.replicate 64 0)), .one (.int .i64 (x408.gIndex)), .ints .u8 32 ((List.replicate 32 0)), .one (.bool (x410.gFrozen)), .ints .u8 64 ((List.replicate 64 0)), .one (.bool (x412.gRevoked)), .ints .u8 64 ((List.replicate 64 0))]) rfl rfl (by kernel_rfl) BdR.nil))))) <| ws_e1 (ef_al fun b413 hb413 => ⟨(by repeat (first | exact Sup.refl _ | apply Sup.cons | apply Sup.app)), ws_eL rfl (ef_st (p := [.one (.int .i64 (x406.gSerial)), .one (.int .i64 (0)), .one (.int .i64 (0)), .ints .u8 32 ((List.replicate 32 0)), .ints .u8 64 ((List.replicate 64 0)), .one (.int .i64 (x408.gIndex)), .ints .u8 32 ((List.replicate 32 0)), .one (.bool (x410.gFrozen)), .ints .u8 64 ((List.replicate 64 0)), .one (.bool (x412.gRevoked)), .ints .u8 64 ((List.replicate 64 0))]) (q := [.one (.int .i64 (x406.gSerial)), .one (.int .i64 (0)), .one (.int .i64 (0)), .ints .u8 32 ((List.replicate 32 0)), .ints .u8 64 ((List.replicate 64 0)), .one (.int .i64 (x408.gIndex)), .ints .u8 32 ((List.replicate 32 0)), .one (.bool (x410.gFrozen)), .ints .u8 64 ((List.replicate 64 0)), .one (.bool (x412.gRevoked)), .ints .u8 64 ((List.replicate 64 0))]) rfl rfl (by kernel_rfl) (by kernel_rfl) (by kernel_rfl) .here (ws_nil (wc_seq (cH h fun c415 h => bH h fun x416 ex416 h => oH h fun y417 ey417 h => wc_draw (ws_p1 _ (q_mv rfl) (ws_p1 _ (q_mv rfl) (ws_p1 _ (q_iasP rfl rfl (Shp.rd A0) c415) (ws_p1 _ (q_fa rfl) (ws_q1 _ (q_ld (p := [.one (.int .i64 (i359)), .ints .u8 64 (a360), .one (.int .i64 (i361)), .one (v362)]) rfl (.there .here) rfl) (ws_q1 _ (az (fun (x416 : api_Summary) => .int .i64 (x416.gSerial)) ex416 (q_ldM1 (E := E_api_Summary) (s := [.one (.int .i64 (((p0.getD (i358).toNat api_Summary_z)).gSerial)), .one (.int .i64 (((p0.getD (i358).toNat api_Summary_z)).gIndex)), .one (.bool (((p0.getD (i358).toNat api_Summary_z)).gFrozen)), .one (.bool (((p0.getD (i358).toNat api_Summary_z)).gRevoked))]) (c := 0) rfl (rd_arg A0 apart0) (inB_n c415) rfl rfl)) (ws_q1 _ (q_call rfl (fun w hw => fareboxref17_Find_spec (p0 := (⟨(⟨i359, a360⟩ : api_Floor), i361, l364⟩ : api_GateState)) ey417 ((rd_own O365 (.there (.there (.there .here)))) w hw))) (ws_p1 _ (q_mv rfl) (ws_p1 _ (q_ext rfl rfl) (ws_p1 _ (q_ext rfl rfl) (ws_e1 (ef_al fun b418 hb418 => ⟨(by repeat (first | exact Sup.refl _ | apply Sup.cons | apply Sup.app)), ws_eL rfl (ef_st (p := [.one (.int .i64 (y417.1.gCert.gSerial)), .one (.int .i64 (y417.1.gCert.gRides)), .one (.int .i64 (y417.1.gCert.gPrice)), .ints .u8 32 (y417.1.gCert.gAnchor), .ints .u8 64 (y417.1.gCert.gSig), .one (.int .i64 (y417.1.gIndex)), .ints .u8 32 (y417.1.gValue), .one (.bool (y417.1.gFrozen)), .ints .u8 64 (y417.1.gFreeze), .one (.bool (y417.1.gRevoked)), .ints .u8 64 (y417.1.gRevoke)]) (q := [.one (.int .i64 (y417.1.gCert.gSerial)), .one (.int .i64 (y417.1.gCert.gRides)), .one (.int .i64 (y417.1.gCert.gPrice)), .ints .u8 32 (y417.1.gCert.gAnchor), .ints .u8 64 (y417.1.gCert.gSig), .one (.int .i64 (y417.1.gIndex)), .ints .u8 32 (y417.1.gValue), .one (.bool (y417.1.gFrozen)), .ints .u8 64 (y417.1.gFreeze), .one (.bool (y417.1.gRevoked)), .ints .u8 64 (y417.1.gRevoke)]) rfl rfl (by kernel_rfl) (by kernel_rfl) (by kernel_rfl) .here (ws_p1 _ (q_mv rfl) (ws_nil (wc_seq (cH h fun c420 h => wc_ops (wj_q _ (q_mv rfl) (wj_q _ (q_un rfl rfl) (wj_q _ (q_mv rfl) (wj_and rfl rfl rfl (fun hg1 => qj_g rfl _ (q_mv rfl) (qj_g rfl _ (q_mv rfl) (qj_g rfl _ (q_iasP rfl rfl (Shp.rd A0) (imp_t c420 hg1)) (qj_g rfl _ (q_fa rfl) (qj_g rfl _ (az (fun (zz : api_Summary) => .int .i64 (zz.gSerial)) rfl (q_ldM1 (E := E_api_Summary) (s := [.one (.int .i64 (((p0.getD (i358).toNat api_Summary_z)).gSerial)), .one (.int .i64 (((p0.getD (i358).toNat api_Summary_z)).gIndex)), .one (.bool (((p0.getD (i358).toNat api_Summary_z)).gFrozen)), .one (.bool (((p0.getD (i358).toNat api_Summary_z)).gRevoked))]) (c := 0) rfl (rd_arg A0 apart0) (inB_n (imp_t c420 hg1)) rfl rfl)) (qj_g rfl _ (q_bin rfl rfl rfl) (qj_nil))))))) (fun hg1 => rfl) rfl (wj_nil (wc_br h rfl (fun h => ?_) (fun h => ?_))))))))))))⟩))))))))))))))))⟩)
     ·refine bH h fun z423 ez423 h => oH h fun y424 ey424 h => wc_ops <| wj_q _ (q_ld (p := [.one (.int .i64 (i359)), .ints .u8 64 (a360), .one (.int .i64 (i361)), .one (v362)]) rfl (.there (.there .here)) rfl) <| wj_q _ (q_mv rfl) <| wj_q _ (q_lenP rfl (Shp.rd A0)) <| wj_q _ (iz ez423 (q_bin rfl rfl rfl)) <| wj_q _ (q_ld (p := [.one (.int .i64 (x406.gSerial)), .one (.int .i64 (0)), .one (.int .i64 (0)), .ints .u8 32 ((List.replicate 32 0)), .ints .u8 64 ((List.replicate 64 0)), .one (.int .i64 (x408.gIndex)), .ints .u8 32 ((List.replicate 32 0)), .one (.bool (x410.gFrozen)), .ints .u8 64 ((List.replicate 64 0)), .one (.bool (x412.gRevoked)), .ints .u8 64 ((List.replicate 64 0))]) rfl (.there .here) (by kernel_rfl)) <| wj_e (ef_callS (mS := ms363) rfl (Take.perm (.there (.there (.there (.there .here))))) (fun w hw => fareboxref17_Put_spec (p0 := (⟨(⟨i359, a360⟩ : api_Floor), i361, l364⟩ : api_GateState)) (p2 := (⟨(⟨x406.gSerial, 0, 0, (List.replicate 32 0), (List.replicate 64 0)⟩ : api_Cert), x408.gIndex, (List.replicate 32 0), x410.gFrozen, (List.replicate 64 0), x412.gRevoked, (List.replicate 64 0)⟩ : api_Entry)) ey424 (sat_own1 hw (ms := ms363) (Take.perm (.there (.there (.there (.there .here)))))) O365) fun v425 Msv425 R426 => ?_)
      obtain ⟨v427, ms428, rfl, rfl, O429⟩ := R426
      exact wj_q _ (q_mv rfl) <| wj_q _ (q_ext rfl rfl) <| wj_q _ (q_ext rfl rfl) <| wj_q _ (q_ext rfl rfl) <| wj_e (ef_stg (q := [.one (.int .i64 (y424.1.gFloor.gFloor)), .ints .u8 64 (y424.1.gFloor.gSig), .one (.int .i64 (y424.1.gAccepted)), .one (v427)]) rfl rfl rfl rfl (ones_cons (ones_one rfl) (ones_cons ones_ints (ones_cons (ones_one rfl) (ones_cons (ones_one (IsSl.one1 (OwnSl.isSl O429))) ones_nil)))) (.app (.there (.there .here))) <| wj_nil <| ⟨y424.1.gFloor.gFloor, y424.1.gFloor.gSig, y424.1.gAccepted, y424.1.gRows, v427, ms428, h, O429, ⟨⟨rfl, rfl, rfl, rfl, trivial⟩, (.one (.app (.there (.there .here))) (.one (.app (.there (.there .here))) (.all .here .nil)))⟩⟩)
     ·exact wc_skip <| ⟨i359, a360, i361, l364, v362, ms363, h, O365, ⟨⟨rfl, rfl, rfl, rfl, trivial⟩, (.one (.there (.there .here)) (.one (.there (.there .here)) (.all (.there (.there .here)) .nil)))⟩⟩
    ·rintro t m ⟨i396, a397, i398, l401, v399, ms400, h, O402, hF⟩
     refine wc_fit hF ?_
     clear hF
     subst qk403
     refine bH h fun z431 ez431 h => wc_ops <| wj_q _ (q_mv rfl) <| wj_q _ (iz ez431 (q_bin rfl rfl rfl)) <| wj_q _ (q_mv rfl) <| wj_nil ?_
     rw [qk366] at h
     exact ⟨n367, Nat.lt_succ_self _, z431, i396, a397, i398, l401, v399, ms400, h, O402, ⟨⟨rfl, rfl, rfl, rfl, trivial⟩, (.one .here (.one .here (.all .here .nil)))⟩⟩
   ·exact wc_exit _ rfl <| ⟨i359, a360, i361, l364, v362, ms363, h, O365, ⟨⟨rfl, rfl, trivial⟩, (.one .here (.one .here (.all .here .nil)))⟩⟩
 ·rintro t m ⟨i215, a216, i217, l220, v218, ms219, h, O221, hF⟩
  refine wc_fit hF ?_
  clear hF
  subst qk222
  refine wc_seq <| wc_ops <| wj_q _ (q_ld (p := [.one (.int .i64 (i215)), .ints .u8 64 (a216), .one (.int .i64 (i217)), .one (v218)]) rfl .here rfl) <| wj_e (ef_stg (q := [.one (.int .i64 (i215)), .ints .u8 64 (a216), .one (.int .i64 (i217)), .one (v218)]) rfl rfl rfl rfl (ones_cons (ones_one rfl) (ones_cons ones_ints (ones_cons (ones_one rfl) (ones_cons (ones_one (IsSl.one1 (OwnSl.isSl O221))) ones_nil)))) (.there .here) <| wj_nil <| wc_ret ?_)
  revert h; refine ret_i fun h => ?_
  subst h
  exact ⟨_, _, (.cons (.agg rfl (.there .here) rfl) .nil), (.all (.there (.there .here)) .nil), ⟨_, rfl, ⟨v218, ms219, rfl, rfl, O221⟩⟩⟩
end Go.Proofs.Ytaebomfgmadilaa
/- Mirrors. -/
namespace Go.Proofs.Ytaebomfgmadilaa
open Go Go.Sx Go.RowKit
set_option linter.all false
set_option maxHeartbeats 400000
set_option maxRecDepth 100000
/- farebox/fareboxlaw20.marked -/
def fareboxlaw20_marked (p0 : api_GateState) : Option (((api_GateState) × Int)) :=
 chk (decide ((([] : List (api_Entry)).length + p0.gRows.length) * 296 ≤ 140737488355328)) <|
 bnd (([] : List (api_Entry)) ++ p0.gRows) fun l7 =>
 chk (decide ((l7.length + ([(⟨(⟨0, 0, 0, (List.replicate 32 0), (List.replicate 64 0)⟩ : api_Cert), (-7), (List.replicate 32 0), false, (List.replicate 64 0), false, (List.replicate 64 0)⟩ : api_Entry), (⟨(⟨0, 0, 0, (List.replicate 32 0), (List.replicate 64 0)⟩ : api_Cert), (-8), (List.replicate 32 0), false, (List.replicate 64 0), false, (List.replicate 64 0)⟩ : api_Entry)] : List (api_Entry)).length) * 296 ≤ 140737488355328)) <|
 bnd (l7 ++ ([(⟨(⟨0, 0, 0, (List.replicate 32 0), (List.replicate 64 0)⟩ : api_Cert), (-7), (List.replicate 32 0), false, (List.replicate 64 0), false, (List.replicate 64 0)⟩ : api_Entry), (⟨(⟨0, 0, 0, (List.replicate 32 0), (List.replicate 64 0)⟩ : api_Cert), (-8), (List.replicate 32 0), false, (List.replicate 64 0), false, (List.replicate 64 0)⟩ : api_Entry)] : List (api_Entry))) fun l16 =>
 chk (cutB 0 (p0.gRows.length : Int) l16.length) <|
 some ((⟨p0.gFloor, p0.gAccepted, l16⟩ : api_GateState), (p0.gRows.length : Int))
theorem fareboxlaw20_marked_spec {W : World} {r : ((api_GateState) × Int)} {p0 : api_GateState} {v0_0 : Value} (h : fareboxlaw20_marked p0 = some r) (A0_0 : RdSl E_api_Entry W v0_0 p0.gRows) :
    Calls Try.prog 5 [agg [.one (.int .i64 (p0.gFloor.gFloor)), .ints .u8 64 (p0.gFloor.gSig), .one (.int .i64 (p0.gAccepted)), .one (v0_0)]].toArray W (retS W [] (fun v Ms => ∃ (u0 : Value) (M0 : List Chunk), v = agg [.one (.int .i64 (r.1.gFloor.gFloor)), .ints .u8 64 (r.1.gFloor.gSig), .one (.int .i64 (r.1.gAccepted)), .one (cutSl 262 u0 0 (r.2).toNat)] ∧ Ms = [.all M0] ∧ OwnSl E_api_Entry u0 M0 r.1.gRows ∧ cutB 0 r.2 (r.1.gRows).length = true)) := by
 unfold fareboxlaw20_marked at h
 refine calls_memT mo ok5 rfl (sat0 _) ?_
 refine wc_seq <| wc_ops <| wj_e (ef_bx (s := [.one (.int .i64 (p0.gFloor.gFloor)), .ints .u8 64 (p0.gFloor.gSig), .one (.int .i64 (p0.gAccepted)), .one (v0_0)]) rfl fun b2 hb2 => wj_e (ef_al fun b3 hb3 => wj_nil <| wc_seq <| wc_ops <| wj_q _ (q_mv rfl) <| wj_nil <| wc_seq <| cH h fun c6 h => bH h fun l7 el7 h => wc_ops <| wj_q _ (q_mv rfl) <| wj_q _ (q_fa rfl) <| wj_q _ (q_ld1 rfl (.there .here) rfl) <| wj_e (ef_appO (E := E_api_Entry) el7 rfl own_nil .here rfl (rd_arg A0_0 apart0) c6 fun v8 ms9 O10 => wj_q _ (q_mv rfl) <| wj_nil <| wc_seq <| cH h fun c15 h => bH h fun l16 el16 h => wc_ops <| wj_q _ (q_mv rfl) <| wj_q _ (q_bd (q := [.one (.int .i64 (0)), .one (.int .i64 (0)), .one (.int .i64 (0)), .ints .u8 32 ((List.replicate 32 0)), .ints .u8 64 ((List.replicate 64 0)), .one (.int .i64 ((-7))), .ints .u8 32 ((List.replicate 32 0)), .one (.bool (false)), .ints .u8 64 ((List.replicate 64 0)), .one (.bool (false)), .ints .u8 64 ((List.replicate 64 0))]) (.one (z' := [.one (.int .i64 (0)), .one (.int .i64 (0)), .one (.int .i64 (0)), .ints .u8 32 ((List.replicate 32 0)), .ints .u8 64 ((List.replicate 64 0)), .one (.int .i64 ((-7))), .ints .u8 32 ((List.replicate 32 0)), .one (.bool (false)), .ints .u8 64 ((List.replicate 64 0)), .one (.bool (false)), .ints .u8 64 ((List.replicate 64 0))]) rfl rfl (by kernel_rfl) BdR.nil)) <| wj_q _ (q_bd (q := [.one (.int .i64 (0)), .one (.int .i64 (0)), .one (.int .i64 (0)), .ints .u8 32 ((List.replicate 32 0)), .ints .u8 64 ((List.replicate 64 0)), .one (.int .i64 ((-8))), .ints .u8 32 ((List.replicate 32 0)), .one (.bool (false)), .ints .u8 64 ((List.replicate 64 0)), .one (.bool (false)), .ints .u8 64 ((List.replicate 64 0))]) (.one (z' := [.one (.int .i64 (0)), .one (.int .i64 (0)), .one (.int .i64 (0)), .ints .u8 32 ((List.replicate 32 0)), .ints .u8 64 ((List.replicate 64 0)), .one (.int .i64 ((-8))), .ints .u8 32 ((List.replicate 32 0)), .one (.bool (false)), .ints .u8 64 ((List.replicate 64 0)), .one (.bool (false)), .ints .u8 64 ((List.replicate 64 0))]) rfl rfl (by kernel_rfl) BdR.nil)) <| wj_e (ef_bsO (E := E_api_Entry) (xs := [(⟨(⟨0, 0, 0, (List.replicate 32 0), (List.replicate 64 0)⟩ : api_Cert), (-7), (List.replicate 32 0), false, (List.replicate 64 0), false, (List.replicate 64 0)⟩ : api_Entry), (⟨(⟨0, 0, 0, (List.replicate 32 0), (List.replicate 64 0)⟩ : api_Cert), (-8), (List.replicate 32 0), false, (List.replicate 64 0), false, (List.replicate 64 0)⟩ : api_Entry)]) (.agg rfl rfl rfl (.agg rfl rfl rfl BdR.nil)) (.cons (p := [.one (.int .i64 (0)), .one (.int .i64 (0)), .one (.int .i64 (0)), .ints .u8 32 ((List.replicate 32 0)), .ints .u8 64 ((List.replicate 64 0)), .one (.int .i64 ((-7))), .ints .u8 32 ((List.replicate 32 0)), .one (.bool (false)), .ints .u8 64 ((List.replicate 64 0)), .one (.bool (false)), .ints .u8 64 ((List.replicate 64 0))]) rfl (.cons (p := [.one (.int .i64 (0)), .one (.int .i64 (0)), .one (.int .i64 (0)), .ints .u8 32 ((List.replicate 32 0)), .ints .u8 64 ((List.replicate 64 0)), .one (.int .i64 ((-8))), .ints .u8 32 ((List.replicate 32 0)), .one (.bool (false)), .ints .u8 64 ((List.replicate 64 0)), .one (.bool (false)), .ints .u8 64 ((List.replicate 64 0))]) rfl .nil)) rfl fun v12 ms13 O14 => wj_e (ef_appO (E := E_api_Entry) el16 rfl O10 (.app .here) rfl (rd_own O14 .here) c15 fun v17 ms18 O19 => wj_q _ (q_mv rfl) <| wj_nil <| wc_seq <| cH h fun c21 h => wc_ops <| wj_q _ (q_mv rfl) <| wj_q _ (q_fa rfl) <| wj_q _ (q_ld1 rfl (.app (.app (.there .here))) rfl) <| wj_q _ (q_lenP rfl (Shp.rd A0_0)) <| wj_q _ (q_slsP (lz := 0) (hz := (p0.gRows.length : Int)) rfl (Shp.own O19) .no (.yes rfl) c21) <| wj_q _ (q_fa rfl) <| wj_e (ef_st1 (q := [.one (.int .i64 (p0.gFloor.gFloor)), .ints .u8 64 (p0.gFloor.gSig), .one (.int .i64 (p0.gAccepted)), .one ((cutSl 262 v17 0 ((p0.gRows.length : Int)).toNat))]) rfl rfl (IsSl.one1 cut_isSl) rfl (.app (.app (.there .here))) <| wj_nil <| wc_seq <| wc_ops <| wj_q _ (q_ld (p := [.one (.int .i64 (p0.gFloor.gFloor)), .ints .u8 64 (p0.gFloor.gSig), .one (.int .i64 (p0.gAccepted)), .one ((cutSl 262 v17 0 ((p0.gRows.length : Int)).toNat))]) rfl (.app (.app (.there .here))) rfl) <| wj_e (ef_stg (q := [.one (.int .i64 (p0.gFloor.gFloor)), .ints .u8 64 (p0.gFloor.gSig), .one (.int .i64 (p0.gAccepted)), .one ((cutSl 262 v17 0 ((p0.gRows.length : Int)).toNat))]) rfl rfl rfl rfl (ones_cons (ones_one rfl) (ones_cons ones_ints (ones_cons (ones_one rfl) (ones_cons (ones_one (IsSl.one1 cut_isSl)) ones_nil)))) (.app (.app .here)) <| wj_nil <| wc_ret ?_)))))))
 revert h; refine ret_i fun h => ?_
 subst h
 exact ⟨_, _, (.cons (.agg rfl (.app (.app .here)) rfl) .nil), (.all .here .nil), ⟨_, rfl, ⟨v17, ms18, rfl, rfl, O19, c21⟩⟩⟩
/- farebox/gossip.summary -/
def gossip_summary (p0 : api_Entry) : Option (api_Summary) :=
 some (⟨p0.gCert.gSerial, p0.gIndex, p0.gFrozen, p0.gRevoked⟩ : api_Summary)
theorem gossip_summary_spec {W : World} {r : api_Summary} {p0 : api_Entry} (h : gossip_summary p0 = some r)  :
    Calls Try.prog 18 [agg [.one (.int .i64 (p0.gCert.gSerial)), .one (.int .i64 (p0.gCert.gRides)), .one (.int .i64 (p0.gCert.gPrice)), .ints .u8 32 (p0.gCert.gAnchor), .ints .u8 64 (p0.gCert.gSig), .one (.int .i64 (p0.gIndex)), .ints .u8 32 (p0.gValue), .one (.bool (p0.gFrozen)), .ints .u8 64 (p0.gFreeze), .one (.bool (p0.gRevoked)), .ints .u8 64 (p0.gRevoke)]].toArray W (ret1 W (agg [.one (.int .i64 (r.gSerial)), .one (.int .i64 (r.gIndex)), .one (.bool (r.gFrozen)), .one (.bool (r.gRevoked))])) := by
 unfold gossip_summary at h
 refine calls_val mo ok18 rfl ?_
 refine wc_seq <| wc_ops <| wj_e (ef_bx (s := [.one (.int .i64 (p0.gCert.gSerial)), .one (.int .i64 (p0.gCert.gRides)), .one (.int .i64 (p0.gCert.gPrice)), .ints .u8 32 (p0.gCert.gAnchor), .ints .u8 64 (p0.gCert.gSig), .one (.int .i64 (p0.gIndex)), .ints .u8 32 (p0.gValue), .one (.bool (p0.gFrozen)), .ints .u8 64 (p0.gFreeze), .one (.bool (p0.gRevoked)), .ints .u8 64 (p0.gRevoke)]) rfl fun b2 hb2 => wj_e (ef_al fun b3 hb3 => wj_nil <| wc_seq <| wc_ops <| wj_q _ (q_fa rfl) <| wj_q _ (q_fa rfl) <| wj_q _ (q_ld1 rfl (.there .here) rfl) <| wj_q _ (q_fa rfl) <| wj_q _ (q_ld1 rfl (.there .here) rfl) <| wj_q _ (q_fa rfl) <| wj_q _ (q_ld1 rfl (.there .here) rfl) <| wj_q _ (q_fa rfl) <| wj_q _ (q_ld1 rfl (.there .here) rfl) <| wj_q _ (q_bd (q := [.one (.int .i64 (p0.gCert.gSerial)), .one (.int .i64 (p0.gIndex)), .one (.bool (p0.gFrozen)), .one (.bool (p0.gRevoked))]) (.one rfl rfl rfl (.one rfl rfl rfl (.one rfl rfl rfl (.one rfl rfl rfl BdR.nil))))) <| wj_e (ef_st (q := [.one (.int .i64 (p0.gCert.gSerial)), .one (.int .i64 (p0.gIndex)), .one (.bool (p0.gFrozen)), .one (.bool (p0.gRevoked))]) rfl rfl rfl rfl rfl .here <| wj_nil <| wc_ret ?_)))
 revert h; refine ret_i fun h => ?_
 subst h
 exact ⟨_, (.cons (.agg rfl .here rfl) .nil), rfl⟩
/- farebox/gossip.Digest -/
def gossip_Digest_b1 (p0 : api_GateState) (k74 : (List (api_Summary)) → Option ((List (api_Summary)))) (k120 : (List (api_Summary)) → (Int) → Option ((List (api_Summary)))) (l117 : List (api_Summary)) (i119 : Int) : Option ((List (api_Summary))) :=
 br ((decide (i119 < (p0.gRows.length : Int)))) (
 chk (inB i119 p0.gRows.length) <|
 bnd (p0.gRows.getD (i119).toNat api_Entry_z) fun x126 =>
 opt (gossip_summary x126) fun y129 =>
 chk (decide ((l117.length + ([y129] : List (api_Summary)).length) * 24 ≤ 140737488355328)) <|
 bnd (l117 ++ ([y129] : List (api_Summary))) fun l134 =>
 bnd (IntKind.wrap .i64 (i119 + 1)) fun z139 =>
 k120 l134 z139
 ) (
 k74 l117
 )
def gossip_Digest_l1 (p0 : api_GateState) (k74 : (List (api_Summary)) → Option ((List (api_Summary)))) : Nat → (List (api_Summary)) → (Int) → Option ((List (api_Summary)))
  | 0, _, _ => none
  | n + 1, l117, i119 => gossip_Digest_b1 p0 k74 (gossip_Digest_l1 p0 k74 n) l117 i119
def gossip_Digest (p0 : api_GateState) : Option ((List (api_Summary))) :=
 jn (fun (l72 : List (api_Summary)) => some l72) fun k74 => gossip_Digest_l1 p0 k74 big [] 0
theorem gossip_Digest_spec {W : World} {r : (List (api_Summary))} {p0 : api_GateState} {v0_0 : Value} (h : gossip_Digest p0 = some r) (A0_0 : RdSl E_api_Entry W v0_0 p0.gRows) :
    Calls Try.prog 6 [agg [.one (.int .i64 (p0.gFloor.gFloor)), .ints .u8 64 (p0.gFloor.gSig), .one (.int .i64 (p0.gAccepted)), .one (v0_0)]].toArray W (retS W [] (fun v Ms => ∃ (u0 : Value) (M0 : List Chunk), v = u0 ∧ Ms = [.all M0] ∧ OwnSl E_api_Summary u0 M0 r)) := by
 unfold gossip_Digest at h
 refine calls_memT mo ok6 rfl (sat0 _) ?_
 refine wc_seq <| wc_ops <| wj_e (ef_bx (s := [.one (.int .i64 (p0.gFloor.gFloor)), .ints .u8 64 (p0.gFloor.gSig), .one (.int .i64 (p0.gAccepted)), .one (v0_0)]) rfl fun b2 hb2 => wj_q _ (q_mv rfl) <| wj_nil <| wc_seq <| wc_ops <| wj_q _ (q_mv rfl) <| wj_nil <| wc_seq <| wc_seq <| wc_ops <| wj_q _ (q_fa rfl) <| wj_q _ (q_ld1 rfl .here rfl) <| wj_q _ (q_lenP rfl (Shp.rd A0_0)) <| wj_q _ (q_mv rfl) <| wj_nil <| jH h fun k74 qk74 h => wc_mono2 (G := fun t m => ∃ (l72 : List (api_Summary)) (v70 : Value) (ms71 : List Chunk), k74 l72 = some r ∧ OwnSl E_api_Summary v70 ms71 l72 ∧ Fit [(3, v70)] (ck b2 30 [.one (.int .i64 (p0.gFloor.gFloor)), .ints .u8 64 (p0.gFloor.gSig), .one (.int .i64 (p0.gAccepted)), .one (v0_0)] :: (ms71 ++ [])) t m) ?_ ?_)
 ·refine wc_block <| wc_loopJ (fun n121 t m => ∃ (l117 : List (api_Summary)) (i119 : Int) (v115 : Value) (ms116 : List Chunk), gossip_Digest_l1 p0 k74 n121 l117 i119 = some r ∧ OwnSl E_api_Summary v115 ms116 l117 ∧ Fit [(3, v115), (7, v0_0), (8, .int .i64 ((p0.gRows.length : Int))), (9, .int .i64 (i119))] (ck b2 30 [.one (.int .i64 (p0.gFloor.gFloor)), .ints .u8 64 (p0.gFloor.gSig), .one (.int .i64 (p0.gAccepted)), .one (v0_0)] :: (ms116 ++ [])) t m) big ?_ ?_
  ·exact ⟨[], 0, (.slice none 0 0), [], h, own_nil, ⟨⟨rfl, rfl, rfl, rfl, trivial⟩, (.one .here (.no .nil))⟩⟩
  ·rintro n121 t m ⟨l117, i119, v115, ms116, h, O118, hF⟩
   refine wc_fit hF ?_
   clear hF
   rcases n121 with _ | n121
   · exact none_i h
   have h : gossip_Digest_b1 p0 k74 (gossip_Digest_l1 p0 k74 n121) l117 i119 = some r := h
   unfold gossip_Digest_b1 at h
   obtain ⟨k120, qk120⟩ : ∃ k, k = gossip_Digest_l1 p0 k74 n121 := ⟨_, rfl⟩
   try rw [← qk120] at h
   refine wc_seq <| wc_ops <| wj_q _ (q_bin rfl rfl rfl) <| wj_nil <| wc_seq <| wc_br h rfl (fun h => ?_) (fun h => ?_)
   ·refine wc_skip <| wc_seq <| wc_block <| wc_seq <| cH h fun c125 h => bH h fun x126 ex126 h => wc_ops <| wj_q _ (q_iasP rfl rfl (Shp.rd A0_0) c125) <| wj_q _ (az (fun (x126 : api_Entry) => agg [.one (.int .i64 (x126.gCert.gSerial)), .one (.int .i64 (x126.gCert.gRides)), .one (.int .i64 (x126.gCert.gPrice)), .ints .u8 32 (x126.gCert.gAnchor), .ints .u8 64 (x126.gCert.gSig), .one (.int .i64 (x126.gIndex)), .ints .u8 32 (x126.gValue), .one (.bool (x126.gFrozen)), .ints .u8 64 (x126.gFreeze), .one (.bool (x126.gRevoked)), .ints .u8 64 (x126.gRevoke)]) ex126 (q_ldM0 (E := E_api_Entry) (s := [.one (.int .i64 ((((p0.gRows.getD (i119).toNat api_Entry_z)).gCert).gSerial)), .one (.int .i64 ((((p0.gRows.getD (i119).toNat api_Entry_z)).gCert).gRides)), .one (.int .i64 ((((p0.gRows.getD (i119).toNat api_Entry_z)).gCert).gPrice)), .ints .u8 32 ((((p0.gRows.getD (i119).toNat api_Entry_z)).gCert).gAnchor), .ints .u8 64 ((((p0.gRows.getD (i119).toNat api_Entry_z)).gCert).gSig), .one (.int .i64 (((p0.gRows.getD (i119).toNat api_Entry_z)).gIndex)), .ints .u8 32 (((p0.gRows.getD (i119).toNat api_Entry_z)).gValue), .one (.bool (((p0.gRows.getD (i119).toNat api_Entry_z)).gFrozen)), .ints .u8 64 (((p0.gRows.getD (i119).toNat api_Entry_z)).gFreeze), .one (.bool (((p0.gRows.getD (i119).toNat api_Entry_z)).gRevoked)), .ints .u8 64 (((p0.gRows.getD (i119).toNat api_Entry_z)).gRevoke)]) rfl (rd_arg A0_0 apart0) (inB_n c125) rfl rfl)) <| wj_e (ef_al fun b127 hb127 => wj_e (ef_st (p := [.one (.int .i64 (x126.gCert.gSerial)), .one (.int .i64 (x126.gCert.gRides)), .one (.int .i64 (x126.gCert.gPrice)), .ints .u8 32 (x126.gCert.gAnchor), .ints .u8 64 (x126.gCert.gSig), .one (.int .i64 (x126.gIndex)), .ints .u8 32 (x126.gValue), .one (.bool (x126.gFrozen)), .ints .u8 64 (x126.gFreeze), .one (.bool (x126.gRevoked)), .ints .u8 64 (x126.gRevoke)]) (q := [.one (.int .i64 (x126.gCert.gSerial)), .one (.int .i64 (x126.gCert.gRides)), .one (.int .i64 (x126.gCert.gPrice)), .ints .u8 32 (x126.gCert.gAnchor), .ints .u8 64 (x126.gCert.gSig), .one (.int .i64 (x126.gIndex)), .ints .u8 32 (x126.gValue), .one (.bool (x126.gFrozen)), .ints .u8 64 (x126.gFreeze), .one (.bool (x126.gRevoked)), .ints .u8 64 (x126.gRevoke)]) rfl rfl (by kernel_rfl) (by kernel_rfl) (by kernel_rfl) .here <| wj_nil <| oH h fun y129 ey129 h => cH h fun c133 h => bH h fun l134 el134 h => wc_ops <| wj_q _ (q_mv rfl) <| wj_q _ (q_ld (p := [.one (.int .i64 (x126.gCert.gSerial)), .one (.int .i64 (x126.gCert.gRides)), .one (.int .i64 (x126.gCert.gPrice)), .ints .u8 32 (x126.gCert.gAnchor), .ints .u8 64 (x126.gCert.gSig), .one (.int .i64 (x126.gIndex)), .ints .u8 32 (x126.gValue), .one (.bool (x126.gFrozen)), .ints .u8 64 (x126.gFreeze), .one (.bool (x126.gRevoked)), .ints .u8 64 (x126.gRevoke)]) rfl .here (by kernel_rfl)) <| wj_q _ (q_call rfl (fun _ _ => gossip_summary_spec ey129)) <| wj_e (ef_bsO (E := E_api_Summary) (xs := [y129]) (.agg rfl rfl rfl BdR.nil) (.cons (p := [.one (.int .i64 (y129.gSerial)), .one (.int .i64 (y129.gIndex)), .one (.bool (y129.gFrozen)), .one (.bool (y129.gRevoked))]) rfl .nil) rfl fun v130 ms131 O132 => wj_e (ef_appO (E := E_api_Summary) el134 rfl O118 (.app (.there (.there .here))) rfl (rd_own O132 .here) c133 fun v135 ms136 O137 => wj_q _ (q_mv rfl) <| wj_nil <| bH h fun z139 ez139 h => wc_ops <| wj_q _ (iz ez139 (q_bin rfl rfl rfl)) <| wj_q _ (q_mv rfl) <| wj_nil ?_))))
    rw [qk120] at h
    exact ⟨n121, Nat.lt_succ_self _, l134, z139, v135, ms136, h, O137, ⟨⟨rfl, rfl, rfl, rfl, trivial⟩, (.one (.app (.app (.there .here))) (.all .here .nil))⟩⟩
   ·exact wc_exit _ rfl <| ⟨l117, v115, ms116, h, O118, ⟨⟨rfl, trivial⟩, (.one .here (.all .here .nil))⟩⟩
 ·rintro t m ⟨l72, v70, ms71, h, O73, hF⟩
  refine wc_fit hF ?_
  clear hF
  subst qk74
  refine wc_seq <| wc_ops <| wj_q _ (q_mv rfl) <| wj_q _ (q_mv rfl) <| wj_nil <| wc_ret ?_
  revert h; refine ret_i fun h => ?_
  subst h
  exact ⟨_, _, (.cons (.tmp rfl) .nil), (.all (.there .here) .nil), ⟨_, rfl, ⟨v70, ms71, rfl, rfl, O73⟩⟩⟩
/- farebox/gossip.together -/
def gossip_together (p0 : api_Summary) (p1 : api_Summary) : Option (api_Summary) :=
 some (⟨p0.gSerial, (max p0.gIndex p1.gIndex), (p0.gFrozen || p1.gFrozen), (p0.gRevoked || p1.gRevoked)⟩ : api_Summary)
theorem gossip_together_spec {W : World} {r : api_Summary} {p0 : api_Summary} {p1 : api_Summary} (h : gossip_together p0 p1 = some r)  :
    Calls Try.prog 19 [agg [.one (.int .i64 (p0.gSerial)), .one (.int .i64 (p0.gIndex)), .one (.bool (p0.gFrozen)), .one (.bool (p0.gRevoked))], agg [.one (.int .i64 (p1.gSerial)), .one (.int .i64 (p1.gIndex)), .one (.bool (p1.gFrozen)), .one (.bool (p1.gRevoked))]].toArray W (ret1 W (agg [.one (.int .i64 (r.gSerial)), .one (.int .i64 (r.gIndex)), .one (.bool (r.gFrozen)), .one (.bool (r.gRevoked))])) := by
 unfold gossip_together at h
 refine calls_val mo ok19 rfl ?_
 refine wc_seq <| wc_ops <| wj_e (ef_bx (s := [.one (.int .i64 (p0.gSerial)), .one (.int .i64 (p0.gIndex)), .one (.bool (p0.gFrozen)), .one (.bool (p0.gRevoked))]) rfl fun b2 hb2 => wj_e (ef_bx (s := [.one (.int .i64 (p1.gSerial)), .one (.int .i64 (p1.gIndex)), .one (.bool (p1.gFrozen)), .one (.bool (p1.gRevoked))]) rfl fun b3 hb3 => wj_e (ef_al fun b4 hb4 => wj_nil <| wc_seq <| wc_ops <| wj_q _ (q_fa rfl) <| wj_q _ (q_ld1 rfl (.there (.there .here)) rfl) <| wj_q _ (q_fa rfl) <| wj_q _ (q_ld1 rfl (.there (.there .here)) rfl) <| wj_q _ (q_fa rfl) <| wj_q _ (q_ld1 rfl (.there .here) rfl) <| wj_q _ (q_mm rfl rfl) <| wj_q _ (q_fa rfl) <| wj_q _ (q_ld1 rfl (.there (.there .here)) rfl) <| wj_q _ (q_mv rfl) <| wj_or rfl rfl rfl (fun hg1 => qj_g rfl _ (q_fa rfl) (qj_g rfl _ (q_ld1 rfl (.there .here) rfl) (qj_nil))) (fun hg1 => rfl) rfl <| wj_q _ (q_fa rfl) <| wj_q _ (q_ld1 rfl (.there (.there .here)) rfl) <| wj_q _ (q_mv rfl) <| wj_or rfl rfl rfl (fun hg1 => qj_g rfl _ (q_fa rfl) (qj_g rfl _ (q_ld1 rfl (.there .here) rfl) (qj_nil))) (fun hg1 => rfl) rfl <| wj_q _ (q_bd (q := [.one (.int .i64 (p0.gSerial)), .one (.int .i64 ((max p0.gIndex p1.gIndex))), .one (.bool ((p0.gFrozen || p1.gFrozen))), .one (.bool ((p0.gRevoked || p1.gRevoked)))]) (.one rfl rfl rfl (.one rfl rfl rfl (.one rfl rfl rfl (.one rfl rfl rfl BdR.nil))))) <| wj_e (ef_st (q := [.one (.int .i64 (p0.gSerial)), .one (.int .i64 ((max p0.gIndex p1.gIndex))), .one (.bool ((p0.gFrozen || p1.gFrozen))), .one (.bool ((p0.gRevoked || p1.gRevoked)))]) rfl rfl rfl rfl rfl .here <| wj_nil <| wc_ret ?_))))
 revert h; refine ret_i fun h => ?_
 subst h
 exact ⟨_, (.cons (.agg rfl .here rfl) .nil), rfl⟩
/- farebox/gossip.enough -/
def gossip_enough (p0 : api_Summary) (p1 : api_Summary) : Option (Bool) :=
 opt (gossip_together p0 p1) fun y5 =>
 some ((y5.gSerial == p0.gSerial) && ((y5.gIndex == p0.gIndex) && ((y5.gFrozen == p0.gFrozen) && (y5.gRevoked == p0.gRevoked))))
theorem gossip_enough_spec {W : World} {r : Bool} {p0 : api_Summary} {p1 : api_Summary} (h : gossip_enough p0 p1 = some r)  :
    Calls Try.prog 20 [agg [.one (.int .i64 (p0.gSerial)), .one (.int .i64 (p0.gIndex)), .one (.bool (p0.gFrozen)), .one (.bool (p0.gRevoked))], agg [.one (.int .i64 (p1.gSerial)), .one (.int .i64 (p1.gIndex)), .one (.bool (p1.gFrozen)), .one (.bool (p1.gRevoked))]].toArray W (ret1 W (.bool (r))) := by
 unfold gossip_enough at h
 refine calls_val mo ok20 rfl ?_
 refine wc_seq <| wc_ops <| wj_e (ef_bx (s := [.one (.int .i64 (p0.gSerial)), .one (.int .i64 (p0.gIndex)), .one (.bool (p0.gFrozen)), .one (.bool (p0.gRevoked))]) rfl fun b2 hb2 => wj_e (ef_bx (s := [.one (.int .i64 (p1.gSerial)), .one (.int .i64 (p1.gIndex)), .one (.bool (p1.gFrozen)), .one (.bool (p1.gRevoked))]) rfl fun b3 hb3 => wj_q _ (q_mv rfl) <| wj_nil <| wc_seq <| oH h fun y5 ey5 h => wc_draw <| ws_q1 _ (q_ld (p := [.one (.int .i64 (p0.gSerial)), .one (.int .i64 (p0.gIndex)), .one (.bool (p0.gFrozen)), .one (.bool (p0.gRevoked))]) rfl (.there .here) rfl) <| ws_q1 _ (q_ld (p := [.one (.int .i64 (p1.gSerial)), .one (.int .i64 (p1.gIndex)), .one (.bool (p1.gFrozen)), .one (.bool (p1.gRevoked))]) rfl .here rfl) <| ws_p1 _ (q_call rfl (fun _ _ => gossip_together_spec ey5)) <| ws_q1 _ (q_ld (p := [.one (.int .i64 (p0.gSerial)), .one (.int .i64 (p0.gIndex)), .one (.bool (p0.gFrozen)), .one (.bool (p0.gRevoked))]) rfl (.there .here) rfl) <| ws_p1 _ (q_eqa (s := [.one (.int .i64 (y5.gSerial)), .one (.int .i64 (y5.gIndex)), .one (.bool (y5.gFrozen)), .one (.bool (y5.gRevoked))]) (s' := [.one (.int .i64 (p0.gSerial)), .one (.int .i64 (p0.gIndex)), .one (.bool (p0.gFrozen)), .one (.bool (p0.gRevoked))]) rfl rfl rfl rfl _ (eqc_cons rfl eqc_int (eqc_cons rfl eqc_int (eqc_cons rfl eqc_bool (eqc_last eqc_bool))))) <| ws_p1 _ (q_mv rfl) <| ws_nil <| wc_ret ?_))
 revert h; refine ret_i fun h => ?_
 subst h
 exact ⟨_, (.cons (.tmp rfl) .nil), rfl⟩
/- farebox/gossip.Lacks -/
noncomputable def gossip_Lacks_b1 (p1 : List (api_Summary)) (k81 : (Mp (api_Summary)) → Option ((List (api_Entry)))) (k131 : (Int) → (Mp (api_Summary)) → Option ((List (api_Entry)))) (i129 : Int) (w130 : Mp (api_Summary)) : Option ((List (api_Entry))) :=
 br ((decide (i129 < (p1.length : Int)))) (
 chk (inB i129 p1.length) <|
 bnd (p1.getD (i129).toNat api_Summary_z) fun x137 =>
 jn (fun (i145 : Int) (i146 : Int) (i147 : Bool) (i148 : Bool) => bnd (IntKind.wrap .i64 (i129 + 1)) fun z155 =>
 k131 z155 (w130.put i145 (⟨i145, i146, i147, i148⟩ : api_Summary))) fun k149 => br ((w130.get x137.gSerial).isSome) (
 opt (gossip_together (((w130.get x137.gSerial).getD api_Summary_z)) x137) fun y152 =>
 k149 y152.gSerial y152.gIndex y152.gFrozen y152.gRevoked
 ) (
 k149 x137.gSerial x137.gIndex x137.gFrozen x137.gRevoked
 )
 ) (
 k81 w130
 )
noncomputable def gossip_Lacks_l1 (p1 : List (api_Summary)) (k81 : (Mp (api_Summary)) → Option ((List (api_Entry)))) : Nat → (Int) → (Mp (api_Summary)) → Option ((List (api_Entry)))
  | 0, _, _ => none
  | n + 1, i129, w130 => gossip_Lacks_b1 p1 k81 (gossip_Lacks_l1 p1 k81 n) i129 w130
noncomputable def gossip_Lacks_b2 (y159 : (List (api_Summary))) (k198 : (Mp (api_Summary)) → Option ((List (api_Entry)))) (k220 : (Int) → (Mp (api_Summary)) → Option ((List (api_Entry)))) (i218 : Int) (w219 : Mp (api_Summary)) : Option ((List (api_Entry))) :=
 br ((decide (i218 < (y159.length : Int)))) (
 chk (inB i218 y159.length) <|
 bnd (y159.getD (i218).toNat api_Summary_z) fun x226 =>
 bnd (IntKind.wrap .i64 (i218 + 1)) fun z230 =>
 k220 z230 (w219.put x226.gSerial x226)
 ) (
 k198 w219
 )
noncomputable def gossip_Lacks_l2 (y159 : (List (api_Summary))) (k198 : (Mp (api_Summary)) → Option ((List (api_Entry)))) : Nat → (Int) → (Mp (api_Summary)) → Option ((List (api_Entry)))
  | 0, _, _ => none
  | n + 1, i218, w219 => gossip_Lacks_b2 y159 k198 (gossip_Lacks_l2 y159 k198 n) i218 w219
noncomputable def gossip_Lacks_g3  (w283 : Mp (api_Summary)) (en271 : Int × api_Summary × Nat) : Option (Mp (api_Summary)) :=
 chk (imp (w283.get en271.1).isSome ((gossip_enough en271.2.1 (((w283.get en271.1).getD api_Summary_z))).isSome)) <|
 br (((w283.get en271.1).isSome && ((gossip_enough en271.2.1 (((w283.get en271.1).getD api_Summary_z))).getD false))) (
 some (w283.del en271.1)
 ) (
 some w283
 )
noncomputable def gossip_Lacks_b4 (p0 : api_GateState) (w269 : Mp (api_Summary)) (k453 : (List (api_Entry)) → Option ((List (api_Entry)))) (k549 : (List (api_Entry)) → (Int) → Option ((List (api_Entry)))) (l546 : List (api_Entry)) (i548 : Int) : Option ((List (api_Entry))) :=
 br ((decide (i548 < (p0.gRows.length : Int)))) (
 jn (fun (l572 : List (api_Entry)) => bnd (IntKind.wrap .i64 (i548 + 1)) fun z593 =>
 k549 l572 z593) fun k574 => chk (inB i548 p0.gRows.length) <|
 bnd (p0.gRows.getD (i548).toNat api_Entry_z) fun x577 =>
 br ((w269.get x577.gCert.gSerial).isSome) (
 chk (decide ((l546.length + ([x577] : List (api_Entry)).length) * 296 ≤ 140737488355328)) <|
 bnd (l546 ++ ([x577] : List (api_Entry))) fun l588 =>
 k574 l588
 ) (
 k574 l546
 )
 ) (
 k453 l546
 )
noncomputable def gossip_Lacks_l4 (p0 : api_GateState) (w269 : Mp (api_Summary)) (k453 : (List (api_Entry)) → Option ((List (api_Entry)))) : Nat → (List (api_Entry)) → (Int) → Option ((List (api_Entry)))
  | 0, _, _ => none
  | n + 1, l546, i548 => gossip_Lacks_b4 p0 w269 k453 (gossip_Lacks_l4 p0 w269 k453 n) l546 i548
noncomputable def gossip_Lacks (p0 : api_GateState) (p1 : List (api_Summary)) : Option ((List (api_Entry))) :=
 jn (fun (w80 : Mp (api_Summary)) => opt (gossip_Digest p0) fun y159 =>
 jn (fun (w197 : Mp (api_Summary)) => jn (fun (w269 : Mp (api_Summary)) => jn (fun (l451 : List (api_Entry)) => some l451) fun k453 => gossip_Lacks_l4 p0 w269 k453 big [] 0) fun k270 => opt (rngM w80 (fun w e => gossip_Lacks_g3  w e) w197) fun y298 =>
 k270 y298) fun k198 => gossip_Lacks_l2 y159 k198 big 0 (Mp.z : Mp (api_Summary))) fun k81 => gossip_Lacks_l1 p1 k81 big 0 (Mp.z : Mp (api_Summary))
theorem gossip_Lacks_spec {W : World} {r : (List (api_Entry))} {p0 : api_GateState} {p1 : List (api_Summary)} {v0_0 : Value} {v1 : Value} (h : gossip_Lacks p0 p1 = some r) (A0_0 : RdSl E_api_Entry W v0_0 p0.gRows) (A1 : RdSl E_api_Summary W v1 p1) :
    Calls Try.prog 7 [agg [.one (.int .i64 (p0.gFloor.gFloor)), .ints .u8 64 (p0.gFloor.gSig), .one (.int .i64 (p0.gAccepted)), .one (v0_0)], v1].toArray W (retS W [] (fun v Ms => ∃ (u0 : Value) (M0 : List Chunk), v = u0 ∧ Ms = [.all M0] ∧ OwnSl E_api_Entry u0 M0 r)) := by
 unfold gossip_Lacks at h
 refine calls_memT mo ok7 rfl (sat0 _) ?_
 refine wc_seq <| wc_ops <| wj_e (ef_bx (s := [.one (.int .i64 (p0.gFloor.gFloor)), .ints .u8 64 (p0.gFloor.gSig), .one (.int .i64 (p0.gAccepted)), .one (v0_0)]) rfl fun b2 hb2 => wj_q _ (q_mv rfl) <| wj_nil <| wc_seq <| wc_ops <| wj_e (ef_mkm (α := api_Summary) (E := E_api_Summary) (q := .i64) fun b4 hb4 => wj_q _ (q_mv rfl) <| wj_nil <| wc_seq <| wc_seq <| wc_ops <| wj_q _ (q_mv rfl) <| wj_q _ (q_lenP rfl (Shp.rd A1)) <| wj_q _ (q_mv rfl) <| wj_nil <| jH h fun k81 qk81 h => wc_mono2 (G := fun t m => ∃ (w80 : Mp (api_Summary)), k81 w80 = some r ∧ Fit [(2, .pointer (some ⟨b2, 0, none⟩)), (5, .map (some b4))] ((⟨b4, Mp.obj .i64 E_api_Summary w80⟩ : Chunk) :: (ck b2 30 [.one (.int .i64 (p0.gFloor.gFloor)), .ints .u8 64 (p0.gFloor.gSig), .one (.int .i64 (p0.gAccepted)), .one (v0_0)] :: [])) t m) ?_ ?_))
 ·refine wc_block <| wc_loopJ (fun n132 t m => ∃ (i129 : Int) (w130 : Mp (api_Summary)), gossip_Lacks_l1 p1 k81 n132 i129 w130 = some r ∧ Fit [(2, .pointer (some ⟨b2, 0, none⟩)), (5, .map (some b4)), (23, v1), (24, .int .i64 ((p1.length : Int))), (25, .int .i64 (i129))] ((⟨b4, Mp.obj .i64 E_api_Summary w130⟩ : Chunk) :: (ck b2 30 [.one (.int .i64 (p0.gFloor.gFloor)), .ints .u8 64 (p0.gFloor.gSig), .one (.int .i64 (p0.gAccepted)), .one (v0_0)] :: [])) t m) big ?_ ?_
  ·exact ⟨0, (Mp.z : Mp (api_Summary)), h, ⟨⟨rfl, rfl, rfl, rfl, rfl, trivial⟩, (.one .here (.one .here .nil))⟩⟩
  ·rintro n132 t m ⟨i129, w130, h, hF⟩
   refine wc_fit hF ?_
   clear hF
   rcases n132 with _ | n132
   · exact none_i h
   have h : gossip_Lacks_b1 p1 k81 (gossip_Lacks_l1 p1 k81 n132) i129 w130 = some r := h
   unfold gossip_Lacks_b1 at h
   obtain ⟨k131, qk131⟩ : ∃ k, k = gossip_Lacks_l1 p1 k81 n132 := ⟨_, rfl⟩
   try rw [← qk131] at h
   refine wc_seq <| wc_ops <| wj_q _ (q_bin rfl rfl rfl) <| wj_nil <| wc_seq <| wc_br h rfl (fun h => ?_) (fun h => ?_)
   ·refine wc_skip <| wc_seq <| wc_block <| wc_seq <| cH h fun c136 h => bH h fun x137 ex137 h => wc_ops <| wj_q _ (q_iasP rfl rfl (Shp.rd A1) c136) <| wj_q _ (az (fun (x137 : api_Summary) => agg [.one (.int .i64 (x137.gSerial)), .one (.int .i64 (x137.gIndex)), .one (.bool (x137.gFrozen)), .one (.bool (x137.gRevoked))]) ex137 (q_ldM0 (E := E_api_Summary) (s := [.one (.int .i64 (((p1.getD (i129).toNat api_Summary_z)).gSerial)), .one (.int .i64 (((p1.getD (i129).toNat api_Summary_z)).gIndex)), .one (.bool (((p1.getD (i129).toNat api_Summary_z)).gFrozen)), .one (.bool (((p1.getD (i129).toNat api_Summary_z)).gRevoked))]) rfl (rd_arg A1 apart0) (inB_n c136) rfl rfl)) <| wj_e (ef_al fun b138 hb138 => wj_e (ef_st (q := [.one (.int .i64 (x137.gSerial)), .one (.int .i64 (x137.gIndex)), .one (.bool (x137.gFrozen)), .one (.bool (x137.gRevoked))]) rfl rfl rfl rfl rfl .here <| wj_nil <| wc_seq <| wc_seq <| wc_ops <| wj_q _ (q_mv rfl) <| wj_q _ (q_fa rfl) <| wj_q _ (q_ld1 rfl .here rfl) <| wj_q _ (q_mlk (E := E_api_Summary) (mp := w130) (s := [.one (.int .i64 ((((w130.get x137.gSerial).getD api_Summary_z)).gSerial)), .one (.int .i64 ((((w130.get x137.gSerial).getD api_Summary_z)).gIndex)), .one (.bool ((((w130.get x137.gSerial).getD api_Summary_z)).gFrozen)), .one (.bool ((((w130.get x137.gSerial).getD api_Summary_z)).gRevoked))]) rfl rfl (.there .here) rfl rfl) <| wj_q _ (q_mv rfl) <| wj_q _ (q_ext rfl rfl) <| wj_q _ (q_ext rfl rfl) <| wj_e (ef_al fun b140 hb140 => wj_e (ef_st (q := [.one (.int .i64 ((((w130.get x137.gSerial).getD api_Summary_z)).gSerial)), .one (.int .i64 ((((w130.get x137.gSerial).getD api_Summary_z)).gIndex)), .one (.bool ((((w130.get x137.gSerial).getD api_Summary_z)).gFrozen)), .one (.bool ((((w130.get x137.gSerial).getD api_Summary_z)).gRevoked))]) rfl rfl rfl rfl rfl .here <| wj_q _ (q_mv rfl) <| wj_nil <| wc_seq <| wc_ops <| wj_q _ (q_mv rfl) <| wj_nil <| jH h fun k149 qk149 h => wc_mono2 (G := fun t m => ∃ (i145 : Int) (i146 : Int) (i147 : Bool) (i148 : Bool), k149 i145 i146 i147 i148 = some r ∧ Fit [(2, .pointer (some ⟨b2, 0, none⟩)), (5, .map (some b4)), (7, .pointer (some ⟨b138, 0, none⟩)), (23, v1), (24, .int .i64 ((p1.length : Int))), (25, .int .i64 (i129))] (ck b140 34 [.one (.int .i64 ((((w130.get x137.gSerial).getD api_Summary_z)).gSerial)), .one (.int .i64 ((((w130.get x137.gSerial).getD api_Summary_z)).gIndex)), .one (.bool ((((w130.get x137.gSerial).getD api_Summary_z)).gFrozen)), .one (.bool ((((w130.get x137.gSerial).getD api_Summary_z)).gRevoked))] :: (ck b138 34 [.one (.int .i64 (i145)), .one (.int .i64 (i146)), .one (.bool (i147)), .one (.bool (i148))] :: ((⟨b4, Mp.obj .i64 E_api_Summary w130⟩ : Chunk) :: (ck b2 30 [.one (.int .i64 (p0.gFloor.gFloor)), .ints .u8 64 (p0.gFloor.gSig), .one (.int .i64 (p0.gAccepted)), .one (v0_0)] :: [])))) t m) ?_ ?_))))
    ·refine wc_br h rfl (fun h => ?_) (fun h => ?_)
     ·exact oH h fun y152 ey152 h => wc_ops <| wj_q _ (q_ld (p := [.one (.int .i64 ((((w130.get x137.gSerial).getD api_Summary_z)).gSerial)), .one (.int .i64 ((((w130.get x137.gSerial).getD api_Summary_z)).gIndex)), .one (.bool ((((w130.get x137.gSerial).getD api_Summary_z)).gFrozen)), .one (.bool ((((w130.get x137.gSerial).getD api_Summary_z)).gRevoked))]) rfl .here rfl) <| wj_q _ (q_ld (p := [.one (.int .i64 (x137.gSerial)), .one (.int .i64 (x137.gIndex)), .one (.bool (x137.gFrozen)), .one (.bool (x137.gRevoked))]) rfl (.there .here) rfl) <| wj_q _ (q_call rfl (fun _ _ => gossip_together_spec ey152)) <| wj_e (ef_st (q := [.one (.int .i64 (y152.gSerial)), .one (.int .i64 (y152.gIndex)), .one (.bool (y152.gFrozen)), .one (.bool (y152.gRevoked))]) rfl rfl rfl rfl rfl (.there .here) <| wj_nil <| ⟨y152.gSerial, y152.gIndex, y152.gFrozen, y152.gRevoked, h, ⟨⟨rfl, rfl, rfl, rfl, rfl, rfl, trivial⟩, (.one .here (.one .here (.one .here (.one .here .nil))))⟩⟩)
     ·exact wc_skip <| ⟨x137.gSerial, x137.gIndex, x137.gFrozen, x137.gRevoked, h, ⟨⟨rfl, rfl, rfl, rfl, rfl, rfl, trivial⟩, (.one .here (.one .here (.one .here (.one .here .nil))))⟩⟩
    ·rintro t m ⟨i145, i146, i147, i148, h, hF⟩
     refine wc_fit hF ?_
     clear hF
     subst qk149
     refine wc_ops <| wj_q _ (q_mv rfl) <| wj_q _ (q_fa rfl) <| wj_q _ (q_ld1 rfl (.there .here) rfl) <| wj_q _ (q_ld (p := [.one (.int .i64 (i145)), .one (.int .i64 (i146)), .one (.bool (i147)), .one (.bool (i148))]) rfl (.there .here) rfl) <| wj_e (ef_mup (E := E_api_Summary) (mp := w130) (a0 := (⟨i145, i146, i147, i148⟩ : api_Summary)) rfl rfl rfl rfl (.there (.there .here)) <| wj_nil <| bH h fun z155 ez155 h => wc_ops <| wj_q _ (iz ez155 (q_bin rfl rfl rfl)) <| wj_q _ (q_mv rfl) <| wj_nil ?_)
     rw [qk131] at h
     exact ⟨n132, Nat.lt_succ_self _, z155, (w130.put i145 (⟨i145, i146, i147, i148⟩ : api_Summary)), h, ⟨⟨rfl, rfl, rfl, rfl, rfl, trivial⟩, (.one (.there (.there .here)) (.one (.there (.there .here)) .nil))⟩⟩
   ·exact wc_exit _ rfl <| ⟨w130, h, ⟨⟨rfl, rfl, trivial⟩, (.one .here (.one .here .nil))⟩⟩
 ·rintro t m ⟨w80, h, hF⟩
  refine wc_fit hF ?_
  clear hF
  subst qk81
  refine wc_seq <| wc_ops <| wj_e (ef_mkm (α := api_Summary) (E := E_api_Summary) (q := .i64) fun b157 hb157 => wj_q _ (q_mv rfl) <| wj_nil <| wc_seq <| wc_seq <| oH h fun y159 ey159 h => wc_ops <| wj_q _ (q_ld (p := [.one (.int .i64 (p0.gFloor.gFloor)), .ints .u8 64 (p0.gFloor.gSig), .one (.int .i64 (p0.gAccepted)), .one (v0_0)]) rfl (.there (.there .here)) rfl) <| wj_e (ef_callS0 rfl (fun w hw => gossip_Digest_spec  ey159 ((rd_arg A0_0 apart0) w hw)) fun v160 Msv160 R161 => ?_))
  obtain ⟨_, ms163, rfl, rfl, O164⟩ := R161
  refine wj_q _ (q_lenP rfl (Shp.own O164)) <| wj_q _ (q_mv rfl) <| wj_nil <| jH h fun k198 qk198 h => wc_mono2 (G := fun t m => ∃ (w197 : Mp (api_Summary)), k198 w197 = some r ∧ Fit [(2, .pointer (some ⟨b2, 0, none⟩)), (5, .map (some b4)), (10, .map (some b157))] ((⟨b157, Mp.obj .i64 E_api_Summary w197⟩ : Chunk) :: ((⟨b4, Mp.obj .i64 E_api_Summary w80⟩ : Chunk) :: (ck b2 30 [.one (.int .i64 (p0.gFloor.gFloor)), .ints .u8 64 (p0.gFloor.gSig), .one (.int .i64 (p0.gAccepted)), .one (v0_0)] :: []))) t m) ?_ ?_
  ·refine wc_block <| wc_loopJ (fun n221 t m => ∃ (i218 : Int) (w219 : Mp (api_Summary)), gossip_Lacks_l2 y159 k198 n221 i218 w219 = some r ∧ Fit [(2, .pointer (some ⟨b2, 0, none⟩)), (5, .map (some b4)), (10, .map (some b157)), (47, v160), (48, .int .i64 ((y159.length : Int))), (49, .int .i64 (i218))] (ms163 ++ ((⟨b157, Mp.obj .i64 E_api_Summary w219⟩ : Chunk) :: ((⟨b4, Mp.obj .i64 E_api_Summary w80⟩ : Chunk) :: (ck b2 30 [.one (.int .i64 (p0.gFloor.gFloor)), .ints .u8 64 (p0.gFloor.gSig), .one (.int .i64 (p0.gAccepted)), .one (v0_0)] :: [])))) t m) big ?_ ?_
   ·exact ⟨0, (Mp.z : Mp (api_Summary)), h, ⟨⟨rfl, rfl, rfl, rfl, rfl, rfl, trivial⟩, (.all .here (.one .here (.one .here (.one .here .nil))))⟩⟩
   ·rintro n221 t m ⟨i218, w219, h, hF⟩
    refine wc_fit hF ?_
    clear hF
    rcases n221 with _ | n221
    · exact none_i h
    have h : gossip_Lacks_b2 y159 k198 (gossip_Lacks_l2 y159 k198 n221) i218 w219 = some r := h
    unfold gossip_Lacks_b2 at h
    obtain ⟨k220, qk220⟩ : ∃ k, k = gossip_Lacks_l2 y159 k198 n221 := ⟨_, rfl⟩
    try rw [← qk220] at h
    refine wc_seq <| wc_ops <| wj_q _ (q_bin rfl rfl rfl) <| wj_nil <| wc_seq <| wc_br h rfl (fun h => ?_) (fun h => ?_)
    ·refine wc_skip <| wc_seq <| wc_block <| wc_seq <| cH h fun c225 h => bH h fun x226 ex226 h => wc_ops <| wj_q _ (q_iasP rfl rfl (Shp.own O164) c225) <| wj_q _ (az (fun (x226 : api_Summary) => agg [.one (.int .i64 (x226.gSerial)), .one (.int .i64 (x226.gIndex)), .one (.bool (x226.gFrozen)), .one (.bool (x226.gRevoked))]) ex226 (q_ldM0 (E := E_api_Summary) (s := [.one (.int .i64 (((y159.getD (i218).toNat api_Summary_z)).gSerial)), .one (.int .i64 (((y159.getD (i218).toNat api_Summary_z)).gIndex)), .one (.bool (((y159.getD (i218).toNat api_Summary_z)).gFrozen)), .one (.bool (((y159.getD (i218).toNat api_Summary_z)).gRevoked))]) rfl (rd_own O164 .here) (inB_n c225) rfl rfl)) <| wj_e (ef_al fun b227 hb227 => wj_e (ef_st (q := [.one (.int .i64 (x226.gSerial)), .one (.int .i64 (x226.gIndex)), .one (.bool (x226.gFrozen)), .one (.bool (x226.gRevoked))]) rfl rfl rfl rfl rfl .here <| wj_nil <| wc_ops <| wj_q _ (q_mv rfl) <| wj_q _ (q_fa rfl) <| wj_q _ (q_ld1 rfl .here rfl) <| wj_q _ (q_ld (p := [.one (.int .i64 (x226.gSerial)), .one (.int .i64 (x226.gIndex)), .one (.bool (x226.gFrozen)), .one (.bool (x226.gRevoked))]) rfl .here rfl) <| wj_e (ef_mup (E := E_api_Summary) (mp := w219) (a0 := x226) rfl rfl rfl rfl (.there (.app .here)) <| wj_nil <| bH h fun z230 ez230 h => wc_ops <| wj_q _ (iz ez230 (q_bin rfl rfl rfl)) <| wj_q _ (q_mv rfl) <| wj_nil ?_)))
     rw [qk220] at h
     exact ⟨n221, Nat.lt_succ_self _, z230, (w219.put x226.gSerial x226), h, ⟨⟨rfl, rfl, rfl, rfl, rfl, rfl, trivial⟩, (.all (.there .here) (.one (.there .here) (.one (.there .here) (.one (.there .here) .nil))))⟩⟩
    ·exact wc_exit _ rfl <| ⟨w219, h, ⟨⟨rfl, rfl, rfl, trivial⟩, (.one (.app .here) (.one (.app .here) (.one (.app .here) .nil)))⟩⟩
  ·rintro t m ⟨w197, h, hF⟩
   refine wc_fit hF ?_
   clear hF
   subst qk198
   refine wc_seq <| wc_seq <| wc_ops <| wj_q _ (q_mv rfl) <| wj_e (ef_mrg (E := E_api_Summary) (mp := w80) rfl (.there .here) fun b232 hb232 => wj_nil <| jH h fun k270 qk270 h => wc_mono2 (G := fun t m => ∃ (w269 : Mp (api_Summary)), k270 w269 = some r ∧ Fit [(2, .pointer (some ⟨b2, 0, none⟩)), (10, .map (some b157))] ((⟨b157, Mp.obj .i64 E_api_Summary w269⟩ : Chunk) :: ((⟨b4, Mp.obj .i64 E_api_Summary w80⟩ : Chunk) :: (ck b2 30 [.one (.int .i64 (p0.gFloor.gFloor)), .ints .u8 64 (p0.gFloor.gSig), .one (.int .i64 (p0.gAccepted)), .one (v0_0)] :: []))) t m) ?_ ?_)
   ·refine wc_block ?_
    revert h; refine opt_i fun y298 ey298 => ?_; intro h
    refine wc_rng ey298 (fun w292 sn272 t m => ∃ (w283 : Mp (api_Summary)), w283 = w292 ∧ Fit [(2, .pointer (some ⟨b2, 0, none⟩)), (10, .map (some b157)), (59, .pointer (some ⟨b232, 0, none⟩))] (⟨b232, itr b4 w80.clock sn272⟩ :: ((⟨b157, Mp.obj .i64 E_api_Summary w283⟩ : Chunk) :: ((⟨b4, Mp.obj .i64 E_api_Summary w80⟩ : Chunk) :: (ck b2 30 [.one (.int .i64 (p0.gFloor.gFloor)), .ints .u8 64 (p0.gFloor.gSig), .one (.int .i64 (p0.gAccepted)), .one (v0_0)] :: [])))) t m) ?_ ?_
    ·have h : w197 = w197 := rfl
     exact ⟨w197, h, ⟨⟨rfl, rfl, rfl, trivial⟩, (.one .here (.one .here (.one .here (.one .here .nil))))⟩⟩
    ·rintro hK274 w292 sn272 t m N293 ⟨w283, hw, hF⟩ hd294 hs295
     subst hw
     refine wc_fit hF ?_
     clear hF
     refine wc_seq <| wc_ops <| wj_e (ef_mnx (E := E_api_Summary) (mp := w80) (q := .i64) (seen := sn272) (M' := fun e => (⟨b232, itr b4 w80.clock (sn272.push e.2.2)⟩ :: ((⟨b157, Mp.obj .i64 E_api_Summary w283⟩ : Chunk) :: ((⟨b4, Mp.obj .i64 E_api_Summary w80⟩ : Chunk) :: (ck b2 30 [.one (.int .i64 (p0.gFloor.gFloor)), .ints .u8 64 (p0.gFloor.gSig), .one (.int .i64 (p0.gAccepted)), .one (v0_0)] :: []))))) rfl .here (.there (.there .here)) hK274 (fun e => .here) ?_ ?_)
     ·intro hz
      have hz := (hd294 hz).symm
      subst hz
      exact wj_q _ (q_ext rfl rfl) <| wj_nil <| wc_seq <| wc_if rfl (fun h => absurd h (by decide)) (fun _ => wc_exit _ rfl <| ⟨y298, h, ⟨⟨rfl, rfl, trivial⟩, (.one (.there .here) (.one (.there .here) (.one (.there .here) .nil)))⟩⟩)
     ·clear h
      intro en271 hE273 hns
      obtain ⟨w296, h, hN297⟩ := hs295 en271 hE273 hns
      have h : gossip_Lacks_g3  w283 en271 = some w296 := h
      unfold gossip_Lacks_g3 at h
      refine wj_q _ (q_ext rfl rfl) <| wj_nil <| wc_seq <| wc_if rfl (fun _ => wc_skip (wc_block (wc_seq (wc_ops (wj_q _ (q_men (E := E_api_Summary) (mp := w80) (e := en271) (seen := sn272) (s := [.one (.int .i64 (en271.2.1.gSerial)), .one (.int .i64 (en271.2.1.gIndex)), .one (.bool (en271.2.1.gFrozen)), .one (.bool (en271.2.1.gRevoked))]) rfl .here (.there (.there .here)) hE273 hK274 rfl) (wj_q _ (q_ext rfl rfl) (wj_q _ (q_ext rfl rfl) (wj_e (ef_al fun b300 hb300 => wj_q _ (q_mv rfl) (wj_e (ef_st (q := [.one (.int .i64 (en271.2.1.gSerial)), .one (.int .i64 (en271.2.1.gIndex)), .one (.bool (en271.2.1.gFrozen)), .one (.bool (en271.2.1.gRevoked))]) rfl rfl rfl rfl rfl .here (wj_nil (wc_seq (wc_ops (wj_q _ (q_mv rfl) (wj_q _ (q_mv rfl) (wj_q _ (q_mlk (E := E_api_Summary) (mp := w283) (s := [.one (.int .i64 ((((w283.get en271.1).getD api_Summary_z)).gSerial)), .one (.int .i64 ((((w283.get en271.1).getD api_Summary_z)).gIndex)), .one (.bool ((((w283.get en271.1).getD api_Summary_z)).gFrozen)), .one (.bool ((((w283.get en271.1).getD api_Summary_z)).gRevoked))]) rfl rfl (.there (.there .here)) rfl rfl) (wj_q _ (q_mv rfl) (wj_q _ (q_ext rfl rfl) (wj_q _ (q_ext rfl rfl) (wj_e (ef_al fun b302 hb302 => wj_e (ef_st (q := [.one (.int .i64 ((((w283.get en271.1).getD api_Summary_z)).gSerial)), .one (.int .i64 ((((w283.get en271.1).getD api_Summary_z)).gIndex)), .one (.bool ((((w283.get en271.1).getD api_Summary_z)).gFrozen)), .one (.bool ((((w283.get en271.1).getD api_Summary_z)).gRevoked))]) rfl rfl rfl rfl rfl .here (wj_q _ (q_mv rfl) (wj_nil (wc_seq (cH h fun c304 h => wc_ops (wj_q _ (q_mv rfl) (wj_q _ (q_mv rfl) (wj_and rfl rfl rfl (fun hg1 => qj_g rfl _ (q_ld (p := [.one (.int .i64 (en271.2.1.gSerial)), .one (.int .i64 (en271.2.1.gIndex)), .one (.bool (en271.2.1.gFrozen)), .one (.bool (en271.2.1.gRevoked))]) rfl (.there .here) rfl) (qj_g rfl _ (q_ld (p := [.one (.int .i64 ((((w283.get en271.1).getD api_Summary_z)).gSerial)), .one (.int .i64 ((((w283.get en271.1).getD api_Summary_z)).gIndex)), .one (.bool ((((w283.get en271.1).getD api_Summary_z)).gFrozen)), .one (.bool ((((w283.get en271.1).getD api_Summary_z)).gRevoked))]) rfl .here rfl) (qj_g rfl _ (q_call rfl (fun _ _ => gossip_enough_spec (getD_some (z := false) (imp_t c304 hg1)))) (qj_nil)))) (fun hg1 => rfl) rfl (wj_nil (wc_br h rfl (fun h => ?_) (fun h => ?_))))))))))))))))))))))))))))))))) (fun h => absurd h (by decide))
      ·refine wc_ops <| wj_q _ (q_mv rfl) <| wj_q _ (q_mv rfl) <| wj_e (ef_mdl (E := E_api_Summary) (mp := w283) rfl rfl (.there (.there (.there .here))) <| wj_nil ?_)
       revert h; refine ret_i fun h => ?_
       exact hN297 _ _ <| ⟨(w283.del en271.1), h, ⟨⟨rfl, rfl, rfl, trivial⟩, (.one (.there (.there .here)) (.one (.there (.there .here)) (.one (.there (.there .here)) (.one (.there (.there .here)) .nil))))⟩⟩
      ·refine wc_skip ?_
       revert h; refine ret_i fun h => ?_
       exact hN297 _ _ <| ⟨w283, h, ⟨⟨rfl, rfl, rfl, trivial⟩, (.one (.there (.there .here)) (.one (.there (.there .here)) (.one (.there (.there .here)) (.one (.there (.there .here)) .nil))))⟩⟩
   ·rintro t m ⟨w269, h, hF⟩
    refine wc_fit hF ?_
    clear hF
    subst qk270
    refine wc_seq <| wc_ops <| wj_q _ (q_mv rfl) <| wj_nil <| wc_seq <| wc_seq <| wc_ops <| wj_q _ (q_fa rfl) <| wj_q _ (q_ld1 rfl (.there (.there .here)) rfl) <| wj_q _ (q_lenP rfl (Shp.rd A0_0)) <| wj_q _ (q_mv rfl) <| wj_nil <| jH h fun k453 qk453 h => wc_mono2 (G := fun t m => ∃ (l451 : List (api_Entry)) (v449 : Value) (ms450 : List Chunk), k453 l451 = some r ∧ OwnSl E_api_Entry v449 ms450 l451 ∧ Fit [(17, v449)] ((⟨b157, Mp.obj .i64 E_api_Summary w269⟩ : Chunk) :: ((⟨b4, Mp.obj .i64 E_api_Summary w80⟩ : Chunk) :: (ck b2 30 [.one (.int .i64 (p0.gFloor.gFloor)), .ints .u8 64 (p0.gFloor.gSig), .one (.int .i64 (p0.gAccepted)), .one (v0_0)] :: (ms450 ++ [])))) t m) ?_ ?_
    ·refine wc_block <| wc_loopJ (fun n550 t m => ∃ (l546 : List (api_Entry)) (i548 : Int) (v544 : Value) (ms545 : List Chunk), gossip_Lacks_l4 p0 w269 k453 n550 l546 i548 = some r ∧ OwnSl E_api_Entry v544 ms545 l546 ∧ Fit [(10, .map (some b157)), (17, v544), (80, v0_0), (81, .int .i64 ((p0.gRows.length : Int))), (82, .int .i64 (i548))] ((⟨b157, Mp.obj .i64 E_api_Summary w269⟩ : Chunk) :: ((⟨b4, Mp.obj .i64 E_api_Summary w80⟩ : Chunk) :: (ck b2 30 [.one (.int .i64 (p0.gFloor.gFloor)), .ints .u8 64 (p0.gFloor.gSig), .one (.int .i64 (p0.gAccepted)), .one (v0_0)] :: (ms545 ++ [])))) t m) big ?_ ?_
     ·exact ⟨[], 0, (.slice none 0 0), [], h, own_nil, ⟨⟨rfl, rfl, rfl, rfl, rfl, trivial⟩, (.one .here (.one .here (.one .here (.no .nil))))⟩⟩
     ·rintro n550 t m ⟨l546, i548, v544, ms545, h, O547, hF⟩
      refine wc_fit hF ?_
      clear hF
      rcases n550 with _ | n550
      · exact none_i h
      have h : gossip_Lacks_b4 p0 w269 k453 (gossip_Lacks_l4 p0 w269 k453 n550) l546 i548 = some r := h
      unfold gossip_Lacks_b4 at h
      obtain ⟨k549, qk549⟩ : ∃ k, k = gossip_Lacks_l4 p0 w269 k453 n550 := ⟨_, rfl⟩
      try rw [← qk549] at h
      refine wc_seq <| wc_ops <| wj_q _ (q_bin rfl rfl rfl) <| wj_nil <| wc_seq <| wc_br h rfl (fun h => ?_) (fun h => ?_)
      ·refine wc_skip <| wc_seq <| jH h fun k574 qk574 h => wc_mono2 (G := fun t m => ∃ (l572 : List (api_Entry)) (v570 : Value) (ms571 : List Chunk), k574 l572 = some r ∧ OwnSl E_api_Entry v570 ms571 l572 ∧ Fit [(10, .map (some b157)), (17, v570), (80, v0_0), (81, .int .i64 ((p0.gRows.length : Int))), (82, .int .i64 (i548))] ((⟨b157, Mp.obj .i64 E_api_Summary w269⟩ : Chunk) :: ((⟨b4, Mp.obj .i64 E_api_Summary w80⟩ : Chunk) :: (ck b2 30 [.one (.int .i64 (p0.gFloor.gFloor)), .ints .u8 64 (p0.gFloor.gSig), .one (.int .i64 (p0.gAccepted)), .one (v0_0)] :: (ms571 ++ [])))) t m) ?_ ?_
       ·refine wc_block <| wc_seq <| cH h fun c576 h => bH h fun x577 ex577 h => wc_ops <| wj_q _ (q_iasP rfl rfl (Shp.rd A0_0) c576) <| wj_q _ (az (fun (x577 : api_Entry) => agg [.one (.int .i64 (x577.gCert.gSerial)), .one (.int .i64 (x577.gCert.gRides)), .one (.int .i64 (x577.gCert.gPrice)), .ints .u8 32 (x577.gCert.gAnchor), .ints .u8 64 (x577.gCert.gSig), .one (.int .i64 (x577.gIndex)), .ints .u8 32 (x577.gValue), .one (.bool (x577.gFrozen)), .ints .u8 64 (x577.gFreeze), .one (.bool (x577.gRevoked)), .ints .u8 64 (x577.gRevoke)]) ex577 (q_ldM0 (E := E_api_Entry) (s := [.one (.int .i64 ((((p0.gRows.getD (i548).toNat api_Entry_z)).gCert).gSerial)), .one (.int .i64 ((((p0.gRows.getD (i548).toNat api_Entry_z)).gCert).gRides)), .one (.int .i64 ((((p0.gRows.getD (i548).toNat api_Entry_z)).gCert).gPrice)), .ints .u8 32 ((((p0.gRows.getD (i548).toNat api_Entry_z)).gCert).gAnchor), .ints .u8 64 ((((p0.gRows.getD (i548).toNat api_Entry_z)).gCert).gSig), .one (.int .i64 (((p0.gRows.getD (i548).toNat api_Entry_z)).gIndex)), .ints .u8 32 (((p0.gRows.getD (i548).toNat api_Entry_z)).gValue), .one (.bool (((p0.gRows.getD (i548).toNat api_Entry_z)).gFrozen)), .ints .u8 64 (((p0.gRows.getD (i548).toNat api_Entry_z)).gFreeze), .one (.bool (((p0.gRows.getD (i548).toNat api_Entry_z)).gRevoked)), .ints .u8 64 (((p0.gRows.getD (i548).toNat api_Entry_z)).gRevoke)]) rfl (rd_arg A0_0 apart0) (inB_n c576) rfl rfl)) <| wj_e (ef_al fun b578 hb578 => wj_e (ef_st (p := [.one (.int .i64 (x577.gCert.gSerial)), .one (.int .i64 (x577.gCert.gRides)), .one (.int .i64 (x577.gCert.gPrice)), .ints .u8 32 (x577.gCert.gAnchor), .ints .u8 64 (x577.gCert.gSig), .one (.int .i64 (x577.gIndex)), .ints .u8 32 (x577.gValue), .one (.bool (x577.gFrozen)), .ints .u8 64 (x577.gFreeze), .one (.bool (x577.gRevoked)), .ints .u8 64 (x577.gRevoke)]) (q := [.one (.int .i64 (x577.gCert.gSerial)), .one (.int .i64 (x577.gCert.gRides)), .one (.int .i64 (x577.gCert.gPrice)), .ints .u8 32 (x577.gCert.gAnchor), .ints .u8 64 (x577.gCert.gSig), .one (.int .i64 (x577.gIndex)), .ints .u8 32 (x577.gValue), .one (.bool (x577.gFrozen)), .ints .u8 64 (x577.gFreeze), .one (.bool (x577.gRevoked)), .ints .u8 64 (x577.gRevoke)]) rfl rfl (by kernel_rfl) (by kernel_rfl) (by kernel_rfl) .here <| wj_nil <| wc_seq <| wc_ops <| wj_q _ (q_mv rfl) <| wj_q _ (q_fa rfl) <| wj_q _ (q_fa rfl) <| wj_q _ (q_ld1 rfl .here rfl) <| wj_q _ (q_mlk (E := E_api_Summary) (mp := w269) (s := [.one (.int .i64 ((((w269.get x577.gCert.gSerial).getD api_Summary_z)).gSerial)), .one (.int .i64 ((((w269.get x577.gCert.gSerial).getD api_Summary_z)).gIndex)), .one (.bool ((((w269.get x577.gCert.gSerial).getD api_Summary_z)).gFrozen)), .one (.bool ((((w269.get x577.gCert.gSerial).getD api_Summary_z)).gRevoked))]) rfl rfl (.there .here) rfl rfl) <| wj_q _ (q_mv rfl) <| wj_q _ (q_ext rfl rfl) <| wj_q _ (q_ext rfl rfl) <| wj_e (ef_al fun b580 hb580 => wj_e (ef_st (q := [.one (.int .i64 ((((w269.get x577.gCert.gSerial).getD api_Summary_z)).gSerial)), .one (.int .i64 ((((w269.get x577.gCert.gSerial).getD api_Summary_z)).gIndex)), .one (.bool ((((w269.get x577.gCert.gSerial).getD api_Summary_z)).gFrozen)), .one (.bool ((((w269.get x577.gCert.gSerial).getD api_Summary_z)).gRevoked))]) rfl rfl rfl rfl rfl .here <| wj_q _ (q_mv rfl) <| wj_nil <| wc_seq <| wc_ops <| wj_q _ (q_mv rfl) <| wj_nil <| wc_br h rfl (fun h => ?_) (fun h => ?_)))))
        ·exact cH h fun c587 h => bH h fun l588 el588 h => wc_ops <| wj_q _ (q_mv rfl) <| wj_q _ (q_ld (p := [.one (.int .i64 (x577.gCert.gSerial)), .one (.int .i64 (x577.gCert.gRides)), .one (.int .i64 (x577.gCert.gPrice)), .ints .u8 32 (x577.gCert.gAnchor), .ints .u8 64 (x577.gCert.gSig), .one (.int .i64 (x577.gIndex)), .ints .u8 32 (x577.gValue), .one (.bool (x577.gFrozen)), .ints .u8 64 (x577.gFreeze), .one (.bool (x577.gRevoked)), .ints .u8 64 (x577.gRevoke)]) rfl (.there .here) (by kernel_rfl)) <| wj_e (ef_bsO (E := E_api_Entry) (xs := [x577]) (BdR.whole (p := [.one (.int .i64 (x577.gCert.gSerial)), .one (.int .i64 (x577.gCert.gRides)), .one (.int .i64 (x577.gCert.gPrice)), .ints .u8 32 (x577.gCert.gAnchor), .ints .u8 64 (x577.gCert.gSig), .one (.int .i64 (x577.gIndex)), .ints .u8 32 (x577.gValue), .one (.bool (x577.gFrozen)), .ints .u8 64 (x577.gFreeze), .one (.bool (x577.gRevoked)), .ints .u8 64 (x577.gRevoke)]) rfl (by kernel_rfl) (by kernel_rfl)) (.cons (p := [.one (.int .i64 (x577.gCert.gSerial)), .one (.int .i64 (x577.gCert.gRides)), .one (.int .i64 (x577.gCert.gPrice)), .ints .u8 32 (x577.gCert.gAnchor), .ints .u8 64 (x577.gCert.gSig), .one (.int .i64 (x577.gIndex)), .ints .u8 32 (x577.gValue), .one (.bool (x577.gFrozen)), .ints .u8 64 (x577.gFreeze), .one (.bool (x577.gRevoked)), .ints .u8 64 (x577.gRevoke)]) rfl .nil) rfl fun v584 ms585 O586 => wj_e (ef_appO (E := E_api_Entry) el588 rfl O547 (.app (.there (.there (.there (.there (.there .here)))))) rfl (rd_own O586 .here) c587 fun v589 ms590 O591 => wj_q _ (q_mv rfl) <| wj_nil <| ⟨l588, v589, ms590, h, O591, ⟨⟨rfl, rfl, rfl, rfl, rfl, trivial⟩, (.one (.app (.app (.there (.there .here)))) (.one (.app (.app (.there (.there .here)))) (.one (.app (.app (.there (.there .here)))) (.all .here .nil))))⟩⟩))
        ·exact wc_skip <| ⟨l546, v544, ms545, h, O547, ⟨⟨rfl, rfl, rfl, rfl, rfl, trivial⟩, (.one (.there (.there .here)) (.one (.there (.there .here)) (.one (.there (.there .here)) (.all (.there (.there .here)) .nil))))⟩⟩
       ·rintro t m ⟨l572, v570, ms571, h, O573, hF⟩
        refine wc_fit hF ?_
        clear hF
        subst qk574
        refine bH h fun z593 ez593 h => wc_ops <| wj_q _ (iz ez593 (q_bin rfl rfl rfl)) <| wj_q _ (q_mv rfl) <| wj_nil ?_
        rw [qk549] at h
        exact ⟨n550, Nat.lt_succ_self _, l572, z593, v570, ms571, h, O573, ⟨⟨rfl, rfl, rfl, rfl, rfl, trivial⟩, (.one .here (.one .here (.one .here (.all .here .nil))))⟩⟩
      ·exact wc_exit _ rfl <| ⟨l546, v544, ms545, h, O547, ⟨⟨rfl, trivial⟩, (.one .here (.one .here (.one .here (.all .here .nil))))⟩⟩
    ·rintro t m ⟨l451, v449, ms450, h, O452, hF⟩
     refine wc_fit hF ?_
     clear hF
     subst qk453
     refine wc_seq <| wc_ops <| wj_q _ (q_mv rfl) <| wj_q _ (q_mv rfl) <| wj_nil <| wc_ret ?_
     revert h; refine ret_i fun h => ?_
     subst h
     exact ⟨_, _, (.cons (.tmp rfl) .nil), (.all (.there (.there (.there .here))) .nil), ⟨_, rfl, ⟨v449, ms450, rfl, rfl, O452⟩⟩⟩
end Go.Proofs.Ytaebomfgmadilaa
/- Mirrors. -/
namespace Go.Proofs.Ytaebomfgmadilaa
open Go Go.Sx Go.RowKit
set_option linter.all false
set_option maxHeartbeats 400000
set_option maxRecDepth 100000
/- farebox/fareboxlaw20.sameSummaries -/
def fareboxlaw20_sameSummaries_b1 (p0 : List (api_Summary)) (p1 : List (api_Summary)) (k42 : Unit → Option (Bool)) (k66 : (Int) → Option (Bool)) (i65 : Int) : Option (Bool) :=
 br ((decide (i65 < (p0.length : Int)))) (
 chk (inB i65 p0.length) <|
 bnd (p0.getD (i65).toNat api_Summary_z) fun x72 =>
 chk (inB i65 p1.length) <|
 bnd (p1.getD (i65).toNat api_Summary_z) fun x74 =>
 br ((!((x72.gSerial == x74.gSerial) && ((x72.gIndex == x74.gIndex) && ((x72.gFrozen == x74.gFrozen) && (x72.gRevoked == x74.gRevoked)))))) (
 some false
 ) (
 bnd (IntKind.wrap .i64 (i65 + 1)) fun z78 =>
 k66 z78
 )
 ) (
 k42 ()
 )
def fareboxlaw20_sameSummaries_l1 (p0 : List (api_Summary)) (p1 : List (api_Summary)) (k42 : Unit → Option (Bool)) : Nat → (Int) → Option (Bool)
  | 0, _ => none
  | n + 1, i65 => fareboxlaw20_sameSummaries_b1 p0 p1 k42 (fareboxlaw20_sameSummaries_l1 p0 p1 k42 n) i65
def fareboxlaw20_sameSummaries (p0 : List (api_Summary)) (p1 : List (api_Summary)) : Option (Bool) :=
 br (((p0.length : Int) != (p1.length : Int))) (
 some false
 ) (
 jn (fun (_ : Unit) => some true) fun k42 => fareboxlaw20_sameSummaries_l1 p0 p1 k42 big 0
 )
theorem fareboxlaw20_sameSummaries_spec {W : World} {r : Bool} {p0 : List (api_Summary)} {p1 : List (api_Summary)} {v0 : Value} {v1 : Value} (h : fareboxlaw20_sameSummaries p0 p1 = some r) (A0 : RdSl E_api_Summary W v0 p0) (A1 : RdSl E_api_Summary W v1 p1) :
    Calls Try.prog 8 [v0, v1].toArray W (ret1 W (.bool (r))) := by
 unfold fareboxlaw20_sameSummaries at h
 refine calls_val mo ok8 rfl ?_
 refine wc_seq <| wc_ops <| wj_q _ (q_mv rfl) <| wj_nil <| wc_seq <| wc_seq <| wc_ops <| wj_q _ (q_mv rfl) <| wj_q _ (q_lenP rfl (Shp.rd A0)) <| wj_q _ (q_mv rfl) <| wj_q _ (q_lenP rfl (Shp.rd A1)) <| wj_q _ (q_bin rfl rfl rfl) <| wj_nil <| wc_br h rfl (fun h => ?_) (fun h => ?_)
 ·refine wc_seq <| wc_ops <| wj_q _ (q_mv rfl) <| wj_nil <| wc_ret ?_
  revert h; refine ret_i fun h => ?_
  subst h
  exact ⟨_, (.cons (.tmp rfl) .nil), rfl⟩
 ·refine wc_skip <| wc_seq <| wc_seq <| wc_ops <| wj_q _ (q_mv rfl) <| wj_nil <| jH h fun k42 qk42 h => wc_mono2 (G := fun t m => k42 () = some r ∧ Fit [] [] t m) ?_ ?_
  ·refine wc_block <| wc_loopJ (fun n67 t m => ∃ (i65 : Int), fareboxlaw20_sameSummaries_l1 p0 p1 k42 n67 i65 = some r ∧ Fit [(0, v0), (1, v1), (5, .int .i64 (i65))] [] t m) big ?_ ?_
   ·exact ⟨0, h, ⟨⟨rfl, rfl, rfl, trivial⟩, .nil⟩⟩
   ·rintro n67 t m ⟨i65, h, hF⟩
    refine wc_fit hF ?_
    clear hF
    rcases n67 with _ | n67
    · exact none_i h
    have h : fareboxlaw20_sameSummaries_b1 p0 p1 k42 (fareboxlaw20_sameSummaries_l1 p0 p1 k42 n67) i65 = some r := h
    unfold fareboxlaw20_sameSummaries_b1 at h
    obtain ⟨k66, qk66⟩ : ∃ k, k = fareboxlaw20_sameSummaries_l1 p0 p1 k42 n67 := ⟨_, rfl⟩
    try rw [← qk66] at h
    refine wc_seq <| wc_seq <| wc_ops <| wj_q _ (q_mv rfl) <| wj_q _ (q_mv rfl) <| wj_q _ (q_lenP rfl (Shp.rd A0)) <| wj_q _ (q_bin rfl rfl rfl) <| wj_nil <| wc_br h rfl (fun h => ?_) (fun h => ?_)
    ·refine wc_skip <| wc_seq <| wc_block <| wc_seq <| cH h fun c71 h => bH h fun x72 ex72 h => cH h fun c73 h => bH h fun x74 ex74 h => wc_draw <| ws_p1 _ (q_mv rfl) <| ws_p1 _ (q_mv rfl) <| ws_p1 _ (q_iasP rfl rfl (Shp.rd A0) c71) <| ws_p1 _ (q_mv rfl) <| ws_p1 _ (q_mv rfl) <| ws_p1 _ (q_iasP rfl rfl (Shp.rd A1) c73) <| ws_q1 _ (az (fun (x72 : api_Summary) => agg [.one (.int .i64 (x72.gSerial)), .one (.int .i64 (x72.gIndex)), .one (.bool (x72.gFrozen)), .one (.bool (x72.gRevoked))]) ex72 (q_ldM0 (E := E_api_Summary) (s := [.one (.int .i64 (((p0.getD (i65).toNat api_Summary_z)).gSerial)), .one (.int .i64 (((p0.getD (i65).toNat api_Summary_z)).gIndex)), .one (.bool (((p0.getD (i65).toNat api_Summary_z)).gFrozen)), .one (.bool (((p0.getD (i65).toNat api_Summary_z)).gRevoked))]) rfl (rd_arg A0 apart0) (inB_n c71) rfl rfl)) <| ws_q1 _ (az (fun (x74 : api_Summary) => agg [.one (.int .i64 (x74.gSerial)), .one (.int .i64 (x74.gIndex)), .one (.bool (x74.gFrozen)), .one (.bool (x74.gRevoked))]) ex74 (q_ldM0 (E := E_api_Summary) (s := [.one (.int .i64 (((p1.getD (i65).toNat api_Summary_z)).gSerial)), .one (.int .i64 (((p1.getD (i65).toNat api_Summary_z)).gIndex)), .one (.bool (((p1.getD (i65).toNat api_Summary_z)).gFrozen)), .one (.bool (((p1.getD (i65).toNat api_Summary_z)).gRevoked))]) rfl (rd_arg A1 apart0) (inB_n c73) rfl rfl)) <| ws_p1 _ (q_eqa (s := [.one (.int .i64 (x72.gSerial)), .one (.int .i64 (x72.gIndex)), .one (.bool (x72.gFrozen)), .one (.bool (x72.gRevoked))]) (s' := [.one (.int .i64 (x74.gSerial)), .one (.int .i64 (x74.gIndex)), .one (.bool (x74.gFrozen)), .one (.bool (x74.gRevoked))]) rfl rfl rfl rfl _ (eqc_cons rfl eqc_int (eqc_cons rfl eqc_int (eqc_cons rfl eqc_bool (eqc_last eqc_bool))))) <| ws_nil <| wc_br h rfl (fun h => ?_) (fun h => ?_)
     ·refine wc_seq <| wc_ops <| wj_q _ (q_mv rfl) <| wj_nil <| wc_ret ?_
      revert h; refine ret_i fun h => ?_
      subst h
      exact ⟨_, (.cons (.tmp rfl) .nil), rfl⟩
     ·refine wc_skip <| bH h fun z78 ez78 h => wc_ops <| wj_q _ (q_mv rfl) <| wj_q _ (iz ez78 (q_bin rfl rfl rfl)) <| wj_q _ (q_mv rfl) <| wj_nil ?_
      rw [qk66] at h
      exact ⟨n67, Nat.lt_succ_self _, z78, h, ⟨⟨rfl, rfl, rfl, trivial⟩, .nil⟩⟩
    ·exact wc_exit _ rfl <| ⟨h, ⟨trivial, .nil⟩⟩
  ·rintro t m ⟨h, hF⟩
   refine wc_fit hF ?_
   clear hF
   subst qk42
   refine wc_seq <| wc_ops <| wj_q _ (q_mv rfl) <| wj_nil <| wc_ret ?_
   revert h; refine ret_i fun h => ?_
   subst h
   exact ⟨_, (.cons (.tmp rfl) .nil), rfl⟩
/- farebox/fareboxref20.Digest -/
def fareboxref20_Digest_b1 (p0 : api_GateState) (k71 : (List (api_Summary)) → Option ((List (api_Summary)))) (k115 : (List (api_Summary)) → (Int) → Option ((List (api_Summary)))) (l112 : List (api_Summary)) (i114 : Int) : Option ((List (api_Summary))) :=
 br ((decide (i114 < (p0.gRows.length : Int)))) (
 chk (inB i114 p0.gRows.length) <|
 bnd (p0.gRows.getD (i114).toNat api_Entry_z) fun x121 =>
 chk (decide ((l112.length + ([(⟨x121.gCert.gSerial, x121.gIndex, x121.gFrozen, x121.gRevoked⟩ : api_Summary)] : List (api_Summary)).length) * 24 ≤ 140737488355328)) <|
 bnd (l112 ++ ([(⟨x121.gCert.gSerial, x121.gIndex, x121.gFrozen, x121.gRevoked⟩ : api_Summary)] : List (api_Summary))) fun l128 =>
 bnd (IntKind.wrap .i64 (i114 + 1)) fun z133 =>
 k115 l128 z133
 ) (
 k71 l112
 )
def fareboxref20_Digest_l1 (p0 : api_GateState) (k71 : (List (api_Summary)) → Option ((List (api_Summary)))) : Nat → (List (api_Summary)) → (Int) → Option ((List (api_Summary)))
  | 0, _, _ => none
  | n + 1, l112, i114 => fareboxref20_Digest_b1 p0 k71 (fareboxref20_Digest_l1 p0 k71 n) l112 i114
def fareboxref20_Digest (p0 : api_GateState) : Option ((List (api_Summary))) :=
 jn (fun (l69 : List (api_Summary)) => some l69) fun k71 => fareboxref20_Digest_l1 p0 k71 big [] 0
theorem fareboxref20_Digest_spec {W : World} {r : (List (api_Summary))} {p0 : api_GateState} {v0_0 : Value} (h : fareboxref20_Digest p0 = some r) (A0_0 : RdSl E_api_Entry W v0_0 p0.gRows) :
    Calls Try.prog 9 [agg [.one (.int .i64 (p0.gFloor.gFloor)), .ints .u8 64 (p0.gFloor.gSig), .one (.int .i64 (p0.gAccepted)), .one (v0_0)]].toArray W (retS W [] (fun v Ms => ∃ (u0 : Value) (M0 : List Chunk), v = u0 ∧ Ms = [.all M0] ∧ OwnSl E_api_Summary u0 M0 r)) := by
 unfold fareboxref20_Digest at h
 refine calls_memT mo ok9 rfl (sat0 _) ?_
 refine wc_seq <| wc_ops <| wj_e (ef_bx (s := [.one (.int .i64 (p0.gFloor.gFloor)), .ints .u8 64 (p0.gFloor.gSig), .one (.int .i64 (p0.gAccepted)), .one (v0_0)]) rfl fun b2 hb2 => wj_q _ (q_mv rfl) <| wj_nil <| wc_seq <| wc_ops <| wj_q _ (q_mv rfl) <| wj_nil <| wc_seq <| wc_seq <| wc_ops <| wj_q _ (q_mv rfl) <| wj_nil <| jH h fun k71 qk71 h => wc_mono2 (G := fun t m => ∃ (l69 : List (api_Summary)) (v67 : Value) (ms68 : List Chunk), k71 l69 = some r ∧ OwnSl E_api_Summary v67 ms68 l69 ∧ Fit [(3, v67)] (ck b2 30 [.one (.int .i64 (p0.gFloor.gFloor)), .ints .u8 64 (p0.gFloor.gSig), .one (.int .i64 (p0.gAccepted)), .one (v0_0)] :: (ms68 ++ [])) t m) ?_ ?_)
 ·refine wc_block <| wc_loopJ (fun n116 t m => ∃ (l112 : List (api_Summary)) (i114 : Int) (v110 : Value) (ms111 : List Chunk), fareboxref20_Digest_l1 p0 k71 n116 l112 i114 = some r ∧ OwnSl E_api_Summary v110 ms111 l112 ∧ Fit [(1, .pointer (some ⟨b2, 0, none⟩)), (3, v110), (4, .int .i64 (i114))] (ck b2 30 [.one (.int .i64 (p0.gFloor.gFloor)), .ints .u8 64 (p0.gFloor.gSig), .one (.int .i64 (p0.gAccepted)), .one (v0_0)] :: (ms111 ++ [])) t m) big ?_ ?_
  ·exact ⟨[], 0, (.slice none 0 0), [], h, own_nil, ⟨⟨rfl, rfl, rfl, trivial⟩, (.one .here (.no .nil))⟩⟩
  ·rintro n116 t m ⟨l112, i114, v110, ms111, h, O113, hF⟩
   refine wc_fit hF ?_
   clear hF
   rcases n116 with _ | n116
   · exact none_i h
   have h : fareboxref20_Digest_b1 p0 k71 (fareboxref20_Digest_l1 p0 k71 n116) l112 i114 = some r := h
   unfold fareboxref20_Digest_b1 at h
   obtain ⟨k115, qk115⟩ : ∃ k, k = fareboxref20_Digest_l1 p0 k71 n116 := ⟨_, rfl⟩
   try rw [← qk115] at h
   refine wc_seq <| wc_seq <| wc_ops <| wj_q _ (q_mv rfl) <| wj_q _ (q_fa rfl) <| wj_q _ (q_ld1 rfl .here rfl) <| wj_q _ (q_lenP rfl (Shp.rd A0_0)) <| wj_q _ (q_bin rfl rfl rfl) <| wj_nil <| wc_br h rfl (fun h => ?_) (fun h => ?_)
   ·refine wc_skip <| wc_seq <| wc_block <| wc_seq <| cH h fun c120 h => bH h fun x121 ex121 h => wc_ops <| wj_q _ (q_fa rfl) <| wj_q _ (q_ld1 rfl .here rfl) <| wj_q _ (q_mv rfl) <| wj_q _ (q_iasP rfl rfl (Shp.rd A0_0) c120) <| wj_q _ (az (fun (x121 : api_Entry) => agg [.one (.int .i64 (x121.gCert.gSerial)), .one (.int .i64 (x121.gCert.gRides)), .one (.int .i64 (x121.gCert.gPrice)), .ints .u8 32 (x121.gCert.gAnchor), .ints .u8 64 (x121.gCert.gSig), .one (.int .i64 (x121.gIndex)), .ints .u8 32 (x121.gValue), .one (.bool (x121.gFrozen)), .ints .u8 64 (x121.gFreeze), .one (.bool (x121.gRevoked)), .ints .u8 64 (x121.gRevoke)]) ex121 (q_ldM0 (E := E_api_Entry) (s := [.one (.int .i64 ((((p0.gRows.getD (i114).toNat api_Entry_z)).gCert).gSerial)), .one (.int .i64 ((((p0.gRows.getD (i114).toNat api_Entry_z)).gCert).gRides)), .one (.int .i64 ((((p0.gRows.getD (i114).toNat api_Entry_z)).gCert).gPrice)), .ints .u8 32 ((((p0.gRows.getD (i114).toNat api_Entry_z)).gCert).gAnchor), .ints .u8 64 ((((p0.gRows.getD (i114).toNat api_Entry_z)).gCert).gSig), .one (.int .i64 (((p0.gRows.getD (i114).toNat api_Entry_z)).gIndex)), .ints .u8 32 (((p0.gRows.getD (i114).toNat api_Entry_z)).gValue), .one (.bool (((p0.gRows.getD (i114).toNat api_Entry_z)).gFrozen)), .ints .u8 64 (((p0.gRows.getD (i114).toNat api_Entry_z)).gFreeze), .one (.bool (((p0.gRows.getD (i114).toNat api_Entry_z)).gRevoked)), .ints .u8 64 (((p0.gRows.getD (i114).toNat api_Entry_z)).gRevoke)]) rfl (rd_arg A0_0 apart0) (inB_n c120) rfl rfl)) <| wj_e (ef_al fun b122 hb122 => wj_e (ef_st (p := [.one (.int .i64 (x121.gCert.gSerial)), .one (.int .i64 (x121.gCert.gRides)), .one (.int .i64 (x121.gCert.gPrice)), .ints .u8 32 (x121.gCert.gAnchor), .ints .u8 64 (x121.gCert.gSig), .one (.int .i64 (x121.gIndex)), .ints .u8 32 (x121.gValue), .one (.bool (x121.gFrozen)), .ints .u8 64 (x121.gFreeze), .one (.bool (x121.gRevoked)), .ints .u8 64 (x121.gRevoke)]) (q := [.one (.int .i64 (x121.gCert.gSerial)), .one (.int .i64 (x121.gCert.gRides)), .one (.int .i64 (x121.gCert.gPrice)), .ints .u8 32 (x121.gCert.gAnchor), .ints .u8 64 (x121.gCert.gSig), .one (.int .i64 (x121.gIndex)), .ints .u8 32 (x121.gValue), .one (.bool (x121.gFrozen)), .ints .u8 64 (x121.gFreeze), .one (.bool (x121.gRevoked)), .ints .u8 64 (x121.gRevoke)]) rfl rfl (by kernel_rfl) (by kernel_rfl) (by kernel_rfl) .here <| wj_nil <| cH h fun c127 h => bH h fun l128 el128 h => wc_ops <| wj_q _ (q_mv rfl) <| wj_q _ (q_fa rfl) <| wj_q _ (q_fa rfl) <| wj_q _ (q_ld1 rfl .here rfl) <| wj_q _ (q_fa rfl) <| wj_q _ (q_ld1 rfl .here rfl) <| wj_q _ (q_fa rfl) <| wj_q _ (q_ld1 rfl .here rfl) <| wj_q _ (q_fa rfl) <| wj_q _ (q_ld1 rfl .here rfl) <| wj_q _ (q_bd (q := [.one (.int .i64 (x121.gCert.gSerial)), .one (.int .i64 (x121.gIndex)), .one (.bool (x121.gFrozen)), .one (.bool (x121.gRevoked))]) (.one rfl rfl rfl (.one rfl rfl rfl (.one rfl rfl rfl (.one rfl rfl rfl BdR.nil))))) <| wj_e (ef_bsO (E := E_api_Summary) (xs := [(⟨x121.gCert.gSerial, x121.gIndex, x121.gFrozen, x121.gRevoked⟩ : api_Summary)]) (.agg rfl rfl rfl BdR.nil) (.cons (p := [.one (.int .i64 (x121.gCert.gSerial)), .one (.int .i64 (x121.gIndex)), .one (.bool (x121.gFrozen)), .one (.bool (x121.gRevoked))]) rfl .nil) rfl fun v124 ms125 O126 => wj_e (ef_appO (E := E_api_Summary) el128 rfl O113 (.app (.there (.there .here))) rfl (rd_own O126 .here) c127 fun v129 ms130 O131 => wj_q _ (q_mv rfl) <| wj_nil <| bH h fun z133 ez133 h => wc_ops <| wj_q _ (q_mv rfl) <| wj_q _ (iz ez133 (q_bin rfl rfl rfl)) <| wj_q _ (q_mv rfl) <| wj_nil ?_))))
    rw [qk115] at h
    exact ⟨n116, Nat.lt_succ_self _, l128, z133, v129, ms130, h, O131, ⟨⟨rfl, rfl, rfl, trivial⟩, (.one (.app (.app (.there .here))) (.all .here .nil))⟩⟩
   ·exact wc_exit _ rfl <| ⟨l112, v110, ms111, h, O113, ⟨⟨rfl, trivial⟩, (.one .here (.all .here .nil))⟩⟩
 ·rintro t m ⟨l69, v67, ms68, h, O70, hF⟩
  refine wc_fit hF ?_
  clear hF
  subst qk71
  refine wc_seq <| wc_ops <| wj_q _ (q_mv rfl) <| wj_q _ (q_mv rfl) <| wj_nil <| wc_ret ?_
  revert h; refine ret_i fun h => ?_
  subst h
  exact ⟨_, _, (.cons (.tmp rfl) .nil), (.all (.there .here) .nil), ⟨_, rfl, ⟨v67, ms68, rfl, rfl, O70⟩⟩⟩
/- farebox/fareboxlaw20.sameEntries -/
def fareboxlaw20_sameEntries_b1 (p0 : List (api_Entry)) (p1 : List (api_Entry)) (k42 : Unit → Option (Bool)) (k66 : (Int) → Option (Bool)) (i65 : Int) : Option (Bool) :=
 br ((decide (i65 < (p0.length : Int)))) (
 chk (inB i65 p0.length) <|
 bnd (p0.getD (i65).toNat api_Entry_z) fun x72 =>
 chk (inB i65 p1.length) <|
 bnd (p1.getD (i65).toNat api_Entry_z) fun x74 =>
 br ((!((x72.gCert.gSerial == x74.gCert.gSerial) && ((x72.gCert.gRides == x74.gCert.gRides) && ((x72.gCert.gPrice == x74.gCert.gPrice) && ((ieq 32 x72.gCert.gAnchor x74.gCert.gAnchor) && ((ieq 64 x72.gCert.gSig x74.gCert.gSig) && ((x72.gIndex == x74.gIndex) && ((ieq 32 x72.gValue x74.gValue) && ((x72.gFrozen == x74.gFrozen) && ((ieq 64 x72.gFreeze x74.gFreeze) && ((x72.gRevoked == x74.gRevoked) && (ieq 64 x72.gRevoke x74.gRevoke))))))))))))) (
 some false
 ) (
 bnd (IntKind.wrap .i64 (i65 + 1)) fun z78 =>
 k66 z78
 )
 ) (
 k42 ()
 )
def fareboxlaw20_sameEntries_l1 (p0 : List (api_Entry)) (p1 : List (api_Entry)) (k42 : Unit → Option (Bool)) : Nat → (Int) → Option (Bool)
  | 0, _ => none
  | n + 1, i65 => fareboxlaw20_sameEntries_b1 p0 p1 k42 (fareboxlaw20_sameEntries_l1 p0 p1 k42 n) i65
def fareboxlaw20_sameEntries (p0 : List (api_Entry)) (p1 : List (api_Entry)) : Option (Bool) :=
 br (((p0.length : Int) != (p1.length : Int))) (
 some false
 ) (
 jn (fun (_ : Unit) => some true) fun k42 => fareboxlaw20_sameEntries_l1 p0 p1 k42 big 0
 )
theorem fareboxlaw20_sameEntries_spec {W : World} {r : Bool} {p0 : List (api_Entry)} {p1 : List (api_Entry)} {v0 : Value} {v1 : Value} (h : fareboxlaw20_sameEntries p0 p1 = some r) (A0 : RdSl E_api_Entry W v0 p0) (A1 : RdSl E_api_Entry W v1 p1) :
    Calls Try.prog 10 [v0, v1].toArray W (ret1 W (.bool (r))) := by
 unfold fareboxlaw20_sameEntries at h
 refine calls_val mo ok10 rfl ?_
 refine wc_seq <| wc_ops <| wj_q _ (q_mv rfl) <| wj_nil <| wc_seq <| wc_seq <| wc_ops <| wj_q _ (q_mv rfl) <| wj_q _ (q_lenP rfl (Shp.rd A0)) <| wj_q _ (q_mv rfl) <| wj_q _ (q_lenP rfl (Shp.rd A1)) <| wj_q _ (q_bin rfl rfl rfl) <| wj_nil <| wc_br h rfl (fun h => ?_) (fun h => ?_)
 ·refine wc_seq <| wc_ops <| wj_q _ (q_mv rfl) <| wj_nil <| wc_ret ?_
  revert h; refine ret_i fun h => ?_
  subst h
  exact ⟨_, (.cons (.tmp rfl) .nil), rfl⟩
 ·refine wc_skip <| wc_seq <| wc_seq <| wc_ops <| wj_q _ (q_mv rfl) <| wj_nil <| jH h fun k42 qk42 h => wc_mono2 (G := fun t m => k42 () = some r ∧ Fit [] [] t m) ?_ ?_
  ·refine wc_block <| wc_loopJ (fun n67 t m => ∃ (i65 : Int), fareboxlaw20_sameEntries_l1 p0 p1 k42 n67 i65 = some r ∧ Fit [(0, v0), (1, v1), (5, .int .i64 (i65))] [] t m) big ?_ ?_
   ·exact ⟨0, h, ⟨⟨rfl, rfl, rfl, trivial⟩, .nil⟩⟩
   ·rintro n67 t m ⟨i65, h, hF⟩
    refine wc_fit hF ?_
    clear hF
    rcases n67 with _ | n67
    · exact none_i h
    have h : fareboxlaw20_sameEntries_b1 p0 p1 k42 (fareboxlaw20_sameEntries_l1 p0 p1 k42 n67) i65 = some r := h
    unfold fareboxlaw20_sameEntries_b1 at h
    obtain ⟨k66, qk66⟩ : ∃ k, k = fareboxlaw20_sameEntries_l1 p0 p1 k42 n67 := ⟨_, rfl⟩
    try rw [← qk66] at h
    refine wc_seq <| wc_seq <| wc_ops <| wj_q _ (q_mv rfl) <| wj_q _ (q_mv rfl) <| wj_q _ (q_lenP rfl (Shp.rd A0)) <| wj_q _ (q_bin rfl rfl rfl) <| wj_nil <| wc_br h rfl (fun h => ?_) (fun h => ?_)
    ·refine wc_skip <| wc_seq <| wc_block <| wc_seq <| cH h fun c71 h => bH h fun x72 ex72 h => cH h fun c73 h => bH h fun x74 ex74 h => wc_draw <| ws_p1 _ (q_mv rfl) <| ws_p1 _ (q_mv rfl) <| ws_p1 _ (q_iasP rfl rfl (Shp.rd A0) c71) <| ws_p1 _ (q_mv rfl) <| ws_p1 _ (q_mv rfl) <| ws_p1 _ (q_iasP rfl rfl (Shp.rd A1) c73) <| ws_q1 _ (az (fun (x72 : api_Entry) => agg [.one (.int .i64 (x72.gCert.gSerial)), .one (.int .i64 (x72.gCert.gRides)), .one (.int .i64 (x72.gCert.gPrice)), .ints .u8 32 (x72.gCert.gAnchor), .ints .u8 64 (x72.gCert.gSig), .one (.int .i64 (x72.gIndex)), .ints .u8 32 (x72.gValue), .one (.bool (x72.gFrozen)), .ints .u8 64 (x72.gFreeze), .one (.bool (x72.gRevoked)), .ints .u8 64 (x72.gRevoke)]) ex72 (q_ldM0 (E := E_api_Entry) (s := [.one (.int .i64 ((((p0.getD (i65).toNat api_Entry_z)).gCert).gSerial)), .one (.int .i64 ((((p0.getD (i65).toNat api_Entry_z)).gCert).gRides)), .one (.int .i64 ((((p0.getD (i65).toNat api_Entry_z)).gCert).gPrice)), .ints .u8 32 ((((p0.getD (i65).toNat api_Entry_z)).gCert).gAnchor), .ints .u8 64 ((((p0.getD (i65).toNat api_Entry_z)).gCert).gSig), .one (.int .i64 (((p0.getD (i65).toNat api_Entry_z)).gIndex)), .ints .u8 32 (((p0.getD (i65).toNat api_Entry_z)).gValue), .one (.bool (((p0.getD (i65).toNat api_Entry_z)).gFrozen)), .ints .u8 64 (((p0.getD (i65).toNat api_Entry_z)).gFreeze), .one (.bool (((p0.getD (i65).toNat api_Entry_z)).gRevoked)), .ints .u8 64 (((p0.getD (i65).toNat api_Entry_z)).gRevoke)]) rfl (rd_arg A0 apart0) (inB_n c71) rfl rfl)) <| ws_q1 _ (az (fun (x74 : api_Entry) => agg [.one (.int .i64 (x74.gCert.gSerial)), .one (.int .i64 (x74.gCert.gRides)), .one (.int .i64 (x74.gCert.gPrice)), .ints .u8 32 (x74.gCert.gAnchor), .ints .u8 64 (x74.gCert.gSig), .one (.int .i64 (x74.gIndex)), .ints .u8 32 (x74.gValue), .one (.bool (x74.gFrozen)), .ints .u8 64 (x74.gFreeze), .one (.bool (x74.gRevoked)), .ints .u8 64 (x74.gRevoke)]) ex74 (q_ldM0 (E := E_api_Entry) (s := [.one (.int .i64 ((((p1.getD (i65).toNat api_Entry_z)).gCert).gSerial)), .one (.int .i64 ((((p1.getD (i65).toNat api_Entry_z)).gCert).gRides)), .one (.int .i64 ((((p1.getD (i65).toNat api_Entry_z)).gCert).gPrice)), .ints .u8 32 ((((p1.getD (i65).toNat api_Entry_z)).gCert).gAnchor), .ints .u8 64 ((((p1.getD (i65).toNat api_Entry_z)).gCert).gSig), .one (.int .i64 (((p1.getD (i65).toNat api_Entry_z)).gIndex)), .ints .u8 32 (((p1.getD (i65).toNat api_Entry_z)).gValue), .one (.bool (((p1.getD (i65).toNat api_Entry_z)).gFrozen)), .ints .u8 64 (((p1.getD (i65).toNat api_Entry_z)).gFreeze), .one (.bool (((p1.getD (i65).toNat api_Entry_z)).gRevoked)), .ints .u8 64 (((p1.getD (i65).toNat api_Entry_z)).gRevoke)]) rfl (rd_arg A1 apart0) (inB_n c73) rfl rfl)) <| ws_p1 _ (q_eqa (s := [.one (.int .i64 (x72.gCert.gSerial)), .one (.int .i64 (x72.gCert.gRides)), .one (.int .i64 (x72.gCert.gPrice)), .ints .u8 32 (x72.gCert.gAnchor), .ints .u8 64 (x72.gCert.gSig), .one (.int .i64 (x72.gIndex)), .ints .u8 32 (x72.gValue), .one (.bool (x72.gFrozen)), .ints .u8 64 (x72.gFreeze), .one (.bool (x72.gRevoked)), .ints .u8 64 (x72.gRevoke)]) (s' := [.one (.int .i64 (x74.gCert.gSerial)), .one (.int .i64 (x74.gCert.gRides)), .one (.int .i64 (x74.gCert.gPrice)), .ints .u8 32 (x74.gCert.gAnchor), .ints .u8 64 (x74.gCert.gSig), .one (.int .i64 (x74.gIndex)), .ints .u8 32 (x74.gValue), .one (.bool (x74.gFrozen)), .ints .u8 64 (x74.gFreeze), .one (.bool (x74.gRevoked)), .ints .u8 64 (x74.gRevoke)]) rfl rfl rfl rfl _ (eqc_cons rfl eqc_int (eqc_cons rfl eqc_int (eqc_cons rfl eqc_int (eqc_cons rfl eqc_ints (eqc_cons rfl eqc_ints (eqc_cons rfl eqc_int (eqc_cons rfl eqc_ints (eqc_cons rfl eqc_bool (eqc_cons rfl eqc_ints (eqc_cons rfl eqc_bool (eqc_last eqc_ints)))))))))))) <| ws_nil <| wc_br h rfl (fun h => ?_) (fun h => ?_)
     ·refine wc_seq <| wc_ops <| wj_q _ (q_mv rfl) <| wj_nil <| wc_ret ?_
      revert h; refine ret_i fun h => ?_
      subst h
      exact ⟨_, (.cons (.tmp rfl) .nil), rfl⟩
     ·refine wc_skip <| bH h fun z78 ez78 h => wc_ops <| wj_q _ (q_mv rfl) <| wj_q _ (iz ez78 (q_bin rfl rfl rfl)) <| wj_q _ (q_mv rfl) <| wj_nil ?_
      rw [qk66] at h
      exact ⟨n67, Nat.lt_succ_self _, z78, h, ⟨⟨rfl, rfl, rfl, trivial⟩, .nil⟩⟩
    ·exact wc_exit _ rfl <| ⟨h, ⟨trivial, .nil⟩⟩
  ·rintro t m ⟨h, hF⟩
   refine wc_fit hF ?_
   clear hF
   subst qk42
   refine wc_seq <| wc_ops <| wj_q _ (q_mv rfl) <| wj_nil <| wc_ret ?_
   revert h; refine ret_i fun h => ?_
   subst h
   exact ⟨_, (.cons (.tmp rfl) .nil), rfl⟩
/- farebox/fareboxref20.lacking -/
def fareboxref20_lacking_b1 (p0 : api_Entry) (p1 : List (api_Summary)) (k162 : (Bool) → (Int) → (Bool) → (Bool) → Option (Bool)) (k260 : (Bool) → (Int) → (Bool) → (Bool) → (Int) → Option (Bool)) (i255 : Bool) (i256 : Int) (i257 : Bool) (i258 : Bool) (i259 : Int) : Option (Bool) :=
 br ((decide (i259 < (p1.length : Int)))) (
 jn (fun (i285 : Bool) (i286 : Int) (i287 : Bool) (i288 : Bool) => bnd (IntKind.wrap .i64 (i259 + 1)) fun z312 =>
 k260 i285 i286 i287 i288 z312) fun k289 => chk (inB i259 p1.length) <|
 bnd (p1.getD (i259).toNat api_Summary_z) fun x292 =>
 br ((x292.gSerial == p0.gCert.gSerial)) (
 chk (imp (!(!i255)) (inB i259 p1.length)) <|
 jn (fun (i300 : Int) => chk (imp (!i257) (inB i259 p1.length)) <|
 chk (imp (!i258) (inB i259 p1.length)) <|
 k289 true i300 (i257 || (p1.getD (i259).toNat api_Summary_z).gFrozen) (i258 || (p1.getD (i259).toNat api_Summary_z).gRevoked)) fun k301 => br (((!i255) || (decide ((p1.getD (i259).toNat api_Summary_z).gIndex > i256)))) (
 chk (inB i259 p1.length) <|
 bnd (p1.getD (i259).toNat api_Summary_z) fun x305 =>
 k301 x305.gIndex
 ) (
 k301 i256
 )
 ) (
 k289 i255 i256 i257 i258
 )
 ) (
 k162 i255 i256 i257 i258
 )
def fareboxref20_lacking_l1 (p0 : api_Entry) (p1 : List (api_Summary)) (k162 : (Bool) → (Int) → (Bool) → (Bool) → Option (Bool)) : Nat → (Bool) → (Int) → (Bool) → (Bool) → (Int) → Option (Bool)
  | 0, _, _, _, _, _ => none
  | n + 1, i255, i256, i257, i258, i259 => fareboxref20_lacking_b1 p0 p1 k162 (fareboxref20_lacking_l1 p0 p1 k162 n) i255 i256 i257 i258 i259
def fareboxref20_lacking (p0 : api_Entry) (p1 : List (api_Summary)) : Option (Bool) :=
 jn (fun (i158 : Bool) (i159 : Int) (i160 : Bool) (i161 : Bool) => some ((((!i158) || (decide (i159 < p0.gIndex))) || (p0.gFrozen && (!i160))) || (p0.gRevoked && (!i161)))) fun k162 => fareboxref20_lacking_l1 p0 p1 k162 big false 0 false false 0
theorem fareboxref20_lacking_spec {W : World} {r : Bool} {p0 : api_Entry} {p1 : List (api_Summary)} {v1 : Value} (h : fareboxref20_lacking p0 p1 = some r) (A1 : RdSl E_api_Summary W v1 p1) :
    Calls Try.prog 21 [agg [.one (.int .i64 (p0.gCert.gSerial)), .one (.int .i64 (p0.gCert.gRides)), .one (.int .i64 (p0.gCert.gPrice)), .ints .u8 32 (p0.gCert.gAnchor), .ints .u8 64 (p0.gCert.gSig), .one (.int .i64 (p0.gIndex)), .ints .u8 32 (p0.gValue), .one (.bool (p0.gFrozen)), .ints .u8 64 (p0.gFreeze), .one (.bool (p0.gRevoked)), .ints .u8 64 (p0.gRevoke)], v1].toArray W (ret1 W (.bool (r))) := by
 unfold fareboxref20_lacking at h
 refine calls_val mo ok21 rfl ?_
 refine wc_seq <| wc_ops <| wj_e (ef_bx (s := [.one (.int .i64 (p0.gCert.gSerial)), .one (.int .i64 (p0.gCert.gRides)), .one (.int .i64 (p0.gCert.gPrice)), .ints .u8 32 (p0.gCert.gAnchor), .ints .u8 64 (p0.gCert.gSig), .one (.int .i64 (p0.gIndex)), .ints .u8 32 (p0.gValue), .one (.bool (p0.gFrozen)), .ints .u8 64 (p0.gFreeze), .one (.bool (p0.gRevoked)), .ints .u8 64 (p0.gRevoke)]) rfl fun b2 hb2 => wj_q _ (q_mv rfl) <| wj_nil <| wc_seq <| wc_ops <| wj_q _ (q_mv rfl) <| wj_nil <| wc_seq <| wc_ops <| wj_q _ (q_mv rfl) <| wj_nil <| wc_seq <| wc_ops <| wj_q _ (q_mv rfl) <| wj_nil <| wc_seq <| wc_ops <| wj_q _ (q_mv rfl) <| wj_nil <| wc_seq <| wc_seq <| wc_ops <| wj_q _ (q_mv rfl) <| wj_nil <| jH h fun k162 qk162 h => wc_mono2 (G := fun t m => ∃ (i158 : Bool) (i159 : Int) (i160 : Bool) (i161 : Bool), k162 i158 i159 i160 i161 = some r ∧ Fit [(2, .pointer (some ⟨b2, 0, none⟩)), (5, .bool (i158)), (6, .int .i64 (i159)), (7, .bool (i160)), (8, .bool (i161))] (ck b2 45 [.one (.int .i64 (p0.gCert.gSerial)), .one (.int .i64 (p0.gCert.gRides)), .one (.int .i64 (p0.gCert.gPrice)), .ints .u8 32 (p0.gCert.gAnchor), .ints .u8 64 (p0.gCert.gSig), .one (.int .i64 (p0.gIndex)), .ints .u8 32 (p0.gValue), .one (.bool (p0.gFrozen)), .ints .u8 64 (p0.gFreeze), .one (.bool (p0.gRevoked)), .ints .u8 64 (p0.gRevoke)] :: []) t m) ?_ ?_)
 ·refine wc_block <| wc_loopJ (fun n261 t m => ∃ (i255 : Bool) (i256 : Int) (i257 : Bool) (i258 : Bool) (i259 : Int), fareboxref20_lacking_l1 p0 p1 k162 n261 i255 i256 i257 i258 i259 = some r ∧ Fit [(1, v1), (2, .pointer (some ⟨b2, 0, none⟩)), (5, .bool (i255)), (6, .int .i64 (i256)), (7, .bool (i257)), (8, .bool (i258)), (9, .int .i64 (i259))] (ck b2 45 [.one (.int .i64 (p0.gCert.gSerial)), .one (.int .i64 (p0.gCert.gRides)), .one (.int .i64 (p0.gCert.gPrice)), .ints .u8 32 (p0.gCert.gAnchor), .ints .u8 64 (p0.gCert.gSig), .one (.int .i64 (p0.gIndex)), .ints .u8 32 (p0.gValue), .one (.bool (p0.gFrozen)), .ints .u8 64 (p0.gFreeze), .one (.bool (p0.gRevoked)), .ints .u8 64 (p0.gRevoke)] :: []) t m) big ?_ ?_
  ·exact ⟨false, 0, false, false, 0, h, ⟨⟨rfl, rfl, rfl, rfl, rfl, rfl, rfl, trivial⟩, (.one .here .nil)⟩⟩
  ·rintro n261 t m ⟨i255, i256, i257, i258, i259, h, hF⟩
   refine wc_fit hF ?_
   clear hF
   rcases n261 with _ | n261
   · exact none_i h
   have h : fareboxref20_lacking_b1 p0 p1 k162 (fareboxref20_lacking_l1 p0 p1 k162 n261) i255 i256 i257 i258 i259 = some r := h
   unfold fareboxref20_lacking_b1 at h
   obtain ⟨k260, qk260⟩ : ∃ k, k = fareboxref20_lacking_l1 p0 p1 k162 n261 := ⟨_, rfl⟩
   try rw [← qk260] at h
   refine wc_seq <| wc_seq <| wc_ops <| wj_q _ (q_mv rfl) <| wj_q _ (q_mv rfl) <| wj_q _ (q_lenP rfl (Shp.rd A1)) <| wj_q _ (q_bin rfl rfl rfl) <| wj_nil <| wc_br h rfl (fun h => ?_) (fun h => ?_)
   ·refine wc_skip <| wc_seq <| jH h fun k289 qk289 h => wc_mono2 (G := fun t m => ∃ (i285 : Bool) (i286 : Int) (i287 : Bool) (i288 : Bool), k289 i285 i286 i287 i288 = some r ∧ Fit [(1, v1), (2, .pointer (some ⟨b2, 0, none⟩)), (5, .bool (i285)), (6, .int .i64 (i286)), (7, .bool (i287)), (8, .bool (i288)), (9, .int .i64 (i259))] (ck b2 45 [.one (.int .i64 (p0.gCert.gSerial)), .one (.int .i64 (p0.gCert.gRides)), .one (.int .i64 (p0.gCert.gPrice)), .ints .u8 32 (p0.gCert.gAnchor), .ints .u8 64 (p0.gCert.gSig), .one (.int .i64 (p0.gIndex)), .ints .u8 32 (p0.gValue), .one (.bool (p0.gFrozen)), .ints .u8 64 (p0.gFreeze), .one (.bool (p0.gRevoked)), .ints .u8 64 (p0.gRevoke)] :: []) t m) ?_ ?_
    ·refine wc_block <| wc_seq <| cH h fun c291 h => bH h fun x292 ex292 h => wc_draw <| ws_p1 _ (q_mv rfl) <| ws_p1 _ (q_mv rfl) <| ws_p1 _ (q_iasP rfl rfl (Shp.rd A1) c291) <| ws_p1 _ (q_fa rfl) <| ws_p1 _ (q_fa rfl) <| ws_p1 _ (q_fa rfl) <| ws_q1 _ (az (fun (x292 : api_Summary) => .int .i64 (x292.gSerial)) ex292 (q_ldM1 (E := E_api_Summary) (s := [.one (.int .i64 (((p1.getD (i259).toNat api_Summary_z)).gSerial)), .one (.int .i64 (((p1.getD (i259).toNat api_Summary_z)).gIndex)), .one (.bool (((p1.getD (i259).toNat api_Summary_z)).gFrozen)), .one (.bool (((p1.getD (i259).toNat api_Summary_z)).gRevoked))]) (c := 0) rfl (rd_arg A1 apart0) (inB_n c291) rfl rfl)) <| ws_q1 _ (q_ld1 rfl .here rfl) <| ws_p1 _ (q_bin rfl rfl rfl) <| ws_nil <| wc_br h rfl (fun h => ?_) (fun h => ?_)
     ·refine wc_seq <| wc_seq <| cH h fun c295 h => wc_ops <| wj_q _ (q_mv rfl) <| wj_q _ (q_un rfl rfl) <| wj_q _ (q_mv rfl) <| wj_or rfl rfl rfl (fun hg1 => qj_g rfl _ (q_mv rfl) (qj_g rfl _ (q_mv rfl) (qj_g rfl _ (q_iasP rfl rfl (Shp.rd A1) (imp_f c295 hg1)) (qj_g rfl _ (q_fa rfl) (qj_g rfl _ (az (fun (zz : api_Summary) => .int .i64 (zz.gIndex)) rfl (q_ldM1 (E := E_api_Summary) (s := [.one (.int .i64 (((p1.getD (i259).toNat api_Summary_z)).gSerial)), .one (.int .i64 (((p1.getD (i259).toNat api_Summary_z)).gIndex)), .one (.bool (((p1.getD (i259).toNat api_Summary_z)).gFrozen)), .one (.bool (((p1.getD (i259).toNat api_Summary_z)).gRevoked))]) (c := 1) rfl (rd_arg A1 apart0) (inB_n (imp_f c295 hg1)) rfl rfl)) (qj_g rfl _ (q_mv rfl) (qj_g rfl _ (q_bin rfl rfl rfl) (qj_nil)))))))) (fun hg1 => rfl) rfl <| wj_nil <| jH h fun k301 qk301 h => wc_mono2 (G := fun t m => ∃ (i300 : Int), k301 i300 = some r ∧ Fit [(1, v1), (2, .pointer (some ⟨b2, 0, none⟩)), (6, .int .i64 (i300)), (7, .bool (i257)), (8, .bool (i258)), (9, .int .i64 (i259))] (ck b2 45 [.one (.int .i64 (p0.gCert.gSerial)), .one (.int .i64 (p0.gCert.gRides)), .one (.int .i64 (p0.gCert.gPrice)), .ints .u8 32 (p0.gCert.gAnchor), .ints .u8 64 (p0.gCert.gSig), .one (.int .i64 (p0.gIndex)), .ints .u8 32 (p0.gValue), .one (.bool (p0.gFrozen)), .ints .u8 64 (p0.gFreeze), .one (.bool (p0.gRevoked)), .ints .u8 64 (p0.gRevoke)] :: []) t m) ?_ ?_
      ·refine wc_br h rfl (fun h => ?_) (fun h => ?_)
       ·exact cH h fun c304 h => bH h fun x305 ex305 h => wc_ops <| wj_q _ (q_mv rfl) <| wj_q _ (q_mv rfl) <| wj_q _ (q_iasP rfl rfl (Shp.rd A1) c304) <| wj_q _ (q_fa rfl) <| wj_q _ (az (fun (x305 : api_Summary) => .int .i64 (x305.gIndex)) ex305 (q_ldM1 (E := E_api_Summary) (s := [.one (.int .i64 (((p1.getD (i259).toNat api_Summary_z)).gSerial)), .one (.int .i64 (((p1.getD (i259).toNat api_Summary_z)).gIndex)), .one (.bool (((p1.getD (i259).toNat api_Summary_z)).gFrozen)), .one (.bool (((p1.getD (i259).toNat api_Summary_z)).gRevoked))]) (c := 1) rfl (rd_arg A1 apart0) (inB_n c304) rfl rfl)) <| wj_q _ (q_mv rfl) <| wj_nil <| ⟨x305.gIndex, h, ⟨⟨rfl, rfl, rfl, rfl, rfl, rfl, trivial⟩, (.one .here .nil)⟩⟩
       ·exact wc_skip <| ⟨i256, h, ⟨⟨rfl, rfl, rfl, rfl, rfl, rfl, trivial⟩, (.one .here .nil)⟩⟩
      ·rintro t m ⟨i300, h, hF⟩
       refine wc_fit hF ?_
       clear hF
       subst qk301
       exact wc_seq <| wc_ops <| wj_q _ (q_mv rfl) <| wj_nil <| wc_seq <| cH h fun c308 h => wc_ops <| wj_q _ (q_mv rfl) <| wj_q _ (q_mv rfl) <| wj_or rfl rfl rfl (fun hg1 => qj_g rfl _ (q_mv rfl) (qj_g rfl _ (q_mv rfl) (qj_g rfl _ (q_iasP rfl rfl (Shp.rd A1) (imp_f c308 hg1)) (qj_g rfl _ (q_fa rfl) (qj_g rfl _ (az (fun (zz : api_Summary) => .bool (zz.gFrozen)) rfl (q_ldM1 (E := E_api_Summary) (s := [.one (.int .i64 (((p1.getD (i259).toNat api_Summary_z)).gSerial)), .one (.int .i64 (((p1.getD (i259).toNat api_Summary_z)).gIndex)), .one (.bool (((p1.getD (i259).toNat api_Summary_z)).gFrozen)), .one (.bool (((p1.getD (i259).toNat api_Summary_z)).gRevoked))]) (c := 2) rfl (rd_arg A1 apart0) (inB_n (imp_f c308 hg1)) rfl rfl)) (qj_nil)))))) (fun hg1 => rfl) rfl <| wj_q _ (q_mv rfl) <| wj_nil <| cH h fun c310 h => wc_ops <| wj_q _ (q_mv rfl) <| wj_q _ (q_mv rfl) <| wj_or rfl rfl rfl (fun hg1 => qj_g rfl _ (q_mv rfl) (qj_g rfl _ (q_mv rfl) (qj_g rfl _ (q_iasP rfl rfl (Shp.rd A1) (imp_f c310 hg1)) (qj_g rfl _ (q_fa rfl) (qj_g rfl _ (az (fun (zz : api_Summary) => .bool (zz.gRevoked)) rfl (q_ldM1 (E := E_api_Summary) (s := [.one (.int .i64 (((p1.getD (i259).toNat api_Summary_z)).gSerial)), .one (.int .i64 (((p1.getD (i259).toNat api_Summary_z)).gIndex)), .one (.bool (((p1.getD (i259).toNat api_Summary_z)).gFrozen)), .one (.bool (((p1.getD (i259).toNat api_Summary_z)).gRevoked))]) (c := 3) rfl (rd_arg A1 apart0) (inB_n (imp_f c310 hg1)) rfl rfl)) (qj_nil)))))) (fun hg1 => rfl) rfl <| wj_q _ (q_mv rfl) <| wj_nil <| ⟨true, i300, (i257 || (p1.getD (i259).toNat api_Summary_z).gFrozen), (i258 || (p1.getD (i259).toNat api_Summary_z).gRevoked), h, ⟨⟨rfl, rfl, rfl, rfl, rfl, rfl, rfl, trivial⟩, (.one .here .nil)⟩⟩
     ·exact wc_skip <| ⟨i255, i256, i257, i258, h, ⟨⟨rfl, rfl, rfl, rfl, rfl, rfl, rfl, trivial⟩, (.one .here .nil)⟩⟩
    ·rintro t m ⟨i285, i286, i287, i288, h, hF⟩
     refine wc_fit hF ?_
     clear hF
     subst qk289
     refine bH h fun z312 ez312 h => wc_ops <| wj_q _ (q_mv rfl) <| wj_q _ (iz ez312 (q_bin rfl rfl rfl)) <| wj_q _ (q_mv rfl) <| wj_nil ?_
     rw [qk260] at h
     exact ⟨n261, Nat.lt_succ_self _, i285, i286, i287, i288, z312, h, ⟨⟨rfl, rfl, rfl, rfl, rfl, rfl, rfl, trivial⟩, (.one .here .nil)⟩⟩
   ·exact wc_exit _ rfl <| ⟨i255, i256, i257, i258, h, ⟨⟨rfl, rfl, rfl, rfl, rfl, trivial⟩, (.one .here .nil)⟩⟩
 ·rintro t m ⟨i158, i159, i160, i161, h, hF⟩
  refine wc_fit hF ?_
  clear hF
  subst qk162
  refine wc_seq <| wc_ops <| wj_q _ (q_mv rfl) <| wj_q _ (q_un rfl rfl) <| wj_q _ (q_mv rfl) <| wj_or rfl rfl rfl (fun hg1 => qj_g rfl _ (q_mv rfl) (qj_g rfl _ (q_fa rfl) (qj_g rfl _ (q_ld1 rfl .here rfl) (qj_g rfl _ (q_bin rfl rfl rfl) (qj_nil))))) (fun hg1 => rfl) rfl <| wj_q _ (q_mv rfl) <| wj_or rfl rfl rfl (fun hg1 => qj_g rfl _ (q_fa rfl) (qj_g rfl _ (q_ld1 rfl .here rfl) (qj_g rfl _ (q_mv rfl) (qj_and rfl (fun _ h => by cases h; rfl) rfl rfl (fun hg2 => qj_g rfl _ (q_mv rfl) (qj_g rfl _ (q_un rfl rfl) (qj_nil))) (fun hg2 => rfl) rfl (qj_nil))))) (fun hg1 => rfl) rfl <| wj_q _ (q_mv rfl) <| wj_or rfl rfl rfl (fun hg1 => qj_g rfl _ (q_fa rfl) (qj_g rfl _ (q_ld1 rfl .here rfl) (qj_g rfl _ (q_mv rfl) (qj_and rfl (fun _ h => by cases h; rfl) rfl rfl (fun hg2 => qj_g rfl _ (q_mv rfl) (qj_g rfl _ (q_un rfl rfl) (qj_nil))) (fun hg2 => rfl) rfl (qj_nil))))) (fun hg1 => rfl) rfl <| wj_q _ (q_mv rfl) <| wj_nil <| wc_ret ?_
  revert h; refine ret_i fun h => ?_
  subst h
  exact ⟨_, (.cons (.tmp rfl) .nil), rfl⟩
/- farebox/fareboxref20.Lacks -/
def fareboxref20_Lacks_b1 (p0 : api_GateState) (p1 : List (api_Summary)) (k143 : (List (api_Entry)) → Option ((List (api_Entry)))) (k235 : (List (api_Entry)) → (Int) → Option ((List (api_Entry)))) (l232 : List (api_Entry)) (i234 : Int) : Option ((List (api_Entry))) :=
 br ((decide (i234 < (p0.gRows.length : Int)))) (
 jn (fun (l257 : List (api_Entry)) => bnd (IntKind.wrap .i64 (i234 + 1)) fun z277 =>
 k235 l257 z277) fun k259 => chk (inB i234 p0.gRows.length) <|
 bnd (p0.gRows.getD (i234).toNat api_Entry_z) fun x262 =>
 opt (fareboxref20_lacking x262 p1) fun y263 =>
 br (y263) (
 chk (inB i234 p0.gRows.length) <|
 bnd (p0.gRows.getD (i234).toNat api_Entry_z) fun x267 =>
 chk (decide ((l232.length + ([x267] : List (api_Entry)).length) * 296 ≤ 140737488355328)) <|
 bnd (l232 ++ ([x267] : List (api_Entry))) fun l272 =>
 k259 l272
 ) (
 k259 l232
 )
 ) (
 k143 l232
 )
def fareboxref20_Lacks_l1 (p0 : api_GateState) (p1 : List (api_Summary)) (k143 : (List (api_Entry)) → Option ((List (api_Entry)))) : Nat → (List (api_Entry)) → (Int) → Option ((List (api_Entry)))
  | 0, _, _ => none
  | n + 1, l232, i234 => fareboxref20_Lacks_b1 p0 p1 k143 (fareboxref20_Lacks_l1 p0 p1 k143 n) l232 i234
def fareboxref20_Lacks (p0 : api_GateState) (p1 : List (api_Summary)) : Option ((List (api_Entry))) :=
 jn (fun (l141 : List (api_Entry)) => some l141) fun k143 => fareboxref20_Lacks_l1 p0 p1 k143 big [] 0
theorem fareboxref20_Lacks_spec {W : World} {r : (List (api_Entry))} {p0 : api_GateState} {p1 : List (api_Summary)} {v0_0 : Value} {v1 : Value} (h : fareboxref20_Lacks p0 p1 = some r) (A0_0 : RdSl E_api_Entry W v0_0 p0.gRows) (A1 : RdSl E_api_Summary W v1 p1) :
    Calls Try.prog 11 [agg [.one (.int .i64 (p0.gFloor.gFloor)), .ints .u8 64 (p0.gFloor.gSig), .one (.int .i64 (p0.gAccepted)), .one (v0_0)], v1].toArray W (retS W [] (fun v Ms => ∃ (u0 : Value) (M0 : List Chunk), v = u0 ∧ Ms = [.all M0] ∧ OwnSl E_api_Entry u0 M0 r)) := by
 unfold fareboxref20_Lacks at h
 refine calls_memT mo ok11 rfl (sat0 _) ?_
 refine wc_seq <| wc_ops <| wj_e (ef_bx (s := [.one (.int .i64 (p0.gFloor.gFloor)), .ints .u8 64 (p0.gFloor.gSig), .one (.int .i64 (p0.gAccepted)), .one (v0_0)]) rfl fun b2 hb2 => wj_q _ (q_mv rfl) <| wj_nil <| wc_seq <| wc_ops <| wj_q _ (q_mv rfl) <| wj_nil <| wc_seq <| wc_seq <| wc_ops <| wj_q _ (q_mv rfl) <| wj_nil <| jH h fun k143 qk143 h => wc_mono2 (G := fun t m => ∃ (l141 : List (api_Entry)) (v139 : Value) (ms140 : List Chunk), k143 l141 = some r ∧ OwnSl E_api_Entry v139 ms140 l141 ∧ Fit [(5, v139)] (ck b2 30 [.one (.int .i64 (p0.gFloor.gFloor)), .ints .u8 64 (p0.gFloor.gSig), .one (.int .i64 (p0.gAccepted)), .one (v0_0)] :: (ms140 ++ [])) t m) ?_ ?_)
 ·refine wc_block <| wc_loopJ (fun n236 t m => ∃ (l232 : List (api_Entry)) (i234 : Int) (v230 : Value) (ms231 : List Chunk), fareboxref20_Lacks_l1 p0 p1 k143 n236 l232 i234 = some r ∧ OwnSl E_api_Entry v230 ms231 l232 ∧ Fit [(1, v1), (2, .pointer (some ⟨b2, 0, none⟩)), (5, v230), (6, .int .i64 (i234))] (ck b2 30 [.one (.int .i64 (p0.gFloor.gFloor)), .ints .u8 64 (p0.gFloor.gSig), .one (.int .i64 (p0.gAccepted)), .one (v0_0)] :: (ms231 ++ [])) t m) big ?_ ?_
  ·exact ⟨[], 0, (.slice none 0 0), [], h, own_nil, ⟨⟨rfl, rfl, rfl, rfl, trivial⟩, (.one .here (.no .nil))⟩⟩
  ·rintro n236 t m ⟨l232, i234, v230, ms231, h, O233, hF⟩
   refine wc_fit hF ?_
   clear hF
   rcases n236 with _ | n236
   · exact none_i h
   have h : fareboxref20_Lacks_b1 p0 p1 k143 (fareboxref20_Lacks_l1 p0 p1 k143 n236) l232 i234 = some r := h
   unfold fareboxref20_Lacks_b1 at h
   obtain ⟨k235, qk235⟩ : ∃ k, k = fareboxref20_Lacks_l1 p0 p1 k143 n236 := ⟨_, rfl⟩
   try rw [← qk235] at h
   refine wc_seq <| wc_seq <| wc_ops <| wj_q _ (q_mv rfl) <| wj_q _ (q_fa rfl) <| wj_q _ (q_ld1 rfl .here rfl) <| wj_q _ (q_lenP rfl (Shp.rd A0_0)) <| wj_q _ (q_bin rfl rfl rfl) <| wj_nil <| wc_br h rfl (fun h => ?_) (fun h => ?_)
   ·refine wc_skip <| wc_seq <| jH h fun k259 qk259 h => wc_mono2 (G := fun t m => ∃ (l257 : List (api_Entry)) (v255 : Value) (ms256 : List Chunk), k259 l257 = some r ∧ OwnSl E_api_Entry v255 ms256 l257 ∧ Fit [(1, v1), (2, .pointer (some ⟨b2, 0, none⟩)), (5, v255), (6, .int .i64 (i234))] (ck b2 30 [.one (.int .i64 (p0.gFloor.gFloor)), .ints .u8 64 (p0.gFloor.gSig), .one (.int .i64 (p0.gAccepted)), .one (v0_0)] :: (ms256 ++ [])) t m) ?_ ?_
    ·refine wc_block <| wc_seq <| cH h fun c261 h => bH h fun x262 ex262 h => oH h fun y263 ey263 h => wc_ops <| wj_q _ (q_fa rfl) <| wj_q _ (q_ld1 rfl .here rfl) <| wj_q _ (q_mv rfl) <| wj_q _ (q_iasP rfl rfl (Shp.rd A0_0) c261) <| wj_q _ (az (fun (x262 : api_Entry) => agg [.one (.int .i64 (x262.gCert.gSerial)), .one (.int .i64 (x262.gCert.gRides)), .one (.int .i64 (x262.gCert.gPrice)), .ints .u8 32 (x262.gCert.gAnchor), .ints .u8 64 (x262.gCert.gSig), .one (.int .i64 (x262.gIndex)), .ints .u8 32 (x262.gValue), .one (.bool (x262.gFrozen)), .ints .u8 64 (x262.gFreeze), .one (.bool (x262.gRevoked)), .ints .u8 64 (x262.gRevoke)]) ex262 (q_ldM0 (E := E_api_Entry) (s := [.one (.int .i64 ((((p0.gRows.getD (i234).toNat api_Entry_z)).gCert).gSerial)), .one (.int .i64 ((((p0.gRows.getD (i234).toNat api_Entry_z)).gCert).gRides)), .one (.int .i64 ((((p0.gRows.getD (i234).toNat api_Entry_z)).gCert).gPrice)), .ints .u8 32 ((((p0.gRows.getD (i234).toNat api_Entry_z)).gCert).gAnchor), .ints .u8 64 ((((p0.gRows.getD (i234).toNat api_Entry_z)).gCert).gSig), .one (.int .i64 (((p0.gRows.getD (i234).toNat api_Entry_z)).gIndex)), .ints .u8 32 (((p0.gRows.getD (i234).toNat api_Entry_z)).gValue), .one (.bool (((p0.gRows.getD (i234).toNat api_Entry_z)).gFrozen)), .ints .u8 64 (((p0.gRows.getD (i234).toNat api_Entry_z)).gFreeze), .one (.bool (((p0.gRows.getD (i234).toNat api_Entry_z)).gRevoked)), .ints .u8 64 (((p0.gRows.getD (i234).toNat api_Entry_z)).gRevoke)]) rfl (rd_arg A0_0 apart0) (inB_n c261) rfl rfl)) <| wj_q _ (q_mv rfl) <| wj_q _ (q_call rfl (fun w hw => fareboxref20_lacking_spec ey263 ((rd_arg A1 apart0) w hw))) <| wj_nil <| wc_br h rfl (fun h => ?_) (fun h => ?_)
     ·exact cH h fun c266 h => bH h fun x267 ex267 h => cH h fun c271 h => bH h fun l272 el272 h => wc_ops <| wj_q _ (q_mv rfl) <| wj_q _ (q_fa rfl) <| wj_q _ (q_ld1 rfl .here rfl) <| wj_q _ (q_mv rfl) <| wj_q _ (q_iasP rfl rfl (Shp.rd A0_0) c266) <| wj_q _ (az (fun (x267 : api_Entry) => agg [.one (.int .i64 (x267.gCert.gSerial)), .one (.int .i64 (x267.gCert.gRides)), .one (.int .i64 (x267.gCert.gPrice)), .ints .u8 32 (x267.gCert.gAnchor), .ints .u8 64 (x267.gCert.gSig), .one (.int .i64 (x267.gIndex)), .ints .u8 32 (x267.gValue), .one (.bool (x267.gFrozen)), .ints .u8 64 (x267.gFreeze), .one (.bool (x267.gRevoked)), .ints .u8 64 (x267.gRevoke)]) ex267 (q_ldM0 (E := E_api_Entry) (s := [.one (.int .i64 ((((p0.gRows.getD (i234).toNat api_Entry_z)).gCert).gSerial)), .one (.int .i64 ((((p0.gRows.getD (i234).toNat api_Entry_z)).gCert).gRides)), .one (.int .i64 ((((p0.gRows.getD (i234).toNat api_Entry_z)).gCert).gPrice)), .ints .u8 32 ((((p0.gRows.getD (i234).toNat api_Entry_z)).gCert).gAnchor), .ints .u8 64 ((((p0.gRows.getD (i234).toNat api_Entry_z)).gCert).gSig), .one (.int .i64 (((p0.gRows.getD (i234).toNat api_Entry_z)).gIndex)), .ints .u8 32 (((p0.gRows.getD (i234).toNat api_Entry_z)).gValue), .one (.bool (((p0.gRows.getD (i234).toNat api_Entry_z)).gFrozen)), .ints .u8 64 (((p0.gRows.getD (i234).toNat api_Entry_z)).gFreeze), .one (.bool (((p0.gRows.getD (i234).toNat api_Entry_z)).gRevoked)), .ints .u8 64 (((p0.gRows.getD (i234).toNat api_Entry_z)).gRevoke)]) rfl (rd_arg A0_0 apart0) (inB_n c266) rfl rfl)) <| wj_e (ef_bsO (E := E_api_Entry) (xs := [x267]) (BdR.whole (p := [.one (.int .i64 (x267.gCert.gSerial)), .one (.int .i64 (x267.gCert.gRides)), .one (.int .i64 (x267.gCert.gPrice)), .ints .u8 32 (x267.gCert.gAnchor), .ints .u8 64 (x267.gCert.gSig), .one (.int .i64 (x267.gIndex)), .ints .u8 32 (x267.gValue), .one (.bool (x267.gFrozen)), .ints .u8 64 (x267.gFreeze), .one (.bool (x267.gRevoked)), .ints .u8 64 (x267.gRevoke)]) rfl (by kernel_rfl) (by kernel_rfl)) (.cons (p := [.one (.int .i64 (x267.gCert.gSerial)), .one (.int .i64 (x267.gCert.gRides)), .one (.int .i64 (x267.gCert.gPrice)), .ints .u8 32 (x267.gCert.gAnchor), .ints .u8 64 (x267.gCert.gSig), .one (.int .i64 (x267.gIndex)), .ints .u8 32 (x267.gValue), .one (.bool (x267.gFrozen)), .ints .u8 64 (x267.gFreeze), .one (.bool (x267.gRevoked)), .ints .u8 64 (x267.gRevoke)]) rfl .nil) rfl fun v268 ms269 O270 => wj_e (ef_appO (E := E_api_Entry) el272 rfl O233 (.app (.there .here)) rfl (rd_own O270 .here) c271 fun v273 ms274 O275 => wj_q _ (q_mv rfl) <| wj_nil <| ⟨l272, v273, ms274, h, O275, ⟨⟨rfl, rfl, rfl, rfl, trivial⟩, (.one (.app (.app .here)) (.all .here .nil))⟩⟩))
     ·exact wc_skip <| ⟨l232, v230, ms231, h, O233, ⟨⟨rfl, rfl, rfl, rfl, trivial⟩, (.one .here (.all .here .nil))⟩⟩
    ·rintro t m ⟨l257, v255, ms256, h, O258, hF⟩
     refine wc_fit hF ?_
     clear hF
     subst qk259
     refine bH h fun z277 ez277 h => wc_ops <| wj_q _ (q_mv rfl) <| wj_q _ (iz ez277 (q_bin rfl rfl rfl)) <| wj_q _ (q_mv rfl) <| wj_nil ?_
     rw [qk235] at h
     exact ⟨n236, Nat.lt_succ_self _, l257, z277, v255, ms256, h, O258, ⟨⟨rfl, rfl, rfl, rfl, trivial⟩, (.one .here (.all .here .nil))⟩⟩
   ·exact wc_exit _ rfl <| ⟨l232, v230, ms231, h, O233, ⟨⟨rfl, trivial⟩, (.one .here (.all .here .nil))⟩⟩
 ·rintro t m ⟨l141, v139, ms140, h, O142, hF⟩
  refine wc_fit hF ?_
  clear hF
  subst qk143
  refine wc_seq <| wc_ops <| wj_q _ (q_mv rfl) <| wj_q _ (q_mv rfl) <| wj_nil <| wc_ret ?_
  revert h; refine ret_i fun h => ?_
  subst h
  exact ⟨_, _, (.cons (.tmp rfl) .nil), (.all (.there .here) .nil), ⟨_, rfl, ⟨v139, ms140, rfl, rfl, O142⟩⟩⟩
end Go.Proofs.Ytaebomfgmadilaa
