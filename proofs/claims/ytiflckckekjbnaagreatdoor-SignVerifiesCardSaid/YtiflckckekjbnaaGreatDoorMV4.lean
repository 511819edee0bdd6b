/- Texts of a proof, one behind the other: L2 L3 L4 L5 L6 L7. -/
import Derived.Test.YtiflckckekjbnaaGreatDoorMV3
namespace Go.Proofs.YtiflckckekjbnaaGreatDoor
open Go Go.Sx Go.RowKit
set_option linter.all false
set_option maxHeartbeats 400000
set_option maxRecDepth 100000
def sha512_Digest_Write_b1 (z3:Int) (k44:(List (Int))→(List Int)→(List Int)→(Int)→Option (sha512_Digest)) (l39:List (Int)) (a41:List Int) (a42:List Int) (i43:Int):Option (sha512_Digest) :=
 br ((decide ((l39.length:Int)>0))) (
 chk (cutB i43 128 128) <|
 bnd (wr a42 (i43).toNat (l39.take (128-(i43).toNat))) fun l50 =>
 chk (cutB ((Nat.min l39.length (128-(i43).toNat):Nat):Int) (l39.length:Int) l39.length) <|
 bnd (IntKind.wrap .i64 (i43+((Nat.min l39.length (128-(i43).toNat):Nat):Int))) fun z54 =>
 br ((z54==128)) (
 opt (sha512_Block a41 l50) fun y58 =>
 k44 ((l39.drop (((Nat.min l39.length (128-(i43).toNat):Nat):Int)).toNat).take (((l39.length:Int)).toNat-(((Nat.min l39.length (128-(i43).toNat):Nat):Int)).toNat)) y58 l50 0
 ) (
 k44 ((l39.drop (((Nat.min l39.length (128-(i43).toNat):Nat):Int)).toNat).take (((l39.length:Int)).toNat-(((Nat.min l39.length (128-(i43).toNat):Nat):Int)).toNat)) a41 l50 z54
 )
 ) (
 some (⟨a41,a42,i43,z3⟩:sha512_Digest)
 )
def sha512_Digest_Write_l1 (z3:Int):Nat→(List (Int))→(List Int)→(List Int)→(Int)→Option (sha512_Digest)
  | 0,_,_,_,_=>none
  | n+1,l39,a41,a42,i43=>sha512_Digest_Write_b1 z3 (sha512_Digest_Write_l1 z3 n) l39 a41 a42 i43
def sha512_Digest_Write (p0:sha512_Digest) (p1:List Int):Option (sha512_Digest) :=
 bnd (IntKind.wrap .u64 (p1.length:Int)) fun z2 =>
 bnd (IntKind.wrap .u64 (p0.glength+z2)) fun z3 =>
 sha512_Digest_Write_l1 z3 big p1 p0.gstate p0.gheld p0.ghave
theorem sha512_Digest_Write_spec {W:World} {r:sha512_Digest} {p0:sha512_Digest} {p1:List Int} {v1:Value} {b:Nat} {T:TypeId} (h:sha512_Digest_Write p0 p1=some r) (h0:Sat W [b] (ck b T [.ints .u64 8 (p0.gstate),.ints .u8 128 (p0.gheld),.one (.int .i64 (p0.ghave)),.one (.int .u64 (p0.glength))] :: []) W) (hG:Globs W) (hS : ∀ g,g<ng→g ∉ [b]) (A1:RdSl (El.int .u8) W v1 p1∧Apart v1 p1 [b]) :
    Calls Tryz.prog 97 [.pointer (some ⟨b,0,none⟩),v1].toArray W (retS W [b] (fun v Ms=>v = .tuple #[]∧Ms = [.one (ck b T [.ints .u64 8 (r.gstate),.ints .u8 128 (r.gheld),.one (.int .i64 (r.ghave)),.one (.int .u64 (r.glength))])])):=by
 unfold sha512_Digest_Write at h
 refine calls_memT mo ok97 rfl h0 ?_
 refine wc_seq<|bH h fun z2 ez2 h=>bH h fun z3 ez3 h=>wc_ops<|wj_m rfl<|wj_q _ (q_nilc rfl)<|wj_q _ (q_fa rfl)<|wj_q _ (q_ld1 rfl .here rfl)<|wj_m rfl<|wj_q _ (q_lenP rfl (Shp.rd A1.1))<|wj_q _ (iz ez2 (q_conv rfl))<|wj_q _ (iz ez3 (q_bin rfl rfl rfl))<|wj_q _ (q_nilc rfl)<|wj_q _ (q_fa rfl)<|wj_e (ef_st1 (q:=[.ints .u64 8 (p0.gstate),.ints .u8 128 (p0.gheld),.one (.int .i64 (p0.ghave)),.one (.int .u64 (z3))]) rfl rfl rfl rfl .here<|wj_nil<|wc_block<|wc_loopJ (fun n45 t m=>∃ (l39:List (Int)) (a41:List Int) (a42:List Int) (i43:Int) (v38:Value),sha512_Digest_Write_l1 z3 n45 l39 a41 a42 i43=some r∧(RdSl (El.int .u8) W v38 l39∧Apart v38 l39 [b])∧Fit [(0,.pointer (some ⟨b,0,none⟩)),(1,v38)] (ck b T [.ints .u64 8 (a41),.ints .u8 128 (a42),.one (.int .i64 (i43)),.one (.int .u64 (z3))] :: []) t m) big ?_ ?_)
 ·exact ⟨p1,p0.gstate,p0.gheld,p0.ghave,v1,h,A1,⟨⟨rfl,rfl,trivial⟩,(.one .here .nil)⟩⟩
 ·rintro n45 t m ⟨l39,a41,a42,i43,v38,h,A40,hF⟩
  refine wc_fit hF ?_
  clear hF
  rcases n45 with _ | n45
  · exact none_i h
  have h:sha512_Digest_Write_b1 z3 (sha512_Digest_Write_l1 z3 n45) l39 a41 a42 i43=some r:=h
  unfold sha512_Digest_Write_b1 at h
  obtain ⟨k44,qk44⟩ : ∃ k,k=sha512_Digest_Write_l1 z3 n45:=⟨_,rfl⟩
  try rw [← qk44] at h
  refine wc_seq<|wc_seq<|wc_ops<|wj_m rfl<|wj_q _ (q_lenP rfl (Shp.rd A40.1))<|wj_q _ (q_bin rfl rfl rfl)<|wj_nil<|wc_br h rfl (fun h=>?_) (fun h=>?_)
  ·refine wc_skip<|wc_block<|wc_seq<|cH h fun c49 h=>bH h fun l50 el50 h=>wc_draw<|ws_p1 _ (q_mv rfl)<|ws_p1 _ (q_nilc rfl)<|ws_p1 _ (q_fa rfl)<|ws_p1 _ (q_mv rfl)<|ws_p1 _ (q_nilc rfl)<|ws_p1 _ (q_fa rfl)<|ws_p1 _ (q_mv rfl)<|ws_q1 _ (q_ld1 rfl .here rfl)<|ws_p1 _ (q_sla rfl (.yes rfl) .no .no (by simp) (cut4 c49))<|ws_eL rfl (ef_cpyB (q:=[.ints .u64 8 (a41),.ints .u8 128 (l50),.one (.int .i64 (i43)),.one (.int .u64 (z3))]) (lo:=(i43).toNat) (hi:=128) (mz:=128) (base:=8) el50 rfl rfl (rd_arg A40.1 A40.2) rfl (cutn c49) rfl .here<|ws_p1 _ (q_mv rfl)<|ws_nil<|wc_seq<|cH h fun c52 h=>wc_ops<|wj_m rfl<|wj_m rfl<|wj_q _ (q_slsP (lz:=((Nat.min l39.length (128-(i43).toNat):Nat):Int)) (hz:=(l39.length:Int)) rfl (Shp.rd A40.1) (.yes rfl) .no c52)<|wj_m rfl<|wj_nil<|wc_seq<|bH h fun z54 ez54 h=>wc_ops<|wj_m rfl<|wj_q _ (q_nilc rfl)<|wj_q _ (q_fa rfl)<|wj_q _ (q_ld1 rfl .here rfl)<|wj_m rfl<|wj_q _ (iz ez54 (q_bin rfl rfl rfl))<|wj_q _ (q_nilc rfl)<|wj_q _ (q_fa rfl)<|wj_e (ef_st1 (q:=[.ints .u64 8 (a41),.ints .u8 128 (l50),.one (.int .i64 (z54)),.one (.int .u64 (z3))]) rfl rfl rfl rfl .here<|wj_nil<|wc_seq<|wc_ops<|wj_m rfl<|wj_q _ (q_nilc rfl)<|wj_q _ (q_fa rfl)<|wj_q _ (q_ld1 rfl .here rfl)<|wj_q _ (q_bin rfl rfl rfl)<|wj_nil<|wc_br h rfl (fun h=>?_) (fun h=>?_)))
   ·refine wc_seq<|oH h fun y58 ey58 h=>wc_draw<|ws_p1 _ (q_mv rfl)<|ws_p1 _ (q_mv rfl)<|ws_p1 _ (q_nilc rfl)<|ws_p1 _ (q_fa rfl)<|ws_p1 _ (q_mv rfl)<|ws_p1 _ (q_nilc rfl)<|ws_p1 _ (q_fa rfl)<|ws_q1 _ (q_ld (p:=[.ints .u64 8 (a41)]) rfl .here rfl)<|ws_q1 _ (q_ld (p:=[.ints .u8 128 (l50)]) rfl .here rfl)<|ws_p1 _ (q_call rfl (fun w hw=>sha512_Block_spec ey58 (hG.at hw hS)))<|ws_p1 _ (q_nilc rfl)<|ws_p1 _ (q_fa rfl)<|ws_eL rfl (ef_st (q:=[.ints .u64 8 (y58),.ints .u8 128 (l50),.one (.int .i64 (z54)),.one (.int .u64 (z3))]) rfl rfl rfl rfl rfl .here<|ws_nil<|wc_ops<|wj_m rfl<|wj_q _ (q_nilc rfl)<|wj_q _ (q_fa rfl)<|wj_e (ef_st1 (q:=[.ints .u64 8 (y58),.ints .u8 128 (l50),.one (.int .i64 (0)),.one (.int .u64 (z3))]) rfl rfl rfl rfl .here<|wj_nil ?_))
    rw [qk44] at h
    exact ⟨n45,Nat.lt_succ_self _,((l39.drop (((Nat.min l39.length (128-(i43).toNat):Nat):Int)).toNat).take (((l39.length:Int)).toNat-(((Nat.min l39.length (128-(i43).toNat):Nat):Int)).toNat)),y58,l50,0,(cutSl 1 v38 (((Nat.min l39.length (128-(i43).toNat):Nat):Int)).toNat ((l39.length:Int)).toNat),h,(rdcutS A40 (lz:=((Nat.min l39.length (128-(i43).toNat):Nat):Int)) (hz:=(l39.length:Int)) c52),⟨⟨rfl,rfl,trivial⟩,(.one .here .nil)⟩⟩
   ·refine wc_skip ?_
    rw [qk44] at h
    exact ⟨n45,Nat.lt_succ_self _,((l39.drop (((Nat.min l39.length (128-(i43).toNat):Nat):Int)).toNat).take (((l39.length:Int)).toNat-(((Nat.min l39.length (128-(i43).toNat):Nat):Int)).toNat)),a41,l50,z54,(cutSl 1 v38 (((Nat.min l39.length (128-(i43).toNat):Nat):Int)).toNat ((l39.length:Int)).toNat),h,(rdcutS A40 (lz:=((Nat.min l39.length (128-(i43).toNat):Nat):Int)) (hz:=(l39.length:Int)) c52),⟨⟨rfl,rfl,trivial⟩,(.one .here .nil)⟩⟩
  ·refine wc_exit _ rfl ?_
   revert h; refine ret_i fun h=>?_
   subst h
   exact ⟨_,_,.nil,(.one .here .nil),⟨_,rfl,⟨rfl,rfl⟩⟩⟩
def bits_StoreBE_uint64_b1 (k65:(List (Int))→OL) (k102:(Int)→(List (Int))→(Int)→OL) (i96:Int) (l99:List (Int)) (i101:Int):OL :=
 br ((decide (i101≥0))) (
 bnd (IntKind.wrap .u8 i96) fun z107 =>
 chk (inB i101 l99.length) <|
 bnd (setG 0 l99 (i101).toNat z107) fun l109 =>
 bnd (shrV .u64 i96 8) fun z113 =>
 bnd (IntKind.wrap .i64 (i101-1)) fun z115 =>
 k102 z113 l109 z115
 ) (
 k65 l99
 )
def bits_StoreBE_uint64_l1 (k65:(List (Int))→OL):Nat→(Int)→(List (Int))→(Int)→OL
  | 0,_,_,_=>none
  | n+1,i96,l99,i101=>bits_StoreBE_uint64_b1 k65 (bits_StoreBE_uint64_l1 k65 n) i96 l99 i101
def bits_StoreBE_uint64 (p0:Int):OL :=
 opt (bits_width_uint64) fun y3 =>
 bnd (IntKind.wrap .i64 (Int.tdiv y3 8)) fun z4 =>
 chk (mkB 1 z4 z4) <|
 bnd (IntKind.wrap .i64 (((List.replicate (z4).toNat 0:List (Int)).length:Int)-1)) fun z10 =>
 jn (fun (l63:List (Int))=>some l63) fun k65=>bits_StoreBE_uint64_l1 k65 big p0 (List.replicate (z4).toNat 0:List (Int)) z10
theorem bits_StoreBE_uint64_spec {W:World} {r:(List Int)} {p0:Int} (h:bits_StoreBE_uint64 p0=some r)  :
    Calls Tryz.prog 118 [.int .u64 (p0)].toArray W (retS W [] (fun v Ms=>∃ (u0:Value) (M0:List Chunk),v=u0∧Ms = [.all M0]∧OwnSl (El.int .u8) u0 M0 r)):=by
 unfold bits_StoreBE_uint64 at h
 refine calls_memT mo ok118 rfl (sat0 _) ?_
 refine wc_seq<|wc_ops<|wj_m rfl<|wj_nil<|wc_seq<|oH h fun y3 ey3 h=>bH h fun z4 ez4 h=>cH h fun c5 h=>wc_ops<|wj_q _ (q_cl rfl (bits_width_uint64_spec ey3))<|wj_q _ (iz ez4 (q_quo rfl rfl (by decide)))<|wj_e (ef_mksO (E:=(El.int .u8)) rfl rfl rfl c5 fun v6 ms7 O8=>wj_m rfl<|wj_nil<|wc_seq<|wc_seq<|bH h fun z10 ez10 h=>wc_ops<|wj_m rfl<|wj_q _ (q_lenP rfl (Shp.own O8))<|wj_q _ (iz ez10 (q_bin rfl rfl rfl))<|wj_m rfl<|wj_nil<|jH h fun k65 qk65 h=>wc_mono2 (G:=fun t m=>∃ (l63:List (Int)) (v61:Value) (ms62:List Chunk),k65 l63=some r∧OwnSl (El.int .u8) v61 ms62 l63∧Fit [(3,v61)] (ms62 ++ []) t m) ?_ ?_)
 ·refine wc_block<|wc_loopJ (fun n103 t m=>∃ (i96:Int) (l99:List (Int)) (i101:Int) (v97:Value) (ms98:List Chunk),bits_StoreBE_uint64_l1 k65 n103 i96 l99 i101=some r∧OwnSl (El.int .u8) v97 ms98 l99∧Fit [(0,.int .u64 (i96)),(3,v97),(4,.int .i64 (i101))] (ms98 ++ []) t m) big ?_ ?_
  ·exact ⟨p0,(List.replicate (z4).toNat 0:List (Int)),z10,v6,ms7,h,O8,⟨⟨rfl,rfl,rfl,trivial⟩,(.all .here .nil)⟩⟩
  ·rintro n103 t m ⟨i96,l99,i101,v97,ms98,h,O100,hF⟩
   refine wc_fit hF ?_
   clear hF
   rcases n103 with _ | n103
   · exact none_i h
   have h:bits_StoreBE_uint64_b1 k65 (bits_StoreBE_uint64_l1 k65 n103) i96 l99 i101=some r:=h
   unfold bits_StoreBE_uint64_b1 at h
   obtain ⟨k102,qk102⟩ : ∃ k,k=bits_StoreBE_uint64_l1 k65 n103:=⟨_,rfl⟩
   try rw [← qk102] at h
   refine wc_seq<|wc_seq<|wc_ops<|wj_m rfl<|wj_q _ (q_bin rfl rfl rfl)<|wj_nil<|wc_br h rfl (fun h=>?_) (fun h=>?_)
   ·refine wc_skip<|wc_seq<|wc_block<|wc_seq<|bH h fun z107 ez107 h=>cH h fun c108 h=>bH h fun l109 el109 h=>wc_ops<|wj_m rfl<|wj_m rfl<|wj_m rfl<|wj_q _ (iz ez107 (q_conv rfl))<|wj_q _ (q_iasP rfl rfl (Shp.own O100) c108)<|wj_e (ef_stO (E:=(El.int .u8)) el109 O100 .here rfl rfl rfl (inB_n c108) fun ms110 O111=>wj_nil<|bH h fun z113 ez113 h=>wc_ops<|wj_m rfl<|wj_q _ (iz ez113 (q_shr rfl rfl (by decide)))<|wj_m rfl<|wj_nil<|bH h fun z115 ez115 h=>wc_ops<|wj_m rfl<|wj_q _ (iz ez115 (q_bin rfl rfl rfl))<|wj_m rfl<|wj_nil ?_)
    rw [qk102] at h
    exact ⟨n103,Nat.lt_succ_self _,z113,l109,z115,v97,ms110,h,O111,⟨⟨rfl,rfl,rfl,trivial⟩,(.all .here .nil)⟩⟩
   ·exact wc_exit _ rfl<|⟨l99,v97,ms98,h,O100,⟨⟨rfl,trivial⟩,(.all .here .nil)⟩⟩
 ·rintro t m ⟨l63,v61,ms62,h,O64,hF⟩
  refine wc_fit hF ?_
  clear hF
  subst qk65
  refine wc_seq<|wc_ops<|wj_m rfl<|wj_m rfl<|wj_nil<|wc_ret ?_
  revert h; refine ret_i fun h=>?_
  subst h
  exact ⟨_,_,(.cons (.tmp rfl) .nil),(.all .here .nil),⟨_,rfl,⟨v61,ms62,rfl,rfl,O64⟩⟩⟩
def sha512_Digest_Clone (p0:sha512_Digest):Option (sha512_Digest×sha512_Digest) :=
 some (p0,p0)
theorem sha512_Digest_Clone_spec {W:World} {r:sha512_Digest×sha512_Digest} {p0:sha512_Digest} {b:Nat} {T:TypeId} (h:sha512_Digest_Clone p0=some r) (h0:Sat W [b] (ck b T [.ints .u64 8 (p0.gstate),.ints .u8 128 (p0.gheld),.one (.int .i64 (p0.ghave)),.one (.int .u64 (p0.glength))] :: []) W) :
    Calls Tryz.prog 163 [.pointer (some ⟨b,0,none⟩)].toArray W (retS W [b] (fun v Ms=>∃ (b0:Nat) (T0:TypeId),v = .pointer (some ⟨b0,0,none⟩)∧Ms = [.one (ck b0 T0 [.ints .u64 8 (r.1.gstate),.ints .u8 128 (r.1.gheld),.one (.int .i64 (r.1.ghave)),.one (.int .u64 (r.1.glength))]),.one (ck b T [.ints .u64 8 (r.2.gstate),.ints .u8 128 (r.2.gheld),.one (.int .i64 (r.2.ghave)),.one (.int .u64 (r.2.glength))])])):=by
 unfold sha512_Digest_Clone at h
 refine calls_memT mo ok163 rfl h0 ?_
 refine wc_seq<|wc_ops<|wj_m rfl<|wj_nil<|wc_seq<|wc_ops<|wj_m rfl<|wj_q _ (q_nilc rfl)<|wj_q _ (q_ld (p:=[.ints .u64 8 (p0.gstate),.ints .u8 128 (p0.gheld),.one (.int .i64 (p0.ghave)),.one (.int .u64 (p0.glength))]) rfl .here rfl)<|wj_e (ef_al fun b3 hb3=>wj_e (ef_st (q:=[.ints .u64 8 (p0.gstate),.ints .u8 128 (p0.gheld),.one (.int .i64 (p0.ghave)),.one (.int .u64 (p0.glength))]) rfl rfl rfl rfl rfl .here<|wj_nil<|wc_seq<|wc_ops<|wj_m rfl<|wj_nil<|wc_ret ?_))
 revert h; refine ret_i fun h=>?_
 subst h
 exact ⟨_,_,(.cons (.tmp rfl) .nil),(.one .here (.one .here .nil)),⟨_,rfl,⟨b3,194,rfl,rfl⟩⟩⟩
def sha512_Pad (p0:Int):OL :=
 bnd (IntKind.wrap .u64 (p0+17)) fun z3 =>
 bnd (Int.tmod z3 128) fun z4 =>
 bnd (IntKind.wrap .i64 z4) fun z5 =>
 bnd (IntKind.wrap .i64 (128-z5)) fun z6 =>
 bnd (Int.tmod z6 128) fun z7 =>
 bnd (IntKind.wrap .i64 (17+z7)) fun z9 =>
 chk (mkB 1 0 z9) <|
 chk (decide (((List.replicate 0 0:List (Int)).length+([128]:List (Int)).length)*1≤140737488355328)) <|
 bnd ((List.replicate 0 0:List (Int))++([128]:List (Int))) fun l19 =>
 chk (decide (0≤z7)) <|
 chk (decide ((l19.length+(z7).toNat)*1≤140737488355328)) <|
 bnd (l19++List.replicate (z7).toNat 0) fun l26 =>
 bnd (shrV .u64 p0 61) fun z31 =>
 opt (bits_StoreBE_uint64 z31) fun y32 =>
 chk (decide ((l26.length+y32.length)*1≤140737488355328)) <|
 bnd (l26++y32) fun l39 =>
 bnd (shlV .u64 p0 3) fun z44 =>
 opt (bits_StoreBE_uint64 z44) fun y45 =>
 chk (decide ((l39.length+y45.length)*1≤140737488355328)) <|
 bnd (l39++y45) fun l52 =>
 some l52
theorem sha512_Pad_spec {W:World} {r:(List Int)} {p0:Int} (h:sha512_Pad p0=some r)  :
    Calls Tryz.prog 164 [.int .u64 (p0)].toArray W (retS W [] (fun v Ms=>∃ (u0:Value) (M0:List Chunk),v=u0∧Ms = [.all M0]∧OwnSl (El.int .u8) u0 M0 r)):=by
 unfold sha512_Pad at h
 refine calls_memT mo ok164 rfl (sat0 _) ?_
 refine wc_seq<|wc_ops<|wj_m rfl<|wj_nil<|wc_seq<|bH h fun z3 ez3 h=>bH h fun z4 ez4 h=>bH h fun z5 ez5 h=>bH h fun z6 ez6 h=>bH h fun z7 ez7 h=>wc_ops<|wj_m rfl<|wj_q _ (iz ez3 (q_bin rfl rfl rfl))<|wj_q _ (iz ez4 (q_rem rfl rfl (by decide)))<|wj_q _ (iz ez5 (q_conv rfl))<|wj_q _ (iz ez6 (q_bin rfl rfl rfl))<|wj_q _ (iz ez7 (q_rem rfl rfl (by decide)))<|wj_m rfl<|wj_nil<|wc_seq<|bH h fun z9 ez9 h=>cH h fun c10 h=>wc_ops<|wj_m rfl<|wj_q _ (iz ez9 (q_bin rfl rfl rfl))<|wj_e (ef_mksO (E:=(El.int .u8)) rfl rfl rfl c10 fun v11 ms12 O13=>wj_m rfl<|wj_nil<|wc_seq<|cH h fun c18 h=>bH h fun l19 el19 h=>wc_ops<|wj_m rfl<|wj_e (ef_bsO (E:=(El.int .u8)) (xs:=[128]) (.one rfl rfl rfl BdR.nil) (.cons (p:=[.one (.int .u8 (128))]) rfl .nil) rfl fun v15 ms16 O17=>wj_e (ef_appO (E:=(El.int .u8)) el19 rfl O13 (.app .here) rfl (rd_own O17 .here) c18 fun v20 ms21 O22=>wj_m rfl<|wj_nil<|wc_seq<|cH h fun c24 h=>cH h fun c25 h=>bH h fun l26 el26 h=>wc_ops<|wj_m rfl<|wj_m rfl<|wj_e (ef_apzO (E:=(El.int .u8)) el26 rfl O22 .here rfl c24 rfl c25 fun v27 ms28 O29=>wj_m rfl<|wj_nil<|wc_seq<|bH h fun z31 ez31 h=>oH h fun y32 ey32 h=>cH h fun c38 h=>bH h fun l39 el39 h=>wc_ops<|wj_m rfl<|wj_m rfl<|wj_q _ (iz ez31 (q_shr rfl rfl (by decide)))<|wj_e (ef_callS0 rfl (fun w hw=>bits_StoreBE_uint64_spec  ey32 ) fun v33 Msv33 R34=>?_)))))
 obtain ⟨_,ms36,rfl,rfl,O37⟩:=R34
 refine wj_e (ef_appO (E:=(El.int .u8)) el39 rfl O29 (.app .here) rfl (rd_own O37 .here) c38 fun v40 ms41 O42=>wj_m rfl<|wj_nil<|wc_seq<|bH h fun z44 ez44 h=>oH h fun y45 ey45 h=>cH h fun c51 h=>bH h fun l52 el52 h=>wc_ops<|wj_m rfl<|wj_m rfl<|wj_q _ (iz ez44 (q_shl rfl rfl (by decide)))<|wj_e (ef_callS0 rfl (fun w hw=>bits_StoreBE_uint64_spec  ey45 ) fun v46 Msv46 R47=>?_))
 obtain ⟨_,ms49,rfl,rfl,O50⟩:=R47
 refine wj_e (ef_appO (E:=(El.int .u8)) el52 rfl O42 (.app .here) rfl (rd_own O50 .here) c51 fun v53 ms54 O55=>wj_m rfl<|wj_nil<|wc_ret ?_)
 revert h; refine ret_i fun h=>?_
 subst h
 exact ⟨_,_,(.cons (.tmp rfl) .nil),(.all .here .nil),⟨_,rfl,⟨v53,ms54,rfl,rfl,O55⟩⟩⟩
def sha512_Digest_Sum_b1 (y16:sha512_Digest) (k75:(List Int)→Option ((List Int)×sha512_Digest)) (k109:(Int)→(List Int)→Option ((List Int)×sha512_Digest)) (i107:Int) (a108:List Int):Option ((List Int)×sha512_Digest) :=
 br ((decide (i107<8))) (
 chk (inB i107 8) <|
 bnd (y16.gstate.getD (i107).toNat 0) fun z115 =>
 bnd (IntKind.wrap .i64 (8*i107)) fun z117 =>
 chk (cutB z117 64 64) <|
 opt (bits_StoreBE_uint64 z115) fun y119 =>
 bnd (wr a108 (z117).toNat (y119.take (64-(z117).toNat))) fun l125 =>
 bnd (IntKind.wrap .i64 (i107+1)) fun z127 =>
 k109 z127 l125
 ) (
 k75 a108
 )
def sha512_Digest_Sum_l1 (y16:sha512_Digest) (k75:(List Int)→Option ((List Int)×sha512_Digest)):Nat→(Int)→(List Int)→Option ((List Int)×sha512_Digest)
  | 0,_,_=>none
  | n+1,i107,a108=>sha512_Digest_Sum_b1 y16 k75 (sha512_Digest_Sum_l1 y16 k75 n) i107 a108
def sha512_Digest_Sum (p0:sha512_Digest):Option ((List Int)×sha512_Digest) :=
 opt (sha512_Digest_Clone p0) fun y4 =>
 opt (sha512_Pad y4.2.glength) fun y10 =>
 opt (sha512_Digest_Write y4.1 y10) fun y16 =>
 jn (fun (a74:List Int)=>some (a74,y4.2)) fun k75=>sha512_Digest_Sum_l1 y16 k75 big 0 (List.replicate 64 0)
theorem sha512_Digest_Sum_spec {W:World} {r:(List Int)×sha512_Digest} {p0:sha512_Digest} {b:Nat} {T:TypeId} (h:sha512_Digest_Sum p0=some r) (h0:Sat W [b] (ck b T [.ints .u64 8 (p0.gstate),.ints .u8 128 (p0.gheld),.one (.int .i64 (p0.ghave)),.one (.int .u64 (p0.glength))] :: []) W) (hG:Globs W) (hS : ∀ g,g<ng→g ∉ [b]) :
    Calls Tryz.prog 99 [.pointer (some ⟨b,0,none⟩)].toArray W (retS W [b] (fun v Ms=>v=agg [.ints .u8 64 (r.1)]∧Ms = [.one (ck b T [.ints .u64 8 (r.2.gstate),.ints .u8 128 (r.2.gheld),.one (.int .i64 (r.2.ghave)),.one (.int .u64 (r.2.glength))])])):=by
 unfold sha512_Digest_Sum at h
 refine calls_memT mo ok99 rfl h0 ?_
 refine wc_seq<|wc_ops<|wj_e (ef_al fun b2 hb2=>wj_nil<|wc_seq<|oH h fun y4 ey4 h=>wc_ops<|wj_m rfl<|wj_e (ef_callS (mS:=[_]) rfl (Take1.perm (.there .here)) (fun w hw=>sha512_Digest_Clone_spec  ey4 (sat_own hw (mS:=[_]) (Take1.perm (.there .here))) ) fun v5 Msv5 R6=>?_))
 obtain ⟨b7,T8,rfl,rfl⟩:=R6
 refine wj_m rfl<|wj_nil<|wc_seq<|oH h fun y10 ey10 h=>oH h fun y16 ey16 h=>wc_ops<|wj_m rfl<|wj_m rfl<|wj_q _ (q_nilc rfl)<|wj_q _ (q_fa rfl)<|wj_q _ (q_ld1 rfl (.there .here) rfl)<|wj_e (ef_callS0 rfl (fun w hw=>sha512_Pad_spec  ey10 ) fun v11 Msv11 R12=>?_)
 obtain ⟨_,ms14,rfl,rfl,O15⟩:=R12
 refine wj_e (ef_callS (mS:=[_]) rfl (Take1.perm (.app .here)) (fun w hw=>sha512_Digest_Write_spec  ey16 (sat_own hw (mS:=[_]) (Take1.perm (.app .here))) (hG.at hw hS) (hG.ap hS (.app .here) hw) ⟨(rd_own O15 .here) w hw,(apart_own (E:=(El.int .u8)) O15 .here .here hw)⟩) fun v17 Msv17 R18=>?_)
 obtain ⟨rfl,rfl⟩:=R18
 refine wj_nil<|wc_seq<|wc_ops<|wj_e (ef_al fun b20 hb20=>wj_nil<|wc_seq<|wc_seq<|wc_ops<|wj_m rfl<|wj_q _ (q_nilc rfl)<|wj_q _ (q_fa rfl)<|wj_q _ (q_ld (p:=[.ints .u64 8 (y16.gstate)]) rfl (.there .here) rfl)<|wj_m rfl<|wj_nil<|jH h fun k75 qk75 h=>wc_mono2 (G:=fun t m=>∃ (a74:List Int),k75 a74=some r∧Fit [(2,.pointer (some ⟨b2,0,none⟩)),(4,.pointer (some ⟨b20,0,none⟩))] (ck b20 94 [.ints .u8 64 (a74)]::(ck b7 T8 [.ints .u64 8 (y16.gstate),.ints .u8 128 (y16.gheld),.one (.int .i64 (y16.ghave)),.one (.int .u64 (y16.glength))]::(ck b T [.ints .u64 8 (y4.2.gstate),.ints .u8 128 (y4.2.gheld),.one (.int .i64 (y4.2.ghave)),.one (.int .u64 (y4.2.glength))]::(ck b2 94 [.ints .u8 64 ((List.replicate 64 0))] :: [])))) t m) ?_ ?_)
 ·refine wc_block<|wc_loopJ (fun n110 t m=>∃ (i107:Int) (a108:List Int),sha512_Digest_Sum_l1 y16 k75 n110 i107 a108=some r∧Fit [(2,.pointer (some ⟨b2,0,none⟩)),(4,.pointer (some ⟨b20,0,none⟩)),(19,agg [.ints .u64 8 (y16.gstate)]),(20,.int .i64 (i107))] (ck b20 94 [.ints .u8 64 (a108)]::(ck b7 T8 [.ints .u64 8 (y16.gstate),.ints .u8 128 (y16.gheld),.one (.int .i64 (y16.ghave)),.one (.int .u64 (y16.glength))]::(ck b T [.ints .u64 8 (y4.2.gstate),.ints .u8 128 (y4.2.gheld),.one (.int .i64 (y4.2.ghave)),.one (.int .u64 (y4.2.glength))]::(ck b2 94 [.ints .u8 64 ((List.replicate 64 0))] :: [])))) t m) big ?_ ?_
  ·exact ⟨0,(List.replicate 64 0),h,⟨⟨rfl,rfl,rfl,rfl,trivial⟩,(.one .here (.one .here (.one (.app .here) (.one (.app .here) .nil))))⟩⟩
  ·rintro n110 t m ⟨i107,a108,h,hF⟩
   refine wc_fit hF ?_
   clear hF
   rcases n110 with _ | n110
   · exact none_i h
   have h:sha512_Digest_Sum_b1 y16 k75 (sha512_Digest_Sum_l1 y16 k75 n110) i107 a108=some r:=h
   unfold sha512_Digest_Sum_b1 at h
   obtain ⟨k109,qk109⟩ : ∃ k,k=sha512_Digest_Sum_l1 y16 k75 n110:=⟨_,rfl⟩
   try rw [← qk109] at h
   refine wc_seq<|wc_ops<|wj_q _ (q_bin rfl rfl rfl)<|wj_nil<|wc_seq<|wc_br h rfl (fun h=>?_) (fun h=>?_)
   ·refine wc_skip<|wc_seq<|wc_block<|wc_seq<|cH h fun c114 h=>bH h fun z115 ez115 h=>wc_ops<|wj_m rfl<|wj_q _ (iz ez115 (q_idxi (len:=8) rfl rfl (inB_z c114)))<|wj_m rfl<|wj_m rfl<|wj_nil<|bH h fun z117 ez117 h=>cH h fun c118 h=>oH h fun y119 ey119 h=>bH h fun l125 el125 h=>wc_draw<|ws_p1 _ (q_mv rfl)<|ws_p1 _ (iz ez117 (q_bin rfl rfl rfl))<|ws_p1 _ (q_sla rfl (.yes rfl) .no .no (by simp) (cut4 c118))<|ws_p1 _ (q_mv rfl)<|ws_e1 (ef_callS0 rfl (fun w hw=>bits_StoreBE_uint64_spec  ey119 ) fun v120 Msv120 R121=>?_)
    obtain ⟨_,ms123,rfl,rfl,O124⟩:=R121
    refine ⟨(by repeat (first | exact Sup.refl _ | apply Sup.cons | apply Sup.app)),ws_eL rfl (ef_cpyB (q:=[.ints .u8 64 (l125)]) (lo:=(z117).toNat) (hi:=64) (mz:=64) (base:=0) el125 rfl rfl (rd_own O124 .here) rfl (cutn c118) rfl (.app .here) (ws_nil (bH h fun z127 ez127 h=>wc_ops (wj_q _ (iz ez127 (q_bin rfl rfl rfl)) (wj_m rfl (wj_nil ?_))))))⟩
    rw [qk109] at h
    exact ⟨n110,Nat.lt_succ_self _,z127,l125,h,⟨⟨rfl,rfl,rfl,rfl,trivial⟩,(.one (.app .here) (.one (.app .here) (.one (.app .here) (.one (.app .here) .nil))))⟩⟩
   ·exact wc_exit _ rfl<|⟨a108,h,⟨⟨rfl,rfl,trivial⟩,(.one .here (.one .here (.one .here (.one .here .nil))))⟩⟩
 ·rintro t m ⟨a74,h,hF⟩
  refine wc_fit hF ?_
  clear hF
  subst qk75
  refine wc_seq<|wc_ops<|wj_q _ (q_ld (p:=[.ints .u8 64 (a74)]) rfl .here rfl)<|wj_e (ef_st (q:=[.ints .u8 64 (a74)]) rfl rfl rfl rfl rfl (.there (.there (.there .here)))<|wj_nil<|wc_ret ?_)
  revert h; refine ret_i fun h=>?_
  subst h
  exact ⟨_,_,(.cons (.agg rfl (.there (.there (.there .here))) rfl) .nil),(.one (.there (.there .here)) .nil),⟨_,rfl,⟨rfl,rfl⟩⟩⟩
def field_carry (p0:List Int):OL :=
 bnd (p0.getD 0 0) fun z5 =>
 bnd (bitsV .and .u64 z5 2251799813685247) fun z6 =>
 bnd (p0.getD 4 0) fun z7 =>
 bnd (shrV .u64 z7 51) fun z8 =>
 bnd (IntKind.wrap .u64 (z8*19)) fun z9 =>
 bnd (IntKind.wrap .u64 (z6+z9)) fun z10 =>
 bnd (p0.getD 1 0) fun z11 =>
 bnd (bitsV .and .u64 z11 2251799813685247) fun z12 =>
 bnd (p0.getD 0 0) fun z13 =>
 bnd (shrV .u64 z13 51) fun z14 =>
 bnd (IntKind.wrap .u64 (z12+z14)) fun z15 =>
 bnd (p0.getD 2 0) fun z16 =>
 bnd (bitsV .and .u64 z16 2251799813685247) fun z17 =>
 bnd (p0.getD 1 0) fun z18 =>
 bnd (shrV .u64 z18 51) fun z19 =>
 bnd (IntKind.wrap .u64 (z17+z19)) fun z20 =>
 bnd (p0.getD 3 0) fun z21 =>
 bnd (bitsV .and .u64 z21 2251799813685247) fun z22 =>
 bnd (p0.getD 2 0) fun z23 =>
 bnd (shrV .u64 z23 51) fun z24 =>
 bnd (IntKind.wrap .u64 (z22+z24)) fun z25 =>
 bnd (p0.getD 4 0) fun z26 =>
 bnd (bitsV .and .u64 z26 2251799813685247) fun z27 =>
 bnd (p0.getD 3 0) fun z28 =>
 bnd (shrV .u64 z28 51) fun z29 =>
 bnd (IntKind.wrap .u64 (z27+z29)) fun z30 =>
 bnd (([z10,z15,z20,z25,z30]:List Int)) fun z31 =>
 some z31
theorem field_carry_spec {W:World} {r:(List Int)} {p0:List Int} (h:field_carry p0=some r)  :
    Calls Tryz.prog 156 [agg [.ints .u64 5 (p0)]].toArray W (ret1 W (agg [.ints .u64 5 (r)])):=by
 unfold field_carry at h
 refine calls_val mo ok156 rfl ?_
 refine wc_seq<|wc_ops<|wj_e (ef_bx (s:=[.ints .u64 5 (p0)]) rfl fun b2 hb2=>wj_e (ef_al fun b3 hb3=>wj_nil<|wc_seq<|bH h fun z5 ez5 h=>bH h fun z6 ez6 h=>bH h fun z7 ez7 h=>bH h fun z8 ez8 h=>bH h fun z9 ez9 h=>bH h fun z10 ez10 h=>bH h fun z11 ez11 h=>bH h fun z12 ez12 h=>bH h fun z13 ez13 h=>bH h fun z14 ez14 h=>bH h fun z15 ez15 h=>bH h fun z16 ez16 h=>bH h fun z17 ez17 h=>bH h fun z18 ez18 h=>bH h fun z19 ez19 h=>bH h fun z20 ez20 h=>bH h fun z21 ez21 h=>bH h fun z22 ez22 h=>bH h fun z23 ez23 h=>bH h fun z24 ez24 h=>bH h fun z25 ez25 h=>bH h fun z26 ez26 h=>bH h fun z27 ez27 h=>bH h fun z28 ez28 h=>bH h fun z29 ez29 h=>bH h fun z30 ez30 h=>bH h fun z31 ez31 h=>wc_ops<|wj_q _ (q_ia rfl rfl (by decide))<|wj_q _ (iz ez5 (q_ld1 rfl (.there .here) rfl))<|wj_q _ (iz ez6 (q_bin rfl rfl rfl))<|wj_q _ (q_ia rfl rfl (by decide))<|wj_q _ (iz ez7 (q_ld1 rfl (.there .here) rfl))<|wj_q _ (iz ez8 (q_shr rfl rfl (by decide)))<|wj_q _ (iz ez9 (q_bin rfl rfl rfl))<|wj_q _ (iz ez10 (q_bin rfl rfl rfl))<|wj_q _ (q_ia rfl rfl (by decide))<|wj_q _ (iz ez11 (q_ld1 rfl (.there .here) rfl))<|wj_q _ (iz ez12 (q_bin rfl rfl rfl))<|wj_q _ (q_ia rfl rfl (by decide))<|wj_q _ (iz ez13 (q_ld1 rfl (.there .here) rfl))<|wj_q _ (iz ez14 (q_shr rfl rfl (by decide)))<|wj_q _ (iz ez15 (q_bin rfl rfl rfl))<|wj_q _ (q_ia rfl rfl (by decide))<|wj_q _ (iz ez16 (q_ld1 rfl (.there .here) rfl))<|wj_q _ (iz ez17 (q_bin rfl rfl rfl))<|wj_q _ (q_ia rfl rfl (by decide))<|wj_q _ (iz ez18 (q_ld1 rfl (.there .here) rfl))<|wj_q _ (iz ez19 (q_shr rfl rfl (by decide)))<|wj_q _ (iz ez20 (q_bin rfl rfl rfl))<|wj_q _ (q_ia rfl rfl (by decide))<|wj_q _ (iz ez21 (q_ld1 rfl (.there .here) rfl))<|wj_q _ (iz ez22 (q_bin rfl rfl rfl))<|wj_q _ (q_ia rfl rfl (by decide))<|wj_q _ (iz ez23 (q_ld1 rfl (.there .here) rfl))<|wj_q _ (iz ez24 (q_shr rfl rfl (by decide)))<|wj_q _ (iz ez25 (q_bin rfl rfl rfl))<|wj_q _ (q_ia rfl rfl (by decide))<|wj_q _ (iz ez26 (q_ld1 rfl (.there .here) rfl))<|wj_q _ (iz ez27 (q_bin rfl rfl rfl))<|wj_q _ (q_ia rfl rfl (by decide))<|wj_q _ (iz ez28 (q_ld1 rfl (.there .here) rfl))<|wj_q _ (iz ez29 (q_shr rfl rfl (by decide)))<|wj_q _ (iz ez30 (q_bin rfl rfl rfl))<|wj_q _ (az (fun z=>agg [.ints .u64 5 z]) ez31 (q_bd (.one rfl rfl rfl (.one rfl rfl rfl (.one rfl rfl rfl (.one rfl rfl rfl (.one rfl rfl rfl BdR.nil)))))))<|wj_e (ef_st (q:=[.ints .u64 5 (z31)]) rfl rfl rfl rfl rfl .here<|wj_nil<|wc_ret ?_)))
 revert h; refine ret_i fun h=>?_
 subst h
 exact ⟨_,(.cons (.agg rfl .here rfl) .nil),rfl⟩
def field_reduce_b1 (y6:(List Int)) (k47:(Int)→OL) (k70:(Int)→(Int)→OL) (i68:Int) (i69:Int):OL :=
 br ((decide (i69<4))) (
 chk (inB i69 (tk y6 1 (5-1)).length) <|
 bnd ((tk y6 1 (5-1)).getD (i69).toNat 0) fun z76 =>
 bnd (IntKind.wrap .u64 (z76+i68)) fun z78 =>
 bnd (shrV .u64 z78 51) fun z79 =>
 bnd (IntKind.wrap .i64 (i69+1)) fun z81 =>
 k70 z79 z81
 ) (
 k47 i68
 )
def field_reduce_l1 (y6:(List Int)) (k47:(Int)→OL):Nat→(Int)→(Int)→OL
  | 0,_,_=>none
  | n+1,i68,i69=>field_reduce_b1 y6 k47 (field_reduce_l1 y6 k47 n) i68 i69
def field_reduce_b2 (k150:(List Int)→OL) (k189:(Int)→(List Int)→OL) (i187:Int) (a188:List Int):OL :=
 br ((decide (i187<4))) (
 bnd (IntKind.wrap .i64 (i187+1)) fun z195 =>
 chk (inB z195 5) <|
 chk (inB i187 5) <|
 bnd (a188.getD (z195).toNat 0) fun z198 =>
 bnd (a188.getD (i187).toNat 0) fun z199 =>
 bnd (shrV .u64 z199 51) fun z200 =>
 bnd (IntKind.wrap .u64 (z198+z200)) fun z201 =>
 chk (inB z195 5) <|
 bnd (setD a188 (z195).toNat z201) fun l203 =>
 chk (inB i187 5) <|
 bnd (l203.getD (i187).toNat 0) fun z206 =>
 bnd (bitsV .and .u64 z206 2251799813685247) fun z207 =>
 chk (inB i187 5) <|
 bnd (setD l203 (i187).toNat z207) fun l209 =>
 bnd (IntKind.wrap .i64 (i187+1)) fun z211 =>
 k189 z211 l209
 ) (
 k150 a188
 )
def field_reduce_l2 (k150:(List Int)→OL):Nat→(Int)→(List Int)→OL
  | 0,_,_=>none
  | n+1,i187,a188=>field_reduce_b2 k150 (field_reduce_l2 k150 n) i187 a188
def field_reduce (p0:List Int):OL :=
 opt (field_carry p0) fun y5 =>
 opt (field_carry y5) fun y6 =>
 bnd (y6.getD 0 0) fun z8 =>
 bnd (IntKind.wrap .u64 (z8+19)) fun z9 =>
 bnd (shrV .u64 z9 51) fun z10 =>
 jn (fun (i46:Int)=>bnd (y6.getD 0 0) fun z83 =>
 bnd (IntKind.wrap .u64 (19*i46)) fun z84 =>
 bnd (IntKind.wrap .u64 (z83+z84)) fun z85 =>
 bnd (setD y6 0 z85) fun l86 =>
 jn (fun (a149:List Int)=>bnd (a149.getD 4 0) fun z213 =>
 bnd (bitsV .and .u64 z213 2251799813685247) fun z214 =>
 bnd (setD a149 4 z214) fun l215 =>
 some l215) fun k150=>field_reduce_l2 k150 big 0 l86) fun k47=>field_reduce_l1 y6 k47 big z10 0
theorem field_reduce_spec {W:World} {r:(List Int)} {p0:List Int} (h:field_reduce p0=some r)  :
    Calls Tryz.prog 155 [agg [.ints .u64 5 (p0)]].toArray W (ret1 W (agg [.ints .u64 5 (r)])):=by
 unfold field_reduce at h
 refine calls_val mo ok155 rfl ?_
 refine wc_seq<|wc_ops<|wj_e (ef_bx (s:=[.ints .u64 5 (p0)]) rfl fun b2 hb2=>wj_e (ef_al fun b3 hb3=>wj_nil<|wc_seq<|oH h fun y5 ey5 h=>oH h fun y6 ey6 h=>wc_ops<|wj_q _ (q_ld (p:=[.ints .u64 5 (p0)]) rfl (.there .here) rfl)<|wj_q _ (q_cl rfl (field_carry_spec ey5))<|wj_q _ (q_cl rfl (field_carry_spec ey6))<|wj_e (ef_st (q:=[.ints .u64 5 (y6)]) rfl rfl rfl rfl rfl (.there .here)<|wj_nil<|wc_seq<|bH h fun z8 ez8 h=>bH h fun z9 ez9 h=>bH h fun z10 ez10 h=>wc_ops<|wj_q _ (q_ia rfl rfl (by decide))<|wj_q _ (iz ez8 (q_ld1 rfl (.there .here) rfl))<|wj_q _ (iz ez9 (q_bin rfl rfl rfl))<|wj_q _ (iz ez10 (q_shr rfl rfl (by decide)))<|wj_m rfl<|wj_nil<|wc_seq<|wc_seq<|wc_ops<|wj_q _ (q_sla rfl (.yes rfl) .no .no (by simp) (by decide))<|wj_q _ (q_len rfl)<|wj_m rfl<|wj_nil<|jH h fun k47 qk47 h=>wc_mono2 (G:=fun t m=>∃ (i46:Int),k47 i46=some r∧Fit [(1,.pointer (some ⟨b2,0,none⟩)),(2,.pointer (some ⟨b3,0,none⟩)),(3,.int .u64 (i46))] (ck b3 80 [.ints .u64 5 ((List.replicate 5 0))]::(ck b2 80 [.ints .u64 5 (y6)] :: [])) t m) ?_ ?_)))
 ·refine wc_block<|wc_loopJ (fun n71 t m=>∃ (i68:Int) (i69:Int),field_reduce_l1 y6 k47 n71 i68 i69=some r∧Fit [(1,.pointer (some ⟨b2,0,none⟩)),(2,.pointer (some ⟨b3,0,none⟩)),(3,.int .u64 (i68)),(14,(.slice (some (slAddr b2 0 1 5 1)) (5-1) (5-1))),(15,.int .i64 4),(16,.int .i64 (i69))] (ck b3 80 [.ints .u64 5 ((List.replicate 5 0))]::(ck b2 80 [.ints .u64 5 (y6)] :: [])) t m) big ?_ ?_
  ·exact ⟨z10,0,h,⟨⟨rfl,rfl,rfl,rfl,rfl,rfl,trivial⟩,(.one .here (.one .here .nil))⟩⟩
  ·rintro n71 t m ⟨i68,i69,h,hF⟩
   refine wc_fit hF ?_
   clear hF
   rcases n71 with _ | n71
   · exact none_i h
   have h:field_reduce_b1 y6 k47 (field_reduce_l1 y6 k47 n71) i68 i69=some r:=h
   unfold field_reduce_b1 at h
   obtain ⟨k70,qk70⟩ : ∃ k,k=field_reduce_l1 y6 k47 n71:=⟨_,rfl⟩
   try rw [← qk70] at h
   refine wc_seq<|wc_ops<|wj_q _ (q_bin rfl rfl rfl)<|wj_nil<|wc_seq<|wc_br h rfl (fun h=>?_) (fun h=>?_)
   ·refine wc_skip<|wc_seq<|wc_block<|wc_seq<|cH h fun c75 h=>bH h fun z76 ez76 h=>wc_ops<|wj_q _ (q_iasP rfl rfl (Shp.blk (lo:=1) (hi:=5) (mz:=5) (by decide) (by simp [tk_length])) c75)<|wj_q _ (iz ez76 (q_ldM10 (E:=(El.int .u64)) (s:=[.one (.int .u64 ((tk y6 1 (5-1)).getD (i69).toNat 0))]) rfl (rd_blk_i (s:=[.ints .u64 5 (y6)]) (N:=5) (k:=.u64) (base:=0) (lo:=1) (hi:=5) (mz:=5) (.there .here) rfl (by decide)) (inB_n c75) rfl rfl))<|wj_m rfl<|wj_nil<|bH h fun z78 ez78 h=>bH h fun z79 ez79 h=>wc_ops<|wj_m rfl<|wj_m rfl<|wj_q _ (iz ez78 (q_bin rfl rfl rfl))<|wj_q _ (iz ez79 (q_shr rfl rfl (by decide)))<|wj_m rfl<|wj_nil<|bH h fun z81 ez81 h=>wc_ops<|wj_q _ (iz ez81 (q_bin rfl rfl rfl))<|wj_m rfl<|wj_nil ?_
    rw [qk70] at h
    exact ⟨n71,Nat.lt_succ_self _,z79,z81,h,⟨⟨rfl,rfl,rfl,rfl,rfl,rfl,trivial⟩,(.one .here (.one .here .nil))⟩⟩
   ·exact wc_exit _ rfl<|⟨i68,h,⟨⟨rfl,rfl,rfl,trivial⟩,(.one .here (.one .here .nil))⟩⟩
 ·rintro t m ⟨i46,h,hF⟩
  refine wc_fit hF ?_
  clear hF
  subst qk47
  refine wc_seq<|bH h fun z83 ez83 h=>bH h fun z84 ez84 h=>bH h fun z85 ez85 h=>bH h fun l86 el86 h=>wc_ops<|wj_q _ (q_ia rfl rfl (by decide))<|wj_q _ (iz ez83 (q_ld1 rfl (.there .here) rfl))<|wj_m rfl<|wj_q _ (iz ez84 (q_bin rfl rfl rfl))<|wj_q _ (iz ez85 (q_bin rfl rfl rfl))<|wj_q _ (q_ia rfl rfl (by decide))<|wj_e (ef_st1z (q:=[.ints .u64 5 (l86)]) (congrArg (fun z=>([.ints .u64 5 (z)]:List Seg)) el86.symm) rfl rfl rfl rfl (.there .here)<|wj_nil<|wc_seq<|wc_seq<|wc_ops<|wj_m rfl<|wj_nil<|jH h fun k150 qk150 h=>wc_mono2 (G:=fun t m=>∃ (a149:List Int),k150 a149=some r∧Fit [(1,.pointer (some ⟨b2,0,none⟩)),(2,.pointer (some ⟨b3,0,none⟩))] (ck b3 80 [.ints .u64 5 ((List.replicate 5 0))]::(ck b2 80 [.ints .u64 5 (a149)] :: [])) t m) ?_ ?_)
  ·refine wc_block<|wc_loopJ (fun n190 t m=>∃ (i187:Int) (a188:List Int),field_reduce_l2 k150 n190 i187 a188=some r∧Fit [(1,.pointer (some ⟨b2,0,none⟩)),(2,.pointer (some ⟨b3,0,none⟩)),(31,.int .i64 (i187))] (ck b3 80 [.ints .u64 5 ((List.replicate 5 0))]::(ck b2 80 [.ints .u64 5 (a188)] :: [])) t m) big ?_ ?_
   ·exact ⟨0,l86,h,⟨⟨rfl,rfl,rfl,trivial⟩,(.one .here (.one .here .nil))⟩⟩
   ·rintro n190 t m ⟨i187,a188,h,hF⟩
    refine wc_fit hF ?_
    clear hF
    rcases n190 with _ | n190
    · exact none_i h
    have h:field_reduce_b2 k150 (field_reduce_l2 k150 n190) i187 a188=some r:=h
    unfold field_reduce_b2 at h
    obtain ⟨k189,qk189⟩ : ∃ k,k=field_reduce_l2 k150 n190:=⟨_,rfl⟩
    try rw [← qk189] at h
    refine wc_seq<|wc_ops<|wj_q _ (q_bin rfl rfl rfl)<|wj_nil<|wc_seq<|wc_br h rfl (fun h=>?_) (fun h=>?_)
    ·refine wc_skip<|wc_seq<|wc_block<|wc_seq<|wc_ops<|wj_m rfl<|wj_m rfl<|wj_nil<|wc_seq<|bH h fun z195 ez195 h=>cH h fun c196 h=>cH h fun c197 h=>bH h fun z198 ez198 h=>bH h fun z199 ez199 h=>bH h fun z200 ez200 h=>bH h fun z201 ez201 h=>cH h fun c202 h=>bH h fun l203 el203 h=>wc_draw<|ws_p1 _ (q_mv rfl)<|ws_p1 _ (iz ez195 (q_bin rfl rfl rfl))<|ws_p1 _ (q_ia rfl rfl (inB_z c196))<|ws_p1 _ (q_mv rfl)<|ws_p1 _ (q_ia rfl rfl (inB_z c197))<|ws_q1 _ (iz ez198 (q_ldi (base:=0) rfl (.there .here) rfl (inB_n c196)))<|ws_q1 _ (iz ez199 (q_ldi (base:=0) rfl (.there .here) rfl (inB_n c197)))<|ws_p1 _ (iz ez200 (q_shr rfl rfl (by decide)))<|ws_p1 _ (iz ez201 (q_bin rfl rfl rfl))<|ws_p1 _ (q_ia rfl rfl (inB_z c202))<|ws_eL rfl (ef_stiz (q:=[.ints .u64 5 (l203)]) (base:=0) el203 rfl rfl rfl (inB_n c202) rfl (.there .here)<|ws_nil<|cH h fun c205 h=>bH h fun z206 ez206 h=>bH h fun z207 ez207 h=>cH h fun c208 h=>bH h fun l209 el209 h=>wc_ops<|wj_m rfl<|wj_q _ (q_ia rfl rfl (inB_z c205))<|wj_q _ (iz ez206 (q_ldi (base:=0) rfl (.there .here) rfl (inB_n c205)))<|wj_q _ (iz ez207 (q_bin rfl rfl rfl))<|wj_q _ (q_ia rfl rfl (inB_z c208))<|wj_e (ef_stiz (q:=[.ints .u64 5 (l209)]) (base:=0) el209 rfl rfl rfl (inB_n c208) rfl (.there .here)<|wj_nil<|bH h fun z211 ez211 h=>wc_ops<|wj_q _ (iz ez211 (q_bin rfl rfl rfl))<|wj_m rfl<|wj_nil ?_))
     rw [qk189] at h
     exact ⟨n190,Nat.lt_succ_self _,z211,l209,h,⟨⟨rfl,rfl,rfl,trivial⟩,(.one .here (.one .here .nil))⟩⟩
    ·exact wc_exit _ rfl<|⟨a188,h,⟨⟨rfl,rfl,trivial⟩,(.one .here (.one .here .nil))⟩⟩
  ·rintro t m ⟨a149,h,hF⟩
   refine wc_fit hF ?_
   clear hF
   subst qk150
   refine wc_seq<|bH h fun z213 ez213 h=>bH h fun z214 ez214 h=>bH h fun l215 el215 h=>wc_ops<|wj_q _ (q_ia rfl rfl (by decide))<|wj_q _ (iz ez213 (q_ld1 rfl (.there .here) rfl))<|wj_q _ (iz ez214 (q_bin rfl rfl rfl))<|wj_q _ (q_ia rfl rfl (by decide))<|wj_e (ef_st1z (q:=[.ints .u64 5 (l215)]) (congrArg (fun z=>([.ints .u64 5 (z)]:List Seg)) el215.symm) rfl rfl rfl rfl (.there .here)<|wj_nil<|wc_seq<|wc_ops<|wj_q _ (q_ld (p:=[.ints .u64 5 (l215)]) rfl (.there .here) rfl)<|wj_e (ef_st (q:=[.ints .u64 5 (l215)]) rfl rfl rfl rfl rfl .here<|wj_nil<|wc_ret ?_))
   revert h; refine ret_i fun h=>?_
   subst h
   exact ⟨_,(.cons (.agg rfl .here rfl) .nil),rfl⟩
def math_bits_Mul64 (p0:Int) (p1:Int):Option (Int×Int) :=
 bnd (bitsV .and .u64 p0 4294967295) fun z3 =>
 bnd (shrV .u64 p0 32) fun z5 =>
 bnd (bitsV .and .u64 p1 4294967295) fun z7 =>
 bnd (shrV .u64 p1 32) fun z9 =>
 bnd (IntKind.wrap .u64 (z3*z7)) fun z11 =>
 bnd (IntKind.wrap .u64 (z5*z7)) fun z13 =>
 bnd (shrV .u64 z11 32) fun z14 =>
 bnd (IntKind.wrap .u64 (z13+z14)) fun z15 =>
 bnd (bitsV .and .u64 z15 4294967295) fun z17 =>
 bnd (shrV .u64 z15 32) fun z19 =>
 bnd (IntKind.wrap .u64 (z3*z9)) fun z21 =>
 bnd (IntKind.wrap .u64 (z17+z21)) fun z22 =>
 bnd (IntKind.wrap .u64 (z5*z9)) fun z24 =>
 bnd (IntKind.wrap .u64 (z24+z19)) fun z25 =>
 bnd (shrV .u64 z22 32) fun z26 =>
 bnd (IntKind.wrap .u64 (z25+z26)) fun z27 =>
 bnd (IntKind.wrap .u64 (p0*p1)) fun z29 =>
 some (z27,z29)
theorem math_bits_Mul64_spec {W:World} {r:Int×Int} {p0:Int} {p1:Int} (h:math_bits_Mul64 p0 p1=some r)  :
    Calls Tryz.prog 200 [.int .u64 (p0),.int .u64 (p1)].toArray W (ret1 W (.tuple #[.int .u64 (r.1),.int .u64 (r.2)])):=by
 unfold math_bits_Mul64 at h
 refine calls_val mo ok200 rfl ?_
 refine wc_seq<|wc_ops<|wj_m rfl<|wj_m rfl<|wj_nil<|wc_seq<|bH h fun z3 ez3 h=>wc_ops<|wj_m rfl<|wj_q _ (iz ez3 (q_bin rfl rfl rfl))<|wj_m rfl<|wj_nil<|wc_seq<|bH h fun z5 ez5 h=>wc_ops<|wj_m rfl<|wj_q _ (iz ez5 (q_shr rfl rfl (by decide)))<|wj_m rfl<|wj_nil<|wc_seq<|bH h fun z7 ez7 h=>wc_ops<|wj_m rfl<|wj_q _ (iz ez7 (q_bin rfl rfl rfl))<|wj_m rfl<|wj_nil<|wc_seq<|bH h fun z9 ez9 h=>wc_ops<|wj_m rfl<|wj_q _ (iz ez9 (q_shr rfl rfl (by decide)))<|wj_m rfl<|wj_nil<|wc_seq<|bH h fun z11 ez11 h=>wc_ops<|wj_m rfl<|wj_m rfl<|wj_q _ (iz ez11 (q_bin rfl rfl rfl))<|wj_m rfl<|wj_nil<|wc_seq<|bH h fun z13 ez13 h=>bH h fun z14 ez14 h=>bH h fun z15 ez15 h=>wc_ops<|wj_m rfl<|wj_m rfl<|wj_q _ (iz ez13 (q_bin rfl rfl rfl))<|wj_m rfl<|wj_q _ (iz ez14 (q_shr rfl rfl (by decide)))<|wj_q _ (iz ez15 (q_bin rfl rfl rfl))<|wj_m rfl<|wj_nil<|wc_seq<|bH h fun z17 ez17 h=>wc_ops<|wj_m rfl<|wj_q _ (iz ez17 (q_bin rfl rfl rfl))<|wj_m rfl<|wj_nil<|wc_seq<|bH h fun z19 ez19 h=>wc_ops<|wj_m rfl<|wj_q _ (iz ez19 (q_shr rfl rfl (by decide)))<|wj_m rfl<|wj_nil<|wc_seq<|bH h fun z21 ez21 h=>bH h fun z22 ez22 h=>wc_ops<|wj_m rfl<|wj_m rfl<|wj_m rfl<|wj_q _ (iz ez21 (q_bin rfl rfl rfl))<|wj_q _ (iz ez22 (q_bin rfl rfl rfl))<|wj_m rfl<|wj_nil<|wc_seq<|bH h fun z24 ez24 h=>bH h fun z25 ez25 h=>bH h fun z26 ez26 h=>bH h fun z27 ez27 h=>wc_ops<|wj_m rfl<|wj_m rfl<|wj_q _ (iz ez24 (q_bin rfl rfl rfl))<|wj_m rfl<|wj_q _ (iz ez25 (q_bin rfl rfl rfl))<|wj_m rfl<|wj_q _ (iz ez26 (q_shr rfl rfl (by decide)))<|wj_q _ (iz ez27 (q_bin rfl rfl rfl))<|wj_m rfl<|wj_nil<|wc_seq<|bH h fun z29 ez29 h=>wc_ops<|wj_m rfl<|wj_m rfl<|wj_q _ (iz ez29 (q_bin rfl rfl rfl))<|wj_m rfl<|wj_nil<|wc_ret ?_
 revert h; refine ret_i fun h=>?_
 subst h
 exact ⟨_,(.cons (.tmp rfl) (.cons (.tmp rfl) .nil)),rfl⟩
def field_wide_add (p0:List Int) (o:Nat) (L:Nat) (p1:Int) (p2:Int):OL :=
 opt (math_bits_Mul64 p1 p2) fun y2 =>
 chk (decide (o+1<L)) <|
 bnd (p0.getD (o+1) 0) fun z6 =>
 chk (addOk z6 y2.2 0) <|
 bnd (addLo z6 y2.2 0) fun z8 =>
 bnd (addHi z6 y2.2 0) fun z9 =>
 chk (decide (o+1<L)) <|
 bnd (setD p0 (o+1) z8) fun l11 =>
 chk (decide (o+0<L)) <|
 bnd (l11.getD (o+0) 0) fun z14 =>
 chk (addOk z14 y2.1 z9) <|
 bnd (addLo z14 y2.1 z9) fun z16 =>
 bnd (addHi z14 y2.1 z9) fun z17 =>
 chk (decide (o+0<L)) <|
 bnd (setD l11 (o+0) z16) fun l19 =>
 some l19
theorem field_wide_add_spec {W:World} {r:(List Int)} {p0:List Int} {o:Nat} {L:Nat} {p1:Int} {p2:Int} {b:Nat} {T:TypeId} (h:field_wide_add p0 o L p1 p2=some r) (h0:Sat W [b] (ck b T [.ints .u64 L (p0)] :: []) W) :
    Calls Tryz.prog 157 [.pointer (some ⟨b,o,none⟩),.int .u64 (p1),.int .u64 (p2)].toArray W (retS W [b] (fun v Ms=>v = .tuple #[]∧Ms = [.one (ck b T [.ints .u64 L (r)])])):=by
 unfold field_wide_add at h
 refine calls_memT mo ok157 rfl h0 ?_
 refine wc_seq<|oH h fun y2 ey2 h=>wc_ops<|wj_m rfl<|wj_m rfl<|wj_q _ (q_cl rfl (math_bits_Mul64_spec ey2))<|wj_m rfl<|wj_q _ (q_ext rfl rfl)<|wj_q _ (q_ext rfl rfl)<|wj_m rfl<|wj_m rfl<|wj_nil<|wc_seq<|wc_ops<|wj_m rfl<|wj_nil<|wc_seq<|cH h fun c5 h=>bH h fun z6 ez6 h=>cH h fun c7 h=>bH h fun z8 ez8 h=>bH h fun z9 ez9 h=>cH h fun c10 h=>bH h fun l11 el11 h=>wc_ops<|wj_m rfl<|wj_m rfl<|wj_q _ (q_nilc rfl)<|wj_q _ (q_fa rfl)<|wj_q _ (q_ldxz (base:=0) (i:=o+1) ez6 rfl .here rfl (by omega) c5)<|wj_m rfl<|wj_q _ (q_xcall rfl ext_add (xadd ez8 ez9 c7))<|wj_m rfl<|wj_q _ (q_ext rfl rfl)<|wj_q _ (q_ext rfl rfl)<|wj_q _ (q_nilc rfl)<|wj_q _ (q_fa rfl)<|wj_e (ef_stxz (base:=0) (i:=o+1) (q:=[.ints .u64 L l11]) el11 rfl rfl rfl (by omega) c10 (by simp [segSet,Seg.width]) .here<|wj_m rfl<|wj_nil<|cH h fun c13 h=>bH h fun z14 ez14 h=>cH h fun c15 h=>bH h fun z16 ez16 h=>bH h fun z17 ez17 h=>cH h fun c18 h=>bH h fun l19 el19 h=>wc_ops<|wj_m rfl<|wj_m rfl<|wj_q _ (q_nilc rfl)<|wj_q _ (q_fa rfl)<|wj_q _ (q_ldxz (base:=0) (i:=o+0) ez14 rfl .here rfl (by omega) c13)<|wj_m rfl<|wj_m rfl<|wj_q _ (q_xcall rfl ext_add (xadd ez16 ez17 c15))<|wj_m rfl<|wj_q _ (q_ext rfl rfl)<|wj_q _ (q_ext rfl rfl)<|wj_q _ (q_nilc rfl)<|wj_q _ (q_fa rfl)<|wj_e (ef_stxz (base:=0) (i:=o+0) (q:=[.ints .u64 L l19]) el19 rfl rfl rfl (by omega) c18 (by simp [segSet,Seg.width]) .here<|wj_nil ?_))
 revert h; refine ret_i fun h=>?_
 subst h
 exact ⟨_,_,.nil,(.one .here .nil),⟨_,rfl,⟨rfl,rfl⟩⟩⟩
def field_Mul_b2 (y7:(List Int)) (i1369:Int) (z1377:Int) (k1520:(List Int)→OL) (k1613:(Int)→(List Int)→OL) (i1611:Int) (a1612:List Int):OL :=
 br ((decide (i1611<5))) (
 jn (fun (a1637:List Int)=>bnd (IntKind.wrap .i64 (i1611+1)) fun z1660 =>
 k1613 z1660 a1637) fun k1638=>chk (inB i1611 5) <|
 bnd (y7.getD (i1611).toNat 0) fun z1641 =>
 bnd (IntKind.wrap .i64 (i1369+i1611)) fun z1643 =>
 br ((decide (z1643<5))) (
 bnd (IntKind.wrap .i64 (i1369+i1611)) fun z1646 =>
 chk (inB z1646 5) <|
 opt (field_wide_add a1612 (0+(z1646).toNat*2) 10 z1377 z1641) fun y1648 =>
 k1638 y1648
 ) (
 bnd (IntKind.wrap .i64 (i1369+i1611)) fun z1652 =>
 bnd (IntKind.wrap .i64 (z1652-5)) fun z1653 =>
 chk (inB z1653 5) <|
 bnd (IntKind.wrap .u64 (19*z1641)) fun z1655 =>
 opt (field_wide_add a1612 (0+(z1653).toNat*2) 10 z1377 z1655) fun y1656 =>
 k1638 y1656
 )
 ) (
 k1520 a1612
 )
def field_Mul_l2 (y7:(List Int)) (i1369:Int) (z1377:Int) (k1520:(List Int)→OL):Nat→(Int)→(List Int)→OL
  | 0,_,_=>none
  | n+1,i1611,a1612=>field_Mul_b2 y7 i1369 z1377 k1520 (field_Mul_l2 y7 i1369 z1377 k1520 n) i1611 a1612
def field_Mul_b1 (y6:(List Int)) (y7:(List Int)) (k837:(List Int)→OL) (k1371:(Int)→(List Int)→OL) (i1369:Int) (a1370:List Int):OL :=
 br ((decide (i1369<5))) (
 chk (inB i1369 5) <|
 bnd (y6.getD (i1369).toNat 0) fun z1377 =>
 jn (fun (a1519:List Int)=>bnd (IntKind.wrap .i64 (i1369+1)) fun z1662 =>
 k1371 z1662 a1519) fun k1520=>field_Mul_l2 y7 i1369 z1377 k1520 big 0 a1370
 ) (
 k837 a1370
 )
def field_Mul_l1 (y6:(List Int)) (y7:(List Int)) (k837:(List Int)→OL):Nat→(Int)→(List Int)→OL
  | 0,_,_=>none
  | n+1,i1369,a1370=>field_Mul_b1 y6 y7 k837 (field_Mul_l1 y6 y7 k837 n) i1369 a1370
def field_Mul_b3 (a836:List Int) (k1742:(Int)→(List Int)→OL) (k1791:(Int)→(Int)→(List Int)→OL) (i1788:Int) (i1789:Int) (a1790:List Int):OL :=
 br ((decide (i1789<5))) (
 chk (inB i1789 5) <|
 bnd (tk a836 ((i1789).toNat*2) 2) fun l1797 =>
 bnd (l1797.getD 1 0) fun z1800 =>
 chk (addOk z1800 i1788 0) <|
 bnd (addLo z1800 i1788 0) fun z1802 =>
 bnd (addHi z1800 i1788 0) fun z1803 =>
 bnd (bitsV .and .u64 z1802 2251799813685247) fun z1805 =>
 chk (inB i1789 5) <|
 bnd (setD a1790 (i1789).toNat z1805) fun l1807 =>
 bnd (l1797.getD 0 0) fun z1809 =>
 bnd (IntKind.wrap .u64 (z1809+z1803)) fun z1810 =>
 bnd (shlV .u64 z1810 13) fun z1811 =>
 bnd (shrV .u64 z1802 51) fun z1812 =>
 bnd (bitsV .or .u64 z1811 z1812) fun z1813 =>
 bnd (IntKind.wrap .i64 (i1789+1)) fun z1815 =>
 k1791 z1813 z1815 l1807
 ) (
 k1742 i1788 a1790
 )
def field_Mul_l3 (a836:List Int) (k1742:(Int)→(List Int)→OL):Nat→(Int)→(Int)→(List Int)→OL
  | 0,_,_,_=>none
  | n+1,i1788,i1789,a1790=>field_Mul_b3 a836 k1742 (field_Mul_l3 a836 k1742 n) i1788 i1789 a1790
def field_Mul (p0:List Int) (p1:List Int):OL :=
 opt (field_carry p0) fun y6 =>
 opt (field_carry p1) fun y7 =>
 jn (fun (a836:List Int)=>jn (fun (i1740:Int) (a1741:List Int)=>opt (field_wide_add (List.replicate 2 0) 0 2 i1740 19) fun y1819 =>
 bnd (y1819.getD 1 0) fun z1823 =>
 bnd (a1741.getD 0 0) fun z1824 =>
 chk (addOk z1823 z1824 0) <|
 bnd (addLo z1823 z1824 0) fun z1826 =>
 bnd (addHi z1823 z1824 0) fun z1827 =>
 bnd (bitsV .and .u64 z1826 2251799813685247) fun z1829 =>
 bnd (setD a1741 0 z1829) fun l1830 =>
 bnd (l1830.getD 1 0) fun z1832 =>
 bnd (y1819.getD 0 0) fun z1833 =>
 bnd (IntKind.wrap .u64 (z1833+z1827)) fun z1834 =>
 bnd (shlV .u64 z1834 13) fun z1835 =>
 bnd (shrV .u64 z1826 51) fun z1836 =>
 bnd (bitsV .or .u64 z1835 z1836) fun z1837 =>
 bnd (IntKind.wrap .u64 (z1832+z1837)) fun z1838 =>
 bnd (setD l1830 1 z1838) fun l1839 =>
 opt (field_reduce l1839) fun y1841 =>
 some y1841) fun k1742=>field_Mul_l3 a836 k1742 big 0 0 (List.replicate 5 0)) fun k837=>field_Mul_l1 y6 y7 k837 big 0 (List.replicate 10 0)
theorem field_Mul_spec {W:World} {r:(List Int)} {p0:List Int} {p1:List Int} (h:field_Mul p0 p1=some r)  :
    Calls Tryz.prog 92 [agg [.ints .u64 5 (p0)],agg [.ints .u64 5 (p1)]].toArray W (ret1 W (agg [.ints .u64 5 (r)])):=by
 unfold field_Mul at h
 refine calls_val mo ok92 rfl ?_
 refine wc_seq<|wc_ops<|wj_e (ef_bx (s:=[.ints .u64 5 (p0)]) rfl fun b2 hb2=>wj_e (ef_bx (s:=[.ints .u64 5 (p1)]) rfl fun b3 hb3=>wj_e (ef_al fun b4 hb4=>wj_nil<|wc_seq<|oH h fun y6 ey6 h=>oH h fun y7 ey7 h=>wc_draw<|ws_q1 _ (q_ld (p:=[.ints .u64 5 (p0)]) rfl (.there (.there .here)) rfl)<|ws_p1 _ (q_cl rfl (field_carry_spec ey6))<|ws_q1 _ (q_ld (p:=[.ints .u64 5 (p1)]) rfl (.there .here) rfl)<|ws_p1 _ (q_cl rfl (field_carry_spec ey7))<|ws_eL rfl (ef_st (q:=[.ints .u64 5 (y6)]) rfl rfl rfl rfl rfl (.there (.there .here))<|ws_eM rfl (ef_st (q:=[.ints .u64 5 (y7)]) rfl rfl rfl rfl rfl (.there .here)<|ws_nil<|wc_seq<|wc_ops<|wj_e (ef_al fun b9 hb9=>wj_nil<|wc_seq<|wc_seq<|wc_ops<|wj_q _ (q_ld (p:=[.ints .u64 5 (y6)]) rfl (.there (.there (.there .here))) rfl)<|wj_m rfl<|wj_nil<|jH h fun k837 qk837 h=>wc_mono2 (G:=fun t m=>∃ (a836:List Int),k837 a836=some r∧Fit [(4,.pointer (some ⟨b4,0,none⟩)),(5,.pointer (some ⟨b9,0,none⟩))] (ck b9 188 [.ints .u64 10 (a836)]::(ck b4 80 [.ints .u64 5 ((List.replicate 5 0))]::(ck b3 80 [.ints .u64 5 (y7)]::(ck b2 80 [.ints .u64 5 (y6)] :: [])))) t m) ?_ ?_))))))
 ·refine wc_block<|wc_loopJ (fun n1372 t m=>∃ (i1369:Int) (a1370:List Int),field_Mul_l1 y6 y7 k837 n1372 i1369 a1370=some r∧Fit [(3,.pointer (some ⟨b3,0,none⟩)),(4,.pointer (some ⟨b4,0,none⟩)),(5,.pointer (some ⟨b9,0,none⟩)),(23,agg [.ints .u64 5 (y6)]),(24,.int .i64 (i1369))] (ck b9 188 [.ints .u64 10 (a1370)]::(ck b4 80 [.ints .u64 5 ((List.replicate 5 0))]::(ck b3 80 [.ints .u64 5 (y7)]::(ck b2 80 [.ints .u64 5 (y6)] :: [])))) t m) big ?_ ?_
  ·exact ⟨0,(List.replicate 10 0),h,⟨⟨rfl,rfl,rfl,rfl,rfl,trivial⟩,(.one .here (.one .here (.one .here (.one .here .nil))))⟩⟩
  ·rintro n1372 t m ⟨i1369,a1370,h,hF⟩
   refine wc_fit hF ?_
   clear hF
   rcases n1372 with _ | n1372
   · exact none_i h
   have h:field_Mul_b1 y6 y7 k837 (field_Mul_l1 y6 y7 k837 n1372) i1369 a1370=some r:=h
   unfold field_Mul_b1 at h
   obtain ⟨k1371,qk1371⟩ : ∃ k,k=field_Mul_l1 y6 y7 k837 n1372:=⟨_,rfl⟩
   try rw [← qk1371] at h
   refine wc_seq<|wc_ops<|wj_q _ (q_bin rfl rfl rfl)<|wj_nil<|wc_seq<|wc_br h rfl (fun h=>?_) (fun h=>?_)
   ·refine wc_skip<|wc_seq<|wc_block<|wc_seq<|cH h fun c1376 h=>bH h fun z1377 ez1377 h=>wc_ops<|wj_m rfl<|wj_q _ (iz ez1377 (q_idxi (len:=5) rfl rfl (inB_z c1376)))<|wj_m rfl<|wj_m rfl<|wj_nil<|wc_seq<|wc_ops<|wj_q _ (q_ld (p:=[.ints .u64 5 (y7)]) rfl (.there (.there .here)) rfl)<|wj_m rfl<|wj_nil<|jH h fun k1520 qk1520 h=>wc_mono2 (G:=fun t m=>∃ (a1519:List Int),k1520 a1519=some r∧Fit [(3,.pointer (some ⟨b3,0,none⟩)),(4,.pointer (some ⟨b4,0,none⟩)),(5,.pointer (some ⟨b9,0,none⟩)),(23,agg [.ints .u64 5 (y6)]),(24,.int .i64 (i1369))] (ck b9 188 [.ints .u64 10 (a1519)]::(ck b4 80 [.ints .u64 5 ((List.replicate 5 0))]::(ck b3 80 [.ints .u64 5 (y7)]::(ck b2 80 [.ints .u64 5 (y6)] :: [])))) t m) ?_ ?_
    ·refine wc_block<|wc_loopJ (fun n1614 t m=>∃ (i1611:Int) (a1612:List Int),field_Mul_l2 y7 i1369 z1377 k1520 n1614 i1611 a1612=some r∧Fit [(3,.pointer (some ⟨b3,0,none⟩)),(4,.pointer (some ⟨b4,0,none⟩)),(5,.pointer (some ⟨b9,0,none⟩)),(6,.int .i64 (i1369)),(7,.int .u64 (z1377)),(23,agg [.ints .u64 5 (y6)]),(24,.int .i64 (i1369)),(28,agg [.ints .u64 5 (y7)]),(29,.int .i64 (i1611))] (ck b9 188 [.ints .u64 10 (a1612)]::(ck b4 80 [.ints .u64 5 ((List.replicate 5 0))]::(ck b3 80 [.ints .u64 5 (y7)]::(ck b2 80 [.ints .u64 5 (y6)] :: [])))) t m) big ?_ ?_
     ·exact ⟨0,a1370,h,⟨⟨rfl,rfl,rfl,rfl,rfl,rfl,rfl,rfl,rfl,trivial⟩,(.one .here (.one .here (.one .here (.one .here .nil))))⟩⟩
     ·rintro n1614 t m ⟨i1611,a1612,h,hF⟩
      refine wc_fit hF ?_
      clear hF
      rcases n1614 with _ | n1614
      · exact none_i h
      have h:field_Mul_b2 y7 i1369 z1377 k1520 (field_Mul_l2 y7 i1369 z1377 k1520 n1614) i1611 a1612=some r:=h
      unfold field_Mul_b2 at h
      obtain ⟨k1613,qk1613⟩ : ∃ k,k=field_Mul_l2 y7 i1369 z1377 k1520 n1614:=⟨_,rfl⟩
      try rw [← qk1613] at h
      refine wc_seq<|wc_ops<|wj_q _ (q_bin rfl rfl rfl)<|wj_nil<|wc_seq<|wc_br h rfl (fun h=>?_) (fun h=>?_)
      ·refine wc_skip<|wc_seq<|jH h fun k1638 qk1638 h=>wc_mono2 (G:=fun t m=>∃ (a1637:List Int),k1638 a1637=some r∧Fit [(3,.pointer (some ⟨b3,0,none⟩)),(4,.pointer (some ⟨b4,0,none⟩)),(5,.pointer (some ⟨b9,0,none⟩)),(6,.int .i64 (i1369)),(7,.int .u64 (z1377)),(23,agg [.ints .u64 5 (y6)]),(24,.int .i64 (i1369)),(28,agg [.ints .u64 5 (y7)]),(29,.int .i64 (i1611))] (ck b9 188 [.ints .u64 10 (a1637)]::(ck b4 80 [.ints .u64 5 ((List.replicate 5 0))]::(ck b3 80 [.ints .u64 5 (y7)]::(ck b2 80 [.ints .u64 5 (y6)] :: [])))) t m) ?_ ?_
       ·refine wc_block<|wc_seq<|cH h fun c1640 h=>bH h fun z1641 ez1641 h=>wc_ops<|wj_m rfl<|wj_q _ (iz ez1641 (q_idxi (len:=5) rfl rfl (inB_z c1640)))<|wj_m rfl<|wj_m rfl<|wj_nil<|wc_seq<|bH h fun z1643 ez1643 h=>wc_ops<|wj_m rfl<|wj_m rfl<|wj_q _ (iz ez1643 (q_bin rfl rfl rfl))<|wj_q _ (q_bin rfl rfl rfl)<|wj_nil<|wc_br h rfl (fun h=>?_) (fun h=>?_)
        ·refine bH h fun z1646 ez1646 h=>cH h fun c1647 h=>oH h fun y1648 ey1648 h=>wc_ops<|wj_m rfl<|wj_m rfl<|wj_q _ (iz ez1646 (q_bin rfl rfl rfl))<|wj_q _ (q_ia rfl rfl (inB_z c1647))<|wj_m rfl<|wj_m rfl<|wj_e (ef_callS (mS:=[_]) rfl (Take1.perm .here) (fun w hw=>field_wide_add_spec  ey1648 (sat_own hw (mS:=[_]) (Take1.perm .here)) ) fun v1649 Msv1649 R1650=>?_)
         obtain ⟨rfl,rfl⟩:=R1650
         exact wj_nil<|⟨y1648,h,⟨⟨rfl,rfl,rfl,rfl,rfl,rfl,rfl,rfl,rfl,trivial⟩,(.one .here (.one .here (.one .here (.one .here .nil))))⟩⟩
        ·refine bH h fun z1652 ez1652 h=>bH h fun z1653 ez1653 h=>cH h fun c1654 h=>bH h fun z1655 ez1655 h=>oH h fun y1656 ey1656 h=>wc_ops<|wj_m rfl<|wj_m rfl<|wj_q _ (iz ez1652 (q_bin rfl rfl rfl))<|wj_q _ (iz ez1653 (q_bin rfl rfl rfl))<|wj_q _ (q_ia rfl rfl (inB_z c1654))<|wj_m rfl<|wj_m rfl<|wj_q _ (iz ez1655 (q_bin rfl rfl rfl))<|wj_e (ef_callS (mS:=[_]) rfl (Take1.perm .here) (fun w hw=>field_wide_add_spec  ey1656 (sat_own hw (mS:=[_]) (Take1.perm .here)) ) fun v1657 Msv1657 R1658=>?_)
         obtain ⟨rfl,rfl⟩:=R1658
         exact wj_nil<|⟨y1656,h,⟨⟨rfl,rfl,rfl,rfl,rfl,rfl,rfl,rfl,rfl,trivial⟩,(.one .here (.one .here (.one .here (.one .here .nil))))⟩⟩
       ·rintro t m ⟨a1637,h,hF⟩
        refine wc_fit hF ?_
        clear hF
        subst qk1638
        refine bH h fun z1660 ez1660 h=>wc_ops<|wj_q _ (iz ez1660 (q_bin rfl rfl rfl))<|wj_m rfl<|wj_nil ?_
        rw [qk1613] at h
        exact ⟨n1614,Nat.lt_succ_self _,z1660,a1637,h,⟨⟨rfl,rfl,rfl,rfl,rfl,rfl,rfl,rfl,rfl,trivial⟩,(.one .here (.one .here (.one .here (.one .here .nil))))⟩⟩
      ·exact wc_exit _ rfl<|⟨a1612,h,⟨⟨rfl,rfl,rfl,rfl,rfl,trivial⟩,(.one .here (.one .here (.one .here (.one .here .nil))))⟩⟩
    ·rintro t m ⟨a1519,h,hF⟩
     refine wc_fit hF ?_
     clear hF
     subst qk1520
     refine bH h fun z1662 ez1662 h=>wc_ops<|wj_q _ (iz ez1662 (q_bin rfl rfl rfl))<|wj_m rfl<|wj_nil ?_
     rw [qk1371] at h
     exact ⟨n1372,Nat.lt_succ_self _,z1662,a1519,h,⟨⟨rfl,rfl,rfl,rfl,rfl,trivial⟩,(.one .here (.one .here (.one .here (.one .here .nil))))⟩⟩
   ·exact wc_exit _ rfl<|⟨a1370,h,⟨⟨rfl,rfl,trivial⟩,(.one .here (.one .here (.one .here (.one .here .nil))))⟩⟩
 ·rintro t m ⟨a836,h,hF⟩
  refine wc_fit hF ?_
  clear hF
  subst qk837
  refine wc_seq<|wc_ops<|wj_e (ef_al fun b1664 hb1664=>wj_nil<|wc_seq<|wc_ops<|wj_m rfl<|wj_nil<|wc_seq<|wc_seq<|wc_ops<|wj_q _ (q_ld (p:=[.ints .u64 10 (a836)]) rfl (.there .here) rfl)<|wj_m rfl<|wj_nil<|jH h fun k1742 qk1742 h=>wc_mono2 (G:=fun t m=>∃ (i1740:Int) (a1741:List Int),k1742 i1740 a1741=some r∧Fit [(4,.pointer (some ⟨b4,0,none⟩)),(10,.pointer (some ⟨b1664,0,none⟩)),(11,.int .u64 (i1740))] (ck b1664 80 [.ints .u64 5 (a1741)]::(ck b9 188 [.ints .u64 10 (a836)]::(ck b4 80 [.ints .u64 5 ((List.replicate 5 0))]::(ck b3 80 [.ints .u64 5 (y7)]::(ck b2 80 [.ints .u64 5 (y6)] :: []))))) t m) ?_ ?_)
  ·refine wc_block<|wc_loopJ (fun n1792 t m=>∃ (i1788:Int) (i1789:Int) (a1790:List Int),field_Mul_l3 a836 k1742 n1792 i1788 i1789 a1790=some r∧Fit [(4,.pointer (some ⟨b4,0,none⟩)),(10,.pointer (some ⟨b1664,0,none⟩)),(11,.int .u64 (i1788)),(55,agg [.ints .u64 10 (a836)]),(56,.int .i64 (i1789))] (ck b1664 80 [.ints .u64 5 (a1790)]::(ck b9 188 [.ints .u64 10 (a836)]::(ck b4 80 [.ints .u64 5 ((List.replicate 5 0))]::(ck b3 80 [.ints .u64 5 (y7)]::(ck b2 80 [.ints .u64 5 (y6)] :: []))))) t m) big ?_ ?_
   ·exact ⟨0,0,(List.replicate 5 0),h,⟨⟨rfl,rfl,rfl,rfl,rfl,trivial⟩,(.one .here (.one .here (.one .here (.one .here (.one .here .nil)))))⟩⟩
   ·rintro n1792 t m ⟨i1788,i1789,a1790,h,hF⟩
    refine wc_fit hF ?_
    clear hF
    rcases n1792 with _ | n1792
    · exact none_i h
    have h:field_Mul_b3 a836 k1742 (field_Mul_l3 a836 k1742 n1792) i1788 i1789 a1790=some r:=h
    unfold field_Mul_b3 at h
    obtain ⟨k1791,qk1791⟩ : ∃ k,k=field_Mul_l3 a836 k1742 n1792:=⟨_,rfl⟩
    try rw [← qk1791] at h
    refine wc_seq<|wc_ops<|wj_q _ (q_bin rfl rfl rfl)<|wj_nil<|wc_seq<|wc_br h rfl (fun h=>?_) (fun h=>?_)
    ·refine wc_skip<|wc_seq<|wc_block<|wc_seq<|cH h fun c1796 h=>bH h fun l1797 el1797 h=>wc_ops<|wj_m rfl<|wj_q _ (az (fun z=>agg [.ints .u64 2 z]) el1797 (q_idxf (len:=5) (w:=2) rfl rfl (inB_z c1796)))<|wj_e (ef_al fun b1798 hb1798=>wj_m rfl<|wj_e (ef_st (q:=[.ints .u64 2 (l1797)]) rfl rfl rfl rfl rfl .here<|wj_nil<|wc_seq<|bH h fun z1800 ez1800 h=>cH h fun c1801 h=>bH h fun z1802 ez1802 h=>bH h fun z1803 ez1803 h=>wc_ops<|wj_q _ (q_fa rfl)<|wj_q _ (iz ez1800 (q_ld1 rfl .here rfl))<|wj_m rfl<|wj_q _ (q_xcall rfl ext_add (xadd ez1802 ez1803 c1801))<|wj_m rfl<|wj_q _ (q_ext rfl rfl)<|wj_q _ (q_ext rfl rfl)<|wj_m rfl<|wj_m rfl<|wj_nil<|wc_seq<|bH h fun z1805 ez1805 h=>cH h fun c1806 h=>bH h fun l1807 el1807 h=>wc_ops<|wj_m rfl<|wj_m rfl<|wj_q _ (iz ez1805 (q_bin rfl rfl rfl))<|wj_q _ (q_ia rfl rfl (inB_z c1806))<|wj_e (ef_stiz (q:=[.ints .u64 5 (l1807)]) (base:=0) el1807 rfl rfl rfl (inB_n c1806) rfl (.there .here)<|wj_nil<|bH h fun z1809 ez1809 h=>bH h fun z1810 ez1810 h=>bH h fun z1811 ez1811 h=>bH h fun z1812 ez1812 h=>bH h fun z1813 ez1813 h=>wc_ops<|wj_q _ (q_fa rfl)<|wj_q _ (iz ez1809 (q_ld1 rfl .here rfl))<|wj_m rfl<|wj_q _ (iz ez1810 (q_bin rfl rfl rfl))<|wj_q _ (iz ez1811 (q_shl rfl rfl (by decide)))<|wj_m rfl<|wj_q _ (iz ez1812 (q_shr rfl rfl (by decide)))<|wj_q _ (iz ez1813 (q_bin rfl rfl rfl))<|wj_m rfl<|wj_nil<|bH h fun z1815 ez1815 h=>wc_ops<|wj_q _ (iz ez1815 (q_bin rfl rfl rfl))<|wj_m rfl<|wj_nil ?_)))
     rw [qk1791] at h
     exact ⟨n1792,Nat.lt_succ_self _,z1813,z1815,l1807,h,⟨⟨rfl,rfl,rfl,rfl,rfl,trivial⟩,(.one (.there .here) (.one (.there .here) (.one (.there .here) (.one (.there .here) (.one (.there .here) .nil)))))⟩⟩
    ·exact wc_exit _ rfl<|⟨i1788,a1790,h,⟨⟨rfl,rfl,rfl,trivial⟩,(.one .here (.one .here (.one .here (.one .here (.one .here .nil)))))⟩⟩
  ·rintro t m ⟨i1740,a1741,h,hF⟩
   refine wc_fit hF ?_
   clear hF
   subst qk1742
   refine wc_seq<|wc_ops<|wj_e (ef_al fun b1817 hb1817=>wj_nil<|wc_seq<|oH h fun y1819 ey1819 h=>wc_ops<|wj_m rfl<|wj_e (ef_callS (mS:=[_]) rfl (Take1.perm .here) (fun w hw=>field_wide_add_spec  ey1819 (sat_own hw (mS:=[_]) (Take1.perm .here)) ) fun v1820 Msv1820 R1821=>?_))
   obtain ⟨rfl,rfl⟩:=R1821
   refine wj_nil<|wc_seq<|bH h fun z1823 ez1823 h=>bH h fun z1824 ez1824 h=>cH h fun c1825 h=>bH h fun z1826 ez1826 h=>bH h fun z1827 ez1827 h=>wc_ops<|wj_q _ (q_fa rfl)<|wj_q _ (iz ez1823 (q_ld1 rfl .here rfl))<|wj_q _ (q_ia rfl rfl (by decide))<|wj_q _ (iz ez1824 (q_ld1 rfl (.there .here) rfl))<|wj_q _ (q_xcall rfl ext_add (xadd ez1826 ez1827 c1825))<|wj_m rfl<|wj_q _ (q_ext rfl rfl)<|wj_q _ (q_ext rfl rfl)<|wj_m rfl<|wj_m rfl<|wj_nil<|wc_seq<|bH h fun z1829 ez1829 h=>bH h fun l1830 el1830 h=>wc_ops<|wj_m rfl<|wj_q _ (iz ez1829 (q_bin rfl rfl rfl))<|wj_q _ (q_ia rfl rfl (by decide))<|wj_e (ef_st1z (q:=[.ints .u64 5 (l1830)]) (congrArg (fun z=>([.ints .u64 5 (z)]:List Seg)) el1830.symm) rfl rfl rfl rfl (.there .here)<|wj_nil<|wc_seq<|bH h fun z1832 ez1832 h=>bH h fun z1833 ez1833 h=>bH h fun z1834 ez1834 h=>bH h fun z1835 ez1835 h=>bH h fun z1836 ez1836 h=>bH h fun z1837 ez1837 h=>bH h fun z1838 ez1838 h=>bH h fun l1839 el1839 h=>wc_ops<|wj_q _ (q_ia rfl rfl (by decide))<|wj_q _ (iz ez1832 (q_ld1 rfl (.there .here) rfl))<|wj_q _ (q_fa rfl)<|wj_q _ (iz ez1833 (q_ld1 rfl .here rfl))<|wj_m rfl<|wj_q _ (iz ez1834 (q_bin rfl rfl rfl))<|wj_q _ (iz ez1835 (q_shl rfl rfl (by decide)))<|wj_m rfl<|wj_q _ (iz ez1836 (q_shr rfl rfl (by decide)))<|wj_q _ (iz ez1837 (q_bin rfl rfl rfl))<|wj_q _ (iz ez1838 (q_bin rfl rfl rfl))<|wj_q _ (q_ia rfl rfl (by decide))<|wj_e (ef_st1z (q:=[.ints .u64 5 (l1839)]) (congrArg (fun z=>([.ints .u64 5 (z)]:List Seg)) el1839.symm) rfl rfl rfl rfl (.there .here)<|wj_nil<|wc_seq<|oH h fun y1841 ey1841 h=>wc_ops<|wj_q _ (q_ld (p:=[.ints .u64 5 (l1839)]) rfl (.there .here) rfl)<|wj_q _ (q_cl rfl (field_reduce_spec ey1841))<|wj_e (ef_st (q:=[.ints .u64 5 (y1841)]) rfl rfl rfl rfl rfl (.there (.there (.there .here)))<|wj_nil<|wc_ret ?_)))
   revert h; refine ret_i fun h=>?_
   subst h
   exact ⟨_,(.cons (.agg rfl (.there (.there (.there .here))) rfl) .nil),rfl⟩
def field_Square (p0:List Int):OL :=
 opt (field_Mul p0 p0) fun y5 =>
 some y5
theorem field_Square_spec {W:World} {r:(List Int)} {p0:List Int} (h:field_Square p0=some r)  :
    Calls Tryz.prog 123 [agg [.ints .u64 5 (p0)]].toArray W (ret1 W (agg [.ints .u64 5 (r)])):=by
 unfold field_Square at h
 refine calls_val mo ok123 rfl ?_
 refine wc_seq<|wc_ops<|wj_e (ef_bx (s:=[.ints .u64 5 (p0)]) rfl fun b2 hb2=>wj_e (ef_al fun b3 hb3=>wj_nil<|wc_seq<|oH h fun y5 ey5 h=>wc_ops<|wj_q _ (q_ld (p:=[.ints .u64 5 (p0)]) rfl (.there .here) rfl)<|wj_q _ (q_ld (p:=[.ints .u64 5 (p0)]) rfl (.there .here) rfl)<|wj_q _ (q_cl rfl (field_Mul_spec ey5))<|wj_e (ef_st (q:=[.ints .u64 5 (y5)]) rfl rfl rfl rfl rfl .here<|wj_nil<|wc_ret ?_)))
 revert h; refine ret_i fun h=>?_
 subst h
 exact ⟨_,(.cons (.agg rfl .here rfl) .nil),rfl⟩
def field_Small (p0:Int):OL :=
 bnd (([p0,0,0,0,0]:List Int)) fun z4 =>
 opt (field_reduce z4) fun y5 =>
 some y5
theorem field_Small_spec {W:World} {r:(List Int)} {p0:Int} (h:field_Small p0=some r)  :
    Calls Tryz.prog 188 [.int .u64 (p0)].toArray W (ret1 W (agg [.ints .u64 5 (r)])):=by
 unfold field_Small at h
 refine calls_val mo ok188 rfl ?_
 refine wc_seq<|wc_ops<|wj_e (ef_al fun b2 hb2=>wj_nil<|wc_seq<|bH h fun z4 ez4 h=>oH h fun y5 ey5 h=>wc_ops<|wj_m rfl<|wj_q _ (az (fun z=>agg [.ints .u64 5 z]) ez4 (q_bd (.one rfl rfl rfl BdR.nil)))<|wj_q _ (q_cl rfl (field_reduce_spec ey5))<|wj_e (ef_st (q:=[.ints .u64 5 (y5)]) rfl rfl rfl rfl rfl .here<|wj_nil<|wc_ret ?_))
 revert h; refine ret_i fun h=>?_
 subst h
 exact ⟨_,(.cons (.agg rfl .here rfl) .nil),rfl⟩
def field_Pow_b1 (p0:List Int) (p1:List Int) (k102:(List Int)→OL) (k161:(Int)→(List Int)→OL) (i159:Int) (a160:List Int):OL :=
 br ((decide (i159≥0))) (
 jn (fun (a178:List Int)=>bnd (IntKind.wrap .i64 (i159-1)) fun z194 =>
 k161 z194 a178) fun k179=>opt (field_Square a160) fun y181 =>
 bnd (IntKind.wrap .i64 (Int.tdiv i159 8)) fun z183 =>
 chk (inB z183 32) <|
 bnd (p1.getD (z183).toNat 0) fun z185 =>
 bnd (Int.tmod i159 8) fun z186 =>
 chk (decide (0≤z186)) <|
 bnd (shrV .u8 z185 z186) fun z188 =>
 bnd (bitsV .and .u8 z188 1) fun z189 =>
 br ((z189==1)) (
 opt (field_Mul y181 p0) fun y192 =>
 k179 y192
 ) (
 k179 y181
 )
 ) (
 k102 a160
 )
def field_Pow_l1 (p0:List Int) (p1:List Int) (k102:(List Int)→OL):Nat→(Int)→(List Int)→OL
  | 0,_,_=>none
  | n+1,i159,a160=>field_Pow_b1 p0 p1 k102 (field_Pow_l1 p0 p1 k102 n) i159 a160
def field_Pow (p0:List Int) (p1:List Int):OL :=
 opt (field_Small 1) fun y6 =>
 jn (fun (a101:List Int)=>some a101) fun k102=>field_Pow_l1 p0 p1 k102 big 255 y6
theorem field_Pow_spec {W:World} {r:(List Int)} {p0:List Int} {p1:List Int} (h:field_Pow p0 p1=some r)  :
    Calls Tryz.prog 153 [agg [.ints .u64 5 (p0)],agg [.ints .u8 32 (p1)]].toArray W (ret1 W (agg [.ints .u64 5 (r)])):=by
 unfold field_Pow at h
 refine calls_val mo ok153 rfl ?_
 refine wc_seq<|wc_ops<|wj_e (ef_bx (s:=[.ints .u64 5 (p0)]) rfl fun b2 hb2=>wj_e (ef_bx (s:=[.ints .u8 32 (p1)]) rfl fun b3 hb3=>wj_e (ef_al fun b4 hb4=>wj_nil<|wc_seq<|oH h fun y6 ey6 h=>wc_ops<|wj_q _ (q_cl rfl (field_Small_spec ey6))<|wj_e (ef_al fun b7 hb7=>wj_e (ef_st (q:=[.ints .u64 5 (y6)]) rfl rfl rfl rfl rfl .here<|wj_nil<|wc_seq<|wc_seq<|wc_ops<|wj_m rfl<|wj_nil<|jH h fun k102 qk102 h=>wc_mono2 (G:=fun t m=>∃ (a101:List Int),k102 a101=some r∧Fit [(4,.pointer (some ⟨b4,0,none⟩)),(5,.pointer (some ⟨b7,0,none⟩))] (ck b7 80 [.ints .u64 5 (a101)]::(ck b4 80 [.ints .u64 5 ((List.replicate 5 0))]::(ck b3 22 [.ints .u8 32 (p1)]::(ck b2 80 [.ints .u64 5 (p0)] :: [])))) t m) ?_ ?_)))))
 ·refine wc_block<|wc_loopJ (fun n162 t m=>∃ (i159:Int) (a160:List Int),field_Pow_l1 p0 p1 k102 n162 i159 a160=some r∧Fit [(2,.pointer (some ⟨b2,0,none⟩)),(3,.pointer (some ⟨b3,0,none⟩)),(4,.pointer (some ⟨b4,0,none⟩)),(5,.pointer (some ⟨b7,0,none⟩)),(6,.int .i64 (i159))] (ck b7 80 [.ints .u64 5 (a160)]::(ck b4 80 [.ints .u64 5 ((List.replicate 5 0))]::(ck b3 22 [.ints .u8 32 (p1)]::(ck b2 80 [.ints .u64 5 (p0)] :: [])))) t m) big ?_ ?_
  ·exact ⟨255,y6,h,⟨⟨rfl,rfl,rfl,rfl,rfl,trivial⟩,(.one .here (.one .here (.one .here (.one .here .nil))))⟩⟩
  ·rintro n162 t m ⟨i159,a160,h,hF⟩
   refine wc_fit hF ?_
   clear hF
   rcases n162 with _ | n162
   · exact none_i h
   have h:field_Pow_b1 p0 p1 k102 (field_Pow_l1 p0 p1 k102 n162) i159 a160=some r:=h
   unfold field_Pow_b1 at h
   obtain ⟨k161,qk161⟩ : ∃ k,k=field_Pow_l1 p0 p1 k102 n162:=⟨_,rfl⟩
   try rw [← qk161] at h
   refine wc_seq<|wc_seq<|wc_ops<|wj_m rfl<|wj_q _ (q_bin rfl rfl rfl)<|wj_nil<|wc_br h rfl (fun h=>?_) (fun h=>?_)
   ·refine wc_skip<|wc_seq<|jH h fun k179 qk179 h=>wc_mono2 (G:=fun t m=>∃ (a178:List Int),k179 a178=some r∧Fit [(2,.pointer (some ⟨b2,0,none⟩)),(3,.pointer (some ⟨b3,0,none⟩)),(4,.pointer (some ⟨b4,0,none⟩)),(5,.pointer (some ⟨b7,0,none⟩)),(6,.int .i64 (i159))] (ck b7 80 [.ints .u64 5 (a178)]::(ck b4 80 [.ints .u64 5 ((List.replicate 5 0))]::(ck b3 22 [.ints .u8 32 (p1)]::(ck b2 80 [.ints .u64 5 (p0)] :: [])))) t m) ?_ ?_
    ·refine wc_block<|wc_seq<|oH h fun y181 ey181 h=>wc_ops<|wj_q _ (q_ld (p:=[.ints .u64 5 (a160)]) rfl .here rfl)<|wj_q _ (q_cl rfl (field_Square_spec ey181))<|wj_e (ef_st (q:=[.ints .u64 5 (y181)]) rfl rfl rfl rfl rfl .here<|wj_nil<|wc_seq<|bH h fun z183 ez183 h=>cH h fun c184 h=>bH h fun z185 ez185 h=>bH h fun z186 ez186 h=>cH h fun c187 h=>bH h fun z188 ez188 h=>bH h fun z189 ez189 h=>wc_ops<|wj_m rfl<|wj_q _ (iz ez183 (q_quo rfl rfl (by decide)))<|wj_q _ (q_ia rfl rfl (inB_z c184))<|wj_q _ (iz ez185 (q_ldi (base:=0) rfl (.there (.there .here)) rfl (inB_n c184)))<|wj_m rfl<|wj_q _ (iz ez186 (q_rem rfl rfl (by decide)))<|wj_q _ (iz ez188 (q_shr rfl rfl (of_decide_eq_true c187)))<|wj_q _ (iz ez189 (q_bin rfl rfl rfl))<|wj_q _ (q_bin rfl rfl rfl)<|wj_nil<|wc_br h rfl (fun h=>?_) (fun h=>?_))
     ·exact oH h fun y192 ey192 h=>wc_ops<|wj_q _ (q_ld (p:=[.ints .u64 5 (y181)]) rfl .here rfl)<|wj_q _ (q_ld (p:=[.ints .u64 5 (p0)]) rfl (.there (.there (.there .here))) rfl)<|wj_q _ (q_cl rfl (field_Mul_spec ey192))<|wj_e (ef_st (q:=[.ints .u64 5 (y192)]) rfl rfl rfl rfl rfl .here<|wj_nil<|⟨y192,h,⟨⟨rfl,rfl,rfl,rfl,rfl,trivial⟩,(.one .here (.one .here (.one .here (.one .here .nil))))⟩⟩)
     ·exact wc_skip<|⟨y181,h,⟨⟨rfl,rfl,rfl,rfl,rfl,trivial⟩,(.one .here (.one .here (.one .here (.one .here .nil))))⟩⟩
    ·rintro t m ⟨a178,h,hF⟩
     refine wc_fit hF ?_
     clear hF
     subst qk179
     refine bH h fun z194 ez194 h=>wc_ops<|wj_m rfl<|wj_q _ (iz ez194 (q_bin rfl rfl rfl))<|wj_m rfl<|wj_nil ?_
     rw [qk161] at h
     exact ⟨n162,Nat.lt_succ_self _,z194,a178,h,⟨⟨rfl,rfl,rfl,rfl,rfl,trivial⟩,(.one .here (.one .here (.one .here (.one .here .nil))))⟩⟩
   ·exact wc_exit _ rfl<|⟨a160,h,⟨⟨rfl,rfl,trivial⟩,(.one .here (.one .here (.one .here (.one .here .nil))))⟩⟩
 ·rintro t m ⟨a101,h,hF⟩
  refine wc_fit hF ?_
  clear hF
  subst qk102
  refine wc_seq<|wc_ops<|wj_q _ (q_ld (p:=[.ints .u64 5 (a101)]) rfl .here rfl)<|wj_e (ef_st (q:=[.ints .u64 5 (a101)]) rfl rfl rfl rfl rfl (.there .here)<|wj_nil<|wc_ret ?_)
  revert h; refine ret_i fun h=>?_
  subst h
  exact ⟨_,(.cons (.agg rfl (.there .here) rfl) .nil),rfl⟩
def field_power_b1 (k34:(List Int)→OL) (k52:(Int)→(List Int)→OL) (i50:Int) (a51:List Int):OL :=
 br ((decide (i50<32))) (
 chk (inB i50 32) <|
 bnd (setD a51 (i50).toNat 255) fun l59 =>
 bnd (IntKind.wrap .i64 (i50+1)) fun z61 =>
 k52 z61 l59
 ) (
 k34 a51
 )
def field_power_l1 (k34:(List Int)→OL):Nat→(Int)→(List Int)→OL
  | 0,_,_=>none
  | n+1,i50,a51=>field_power_b1 k34 (field_power_l1 k34 n) i50 a51
def field_power (p0:Int) (p1:Int):OL :=
 jn (fun (a33:List Int)=>bnd (setD a33 0 p0) fun l63 =>
 bnd (setD l63 31 p1) fun l64 =>
 some l64) fun k34=>field_power_l1 k34 big 0 (List.replicate 32 0)
theorem field_power_spec {W:World} {r:(List Int)} {p0:Int} {p1:Int} (h:field_power p0 p1=some r)  :
    Calls Tryz.prog 154 [.int .u8 (p0),.int .u8 (p1)].toArray W (ret1 W (agg [.ints .u8 32 (r)])):=by
 unfold field_power at h
 refine calls_val mo ok154 rfl ?_
 refine wc_seq<|wc_ops<|wj_e (ef_al fun b2 hb2=>wj_nil<|wc_seq<|wc_ops<|wj_e (ef_al fun b4 hb4=>wj_nil<|wc_seq<|wc_seq<|wc_ops<|wj_m rfl<|wj_nil<|jH h fun k34 qk34 h=>wc_mono2 (G:=fun t m=>∃ (a33:List Int),k34 a33=some r∧Fit [(0,.int .u8 (p0)),(1,.int .u8 (p1)),(4,.pointer (some ⟨b2,0,none⟩)),(5,.pointer (some ⟨b4,0,none⟩))] (ck b4 22 [.ints .u8 32 (a33)]::(ck b2 22 [.ints .u8 32 ((List.replicate 32 0))] :: [])) t m) ?_ ?_))
 ·refine wc_block<|wc_loopJ (fun n53 t m=>∃ (i50:Int) (a51:List Int),field_power_l1 k34 n53 i50 a51=some r∧Fit [(0,.int .u8 (p0)),(1,.int .u8 (p1)),(4,.pointer (some ⟨b2,0,none⟩)),(5,.pointer (some ⟨b4,0,none⟩)),(7,.int .i64 (i50))] (ck b4 22 [.ints .u8 32 (a51)]::(ck b2 22 [.ints .u8 32 ((List.replicate 32 0))] :: [])) t m) big ?_ ?_
  ·exact ⟨0,(List.replicate 32 0),h,⟨⟨rfl,rfl,rfl,rfl,rfl,trivial⟩,(.one .here (.one .here .nil))⟩⟩
  ·rintro n53 t m ⟨i50,a51,h,hF⟩
   refine wc_fit hF ?_
   clear hF
   rcases n53 with _ | n53
   · exact none_i h
   have h:field_power_b1 k34 (field_power_l1 k34 n53) i50 a51=some r:=h
   unfold field_power_b1 at h
   obtain ⟨k52,qk52⟩ : ∃ k,k=field_power_l1 k34 n53:=⟨_,rfl⟩
   try rw [← qk52] at h
   refine wc_seq<|wc_ops<|wj_q _ (q_bin rfl rfl rfl)<|wj_nil<|wc_seq<|wc_br h rfl (fun h=>?_) (fun h=>?_)
   ·refine wc_skip<|wc_seq<|wc_block<|wc_seq<|wc_ops<|wj_m rfl<|wj_m rfl<|wj_nil<|cH h fun c58 h=>bH h fun l59 el59 h=>wc_ops<|wj_m rfl<|wj_q _ (q_ia rfl rfl (inB_z c58))<|wj_e (ef_stiz (q:=[.ints .u8 32 (l59)]) (base:=0) el59 rfl rfl rfl (inB_n c58) rfl .here<|wj_nil<|bH h fun z61 ez61 h=>wc_ops<|wj_q _ (iz ez61 (q_bin rfl rfl rfl))<|wj_m rfl<|wj_nil ?_)
    rw [qk52] at h
    exact ⟨n53,Nat.lt_succ_self _,z61,l59,h,⟨⟨rfl,rfl,rfl,rfl,rfl,trivial⟩,(.one .here (.one .here .nil))⟩⟩
   ·exact wc_exit _ rfl<|⟨a51,h,⟨⟨rfl,rfl,rfl,rfl,trivial⟩,(.one .here (.one .here .nil))⟩⟩
 ·rintro t m ⟨a33,h,hF⟩
  refine wc_fit hF ?_
  clear hF
  subst qk34
  refine wc_seq<|bH h fun l63 el63 h=>bH h fun l64 el64 h=>wc_ops<|wj_m rfl<|wj_m rfl<|wj_q _ (q_ia rfl rfl (by decide))<|wj_e (ef_st1z (q:=[.ints .u8 32 (l63)]) (congrArg (fun z=>([.ints .u8 32 (z)]:List Seg)) el63.symm) rfl rfl rfl rfl .here<|wj_q _ (q_ia rfl rfl (by decide))<|wj_e (ef_st1z (q:=[.ints .u8 32 (l64)]) (congrArg (fun z=>([.ints .u8 32 (z)]:List Seg)) el64.symm) rfl rfl rfl rfl .here<|wj_nil<|wc_seq<|wc_ops<|wj_q _ (q_ld (p:=[.ints .u8 32 (l64)]) rfl .here rfl)<|wj_e (ef_st (q:=[.ints .u8 32 (l64)]) rfl rfl rfl rfl rfl (.there .here)<|wj_nil<|wc_ret ?_)))
  revert h; refine ret_i fun h=>?_
  subst h
  exact ⟨_,(.cons (.agg rfl (.there .here) rfl) .nil),rfl⟩
def field_Invert (p0:List Int):OL :=
 opt (field_power 235 127) fun y5 =>
 opt (field_Pow p0 y5) fun y6 =>
 some y6
theorem field_Invert_spec {W:World} {r:(List Int)} {p0:List Int} (h:field_Invert p0=some r)  :
    Calls Tryz.prog 90 [agg [.ints .u64 5 (p0)]].toArray W (ret1 W (agg [.ints .u64 5 (r)])):=by
 unfold field_Invert at h
 refine calls_val mo ok90 rfl ?_
 refine wc_seq<|wc_ops<|wj_e (ef_bx (s:=[.ints .u64 5 (p0)]) rfl fun b2 hb2=>wj_e (ef_al fun b3 hb3=>wj_nil<|wc_seq<|oH h fun y5 ey5 h=>oH h fun y6 ey6 h=>wc_draw<|ws_p1 _ (q_cl rfl (field_power_spec ey5))<|ws_q1 _ (q_ld (p:=[.ints .u64 5 (p0)]) rfl (.there .here) rfl)<|ws_p1 _ (q_cl rfl (field_Pow_spec ey6))<|ws_eL rfl (ef_st (q:=[.ints .u64 5 (y6)]) rfl rfl rfl rfl rfl .here<|ws_nil<|wc_ret ?_)))
 revert h; refine ret_i fun h=>?_
 subst h
 exact ⟨_,(.cons (.agg rfl .here rfl) .nil),rfl⟩
def field_Bytes_b1 (y5:(List Int)) (k107:(List Int)→OL) (k163:(Int)→(List Int)→OL) (i161:Int) (a162:List Int):OL :=
 br ((decide (i161<32))) (
 bnd (IntKind.wrap .i64 (8*i161)) fun z169 =>
 bnd (IntKind.wrap .i64 (Int.tdiv z169 51)) fun z170 =>
 bnd (IntKind.wrap .i64 (8*i161)) fun z171 =>
 bnd (Int.tmod z171 51) fun z172 =>
 chk (inB z170 5) <|
 bnd (y5.getD (z170).toNat 0) fun z175 =>
 chk (decide (0≤z172)) <|
 bnd (shrV .u64 z175 z172) fun z177 =>
 jn (fun (i188:Int)=>bnd (IntKind.wrap .u8 i188) fun z200 =>
 chk (inB i161 32) <|
 bnd (setD a162 (i161).toNat z200) fun l202 =>
 bnd (IntKind.wrap .i64 (i161+1)) fun z204 =>
 k163 z204 l202) fun k189=>br (((decide (z172>43))&&(decide (z170<4)))) (
 bnd (IntKind.wrap .i64 (z170+1)) fun z192 =>
 chk (inB z192 5) <|
 bnd (y5.getD (z192).toNat 0) fun z194 =>
 bnd (IntKind.wrap .i64 (51-z172)) fun z195 =>
 chk (decide (0≤z195)) <|
 bnd (shlV .u64 z194 z195) fun z197 =>
 bnd (bitsV .or .u64 z177 z197) fun z198 =>
 k189 z198
 ) (
 k189 z177
 )
 ) (
 k107 a162
 )
def field_Bytes_l1 (y5:(List Int)) (k107:(List Int)→OL):Nat→(Int)→(List Int)→OL
  | 0,_,_=>none
  | n+1,i161,a162=>field_Bytes_b1 y5 k107 (field_Bytes_l1 y5 k107 n) i161 a162
def field_Bytes (p0:List Int):OL :=
 opt (field_reduce p0) fun y5 =>
 jn (fun (a106:List Int)=>some a106) fun k107=>field_Bytes_l1 y5 k107 big 0 (List.replicate 32 0)
theorem field_Bytes_spec {W:World} {r:(List Int)} {p0:List Int} (h:field_Bytes p0=some r)  :
    Calls Tryz.prog 91 [agg [.ints .u64 5 (p0)]].toArray W (ret1 W (agg [.ints .u8 32 (r)])):=by
 unfold field_Bytes at h
 refine calls_val mo ok91 rfl ?_
 refine wc_seq<|wc_ops<|wj_e (ef_bx (s:=[.ints .u64 5 (p0)]) rfl fun b2 hb2=>wj_e (ef_al fun b3 hb3=>wj_nil<|wc_seq<|oH h fun y5 ey5 h=>wc_ops<|wj_q _ (q_ld (p:=[.ints .u64 5 (p0)]) rfl (.there .here) rfl)<|wj_q _ (q_cl rfl (field_reduce_spec ey5))<|wj_e (ef_st (q:=[.ints .u64 5 (y5)]) rfl rfl rfl rfl rfl (.there .here)<|wj_nil<|wc_seq<|wc_ops<|wj_e (ef_al fun b7 hb7=>wj_nil<|wc_seq<|wc_seq<|wc_ops<|wj_m rfl<|wj_nil<|jH h fun k107 qk107 h=>wc_mono2 (G:=fun t m=>∃ (a106:List Int),k107 a106=some r∧Fit [(2,.pointer (some ⟨b3,0,none⟩)),(3,.pointer (some ⟨b7,0,none⟩))] (ck b7 22 [.ints .u8 32 (a106)]::(ck b3 22 [.ints .u8 32 ((List.replicate 32 0))]::(ck b2 80 [.ints .u64 5 (y5)] :: []))) t m) ?_ ?_))))
 ·refine wc_block<|wc_loopJ (fun n164 t m=>∃ (i161:Int) (a162:List Int),field_Bytes_l1 y5 k107 n164 i161 a162=some r∧Fit [(1,.pointer (some ⟨b2,0,none⟩)),(2,.pointer (some ⟨b3,0,none⟩)),(3,.pointer (some ⟨b7,0,none⟩)),(10,.int .i64 (i161))] (ck b7 22 [.ints .u8 32 (a162)]::(ck b3 22 [.ints .u8 32 ((List.replicate 32 0))]::(ck b2 80 [.ints .u64 5 (y5)] :: []))) t m) big ?_ ?_
  ·exact ⟨0,(List.replicate 32 0),h,⟨⟨rfl,rfl,rfl,rfl,trivial⟩,(.one .here (.one .here (.one .here .nil)))⟩⟩
  ·rintro n164 t m ⟨i161,a162,h,hF⟩
   refine wc_fit hF ?_
   clear hF
   rcases n164 with _ | n164
   · exact none_i h
   have h:field_Bytes_b1 y5 k107 (field_Bytes_l1 y5 k107 n164) i161 a162=some r:=h
   unfold field_Bytes_b1 at h
   obtain ⟨k163,qk163⟩ : ∃ k,k=field_Bytes_l1 y5 k107 n164:=⟨_,rfl⟩
   try rw [← qk163] at h
   refine wc_seq<|wc_ops<|wj_q _ (q_bin rfl rfl rfl)<|wj_nil<|wc_seq<|wc_br h rfl (fun h=>?_) (fun h=>?_)
   ·refine wc_skip<|wc_seq<|wc_block<|wc_seq<|wc_ops<|wj_m rfl<|wj_m rfl<|wj_nil<|wc_seq<|bH h fun z169 ez169 h=>bH h fun z170 ez170 h=>bH h fun z171 ez171 h=>bH h fun z172 ez172 h=>wc_ops<|wj_m rfl<|wj_q _ (iz ez169 (q_bin rfl rfl rfl))<|wj_q _ (iz ez170 (q_quo rfl rfl (by decide)))<|wj_m rfl<|wj_q _ (iz ez171 (q_bin rfl rfl rfl))<|wj_q _ (iz ez172 (q_rem rfl rfl (by decide)))<|wj_m rfl<|wj_m rfl<|wj_nil<|wc_seq<|cH h fun c174 h=>bH h fun z175 ez175 h=>cH h fun c176 h=>bH h fun z177 ez177 h=>wc_ops<|wj_m rfl<|wj_q _ (q_ia rfl rfl (inB_z c174))<|wj_q _ (iz ez175 (q_ldi (base:=0) rfl (.there (.there .here)) rfl (inB_n c174)))<|wj_m rfl<|wj_q _ (iz ez177 (q_shr rfl rfl (of_decide_eq_true c176)))<|wj_m rfl<|wj_nil<|wc_seq<|wc_seq<|wc_ops<|wj_m rfl<|wj_q _ (q_bin rfl rfl rfl)<|wj_m rfl<|wj_and rfl rfl rfl (fun hg1=>qj_g rfl _ (q_mv rfl) (qj_g rfl _ (q_bin rfl rfl rfl) (qj_nil))) (fun hg1=>rfl) rfl<|wj_nil<|jH h fun k189 qk189 h=>wc_mono2 (G:=fun t m=>∃ (i188:Int),k189 i188=some r∧Fit [(1,.pointer (some ⟨b2,0,none⟩)),(2,.pointer (some ⟨b3,0,none⟩)),(3,.pointer (some ⟨b7,0,none⟩)),(4,.int .i64 (i161)),(7,.int .u64 (i188)),(10,.int .i64 (i161))] (ck b7 22 [.ints .u8 32 (a162)]::(ck b3 22 [.ints .u8 32 ((List.replicate 32 0))]::(ck b2 80 [.ints .u64 5 (y5)] :: []))) t m) ?_ ?_
    ·refine wc_br h rfl (fun h=>?_) (fun h=>?_)
     ·exact bH h fun z192 ez192 h=>cH h fun c193 h=>bH h fun z194 ez194 h=>bH h fun z195 ez195 h=>cH h fun c196 h=>bH h fun z197 ez197 h=>bH h fun z198 ez198 h=>wc_ops<|wj_m rfl<|wj_m rfl<|wj_q _ (iz ez192 (q_bin rfl rfl rfl))<|wj_q _ (q_ia rfl rfl (inB_z c193))<|wj_q _ (iz ez194 (q_ldi (base:=0) rfl (.there (.there .here)) rfl (inB_n c193)))<|wj_m rfl<|wj_q _ (iz ez195 (q_bin rfl rfl rfl))<|wj_q _ (iz ez197 (q_shl rfl rfl (of_decide_eq_true c196)))<|wj_q _ (iz ez198 (q_bin rfl rfl rfl))<|wj_m rfl<|wj_nil<|⟨z198,h,⟨⟨rfl,rfl,rfl,rfl,rfl,rfl,trivial⟩,(.one .here (.one .here (.one .here .nil)))⟩⟩
     ·exact wc_skip<|⟨z177,h,⟨⟨rfl,rfl,rfl,rfl,rfl,rfl,trivial⟩,(.one .here (.one .here (.one .here .nil)))⟩⟩
    ·rintro t m ⟨i188,h,hF⟩
     refine wc_fit hF ?_
     clear hF
     subst qk189
     refine bH h fun z200 ez200 h=>cH h fun c201 h=>bH h fun l202 el202 h=>wc_ops<|wj_m rfl<|wj_m rfl<|wj_q _ (iz ez200 (q_conv rfl))<|wj_q _ (q_ia rfl rfl (inB_z c201))<|wj_e (ef_stiz (q:=[.ints .u8 32 (l202)]) (base:=0) el202 rfl rfl rfl (inB_n c201) rfl .here<|wj_nil<|bH h fun z204 ez204 h=>wc_ops<|wj_q _ (iz ez204 (q_bin rfl rfl rfl))<|wj_m rfl<|wj_nil ?_)
     rw [qk163] at h
     exact ⟨n164,Nat.lt_succ_self _,z204,l202,h,⟨⟨rfl,rfl,rfl,rfl,trivial⟩,(.one .here (.one .here (.one .here .nil)))⟩⟩
   ·exact wc_exit _ rfl<|⟨a162,h,⟨⟨rfl,rfl,trivial⟩,(.one .here (.one .here (.one .here .nil)))⟩⟩
 ·rintro t m ⟨a106,h,hF⟩
  refine wc_fit hF ?_
  clear hF
  subst qk107
  refine wc_seq<|wc_ops<|wj_q _ (q_ld (p:=[.ints .u8 32 (a106)]) rfl .here rfl)<|wj_e (ef_st (q:=[.ints .u8 32 (a106)]) rfl rfl rfl rfl rfl (.there .here)<|wj_nil<|wc_ret ?_)
  revert h; refine ret_i fun h=>?_
  subst h
  exact ⟨_,(.cons (.agg rfl (.there .here) rfl) .nil),rfl⟩
def field_IsOdd (p0:List Int):Option (Bool) :=
 opt (field_reduce p0) fun y4 =>
 bnd (y4.getD 0 0) fun z5 =>
 bnd (bitsV .and .u64 z5 1) fun z6 =>
 some (z6==1)
theorem field_IsOdd_spec {W:World} {r:Bool} {p0:List Int} (h:field_IsOdd p0=some r)  :
    Calls Tryz.prog 93 [agg [.ints .u64 5 (p0)]].toArray W (ret1 W (.bool (r))):=by
 unfold field_IsOdd at h
 refine calls_val mo ok93 rfl ?_
 refine wc_seq<|wc_ops<|wj_e (ef_bx (s:=[.ints .u64 5 (p0)]) rfl fun b2 hb2=>wj_m rfl<|wj_nil<|wc_seq<|oH h fun y4 ey4 h=>bH h fun z5 ez5 h=>bH h fun z6 ez6 h=>wc_ops<|wj_q _ (q_ld (p:=[.ints .u64 5 (p0)]) rfl .here rfl)<|wj_q _ (q_cl rfl (field_reduce_spec ey4))<|wj_q _ (iz ez5 (q_idxi (len:=5) (z:=0) rfl rfl (by decide)))<|wj_q _ (iz ez6 (q_bin rfl rfl rfl))<|wj_q _ (q_bin rfl rfl rfl)<|wj_m rfl<|wj_nil<|wc_ret ?_)
 revert h; refine ret_i fun h=>?_
 subst h
 exact ⟨_,(.cons (.tmp rfl) .nil),rfl⟩
structure api_Point where
  gX:List Int
  gY:List Int
  gZ:List Int
  gT:List Int
def api_Point_z:api_Point:=⟨(List.replicate 5 0),(List.replicate 5 0),(List.replicate 5 0),(List.replicate 5 0)⟩
def curve_Encode (p0:api_Point):OL :=
 opt (field_Invert p0.gZ) fun y5 =>
 opt (field_Mul p0.gY y5) fun y8 =>
 opt (field_Bytes y8) fun y9 =>
 opt (field_Mul p0.gX y5) fun y12 =>
 opt (field_IsOdd y12) fun y13 =>
 jn (fun (a19:List Int)=>some a19) fun k20=>br (y13) (
 bnd (y9.getD 31 0) fun z23 =>
 bnd (bitsV .or .u8 z23 128) fun z24 =>
 bnd (setD y9 31 z24) fun l25 =>
 k20 l25
 ) (
 k20 y9
 )
theorem curve_Encode_spec {W:World} {r:(List Int)} {p0:api_Point} (h:curve_Encode p0=some r)  :
    Calls Tryz.prog 50 [agg [.ints .u64 5 (p0.gX),.ints .u64 5 (p0.gY),.ints .u64 5 (p0.gZ),.ints .u64 5 (p0.gT)]].toArray W (ret1 W (agg [.ints .u8 32 (r)])):=by
 unfold curve_Encode at h
 refine calls_val mo ok50 rfl ?_
 refine wc_seq<|wc_ops<|wj_e (ef_bx (s:=[.ints .u64 5 (p0.gX),.ints .u64 5 (p0.gY),.ints .u64 5 (p0.gZ),.ints .u64 5 (p0.gT)]) rfl fun b2 hb2=>wj_e (ef_al fun b3 hb3=>wj_nil<|wc_seq<|oH h fun y5 ey5 h=>wc_ops<|wj_q _ (q_fa rfl)<|wj_q _ (q_ld (p:=[.ints .u64 5 (p0.gZ)]) rfl (.there .here) rfl)<|wj_q _ (q_cl rfl (field_Invert_spec ey5))<|wj_e (ef_al fun b6 hb6=>wj_e (ef_st (q:=[.ints .u64 5 (y5)]) rfl rfl rfl rfl rfl .here<|wj_nil<|wc_seq<|oH h fun y8 ey8 h=>oH h fun y9 ey9 h=>wc_ops<|wj_q _ (q_fa rfl)<|wj_q _ (q_ld (p:=[.ints .u64 5 (p0.gY)]) rfl (.there (.there .here)) rfl)<|wj_q _ (q_ld (p:=[.ints .u64 5 (y5)]) rfl .here rfl)<|wj_q _ (q_cl rfl (field_Mul_spec ey8))<|wj_q _ (q_cl rfl (field_Bytes_spec ey9))<|wj_e (ef_al fun b10 hb10=>wj_e (ef_st (q:=[.ints .u8 32 (y9)]) rfl rfl rfl rfl rfl .here<|wj_nil<|wc_seq<|wc_seq<|oH h fun y12 ey12 h=>oH h fun y13 ey13 h=>wc_ops<|wj_q _ (q_fa rfl)<|wj_q _ (q_ld (p:=[.ints .u64 5 (p0.gX)]) rfl (.there (.there (.there .here))) rfl)<|wj_q _ (q_ld (p:=[.ints .u64 5 (y5)]) rfl (.there .here) rfl)<|wj_q _ (q_cl rfl (field_Mul_spec ey12))<|wj_q _ (q_cl rfl (field_IsOdd_spec ey13))<|wj_nil<|jH h fun k20 qk20 h=>wc_mono2 (G:=fun t m=>∃ (a19:List Int),k20 a19=some r∧Fit [(2,.pointer (some ⟨b3,0,none⟩)),(4,.pointer (some ⟨b10,0,none⟩))] (ck b10 29 [.ints .u8 32 (a19)]::(ck b6 80 [.ints .u64 5 (y5)]::(ck b3 29 [.ints .u8 32 ((List.replicate 32 0))]::(ck b2 82 [.ints .u64 5 (p0.gX),.ints .u64 5 (p0.gY),.ints .u64 5 (p0.gZ),.ints .u64 5 (p0.gT)] :: [])))) t m) ?_ ?_))))))
 ·refine wc_br h rfl (fun h=>?_) (fun h=>?_)
  ·exact bH h fun z23 ez23 h=>bH h fun z24 ez24 h=>bH h fun l25 el25 h=>wc_ops<|wj_q _ (q_ia rfl rfl (by decide))<|wj_q _ (iz ez23 (q_ld1 rfl .here rfl))<|wj_q _ (iz ez24 (q_bin rfl rfl rfl))<|wj_q _ (q_ia rfl rfl (by decide))<|wj_e (ef_st1z (q:=[.ints .u8 32 (l25)]) (congrArg (fun z=>([.ints .u8 32 (z)]:List Seg)) el25.symm) rfl rfl rfl rfl .here<|wj_nil<|⟨l25,h,⟨⟨rfl,rfl,trivial⟩,(.one .here (.one .here (.one .here (.one .here .nil))))⟩⟩)
  ·exact wc_skip<|⟨y9,h,⟨⟨rfl,rfl,trivial⟩,(.one .here (.one .here (.one .here (.one .here .nil))))⟩⟩
 ·rintro t m ⟨a19,h,hF⟩
  refine wc_fit hF ?_
  clear hF
  subst qk20
  refine wc_seq<|wc_ops<|wj_q _ (q_ld (p:=[.ints .u8 32 (a19)]) rfl .here rfl)<|wj_e (ef_st (q:=[.ints .u8 32 (a19)]) rfl rfl rfl rfl rfl (.there (.there .here))<|wj_nil<|wc_ret ?_)
  revert h; refine ret_i fun h=>?_
  subst h
  exact ⟨_,(.cons (.agg rfl (.there (.there .here)) rfl) .nil),rfl⟩
def curve_unit:OL :=
 bnd (([1,0,0,0,0]:List Int)) fun z4 =>
 some z4
theorem curve_unit_spec {W:World} {r:(List Int)} (h:curve_unit=some r)  :
    Calls Tryz.prog 124 [].toArray W (ret1 W (agg [.ints .u64 5 (r)])):=by
 unfold curve_unit at h
 refine calls_val mo ok124 rfl ?_
 refine wc_seq<|wc_ops<|wj_e (ef_al fun b2 hb2=>wj_nil<|wc_seq<|bH h fun z4 ez4 h=>wc_ops<|wj_q _ (az (fun z=>agg [.ints .u64 5 z]) ez4 (q_bd (.one rfl rfl rfl BdR.nil)))<|wj_e (ef_st (q:=[.ints .u64 5 (z4)]) rfl rfl rfl rfl rfl .here<|wj_nil<|wc_ret ?_))
 revert h; refine ret_i fun h=>?_
 subst h
 exact ⟨_,(.cons (.agg rfl .here rfl) .nil),rfl⟩
def curve_Zero:Option (api_Point) :=
 opt (curve_unit) fun y4 =>
 opt (curve_unit) fun y5 =>
 some (⟨(List.replicate 5 0),y4,y5,(List.replicate 5 0)⟩:api_Point)
theorem curve_Zero_spec {W:World} {r:api_Point} (h:curve_Zero=some r)  :
    Calls Tryz.prog 134 [].toArray W (ret1 W (agg [.ints .u64 5 (r.gX),.ints .u64 5 (r.gY),.ints .u64 5 (r.gZ),.ints .u64 5 (r.gT)])):=by
 unfold curve_Zero at h
 refine calls_val mo ok134 rfl ?_
 refine wc_seq<|wc_ops<|wj_e (ef_al fun b2 hb2=>wj_nil<|wc_seq<|oH h fun y4 ey4 h=>oH h fun y5 ey5 h=>wc_ops<|wj_q _ (q_cl rfl (curve_unit_spec ey4))<|wj_q _ (q_cl rfl (curve_unit_spec ey5))<|wj_q _ (q_bd (q:=[.ints .u64 5 ((List.replicate 5 0)),.ints .u64 5 (y4),.ints .u64 5 (y5),.ints .u64 5 ((List.replicate 5 0))]) (.agg rfl rfl rfl (.agg rfl rfl rfl BdR.nil)))<|wj_e (ef_st (q:=[.ints .u64 5 ((List.replicate 5 0)),.ints .u64 5 (y4),.ints .u64 5 (y5),.ints .u64 5 ((List.replicate 5 0))]) rfl rfl rfl rfl rfl .here<|wj_nil<|wc_ret ?_))
 revert h; refine ret_i fun h=>?_
 subst h
 exact ⟨_,(.cons (.agg rfl .here rfl) .nil),rfl⟩
def field_Add_b1 (y7:(List Int)) (k50:(List Int)→OL) (k76:(Int)→(List Int)→OL) (i74:Int) (a75:List Int):OL :=
 br ((decide (i74<5))) (
 chk (inB i74 5) <|
 chk (inB i74 5) <|
 bnd (a75.getD (i74).toNat 0) fun z84 =>
 bnd (y7.getD (i74).toNat 0) fun z85 =>
 bnd (IntKind.wrap .u64 (z84+z85)) fun z86 =>
 chk (inB i74 5) <|
 bnd (setD a75 (i74).toNat z86) fun l88 =>
 bnd (IntKind.wrap .i64 (i74+1)) fun z90 =>
 k76 z90 l88
 ) (
 k50 a75
 )
def field_Add_l1 (y7:(List Int)) (k50:(List Int)→OL):Nat→(Int)→(List Int)→OL
  | 0,_,_=>none
  | n+1,i74,a75=>field_Add_b1 y7 k50 (field_Add_l1 y7 k50 n) i74 a75
def field_Add (p0:List Int) (p1:List Int):OL :=
 opt (field_carry p0) fun y6 =>
 opt (field_carry p1) fun y7 =>
 jn (fun (a49:List Int)=>opt (field_reduce a49) fun y92 =>
 some y92) fun k50=>field_Add_l1 y7 k50 big 0 y6
theorem field_Add_spec {W:World} {r:(List Int)} {p0:List Int} {p1:List Int} (h:field_Add p0 p1=some r)  :
    Calls Tryz.prog 127 [agg [.ints .u64 5 (p0)],agg [.ints .u64 5 (p1)]].toArray W (ret1 W (agg [.ints .u64 5 (r)])):=by
 unfold field_Add at h
 refine calls_val mo ok127 rfl ?_
 refine wc_seq<|wc_ops<|wj_e (ef_bx (s:=[.ints .u64 5 (p0)]) rfl fun b2 hb2=>wj_e (ef_bx (s:=[.ints .u64 5 (p1)]) rfl fun b3 hb3=>wj_e (ef_al fun b4 hb4=>wj_nil<|wc_seq<|oH h fun y6 ey6 h=>oH h fun y7 ey7 h=>wc_draw<|ws_q1 _ (q_ld (p:=[.ints .u64 5 (p0)]) rfl (.there (.there .here)) rfl)<|ws_p1 _ (q_cl rfl (field_carry_spec ey6))<|ws_q1 _ (q_ld (p:=[.ints .u64 5 (p1)]) rfl (.there .here) rfl)<|ws_p1 _ (q_cl rfl (field_carry_spec ey7))<|ws_eL rfl (ef_st (q:=[.ints .u64 5 (y6)]) rfl rfl rfl rfl rfl (.there (.there .here))<|ws_eM rfl (ef_st (q:=[.ints .u64 5 (y7)]) rfl rfl rfl rfl rfl (.there .here)<|ws_nil<|wc_seq<|wc_seq<|wc_ops<|wj_m rfl<|wj_nil<|jH h fun k50 qk50 h=>wc_mono2 (G:=fun t m=>∃ (a49:List Int),k50 a49=some r∧Fit [(2,.pointer (some ⟨b2,0,none⟩)),(4,.pointer (some ⟨b4,0,none⟩))] (ck b4 80 [.ints .u64 5 ((List.replicate 5 0))]::(ck b3 80 [.ints .u64 5 (y7)]::(ck b2 80 [.ints .u64 5 (a49)] :: []))) t m) ?_ ?_)))))
 ·refine wc_block<|wc_loopJ (fun n77 t m=>∃ (i74:Int) (a75:List Int),field_Add_l1 y7 k50 n77 i74 a75=some r∧Fit [(2,.pointer (some ⟨b2,0,none⟩)),(3,.pointer (some ⟨b3,0,none⟩)),(4,.pointer (some ⟨b4,0,none⟩)),(10,.int .i64 (i74))] (ck b4 80 [.ints .u64 5 ((List.replicate 5 0))]::(ck b3 80 [.ints .u64 5 (y7)]::(ck b2 80 [.ints .u64 5 (a75)] :: []))) t m) big ?_ ?_
  ·exact ⟨0,y6,h,⟨⟨rfl,rfl,rfl,rfl,trivial⟩,(.one .here (.one .here (.one .here .nil)))⟩⟩
  ·rintro n77 t m ⟨i74,a75,h,hF⟩
   refine wc_fit hF ?_
   clear hF
   rcases n77 with _ | n77
   · exact none_i h
   have h:field_Add_b1 y7 k50 (field_Add_l1 y7 k50 n77) i74 a75=some r:=h
   unfold field_Add_b1 at h
   obtain ⟨k76,qk76⟩ : ∃ k,k=field_Add_l1 y7 k50 n77:=⟨_,rfl⟩
   try rw [← qk76] at h
   refine wc_seq<|wc_ops<|wj_q _ (q_bin rfl rfl rfl)<|wj_nil<|wc_seq<|wc_br h rfl (fun h=>?_) (fun h=>?_)
   ·refine wc_skip<|wc_seq<|wc_block<|wc_seq<|wc_ops<|wj_m rfl<|wj_m rfl<|wj_nil<|cH h fun c82 h=>cH h fun c83 h=>bH h fun z84 ez84 h=>bH h fun z85 ez85 h=>bH h fun z86 ez86 h=>cH h fun c87 h=>bH h fun l88 el88 h=>wc_draw<|ws_p1 _ (q_mv rfl)<|ws_p1 _ (q_ia rfl rfl (inB_z c82))<|ws_p1 _ (q_mv rfl)<|ws_p1 _ (q_ia rfl rfl (inB_z c83))<|ws_q1 _ (iz ez84 (q_ldi (base:=0) rfl (.there (.there .here)) rfl (inB_n c82)))<|ws_q1 _ (iz ez85 (q_ldi (base:=0) rfl (.there .here) rfl (inB_n c83)))<|ws_p1 _ (iz ez86 (q_bin rfl rfl rfl))<|ws_p1 _ (q_ia rfl rfl (inB_z c87))<|ws_eL rfl (ef_stiz (q:=[.ints .u64 5 (l88)]) (base:=0) el88 rfl rfl rfl (inB_n c87) rfl (.there (.there .here))<|ws_nil<|bH h fun z90 ez90 h=>wc_ops<|wj_q _ (iz ez90 (q_bin rfl rfl rfl))<|wj_m rfl<|wj_nil ?_)
    rw [qk76] at h
    exact ⟨n77,Nat.lt_succ_self _,z90,l88,h,⟨⟨rfl,rfl,rfl,rfl,trivial⟩,(.one .here (.one .here (.one .here .nil)))⟩⟩
   ·exact wc_exit _ rfl<|⟨a75,h,⟨⟨rfl,rfl,trivial⟩,(.one .here (.one .here (.one .here .nil)))⟩⟩
 ·rintro t m ⟨a49,h,hF⟩
  refine wc_fit hF ?_
  clear hF
  subst qk50
  refine wc_seq<|oH h fun y92 ey92 h=>wc_ops<|wj_q _ (q_ld (p:=[.ints .u64 5 (a49)]) rfl (.there (.there .here)) rfl)<|wj_q _ (q_cl rfl (field_reduce_spec ey92))<|wj_e (ef_st (q:=[.ints .u64 5 (y92)]) rfl rfl rfl rfl rfl .here<|wj_nil<|wc_ret ?_)
  revert h; refine ret_i fun h=>?_
  subst h
  exact ⟨_,(.cons (.agg rfl .here rfl) .nil),rfl⟩
def field_Neg_b1 (y5:(List Int)) (k45:(List Int)→OL) (k66:(Int)→(List Int)→OL) (i64:Int) (a65:List Int):OL :=
 br ((decide (i64<5))) (
 chk (inB i64 5) <|
 bnd (y5.getD (i64).toNat 0) fun z72 =>
 bnd (IntKind.wrap .u64 (4503599627370494-z72)) fun z73 =>
 chk (inB i64 5) <|
 bnd (setD a65 (i64).toNat z73) fun l75 =>
 bnd (IntKind.wrap .i64 (i64+1)) fun z77 =>
 k66 z77 l75
 ) (
 k45 a65
 )
def field_Neg_l1 (y5:(List Int)) (k45:(List Int)→OL):Nat→(Int)→(List Int)→OL
  | 0,_,_=>none
  | n+1,i64,a65=>field_Neg_b1 y5 k45 (field_Neg_l1 y5 k45 n) i64 a65
def field_Neg (p0:List Int):OL :=
 opt (field_reduce p0) fun y5 =>
 bnd (y5.getD 0 0) fun z7 =>
 bnd (IntKind.wrap .u64 (4503599627370458-z7)) fun z8 =>
 bnd (([z8,0,0,0,0]:List Int)) fun z9 =>
 jn (fun (a44:List Int)=>opt (field_reduce a44) fun y79 =>
 some y79) fun k45=>field_Neg_l1 y5 k45 big 1 z9
theorem field_Neg_spec {W:World} {r:(List Int)} {p0:List Int} (h:field_Neg p0=some r)  :
    Calls Tryz.prog 130 [agg [.ints .u64 5 (p0)]].toArray W (ret1 W (agg [.ints .u64 5 (r)])):=by
 unfold field_Neg at h
 refine calls_val mo ok130 rfl ?_
 refine wc_seq<|wc_ops<|wj_e (ef_bx (s:=[.ints .u64 5 (p0)]) rfl fun b2 hb2=>wj_e (ef_al fun b3 hb3=>wj_nil<|wc_seq<|oH h fun y5 ey5 h=>wc_ops<|wj_q _ (q_ld (p:=[.ints .u64 5 (p0)]) rfl (.there .here) rfl)<|wj_q _ (q_cl rfl (field_reduce_spec ey5))<|wj_e (ef_st (q:=[.ints .u64 5 (y5)]) rfl rfl rfl rfl rfl (.there .here)<|wj_nil<|wc_seq<|bH h fun z7 ez7 h=>bH h fun z8 ez8 h=>bH h fun z9 ez9 h=>wc_ops<|wj_q _ (q_ia rfl rfl (by decide))<|wj_q _ (iz ez7 (q_ld1 rfl (.there .here) rfl))<|wj_q _ (iz ez8 (q_bin rfl rfl rfl))<|wj_q _ (az (fun z=>agg [.ints .u64 5 z]) ez9 (q_bd (.one rfl rfl rfl BdR.nil)))<|wj_e (ef_al fun b10 hb10=>wj_e (ef_st (q:=[.ints .u64 5 (z9)]) rfl rfl rfl rfl rfl .here<|wj_nil<|wc_seq<|wc_seq<|wc_ops<|wj_m rfl<|wj_nil<|jH h fun k45 qk45 h=>wc_mono2 (G:=fun t m=>∃ (a44:List Int),k45 a44=some r∧Fit [(2,.pointer (some ⟨b3,0,none⟩)),(3,.pointer (some ⟨b10,0,none⟩))] (ck b10 80 [.ints .u64 5 (a44)]::(ck b3 80 [.ints .u64 5 ((List.replicate 5 0))]::(ck b2 80 [.ints .u64 5 (y5)] :: []))) t m) ?_ ?_)))))
 ·refine wc_block<|wc_loopJ (fun n67 t m=>∃ (i64:Int) (a65:List Int),field_Neg_l1 y5 k45 n67 i64 a65=some r∧Fit [(1,.pointer (some ⟨b2,0,none⟩)),(2,.pointer (some ⟨b3,0,none⟩)),(3,.pointer (some ⟨b10,0,none⟩)),(4,.int .i64 (i64))] (ck b10 80 [.ints .u64 5 (a65)]::(ck b3 80 [.ints .u64 5 ((List.replicate 5 0))]::(ck b2 80 [.ints .u64 5 (y5)] :: []))) t m) big ?_ ?_
  ·exact ⟨1,z9,h,⟨⟨rfl,rfl,rfl,rfl,trivial⟩,(.one .here (.one .here (.one .here .nil)))⟩⟩
  ·rintro n67 t m ⟨i64,a65,h,hF⟩
   refine wc_fit hF ?_
   clear hF
   rcases n67 with _ | n67
   · exact none_i h
   have h:field_Neg_b1 y5 k45 (field_Neg_l1 y5 k45 n67) i64 a65=some r:=h
   unfold field_Neg_b1 at h
   obtain ⟨k66,qk66⟩ : ∃ k,k=field_Neg_l1 y5 k45 n67:=⟨_,rfl⟩
   try rw [← qk66] at h
   refine wc_seq<|wc_seq<|wc_ops<|wj_m rfl<|wj_q _ (q_bin rfl rfl rfl)<|wj_nil<|wc_br h rfl (fun h=>?_) (fun h=>?_)
   ·refine wc_skip<|wc_seq<|wc_block<|cH h fun c71 h=>bH h fun z72 ez72 h=>bH h fun z73 ez73 h=>cH h fun c74 h=>bH h fun l75 el75 h=>wc_ops<|wj_m rfl<|wj_m rfl<|wj_q _ (q_ia rfl rfl (inB_z c71))<|wj_q _ (iz ez72 (q_ldi (base:=0) rfl (.there (.there .here)) rfl (inB_n c71)))<|wj_q _ (iz ez73 (q_bin rfl rfl rfl))<|wj_q _ (q_ia rfl rfl (inB_z c74))<|wj_e (ef_stiz (q:=[.ints .u64 5 (l75)]) (base:=0) el75 rfl rfl rfl (inB_n c74) rfl .here<|wj_nil<|bH h fun z77 ez77 h=>wc_ops<|wj_m rfl<|wj_q _ (iz ez77 (q_bin rfl rfl rfl))<|wj_m rfl<|wj_nil ?_)
    rw [qk66] at h
    exact ⟨n67,Nat.lt_succ_self _,z77,l75,h,⟨⟨rfl,rfl,rfl,rfl,trivial⟩,(.one .here (.one .here (.one .here .nil)))⟩⟩
   ·exact wc_exit _ rfl<|⟨a65,h,⟨⟨rfl,rfl,trivial⟩,(.one .here (.one .here (.one .here .nil)))⟩⟩
 ·rintro t m ⟨a44,h,hF⟩
  refine wc_fit hF ?_
  clear hF
  subst qk45
  refine wc_seq<|oH h fun y79 ey79 h=>wc_ops<|wj_q _ (q_ld (p:=[.ints .u64 5 (a44)]) rfl .here rfl)<|wj_q _ (q_cl rfl (field_reduce_spec ey79))<|wj_e (ef_st (q:=[.ints .u64 5 (y79)]) rfl rfl rfl rfl rfl (.there .here)<|wj_nil<|wc_ret ?_)
  revert h; refine ret_i fun h=>?_
  subst h
  exact ⟨_,(.cons (.agg rfl (.there .here) rfl) .nil),rfl⟩
def field_Sub (p0:List Int) (p1:List Int):OL :=
 opt (field_Neg p1) fun y6 =>
 opt (field_Add p0 y6) fun y7 =>
 some y7
theorem field_Sub_spec {W:World} {r:(List Int)} {p0:List Int} {p1:List Int} (h:field_Sub p0 p1=some r)  :
    Calls Tryz.prog 126 [agg [.ints .u64 5 (p0)],agg [.ints .u64 5 (p1)]].toArray W (ret1 W (agg [.ints .u64 5 (r)])):=by
 unfold field_Sub at h
 refine calls_val mo ok126 rfl ?_
 refine wc_seq<|wc_ops<|wj_e (ef_bx (s:=[.ints .u64 5 (p0)]) rfl fun b2 hb2=>wj_e (ef_bx (s:=[.ints .u64 5 (p1)]) rfl fun b3 hb3=>wj_e (ef_al fun b4 hb4=>wj_nil<|wc_seq<|oH h fun y6 ey6 h=>oH h fun y7 ey7 h=>wc_draw<|ws_q1 _ (q_ld (p:=[.ints .u64 5 (p0)]) rfl (.there (.there .here)) rfl)<|ws_q1 _ (q_ld (p:=[.ints .u64 5 (p1)]) rfl (.there .here) rfl)<|ws_p1 _ (q_cl rfl (field_Neg_spec ey6))<|ws_p1 _ (q_cl rfl (field_Add_spec ey7))<|ws_eL rfl (ef_st (q:=[.ints .u64 5 (y7)]) rfl rfl rfl rfl rfl .here<|ws_nil<|wc_ret ?_))))
 revert h; refine ret_i fun h=>?_
 subst h
 exact ⟨_,(.cons (.agg rfl .here rfl) .nil),rfl⟩
def curve_closed (p0:List Int) (p1:List Int) (p2:List Int) (p3:List Int):Option (api_Point) :=
 opt (field_Mul p0 p1) fun y8 =>
 opt (field_Mul p2 p3) fun y9 =>
 opt (field_Mul p1 p2) fun y10 =>
 opt (field_Mul p0 p3) fun y11 =>
 some (⟨y8,y9,y10,y11⟩:api_Point)
theorem curve_closed_spec {W:World} {r:api_Point} {p0:List Int} {p1:List Int} {p2:List Int} {p3:List Int} (h:curve_closed p0 p1 p2 p3=some r)  :
    Calls Tryz.prog 191 [agg [.ints .u64 5 (p0)],agg [.ints .u64 5 (p1)],agg [.ints .u64 5 (p2)],agg [.ints .u64 5 (p3)]].toArray W (ret1 W (agg [.ints .u64 5 (r.gX),.ints .u64 5 (r.gY),.ints .u64 5 (r.gZ),.ints .u64 5 (r.gT)])):=by
 unfold curve_closed at h
 refine calls_val mo ok191 rfl ?_
 refine wc_seq<|wc_ops<|wj_e (ef_bx (s:=[.ints .u64 5 (p0)]) rfl fun b2 hb2=>wj_e (ef_bx (s:=[.ints .u64 5 (p1)]) rfl fun b3 hb3=>wj_e (ef_bx (s:=[.ints .u64 5 (p2)]) rfl fun b4 hb4=>wj_e (ef_bx (s:=[.ints .u64 5 (p3)]) rfl fun b5 hb5=>wj_e (ef_al fun b6 hb6=>wj_nil<|wc_seq<|oH h fun y8 ey8 h=>oH h fun y9 ey9 h=>oH h fun y10 ey10 h=>oH h fun y11 ey11 h=>wc_draw<|ws_q1 _ (q_ld (p:=[.ints .u64 5 (p0)]) rfl (.there (.there (.there (.there .here)))) rfl)<|ws_q1 _ (q_ld (p:=[.ints .u64 5 (p1)]) rfl (.there (.there (.there .here))) rfl)<|ws_p1 _ (q_cl rfl (field_Mul_spec ey8))<|ws_q1 _ (q_ld (p:=[.ints .u64 5 (p2)]) rfl (.there (.there .here)) rfl)<|ws_q1 _ (q_ld (p:=[.ints .u64 5 (p3)]) rfl (.there .here) rfl)<|ws_p1 _ (q_cl rfl (field_Mul_spec ey9))<|ws_q1 _ (q_ld (p:=[.ints .u64 5 (p1)]) rfl (.there (.there (.there .here))) rfl)<|ws_q1 _ (q_ld (p:=[.ints .u64 5 (p2)]) rfl (.there (.there .here)) rfl)<|ws_p1 _ (q_cl rfl (field_Mul_spec ey10))<|ws_q1 _ (q_ld (p:=[.ints .u64 5 (p0)]) rfl (.there (.there (.there (.there .here)))) rfl)<|ws_q1 _ (q_ld (p:=[.ints .u64 5 (p3)]) rfl (.there .here) rfl)<|ws_p1 _ (q_cl rfl (field_Mul_spec ey11))<|ws_p1 _ (q_bd (q:=[.ints .u64 5 (y8),.ints .u64 5 (y9),.ints .u64 5 (y10),.ints .u64 5 (y11)]) (.agg rfl rfl rfl (.agg rfl rfl rfl (.agg rfl rfl rfl (.agg rfl rfl rfl BdR.nil)))))<|ws_eL rfl (ef_st (q:=[.ints .u64 5 (y8),.ints .u64 5 (y9),.ints .u64 5 (y10),.ints .u64 5 (y11)]) rfl rfl rfl rfl rfl .here<|ws_nil<|wc_ret ?_))))))
 revert h; refine ret_i fun h=>?_
 subst h
 exact ⟨_,(.cons (.agg rfl .here rfl) .nil),rfl⟩
def curve_doubled:OL :=
 bnd (([1859910466990425,932731440258426,1072319116312658,1815898335770999,633789495995903]:List Int)) fun z4 =>
 some z4
theorem curve_doubled_spec {W:World} {r:(List Int)} (h:curve_doubled=some r)  :
    Calls Tryz.prog 192 [].toArray W (ret1 W (agg [.ints .u64 5 (r)])):=by
 unfold curve_doubled at h
 refine calls_val mo ok192 rfl ?_
 refine wc_seq<|wc_ops<|wj_e (ef_al fun b2 hb2=>wj_nil<|wc_seq<|bH h fun z4 ez4 h=>wc_ops<|wj_q _ (az (fun z=>agg [.ints .u64 5 z]) ez4 (q_bd (.one rfl rfl rfl (.one rfl rfl rfl (.one rfl rfl rfl (.one rfl rfl rfl (.one rfl rfl rfl BdR.nil)))))))<|wj_e (ef_st (q:=[.ints .u64 5 (z4)]) rfl rfl rfl rfl rfl .here<|wj_nil<|wc_ret ?_))
 revert h; refine ret_i fun h=>?_
 subst h
 exact ⟨_,(.cons (.agg rfl .here rfl) .nil),rfl⟩
def curve_Add (p0:api_Point) (p1:api_Point):Option (api_Point) :=
 opt (field_Sub p0.gY p0.gX) fun y6 =>
 opt (field_Sub p1.gY p1.gX) fun y7 =>
 opt (field_Mul y6 y7) fun y8 =>
 opt (field_Add p0.gY p0.gX) fun y11 =>
 opt (field_Add p1.gY p1.gX) fun y12 =>
 opt (field_Mul y11 y12) fun y13 =>
 opt (curve_doubled) fun y16 =>
 opt (field_Mul p0.gT y16) fun y19 =>
 opt (field_Mul y19 p1.gT) fun y20 =>
 opt (field_Add p0.gZ p0.gZ) fun y23 =>
 opt (field_Mul y23 p1.gZ) fun y24 =>
 opt (field_Sub y13 y8) fun y27 =>
 opt (field_Sub y24 y20) fun y28 =>
 opt (field_Add y24 y20) fun y29 =>
 opt (field_Add y13 y8) fun y30 =>
 opt (curve_closed y27 y28 y29 y30) fun y31 =>
 some y31
theorem curve_Add_spec {W:World} {r:api_Point} {p0:api_Point} {p1:api_Point} (h:curve_Add p0 p1=some r)  :
    Calls Tryz.prog 136 [agg [.ints .u64 5 (p0.gX),.ints .u64 5 (p0.gY),.ints .u64 5 (p0.gZ),.ints .u64 5 (p0.gT)],agg [.ints .u64 5 (p1.gX),.ints .u64 5 (p1.gY),.ints .u64 5 (p1.gZ),.ints .u64 5 (p1.gT)]].toArray W (ret1 W (agg [.ints .u64 5 (r.gX),.ints .u64 5 (r.gY),.ints .u64 5 (r.gZ),.ints .u64 5 (r.gT)])):=by
 unfold curve_Add at h
 refine calls_val mo ok136 rfl ?_
 refine wc_seq<|wc_ops<|wj_e (ef_bx (s:=[.ints .u64 5 (p0.gX),.ints .u64 5 (p0.gY),.ints .u64 5 (p0.gZ),.ints .u64 5 (p0.gT)]) rfl fun b2 hb2=>wj_e (ef_bx (s:=[.ints .u64 5 (p1.gX),.ints .u64 5 (p1.gY),.ints .u64 5 (p1.gZ),.ints .u64 5 (p1.gT)]) rfl fun b3 hb3=>wj_e (ef_al fun b4 hb4=>wj_nil<|wc_seq<|oH h fun y6 ey6 h=>oH h fun y7 ey7 h=>oH h fun y8 ey8 h=>wc_draw<|ws_p1 _ (q_fa rfl)<|ws_p1 _ (q_fa rfl)<|ws_p1 _ (q_fa rfl)<|ws_p1 _ (q_fa rfl)<|ws_q1 _ (q_ld (p:=[.ints .u64 5 (p0.gY)]) rfl (.there (.there .here)) rfl)<|ws_q1 _ (q_ld (p:=[.ints .u64 5 (p0.gX)]) rfl (.there (.there .here)) rfl)<|ws_p1 _ (q_cl rfl (field_Sub_spec ey6))<|ws_q1 _ (q_ld (p:=[.ints .u64 5 (p1.gY)]) rfl (.there .here) rfl)<|ws_q1 _ (q_ld (p:=[.ints .u64 5 (p1.gX)]) rfl (.there .here) rfl)<|ws_p1 _ (q_cl rfl (field_Sub_spec ey7))<|ws_p1 _ (q_cl rfl (field_Mul_spec ey8))<|ws_e1 (ef_al fun b9 hb9=>⟨(by repeat (first | exact Sup.refl _ | apply Sup.cons | apply Sup.app)),ws_eL rfl (ef_st (q:=[.ints .u64 5 (y8)]) rfl rfl rfl rfl rfl .here (ws_nil (wc_seq (oH h fun y11 ey11 h=>oH h fun y12 ey12 h=>oH h fun y13 ey13 h=>wc_draw (ws_p1 _ (q_fa rfl) (ws_p1 _ (q_fa rfl) (ws_p1 _ (q_fa rfl) (ws_p1 _ (q_fa rfl) (ws_q1 _ (q_ld (p:=[.ints .u64 5 (p0.gY)]) rfl (.there (.there (.there .here))) rfl) (ws_q1 _ (q_ld (p:=[.ints .u64 5 (p0.gX)]) rfl (.there (.there (.there .here))) rfl) (ws_p1 _ (q_cl rfl (field_Add_spec ey11)) (ws_q1 _ (q_ld (p:=[.ints .u64 5 (p1.gY)]) rfl (.there (.there .here)) rfl) (ws_q1 _ (q_ld (p:=[.ints .u64 5 (p1.gX)]) rfl (.there (.there .here)) rfl) (ws_p1 _ (q_cl rfl (field_Add_spec ey12)) (ws_p1 _ (q_cl rfl (field_Mul_spec ey13)) (ws_e1 (ef_al fun b14 hb14=>⟨(by repeat (first | exact Sup.refl _ | apply Sup.cons | apply Sup.app)),ws_eL rfl (ef_st (q:=[.ints .u64 5 (y13)]) rfl rfl rfl rfl rfl .here (ws_nil (wc_seq (oH h fun y16 ey16 h=>wc_ops (wj_q _ (q_cl rfl (curve_doubled_spec ey16)) (wj_e (ef_al fun b17 hb17=>wj_e (ef_st (q:=[.ints .u64 5 (y16)]) rfl rfl rfl rfl rfl .here (wj_nil (wc_seq (oH h fun y19 ey19 h=>oH h fun y20 ey20 h=>wc_draw (ws_p1 _ (q_fa rfl) (ws_p1 _ (q_fa rfl) (ws_q1 _ (q_ld (p:=[.ints .u64 5 (p0.gT)]) rfl (.there (.there (.there (.there (.there .here))))) rfl) (ws_q1 _ (q_ld (p:=[.ints .u64 5 (y16)]) rfl .here rfl) (ws_p1 _ (q_cl rfl (field_Mul_spec ey19)) (ws_q1 _ (q_ld (p:=[.ints .u64 5 (p1.gT)]) rfl (.there (.there (.there (.there .here)))) rfl) (ws_p1 _ (q_cl rfl (field_Mul_spec ey20)) (ws_e1 (ef_al fun b21 hb21=>⟨(by repeat (first | exact Sup.refl _ | apply Sup.cons | apply Sup.app)),ws_eL rfl (ef_st (q:=[.ints .u64 5 (y20)]) rfl rfl rfl rfl rfl .here (ws_nil (wc_seq (oH h fun y23 ey23 h=>oH h fun y24 ey24 h=>wc_draw (ws_p1 _ (q_fa rfl) (ws_p1 _ (q_fa rfl) (ws_p1 _ (q_fa rfl) (ws_q1 _ (q_ld (p:=[.ints .u64 5 (p0.gZ)]) rfl (.there (.there (.there (.there (.there (.there .here)))))) rfl) (ws_q1 _ (q_ld (p:=[.ints .u64 5 (p0.gZ)]) rfl (.there (.there (.there (.there (.there (.there .here)))))) rfl) (ws_p1 _ (q_cl rfl (field_Add_spec ey23)) (ws_q1 _ (q_ld (p:=[.ints .u64 5 (p1.gZ)]) rfl (.there (.there (.there (.there (.there .here))))) rfl) (ws_p1 _ (q_cl rfl (field_Mul_spec ey24)) (ws_e1 (ef_al fun b25 hb25=>⟨(by repeat (first | exact Sup.refl _ | apply Sup.cons | apply Sup.app)),ws_eL rfl (ef_st (q:=[.ints .u64 5 (y24)]) rfl rfl rfl rfl rfl .here (ws_nil (wc_seq (oH h fun y27 ey27 h=>oH h fun y28 ey28 h=>oH h fun y29 ey29 h=>oH h fun y30 ey30 h=>oH h fun y31 ey31 h=>wc_draw (ws_q1 _ (q_ld (p:=[.ints .u64 5 (y13)]) rfl (.there (.there (.there .here))) rfl) (ws_q1 _ (q_ld (p:=[.ints .u64 5 (y8)]) rfl (.there (.there (.there (.there .here)))) rfl) (ws_p1 _ (q_cl rfl (field_Sub_spec ey27)) (ws_q1 _ (q_ld (p:=[.ints .u64 5 (y24)]) rfl .here rfl) (ws_q1 _ (q_ld (p:=[.ints .u64 5 (y20)]) rfl (.there .here) rfl) (ws_p1 _ (q_cl rfl (field_Sub_spec ey28)) (ws_q1 _ (q_ld (p:=[.ints .u64 5 (y24)]) rfl .here rfl) (ws_q1 _ (q_ld (p:=[.ints .u64 5 (y20)]) rfl (.there .here) rfl) (ws_p1 _ (q_cl rfl (field_Add_spec ey29)) (ws_q1 _ (q_ld (p:=[.ints .u64 5 (y13)]) rfl (.there (.there (.there .here))) rfl) (ws_q1 _ (q_ld (p:=[.ints .u64 5 (y8)]) rfl (.there (.there (.there (.there .here)))) rfl) (ws_p1 _ (q_cl rfl (field_Add_spec ey30)) (ws_p1 _ (q_cl rfl (curve_closed_spec ey31)) (ws_eL rfl (ef_st (q:=[.ints .u64 5 (y31.gX),.ints .u64 5 (y31.gY),.ints .u64 5 (y31.gZ),.ints .u64 5 (y31.gT)]) rfl rfl rfl rfl rfl (.there (.there (.there (.there (.there .here))))) (ws_nil (wc_ret ?_)))))))))))))))))))))⟩))))))))))))))⟩))))))))))))))))))))⟩)))))))))))))))))⟩))))
 revert h; refine ret_i fun h=>?_
 subst h
 exact ⟨_,(.cons (.agg rfl (.there (.there (.there (.there (.there .here))))) rfl) .nil),rfl⟩
abbrev E_api_Point:El (api_Point):=⟨20,fun x=>cells [.ints .u64 5 (x.gX),.ints .u64 5 (x.gY),.ints .u64 5 (x.gZ),.ints .u64 5 (x.gT)],fun x=>by rw [cells_length]; rfl,fun x=>(ones_cons ones_ints (ones_cons ones_ints (ones_cons ones_ints (ones_cons ones_ints ones_nil)))),by decide,api_Point_z⟩
def curve_multiples_b1 (p0:api_Point) (k48:(List (api_Point))→Option ((List (api_Point)))) (k72:(Int)→(List (api_Point))→Option ((List (api_Point)))) (i70:Int) (a71:List (api_Point)):Option ((List (api_Point))) :=
 br ((decide (i70<15))) (
 bnd (IntKind.wrap .i64 (i70+1)) fun z78 =>
 chk (inB i70 16) <|
 bnd (a71.getD (i70).toNat api_Point_z) fun x80 =>
 opt (curve_Add x80 p0) fun y81 =>
 chk (inB z78 16) <|
 bnd (setG api_Point_z a71 (z78).toNat y81) fun l83 =>
 bnd (IntKind.wrap .i64 (i70+1)) fun z85 =>
 k72 z85 l83
 ) (
 k48 a71
 )
def curve_multiples_l1 (p0:api_Point) (k48:(List (api_Point))→Option ((List (api_Point)))):Nat→(Int)→(List (api_Point))→Option ((List (api_Point)))
  | 0,_,_=>none
  | n+1,i70,a71=>curve_multiples_b1 p0 k48 (curve_multiples_l1 p0 k48 n) i70 a71
def curve_multiples (p0:api_Point):Option ((List (api_Point))) :=
 opt (curve_Zero) fun y7 =>
 bnd (setG api_Point_z (List.replicate 16 api_Point_z) 0 y7) fun l8 =>
 jn (fun (a47:List (api_Point))=>some a47) fun k48=>curve_multiples_l1 p0 k48 big 0 l8
theorem curve_multiples_spec {W:World} {r:(List (api_Point))} {p0:api_Point} (h:curve_multiples p0=some r)  :
    Calls Tryz.prog 133 [agg [.ints .u64 5 (p0.gX),.ints .u64 5 (p0.gY),.ints .u64 5 (p0.gZ),.ints .u64 5 (p0.gT)]].toArray W (ret1 W (agg [.rows 20 16 (rowE E_api_Point (r))])):=by
 unfold curve_multiples at h
 refine calls_val mo ok133 rfl ?_
 refine wc_seq<|wc_ops<|wj_e (ef_bx (s:=[.ints .u64 5 (p0.gX),.ints .u64 5 (p0.gY),.ints .u64 5 (p0.gZ),.ints .u64 5 (p0.gT)]) rfl fun b2 hb2=>wj_e (ef_al2 (z':=[.rows 20 16 (rowE E_api_Point ((List.replicate 16 api_Point_z)))]) (alz_rows (E:=E_api_Point) rfl rfl) fun b3 hb3=>wj_nil<|wc_seq<|wc_ops<|wj_e (ef_al2 (z':=[.rows 20 16 (rowE E_api_Point ((List.replicate 16 api_Point_z)))]) (alz_rows (E:=E_api_Point) rfl rfl) fun b5 hb5=>wj_nil<|wc_seq<|oH h fun y7 ey7 h=>bH h fun l8 el8 h=>wc_ops<|wj_q _ (q_call (vs:=[]) (v:=agg [.ints .u64 5 (y7.gX),.ints .u64 5 (y7.gY),.ints .u64 5 (y7.gZ),.ints .u64 5 (y7.gT)]) rfl (fun w hw=>curve_Zero_spec (r:=y7) ey7 ))<|wj_q _ (q_ia rfl rfl (by decide))<|wj_e (ef_strz (q:=[.rows 20 16 (rowE E_api_Point (l8))]) (E:=E_api_Point) (base:=0) (i:=0) (len:=16) el8 rfl rfl rfl rfl (by decide) rfl .here<|wj_nil<|wc_seq<|wc_seq<|wc_ops<|wj_m rfl<|wj_nil<|jH h fun k48 qk48 h=>wc_mono2 (G:=fun t m=>∃ (a47:List (api_Point)),k48 a47=some r∧Fit [(2,.pointer (some ⟨b3,0,none⟩)),(3,.pointer (some ⟨b5,0,none⟩))] (ck b5 166 [.rows 20 16 (rowE E_api_Point (a47))]::(ck b3 166 [.rows 20 16 (rowE E_api_Point ((List.replicate 16 api_Point_z)))]::(ck b2 82 [.ints .u64 5 (p0.gX),.ints .u64 5 (p0.gY),.ints .u64 5 (p0.gZ),.ints .u64 5 (p0.gT)] :: []))) t m) ?_ ?_))))
 ·refine wc_block<|wc_loopJ (fun n73 t m=>∃ (i70:Int) (a71:List (api_Point)),curve_multiples_l1 p0 k48 n73 i70 a71=some r∧Fit [(1,.pointer (some ⟨b2,0,none⟩)),(2,.pointer (some ⟨b3,0,none⟩)),(3,.pointer (some ⟨b5,0,none⟩)),(7,.int .i64 (i70))] (ck b5 166 [.rows 20 16 (rowE E_api_Point (a71))]::(ck b3 166 [.rows 20 16 (rowE E_api_Point ((List.replicate 16 api_Point_z)))]::(ck b2 82 [.ints .u64 5 (p0.gX),.ints .u64 5 (p0.gY),.ints .u64 5 (p0.gZ),.ints .u64 5 (p0.gT)] :: []))) t m) big ?_ ?_
  ·exact ⟨0,l8,h,⟨⟨rfl,rfl,rfl,rfl,trivial⟩,(.one .here (.one .here (.one .here .nil)))⟩⟩
  ·rintro n73 t m ⟨i70,a71,h,hF⟩
   refine wc_fit hF ?_
   clear hF
   rcases n73 with _ | n73
   · exact none_i h
   have h:curve_multiples_b1 p0 k48 (curve_multiples_l1 p0 k48 n73) i70 a71=some r:=h
   unfold curve_multiples_b1 at h
   obtain ⟨k72,qk72⟩ : ∃ k,k=curve_multiples_l1 p0 k48 n73:=⟨_,rfl⟩
   try rw [← qk72] at h
   refine wc_seq<|wc_ops<|wj_q _ (q_bin rfl rfl rfl)<|wj_nil<|wc_seq<|wc_br h rfl (fun h=>?_) (fun h=>?_)
   ·refine wc_skip<|wc_seq<|wc_block<|wc_seq<|wc_ops<|wj_m rfl<|wj_m rfl<|wj_nil<|bH h fun z78 ez78 h=>cH h fun c79 h=>bH h fun x80 ex80 h=>oH h fun y81 ey81 h=>cH h fun c82 h=>bH h fun l83 el83 h=>wc_draw<|ws_p1 _ (q_mv rfl)<|ws_p1 _ (iz ez78 (q_bin rfl rfl rfl))<|ws_p1 _ (q_mv rfl)<|ws_p1 _ (q_ia rfl rfl (inB_z c79))<|ws_q1 _ (az (fun x80=>agg [.ints .u64 5 (x80.gX),.ints .u64 5 (x80.gY),.ints .u64 5 (x80.gZ),.ints .u64 5 (x80.gT)]) ex80 (q_ldr0 (base:=0) (w:=20) rfl .here rfl (inB_n c79) rfl rfl rfl))<|ws_q1 _ (q_ld (p:=[.ints .u64 5 (p0.gX),.ints .u64 5 (p0.gY),.ints .u64 5 (p0.gZ),.ints .u64 5 (p0.gT)]) rfl (.there (.there .here)) rfl)<|ws_p1 _ (q_call (vs:=[agg [.ints .u64 5 (x80.gX),.ints .u64 5 (x80.gY),.ints .u64 5 (x80.gZ),.ints .u64 5 (x80.gT)],agg [.ints .u64 5 (p0.gX),.ints .u64 5 (p0.gY),.ints .u64 5 (p0.gZ),.ints .u64 5 (p0.gT)]]) (v:=agg [.ints .u64 5 (y81.gX),.ints .u64 5 (y81.gY),.ints .u64 5 (y81.gZ),.ints .u64 5 (y81.gT)]) rfl (fun w hw=>curve_Add_spec (r:=y81) (p0:=x80) (p1:=p0) ey81 ))<|ws_p1 _ (q_ia rfl rfl (inB_z c82))<|ws_eL rfl (ef_strz (q:=[.rows 20 16 (rowE E_api_Point (l83))]) (E:=E_api_Point) (base:=0) el83 rfl rfl rfl rfl (inB_n c82) rfl .here<|ws_nil<|bH h fun z85 ez85 h=>wc_ops<|wj_q _ (iz ez85 (q_bin rfl rfl rfl))<|wj_m rfl<|wj_nil ?_)
    rw [qk72] at h
    exact ⟨n73,Nat.lt_succ_self _,z85,l83,h,⟨⟨rfl,rfl,rfl,rfl,trivial⟩,(.one .here (.one .here (.one .here .nil)))⟩⟩
   ·exact wc_exit _ rfl<|⟨a71,h,⟨⟨rfl,rfl,trivial⟩,(.one .here (.one .here (.one .here .nil)))⟩⟩
 ·rintro t m ⟨a47,h,hF⟩
  refine wc_fit hF ?_
  clear hF
  subst qk48
  refine wc_seq<|wc_ops<|wj_q _ (q_ld (p:=[.rows 20 16 (rowE E_api_Point (a47))]) rfl .here rfl)<|wj_e (ef_stg (q:=[.rows 20 16 (rowE E_api_Point (a47))]) rfl rfl rfl rfl (ones_cons (ones_rows (E:=E_api_Point)) ones_nil) (.there .here)<|wj_nil<|wc_ret ?_)
  revert h; refine ret_i fun h=>?_
  subst h
  exact ⟨_,(.cons (.agg rfl (.there .here) rfl) .nil),rfl⟩
def curve_Double (p0:api_Point):Option (api_Point) :=
 opt (field_Square p0.gX) fun y5 =>
 opt (field_Square p0.gY) fun y8 =>
 opt (field_Square p0.gZ) fun y11 =>
 opt (field_Add y5 y8) fun y14 =>
 opt (field_Add p0.gX p0.gY) fun y17 =>
 opt (field_Square y17) fun y18 =>
 opt (field_Sub y14 y18) fun y19 =>
 opt (field_Sub y5 y8) fun y22 =>
 opt (field_Add y11 y11) fun y25 =>
 opt (field_Add y25 y22) fun y26 =>
 opt (curve_closed y19 y26 y22 y14) fun y29 =>
 some y29
theorem curve_Double_spec {W:World} {r:api_Point} {p0:api_Point} (h:curve_Double p0=some r)  :
    Calls Tryz.prog 135 [agg [.ints .u64 5 (p0.gX),.ints .u64 5 (p0.gY),.ints .u64 5 (p0.gZ),.ints .u64 5 (p0.gT)]].toArray W (ret1 W (agg [.ints .u64 5 (r.gX),.ints .u64 5 (r.gY),.ints .u64 5 (r.gZ),.ints .u64 5 (r.gT)])):=by
 unfold curve_Double at h
 refine calls_val mo ok135 rfl ?_
 refine wc_seq<|wc_ops<|wj_e (ef_bx (s:=[.ints .u64 5 (p0.gX),.ints .u64 5 (p0.gY),.ints .u64 5 (p0.gZ),.ints .u64 5 (p0.gT)]) rfl fun b2 hb2=>wj_e (ef_al fun b3 hb3=>wj_nil<|wc_seq<|oH h fun y5 ey5 h=>wc_ops<|wj_q _ (q_fa rfl)<|wj_q _ (q_ld (p:=[.ints .u64 5 (p0.gX)]) rfl (.there .here) rfl)<|wj_q _ (q_cl rfl (field_Square_spec ey5))<|wj_e (ef_al fun b6 hb6=>wj_e (ef_st (q:=[.ints .u64 5 (y5)]) rfl rfl rfl rfl rfl .here<|wj_nil<|wc_seq<|oH h fun y8 ey8 h=>wc_ops<|wj_q _ (q_fa rfl)<|wj_q _ (q_ld (p:=[.ints .u64 5 (p0.gY)]) rfl (.there (.there .here)) rfl)<|wj_q _ (q_cl rfl (field_Square_spec ey8))<|wj_e (ef_al fun b9 hb9=>wj_e (ef_st (q:=[.ints .u64 5 (y8)]) rfl rfl rfl rfl rfl .here<|wj_nil<|wc_seq<|oH h fun y11 ey11 h=>wc_ops<|wj_q _ (q_fa rfl)<|wj_q _ (q_ld (p:=[.ints .u64 5 (p0.gZ)]) rfl (.there (.there (.there .here))) rfl)<|wj_q _ (q_cl rfl (field_Square_spec ey11))<|wj_e (ef_al fun b12 hb12=>wj_e (ef_st (q:=[.ints .u64 5 (y11)]) rfl rfl rfl rfl rfl .here<|wj_nil<|wc_seq<|oH h fun y14 ey14 h=>wc_ops<|wj_q _ (q_ld (p:=[.ints .u64 5 (y5)]) rfl (.there (.there .here)) rfl)<|wj_q _ (q_ld (p:=[.ints .u64 5 (y8)]) rfl (.there .here) rfl)<|wj_q _ (q_cl rfl (field_Add_spec ey14))<|wj_e (ef_al fun b15 hb15=>wj_e (ef_st (q:=[.ints .u64 5 (y14)]) rfl rfl rfl rfl rfl .here<|wj_nil<|wc_seq<|oH h fun y17 ey17 h=>oH h fun y18 ey18 h=>oH h fun y19 ey19 h=>wc_draw<|ws_p1 _ (q_fa rfl)<|ws_p1 _ (q_fa rfl)<|ws_q1 _ (q_ld (p:=[.ints .u64 5 (y14)]) rfl .here rfl)<|ws_q1 _ (q_ld (p:=[.ints .u64 5 (p0.gX)]) rfl (.there (.there (.there (.there (.there .here))))) rfl)<|ws_q1 _ (q_ld (p:=[.ints .u64 5 (p0.gY)]) rfl (.there (.there (.there (.there (.there .here))))) rfl)<|ws_p1 _ (q_cl rfl (field_Add_spec ey17))<|ws_p1 _ (q_cl rfl (field_Square_spec ey18))<|ws_p1 _ (q_cl rfl (field_Sub_spec ey19))<|ws_e1 (ef_al fun b20 hb20=>⟨(by repeat (first | exact Sup.refl _ | apply Sup.cons | apply Sup.app)),ws_eL rfl (ef_st (q:=[.ints .u64 5 (y19)]) rfl rfl rfl rfl rfl .here (ws_nil (wc_seq (oH h fun y22 ey22 h=>wc_ops (wj_q _ (q_ld (p:=[.ints .u64 5 (y5)]) rfl (.there (.there (.there (.there .here)))) rfl) (wj_q _ (q_ld (p:=[.ints .u64 5 (y8)]) rfl (.there (.there (.there .here))) rfl) (wj_q _ (q_cl rfl (field_Sub_spec ey22)) (wj_e (ef_al fun b23 hb23=>wj_e (ef_st (q:=[.ints .u64 5 (y22)]) rfl rfl rfl rfl rfl .here (wj_nil (wc_seq (oH h fun y25 ey25 h=>oH h fun y26 ey26 h=>wc_draw (ws_q1 _ (q_ld (p:=[.ints .u64 5 (y11)]) rfl (.there (.there (.there .here))) rfl) (ws_q1 _ (q_ld (p:=[.ints .u64 5 (y11)]) rfl (.there (.there (.there .here))) rfl) (ws_p1 _ (q_cl rfl (field_Add_spec ey25)) (ws_q1 _ (q_ld (p:=[.ints .u64 5 (y22)]) rfl .here rfl) (ws_p1 _ (q_cl rfl (field_Add_spec ey26)) (ws_e1 (ef_al fun b27 hb27=>⟨(by repeat (first | exact Sup.refl _ | apply Sup.cons | apply Sup.app)),ws_eL rfl (ef_st (q:=[.ints .u64 5 (y26)]) rfl rfl rfl rfl rfl .here (ws_nil (wc_seq (oH h fun y29 ey29 h=>wc_ops (wj_q _ (q_ld (p:=[.ints .u64 5 (y19)]) rfl (.there (.there .here)) rfl) (wj_q _ (q_ld (p:=[.ints .u64 5 (y26)]) rfl .here rfl) (wj_q _ (q_ld (p:=[.ints .u64 5 (y22)]) rfl (.there .here) rfl) (wj_q _ (q_ld (p:=[.ints .u64 5 (y14)]) rfl (.there (.there (.there .here))) rfl) (wj_q _ (q_cl rfl (curve_closed_spec ey29)) (wj_e (ef_st (q:=[.ints .u64 5 (y29.gX),.ints .u64 5 (y29.gY),.ints .u64 5 (y29.gZ),.ints .u64 5 (y29.gT)]) rfl rfl rfl rfl rfl (.there (.there (.there (.there (.there (.there (.there .here))))))) (wj_nil (wc_ret ?_)))))))))))))⟩))))))))))))))))))))⟩)))))))))))
 revert h; refine ret_i fun h=>?_
 subst h
 exact ⟨_,(.cons (.agg rfl (.there (.there (.there (.there (.there (.there (.there .here))))))) rfl) .nil),rfl⟩
def curve_nibble (p0:List Int) (p1:Int):Option (Int) :=
 bnd (IntKind.wrap .i64 (Int.tdiv p1 2)) fun z4 =>
 bnd (IntKind.wrap .i64 (31-z4)) fun z5 =>
 chk (inB z5 32) <|
 bnd (p0.getD (z5).toNat 0) fun z7 =>
 bnd (Int.tmod p1 2) fun z8 =>
 bnd (IntKind.wrap .i64 (1-z8)) fun z9 =>
 bnd (IntKind.wrap .i64 (4*z9)) fun z10 =>
 chk (decide (0≤z10)) <|
 bnd (shrV .u8 z7 z10) fun z12 =>
 bnd (bitsV .and .u8 z12 15) fun z13 =>
 some z13
theorem curve_nibble_spec {W:World} {r:Int} {p0:List Int} {p1:Int} (h:curve_nibble p0 p1=some r)  :
    Calls Tryz.prog 137 [agg [.ints .u8 32 (p0)],.int .i64 (p1)].toArray W (ret1 W (.int .u8 (r))):=by
 unfold curve_nibble at h
 refine calls_val mo ok137 rfl ?_
 refine wc_seq<|wc_ops<|wj_e (ef_bx (s:=[.ints .u8 32 (p0)]) rfl fun b2 hb2=>wj_m rfl<|wj_nil<|wc_seq<|bH h fun z4 ez4 h=>bH h fun z5 ez5 h=>cH h fun c6 h=>bH h fun z7 ez7 h=>bH h fun z8 ez8 h=>bH h fun z9 ez9 h=>bH h fun z10 ez10 h=>cH h fun c11 h=>bH h fun z12 ez12 h=>bH h fun z13 ez13 h=>wc_ops<|wj_m rfl<|wj_q _ (iz ez4 (q_quo rfl rfl (by decide)))<|wj_q _ (iz ez5 (q_bin rfl rfl rfl))<|wj_q _ (q_ia rfl rfl (inB_z c6))<|wj_q _ (iz ez7 (q_ldi (base:=0) rfl .here rfl (inB_n c6)))<|wj_m rfl<|wj_q _ (iz ez8 (q_rem rfl rfl (by decide)))<|wj_q _ (iz ez9 (q_bin rfl rfl rfl))<|wj_q _ (iz ez10 (q_bin rfl rfl rfl))<|wj_q _ (iz ez12 (q_shr rfl rfl (of_decide_eq_true c11)))<|wj_q _ (iz ez13 (q_bin rfl rfl rfl))<|wj_m rfl<|wj_nil<|wc_ret ?_)
 revert h; refine ret_i fun h=>?_
 subst h
 exact ⟨_,(.cons (.tmp rfl) .nil),rfl⟩
def field_FromBytes_b1 (p0:List Int) (k214:(List Int)→OL) (k333:(Int)→(List Int)→OL) (i331:Int) (a332:List Int):OL :=
 br ((decide (i331<32))) (
 jn (fun (a377:List Int)=>bnd (IntKind.wrap .i64 (i331+1)) fun z420 =>
 k333 z420 a377) fun k378=>chk (inB i331 32) <|
 bnd (p0.getD (i331).toNat 0) fun z381 =>
 jn (fun (i386:Int)=>bnd (IntKind.wrap .i64 (8*i331)) fun z392 =>
 bnd (IntKind.wrap .i64 (Int.tdiv z392 51)) fun z393 =>
 bnd (IntKind.wrap .i64 (8*i331)) fun z394 =>
 bnd (Int.tmod z394 51) fun z395 =>
 chk (inB z393 5) <|
 bnd (IntKind.wrap .u64 i386) fun z398 =>
 chk (decide (0≤z395)) <|
 bnd (shlV .u64 z398 z395) fun z400 =>
 bnd (bitsV .and .u64 z400 2251799813685247) fun z401 =>
 bnd (a332.getD (z393).toNat 0) fun z402 =>
 bnd (bitsV .or .u64 z402 z401) fun z403 =>
 chk (inB z393 5) <|
 bnd (setD a332 (z393).toNat z403) fun l405 =>
 br (((decide (z395>43))&&(decide (z393<4)))) (
 bnd (IntKind.wrap .i64 (z393+1)) fun z409 =>
 chk (inB z409 5) <|
 bnd (IntKind.wrap .u64 i386) fun z411 =>
 bnd (IntKind.wrap .i64 (51-z395)) fun z412 =>
 chk (decide (0≤z412)) <|
 bnd (shrV .u64 z411 z412) fun z414 =>
 bnd (l405.getD (z409).toNat 0) fun z415 =>
 bnd (bitsV .or .u64 z415 z414) fun z416 =>
 chk (inB z409 5) <|
 bnd (setD l405 (z409).toNat z416) fun l418 =>
 k378 l418
 ) (
 k378 l405
 )) fun k387=>br ((i331==31)) (
 bnd (bitsV .and .u8 z381 127) fun z390 =>
 k387 z390
 ) (
 k387 z381
 )
 ) (
 k214 a332
 )
def field_FromBytes_l1 (p0:List Int) (k214:(List Int)→OL):Nat→(Int)→(List Int)→OL
  | 0,_,_=>none
  | n+1,i331,a332=>field_FromBytes_b1 p0 k214 (field_FromBytes_l1 p0 k214 n) i331 a332
def field_FromBytes (p0:List Int):OL :=
 jn (fun (a213:List Int)=>opt (field_reduce a213) fun y422 =>
 some y422) fun k214=>field_FromBytes_l1 p0 k214 big 0 (List.replicate 5 0)
theorem field_FromBytes_spec {W:World} {r:(List Int)} {p0:List Int} (h:field_FromBytes p0=some r)  :
    Calls Tryz.prog 122 [agg [.ints .u8 32 (p0)]].toArray W (ret1 W (agg [.ints .u64 5 (r)])):=by
 unfold field_FromBytes at h
 refine calls_val mo ok122 rfl ?_
 refine wc_seq<|wc_ops<|wj_e (ef_bx (s:=[.ints .u8 32 (p0)]) rfl fun b2 hb2=>wj_e (ef_al fun b3 hb3=>wj_nil<|wc_seq<|wc_ops<|wj_e (ef_al fun b5 hb5=>wj_nil<|wc_seq<|wc_seq<|wc_ops<|wj_q _ (q_ld (p:=[.ints .u8 32 (p0)]) rfl (.there (.there .here)) rfl)<|wj_m rfl<|wj_nil<|jH h fun k214 qk214 h=>wc_mono2 (G:=fun t m=>∃ (a213:List Int),k214 a213=some r∧Fit [(2,.pointer (some ⟨b3,0,none⟩)),(3,.pointer (some ⟨b5,0,none⟩))] (ck b5 80 [.ints .u64 5 (a213)]::(ck b3 80 [.ints .u64 5 ((List.replicate 5 0))]::(ck b2 22 [.ints .u8 32 (p0)] :: []))) t m) ?_ ?_)))
 ·refine wc_block<|wc_loopJ (fun n334 t m=>∃ (i331:Int) (a332:List Int),field_FromBytes_l1 p0 k214 n334 i331 a332=some r∧Fit [(2,.pointer (some ⟨b3,0,none⟩)),(3,.pointer (some ⟨b5,0,none⟩)),(8,agg [.ints .u8 32 (p0)]),(9,.int .i64 (i331))] (ck b5 80 [.ints .u64 5 (a332)]::(ck b3 80 [.ints .u64 5 ((List.replicate 5 0))]::(ck b2 22 [.ints .u8 32 (p0)] :: []))) t m) big ?_ ?_
  ·exact ⟨0,(List.replicate 5 0),h,⟨⟨rfl,rfl,rfl,rfl,trivial⟩,(.one .here (.one .here (.one .here .nil)))⟩⟩
  ·rintro n334 t m ⟨i331,a332,h,hF⟩
   refine wc_fit hF ?_
   clear hF
   rcases n334 with _ | n334
   · exact none_i h
   have h:field_FromBytes_b1 p0 k214 (field_FromBytes_l1 p0 k214 n334) i331 a332=some r:=h
   unfold field_FromBytes_b1 at h
   obtain ⟨k333,qk333⟩ : ∃ k,k=field_FromBytes_l1 p0 k214 n334:=⟨_,rfl⟩
   try rw [← qk333] at h
   refine wc_seq<|wc_ops<|wj_q _ (q_bin rfl rfl rfl)<|wj_nil<|wc_seq<|wc_br h rfl (fun h=>?_) (fun h=>?_)
   ·refine wc_skip<|wc_seq<|jH h fun k378 qk378 h=>wc_mono2 (G:=fun t m=>∃ (a377:List Int),k378 a377=some r∧Fit [(2,.pointer (some ⟨b3,0,none⟩)),(3,.pointer (some ⟨b5,0,none⟩)),(8,agg [.ints .u8 32 (p0)]),(9,.int .i64 (i331))] (ck b5 80 [.ints .u64 5 (a377)]::(ck b3 80 [.ints .u64 5 ((List.replicate 5 0))]::(ck b2 22 [.ints .u8 32 (p0)] :: []))) t m) ?_ ?_
    ·refine wc_block<|wc_seq<|cH h fun c380 h=>bH h fun z381 ez381 h=>wc_ops<|wj_m rfl<|wj_q _ (iz ez381 (q_idxi (len:=32) rfl rfl (inB_z c380)))<|wj_m rfl<|wj_m rfl<|wj_nil<|wc_seq<|wc_seq<|wc_ops<|wj_m rfl<|wj_q _ (q_bin rfl rfl rfl)<|wj_nil<|jH h fun k387 qk387 h=>wc_mono2 (G:=fun t m=>∃ (i386:Int),k387 i386=some r∧Fit [(2,.pointer (some ⟨b3,0,none⟩)),(3,.pointer (some ⟨b5,0,none⟩)),(4,.int .i64 (i331)),(5,.int .u8 (i386)),(8,agg [.ints .u8 32 (p0)]),(9,.int .i64 (i331))] (ck b5 80 [.ints .u64 5 (a332)]::(ck b3 80 [.ints .u64 5 ((List.replicate 5 0))]::(ck b2 22 [.ints .u8 32 (p0)] :: []))) t m) ?_ ?_
     ·refine wc_br h rfl (fun h=>?_) (fun h=>?_)
      ·exact bH h fun z390 ez390 h=>wc_ops<|wj_m rfl<|wj_q _ (iz ez390 (q_bin rfl rfl rfl))<|wj_m rfl<|wj_nil<|⟨z390,h,⟨⟨rfl,rfl,rfl,rfl,rfl,rfl,trivial⟩,(.one .here (.one .here (.one .here .nil)))⟩⟩
      ·exact wc_skip<|⟨z381,h,⟨⟨rfl,rfl,rfl,rfl,rfl,rfl,trivial⟩,(.one .here (.one .here (.one .here .nil)))⟩⟩
     ·rintro t m ⟨i386,h,hF⟩
      refine wc_fit hF ?_
      clear hF
      subst qk387
      refine wc_seq<|bH h fun z392 ez392 h=>bH h fun z393 ez393 h=>bH h fun z394 ez394 h=>bH h fun z395 ez395 h=>wc_ops<|wj_m rfl<|wj_q _ (iz ez392 (q_bin rfl rfl rfl))<|wj_q _ (iz ez393 (q_quo rfl rfl (by decide)))<|wj_m rfl<|wj_q _ (iz ez394 (q_bin rfl rfl rfl))<|wj_q _ (iz ez395 (q_rem rfl rfl (by decide)))<|wj_m rfl<|wj_m rfl<|wj_nil<|wc_seq<|cH h fun c397 h=>bH h fun z398 ez398 h=>cH h fun c399 h=>bH h fun z400 ez400 h=>bH h fun z401 ez401 h=>bH h fun z402 ez402 h=>bH h fun z403 ez403 h=>cH h fun c404 h=>bH h fun l405 el405 h=>wc_draw<|ws_p1 _ (q_mv rfl)<|ws_p1 _ (q_ia rfl rfl (inB_z c397))<|ws_p1 _ (q_mv rfl)<|ws_p1 _ (iz ez398 (q_conv rfl))<|ws_p1 _ (q_mv rfl)<|ws_p1 _ (iz ez400 (q_shl rfl rfl (of_decide_eq_true c399)))<|ws_p1 _ (iz ez401 (q_bin rfl rfl rfl))<|ws_q1 _ (iz ez402 (q_ldi (base:=0) rfl .here rfl (inB_n c397)))<|ws_p1 _ (iz ez403 (q_bin rfl rfl rfl))<|ws_p1 _ (q_ia rfl rfl (inB_z c404))<|ws_eL rfl (ef_stiz (q:=[.ints .u64 5 (l405)]) (base:=0) el405 rfl rfl rfl (inB_n c404) rfl .here<|ws_nil<|wc_seq<|wc_ops<|wj_m rfl<|wj_q _ (q_bin rfl rfl rfl)<|wj_m rfl<|wj_and rfl rfl rfl (fun hg1=>qj_g rfl _ (q_mv rfl) (qj_g rfl _ (q_bin rfl rfl rfl) (qj_nil))) (fun hg1=>rfl) rfl<|wj_nil<|wc_br h rfl (fun h=>?_) (fun h=>?_))
      ·exact bH h fun z409 ez409 h=>cH h fun c410 h=>bH h fun z411 ez411 h=>bH h fun z412 ez412 h=>cH h fun c413 h=>bH h fun z414 ez414 h=>bH h fun z415 ez415 h=>bH h fun z416 ez416 h=>cH h fun c417 h=>bH h fun l418 el418 h=>wc_draw<|ws_p1 _ (q_mv rfl)<|ws_p1 _ (iz ez409 (q_bin rfl rfl rfl))<|ws_p1 _ (q_ia rfl rfl (inB_z c410))<|ws_p1 _ (q_mv rfl)<|ws_p1 _ (iz ez411 (q_conv rfl))<|ws_p1 _ (q_mv rfl)<|ws_p1 _ (iz ez412 (q_bin rfl rfl rfl))<|ws_p1 _ (iz ez414 (q_shr rfl rfl (of_decide_eq_true c413)))<|ws_q1 _ (iz ez415 (q_ldi (base:=0) rfl .here rfl (inB_n c410)))<|ws_p1 _ (iz ez416 (q_bin rfl rfl rfl))<|ws_p1 _ (q_ia rfl rfl (inB_z c417))<|ws_eL rfl (ef_stiz (q:=[.ints .u64 5 (l418)]) (base:=0) el418 rfl rfl rfl (inB_n c417) rfl .here<|ws_nil<|⟨l418,h,⟨⟨rfl,rfl,rfl,rfl,trivial⟩,(.one .here (.one .here (.one .here .nil)))⟩⟩)
      ·exact wc_skip<|⟨l405,h,⟨⟨rfl,rfl,rfl,rfl,trivial⟩,(.one .here (.one .here (.one .here .nil)))⟩⟩
    ·rintro t m ⟨a377,h,hF⟩
     refine wc_fit hF ?_
     clear hF
     subst qk378
     refine bH h fun z420 ez420 h=>wc_ops<|wj_q _ (iz ez420 (q_bin rfl rfl rfl))<|wj_m rfl<|wj_nil ?_
     rw [qk333] at h
     exact ⟨n334,Nat.lt_succ_self _,z420,a377,h,⟨⟨rfl,rfl,rfl,rfl,trivial⟩,(.one .here (.one .here (.one .here .nil)))⟩⟩
   ·exact wc_exit _ rfl<|⟨a332,h,⟨⟨rfl,rfl,trivial⟩,(.one .here (.one .here (.one .here .nil)))⟩⟩
 ·rintro t m ⟨a213,h,hF⟩
  refine wc_fit hF ?_
  clear hF
  subst qk214
  refine wc_seq<|oH h fun y422 ey422 h=>wc_ops<|wj_q _ (q_ld (p:=[.ints .u64 5 (a213)]) rfl .here rfl)<|wj_q _ (q_cl rfl (field_reduce_spec ey422))<|wj_e (ef_st (q:=[.ints .u64 5 (y422)]) rfl rfl rfl rfl rfl (.there .here)<|wj_nil<|wc_ret ?_)
  revert h; refine ret_i fun h=>?_
  subst h
  exact ⟨_,(.cons (.agg rfl (.there .here) rfl) .nil),rfl⟩
def curve_start_b1 (k41:(List Int)→Option (api_Point)) (k60:(Int)→(List Int)→Option (api_Point)) (i58:Int) (a59:List Int):Option (api_Point) :=
 br ((decide (i58<31))) (
 bnd (IntKind.wrap .i64 (i58+1)) fun z66 =>
 chk (inB z66 32) <|
 bnd (setD a59 (z66).toNat 102) fun l68 =>
 bnd (IntKind.wrap .i64 (i58+1)) fun z70 =>
 k60 z70 l68
 ) (
 k41 a59
 )
def curve_start_l1 (k41:(List Int)→Option (api_Point)):Nat→(Int)→(List Int)→Option (api_Point)
  | 0,_,_=>none
  | n+1,i58,a59=>curve_start_b1 k41 (curve_start_l1 k41 n) i58 a59
def curve_start:Option (api_Point) :=
 bnd (([26,213,37,143,96,45,86,201,178,167,37,149,96,199,44,105,92,220,214,253,49,226,164,192,254,83,110,205,211,54,105,33]:List Int)) fun z4 =>
 opt (field_FromBytes z4) fun y5 =>
 bnd (([88,0,0,0,0,0,0,0,0,0,0,0,0,0,0,0,0,0,0,0,0,0,0,0,0,0,0,0,0,0,0,0]:List Int)) fun z8 =>
 jn (fun (a40:List Int)=>opt (field_FromBytes a40) fun y72 =>
 opt (curve_unit) fun y75 =>
 opt (field_Mul y5 y72) fun y76 =>
 some (⟨y5,y72,y75,y76⟩:api_Point)) fun k41=>curve_start_l1 k41 big 0 z8
theorem curve_start_spec {W:World} {r:api_Point} (h:curve_start=some r)  :
    Calls Tryz.prog 95 [].toArray W (ret1 W (agg [.ints .u64 5 (r.gX),.ints .u64 5 (r.gY),.ints .u64 5 (r.gZ),.ints .u64 5 (r.gT)])):=by
 unfold curve_start at h
 refine calls_val mo ok95 rfl ?_
 refine wc_seq<|wc_ops<|wj_e (ef_al fun b2 hb2=>wj_nil<|wc_seq<|bH h fun z4 ez4 h=>oH h fun y5 ey5 h=>wc_ops<|wj_q _ (az (fun z=>agg [.ints .u8 32 z]) ez4 (q_bd (.one rfl rfl rfl (.one rfl rfl rfl (.one rfl rfl rfl (.one rfl rfl rfl (.one rfl rfl rfl (.one rfl rfl rfl (.one rfl rfl rfl (.one rfl rfl rfl (.one rfl rfl rfl (.one rfl rfl rfl (.one rfl rfl rfl (.one rfl rfl rfl (.one rfl rfl rfl (.one rfl rfl rfl (.one rfl rfl rfl (.one rfl rfl rfl (.one rfl rfl rfl (.one rfl rfl rfl (.one rfl rfl rfl (.one rfl rfl rfl (.one rfl rfl rfl (.one rfl rfl rfl (.one rfl rfl rfl (.one rfl rfl rfl (.one rfl rfl rfl (.one rfl rfl rfl (.one rfl rfl rfl (.one rfl rfl rfl (.one rfl rfl rfl (.one rfl rfl rfl (.one rfl rfl rfl (.one rfl rfl rfl BdR.nil))))))))))))))))))))))))))))))))))<|wj_q _ (q_cl rfl (field_FromBytes_spec ey5))<|wj_e (ef_al fun b6 hb6=>wj_e (ef_st (q:=[.ints .u64 5 (y5)]) rfl rfl rfl rfl rfl .here<|wj_nil<|wc_seq<|bH h fun z8 ez8 h=>wc_ops<|wj_q _ (az (fun z=>agg [.ints .u8 32 z]) ez8 (q_bd (.one rfl rfl rfl BdR.nil)))<|wj_e (ef_al fun b9 hb9=>wj_e (ef_st (q:=[.ints .u8 32 (z8)]) rfl rfl rfl rfl rfl .here<|wj_nil<|wc_seq<|wc_seq<|wc_ops<|wj_m rfl<|wj_nil<|jH h fun k41 qk41 h=>wc_mono2 (G:=fun t m=>∃ (a40:List Int),k41 a40=some r∧Fit [(0,.pointer (some ⟨b2,0,none⟩)),(1,.pointer (some ⟨b6,0,none⟩)),(2,.pointer (some ⟨b9,0,none⟩))] (ck b9 22 [.ints .u8 32 (a40)]::(ck b6 80 [.ints .u64 5 (y5)]::(ck b2 82 [.ints .u64 5 ((List.replicate 5 0)),.ints .u64 5 ((List.replicate 5 0)),.ints .u64 5 ((List.replicate 5 0)),.ints .u64 5 ((List.replicate 5 0))] :: []))) t m) ?_ ?_)))))
 ·refine wc_block<|wc_loopJ (fun n61 t m=>∃ (i58:Int) (a59:List Int),curve_start_l1 k41 n61 i58 a59=some r∧Fit [(0,.pointer (some ⟨b2,0,none⟩)),(1,.pointer (some ⟨b6,0,none⟩)),(2,.pointer (some ⟨b9,0,none⟩)),(8,.int .i64 (i58))] (ck b9 22 [.ints .u8 32 (a59)]::(ck b6 80 [.ints .u64 5 (y5)]::(ck b2 82 [.ints .u64 5 ((List.replicate 5 0)),.ints .u64 5 ((List.replicate 5 0)),.ints .u64 5 ((List.replicate 5 0)),.ints .u64 5 ((List.replicate 5 0))] :: []))) t m) big ?_ ?_
  ·exact ⟨0,z8,h,⟨⟨rfl,rfl,rfl,rfl,trivial⟩,(.one .here (.one .here (.one .here .nil)))⟩⟩
  ·rintro n61 t m ⟨i58,a59,h,hF⟩
   refine wc_fit hF ?_
   clear hF
   rcases n61 with _ | n61
   · exact none_i h
   have h:curve_start_b1 k41 (curve_start_l1 k41 n61) i58 a59=some r:=h
   unfold curve_start_b1 at h
   obtain ⟨k60,qk60⟩ : ∃ k,k=curve_start_l1 k41 n61:=⟨_,rfl⟩
   try rw [← qk60] at h
   refine wc_seq<|wc_ops<|wj_q _ (q_bin rfl rfl rfl)<|wj_nil<|wc_seq<|wc_br h rfl (fun h=>?_) (fun h=>?_)
   ·refine wc_skip<|wc_seq<|wc_block<|wc_seq<|wc_ops<|wj_m rfl<|wj_m rfl<|wj_nil<|bH h fun z66 ez66 h=>cH h fun c67 h=>bH h fun l68 el68 h=>wc_ops<|wj_m rfl<|wj_q _ (iz ez66 (q_bin rfl rfl rfl))<|wj_q _ (q_ia rfl rfl (inB_z c67))<|wj_e (ef_stiz (q:=[.ints .u8 32 (l68)]) (base:=0) el68 rfl rfl rfl (inB_n c67) rfl .here<|wj_nil<|bH h fun z70 ez70 h=>wc_ops<|wj_q _ (iz ez70 (q_bin rfl rfl rfl))<|wj_m rfl<|wj_nil ?_)
    rw [qk60] at h
    exact ⟨n61,Nat.lt_succ_self _,z70,l68,h,⟨⟨rfl,rfl,rfl,rfl,trivial⟩,(.one .here (.one .here (.one .here .nil)))⟩⟩
   ·exact wc_exit _ rfl<|⟨a59,h,⟨⟨rfl,rfl,rfl,trivial⟩,(.one .here (.one .here (.one .here .nil)))⟩⟩
 ·rintro t m ⟨a40,h,hF⟩
  refine wc_fit hF ?_
  clear hF
  subst qk41
  refine wc_seq<|oH h fun y72 ey72 h=>wc_ops<|wj_q _ (q_ld (p:=[.ints .u8 32 (a40)]) rfl .here rfl)<|wj_q _ (q_cl rfl (field_FromBytes_spec ey72))<|wj_e (ef_al fun b73 hb73=>wj_e (ef_st (q:=[.ints .u64 5 (y72)]) rfl rfl rfl rfl rfl .here<|wj_nil<|wc_seq<|oH h fun y75 ey75 h=>oH h fun y76 ey76 h=>wc_draw<|ws_p1 _ (q_cl rfl (curve_unit_spec ey75))<|ws_q1 _ (q_ld (p:=[.ints .u64 5 (y5)]) rfl (.there (.there .here)) rfl)<|ws_q1 _ (q_ld (p:=[.ints .u64 5 (y72)]) rfl .here rfl)<|ws_q1 _ (q_ld (p:=[.ints .u64 5 (y5)]) rfl (.there (.there .here)) rfl)<|ws_q1 _ (q_ld (p:=[.ints .u64 5 (y72)]) rfl .here rfl)<|ws_p1 _ (q_cl rfl (field_Mul_spec ey76))<|ws_p1 _ (q_bd (q:=[.ints .u64 5 (y5),.ints .u64 5 (y72),.ints .u64 5 (y75),.ints .u64 5 (y76)]) (.agg rfl rfl rfl (.agg rfl rfl rfl (.agg rfl rfl rfl (.agg rfl rfl rfl BdR.nil)))))<|ws_eL rfl (ef_st (q:=[.ints .u64 5 (y5),.ints .u64 5 (y72),.ints .u64 5 (y75),.ints .u64 5 (y76)]) rfl rfl rfl rfl rfl (.there (.there (.there .here)))<|ws_nil<|wc_ret ?_)))
  revert h; refine ret_i fun h=>?_
  subst h
  exact ⟨_,(.cons (.agg rfl (.there (.there (.there .here))) rfl) .nil),rfl⟩
def bits_LoadLE_uint64_b1 (y4:(Bool×List Int)) (k55:(Int)→Option (Int×Bool)) (k83:(Int)→(Int)→Option (Int×Bool)) (i81:Int) (i82:Int):Option (Int×Bool) :=
 br ((decide (i82<(y4.2.length:Int)))) (
 chk (inB i82 y4.2.length) <|
 bnd (y4.2.getD (i82).toNat 0) fun z89 =>
 bnd (IntKind.wrap .u64 z89) fun z91 =>
 bnd (IntKind.wrap .i64 (8*i82)) fun z92 =>
 chk (decide (0≤z92)) <|
 bnd (shlV .u64 z91 z92) fun z94 =>
 bnd (bitsV .or .u64 i81 z94) fun z95 =>
 bnd (IntKind.wrap .i64 (i82+1)) fun z97 =>
 k83 z95 z97
 ) (
 k55 i81
 )
def bits_LoadLE_uint64_l1 (y4:(Bool×List Int)) (k55:(Int)→Option (Int×Bool)):Nat→(Int)→(Int)→Option (Int×Bool)
  | 0,_,_=>none
  | n+1,i81,i82=>bits_LoadLE_uint64_b1 y4 k55 (bits_LoadLE_uint64_l1 y4 k55 n) i81 i82
def bits_LoadLE_uint64 (p0:List Int) (p1:Int):Option (Int×Bool) :=
 opt (bits_piece_uint64 p0 p1) fun y4 =>
 jn (fun (i54:Int)=>some (i54,(!y4.1))) fun k55=>bits_LoadLE_uint64_l1 y4 k55 big 0 0
theorem bits_LoadLE_uint64_spec {W:World} {r:Int×Bool} {p0:List Int} {p1:Int} {v0:Value} (h:bits_LoadLE_uint64 p0 p1=some r) (A0:RdSl (El.int .u8) W v0 p0) :
    Calls Tryz.prog 160 [v0,.int .i64 (p1)].toArray W (ret1 W (.tuple #[.int .u64 (r.1),.bool (r.2)])):=by
 unfold bits_LoadLE_uint64 at h
 refine calls_val mo ok160 rfl ?_
 refine wc_seq<|wc_ops<|wj_m rfl<|wj_m rfl<|wj_nil<|wc_seq<|wc_ops<|wj_m rfl<|wj_nil<|wc_seq<|oH h fun y4 ey4 h=>wc_ops<|wj_m rfl<|wj_m rfl<|wj_e (ef_callS0 rfl (fun w hw=>bits_piece_uint64_spec  ey4 ((rd_arg A0 apart0) w hw)) fun v5 Msv5 R6=>?_)
 obtain ⟨_,rfl,rfl,P10,N8,H9⟩:=R6
 refine wj_m rfl<|wj_nil<|wc_seq<|wc_seq<|wc_ops<|wj_m rfl<|wj_q _ (q_lenP rfl P10)<|wj_m rfl<|wj_nil<|jH h fun k55 qk55 h=>wc_mono2 (G:=fun t m=>∃ (i54:Int),k55 i54=some r∧Fit [(6,.int .u64 (i54)),(7,v5)] [] t m) ?_ ?_
 ·refine wc_block<|wc_loopJ (fun n84 t m=>∃ (i81:Int) (i82:Int),bits_LoadLE_uint64_l1 y4 k55 n84 i81 i82=some r∧Fit [(6,.int .u64 (i81)),(7,v5),(13,v5),(14,.int .i64 ((y4.2.length:Int))),(15,.int .i64 (i82))] [] t m) big ?_ ?_
  ·exact ⟨0,0,h,⟨⟨rfl,rfl,rfl,rfl,rfl,trivial⟩,.nil⟩⟩
  ·rintro n84 t m ⟨i81,i82,h,hF⟩
   refine wc_fit hF ?_
   clear hF
   rcases n84 with _ | n84
   · exact none_i h
   have h:bits_LoadLE_uint64_b1 y4 k55 (bits_LoadLE_uint64_l1 y4 k55 n84) i81 i82=some r:=h
   unfold bits_LoadLE_uint64_b1 at h
   obtain ⟨k83,qk83⟩ : ∃ k,k=bits_LoadLE_uint64_l1 y4 k55 n84:=⟨_,rfl⟩
   try rw [← qk83] at h
   refine wc_seq<|wc_ops<|wj_q _ (q_bin rfl rfl rfl)<|wj_nil<|wc_seq<|wc_br h rfl (fun h=>?_) (fun h=>?_)
   ·refine wc_skip<|wc_seq<|wc_block<|wc_seq<|cH h fun c88 h=>bH h fun z89 ez89 h=>wc_ops<|wj_m rfl<|wj_q _ (q_iasP rfl rfl P10 c88)<|wj_q _ (iz ez89 (q_ldM10 (E:=(El.int .u8)) (s:=[.one (.int .u8 (y4.2.getD (i82).toNat 0))]) rfl (rd_view H9 (rd_arg A0 apart0)) (inB_n c88) rfl rfl))<|wj_m rfl<|wj_m rfl<|wj_nil<|bH h fun z91 ez91 h=>bH h fun z92 ez92 h=>cH h fun c93 h=>bH h fun z94 ez94 h=>bH h fun z95 ez95 h=>wc_ops<|wj_m rfl<|wj_m rfl<|wj_q _ (iz ez91 (q_conv rfl))<|wj_m rfl<|wj_q _ (iz ez92 (q_bin rfl rfl rfl))<|wj_q _ (iz ez94 (q_shl rfl rfl (of_decide_eq_true c93)))<|wj_q _ (iz ez95 (q_bin rfl rfl rfl))<|wj_m rfl<|wj_nil<|bH h fun z97 ez97 h=>wc_ops<|wj_q _ (iz ez97 (q_bin rfl rfl rfl))<|wj_m rfl<|wj_nil ?_
    rw [qk83] at h
    exact ⟨n84,Nat.lt_succ_self _,z95,z97,h,⟨⟨rfl,rfl,rfl,rfl,rfl,trivial⟩,.nil⟩⟩
   ·exact wc_exit _ rfl<|⟨i81,h,⟨⟨rfl,rfl,trivial⟩,.nil⟩⟩
 ·rintro t m ⟨i54,h,hF⟩
  refine wc_fit hF ?_
  clear hF
  subst qk55
  refine wc_seq<|wc_ops<|wj_m rfl<|wj_m rfl<|wj_q _ (q_isnP rfl P10 N8)<|wj_m rfl<|wj_m rfl<|wj_nil<|wc_ret ?_
  revert h; refine ret_i fun h=>?_
  subst h
  exact ⟨_,(.cons (.tmp rfl) (.cons (.tmp rfl) .nil)),rfl⟩
def bits_StoreLE_uint64_b1 (z4:Int) (k66:(List (Int))→OL) (k104:(Int)→(List (Int))→(Int)→OL) (i98:Int) (l101:List (Int)) (i103:Int):OL :=
 br ((decide (i103<((List.replicate (z4).toNat 0:List (Int)).length:Int)))) (
 bnd (IntKind.wrap .u8 i98) fun z110 =>
 chk (inB i103 l101.length) <|
 bnd (setG 0 l101 (i103).toNat z110) fun l112 =>
 bnd (shrV .u64 i98 8) fun z116 =>
 bnd (IntKind.wrap .i64 (i103+1)) fun z118 =>
 k104 z116 l112 z118
 ) (
 k66 l101
 )
def bits_StoreLE_uint64_l1 (z4:Int) (k66:(List (Int))→OL):Nat→(Int)→(List (Int))→(Int)→OL
  | 0,_,_,_=>none
  | n+1,i98,l101,i103=>bits_StoreLE_uint64_b1 z4 k66 (bits_StoreLE_uint64_l1 z4 k66 n) i98 l101 i103
def bits_StoreLE_uint64 (p0:Int):OL :=
 opt (bits_width_uint64) fun y3 =>
 bnd (IntKind.wrap .i64 (Int.tdiv y3 8)) fun z4 =>
 chk (mkB 1 z4 z4) <|
 jn (fun (l64:List (Int))=>some l64) fun k66=>bits_StoreLE_uint64_l1 z4 k66 big p0 (List.replicate (z4).toNat 0:List (Int)) 0
theorem bits_StoreLE_uint64_spec {W:World} {r:(List Int)} {p0:Int} (h:bits_StoreLE_uint64 p0=some r)  :
    Calls Tryz.prog 204 [.int .u64 (p0)].toArray W (retS W [] (fun v Ms=>∃ (u0:Value) (M0:List Chunk),v=u0∧Ms = [.all M0]∧OwnSl (El.int .u8) u0 M0 r)):=by
 unfold bits_StoreLE_uint64 at h
 refine calls_memT mo ok204 rfl (sat0 _) ?_
 refine wc_seq<|wc_ops<|wj_m rfl<|wj_nil<|wc_seq<|oH h fun y3 ey3 h=>bH h fun z4 ez4 h=>cH h fun c5 h=>wc_ops<|wj_q _ (q_cl rfl (bits_width_uint64_spec ey3))<|wj_q _ (iz ez4 (q_quo rfl rfl (by decide)))<|wj_e (ef_mksO (E:=(El.int .u8)) rfl rfl rfl c5 fun v6 ms7 O8=>wj_m rfl<|wj_nil<|wc_seq<|wc_seq<|wc_ops<|wj_m rfl<|wj_q _ (q_lenP rfl (Shp.own O8))<|wj_m rfl<|wj_nil<|jH h fun k66 qk66 h=>wc_mono2 (G:=fun t m=>∃ (l64:List (Int)) (v62:Value) (ms63:List Chunk),k66 l64=some r∧OwnSl (El.int .u8) v62 ms63 l64∧Fit [(3,v62)] (ms63 ++ []) t m) ?_ ?_)
 ·refine wc_block<|wc_loopJ (fun n105 t m=>∃ (i98:Int) (l101:List (Int)) (i103:Int) (v99:Value) (ms100:List Chunk),bits_StoreLE_uint64_l1 z4 k66 n105 i98 l101 i103=some r∧OwnSl (El.int .u8) v99 ms100 l101∧Fit [(0,.int .u64 (i98)),(3,v99),(9,.int .i64 (((List.replicate (z4).toNat 0:List (Int)).length:Int))),(10,.int .i64 (i103))] (ms100 ++ []) t m) big ?_ ?_
  ·exact ⟨p0,(List.replicate (z4).toNat 0:List (Int)),0,v6,ms7,h,O8,⟨⟨rfl,rfl,rfl,rfl,trivial⟩,(.all .here .nil)⟩⟩
  ·rintro n105 t m ⟨i98,l101,i103,v99,ms100,h,O102,hF⟩
   refine wc_fit hF ?_
   clear hF
   rcases n105 with _ | n105
   · exact none_i h
   have h:bits_StoreLE_uint64_b1 z4 k66 (bits_StoreLE_uint64_l1 z4 k66 n105) i98 l101 i103=some r:=h
   unfold bits_StoreLE_uint64_b1 at h
   obtain ⟨k104,qk104⟩ : ∃ k,k=bits_StoreLE_uint64_l1 z4 k66 n105:=⟨_,rfl⟩
   try rw [← qk104] at h
   refine wc_seq<|wc_ops<|wj_q _ (q_bin rfl rfl rfl)<|wj_nil<|wc_seq<|wc_br h rfl (fun h=>?_) (fun h=>?_)
   ·refine wc_skip<|wc_seq<|wc_block<|wc_seq<|wc_ops<|wj_m rfl<|wj_m rfl<|wj_nil<|wc_seq<|bH h fun z110 ez110 h=>cH h fun c111 h=>bH h fun l112 el112 h=>wc_ops<|wj_m rfl<|wj_m rfl<|wj_m rfl<|wj_q _ (iz ez110 (q_conv rfl))<|wj_q _ (q_iasP rfl rfl (Shp.own O102) c111)<|wj_e (ef_stO (E:=(El.int .u8)) el112 O102 .here rfl rfl rfl (inB_n c111) fun ms113 O114=>wj_nil<|bH h fun z116 ez116 h=>wc_ops<|wj_m rfl<|wj_q _ (iz ez116 (q_shr rfl rfl (by decide)))<|wj_m rfl<|wj_nil<|bH h fun z118 ez118 h=>wc_ops<|wj_q _ (iz ez118 (q_bin rfl rfl rfl))<|wj_m rfl<|wj_nil ?_)
    rw [qk104] at h
    exact ⟨n105,Nat.lt_succ_self _,z116,l112,z118,v99,ms113,h,O114,⟨⟨rfl,rfl,rfl,rfl,trivial⟩,(.all .here .nil)⟩⟩
   ·exact wc_exit _ rfl<|⟨l101,v99,ms100,h,O102,⟨⟨rfl,trivial⟩,(.all .here .nil)⟩⟩
 ·rintro t m ⟨l64,v62,ms63,h,O65,hF⟩
  refine wc_fit hF ?_
  clear hF
  subst qk66
  refine wc_seq<|wc_ops<|wj_m rfl<|wj_m rfl<|wj_nil<|wc_ret ?_
  revert h; refine ret_i fun h=>?_
  subst h
  exact ⟨_,_,(.cons (.tmp rfl) .nil),(.all .here .nil),⟨_,rfl,⟨v62,ms63,rfl,rfl,O65⟩⟩⟩
def scalar_store_b1 (p0:List Int) (k60:(List Int)→OL) (k94:(Int)→(List Int)→OL) (i92:Int) (a93:List Int):OL :=
 br ((decide (i92<4))) (
 chk (inB i92 4) <|
 bnd (p0.getD (i92).toNat 0) fun z100 =>
 bnd (IntKind.wrap .i64 (8*i92)) fun z102 =>
 chk (cutB z102 32 32) <|
 opt (bits_StoreLE_uint64 z100) fun y104 =>
 bnd (wr a93 (z102).toNat (y104.take (32-(z102).toNat))) fun l110 =>
 bnd (IntKind.wrap .i64 (i92+1)) fun z112 =>
 k94 z112 l110
 ) (
 k60 a93
 )
def scalar_store_l1 (p0:List Int) (k60:(List Int)→OL):Nat→(Int)→(List Int)→OL
  | 0,_,_=>none
  | n+1,i92,a93=>scalar_store_b1 p0 k60 (scalar_store_l1 p0 k60 n) i92 a93
def scalar_store (p0:List Int):OL :=
 jn (fun (a59:List Int)=>some a59) fun k60=>scalar_store_l1 p0 k60 big 0 (List.replicate 32 0)
theorem scalar_store_spec {W:World} {r:(List Int)} {p0:List Int} (h:scalar_store p0=some r)  :
    Calls Tryz.prog 161 [agg [.ints .u64 4 (p0)]].toArray W (ret1 W (agg [.ints .u8 32 (r)])):=by
 unfold scalar_store at h
 refine calls_val mo ok161 rfl ?_
 refine wc_seq<|wc_ops<|wj_e (ef_bx (s:=[.ints .u64 4 (p0)]) rfl fun b2 hb2=>wj_e (ef_al fun b3 hb3=>wj_nil<|wc_seq<|wc_ops<|wj_e (ef_al fun b5 hb5=>wj_nil<|wc_seq<|wc_seq<|wc_ops<|wj_q _ (q_ld (p:=[.ints .u64 4 (p0)]) rfl (.there (.there .here)) rfl)<|wj_m rfl<|wj_nil<|jH h fun k60 qk60 h=>wc_mono2 (G:=fun t m=>∃ (a59:List Int),k60 a59=some r∧Fit [(2,.pointer (some ⟨b3,0,none⟩)),(3,.pointer (some ⟨b5,0,none⟩))] (ck b5 74 [.ints .u8 32 (a59)]::(ck b3 74 [.ints .u8 32 ((List.replicate 32 0))]::(ck b2 162 [.ints .u64 4 (p0)] :: []))) t m) ?_ ?_)))
 ·refine wc_block<|wc_loopJ (fun n95 t m=>∃ (i92:Int) (a93:List Int),scalar_store_l1 p0 k60 n95 i92 a93=some r∧Fit [(2,.pointer (some ⟨b3,0,none⟩)),(3,.pointer (some ⟨b5,0,none⟩)),(6,agg [.ints .u64 4 (p0)]),(7,.int .i64 (i92))] (ck b5 74 [.ints .u8 32 (a93)]::(ck b3 74 [.ints .u8 32 ((List.replicate 32 0))]::(ck b2 162 [.ints .u64 4 (p0)] :: []))) t m) big ?_ ?_
  ·exact ⟨0,(List.replicate 32 0),h,⟨⟨rfl,rfl,rfl,rfl,trivial⟩,(.one .here (.one .here (.one .here .nil)))⟩⟩
  ·rintro n95 t m ⟨i92,a93,h,hF⟩
   refine wc_fit hF ?_
   clear hF
   rcases n95 with _ | n95
   · exact none_i h
   have h:scalar_store_b1 p0 k60 (scalar_store_l1 p0 k60 n95) i92 a93=some r:=h
   unfold scalar_store_b1 at h
   obtain ⟨k94,qk94⟩ : ∃ k,k=scalar_store_l1 p0 k60 n95:=⟨_,rfl⟩
   try rw [← qk94] at h
   refine wc_seq<|wc_ops<|wj_q _ (q_bin rfl rfl rfl)<|wj_nil<|wc_seq<|wc_br h rfl (fun h=>?_) (fun h=>?_)
   ·refine wc_skip<|wc_seq<|wc_block<|wc_seq<|cH h fun c99 h=>bH h fun z100 ez100 h=>wc_ops<|wj_m rfl<|wj_q _ (iz ez100 (q_idxi (len:=4) rfl rfl (inB_z c99)))<|wj_m rfl<|wj_m rfl<|wj_nil<|bH h fun z102 ez102 h=>cH h fun c103 h=>oH h fun y104 ey104 h=>bH h fun l110 el110 h=>wc_draw<|ws_p1 _ (q_mv rfl)<|ws_p1 _ (iz ez102 (q_bin rfl rfl rfl))<|ws_p1 _ (q_sla rfl (.yes rfl) .no .no (by simp) (cut4 c103))<|ws_p1 _ (q_mv rfl)<|ws_e1 (ef_callS0 rfl (fun w hw=>bits_StoreLE_uint64_spec  ey104 ) fun v105 Msv105 R106=>?_)
    obtain ⟨_,ms108,rfl,rfl,O109⟩:=R106
    refine ⟨(by repeat (first | exact Sup.refl _ | apply Sup.cons | apply Sup.app)),ws_eL rfl (ef_cpyB (q:=[.ints .u8 32 (l110)]) (lo:=(z102).toNat) (hi:=32) (mz:=32) (base:=0) el110 rfl rfl (rd_own O109 .here) rfl (cutn c103) rfl (.app .here) (ws_nil (bH h fun z112 ez112 h=>wc_ops (wj_q _ (iz ez112 (q_bin rfl rfl rfl)) (wj_m rfl (wj_nil ?_))))))⟩
    rw [qk94] at h
    exact ⟨n95,Nat.lt_succ_self _,z112,l110,h,⟨⟨rfl,rfl,rfl,rfl,trivial⟩,(.one (.app .here) (.one (.app .here) (.one (.app .here) .nil)))⟩⟩
   ·exact wc_exit _ rfl<|⟨a93,h,⟨⟨rfl,rfl,trivial⟩,(.one .here (.one .here (.one .here .nil)))⟩⟩
 ·rintro t m ⟨a59,h,hF⟩
  refine wc_fit hF ?_
  clear hF
  subst qk60
  refine wc_seq<|wc_ops<|wj_q _ (q_ld (p:=[.ints .u8 32 (a59)]) rfl .here rfl)<|wj_e (ef_st (q:=[.ints .u8 32 (a59)]) rfl rfl rfl rfl rfl (.there .here)<|wj_nil<|wc_ret ?_)
  revert h; refine ret_i fun h=>?_
  subst h
  exact ⟨_,(.cons (.agg rfl (.there .here) rfl) .nil),rfl⟩
def scalar_minus_b1 (p1:List Int) (k57:(Int)→(List Int)→Option ((List Int)×Int)) (k89:(Int)→(Int)→(List Int)→Option ((List Int)×Int)) (i86:Int) (i87:Int) (a88:List Int):Option ((List Int)×Int) :=
 br ((decide (i87<4))) (
 chk (inB i87 4) <|
 chk (inB i87 4) <|
 bnd (a88.getD (i87).toNat 0) fun z97 =>
 bnd (p1.getD (i87).toNat 0) fun z98 =>
 chk (subOk z97 z98 i86) <|
 bnd (subLo z97 z98 i86) fun z100 =>
 bnd (subHi z97 z98 i86) fun z101 =>
 chk (inB i87 4) <|
 bnd (setD a88 (i87).toNat z100) fun l103 =>
 bnd (IntKind.wrap .i64 (i87+1)) fun z105 =>
 k89 z101 z105 l103
 ) (
 k57 i86 a88
 )
def scalar_minus_l1 (p1:List Int) (k57:(Int)→(List Int)→Option ((List Int)×Int)):Nat→(Int)→(Int)→(List Int)→Option ((List Int)×Int)
  | 0,_,_,_=>none
  | n+1,i86,i87,a88=>scalar_minus_b1 p1 k57 (scalar_minus_l1 p1 k57 n) i86 i87 a88
def scalar_minus (p0:List Int) (p1:List Int):Option ((List Int)×Int) :=
 jn (fun (i55:Int) (a56:List Int)=>some (a56,i55)) fun k57=>scalar_minus_l1 p1 k57 big 0 0 p0
theorem scalar_minus_spec {W:World} {r:(List Int)×Int} {p0:List Int} {p1:List Int} (h:scalar_minus p0 p1=some r)  :
    Calls Tryz.prog 131 [agg [.ints .u64 4 (p0)],agg [.ints .u64 4 (p1)]].toArray W (ret1 W (.tuple #[agg [.ints .u64 4 (r.1)],.int .u64 (r.2)])):=by
 unfold scalar_minus at h
 refine calls_val mo ok131 rfl ?_
 refine wc_seq<|wc_ops<|wj_e (ef_bx (s:=[.ints .u64 4 (p0)]) rfl fun b2 hb2=>wj_e (ef_bx (s:=[.ints .u64 4 (p1)]) rfl fun b3 hb3=>wj_e (ef_al fun b4 hb4=>wj_m rfl<|wj_nil<|wc_seq<|wc_ops<|wj_m rfl<|wj_nil<|wc_seq<|wc_seq<|wc_ops<|wj_m rfl<|wj_nil<|jH h fun k57 qk57 h=>wc_mono2 (G:=fun t m=>∃ (i55:Int) (a56:List Int),k57 i55 a56=some r∧Fit [(2,.pointer (some ⟨b2,0,none⟩)),(4,.pointer (some ⟨b4,0,none⟩)),(6,.int .u64 (i55))] (ck b4 162 [.ints .u64 4 ((List.replicate 4 0))]::(ck b3 162 [.ints .u64 4 (p1)]::(ck b2 162 [.ints .u64 4 (a56)] :: []))) t m) ?_ ?_)))
 ·refine wc_block<|wc_loopJ (fun n90 t m=>∃ (i86:Int) (i87:Int) (a88:List Int),scalar_minus_l1 p1 k57 n90 i86 i87 a88=some r∧Fit [(2,.pointer (some ⟨b2,0,none⟩)),(3,.pointer (some ⟨b3,0,none⟩)),(4,.pointer (some ⟨b4,0,none⟩)),(6,.int .u64 (i86)),(8,.int .i64 (i87))] (ck b4 162 [.ints .u64 4 ((List.replicate 4 0))]::(ck b3 162 [.ints .u64 4 (p1)]::(ck b2 162 [.ints .u64 4 (a88)] :: []))) t m) big ?_ ?_
  ·exact ⟨0,0,p0,h,⟨⟨rfl,rfl,rfl,rfl,rfl,trivial⟩,(.one .here (.one .here (.one .here .nil)))⟩⟩
  ·rintro n90 t m ⟨i86,i87,a88,h,hF⟩
   refine wc_fit hF ?_
   clear hF
   rcases n90 with _ | n90
   · exact none_i h
   have h:scalar_minus_b1 p1 k57 (scalar_minus_l1 p1 k57 n90) i86 i87 a88=some r:=h
   unfold scalar_minus_b1 at h
   obtain ⟨k89,qk89⟩ : ∃ k,k=scalar_minus_l1 p1 k57 n90:=⟨_,rfl⟩
   try rw [← qk89] at h
   refine wc_seq<|wc_ops<|wj_q _ (q_bin rfl rfl rfl)<|wj_nil<|wc_seq<|wc_br h rfl (fun h=>?_) (fun h=>?_)
   ·refine wc_skip<|wc_seq<|wc_block<|wc_seq<|wc_ops<|wj_m rfl<|wj_m rfl<|wj_nil<|cH h fun c95 h=>cH h fun c96 h=>bH h fun z97 ez97 h=>bH h fun z98 ez98 h=>cH h fun c99 h=>bH h fun z100 ez100 h=>bH h fun z101 ez101 h=>cH h fun c102 h=>bH h fun l103 el103 h=>wc_draw<|ws_p1 _ (q_mv rfl)<|ws_p1 _ (q_mv rfl)<|ws_p1 _ (q_ia rfl rfl (inB_z c95))<|ws_p1 _ (q_mv rfl)<|ws_p1 _ (q_ia rfl rfl (inB_z c96))<|ws_p1 _ (q_mv rfl)<|ws_q1 _ (iz ez97 (q_ldi (base:=0) rfl (.there (.there .here)) rfl (inB_n c95)))<|ws_q1 _ (iz ez98 (q_ldi (base:=0) rfl (.there .here) rfl (inB_n c96)))<|ws_p1 _ (q_xcall rfl ext_sub (xsub ez100 ez101 c99))<|ws_p1 _ (q_mv rfl)<|ws_p1 _ (q_ext rfl rfl)<|ws_p1 _ (q_ext rfl rfl)<|ws_p1 _ (q_ia rfl rfl (inB_z c102))<|ws_eL rfl (ef_stiz (q:=[.ints .u64 4 (l103)]) (base:=0) el103 rfl rfl rfl (inB_n c102) rfl (.there (.there .here))<|ws_p1 _ (q_mv rfl)<|ws_nil<|bH h fun z105 ez105 h=>wc_ops<|wj_q _ (iz ez105 (q_bin rfl rfl rfl))<|wj_m rfl<|wj_nil ?_)
    rw [qk89] at h
    exact ⟨n90,Nat.lt_succ_self _,z101,z105,l103,h,⟨⟨rfl,rfl,rfl,rfl,rfl,trivial⟩,(.one .here (.one .here (.one .here .nil)))⟩⟩
   ·exact wc_exit _ rfl<|⟨i86,a88,h,⟨⟨rfl,rfl,rfl,trivial⟩,(.one .here (.one .here (.one .here .nil)))⟩⟩
 ·rintro t m ⟨i55,a56,h,hF⟩
  refine wc_fit hF ?_
  clear hF
  subst qk57
  refine wc_seq<|wc_ops<|wj_q _ (q_ld (p:=[.ints .u64 4 (a56)]) rfl (.there (.there .here)) rfl)<|wj_m rfl<|wj_e (ef_st (q:=[.ints .u64 4 (a56)]) rfl rfl rfl rfl rfl .here<|wj_m rfl<|wj_nil<|wc_ret ?_)
  revert h; refine ret_i fun h=>?_
  subst h
  exact ⟨_,(.cons (.agg rfl .here rfl) (.cons (.tmp rfl) .nil)),rfl⟩
def scalar_plus_b1 (p1:List Int) (k57:(Int)→(List Int)→Option ((List Int)×Int)) (k89:(Int)→(Int)→(List Int)→Option ((List Int)×Int)) (i86:Int) (i87:Int) (a88:List Int):Option ((List Int)×Int) :=
 br ((decide (i87<4))) (
 chk (inB i87 4) <|
 chk (inB i87 4) <|
 bnd (a88.getD (i87).toNat 0) fun z97 =>
 bnd (p1.getD (i87).toNat 0) fun z98 =>
 chk (addOk z97 z98 i86) <|
 bnd (addLo z97 z98 i86) fun z100 =>
 bnd (addHi z97 z98 i86) fun z101 =>
 chk (inB i87 4) <|
 bnd (setD a88 (i87).toNat z100) fun l103 =>
 bnd (IntKind.wrap .i64 (i87+1)) fun z105 =>
 k89 z101 z105 l103
 ) (
 k57 i86 a88
 )
def scalar_plus_l1 (p1:List Int) (k57:(Int)→(List Int)→Option ((List Int)×Int)):Nat→(Int)→(Int)→(List Int)→Option ((List Int)×Int)
  | 0,_,_,_=>none
  | n+1,i86,i87,a88=>scalar_plus_b1 p1 k57 (scalar_plus_l1 p1 k57 n) i86 i87 a88
def scalar_plus (p0:List Int) (p1:List Int):Option ((List Int)×Int) :=
 jn (fun (i55:Int) (a56:List Int)=>some (a56,i55)) fun k57=>scalar_plus_l1 p1 k57 big 0 0 p0
theorem scalar_plus_spec {W:World} {r:(List Int)×Int} {p0:List Int} {p1:List Int} (h:scalar_plus p0 p1=some r)  :
    Calls Tryz.prog 165 [agg [.ints .u64 4 (p0)],agg [.ints .u64 4 (p1)]].toArray W (ret1 W (.tuple #[agg [.ints .u64 4 (r.1)],.int .u64 (r.2)])):=by
 unfold scalar_plus at h
 refine calls_val mo ok165 rfl ?_
 refine wc_seq<|wc_ops<|wj_e (ef_bx (s:=[.ints .u64 4 (p0)]) rfl fun b2 hb2=>wj_e (ef_bx (s:=[.ints .u64 4 (p1)]) rfl fun b3 hb3=>wj_e (ef_al fun b4 hb4=>wj_m rfl<|wj_nil<|wc_seq<|wc_ops<|wj_m rfl<|wj_nil<|wc_seq<|wc_seq<|wc_ops<|wj_m rfl<|wj_nil<|jH h fun k57 qk57 h=>wc_mono2 (G:=fun t m=>∃ (i55:Int) (a56:List Int),k57 i55 a56=some r∧Fit [(2,.pointer (some ⟨b2,0,none⟩)),(4,.pointer (some ⟨b4,0,none⟩)),(6,.int .u64 (i55))] (ck b4 162 [.ints .u64 4 ((List.replicate 4 0))]::(ck b3 162 [.ints .u64 4 (p1)]::(ck b2 162 [.ints .u64 4 (a56)] :: []))) t m) ?_ ?_)))
 ·refine wc_block<|wc_loopJ (fun n90 t m=>∃ (i86:Int) (i87:Int) (a88:List Int),scalar_plus_l1 p1 k57 n90 i86 i87 a88=some r∧Fit [(2,.pointer (some ⟨b2,0,none⟩)),(3,.pointer (some ⟨b3,0,none⟩)),(4,.pointer (some ⟨b4,0,none⟩)),(6,.int .u64 (i86)),(8,.int .i64 (i87))] (ck b4 162 [.ints .u64 4 ((List.replicate 4 0))]::(ck b3 162 [.ints .u64 4 (p1)]::(ck b2 162 [.ints .u64 4 (a88)] :: []))) t m) big ?_ ?_
  ·exact ⟨0,0,p0,h,⟨⟨rfl,rfl,rfl,rfl,rfl,trivial⟩,(.one .here (.one .here (.one .here .nil)))⟩⟩
  ·rintro n90 t m ⟨i86,i87,a88,h,hF⟩
   refine wc_fit hF ?_
   clear hF
   rcases n90 with _ | n90
   · exact none_i h
   have h:scalar_plus_b1 p1 k57 (scalar_plus_l1 p1 k57 n90) i86 i87 a88=some r:=h
   unfold scalar_plus_b1 at h
   obtain ⟨k89,qk89⟩ : ∃ k,k=scalar_plus_l1 p1 k57 n90:=⟨_,rfl⟩
   try rw [← qk89] at h
   refine wc_seq<|wc_ops<|wj_q _ (q_bin rfl rfl rfl)<|wj_nil<|wc_seq<|wc_br h rfl (fun h=>?_) (fun h=>?_)
   ·refine wc_skip<|wc_seq<|wc_block<|wc_seq<|wc_ops<|wj_m rfl<|wj_m rfl<|wj_nil<|cH h fun c95 h=>cH h fun c96 h=>bH h fun z97 ez97 h=>bH h fun z98 ez98 h=>cH h fun c99 h=>bH h fun z100 ez100 h=>bH h fun z101 ez101 h=>cH h fun c102 h=>bH h fun l103 el103 h=>wc_draw<|ws_p1 _ (q_mv rfl)<|ws_p1 _ (q_mv rfl)<|ws_p1 _ (q_ia rfl rfl (inB_z c95))<|ws_p1 _ (q_mv rfl)<|ws_p1 _ (q_ia rfl rfl (inB_z c96))<|ws_p1 _ (q_mv rfl)<|ws_q1 _ (iz ez97 (q_ldi (base:=0) rfl (.there (.there .here)) rfl (inB_n c95)))<|ws_q1 _ (iz ez98 (q_ldi (base:=0) rfl (.there .here) rfl (inB_n c96)))<|ws_p1 _ (q_xcall rfl ext_add (xadd ez100 ez101 c99))<|ws_p1 _ (q_mv rfl)<|ws_p1 _ (q_ext rfl rfl)<|ws_p1 _ (q_ext rfl rfl)<|ws_p1 _ (q_ia rfl rfl (inB_z c102))<|ws_eL rfl (ef_stiz (q:=[.ints .u64 4 (l103)]) (base:=0) el103 rfl rfl rfl (inB_n c102) rfl (.there (.there .here))<|ws_p1 _ (q_mv rfl)<|ws_nil<|bH h fun z105 ez105 h=>wc_ops<|wj_q _ (iz ez105 (q_bin rfl rfl rfl))<|wj_m rfl<|wj_nil ?_)
    rw [qk89] at h
    exact ⟨n90,Nat.lt_succ_self _,z101,z105,l103,h,⟨⟨rfl,rfl,rfl,rfl,rfl,trivial⟩,(.one .here (.one .here (.one .here .nil)))⟩⟩
   ·exact wc_exit _ rfl<|⟨i86,a88,h,⟨⟨rfl,rfl,rfl,trivial⟩,(.one .here (.one .here (.one .here .nil)))⟩⟩
 ·rintro t m ⟨i55,a56,h,hF⟩
  refine wc_fit hF ?_
  clear hF
  subst qk57
  refine wc_seq<|wc_ops<|wj_q _ (q_ld (p:=[.ints .u64 4 (a56)]) rfl (.there (.there .here)) rfl)<|wj_m rfl<|wj_e (ef_st (q:=[.ints .u64 4 (a56)]) rfl rfl rfl rfl rfl .here<|wj_m rfl<|wj_nil<|wc_ret ?_)
  revert h; refine ret_i fun h=>?_
  subst h
  exact ⟨_,(.cons (.agg rfl .here rfl) (.cons (.tmp rfl) .nil)),rfl⟩
def scalar_below_b2 (k297:(List Int)→OL) (a491:List Int) (k541:Unit→OL) (k570:(Int)→OL) (i569:Int):OL :=
 br ((decide (i569≥0))) (
 chk (inB i569 4) <|
 chk (inB i569 4) <|
 bnd (a491.getD (i569).toNat 0) fun z577 =>
 bnd (G_order.getD (i569).toNat 0) fun z578 =>
 br ((decide (z577<z578))) (
 k297 a491
 ) (
 chk (inB i569 4) <|
 chk (inB i569 4) <|
 bnd (a491.getD (i569).toNat 0) fun z583 =>
 bnd (G_order.getD (i569).toNat 0) fun z584 =>
 br ((decide (z583>z584))) (
 k541 ()
 ) (
 bnd (IntKind.wrap .i64 (i569-1)) fun z587 =>
 k570 z587
 )
 )
 ) (
 k541 ()
 )
def scalar_below_l2 (k297:(List Int)→OL) (a491:List Int) (k541:Unit→OL):Nat→(Int)→OL
  | 0,_=>none
  | n+1,i569=>scalar_below_b2 k297 a491 k541 (scalar_below_l2 k297 a491 k541 n) i569
def scalar_below_b1 (k297:(List Int)→OL) (k492:(List Int)→OL) (a491:List Int):OL :=
 jn (fun (_:Unit)=>opt (scalar_minus a491 G_order) fun y589 =>
 k492 y589.1) fun k541=>scalar_below_l2 k297 a491 k541 big 3
def scalar_below_l1 (k297:(List Int)→OL):Nat→(List Int)→OL
  | 0,_=>none
  | n+1,a491=>scalar_below_b1 k297 (scalar_below_l1 k297 n) a491
def scalar_below (p0:List Int):OL :=
 jn (fun (a296:List Int)=>some a296) fun k297=>scalar_below_l1 k297 big p0
theorem scalar_below_spec {W:World} {r:(List Int)} {p0:List Int} (h:scalar_below p0=some r) (hG:Globs W) :
    Calls Tryz.prog 167 [agg [.ints .u64 4 (p0)]].toArray W (ret1 W (agg [.ints .u64 4 (r)])):=by
 unfold scalar_below at h
 refine calls_val mo ok167 rfl ?_
 refine wc_seq<|wc_ops<|wj_e (ef_bx (s:=[.ints .u64 4 (p0)]) rfl fun b2 hb2=>wj_e (ef_al fun b3 hb3=>wj_nil<|wc_scope<|wc_seq<|wc_lbl<|wc_seq<|jH h fun k297 qk297 h=>wc_mono2 (G:=fun t m=>∃ (a296:List Int),k297 a296=some r∧Fit [(1,.pointer (some ⟨b2,0,none⟩)),(2,.pointer (some ⟨b3,0,none⟩))] (ck b3 162 [.ints .u64 4 ((List.replicate 4 0))]::(ck b2 162 [.ints .u64 4 (a296)] :: [])) t m) ?_ ?_))
 ·refine wc_block<|wc_loopJ (fun n493 t m=>∃ (a491:List Int),scalar_below_l1 k297 n493 a491=some r∧Fit [(1,.pointer (some ⟨b2,0,none⟩)),(2,.pointer (some ⟨b3,0,none⟩))] (ck b3 162 [.ints .u64 4 ((List.replicate 4 0))]::(ck b2 162 [.ints .u64 4 (a491)] :: [])) t m) big ?_ ?_
  ·exact ⟨p0,h,⟨⟨rfl,rfl,trivial⟩,(.one .here (.one .here .nil))⟩⟩
  ·rintro n493 t m ⟨a491,h,hF⟩
   refine wc_fit hF ?_
   clear hF
   rcases n493 with _ | n493
   · exact none_i h
   have h:scalar_below_b1 k297 (scalar_below_l1 k297 n493) a491=some r:=h
   unfold scalar_below_b1 at h
   obtain ⟨k492,qk492⟩ : ∃ k,k=scalar_below_l1 k297 n493:=⟨_,rfl⟩
   try rw [← qk492] at h
   refine wc_block<|wc_seq<|wc_seq<|wc_ops<|wj_m rfl<|wj_nil<|jH h fun k541 qk541 h=>wc_mono2 (G:=fun t m=>k541 ()=some r∧Fit [(1,.pointer (some ⟨b2,0,none⟩)),(2,.pointer (some ⟨b3,0,none⟩))] (ck b3 162 [.ints .u64 4 ((List.replicate 4 0))]::(ck b2 162 [.ints .u64 4 (a491)] :: [])) t m) ?_ ?_
   ·refine wc_block<|wc_loopJ (fun n571 t m=>∃ (i569:Int),scalar_below_l2 k297 a491 k541 n571 i569=some r∧Fit [(1,.pointer (some ⟨b2,0,none⟩)),(2,.pointer (some ⟨b3,0,none⟩)),(3,.int .i64 (i569))] (ck b3 162 [.ints .u64 4 ((List.replicate 4 0))]::(ck b2 162 [.ints .u64 4 (a491)] :: [])) t m) big ?_ ?_
    ·exact ⟨3,h,⟨⟨rfl,rfl,rfl,trivial⟩,(.one .here (.one .here .nil))⟩⟩
    ·rintro n571 t m ⟨i569,h,hF⟩
     refine wc_fit hF ?_
     clear hF
     rcases n571 with _ | n571
     · exact none_i h
     have h:scalar_below_b2 k297 a491 k541 (scalar_below_l2 k297 a491 k541 n571) i569=some r:=h
     unfold scalar_below_b2 at h
     obtain ⟨k570,qk570⟩ : ∃ k,k=scalar_below_l2 k297 a491 k541 n571:=⟨_,rfl⟩
     try rw [← qk570] at h
     refine wc_seq<|wc_seq<|wc_ops<|wj_m rfl<|wj_q _ (q_bin rfl rfl rfl)<|wj_nil<|wc_br h rfl (fun h=>?_) (fun h=>?_)
     ·refine wc_skip<|wc_seq<|wc_block<|wc_seq<|wc_seq<|cH h fun c575 h=>cH h fun c576 h=>bH h fun z577 ez577 h=>bH h fun z578 ez578 h=>wc_draw<|ws_p1 _ (q_mv rfl)<|ws_p1 _ (q_ia rfl rfl (inB_z c575))<|ws_p1 _ (q_mv rfl)<|ws_p1 _ (q_ia rfl rfl (inB_z c576))<|ws_q1 _ (iz ez577 (q_ldi (base:=0) rfl (.there .here) rfl (inB_n c575)))<|ws_q1 _ (iz ez578 (q_memi rfl (hG.g1) (by simp) (inB_n c576)))<|ws_p1 _ (q_bin rfl rfl rfl)<|ws_nil<|wc_br h rfl (fun h=>?_) (fun h=>?_)
      ·exact wc_exit _ rfl<|⟨a491,h,⟨⟨rfl,rfl,trivial⟩,(.one .here (.one .here .nil))⟩⟩
      ·refine wc_skip<|wc_seq<|cH h fun c581 h=>cH h fun c582 h=>bH h fun z583 ez583 h=>bH h fun z584 ez584 h=>wc_draw<|ws_p1 _ (q_mv rfl)<|ws_p1 _ (q_ia rfl rfl (inB_z c581))<|ws_p1 _ (q_mv rfl)<|ws_p1 _ (q_ia rfl rfl (inB_z c582))<|ws_q1 _ (iz ez583 (q_ldi (base:=0) rfl (.there .here) rfl (inB_n c581)))<|ws_q1 _ (iz ez584 (q_memi rfl (hG.g1) (by simp) (inB_n c582)))<|ws_p1 _ (q_bin rfl rfl rfl)<|ws_nil<|wc_br h rfl (fun h=>?_) (fun h=>?_)
       ·exact wc_exit _ rfl<|⟨h,⟨⟨rfl,rfl,trivial⟩,(.one .here (.one .here .nil))⟩⟩
       ·refine wc_skip<|bH h fun z587 ez587 h=>wc_ops<|wj_m rfl<|wj_q _ (iz ez587 (q_bin rfl rfl rfl))<|wj_m rfl<|wj_nil ?_
        rw [qk570] at h
        exact ⟨n571,Nat.lt_succ_self _,z587,h,⟨⟨rfl,rfl,rfl,trivial⟩,(.one .here (.one .here .nil))⟩⟩
     ·exact wc_exit _ rfl<|⟨h,⟨⟨rfl,rfl,trivial⟩,(.one .here (.one .here .nil))⟩⟩
   ·rintro t m ⟨h,hF⟩
    refine wc_fit hF ?_
    clear hF
    subst qk541
    refine oH h fun y589 ey589 h=>wc_ops<|wj_q _ (q_ld (p:=[.ints .u64 4 (a491)]) rfl (.there .here) rfl)<|wj_q _ (q_mem (o0:=0) (off:=0) rfl (hG.g1) (by simp) rfl)<|wj_q _ (q_cl rfl (scalar_minus_spec ey589))<|wj_m rfl<|wj_q _ (q_ext rfl rfl)<|wj_q _ (q_ext rfl rfl)<|wj_e (ef_st (q:=[.ints .u64 4 (y589.1)]) rfl rfl rfl rfl rfl (.there .here)<|wj_nil ?_)
    rw [qk492] at h
    exact ⟨n493,Nat.lt_succ_self _,y589.1,h,⟨⟨rfl,rfl,trivial⟩,(.one .here (.one .here .nil))⟩⟩
 ·rintro t m ⟨a296,h,hF⟩
  refine wc_fit hF ?_
  clear hF
  subst qk297
  refine wc_seq<|wc_ops<|wj_q _ (q_ld (p:=[.ints .u64 4 (a296)]) rfl (.there .here) rfl)<|wj_e (ef_st (q:=[.ints .u64 4 (a296)]) rfl rfl rfl rfl rfl .here<|wj_nil<|wc_ret ?_)
  revert h; refine ret_i fun h=>?_
  subst h
  exact ⟨_,(.cons (.agg rfl .here rfl) .nil),rfl⟩
def scalar_times_b2 (p1:List Int) (i1130:Int) (z1137:Int) (k1245:(List (Int))→(Int)→OL) (k1315:(List (Int))→(Int)→(Int)→OL) (l1311:List (Int)) (i1313:Int) (i1314:Int):OL :=
 br ((decide (i1314<(p1.length:Int)))) (
 chk (inB i1314 p1.length) <|
 bnd (p1.getD (i1314).toNat 0) fun z1321 =>
 opt (math_bits_Mul64 z1137 z1321) fun y1323 =>
 bnd (IntKind.wrap .i64 (i1130+i1314)) fun z1325 =>
 chk (inB z1325 l1311.length) <|
 bnd (l1311.getD (z1325).toNat 0) fun z1327 =>
 chk (addOk y1323.2 z1327 0) <|
 bnd (addLo y1323.2 z1327 0) fun z1329 =>
 bnd (addHi y1323.2 z1327 0) fun z1330 =>
 bnd (IntKind.wrap .u64 (y1323.1+z1330)) fun z1332 =>
 chk (addOk z1329 i1313 0) <|
 bnd (addLo z1329 i1313 0) fun z1335 =>
 bnd (addHi z1329 i1313 0) fun z1336 =>
 bnd (IntKind.wrap .i64 (i1130+i1314)) fun z1338 =>
 bnd (IntKind.wrap .u64 (z1332+z1336)) fun z1339 =>
 chk (inB z1338 l1311.length) <|
 bnd (setG 0 l1311 (z1338).toNat z1335) fun l1341 =>
 bnd (IntKind.wrap .i64 (i1314+1)) fun z1345 =>
 k1315 l1341 z1339 z1345
 ) (
 k1245 l1311 i1313
 )
def scalar_times_l2 (p1:List Int) (i1130:Int) (z1137:Int) (k1245:(List (Int))→(Int)→OL):Nat→(List (Int))→(Int)→(Int)→OL
  | 0,_,_,_=>none
  | n+1,l1311,i1313,i1314=>scalar_times_b2 p1 i1130 z1137 k1245 (scalar_times_l2 p1 i1130 z1137 k1245 n) l1311 i1313 i1314
def scalar_times_b1 (p0:List Int) (p1:List Int) (k683:(List (Int))→OL) (k1131:(List (Int))→(Int)→OL) (l1128:List (Int)) (i1130:Int):OL :=
 br ((decide (i1130<(p0.length:Int)))) (
 chk (inB i1130 p0.length) <|
 bnd (p0.getD (i1130).toNat 0) fun z1137 =>
 jn (fun (l1242:List (Int)) (i1244:Int)=>bnd (IntKind.wrap .i64 (i1130+(p1.length:Int))) fun z1347 =>
 chk (inB z1347 l1242.length) <|
 bnd (setG 0 l1242 (z1347).toNat i1244) fun l1349 =>
 bnd (IntKind.wrap .i64 (i1130+1)) fun z1353 =>
 k1131 l1349 z1353) fun k1245=>scalar_times_l2 p1 i1130 z1137 k1245 big l1128 0 0
 ) (
 k683 l1128
 )
def scalar_times_l1 (p0:List Int) (p1:List Int) (k683:(List (Int))→OL):Nat→(List (Int))→(Int)→OL
  | 0,_,_=>none
  | n+1,l1128,i1130=>scalar_times_b1 p0 p1 k683 (scalar_times_l1 p0 p1 k683 n) l1128 i1130
def scalar_times (p0:List Int) (p1:List Int):OL :=
 bnd (IntKind.wrap .i64 ((p0.length:Int)+(p1.length:Int))) fun z3 =>
 chk (mkB 8 z3 z3) <|
 jn (fun (l681:List (Int))=>some l681) fun k683=>scalar_times_l1 p0 p1 k683 big (List.replicate (z3).toNat 0:List (Int)) 0
theorem scalar_times_spec {W:World} {r:(List Int)} {p0:List Int} {p1:List Int} {v0:Value} {v1:Value} (h:scalar_times p0 p1=some r) (A0:RdSl (El.int .u64) W v0 p0) (A1:RdSl (El.int .u64) W v1 p1) :
    Calls Tryz.prog 168 [v0,v1].toArray W (retS W [] (fun v Ms=>∃ (u0:Value) (M0:List Chunk),v=u0∧Ms = [.all M0]∧OwnSl (El.int .u64) u0 M0 r)):=by
 unfold scalar_times at h
 refine calls_memT mo ok168 rfl (sat0 _) ?_
 refine wc_seq<|wc_ops<|wj_m rfl<|wj_nil<|wc_seq<|bH h fun z3 ez3 h=>cH h fun c4 h=>wc_ops<|wj_m rfl<|wj_q _ (q_lenP rfl (Shp.rd A0))<|wj_m rfl<|wj_q _ (q_lenP rfl (Shp.rd A1))<|wj_q _ (iz ez3 (q_bin rfl rfl rfl))<|wj_e (ef_mksO (E:=(El.int .u64)) rfl rfl rfl c4 fun v5 ms6 O7=>wj_m rfl<|wj_nil<|wc_seq<|wc_seq<|wc_ops<|wj_m rfl<|wj_q _ (q_lenP rfl (Shp.rd A0))<|wj_m rfl<|wj_nil<|jH h fun k683 qk683 h=>wc_mono2 (G:=fun t m=>∃ (l681:List (Int)) (v679:Value) (ms680:List Chunk),k683 l681=some r∧OwnSl (El.int .u64) v679 ms680 l681∧Fit [(5,v679)] (ms680 ++ []) t m) ?_ ?_)
 ·refine wc_block<|wc_loopJ (fun n1132 t m=>∃ (l1128:List (Int)) (i1130:Int) (v1126:Value) (ms1127:List Chunk),scalar_times_l1 p0 p1 k683 n1132 l1128 i1130=some r∧OwnSl (El.int .u64) v1126 ms1127 l1128∧Fit [(1,v1),(5,v1126),(20,v0),(21,.int .i64 ((p0.length:Int))),(22,.int .i64 (i1130))] (ms1127 ++ []) t m) big ?_ ?_
  ·exact ⟨(List.replicate (z3).toNat 0:List (Int)),0,v5,ms6,h,O7,⟨⟨rfl,rfl,rfl,rfl,rfl,trivial⟩,(.all .here .nil)⟩⟩
  ·rintro n1132 t m ⟨l1128,i1130,v1126,ms1127,h,O1129,hF⟩
   refine wc_fit hF ?_
   clear hF
   rcases n1132 with _ | n1132
   · exact none_i h
   have h:scalar_times_b1 p0 p1 k683 (scalar_times_l1 p0 p1 k683 n1132) l1128 i1130=some r:=h
   unfold scalar_times_b1 at h
   obtain ⟨k1131,qk1131⟩ : ∃ k,k=scalar_times_l1 p0 p1 k683 n1132:=⟨_,rfl⟩
   try rw [← qk1131] at h
   refine wc_seq<|wc_ops<|wj_q _ (q_bin rfl rfl rfl)<|wj_nil<|wc_seq<|wc_br h rfl (fun h=>?_) (fun h=>?_)
   ·refine wc_skip<|wc_seq<|wc_block<|wc_seq<|cH h fun c1136 h=>bH h fun z1137 ez1137 h=>wc_ops<|wj_m rfl<|wj_q _ (q_iasP rfl rfl (Shp.rd A0) c1136)<|wj_q _ (iz ez1137 (q_ldM10 (E:=(El.int .u64)) (s:=[.one (.int .u64 (p0.getD (i1130).toNat 0))]) rfl (rd_arg A0 apart0) (inB_n c1136) rfl rfl))<|wj_m rfl<|wj_m rfl<|wj_nil<|wc_seq<|wc_ops<|wj_m rfl<|wj_nil<|wc_seq<|wc_seq<|wc_ops<|wj_m rfl<|wj_q _ (q_lenP rfl (Shp.rd A1))<|wj_m rfl<|wj_nil<|jH h fun k1245 qk1245 h=>wc_mono2 (G:=fun t m=>∃ (l1242:List (Int)) (i1244:Int) (v1240:Value) (ms1241:List Chunk),k1245 l1242 i1244=some r∧OwnSl (El.int .u64) v1240 ms1241 l1242∧Fit [(1,v1),(5,v1240),(6,.int .i64 (i1130)),(8,.int .u64 (i1244)),(20,v0),(21,.int .i64 ((p0.length:Int))),(22,.int .i64 (i1130))] (ms1241 ++ []) t m) ?_ ?_
    ·refine wc_block<|wc_loopJ (fun n1316 t m=>∃ (l1311:List (Int)) (i1313:Int) (i1314:Int) (v1309:Value) (ms1310:List Chunk),scalar_times_l2 p1 i1130 z1137 k1245 n1316 l1311 i1313 i1314=some r∧OwnSl (El.int .u64) v1309 ms1310 l1311∧Fit [(1,v1),(5,v1309),(6,.int .i64 (i1130)),(7,.int .u64 (z1137)),(8,.int .u64 (i1313)),(20,v0),(21,.int .i64 ((p0.length:Int))),(22,.int .i64 (i1130)),(27,v1),(28,.int .i64 ((p1.length:Int))),(29,.int .i64 (i1314))] (ms1310 ++ []) t m) big ?_ ?_
     ·exact ⟨l1128,0,0,v1126,ms1127,h,O1129,⟨⟨rfl,rfl,rfl,rfl,rfl,rfl,rfl,rfl,rfl,rfl,rfl,trivial⟩,(.all .here .nil)⟩⟩
     ·rintro n1316 t m ⟨l1311,i1313,i1314,v1309,ms1310,h,O1312,hF⟩
      refine wc_fit hF ?_
      clear hF
      rcases n1316 with _ | n1316
      · exact none_i h
      have h:scalar_times_b2 p1 i1130 z1137 k1245 (scalar_times_l2 p1 i1130 z1137 k1245 n1316) l1311 i1313 i1314=some r:=h
      unfold scalar_times_b2 at h
      obtain ⟨k1315,qk1315⟩ : ∃ k,k=scalar_times_l2 p1 i1130 z1137 k1245 n1316:=⟨_,rfl⟩
      try rw [← qk1315] at h
      refine wc_seq<|wc_ops<|wj_q _ (q_bin rfl rfl rfl)<|wj_nil<|wc_seq<|wc_br h rfl (fun h=>?_) (fun h=>?_)
      ·refine wc_skip<|wc_seq<|wc_block<|wc_seq<|cH h fun c1320 h=>bH h fun z1321 ez1321 h=>wc_ops<|wj_m rfl<|wj_q _ (q_iasP rfl rfl (Shp.rd A1) c1320)<|wj_q _ (iz ez1321 (q_ldM10 (E:=(El.int .u64)) (s:=[.one (.int .u64 (p1.getD (i1314).toNat 0))]) rfl (rd_arg A1 apart0) (inB_n c1320) rfl rfl))<|wj_m rfl<|wj_m rfl<|wj_nil<|wc_seq<|oH h fun y1323 ey1323 h=>wc_ops<|wj_m rfl<|wj_m rfl<|wj_q _ (q_cl rfl (math_bits_Mul64_spec ey1323))<|wj_m rfl<|wj_q _ (q_ext rfl rfl)<|wj_q _ (q_ext rfl rfl)<|wj_m rfl<|wj_m rfl<|wj_nil<|wc_seq<|bH h fun z1325 ez1325 h=>cH h fun c1326 h=>bH h fun z1327 ez1327 h=>cH h fun c1328 h=>bH h fun z1329 ez1329 h=>bH h fun z1330 ez1330 h=>wc_ops<|wj_m rfl<|wj_m rfl<|wj_m rfl<|wj_m rfl<|wj_q _ (iz ez1325 (q_bin rfl rfl rfl))<|wj_q _ (q_iasP rfl rfl (Shp.own O1312) c1326)<|wj_q _ (iz ez1327 (q_ldM10 (E:=(El.int .u64)) (s:=[.one (.int .u64 (l1311.getD (z1325).toNat 0))]) rfl (rd_own O1312 .here) (inB_n c1326) rfl rfl))<|wj_q _ (q_xcall rfl ext_add (xadd ez1329 ez1330 c1328))<|wj_m rfl<|wj_q _ (q_ext rfl rfl)<|wj_q _ (q_ext rfl rfl)<|wj_m rfl<|wj_m rfl<|wj_nil<|wc_seq<|bH h fun z1332 ez1332 h=>wc_ops<|wj_m rfl<|wj_m rfl<|wj_q _ (iz ez1332 (q_bin rfl rfl rfl))<|wj_m rfl<|wj_nil<|wc_seq<|cH h fun c1334 h=>bH h fun z1335 ez1335 h=>bH h fun z1336 ez1336 h=>wc_ops<|wj_m rfl<|wj_m rfl<|wj_q _ (q_xcall rfl ext_add (xadd ez1335 ez1336 c1334))<|wj_m rfl<|wj_q _ (q_ext rfl rfl)<|wj_q _ (q_ext rfl rfl)<|wj_m rfl<|wj_m rfl<|wj_nil<|bH h fun z1338 ez1338 h=>bH h fun z1339 ez1339 h=>cH h fun c1340 h=>bH h fun l1341 el1341 h=>wc_ops<|wj_m rfl<|wj_m rfl<|wj_m rfl<|wj_q _ (iz ez1338 (q_bin rfl rfl rfl))<|wj_m rfl<|wj_m rfl<|wj_m rfl<|wj_q _ (iz ez1339 (q_bin rfl rfl rfl))<|wj_q _ (q_iasP rfl rfl (Shp.own O1312) c1340)<|wj_e (ef_stO (E:=(El.int .u64)) el1341 O1312 .here rfl rfl rfl (inB_n c1340) fun ms1342 O1343=>wj_m rfl<|wj_nil<|bH h fun z1345 ez1345 h=>wc_ops<|wj_q _ (iz ez1345 (q_bin rfl rfl rfl))<|wj_m rfl<|wj_nil ?_)
       rw [qk1315] at h
       exact ⟨n1316,Nat.lt_succ_self _,l1341,z1339,z1345,v1309,ms1342,h,O1343,⟨⟨rfl,rfl,rfl,rfl,rfl,rfl,rfl,rfl,rfl,rfl,rfl,trivial⟩,(.all .here .nil)⟩⟩
      ·exact wc_exit _ rfl<|⟨l1311,i1313,v1309,ms1310,h,O1312,⟨⟨rfl,rfl,rfl,rfl,rfl,rfl,rfl,trivial⟩,(.all .here .nil)⟩⟩
    ·rintro t m ⟨l1242,i1244,v1240,ms1241,h,O1243,hF⟩
     refine wc_fit hF ?_
     clear hF
     subst qk1245
     refine bH h fun z1347 ez1347 h=>cH h fun c1348 h=>bH h fun l1349 el1349 h=>wc_ops<|wj_m rfl<|wj_m rfl<|wj_m rfl<|wj_q _ (q_lenP rfl (Shp.rd A1))<|wj_q _ (iz ez1347 (q_bin rfl rfl rfl))<|wj_m rfl<|wj_q _ (q_iasP rfl rfl (Shp.own O1243) c1348)<|wj_e (ef_stO (E:=(El.int .u64)) el1349 O1243 .here rfl rfl rfl (inB_n c1348) fun ms1350 O1351=>wj_nil<|bH h fun z1353 ez1353 h=>wc_ops<|wj_q _ (iz ez1353 (q_bin rfl rfl rfl))<|wj_m rfl<|wj_nil ?_)
     rw [qk1131] at h
     exact ⟨n1132,Nat.lt_succ_self _,l1349,z1353,v1240,ms1350,h,O1351,⟨⟨rfl,rfl,rfl,rfl,rfl,trivial⟩,(.all .here .nil)⟩⟩
   ·exact wc_exit _ rfl<|⟨l1128,v1126,ms1127,h,O1129,⟨⟨rfl,trivial⟩,(.all .here .nil)⟩⟩
 ·rintro t m ⟨l681,v679,ms680,h,O682,hF⟩
  refine wc_fit hF ?_
  clear hF
  subst qk683
  refine wc_seq<|wc_ops<|wj_m rfl<|wj_m rfl<|wj_nil<|wc_ret ?_
  revert h; refine ret_i fun h=>?_
  subst h
  exact ⟨_,_,(.cons (.tmp rfl) .nil),(.all .here .nil),⟨_,rfl,⟨v679,ms680,rfl,rfl,O682⟩⟩⟩
def scalar_split_b1 (p0:List Int) (k130:(List (Int))→Option ((List Int)×(List Int))) (k207:(List (Int))→(Int)→Option ((List Int)×(List Int))) (l204:List (Int)) (i206:Int):Option ((List Int)×(List Int)) :=
 br ((decide (i206<(p0.length:Int)))) (
 chk (inB i206 p0.length) <|
 bnd (p0.getD (i206).toNat 0) fun z213 =>
 bnd (shrV .u64 z213 60) fun z214 =>
 bnd (IntKind.wrap .i64 (i206+1)) fun z216 =>
 jn (fun (i224:Int)=>chk (decide ((l204.length+([i224]:List (Int)).length)*8≤140737488355328)) <|
 bnd (l204++([i224]:List (Int))) fun l238 =>
 bnd (IntKind.wrap .i64 (i206+1)) fun z243 =>
 k207 l238 z243) fun k225=>br ((decide (z216<(p0.length:Int)))) (
 bnd (IntKind.wrap .i64 (i206+1)) fun z228 =>
 chk (inB z228 p0.length) <|
 bnd (p0.getD (z228).toNat 0) fun z230 =>
 bnd (shlV .u64 z230 4) fun z231 =>
 bnd (bitsV .or .u64 z214 z231) fun z232 =>
 k225 z232
 ) (
 k225 z214
 )
 ) (
 k130 l204
 )
def scalar_split_l1 (p0:List Int) (k130:(List (Int))→Option ((List Int)×(List Int))):Nat→(List (Int))→(Int)→Option ((List Int)×(List Int))
  | 0,_,_=>none
  | n+1,l204,i206=>scalar_split_b1 p0 k130 (scalar_split_l1 p0 k130 n) l204 i206
def scalar_split (p0:List Int):Option ((List Int)×(List Int)) :=
 bnd (wr (List.replicate 4 0) 0 (p0.take 4)) fun l6 =>
 bnd (l6.getD 3 0) fun z8 =>
 bnd (bitsV .and .u64 z8 1152921504606846975) fun z9 =>
 bnd (setD l6 3 z9) fun l10 =>
 jn (fun (l128:List (Int))=>some (l10,l128)) fun k130=>scalar_split_l1 p0 k130 big [] 3
theorem scalar_split_spec {W:World} {r:(List Int)×(List Int)} {p0:List Int} {v0:Value} (h:scalar_split p0=some r) (A0:RdSl (El.int .u64) W v0 p0) :
    Calls Tryz.prog 205 [v0].toArray W (retS W [] (fun v Ms=>∃ (u1:Value) (M1:List Chunk),v = .tuple #[agg [.ints .u64 4 (r.1)],u1]∧Ms = [.all M1]∧OwnSl (El.int .u64) u1 M1 r.2)):=by
 unfold scalar_split at h
 refine calls_memT mo ok205 rfl (sat0 _) ?_
 refine wc_seq<|wc_ops<|wj_e (ef_al fun b2 hb2=>wj_m rfl<|wj_nil<|wc_seq<|wc_ops<|wj_e (ef_al fun b4 hb4=>wj_nil<|wc_seq<|bH h fun l6 el6 h=>wc_ops<|wj_q _ (q_sla rfl .no .no .no (by simp) (by decide))<|wj_m rfl<|wj_e (ef_cpyB (q:=[.ints .u64 4 (l6)]) (lo:=0) (hi:=4) (mz:=4) (base:=0) (cpy0 el6) rfl rfl (rd_arg A0 apart0) rfl (by decide) rfl .here<|wj_nil<|wc_seq<|bH h fun z8 ez8 h=>bH h fun z9 ez9 h=>bH h fun l10 el10 h=>wc_ops<|wj_q _ (q_ia rfl rfl (by decide))<|wj_q _ (iz ez8 (q_ld1 rfl .here rfl))<|wj_q _ (iz ez9 (q_bin rfl rfl rfl))<|wj_q _ (q_ia rfl rfl (by decide))<|wj_e (ef_st1z (q:=[.ints .u64 4 (l10)]) (congrArg (fun z=>([.ints .u64 4 (z)]:List Seg)) el10.symm) rfl rfl rfl rfl .here<|wj_nil<|wc_seq<|wc_ops<|wj_m rfl<|wj_nil<|wc_seq<|wc_seq<|wc_ops<|wj_m rfl<|wj_nil<|jH h fun k130 qk130 h=>wc_mono2 (G:=fun t m=>∃ (l128:List (Int)) (v126:Value) (ms127:List Chunk),k130 l128=some r∧OwnSl (El.int .u64) v126 ms127 l128∧Fit [(2,.pointer (some ⟨b2,0,none⟩)),(4,.pointer (some ⟨b4,0,none⟩)),(5,v126)] (ck b4 162 [.ints .u64 4 (l10)]::(ck b2 162 [.ints .u64 4 ((List.replicate 4 0))]::(ms127 ++ []))) t m) ?_ ?_))))
 ·refine wc_block<|wc_loopJ (fun n208 t m=>∃ (l204:List (Int)) (i206:Int) (v202:Value) (ms203:List Chunk),scalar_split_l1 p0 k130 n208 l204 i206=some r∧OwnSl (El.int .u64) v202 ms203 l204∧Fit [(0,v0),(2,.pointer (some ⟨b2,0,none⟩)),(4,.pointer (some ⟨b4,0,none⟩)),(5,v202),(6,.int .i64 (i206))] (ck b4 162 [.ints .u64 4 (l10)]::(ck b2 162 [.ints .u64 4 ((List.replicate 4 0))]::(ms203 ++ []))) t m) big ?_ ?_
  ·exact ⟨[],3,(.slice none 0 0),[],h,own_nil,⟨⟨rfl,rfl,rfl,rfl,rfl,trivial⟩,(.one .here (.one .here (.no .nil)))⟩⟩
  ·rintro n208 t m ⟨l204,i206,v202,ms203,h,O205,hF⟩
   refine wc_fit hF ?_
   clear hF
   rcases n208 with _ | n208
   · exact none_i h
   have h:scalar_split_b1 p0 k130 (scalar_split_l1 p0 k130 n208) l204 i206=some r:=h
   unfold scalar_split_b1 at h
   obtain ⟨k207,qk207⟩ : ∃ k,k=scalar_split_l1 p0 k130 n208:=⟨_,rfl⟩
   try rw [← qk207] at h
   refine wc_seq<|wc_seq<|wc_ops<|wj_m rfl<|wj_m rfl<|wj_q _ (q_lenP rfl (Shp.rd A0))<|wj_q _ (q_bin rfl rfl rfl)<|wj_nil<|wc_br h rfl (fun h=>?_) (fun h=>?_)
   ·refine wc_skip<|wc_seq<|wc_block<|wc_seq<|cH h fun c212 h=>bH h fun z213 ez213 h=>bH h fun z214 ez214 h=>wc_ops<|wj_m rfl<|wj_m rfl<|wj_q _ (q_iasP rfl rfl (Shp.rd A0) c212)<|wj_q _ (iz ez213 (q_ldM10 (E:=(El.int .u64)) (s:=[.one (.int .u64 (p0.getD (i206).toNat 0))]) rfl (rd_arg A0 apart0) (inB_n c212) rfl rfl))<|wj_q _ (iz ez214 (q_shr rfl rfl (by decide)))<|wj_m rfl<|wj_nil<|wc_seq<|wc_seq<|bH h fun z216 ez216 h=>wc_ops<|wj_m rfl<|wj_q _ (iz ez216 (q_bin rfl rfl rfl))<|wj_m rfl<|wj_q _ (q_lenP rfl (Shp.rd A0))<|wj_q _ (q_bin rfl rfl rfl)<|wj_nil<|jH h fun k225 qk225 h=>wc_mono2 (G:=fun t m=>∃ (i224:Int),k225 i224=some r∧Fit [(0,v0),(2,.pointer (some ⟨b2,0,none⟩)),(4,.pointer (some ⟨b4,0,none⟩)),(5,v202),(6,.int .i64 (i206)),(7,.int .u64 (i224))] (ck b4 162 [.ints .u64 4 (l10)]::(ck b2 162 [.ints .u64 4 ((List.replicate 4 0))]::(ms203 ++ []))) t m) ?_ ?_
    ·refine wc_br h rfl (fun h=>?_) (fun h=>?_)
     ·exact bH h fun z228 ez228 h=>cH h fun c229 h=>bH h fun z230 ez230 h=>bH h fun z231 ez231 h=>bH h fun z232 ez232 h=>wc_ops<|wj_m rfl<|wj_m rfl<|wj_m rfl<|wj_q _ (iz ez228 (q_bin rfl rfl rfl))<|wj_q _ (q_iasP rfl rfl (Shp.rd A0) c229)<|wj_q _ (iz ez230 (q_ldM10 (E:=(El.int .u64)) (s:=[.one (.int .u64 (p0.getD (z228).toNat 0))]) rfl (rd_arg A0 apart0) (inB_n c229) rfl rfl))<|wj_q _ (iz ez231 (q_shl rfl rfl (by decide)))<|wj_q _ (iz ez232 (q_bin rfl rfl rfl))<|wj_m rfl<|wj_nil<|⟨z232,h,⟨⟨rfl,rfl,rfl,rfl,rfl,rfl,trivial⟩,(.one .here (.one .here (.all .here .nil)))⟩⟩
     ·exact wc_skip<|⟨z214,h,⟨⟨rfl,rfl,rfl,rfl,rfl,rfl,trivial⟩,(.one .here (.one .here (.all .here .nil)))⟩⟩
    ·rintro t m ⟨i224,h,hF⟩
     refine wc_fit hF ?_
     clear hF
     subst qk225
     refine cH h fun c237 h=>bH h fun l238 el238 h=>wc_ops<|wj_m rfl<|wj_m rfl<|wj_e (ef_bsO (E:=(El.int .u64)) (xs:=[i224]) (.one rfl rfl rfl BdR.nil) (.cons (p:=[.one (.int .u64 (i224))]) rfl .nil) rfl fun v234 ms235 O236=>wj_e (ef_appO (E:=(El.int .u64)) el238 rfl O205 (.app (.there (.there .here))) rfl (rd_own O236 .here) c237 fun v239 ms240 O241=>wj_m rfl<|wj_nil<|bH h fun z243 ez243 h=>wc_ops<|wj_m rfl<|wj_q _ (iz ez243 (q_bin rfl rfl rfl))<|wj_m rfl<|wj_nil ?_))
     rw [qk207] at h
     exact ⟨n208,Nat.lt_succ_self _,l238,z243,v239,ms240,h,O241,⟨⟨rfl,rfl,rfl,rfl,rfl,trivial⟩,(.one (.app (.app .here)) (.one (.app (.app .here)) (.all .here .nil)))⟩⟩
   ·exact wc_exit _ rfl<|⟨l204,v202,ms203,h,O205,⟨⟨rfl,rfl,rfl,trivial⟩,(.one .here (.one .here (.all .here .nil)))⟩⟩
 ·rintro t m ⟨l128,v126,ms127,h,O129,hF⟩
  refine wc_fit hF ?_
  clear hF
  subst qk130
  refine wc_seq<|wc_ops<|wj_q _ (q_ld (p:=[.ints .u64 4 (l10)]) rfl .here rfl)<|wj_m rfl<|wj_e (ef_st (q:=[.ints .u64 4 (l10)]) rfl rfl rfl rfl rfl (.there .here)<|wj_m rfl<|wj_nil<|wc_ret ?_)
  revert h; refine ret_i fun h=>?_
  subst h
  exact ⟨_,_,(.cons (.agg rfl (.there .here) rfl) (.cons (.tmp rfl) .nil)),(.all (.there (.there .here)) .nil),⟨_,rfl,⟨v126,ms127,rfl,rfl,O129⟩⟩⟩
def scalar_rest:OL :=
 some ([6346243789798364141,1503914060200516822]:List (Int))
theorem scalar_rest_spec {W:World} {r:(List Int)} (h:scalar_rest=some r)  :
    Calls Tryz.prog 206 [].toArray W (retS W [] (fun v Ms=>∃ (u0:Value) (M0:List Chunk),v=u0∧Ms = [.all M0]∧OwnSl (El.int .u64) u0 M0 r)):=by
 unfold scalar_rest at h
 refine calls_memT mo ok206 rfl (sat0 _) ?_
 refine wc_seq<|wc_ops<|wj_m rfl<|wj_nil<|wc_seq<|wc_ops<|wj_e (ef_bsO (E:=(El.int .u64)) (xs:=[6346243789798364141,1503914060200516822]) (.one rfl rfl rfl (.one rfl rfl rfl BdR.nil)) (.cons (p:=[.one (.int .u64 (6346243789798364141))]) rfl (.cons (p:=[.one (.int .u64 (1503914060200516822))]) rfl .nil)) rfl fun v3 ms4 O5=>wj_m rfl<|wj_nil<|wc_ret ?_)
 revert h; refine ret_i fun h=>?_
 subst h
 exact ⟨_,_,(.cons (.tmp rfl) .nil),(.all .here .nil),⟨_,rfl,⟨v3,ms4,rfl,rfl,O5⟩⟩⟩
abbrev E_a4_El_int_u64:El (List Int):=⟨4,fun x=>cells [.ints .u64 4 (x)],fun x=>by rw [cells_length]; rfl,fun x=>(ones_cons ones_ints ones_nil),by decide,(List.replicate 4 0)⟩
def scalar_reduce_b1 (k122:(List (List Int))→OL) (k201:(List (Int))→(Int)→(List (List Int))→OL) (l196:List (Int)) (i199:Int) (a200:List (List Int)):OL :=
 br ((decide (i199<4))) (
 opt (scalar_split l196) fun y209 =>
 bnd (Int.tmod i199 2) fun z216 =>
 bnd (Int.tmod i199 2) fun z217 =>
 chk (inB z217 2) <|
 bnd (a200.getD (z217).toNat (List.replicate 4 0)) fun x219 =>
 opt (scalar_plus x219 y209.1) fun y220 =>
 chk (inB z216 2) <|
 bnd (setG (List.replicate 4 0) a200 (z216).toNat y220.1) fun l222 =>
 opt (scalar_rest ) fun y224 =>
 opt (scalar_times y209.2 y224) fun y230 =>
 bnd (IntKind.wrap .i64 (i199+1)) fun z237 =>
 k201 y230 z237 l222
 ) (
 k122 a200
 )
def scalar_reduce_l1 (k122:(List (List Int))→OL):Nat→(List (Int))→(Int)→(List (List Int))→OL
  | 0,_,_,_=>none
  | n+1,l196,i199,a200=>scalar_reduce_b1 k122 (scalar_reduce_l1 k122 n) l196 i199 a200
def scalar_reduce (p0:List Int):OL :=
 jn (fun (a121:List (List Int))=>opt (scalar_plus G_order G_order) fun y239 =>
 bnd (a121.getD 0 (List.replicate 4 0)) fun x242 =>
 opt (scalar_plus x242 y239.1) fun y243 =>
 bnd (a121.getD 1 (List.replicate 4 0)) fun x246 =>
 opt (scalar_minus y243.1 x246) fun y247 =>
 opt (scalar_below y247.1) fun y249 =>
 some y249) fun k122=>scalar_reduce_l1 k122 big p0 0 (List.replicate 2 (List.replicate 4 0))
theorem scalar_reduce_spec {W:World} {r:(List Int)} {p0:List Int} {v0:Value} (h:scalar_reduce p0=some r) (hG:Globs W) (A0:RdSl (El.int .u64) W v0 p0) :
    Calls Tryz.prog 162 [v0].toArray W (ret1 W (agg [.ints .u64 4 (r)])):=by
 unfold scalar_reduce at h
 refine calls_val mo ok162 rfl ?_
 refine wc_seq<|wc_ops<|wj_e (ef_al fun b2 hb2=>wj_nil<|wc_seq<|wc_ops<|wj_e (ef_al2 (z':=[.rows 4 2 (rowE E_a4_El_int_u64 ((List.replicate 2 (List.replicate 4 0))))]) (alz_rows (E:=E_a4_El_int_u64) rfl rfl) fun b4 hb4=>wj_nil<|wc_seq<|wc_seq<|wc_ops<|wj_m rfl<|wj_nil<|jH h fun k122 qk122 h=>wc_mono2 (G:=fun t m=>∃ (a121:List (List Int)),k122 a121=some r∧Fit [(2,.pointer (some ⟨b2,0,none⟩)),(3,.pointer (some ⟨b4,0,none⟩))] (ck b4 229 [.rows 4 2 (rowE E_a4_El_int_u64 (a121))]::(ck b2 162 [.ints .u64 4 ((List.replicate 4 0))] :: [])) t m) ?_ ?_))
 ·refine wc_block<|wc_loopJ (fun n202 t m=>∃ (l196:List (Int)) (i199:Int) (a200:List (List Int)) (v194:Value) (ms195:List Chunk),scalar_reduce_l1 k122 n202 l196 i199 a200=some r∧SrcM (⟨Tryz.prog,d162.n,W,[]⟩:Cfg) ms195 (El.int .u64) v194 l196∧Shp v194 l196.length∧Fit [(0,v194),(2,.pointer (some ⟨b2,0,none⟩)),(3,.pointer (some ⟨b4,0,none⟩)),(10,.int .i64 (i199))] (ck b4 229 [.rows 4 2 (rowE E_a4_El_int_u64 (a200))]::(ck b2 162 [.ints .u64 4 ((List.replicate 4 0))]::(ms195 ++ []))) t m) big ?_ ?_
  ·exact ⟨p0,0,(List.replicate 2 (List.replicate 4 0)),v0,[],h,(rd_arg A0 apart0),(Shp.rd A0),⟨⟨rfl,rfl,rfl,rfl,trivial⟩,(.one .here (.one .here (.no .nil)))⟩⟩
  ·rintro n202 t m ⟨l196,i199,a200,v194,ms195,h,H197,Z198,hF⟩
   refine wc_fit hF ?_
   clear hF
   rcases n202 with _ | n202
   · exact none_i h
   have h:scalar_reduce_b1 k122 (scalar_reduce_l1 k122 n202) l196 i199 a200=some r:=h
   unfold scalar_reduce_b1 at h
   obtain ⟨k201,qk201⟩ : ∃ k,k=scalar_reduce_l1 k122 n202:=⟨_,rfl⟩
   try rw [← qk201] at h
   refine wc_seq<|wc_ops<|wj_q _ (q_bin rfl rfl rfl)<|wj_nil<|wc_seq<|wc_br h rfl (fun h=>?_) (fun h=>?_)
   ·refine wc_skip<|wc_seq<|wc_block<|wc_seq<|wc_ops<|wj_m rfl<|wj_m rfl<|wj_nil<|wc_seq<|wc_ops<|wj_e (ef_al fun b207 hb207=>wj_nil<|wc_seq<|oH h fun y209 ey209 h=>wc_ops<|wj_m rfl<|wj_e (ef_callS0 rfl (fun w hw=>scalar_split_spec (r:=y209) (p0:=l196) ey209 ((rd_in H197 (.there (.there (.there .here)))) w hw)) fun v210 Msv210 R211=>?_))
    obtain ⟨v212,ms213,rfl,rfl,O214⟩:=R211
    refine wj_m rfl<|wj_q _ (q_ext rfl rfl)<|wj_q _ (q_ext rfl rfl)<|wj_e (ef_st (q:=[.ints .u64 4 (y209.1)]) rfl rfl rfl rfl rfl (.app .here)<|wj_m rfl<|wj_nil<|wc_seq<|bH h fun z216 ez216 h=>bH h fun z217 ez217 h=>cH h fun c218 h=>bH h fun x219 ex219 h=>oH h fun y220 ey220 h=>cH h fun c221 h=>bH h fun l222 el222 h=>wc_draw<|ws_p1 _ (q_mv rfl)<|ws_p1 _ (iz ez216 (q_rem rfl rfl (by decide)))<|ws_p1 _ (q_mv rfl)<|ws_p1 _ (iz ez217 (q_rem rfl rfl (by decide)))<|ws_p1 _ (q_ia rfl rfl (inB_z c218))<|ws_q1 _ (az (fun x219=>agg [.ints .u64 4 (x219)]) ex219 (q_ldr0 (base:=0) (w:=4) rfl (.app (.there .here)) rfl (inB_n c218) rfl rfl rfl))<|ws_q1 _ (q_ld (p:=[.ints .u64 4 (y209.1)]) rfl (.app .here) rfl)<|ws_p1 _ (q_call (vs:=[agg [.ints .u64 4 (x219)],agg [.ints .u64 4 (y209.1)]]) (v:=.tuple #[agg [.ints .u64 4 (y220.1)],.int .u64 (y220.2)]) rfl (fun w hw=>scalar_plus_spec (r:=y220) (p0:=x219) (p1:=y209.1) ey220 ))<|ws_p1 _ (q_mv rfl)<|ws_p1 _ (q_ext rfl rfl)<|ws_p1 _ (q_ext rfl rfl)<|ws_p1 _ (q_ia rfl rfl (inB_z c221))<|ws_eL rfl (ef_strz (q:=[.rows 4 2 (rowE E_a4_El_int_u64 (l222))]) (E:=E_a4_El_int_u64) (base:=0) el222 rfl rfl rfl rfl (inB_n c221) rfl (.app (.there .here))<|ws_nil<|oH h fun y224 ey224 h=>oH h fun y230 ey230 h=>wc_ops<|wj_m rfl<|wj_e (ef_callS0 rfl (fun w hw=>scalar_rest_spec (r:=y224) ey224 ) fun v225 Msv225 R226=>?_)))
    obtain ⟨_,ms228,rfl,rfl,O229⟩:=R226
    refine wj_e (ef_callS0 rfl (fun w hw=>scalar_times_spec (r:=y230) (p0:=y209.2) (p1:=y224) ey230 ((rd_own O214 (.app .here)) w hw) ((rd_own O229 .here) w hw)) fun v231 Msv231 R232=>?_)
    obtain ⟨_,ms234,rfl,rfl,O235⟩:=R232
    refine wj_m rfl<|wj_nil<|bH h fun z237 ez237 h=>wc_ops<|wj_q _ (iz ez237 (q_bin rfl rfl rfl))<|wj_m rfl<|wj_nil ?_
    rw [qk201] at h
    exact ⟨n202,Nat.lt_succ_self _,y230,z237,l222,v231,ms234,h,(rd_ownm O235),(Shp.own O235),⟨⟨rfl,rfl,rfl,rfl,trivial⟩,(.one (.app (.app (.app (.there .here)))) (.one (.app (.app (.app (.there .here)))) (.all .here .nil)))⟩⟩
   ·exact wc_exit _ rfl<|⟨a200,h,⟨⟨rfl,rfl,trivial⟩,(.one .here (.one .here .nil))⟩⟩
 ·rintro t m ⟨a121,h,hF⟩
  refine wc_fit hF ?_
  clear hF
  subst qk122
  refine wc_seq<|oH h fun y239 ey239 h=>wc_ops<|wj_q _ (q_mem (o0:=0) (off:=0) rfl (hG.g1) (by simp) rfl)<|wj_q _ (q_mem (o0:=0) (off:=0) rfl (hG.g1) (by simp) rfl)<|wj_q _ (q_call (vs:=[agg [.ints .u64 4 (G_order)],agg [.ints .u64 4 (G_order)]]) (v:=.tuple #[agg [.ints .u64 4 (y239.1)],.int .u64 (y239.2)]) rfl (fun w hw=>scalar_plus_spec (r:=y239) (p0:=G_order) (p1:=G_order) ey239 ))<|wj_m rfl<|wj_q _ (q_ext rfl rfl)<|wj_q _ (q_ext rfl rfl)<|wj_e (ef_al fun b240 hb240=>wj_e (ef_st (q:=[.ints .u64 4 (y239.1)]) rfl rfl rfl rfl rfl .here<|wj_m rfl<|wj_nil<|wc_seq<|bH h fun x242 ex242 h=>oH h fun y243 ey243 h=>wc_ops<|wj_q _ (q_ia rfl rfl (by decide))<|wj_q _ (az (fun x242=>agg [.ints .u64 4 (x242)]) ex242 (q_ldr (base:=0) (i:=0) (c:=0) (w:=4) (len:=2) rfl (.there .here) rfl (by decide) rfl rfl rfl))<|wj_q _ (q_ld (p:=[.ints .u64 4 (y239.1)]) rfl .here rfl)<|wj_q _ (q_call (vs:=[agg [.ints .u64 4 (x242)],agg [.ints .u64 4 (y239.1)]]) (v:=.tuple #[agg [.ints .u64 4 (y243.1)],.int .u64 (y243.2)]) rfl (fun w hw=>scalar_plus_spec (r:=y243) (p0:=x242) (p1:=y239.1) ey243 ))<|wj_m rfl<|wj_q _ (q_ext rfl rfl)<|wj_q _ (q_ext rfl rfl)<|wj_e (ef_al fun b244 hb244=>wj_e (ef_st (q:=[.ints .u64 4 (y243.1)]) rfl rfl rfl rfl rfl .here<|wj_m rfl<|wj_nil<|wc_seq<|bH h fun x246 ex246 h=>oH h fun y247 ey247 h=>wc_ops<|wj_q _ (q_ld (p:=[.ints .u64 4 (y243.1)]) rfl .here rfl)<|wj_q _ (q_ia rfl rfl (by decide))<|wj_q _ (az (fun x246=>agg [.ints .u64 4 (x246)]) ex246 (q_ldr (base:=0) (i:=1) (c:=0) (w:=4) (len:=2) rfl (.there (.there .here)) rfl (by decide) rfl rfl rfl))<|wj_q _ (q_call (vs:=[agg [.ints .u64 4 (y243.1)],agg [.ints .u64 4 (x246)]]) (v:=.tuple #[agg [.ints .u64 4 (y247.1)],.int .u64 (y247.2)]) rfl (fun w hw=>scalar_minus_spec (r:=y247) (p0:=y243.1) (p1:=x246) ey247 ))<|wj_m rfl<|wj_q _ (q_ext rfl rfl)<|wj_q _ (q_ext rfl rfl)<|wj_e (ef_st (q:=[.ints .u64 4 (y247.1)]) rfl rfl rfl rfl rfl .here<|wj_nil<|wc_seq<|oH h fun y249 ey249 h=>wc_ops<|wj_q _ (q_ld (p:=[.ints .u64 4 (y247.1)]) rfl .here rfl)<|wj_q _ (q_call (vs:=[agg [.ints .u64 4 (y247.1)]]) (v:=agg [.ints .u64 4 (y249)]) rfl (fun w hw=>scalar_below_spec (r:=y249) (p0:=y247.1) ey249 (hG.at hw (by simp))))<|wj_e (ef_st (q:=[.ints .u64 4 (y249)]) rfl rfl rfl rfl rfl (.there (.there (.there .here)))<|wj_nil<|wc_ret ?_))))))
  revert h; refine ret_i fun h=>?_
  subst h
  exact ⟨_,(.cons (.agg rfl (.there (.there (.there .here))) rfl) .nil),rfl⟩
def scalar_Reduce_b1 (p0:List Int) (k40:(List Int)→OL) (k61:(Int)→(List Int)→OL) (i59:Int) (a60:List Int):OL :=
 br ((decide (i59<8))) (
 bnd (IntKind.wrap .i64 (8*i59)) fun z67 =>
 opt (bits_LoadLE_uint64 (tk p0 0 64) z67) fun y68 =>
 chk (inB i59 8) <|
 bnd (setD a60 (i59).toNat y68.1) fun l70 =>
 bnd (IntKind.wrap .i64 (i59+1)) fun z72 =>
 k61 z72 l70
 ) (
 k40 a60
 )
def scalar_Reduce_l1 (p0:List Int) (k40:(List Int)→OL):Nat→(Int)→(List Int)→OL
  | 0,_,_=>none
  | n+1,i59,a60=>scalar_Reduce_b1 p0 k40 (scalar_Reduce_l1 p0 k40 n) i59 a60
def scalar_Reduce (p0:List Int):OL :=
 jn (fun (a39:List Int)=>opt (scalar_reduce (tk a39 0 8)) fun y74 =>
 opt (scalar_store y74) fun y75 =>
 some y75) fun k40=>scalar_Reduce_l1 p0 k40 big 0 (List.replicate 8 0)
theorem scalar_Reduce_spec {W:World} {r:(List Int)} {p0:List Int} (h:scalar_Reduce p0=some r) (hG:Globs W) :
    Calls Tryz.prog 98 [agg [.ints .u8 64 (p0)]].toArray W (ret1 W (agg [.ints .u8 32 (r)])):=by
 unfold scalar_Reduce at h
 refine calls_val mo ok98 rfl ?_
 refine wc_seq<|wc_ops<|wj_e (ef_bx (s:=[.ints .u8 64 (p0)]) rfl fun b2 hb2=>wj_e (ef_al fun b3 hb3=>wj_nil<|wc_seq<|wc_ops<|wj_e (ef_al fun b5 hb5=>wj_nil<|wc_seq<|wc_seq<|wc_ops<|wj_m rfl<|wj_nil<|jH h fun k40 qk40 h=>wc_mono2 (G:=fun t m=>∃ (a39:List Int),k40 a39=some r∧Fit [(2,.pointer (some ⟨b3,0,none⟩)),(3,.pointer (some ⟨b5,0,none⟩))] (ck b5 144 [.ints .u64 8 (a39)]::(ck b3 74 [.ints .u8 32 ((List.replicate 32 0))]::(ck b2 94 [.ints .u8 64 (p0)] :: []))) t m) ?_ ?_)))
 ·refine wc_block<|wc_loopJ (fun n62 t m=>∃ (i59:Int) (a60:List Int),scalar_Reduce_l1 p0 k40 n62 i59 a60=some r∧Fit [(1,.pointer (some ⟨b2,0,none⟩)),(2,.pointer (some ⟨b3,0,none⟩)),(3,.pointer (some ⟨b5,0,none⟩)),(5,.int .i64 (i59))] (ck b5 144 [.ints .u64 8 (a60)]::(ck b3 74 [.ints .u8 32 ((List.replicate 32 0))]::(ck b2 94 [.ints .u8 64 (p0)] :: []))) t m) big ?_ ?_
  ·exact ⟨0,(List.replicate 8 0),h,⟨⟨rfl,rfl,rfl,rfl,trivial⟩,(.one .here (.one .here (.one .here .nil)))⟩⟩
  ·rintro n62 t m ⟨i59,a60,h,hF⟩
   refine wc_fit hF ?_
   clear hF
   rcases n62 with _ | n62
   · exact none_i h
   have h:scalar_Reduce_b1 p0 k40 (scalar_Reduce_l1 p0 k40 n62) i59 a60=some r:=h
   unfold scalar_Reduce_b1 at h
   obtain ⟨k61,qk61⟩ : ∃ k,k=scalar_Reduce_l1 p0 k40 n62:=⟨_,rfl⟩
   try rw [← qk61] at h
   refine wc_seq<|wc_ops<|wj_q _ (q_bin rfl rfl rfl)<|wj_nil<|wc_seq<|wc_br h rfl (fun h=>?_) (fun h=>?_)
   ·refine wc_skip<|wc_seq<|wc_block<|wc_seq<|wc_ops<|wj_m rfl<|wj_m rfl<|wj_nil<|bH h fun z67 ez67 h=>oH h fun y68 ey68 h=>cH h fun c69 h=>bH h fun l70 el70 h=>wc_ops<|wj_m rfl<|wj_q _ (q_sla rfl .no .no .no (by simp) (by decide))<|wj_m rfl<|wj_q _ (iz ez67 (q_bin rfl rfl rfl))<|wj_q _ (q_call rfl (fun w hw=>bits_LoadLE_uint64_spec ey68 ((rd_blk_i (s:=[.ints .u8 64 (p0)]) (N:=64) (k:=.u8) (base:=0) (lo:=0) (hi:=64) (mz:=64) (.there (.there .here)) rfl (by decide)) w hw)))<|wj_m rfl<|wj_q _ (q_ext rfl rfl)<|wj_q _ (q_ext rfl rfl)<|wj_q _ (q_ia rfl rfl (inB_z c69))<|wj_e (ef_stiz (q:=[.ints .u64 8 (l70)]) (base:=0) el70 rfl rfl rfl (inB_n c69) rfl .here<|wj_nil<|bH h fun z72 ez72 h=>wc_ops<|wj_q _ (iz ez72 (q_bin rfl rfl rfl))<|wj_m rfl<|wj_nil ?_)
    rw [qk61] at h
    exact ⟨n62,Nat.lt_succ_self _,z72,l70,h,⟨⟨rfl,rfl,rfl,rfl,trivial⟩,(.one .here (.one .here (.one .here .nil)))⟩⟩
   ·exact wc_exit _ rfl<|⟨a60,h,⟨⟨rfl,rfl,trivial⟩,(.one .here (.one .here (.one .here .nil)))⟩⟩
 ·rintro t m ⟨a39,h,hF⟩
  refine wc_fit hF ?_
  clear hF
  subst qk40
  refine wc_seq<|oH h fun y74 ey74 h=>oH h fun y75 ey75 h=>wc_ops<|wj_q _ (q_sla rfl .no .no .no (by simp) (by decide))<|wj_q _ (q_call rfl (fun w hw=>scalar_reduce_spec ey74 (hG.at hw (by simp)) ((rd_blk_i (s:=[.ints .u64 8 (a39)]) (N:=8) (k:=.u64) (base:=0) (lo:=0) (hi:=8) (mz:=8) .here rfl (by decide)) w hw)))<|wj_q _ (q_cl rfl (scalar_store_spec ey75))<|wj_e (ef_st (q:=[.ints .u8 32 (y75)]) rfl rfl rfl rfl rfl (.there .here)<|wj_nil<|wc_ret ?_)
  revert h; refine ret_i fun h=>?_
  subst h
  exact ⟨_,(.cons (.agg rfl (.there .here) rfl) .nil),rfl⟩
def sign_hash_b1 (p0:List (List Int)) (k55:(List Int)→(List Int)→(Int)→(Int)→OL) (k85:(Int)→(List Int)→(List Int)→(Int)→(Int)→OL) (i80:Int) (a81:List Int) (a82:List Int) (i83:Int) (i84:Int):OL :=
 br ((decide (i80<(p0.length:Int)))) (
 chk (inB i80 p0.length) <|
 opt (sha512_Digest_Write (⟨a81,a82,i83,i84⟩:sha512_Digest) (p0.getD (i80).toNat [])) fun y92 =>
 bnd (IntKind.wrap .i64 (i80+1)) fun z96 =>
 k85 z96 y92.gstate y92.gheld y92.ghave y92.glength
 ) (
 k55 a81 a82 i83 i84
 )
def sign_hash_l1 (p0:List (List Int)) (k55:(List Int)→(List Int)→(Int)→(Int)→OL):Nat→(Int)→(List Int)→(List Int)→(Int)→(Int)→OL
  | 0,_,_,_,_,_=>none
  | n+1,i80,a81,a82,i83,i84=>sign_hash_b1 p0 k55 (sign_hash_l1 p0 k55 n) i80 a81 a82 i83 i84
def sign_hash (p0:List (List Int)):OL :=
 opt (sha512_New ) fun y4 =>
 jn (fun (a51:List Int) (a52:List Int) (i53:Int) (i54:Int)=>opt (sha512_Digest_Sum (⟨a51,a52,i53,i54⟩:sha512_Digest)) fun y98 =>
 opt (scalar_Reduce y98.1) fun y101 =>
 some y101) fun k55=>sign_hash_l1 p0 k55 big 0 y4.gstate y4.gheld y4.ghave y4.glength
theorem sign_hash_spec {W:World} {r:(List Int)} {p0:List (List Int)} {v0:Value} {us0:List SlT} (h:sign_hash p0=some r) (hG:Globs W) (A0:RdSl El.sl W v0 us0) (B0:RdAll (El.int .u8) W us0 p0) :
    Calls Tryz.prog 52 [v0].toArray W (ret1 W (agg [.ints .u8 32 (r)])):=by
 unfold sign_hash at h
 refine calls_val mo ok52 rfl ?_
 refine wc_seq<|wc_ops<|wj_e (ef_al fun b2 hb2=>wj_nil<|wc_seq<|oH h fun y4 ey4 h=>wc_ops<|wj_e (ef_callS0 rfl (fun w hw=>sha512_New_spec  ey4 (hG.at hw (by simp))) fun v5 Msv5 R6=>?_))
 obtain ⟨b7,T8,rfl,rfl⟩:=R6
 refine wj_m rfl<|wj_nil<|wc_seq<|wc_seq<|wc_ops<|wj_m rfl<|wj_q _ ((len_nlP (q_lenP rfl (Shp.rd A0)) (RdAll.len B0)))<|wj_m rfl<|wj_nil<|jH h fun k55 qk55 h=>wc_mono2 (G:=fun t m=>∃ (a51:List Int) (a52:List Int) (i53:Int) (i54:Int),k55 a51 a52 i53 i54=some r∧Fit [(2,.pointer (some ⟨b2,0,none⟩)),(3,.pointer (some ⟨b7,0,none⟩))] (ck b7 T8 [.ints .u64 8 (a51),.ints .u8 128 (a52),.one (.int .i64 (i53)),.one (.int .u64 (i54))]::(ck b2 74 [.ints .u8 32 ((List.replicate 32 0))] :: [])) t m) ?_ ?_
 ·refine wc_block<|wc_loopJ (fun n86 t m=>∃ (i80:Int) (a81:List Int) (a82:List Int) (i83:Int) (i84:Int),sign_hash_l1 p0 k55 n86 i80 a81 a82 i83 i84=some r∧Fit [(2,.pointer (some ⟨b2,0,none⟩)),(3,.pointer (some ⟨b7,0,none⟩)),(7,v0),(8,.int .i64 ((p0.length:Int))),(9,.int .i64 (i80))] (ck b7 T8 [.ints .u64 8 (a81),.ints .u8 128 (a82),.one (.int .i64 (i83)),.one (.int .u64 (i84))]::(ck b2 74 [.ints .u8 32 ((List.replicate 32 0))] :: [])) t m) big ?_ ?_
  ·exact ⟨0,y4.gstate,y4.gheld,y4.ghave,y4.glength,h,⟨⟨rfl,rfl,rfl,rfl,rfl,trivial⟩,(.one .here (.one .here .nil))⟩⟩
  ·rintro n86 t m ⟨i80,a81,a82,i83,i84,h,hF⟩
   refine wc_fit hF ?_
   clear hF
   rcases n86 with _ | n86
   · exact none_i h
   have h:sign_hash_b1 p0 k55 (sign_hash_l1 p0 k55 n86) i80 a81 a82 i83 i84=some r:=h
   unfold sign_hash_b1 at h
   obtain ⟨k85,qk85⟩ : ∃ k,k=sign_hash_l1 p0 k55 n86:=⟨_,rfl⟩
   try rw [← qk85] at h
   refine wc_seq<|wc_ops<|wj_q _ (q_bin rfl rfl rfl)<|wj_nil<|wc_seq<|wc_br h rfl (fun h=>?_) (fun h=>?_)
   ·refine wc_skip<|wc_seq<|wc_block<|wc_seq<|cH h fun c90 h=>wc_ops<|wj_q _ (q_iasP rfl rfl (Shp.rd A0) (all_len B0 c90))<|wj_q _ (q_ldM10 (E:=El.sl) (s:=[.one (slV (us0.getD (i80).toNat (none,0,0)))]) rfl (rd_arg A0 apart0) (inB_n (all_len B0 c90)) rfl rfl)<|wj_m rfl<|wj_nil<|oH h fun y92 ey92 h=>wc_ops<|wj_m rfl<|wj_m rfl<|wj_e (ef_callS (mS:=[_]) rfl (Take1.perm .here) (fun w hw=>sha512_Digest_Write_spec  ey92 (sat_own hw (mS:=[_]) (Take1.perm .here)) (hG.at hw (by simp)) (hG.ap (by simp) .here hw) ⟨(rd_arg (RdAll.get B0 _ (inB_n c90)) apart0) w hw,(apart_arg (E:=(El.int .u8)) (RdAll.get B0 _ (inB_n c90)) .here hw)⟩) fun v93 Msv93 R94=>?_)
    obtain ⟨rfl,rfl⟩:=R94
    refine wj_nil<|bH h fun z96 ez96 h=>wc_ops<|wj_q _ (iz ez96 (q_bin rfl rfl rfl))<|wj_m rfl<|wj_nil ?_
    rw [qk85] at h
    exact ⟨n86,Nat.lt_succ_self _,z96,y92.gstate,y92.gheld,y92.ghave,y92.glength,h,⟨⟨rfl,rfl,rfl,rfl,rfl,trivial⟩,(.one .here (.one .here .nil))⟩⟩
   ·exact wc_exit _ rfl<|⟨a81,a82,i83,i84,h,⟨⟨rfl,rfl,trivial⟩,(.one .here (.one .here .nil))⟩⟩
 ·rintro t m ⟨a51,a52,i53,i54,h,hF⟩
  refine wc_fit hF ?_
  clear hF
  subst qk55
  refine wc_seq<|oH h fun y98 ey98 h=>oH h fun y101 ey101 h=>wc_ops<|wj_m rfl<|wj_e (ef_callS (mS:=[_]) rfl (Take1.perm .here) (fun w hw=>sha512_Digest_Sum_spec  ey98 (sat_own hw (mS:=[_]) (Take1.perm .here)) (hG.at hw (by simp)) (hG.ap (by simp) .here hw)) fun v99 Msv99 R100=>?_)
  obtain ⟨rfl,rfl⟩:=R100
  refine wj_q _ (q_call rfl (fun w hw=>scalar_Reduce_spec ey101 (hG.at hw (by simp))))<|wj_e (ef_st (q:=[.ints .u8 32 (y101)]) rfl rfl rfl rfl rfl (.there .here)<|wj_nil<|wc_ret ?_)
  revert h; refine ret_i fun h=>?_
  subst h
  exact ⟨_,(.cons (.agg rfl (.there .here) rfl) .nil),rfl⟩
def scalar_load_b1 (p0:List Int) (k40:(List Int)→OL) (k61:(Int)→(List Int)→OL) (i59:Int) (a60:List Int):OL :=
 br ((decide (i59<4))) (
 bnd (IntKind.wrap .i64 (8*i59)) fun z67 =>
 opt (bits_LoadLE_uint64 (tk p0 0 32) z67) fun y68 =>
 chk (inB i59 4) <|
 bnd (setD a60 (i59).toNat y68.1) fun l70 =>
 bnd (IntKind.wrap .i64 (i59+1)) fun z72 =>
 k61 z72 l70
 ) (
 k40 a60
 )
def scalar_load_l1 (p0:List Int) (k40:(List Int)→OL):Nat→(Int)→(List Int)→OL
  | 0,_,_=>none
  | n+1,i59,a60=>scalar_load_b1 p0 k40 (scalar_load_l1 p0 k40 n) i59 a60
def scalar_load (p0:List Int):OL :=
 jn (fun (a39:List Int)=>some a39) fun k40=>scalar_load_l1 p0 k40 big 0 (List.replicate 4 0)
theorem scalar_load_spec {W:World} {r:(List Int)} {p0:List Int} (h:scalar_load p0=some r)  :
    Calls Tryz.prog 132 [agg [.ints .u8 32 (p0)]].toArray W (ret1 W (agg [.ints .u64 4 (r)])):=by
 unfold scalar_load at h
 refine calls_val mo ok132 rfl ?_
 refine wc_seq<|wc_ops<|wj_e (ef_bx (s:=[.ints .u8 32 (p0)]) rfl fun b2 hb2=>wj_e (ef_al fun b3 hb3=>wj_nil<|wc_seq<|wc_ops<|wj_e (ef_al fun b5 hb5=>wj_nil<|wc_seq<|wc_seq<|wc_ops<|wj_m rfl<|wj_nil<|jH h fun k40 qk40 h=>wc_mono2 (G:=fun t m=>∃ (a39:List Int),k40 a39=some r∧Fit [(2,.pointer (some ⟨b3,0,none⟩)),(3,.pointer (some ⟨b5,0,none⟩))] (ck b5 162 [.ints .u64 4 (a39)]::(ck b3 162 [.ints .u64 4 ((List.replicate 4 0))]::(ck b2 74 [.ints .u8 32 (p0)] :: []))) t m) ?_ ?_)))
 ·refine wc_block<|wc_loopJ (fun n62 t m=>∃ (i59:Int) (a60:List Int),scalar_load_l1 p0 k40 n62 i59 a60=some r∧Fit [(1,.pointer (some ⟨b2,0,none⟩)),(2,.pointer (some ⟨b3,0,none⟩)),(3,.pointer (some ⟨b5,0,none⟩)),(5,.int .i64 (i59))] (ck b5 162 [.ints .u64 4 (a60)]::(ck b3 162 [.ints .u64 4 ((List.replicate 4 0))]::(ck b2 74 [.ints .u8 32 (p0)] :: []))) t m) big ?_ ?_
  ·exact ⟨0,(List.replicate 4 0),h,⟨⟨rfl,rfl,rfl,rfl,trivial⟩,(.one .here (.one .here (.one .here .nil)))⟩⟩
  ·rintro n62 t m ⟨i59,a60,h,hF⟩
   refine wc_fit hF ?_
   clear hF
   rcases n62 with _ | n62
   · exact none_i h
   have h:scalar_load_b1 p0 k40 (scalar_load_l1 p0 k40 n62) i59 a60=some r:=h
   unfold scalar_load_b1 at h
   obtain ⟨k61,qk61⟩ : ∃ k,k=scalar_load_l1 p0 k40 n62:=⟨_,rfl⟩
   try rw [← qk61] at h
   refine wc_seq<|wc_ops<|wj_q _ (q_bin rfl rfl rfl)<|wj_nil<|wc_seq<|wc_br h rfl (fun h=>?_) (fun h=>?_)
   ·refine wc_skip<|wc_seq<|wc_block<|wc_seq<|wc_ops<|wj_m rfl<|wj_m rfl<|wj_nil<|bH h fun z67 ez67 h=>oH h fun y68 ey68 h=>cH h fun c69 h=>bH h fun l70 el70 h=>wc_ops<|wj_m rfl<|wj_q _ (q_sla rfl .no .no .no (by simp) (by decide))<|wj_m rfl<|wj_q _ (iz ez67 (q_bin rfl rfl rfl))<|wj_q _ (q_call rfl (fun w hw=>bits_LoadLE_uint64_spec ey68 ((rd_blk_i (s:=[.ints .u8 32 (p0)]) (N:=32) (k:=.u8) (base:=0) (lo:=0) (hi:=32) (mz:=32) (.there (.there .here)) rfl (by decide)) w hw)))<|wj_m rfl<|wj_q _ (q_ext rfl rfl)<|wj_q _ (q_ext rfl rfl)<|wj_q _ (q_ia rfl rfl (inB_z c69))<|wj_e (ef_stiz (q:=[.ints .u64 4 (l70)]) (base:=0) el70 rfl rfl rfl (inB_n c69) rfl .here<|wj_nil<|bH h fun z72 ez72 h=>wc_ops<|wj_q _ (iz ez72 (q_bin rfl rfl rfl))<|wj_m rfl<|wj_nil ?_)
    rw [qk61] at h
    exact ⟨n62,Nat.lt_succ_self _,z72,l70,h,⟨⟨rfl,rfl,rfl,rfl,trivial⟩,(.one .here (.one .here (.one .here .nil)))⟩⟩
   ·exact wc_exit _ rfl<|⟨a60,h,⟨⟨rfl,rfl,trivial⟩,(.one .here (.one .here (.one .here .nil)))⟩⟩
 ·rintro t m ⟨a39,h,hF⟩
  refine wc_fit hF ?_
  clear hF
  subst qk40
  refine wc_seq<|wc_ops<|wj_q _ (q_ld (p:=[.ints .u64 4 (a39)]) rfl .here rfl)<|wj_e (ef_st (q:=[.ints .u64 4 (a39)]) rfl rfl rfl rfl rfl (.there .here)<|wj_nil<|wc_ret ?_)
  revert h; refine ret_i fun h=>?_
  subst h
  exact ⟨_,(.cons (.agg rfl (.there .here) rfl) .nil),rfl⟩
def q5_lessened_b1 (p1:List Int) (k71:(List Int)→OL) (k113:(Int)→(Int)→(List Int)→OL) (i110:Int) (i111:Int) (a112:List Int):OL :=
 br ((decide (i111<10))) (
 chk (inB i111 10) <|
 chk (inB i111 10) <|
 bnd (a112.getD (i111).toNat 0) fun z120 =>
 bnd (IntKind.wrap .u64 (z120+67108863)) fun z121 =>
 bnd (IntKind.wrap .u64 (z121+1)) fun z122 =>
 bnd (p1.getD (i111).toNat 0) fun z123 =>
 bnd (IntKind.wrap .u64 (z122-z123)) fun z124 =>
 bnd (IntKind.wrap .u64 (z124-i110)) fun z125 =>
 bnd (shrV .u64 z125 26) fun z127 =>
 bnd (IntKind.wrap .u64 (1-z127)) fun z128 =>
 bnd (bitsV .and .u64 z125 67108863) fun z130 =>
 chk (inB i111 10) <|
 bnd (setD a112 (i111).toNat z130) fun l132 =>
 bnd (IntKind.wrap .i64 (i111+1)) fun z134 =>
 k113 z128 z134 l132
 ) (
 k71 a112
 )
def q5_lessened_l1 (p1:List Int) (k71:(List Int)→OL):Nat→(Int)→(Int)→(List Int)→OL
  | 0,_,_,_=>none
  | n+1,i110,i111,a112=>q5_lessened_b1 p1 k71 (q5_lessened_l1 p1 k71 n) i110 i111 a112
def q5_lessened (p0:List Int) (p1:List Int):OL :=
 jn (fun (a70:List Int)=>some a70) fun k71=>q5_lessened_l1 p1 k71 big 0 0 p0
theorem q5_lessened_spec {W:World} {r:(List Int)} {p0:List Int} {p1:List Int} (h:q5_lessened p0 p1=some r)  :
    Calls Tryz.prog 197 [agg [.ints .u64 10 (p0)],agg [.ints .u64 10 (p1)]].toArray W (ret1 W (agg [.ints .u64 10 (r)])):=by
 unfold q5_lessened at h
 refine calls_val mo ok197 rfl ?_
 refine wc_seq<|wc_ops<|wj_e (ef_bx (s:=[.ints .u64 10 (p0)]) rfl fun b2 hb2=>wj_e (ef_bx (s:=[.ints .u64 10 (p1)]) rfl fun b3 hb3=>wj_e (ef_al fun b4 hb4=>wj_nil<|wc_seq<|wc_ops<|wj_m rfl<|wj_nil<|wc_seq<|wc_seq<|wc_ops<|wj_m rfl<|wj_nil<|jH h fun k71 qk71 h=>wc_mono2 (G:=fun t m=>∃ (a70:List Int),k71 a70=some r∧Fit [(2,.pointer (some ⟨b2,0,none⟩)),(4,.pointer (some ⟨b4,0,none⟩))] (ck b4 88 [.ints .u64 10 ((List.replicate 10 0))]::(ck b3 88 [.ints .u64 10 (p1)]::(ck b2 88 [.ints .u64 10 (a70)] :: []))) t m) ?_ ?_)))
 ·refine wc_block<|wc_loopJ (fun n114 t m=>∃ (i110:Int) (i111:Int) (a112:List Int),q5_lessened_l1 p1 k71 n114 i110 i111 a112=some r∧Fit [(2,.pointer (some ⟨b2,0,none⟩)),(3,.pointer (some ⟨b3,0,none⟩)),(4,.pointer (some ⟨b4,0,none⟩)),(5,.int .u64 (i110)),(6,.int .i64 (i111))] (ck b4 88 [.ints .u64 10 ((List.replicate 10 0))]::(ck b3 88 [.ints .u64 10 (p1)]::(ck b2 88 [.ints .u64 10 (a112)] :: []))) t m) big ?_ ?_
  ·exact ⟨0,0,p0,h,⟨⟨rfl,rfl,rfl,rfl,rfl,trivial⟩,(.one .here (.one .here (.one .here .nil)))⟩⟩
  ·rintro n114 t m ⟨i110,i111,a112,h,hF⟩
   refine wc_fit hF ?_
   clear hF
   rcases n114 with _ | n114
   · exact none_i h
   have h:q5_lessened_b1 p1 k71 (q5_lessened_l1 p1 k71 n114) i110 i111 a112=some r:=h
   unfold q5_lessened_b1 at h
   obtain ⟨k113,qk113⟩ : ∃ k,k=q5_lessened_l1 p1 k71 n114:=⟨_,rfl⟩
   try rw [← qk113] at h
   refine wc_seq<|wc_seq<|wc_ops<|wj_m rfl<|wj_q _ (q_bin rfl rfl rfl)<|wj_nil<|wc_br h rfl (fun h=>?_) (fun h=>?_)
   ·refine wc_skip<|wc_seq<|wc_block<|wc_seq<|cH h fun c118 h=>cH h fun c119 h=>bH h fun z120 ez120 h=>bH h fun z121 ez121 h=>bH h fun z122 ez122 h=>bH h fun z123 ez123 h=>bH h fun z124 ez124 h=>bH h fun z125 ez125 h=>wc_draw<|ws_p1 _ (q_mv rfl)<|ws_p1 _ (q_ia rfl rfl (inB_z c118))<|ws_p1 _ (q_mv rfl)<|ws_p1 _ (q_ia rfl rfl (inB_z c119))<|ws_p1 _ (q_mv rfl)<|ws_q1 _ (iz ez120 (q_ldi (base:=0) rfl (.there (.there .here)) rfl (inB_n c118)))<|ws_p1 _ (iz ez121 (q_bin rfl rfl rfl))<|ws_p1 _ (iz ez122 (q_bin rfl rfl rfl))<|ws_q1 _ (iz ez123 (q_ldi (base:=0) rfl (.there .here) rfl (inB_n c119)))<|ws_p1 _ (iz ez124 (q_bin rfl rfl rfl))<|ws_p1 _ (iz ez125 (q_bin rfl rfl rfl))<|ws_p1 _ (q_mv rfl)<|ws_nil<|wc_seq<|bH h fun z127 ez127 h=>bH h fun z128 ez128 h=>wc_ops<|wj_m rfl<|wj_q _ (iz ez127 (q_shr rfl rfl (by decide)))<|wj_q _ (iz ez128 (q_bin rfl rfl rfl))<|wj_m rfl<|wj_nil<|bH h fun z130 ez130 h=>cH h fun c131 h=>bH h fun l132 el132 h=>wc_ops<|wj_m rfl<|wj_m rfl<|wj_q _ (iz ez130 (q_bin rfl rfl rfl))<|wj_q _ (q_ia rfl rfl (inB_z c131))<|wj_e (ef_stiz (q:=[.ints .u64 10 (l132)]) (base:=0) el132 rfl rfl rfl (inB_n c131) rfl (.there (.there .here))<|wj_nil<|bH h fun z134 ez134 h=>wc_ops<|wj_m rfl<|wj_q _ (iz ez134 (q_bin rfl rfl rfl))<|wj_m rfl<|wj_nil ?_)
    rw [qk113] at h
    exact ⟨n114,Nat.lt_succ_self _,z128,z134,l132,h,⟨⟨rfl,rfl,rfl,rfl,rfl,trivial⟩,(.one .here (.one .here (.one .here .nil)))⟩⟩
   ·exact wc_exit _ rfl<|⟨a112,h,⟨⟨rfl,rfl,trivial⟩,(.one .here (.one .here (.one .here .nil)))⟩⟩
 ·rintro t m ⟨a70,h,hF⟩
  refine wc_fit hF ?_
  clear hF
  subst qk71
  refine wc_seq<|wc_ops<|wj_q _ (q_ld (p:=[.ints .u64 10 (a70)]) rfl (.there (.there .here)) rfl)<|wj_e (ef_st (q:=[.ints .u64 10 (a70)]) rfl rfl rfl rfl rfl .here<|wj_nil<|wc_ret ?_)
  revert h; refine ret_i fun h=>?_
  subst h
  exact ⟨_,(.cons (.agg rfl .here rfl) .nil),rfl⟩
def q5_prime:OL :=
 bnd (([67108845,67108863,67108863,67108863,67108863,67108863,67108863,67108863,67108863,2097151]:List Int)) fun z4 =>
 some z4
theorem q5_prime_spec {W:World} {r:(List Int)} (h:q5_prime=some r)  :
    Calls Tryz.prog 198 [].toArray W (ret1 W (agg [.ints .u64 10 (r)])):=by
 unfold q5_prime at h
 refine calls_val mo ok198 rfl ?_
 refine wc_seq<|wc_ops<|wj_e (ef_al fun b2 hb2=>wj_nil<|wc_seq<|bH h fun z4 ez4 h=>wc_ops<|wj_q _ (az (fun z=>agg [.ints .u64 10 z]) ez4 (q_bd (.one rfl rfl rfl (.one rfl rfl rfl (.one rfl rfl rfl (.one rfl rfl rfl (.one rfl rfl rfl (.one rfl rfl rfl (.one rfl rfl rfl (.one rfl rfl rfl (.one rfl rfl rfl (.one rfl rfl rfl BdR.nil))))))))))))<|wj_e (ef_st (q:=[.ints .u64 10 (z4)]) rfl rfl rfl rfl rfl .here<|wj_nil<|wc_ret ?_))
 revert h; refine ret_i fun h=>?_
 subst h
 exact ⟨_,(.cons (.agg rfl .here rfl) .nil),rfl⟩
def q5_carried_b1 (k66:(List Int)→OL) (k104:(Int)→(List Int)→OL) (i102:Int) (a103:List Int):OL :=
 br ((decide (i102<9))) (
 bnd (IntKind.wrap .i64 (i102+1)) fun z109 =>
 bnd (IntKind.wrap .i64 (i102+1)) fun z110 =>
 chk (inB z110 10) <|
 chk (inB i102 10) <|
 bnd (a103.getD (z110).toNat 0) fun z113 =>
 bnd (a103.getD (i102).toNat 0) fun z114 =>
 bnd (shrV .u64 z114 26) fun z115 =>
 bnd (IntKind.wrap .u64 (z113+z115)) fun z116 =>
 chk (inB z109 10) <|
 bnd (setD a103 (z109).toNat z116) fun l118 =>
 chk (inB i102 10) <|
 bnd (l118.getD (i102).toNat 0) fun z121 =>
 bnd (bitsV .and .u64 z121 67108863) fun z122 =>
 chk (inB i102 10) <|
 bnd (setD l118 (i102).toNat z122) fun l124 =>
 bnd (IntKind.wrap .i64 (i102+1)) fun z126 =>
 k104 z126 l124
 ) (
 k66 a103
 )
def q5_carried_l1 (k66:(List Int)→OL):Nat→(Int)→(List Int)→OL
  | 0,_,_=>none
  | n+1,i102,a103=>q5_carried_b1 k66 (q5_carried_l1 k66 n) i102 a103
def q5_carried (p0:List Int):OL :=
 jn (fun (a65:List Int)=>some a65) fun k66=>q5_carried_l1 k66 big 0 p0
theorem q5_carried_spec {W:World} {r:(List Int)} {p0:List Int} (h:q5_carried p0=some r)  :
    Calls Tryz.prog 207 [agg [.ints .u64 10 (p0)]].toArray W (ret1 W (agg [.ints .u64 10 (r)])):=by
 unfold q5_carried at h
 refine calls_val mo ok207 rfl ?_
 refine wc_seq<|wc_ops<|wj_e (ef_bx (s:=[.ints .u64 10 (p0)]) rfl fun b2 hb2=>wj_e (ef_al fun b3 hb3=>wj_nil<|wc_seq<|wc_seq<|wc_ops<|wj_m rfl<|wj_nil<|jH h fun k66 qk66 h=>wc_mono2 (G:=fun t m=>∃ (a65:List Int),k66 a65=some r∧Fit [(1,.pointer (some ⟨b2,0,none⟩)),(2,.pointer (some ⟨b3,0,none⟩))] (ck b3 88 [.ints .u64 10 ((List.replicate 10 0))]::(ck b2 88 [.ints .u64 10 (a65)] :: [])) t m) ?_ ?_))
 ·refine wc_block<|wc_loopJ (fun n105 t m=>∃ (i102:Int) (a103:List Int),q5_carried_l1 k66 n105 i102 a103=some r∧Fit [(1,.pointer (some ⟨b2,0,none⟩)),(2,.pointer (some ⟨b3,0,none⟩)),(3,.int .i64 (i102))] (ck b3 88 [.ints .u64 10 ((List.replicate 10 0))]::(ck b2 88 [.ints .u64 10 (a103)] :: [])) t m) big ?_ ?_
  ·exact ⟨0,p0,h,⟨⟨rfl,rfl,rfl,trivial⟩,(.one .here (.one .here .nil))⟩⟩
  ·rintro n105 t m ⟨i102,a103,h,hF⟩
   refine wc_fit hF ?_
   clear hF
   rcases n105 with _ | n105
   · exact none_i h
   have h:q5_carried_b1 k66 (q5_carried_l1 k66 n105) i102 a103=some r:=h
   unfold q5_carried_b1 at h
   obtain ⟨k104,qk104⟩ : ∃ k,k=q5_carried_l1 k66 n105:=⟨_,rfl⟩
   try rw [← qk104] at h
   refine wc_seq<|wc_seq<|wc_ops<|wj_m rfl<|wj_q _ (q_bin rfl rfl rfl)<|wj_nil<|wc_br h rfl (fun h=>?_) (fun h=>?_)
   ·refine wc_skip<|wc_seq<|wc_block<|wc_seq<|bH h fun z109 ez109 h=>bH h fun z110 ez110 h=>cH h fun c111 h=>cH h fun c112 h=>bH h fun z113 ez113 h=>bH h fun z114 ez114 h=>bH h fun z115 ez115 h=>bH h fun z116 ez116 h=>cH h fun c117 h=>bH h fun l118 el118 h=>wc_draw<|ws_p1 _ (q_mv rfl)<|ws_p1 _ (iz ez109 (q_bin rfl rfl rfl))<|ws_p1 _ (q_mv rfl)<|ws_p1 _ (iz ez110 (q_bin rfl rfl rfl))<|ws_p1 _ (q_ia rfl rfl (inB_z c111))<|ws_p1 _ (q_mv rfl)<|ws_p1 _ (q_ia rfl rfl (inB_z c112))<|ws_q1 _ (iz ez113 (q_ldi (base:=0) rfl (.there .here) rfl (inB_n c111)))<|ws_q1 _ (iz ez114 (q_ldi (base:=0) rfl (.there .here) rfl (inB_n c112)))<|ws_p1 _ (iz ez115 (q_shr rfl rfl (by decide)))<|ws_p1 _ (iz ez116 (q_bin rfl rfl rfl))<|ws_p1 _ (q_ia rfl rfl (inB_z c117))<|ws_eL rfl (ef_stiz (q:=[.ints .u64 10 (l118)]) (base:=0) el118 rfl rfl rfl (inB_n c117) rfl (.there .here)<|ws_nil<|cH h fun c120 h=>bH h fun z121 ez121 h=>bH h fun z122 ez122 h=>cH h fun c123 h=>bH h fun l124 el124 h=>wc_ops<|wj_m rfl<|wj_m rfl<|wj_q _ (q_ia rfl rfl (inB_z c120))<|wj_q _ (iz ez121 (q_ldi (base:=0) rfl (.there .here) rfl (inB_n c120)))<|wj_q _ (iz ez122 (q_bin rfl rfl rfl))<|wj_q _ (q_ia rfl rfl (inB_z c123))<|wj_e (ef_stiz (q:=[.ints .u64 10 (l124)]) (base:=0) el124 rfl rfl rfl (inB_n c123) rfl (.there .here)<|wj_nil<|bH h fun z126 ez126 h=>wc_ops<|wj_m rfl<|wj_q _ (iz ez126 (q_bin rfl rfl rfl))<|wj_m rfl<|wj_nil ?_))
    rw [qk104] at h
    exact ⟨n105,Nat.lt_succ_self _,z126,l124,h,⟨⟨rfl,rfl,rfl,trivial⟩,(.one .here (.one .here .nil))⟩⟩
   ·exact wc_exit _ rfl<|⟨a103,h,⟨⟨rfl,rfl,trivial⟩,(.one .here (.one .here .nil))⟩⟩
 ·rintro t m ⟨a65,h,hF⟩
  refine wc_fit hF ?_
  clear hF
  subst qk66
  refine wc_seq<|wc_ops<|wj_q _ (q_ld (p:=[.ints .u64 10 (a65)]) rfl (.there .here) rfl)<|wj_e (ef_st (q:=[.ints .u64 10 (a65)]) rfl rfl rfl rfl rfl .here<|wj_nil<|wc_ret ?_)
  revert h; refine ret_i fun h=>?_
  subst h
  exact ⟨_,(.cons (.agg rfl .here rfl) .nil),rfl⟩
def q5_below_b1 (p0:List Int) (p1:List Int) (k48:Unit→Option (Bool)) (k75:(Int)→Option (Bool)) (i74:Int):Option (Bool) :=
 br ((decide (i74≥0))) (
 chk (inB i74 10) <|
 chk (inB i74 10) <|
 bnd (p0.getD (i74).toNat 0) fun z82 =>
 bnd (p1.getD (i74).toNat 0) fun z83 =>
 br ((z82 != z83)) (
 chk (inB i74 10) <|
 chk (inB i74 10) <|
 bnd (p0.getD (i74).toNat 0) fun z88 =>
 bnd (p1.getD (i74).toNat 0) fun z89 =>
 some (decide (z88<z89))
 ) (
 bnd (IntKind.wrap .i64 (i74-1)) fun z91 =>
 k75 z91
 )
 ) (
 k48 ()
 )
def q5_below_l1 (p0:List Int) (p1:List Int) (k48:Unit→Option (Bool)):Nat→(Int)→Option (Bool)
  | 0,_=>none
  | n+1,i74=>q5_below_b1 p0 p1 k48 (q5_below_l1 p0 p1 k48 n) i74
def q5_below (p0:List Int) (p1:List Int):Option (Bool) :=
 jn (fun (_:Unit)=>some false) fun k48=>q5_below_l1 p0 p1 k48 big 9
theorem q5_below_spec {W:World} {r:Bool} {p0:List Int} {p1:List Int} (h:q5_below p0 p1=some r)  :
    Calls Tryz.prog 208 [agg [.ints .u64 10 (p0)],agg [.ints .u64 10 (p1)]].toArray W (ret1 W (.bool (r))):=by
 unfold q5_below at h
 refine calls_val mo ok208 rfl ?_
 refine wc_seq<|wc_ops<|wj_e (ef_bx (s:=[.ints .u64 10 (p0)]) rfl fun b2 hb2=>wj_e (ef_bx (s:=[.ints .u64 10 (p1)]) rfl fun b3 hb3=>wj_m rfl<|wj_nil<|wc_seq<|wc_seq<|wc_ops<|wj_m rfl<|wj_nil<|jH h fun k48 qk48 h=>wc_mono2 (G:=fun t m=>k48 ()=some r∧Fit [] (ck b3 88 [.ints .u64 10 (p1)]::(ck b2 88 [.ints .u64 10 (p0)] :: [])) t m) ?_ ?_))
 ·refine wc_block<|wc_loopJ (fun n76 t m=>∃ (i74:Int),q5_below_l1 p0 p1 k48 n76 i74=some r∧Fit [(2,.pointer (some ⟨b2,0,none⟩)),(3,.pointer (some ⟨b3,0,none⟩)),(5,.int .i64 (i74))] (ck b3 88 [.ints .u64 10 (p1)]::(ck b2 88 [.ints .u64 10 (p0)] :: [])) t m) big ?_ ?_
  ·exact ⟨9,h,⟨⟨rfl,rfl,rfl,trivial⟩,(.one .here (.one .here .nil))⟩⟩
  ·rintro n76 t m ⟨i74,h,hF⟩
   refine wc_fit hF ?_
   clear hF
   rcases n76 with _ | n76
   · exact none_i h
   have h:q5_below_b1 p0 p1 k48 (q5_below_l1 p0 p1 k48 n76) i74=some r:=h
   unfold q5_below_b1 at h
   obtain ⟨k75,qk75⟩ : ∃ k,k=q5_below_l1 p0 p1 k48 n76:=⟨_,rfl⟩
   try rw [← qk75] at h
   refine wc_seq<|wc_seq<|wc_ops<|wj_m rfl<|wj_q _ (q_bin rfl rfl rfl)<|wj_nil<|wc_br h rfl (fun h=>?_) (fun h=>?_)
   ·refine wc_skip<|wc_seq<|wc_block<|wc_seq<|cH h fun c80 h=>cH h fun c81 h=>bH h fun z82 ez82 h=>bH h fun z83 ez83 h=>wc_draw<|ws_p1 _ (q_mv rfl)<|ws_p1 _ (q_ia rfl rfl (inB_z c80))<|ws_p1 _ (q_mv rfl)<|ws_p1 _ (q_ia rfl rfl (inB_z c81))<|ws_q1 _ (iz ez82 (q_ldi (base:=0) rfl (.there .here) rfl (inB_n c80)))<|ws_q1 _ (iz ez83 (q_ldi (base:=0) rfl .here rfl (inB_n c81)))<|ws_p1 _ (q_bin rfl rfl rfl)<|ws_nil<|wc_br h rfl (fun h=>?_) (fun h=>?_)
    ·refine wc_seq<|cH h fun c86 h=>cH h fun c87 h=>bH h fun z88 ez88 h=>bH h fun z89 ez89 h=>wc_draw<|ws_p1 _ (q_mv rfl)<|ws_p1 _ (q_ia rfl rfl (inB_z c86))<|ws_p1 _ (q_mv rfl)<|ws_p1 _ (q_ia rfl rfl (inB_z c87))<|ws_q1 _ (iz ez88 (q_ldi (base:=0) rfl (.there .here) rfl (inB_n c86)))<|ws_q1 _ (iz ez89 (q_ldi (base:=0) rfl .here rfl (inB_n c87)))<|ws_p1 _ (q_bin rfl rfl rfl)<|ws_p1 _ (q_mv rfl)<|ws_nil<|wc_ret ?_
     revert h; refine ret_i fun h=>?_
     subst h
     exact ⟨_,(.cons (.tmp rfl) .nil),rfl⟩
    ·refine wc_skip<|bH h fun z91 ez91 h=>wc_ops<|wj_m rfl<|wj_q _ (iz ez91 (q_bin rfl rfl rfl))<|wj_m rfl<|wj_nil ?_
     rw [qk75] at h
     exact ⟨n76,Nat.lt_succ_self _,z91,h,⟨⟨rfl,rfl,rfl,trivial⟩,(.one .here (.one .here .nil))⟩⟩
   ·exact wc_exit _ rfl<|⟨h,⟨trivial,(.one .here (.one .here .nil))⟩⟩
 ·rintro t m ⟨h,hF⟩
  refine wc_fit hF ?_
  clear hF
  subst qk48
  refine wc_seq<|wc_ops<|wj_m rfl<|wj_nil<|wc_ret ?_
  revert h; refine ret_i fun h=>?_
  subst h
  exact ⟨_,(.cons (.tmp rfl) .nil),rfl⟩
def q5_Least_b1 (k59:(List Int)→OL) (k94:(List Int)→OL) (a93:List Int):OL :=
 bnd (a93.getD 9 0) fun z97 =>
 br ((decide (z97>2097151))) (
 bnd (a93.getD 0 0) fun z100 =>
 bnd (a93.getD 9 0) fun z101 =>
 bnd (shrV .u64 z101 21) fun z102 =>
 bnd (IntKind.wrap .u64 (19*z102)) fun z103 =>
 bnd (IntKind.wrap .u64 (z100+z103)) fun z104 =>
 bnd (setD a93 0 z104) fun l105 =>
 bnd (l105.getD 9 0) fun z107 =>
 bnd (bitsV .and .u64 z107 2097151) fun z108 =>
 bnd (setD l105 9 z108) fun l109 =>
 opt (q5_carried l109) fun y111 =>
 k94 y111
 ) (
 k59 a93
 )
def q5_Least_l1 (k59:(List Int)→OL):Nat→(List Int)→OL
  | 0,_=>none
  | n+1,a93=>q5_Least_b1 k59 (q5_Least_l1 k59 n) a93
def q5_Least (p0:List Int):OL :=
 opt (q5_carried p0) fun y5 =>
 jn (fun (a58:List Int)=>opt (q5_prime) fun y113 =>
 opt (q5_below a58 y113) fun y116 =>
 jn (fun (a120:List Int)=>some a120) fun k121=>br ((!y116)) (
 opt (q5_lessened a58 y113) fun y124 =>
 k121 y124
 ) (
 k121 a58
 )) fun k59=>q5_Least_l1 k59 big y5
theorem q5_Least_spec {W:World} {r:(List Int)} {p0:List Int} (h:q5_Least p0=some r)  :
    Calls Tryz.prog 172 [agg [.ints .u64 10 (p0)]].toArray W (ret1 W (agg [.ints .u64 10 (r)])):=by
 unfold q5_Least at h
 refine calls_val mo ok172 rfl ?_
 refine wc_seq<|wc_ops<|wj_e (ef_bx (s:=[.ints .u64 10 (p0)]) rfl fun b2 hb2=>wj_e (ef_al fun b3 hb3=>wj_nil<|wc_seq<|oH h fun y5 ey5 h=>wc_ops<|wj_q _ (q_ld (p:=[.ints .u64 10 (p0)]) rfl (.there .here) rfl)<|wj_q _ (q_cl rfl (q5_carried_spec ey5))<|wj_e (ef_st (q:=[.ints .u64 10 (y5)]) rfl rfl rfl rfl rfl (.there .here)<|wj_nil<|wc_seq<|jH h fun k59 qk59 h=>wc_mono2 (G:=fun t m=>∃ (a58:List Int),k59 a58=some r∧Fit [(1,.pointer (some ⟨b2,0,none⟩)),(2,.pointer (some ⟨b3,0,none⟩))] (ck b3 88 [.ints .u64 10 ((List.replicate 10 0))]::(ck b2 88 [.ints .u64 10 (a58)] :: [])) t m) ?_ ?_)))
 ·refine wc_block<|wc_loopJ (fun n95 t m=>∃ (a93:List Int),q5_Least_l1 k59 n95 a93=some r∧Fit [(1,.pointer (some ⟨b2,0,none⟩)),(2,.pointer (some ⟨b3,0,none⟩))] (ck b3 88 [.ints .u64 10 ((List.replicate 10 0))]::(ck b2 88 [.ints .u64 10 (a93)] :: [])) t m) big ?_ ?_
  ·exact ⟨y5,h,⟨⟨rfl,rfl,trivial⟩,(.one .here (.one .here .nil))⟩⟩
  ·rintro n95 t m ⟨a93,h,hF⟩
   refine wc_fit hF ?_
   clear hF
   rcases n95 with _ | n95
   · exact none_i h
   have h:q5_Least_b1 k59 (q5_Least_l1 k59 n95) a93=some r:=h
   unfold q5_Least_b1 at h
   obtain ⟨k94,qk94⟩ : ∃ k,k=q5_Least_l1 k59 n95:=⟨_,rfl⟩
   try rw [← qk94] at h
   refine wc_seq<|wc_seq<|bH h fun z97 ez97 h=>wc_ops<|wj_q _ (q_ia rfl rfl (by decide))<|wj_q _ (iz ez97 (q_ld1 rfl (.there .here) rfl))<|wj_q _ (q_bin rfl rfl rfl)<|wj_nil<|wc_br h rfl (fun h=>?_) (fun h=>?_)
   ·refine wc_skip<|wc_block<|wc_seq<|bH h fun z100 ez100 h=>bH h fun z101 ez101 h=>bH h fun z102 ez102 h=>bH h fun z103 ez103 h=>bH h fun z104 ez104 h=>bH h fun l105 el105 h=>wc_ops<|wj_q _ (q_ia rfl rfl (by decide))<|wj_q _ (iz ez100 (q_ld1 rfl (.there .here) rfl))<|wj_q _ (q_ia rfl rfl (by decide))<|wj_q _ (iz ez101 (q_ld1 rfl (.there .here) rfl))<|wj_q _ (iz ez102 (q_shr rfl rfl (by decide)))<|wj_q _ (iz ez103 (q_bin rfl rfl rfl))<|wj_q _ (iz ez104 (q_bin rfl rfl rfl))<|wj_q _ (q_ia rfl rfl (by decide))<|wj_e (ef_st1z (q:=[.ints .u64 10 (l105)]) (congrArg (fun z=>([.ints .u64 10 (z)]:List Seg)) el105.symm) rfl rfl rfl rfl (.there .here)<|wj_nil<|wc_seq<|bH h fun z107 ez107 h=>bH h fun z108 ez108 h=>bH h fun l109 el109 h=>wc_ops<|wj_q _ (q_ia rfl rfl (by decide))<|wj_q _ (iz ez107 (q_ld1 rfl (.there .here) rfl))<|wj_q _ (iz ez108 (q_bin rfl rfl rfl))<|wj_q _ (q_ia rfl rfl (by decide))<|wj_e (ef_st1z (q:=[.ints .u64 10 (l109)]) (congrArg (fun z=>([.ints .u64 10 (z)]:List Seg)) el109.symm) rfl rfl rfl rfl (.there .here)<|wj_nil<|oH h fun y111 ey111 h=>wc_ops<|wj_q _ (q_ld (p:=[.ints .u64 10 (l109)]) rfl (.there .here) rfl)<|wj_q _ (q_cl rfl (q5_carried_spec ey111))<|wj_e (ef_st (q:=[.ints .u64 10 (y111)]) rfl rfl rfl rfl rfl (.there .here)<|wj_nil ?_)))
    rw [qk94] at h
    exact ⟨n95,Nat.lt_succ_self _,y111,h,⟨⟨rfl,rfl,trivial⟩,(.one .here (.one .here .nil))⟩⟩
   ·exact wc_exit _ rfl<|⟨a93,h,⟨⟨rfl,rfl,trivial⟩,(.one .here (.one .here .nil))⟩⟩
 ·rintro t m ⟨a58,h,hF⟩
  refine wc_fit hF ?_
  clear hF
  subst qk59
  refine wc_seq<|oH h fun y113 ey113 h=>wc_ops<|wj_q _ (q_cl rfl (q5_prime_spec ey113))<|wj_e (ef_al fun b114 hb114=>wj_e (ef_st (q:=[.ints .u64 10 (y113)]) rfl rfl rfl rfl rfl .here<|wj_nil<|wc_seq<|wc_seq<|oH h fun y116 ey116 h=>wc_ops<|wj_q _ (q_ld (p:=[.ints .u64 10 (a58)]) rfl (.there (.there .here)) rfl)<|wj_q _ (q_ld (p:=[.ints .u64 10 (y113)]) rfl .here rfl)<|wj_q _ (q_cl rfl (q5_below_spec ey116))<|wj_q _ (q_un rfl rfl)<|wj_nil<|jH h fun k121 qk121 h=>wc_mono2 (G:=fun t m=>∃ (a120:List Int),k121 a120=some r∧Fit [(1,.pointer (some ⟨b2,0,none⟩)),(2,.pointer (some ⟨b3,0,none⟩))] (ck b114 88 [.ints .u64 10 (y113)]::(ck b3 88 [.ints .u64 10 ((List.replicate 10 0))]::(ck b2 88 [.ints .u64 10 (a120)] :: []))) t m) ?_ ?_))
  ·refine wc_br h rfl (fun h=>?_) (fun h=>?_)
   ·exact oH h fun y124 ey124 h=>wc_ops<|wj_q _ (q_ld (p:=[.ints .u64 10 (a58)]) rfl (.there (.there .here)) rfl)<|wj_q _ (q_ld (p:=[.ints .u64 10 (y113)]) rfl .here rfl)<|wj_q _ (q_cl rfl (q5_lessened_spec ey124))<|wj_e (ef_st (q:=[.ints .u64 10 (y124)]) rfl rfl rfl rfl rfl (.there (.there .here))<|wj_nil<|⟨y124,h,⟨⟨rfl,rfl,trivial⟩,(.one .here (.one .here (.one .here .nil)))⟩⟩)
   ·exact wc_skip<|⟨a58,h,⟨⟨rfl,rfl,trivial⟩,(.one .here (.one .here (.one .here .nil)))⟩⟩
  ·rintro t m ⟨a120,h,hF⟩
   refine wc_fit hF ?_
   clear hF
   subst qk121
   refine wc_seq<|wc_ops<|wj_q _ (q_ld (p:=[.ints .u64 10 (a120)]) rfl (.there (.there .here)) rfl)<|wj_e (ef_st (q:=[.ints .u64 10 (a120)]) rfl rfl rfl rfl rfl (.there .here)<|wj_nil<|wc_ret ?_)
   revert h; refine ret_i fun h=>?_
   subst h
   exact ⟨_,(.cons (.agg rfl (.there .here) rfl) .nil),rfl⟩
end Go.Proofs.YtiflckckekjbnaaGreatDoor
