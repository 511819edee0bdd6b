/- Texts of a proof, one behind the other: L13 L14 L15 LZ F0 F1 F2 F3 F4 F5 F6 C1 C2 C3 G1 G2 V1 N1 N2 N3 N7 N8 N9 N10 N11 N12 H1 H2. -/
import Derived.Test.YtiflckckekjbnaaGreatDoorMS5
import Derived.KernelRfl
namespace Go.Proofs.YtiflckckekjbnaaGreatDoor
open Go Go.Sx Go.RowKit
set_option linter.all false
set_option maxHeartbeats 400000
set_option maxRecDepth 100000
def q6_Product_b2 (p0:List Int) (p1:List Int) (i965:Int) (k1062:(List (Int))→(Int)→OL) (k1122:(List (Int))→(Int)→(Int)→OL) (l1118:List (Int)) (i1120:Int) (i1121:Int):OL :=
 br ((decide (i1121<(p1.length:Int)))) (
 bnd (IntKind.wrap .i64 (i965+i1121)) fun z1127 =>
 chk (inB z1127 l1118.length) <|
 chk (inB i965 p0.length) <|
 chk (inB i1121 p1.length) <|
 bnd (l1118.getD (z1127).toNat 0) fun z1131 =>
 bnd (p0.getD (i965).toNat 0) fun z1132 =>
 bnd (p1.getD (i1121).toNat 0) fun z1133 =>
 bnd (IntKind.wrap .i64 (z1132*z1133)) fun z1134 =>
 bnd (IntKind.wrap .i64 (z1131+z1134)) fun z1135 =>
 bnd (IntKind.wrap .i64 (z1135+i1120)) fun z1136 =>
 bnd (IntKind.wrap .i64 (i965+i1121)) fun z1138 =>
 bnd (Int.tmod z1136 256) fun z1139 =>
 chk (inB z1138 l1118.length) <|
 bnd (setG 0 l1118 (z1138).toNat z1139) fun l1141 =>
 bnd (IntKind.wrap .i64 (Int.tdiv z1136 256)) fun z1145 =>
 bnd (IntKind.wrap .i64 (i1121+1)) fun z1147 =>
 k1122 l1141 z1145 z1147
 ) (
 k1062 l1118 i1120
 )
def q6_Product_l2 (p0:List Int) (p1:List Int) (i965:Int) (k1062:(List (Int))→(Int)→OL):Nat→(List (Int))→(Int)→(Int)→OL
  | 0,_,_,_=>none
  | n+1,l1118,i1120,i1121=>q6_Product_b2 p0 p1 i965 k1062 (q6_Product_l2 p0 p1 i965 k1062 n) l1118 i1120 i1121
def q6_Product_b1 (p0:List Int) (p1:List Int) (k584:(List (Int))→OL) (k966:(List (Int))→(Int)→OL) (l963:List (Int)) (i965:Int):OL :=
 br ((decide (i965<(p0.length:Int)))) (
 jn (fun (l1059:List (Int)) (i1061:Int)=>bnd (IntKind.wrap .i64 (i965+(p1.length:Int))) fun z1149 =>
 chk (inB z1149 l1059.length) <|
 bnd (setG 0 l1059 (z1149).toNat i1061) fun l1151 =>
 bnd (IntKind.wrap .i64 (i965+1)) fun z1155 =>
 k966 l1151 z1155) fun k1062=>q6_Product_l2 p0 p1 i965 k1062 big l963 0 0
 ) (
 k584 l963
 )
def q6_Product_l1 (p0:List Int) (p1:List Int) (k584:(List (Int))→OL):Nat→(List (Int))→(Int)→OL
  | 0,_,_=>none
  | n+1,l963,i965=>q6_Product_b1 p0 p1 k584 (q6_Product_l1 p0 p1 k584 n) l963 i965
def q6_Product (p0:List Int) (p1:List Int):OL :=
 bnd (IntKind.wrap .i64 ((p0.length:Int)+(p1.length:Int))) fun z3 =>
 chk (mkB 8 z3 z3) <|
 jn (fun (l582:List (Int))=>some l582) fun k584=>q6_Product_l1 p0 p1 k584 big (List.replicate (z3).toNat 0:List (Int)) 0
theorem q6_Product_spec {W:World} {r:(List Int)} {p0:List Int} {p1:List Int} {v0:Value} {v1:Value} (h:q6_Product p0 p1=some r) (A0:RdSl (El.int .i64) W v0 p0) (A1:RdSl (El.int .i64) W v1 p1) :
    Calls Tryz.prog 116 [v0,v1].toArray W (retS W [] (fun v Ms=>∃ (u0:Value) (M0:List Chunk),v=u0∧Ms = [.all M0]∧OwnSl (El.int .i64) u0 M0 r)):=by
 unfold q6_Product at h
 refine calls_memT mo ok116 rfl (sat0 _) ?_
 refine wc_seq<|wc_ops<|wj_m rfl<|wj_nil<|wc_seq<|bH h fun z3 ez3 h=>cH h fun c4 h=>wc_ops<|wj_m rfl<|wj_q _ (q_lenP rfl (Shp.rd A0))<|wj_m rfl<|wj_q _ (q_lenP rfl (Shp.rd A1))<|wj_q _ (iz ez3 (q_bin rfl rfl rfl))<|wj_e (ef_mksO (E:=(El.int .i64)) rfl rfl rfl c4 fun v5 ms6 O7=>wj_m rfl<|wj_nil<|wc_seq<|wc_seq<|wc_ops<|wj_m rfl<|wj_nil<|jH h fun k584 qk584 h=>wc_mono2 (G:=fun t m=>∃ (l582:List (Int)) (v580:Value) (ms581:List Chunk),k584 l582=some r∧OwnSl (El.int .i64) v580 ms581 l582∧Fit [(5,v580)] (ms581 ++ []) t m) ?_ ?_)
 ·refine wc_block<|wc_loopJ (fun n967 t m=>∃ (l963:List (Int)) (i965:Int) (v961:Value) (ms962:List Chunk),q6_Product_l1 p0 p1 k584 n967 l963 i965=some r∧OwnSl (El.int .i64) v961 ms962 l963∧Fit [(0,v0),(1,v1),(5,v961),(6,.int .i64 (i965))] (ms962 ++ []) t m) big ?_ ?_
  ·exact ⟨(List.replicate (z3).toNat 0:List (Int)),0,v5,ms6,h,O7,⟨⟨rfl,rfl,rfl,rfl,trivial⟩,(.all .here .nil)⟩⟩
  ·rintro n967 t m ⟨l963,i965,v961,ms962,h,O964,hF⟩
   refine wc_fit hF ?_
   clear hF
   rcases n967 with _ | n967
   · exact none_i h
   have h:q6_Product_b1 p0 p1 k584 (q6_Product_l1 p0 p1 k584 n967) l963 i965=some r:=h
   unfold q6_Product_b1 at h
   obtain ⟨k966,qk966⟩ : ∃ k,k=q6_Product_l1 p0 p1 k584 n967:=⟨_,rfl⟩
   try rw [← qk966] at h
   refine wc_seq<|wc_seq<|wc_ops<|wj_m rfl<|wj_m rfl<|wj_q _ (q_lenP rfl (Shp.rd A0))<|wj_q _ (q_bin rfl rfl rfl)<|wj_nil<|wc_br h rfl (fun h=>?_) (fun h=>?_)
   ·refine wc_skip<|wc_seq<|wc_block<|wc_seq<|wc_ops<|wj_m rfl<|wj_nil<|wc_seq<|wc_seq<|wc_ops<|wj_m rfl<|wj_nil<|jH h fun k1062 qk1062 h=>wc_mono2 (G:=fun t m=>∃ (l1059:List (Int)) (i1061:Int) (v1057:Value) (ms1058:List Chunk),k1062 l1059 i1061=some r∧OwnSl (El.int .i64) v1057 ms1058 l1059∧Fit [(0,v0),(1,v1),(5,v1057),(6,.int .i64 (i965)),(7,.int .i64 (i1061))] (ms1058 ++ []) t m) ?_ ?_
    ·refine wc_block<|wc_loopJ (fun n1123 t m=>∃ (l1118:List (Int)) (i1120:Int) (i1121:Int) (v1116:Value) (ms1117:List Chunk),q6_Product_l2 p0 p1 i965 k1062 n1123 l1118 i1120 i1121=some r∧OwnSl (El.int .i64) v1116 ms1117 l1118∧Fit [(0,v0),(1,v1),(5,v1116),(6,.int .i64 (i965)),(7,.int .i64 (i1120)),(8,.int .i64 (i1121))] (ms1117 ++ []) t m) big ?_ ?_
     ·exact ⟨l963,0,0,v961,ms962,h,O964,⟨⟨rfl,rfl,rfl,rfl,rfl,rfl,trivial⟩,(.all .here .nil)⟩⟩
     ·rintro n1123 t m ⟨l1118,i1120,i1121,v1116,ms1117,h,O1119,hF⟩
      refine wc_fit hF ?_
      clear hF
      rcases n1123 with _ | n1123
      · exact none_i h
      have h:q6_Product_b2 p0 p1 i965 k1062 (q6_Product_l2 p0 p1 i965 k1062 n1123) l1118 i1120 i1121=some r:=h
      unfold q6_Product_b2 at h
      obtain ⟨k1122,qk1122⟩ : ∃ k,k=q6_Product_l2 p0 p1 i965 k1062 n1123:=⟨_,rfl⟩
      try rw [← qk1122] at h
      refine wc_seq<|wc_seq<|wc_ops<|wj_m rfl<|wj_m rfl<|wj_q _ (q_lenP rfl (Shp.rd A1))<|wj_q _ (q_bin rfl rfl rfl)<|wj_nil<|wc_br h rfl (fun h=>?_) (fun h=>?_)
      ·refine wc_skip<|wc_seq<|wc_block<|wc_seq<|bH h fun z1127 ez1127 h=>cH h fun c1128 h=>cH h fun c1129 h=>cH h fun c1130 h=>bH h fun z1131 ez1131 h=>bH h fun z1132 ez1132 h=>bH h fun z1133 ez1133 h=>bH h fun z1134 ez1134 h=>bH h fun z1135 ez1135 h=>bH h fun z1136 ez1136 h=>wc_draw<|ws_p1 _ (q_mv rfl)<|ws_p1 _ (q_mv rfl)<|ws_p1 _ (q_mv rfl)<|ws_p1 _ (iz ez1127 (q_bin rfl rfl rfl))<|ws_p1 _ (q_iasP rfl rfl (Shp.own O1119) c1128)<|ws_p1 _ (q_mv rfl)<|ws_p1 _ (q_mv rfl)<|ws_p1 _ (q_iasP rfl rfl (Shp.rd A0) c1129)<|ws_p1 _ (q_mv rfl)<|ws_p1 _ (q_mv rfl)<|ws_p1 _ (q_iasP rfl rfl (Shp.rd A1) c1130)<|ws_p1 _ (q_mv rfl)<|ws_q1 _ (iz ez1131 (q_ldM10 (E:=(El.int .i64)) (s:=[.one (.int .i64 (l1118.getD (z1127).toNat 0))]) rfl (rd_own O1119 .here) (inB_n c1128) rfl rfl))<|ws_q1 _ (iz ez1132 (q_ldM10 (E:=(El.int .i64)) (s:=[.one (.int .i64 (p0.getD (i965).toNat 0))]) rfl (rd_arg A0 apart0) (inB_n c1129) rfl rfl))<|ws_q1 _ (iz ez1133 (q_ldM10 (E:=(El.int .i64)) (s:=[.one (.int .i64 (p1.getD (i1121).toNat 0))]) rfl (rd_arg A1 apart0) (inB_n c1130) rfl rfl))<|ws_p1 _ (iz ez1134 (q_bin rfl rfl rfl))<|ws_p1 _ (iz ez1135 (q_bin rfl rfl rfl))<|ws_p1 _ (iz ez1136 (q_bin rfl rfl rfl))<|ws_p1 _ (q_mv rfl)<|ws_nil<|wc_seq<|bH h fun z1138 ez1138 h=>bH h fun z1139 ez1139 h=>cH h fun c1140 h=>bH h fun l1141 el1141 h=>wc_ops<|wj_m rfl<|wj_m rfl<|wj_m rfl<|wj_q _ (iz ez1138 (q_bin rfl rfl rfl))<|wj_m rfl<|wj_q _ (iz ez1139 (q_rem rfl rfl (by decide)))<|wj_q _ (q_iasP rfl rfl (Shp.own O1119) c1140)<|wj_e (ef_stO (E:=(El.int .i64)) el1141 O1119 .here rfl rfl rfl (inB_n c1140) fun ms1142 O1143=>wj_nil<|bH h fun z1145 ez1145 h=>wc_ops<|wj_m rfl<|wj_q _ (iz ez1145 (q_quo rfl rfl (by decide)))<|wj_m rfl<|wj_nil<|bH h fun z1147 ez1147 h=>wc_ops<|wj_m rfl<|wj_q _ (iz ez1147 (q_bin rfl rfl rfl))<|wj_m rfl<|wj_nil ?_)
       rw [qk1122] at h
       exact ⟨n1123,Nat.lt_succ_self _,l1141,z1145,z1147,v1116,ms1142,h,O1143,⟨⟨rfl,rfl,rfl,rfl,rfl,rfl,trivial⟩,(.all .here .nil)⟩⟩
      ·exact wc_exit _ rfl<|⟨l1118,i1120,v1116,ms1117,h,O1119,⟨⟨rfl,rfl,rfl,rfl,rfl,trivial⟩,(.all .here .nil)⟩⟩
    ·rintro t m ⟨l1059,i1061,v1057,ms1058,h,O1060,hF⟩
     refine wc_fit hF ?_
     clear hF
     subst qk1062
     refine bH h fun z1149 ez1149 h=>cH h fun c1150 h=>bH h fun l1151 el1151 h=>wc_ops<|wj_m rfl<|wj_m rfl<|wj_m rfl<|wj_q _ (q_lenP rfl (Shp.rd A1))<|wj_q _ (iz ez1149 (q_bin rfl rfl rfl))<|wj_m rfl<|wj_q _ (q_iasP rfl rfl (Shp.own O1060) c1150)<|wj_e (ef_stO (E:=(El.int .i64)) el1151 O1060 .here rfl rfl rfl (inB_n c1150) fun ms1152 O1153=>wj_nil<|bH h fun z1155 ez1155 h=>wc_ops<|wj_m rfl<|wj_q _ (iz ez1155 (q_bin rfl rfl rfl))<|wj_m rfl<|wj_nil ?_)
     rw [qk966] at h
     exact ⟨n967,Nat.lt_succ_self _,l1151,z1155,v1057,ms1152,h,O1153,⟨⟨rfl,rfl,rfl,rfl,trivial⟩,(.all .here .nil)⟩⟩
   ·exact wc_exit _ rfl<|⟨l963,v961,ms962,h,O964,⟨⟨rfl,trivial⟩,(.all .here .nil)⟩⟩
 ·rintro t m ⟨l582,v580,ms581,h,O583,hF⟩
  refine wc_fit hF ?_
  clear hF
  subst qk584
  refine wc_seq<|wc_ops<|wj_m rfl<|wj_m rfl<|wj_nil<|wc_ret ?_
  revert h; refine ret_i fun h=>?_
  subst h
  exact ⟨_,_,(.cons (.tmp rfl) .nil),(.all .here .nil),⟨_,rfl,⟨v580,ms581,rfl,rfl,O583⟩⟩⟩
def q6_MulAdd (p0:List Int) (p1:List Int) (p2:List Int):OL :=
 opt (q6_Of (tk p0 0 32)) fun y7 =>
 opt (q6_Of (tk p1 0 32)) fun y13 =>
 opt (q6_Product y7 y13) fun y19 =>
 opt (q6_Of (tk p2 0 32)) fun y25 =>
 opt (q6_Sum y19 y25) fun y31 =>
 opt (q6_Mod y31) fun y37 =>
 opt (q6_Tell y37) fun y43 =>
 some y43
theorem q6_MulAdd_spec {W:World} {r:(List Int)} {p0:List Int} {p1:List Int} {p2:List Int} (h:q6_MulAdd p0 p1 p2=some r)  :
    Calls Tryz.prog 61 [agg [.ints .u8 32 (p0)],agg [.ints .u8 32 (p1)],agg [.ints .u8 32 (p2)]].toArray W (ret1 W (agg [.ints .u8 32 (r)])):=by
 unfold q6_MulAdd at h
 refine calls_val mo ok61 rfl ?_
 refine wc_seq<|wc_ops<|wj_e (ef_bx (s:=[.ints .u8 32 (p0)]) rfl fun b2 hb2=>wj_e (ef_bx (s:=[.ints .u8 32 (p1)]) rfl fun b3 hb3=>wj_e (ef_bx (s:=[.ints .u8 32 (p2)]) rfl fun b4 hb4=>wj_e (ef_al fun b5 hb5=>wj_nil<|wc_seq<|oH h fun y7 ey7 h=>oH h fun y13 ey13 h=>oH h fun y19 ey19 h=>oH h fun y25 ey25 h=>oH h fun y31 ey31 h=>oH h fun y37 ey37 h=>oH h fun y43 ey43 h=>wc_draw<|ws_p1 _ (q_sla rfl .no .no .no (by simp) (by decide))<|ws_p1 _ (q_sla rfl .no .no .no (by simp) (by decide))<|ws_p1 _ (q_sla rfl .no .no .no (by simp) (by decide))<|ws_e1 (ef_callS0 rfl (fun w hw=>q6_Of_spec  ey7 ((rd_blk_i (s:=[.ints .u8 32 (p0)]) (N:=32) (k:=.u8) (base:=0) (lo:=0) (hi:=32) (mz:=32) (.there (.there (.there .here))) rfl (by decide)) w hw)) fun v8 Msv8 R9=>?_)))))
 obtain ⟨_,ms11,rfl,rfl,O12⟩:=R9
 refine ⟨(by repeat (first | exact Sup.refl _ | apply Sup.cons | apply Sup.app)),ws_e1 (ef_callS0 rfl (fun w hw=>q6_Of_spec  ey13 ((rd_blk_i (s:=[.ints .u8 32 (p1)]) (N:=32) (k:=.u8) (base:=0) (lo:=0) (hi:=32) (mz:=32) (.app (.there (.there .here))) rfl (by decide)) w hw)) fun v14 Msv14 R15=>?_)⟩
 obtain ⟨_,ms17,rfl,rfl,O18⟩:=R15
 refine ⟨(by repeat (first | exact Sup.refl _ | apply Sup.cons | apply Sup.app)),ws_e1 (ef_callS0 rfl (fun w hw=>q6_Product_spec  ey19 ((rd_own O12 (.app .here)) w hw) ((rd_own O18 .here) w hw)) fun v20 Msv20 R21=>?_)⟩
 obtain ⟨_,ms23,rfl,rfl,O24⟩:=R21
 refine ⟨(by repeat (first | exact Sup.refl _ | apply Sup.cons | apply Sup.app)),ws_e1 (ef_callS0 rfl (fun w hw=>q6_Of_spec  ey25 ((rd_blk_i (s:=[.ints .u8 32 (p2)]) (N:=32) (k:=.u8) (base:=0) (lo:=0) (hi:=32) (mz:=32) (.app (.app (.app (.there .here)))) rfl (by decide)) w hw)) fun v26 Msv26 R27=>?_)⟩
 obtain ⟨_,ms29,rfl,rfl,O30⟩:=R27
 refine ⟨(by repeat (first | exact Sup.refl _ | apply Sup.cons | apply Sup.app)),ws_e1 (ef_callS0 rfl (fun w hw=>q6_Sum_spec  ey31 ((rd_own O24 (.app .here)) w hw) ((rd_own O30 .here) w hw)) fun v32 Msv32 R33=>?_)⟩
 obtain ⟨_,ms35,rfl,rfl,O36⟩:=R33
 refine ⟨(by repeat (first | exact Sup.refl _ | apply Sup.cons | apply Sup.app)),ws_e1 (ef_callS0 rfl (fun w hw=>q6_Mod_spec  ey37 ((rd_own O36 .here) w hw)) fun v38 Msv38 R39=>?_)⟩
 obtain ⟨_,ms41,rfl,rfl,O42⟩:=R39
 refine ⟨(by repeat (first | exact Sup.refl _ | apply Sup.cons | apply Sup.app)),ws_eq _ (q_call rfl (fun w hw=>q6_Tell_spec ey43 ((rd_own O42 .here) w hw))) (ws_eL rfl (ef_st (q:=[.ints .u8 32 (y43)]) rfl rfl rfl rfl rfl (.app (.app (.app (.app (.app (.app .here)))))) (ws_nil (wc_ret ?_)))) (by repeat (first | exact Sup.refl _ | apply Sup.cons | apply Sup.app))⟩
 revert h; refine ret_i fun h=>?_
 subst h
 exact ⟨_,(.cons (.agg rfl (.app (.app (.app (.app (.app (.app .here)))))) rfl) .nil),rfl⟩
def q8_Sign_b1 (y26:(List Int)) (y52:(List Int)) (k102:(List Int)→OL) (k130:(Int)→(List Int)→OL) (i128:Int) (a129:List Int):OL :=
 br ((decide (i128<32))) (
 chk (inB i128 32) <|
 bnd (y26.getD (i128).toNat 0) fun z136 =>
 chk (inB i128 64) <|
 bnd (setD a129 (i128).toNat z136) fun l138 =>
 bnd (IntKind.wrap .i64 (32+i128)) fun z140 =>
 chk (inB i128 32) <|
 bnd (y52.getD (i128).toNat 0) fun z142 =>
 chk (inB z140 64) <|
 bnd (setD l138 (z140).toNat z142) fun l144 =>
 bnd (IntKind.wrap .i64 (i128+1)) fun z146 =>
 k130 z146 l144
 ) (
 k102 a129
 )
def q8_Sign_l1 (y26:(List Int)) (y52:(List Int)) (k102:(List Int)→OL):Nat→(Int)→(List Int)→OL
  | 0,_,_=>none
  | n+1,i128,a129=>q8_Sign_b1 y26 y52 k102 (q8_Sign_l1 y26 y52 k102 n) i128 a129
def q8_Sign (p0:List Int) (p1:List Int):OL :=
 opt (q8_multiplier p0) fun y5 =>
 opt (q8_Public p0) fun y8 =>
 opt (q3_Sum (tk p0 0 32)) fun y11 =>
 opt (q8_half y11 true) fun y12 =>
 opt (q8_joined (tk y12 0 32) p1 []) fun y15 =>
 opt (q3_Sum y15) fun y21 =>
 opt (q6_Reduce y21) fun y22 =>
 opt (q7_MulBase y22) fun y25 =>
 opt (q7_Encode y25) fun y26 =>
 jn (fun (a39:List Int)=>opt (q6_MulAdd a39 y5 y22) fun y52 =>
 jn (fun (a101:List Int)=>some a101) fun k102=>q8_Sign_l1 y26 y52 k102 big 0 (List.replicate 64 0)) fun k40=>opt (q8_joined (tk y26 0 32) (tk y8 0 32) p1) fun y42 =>
 opt (q3_Sum y42) fun y48 =>
 opt (q6_Reduce y48) fun y49 =>
 k40 y49
theorem q8_Sign_spec {W:World} {r:(List Int)} {p0:List Int} {p1:List Int} {v1:Value} (h:q8_Sign p0 p1=some r) (hG:Globs W) (A1:RdSl (El.int .u8) W v1 p1) :
    Calls Tryz.prog 14 [agg [.ints .u8 32 (p0)],v1].toArray W (ret1 W (agg [.ints .u8 64 (r)])):=by
 unfold q8_Sign at h
 refine calls_val mo ok14 rfl ?_
 refine wc_seq<|wc_ops<|wj_e (ef_bx (s:=[.ints .u8 32 (p0)]) rfl fun b2 hb2=>wj_e (ef_al fun b3 hb3=>wj_nil<|wc_seq<|oH h fun y5 ey5 h=>wc_ops<|wj_q _ (q_ld (p:=[.ints .u8 32 (p0)]) rfl (.there .here) rfl)<|wj_q _ (q_call rfl (fun w hw=>q8_multiplier_spec ey5 (hG.at hw (by simp))))<|wj_e (ef_al fun b6 hb6=>wj_e (ef_st (q:=[.ints .u8 32 (y5)]) rfl rfl rfl rfl rfl .here<|wj_nil<|wc_seq<|oH h fun y8 ey8 h=>wc_ops<|wj_q _ (q_ld (p:=[.ints .u8 32 (p0)]) rfl (.there (.there .here)) rfl)<|wj_q _ (q_call rfl (fun w hw=>q8_Public_spec ey8 (hG.at hw (by simp))))<|wj_e (ef_al fun b9 hb9=>wj_e (ef_st (q:=[.ints .u8 32 (y8)]) rfl rfl rfl rfl rfl .here<|wj_nil<|wc_seq<|oH h fun y11 ey11 h=>oH h fun y12 ey12 h=>wc_ops<|wj_q _ (q_sla rfl .no .no .no (by simp) (by decide))<|wj_q _ (q_call rfl (fun w hw=>q3_Sum_spec ey11 (hG.at hw (by simp)) ((rd_blk_i (s:=[.ints .u8 32 (p0)]) (N:=32) (k:=.u8) (base:=0) (lo:=0) (hi:=32) (mz:=32) (.there (.there (.there .here))) rfl (by decide)) w hw)))<|wj_q _ (q_cl rfl (q8_half_spec ey12))<|wj_e (ef_al fun b13 hb13=>wj_e (ef_st (q:=[.ints .u8 32 (y12)]) rfl rfl rfl rfl rfl .here<|wj_nil<|wc_seq<|oH h fun y15 ey15 h=>oH h fun y21 ey21 h=>oH h fun y22 ey22 h=>wc_ops<|wj_q _ (q_sla rfl .no .no .no (by simp) (by decide))<|wj_m rfl<|wj_e (ef_callS0 rfl (fun w hw=>q8_joined_spec  ey15 ((rd_blk_i (s:=[.ints .u8 32 (y12)]) (N:=32) (k:=.u8) (base:=0) (lo:=0) (hi:=32) (mz:=32) .here rfl (by decide)) w hw) ((rd_arg A1 apart0) w hw) (rd_own0 w hw)) fun v16 Msv16 R17=>?_)))))))))
 obtain ⟨_,ms19,rfl,rfl,O20⟩:=R17
 refine wj_q _ (q_call rfl (fun w hw=>q3_Sum_spec ey21 (hG.at hw (by simp)) ((rd_own O20 .here) w hw)))<|wj_q _ (q_cl rfl (q6_Reduce_spec ey22))<|wj_e (ef_al fun b23 hb23=>wj_e (ef_st (q:=[.ints .u8 32 (y22)]) rfl rfl rfl rfl rfl .here<|wj_nil<|wc_seq<|oH h fun y25 ey25 h=>oH h fun y26 ey26 h=>wc_ops<|wj_q _ (q_ld (p:=[.ints .u8 32 (y22)]) rfl .here rfl)<|wj_q _ (q_cl rfl (q7_MulBase_spec ey25))<|wj_q _ (q_cl rfl (q7_Encode_spec ey26))<|wj_e (ef_al fun b27 hb27=>wj_e (ef_st (q:=[.ints .u8 32 (y26)]) rfl rfl rfl rfl rfl .here<|wj_nil<|wc_seq<|jH h fun k40 qk40 h=>wc_mono2 (G:=fun t m=>∃ (a39:List Int) (b38:Nat),k40 a39=some r∧Fit [(4,.pointer (some ⟨b3,0,none⟩)),(5,.pointer (some ⟨b6,0,none⟩)),(8,.pointer (some ⟨b23,0,none⟩)),(9,.pointer (some ⟨b27,0,none⟩)),(10,.pointer (some ⟨b38,0,none⟩))] (ck b38 74 [.ints .u8 32 (a39)]::(ck b27 29 [.ints .u8 32 (y26)]::(ck b23 74 [.ints .u8 32 (y22)]::(ck b13 22 [.ints .u8 32 (y12)]::(ck b9 29 [.ints .u8 32 (y8)]::(ck b6 74 [.ints .u8 32 (y5)]::(ck b3 27 [.ints .u8 64 ((List.replicate 64 0))]::(ck b2 23 [.ints .u8 32 (p0)] :: [])))))))) t m) ?_ ?_))))
 ·refine oH h fun y42 ey42 h=>oH h fun y48 ey48 h=>oH h fun y49 ey49 h=>wc_draw<|ws_p1 _ (q_sla rfl .no .no .no (by simp) (by decide))<|ws_p1 _ (q_sla rfl .no .no .no (by simp) (by decide))<|ws_p1 _ (q_mv rfl)<|ws_two (ef_callS0 rfl (fun w hw=>q8_joined_spec  ey42 ((rd_blk_i (s:=[.ints .u8 32 (y26)]) (N:=32) (k:=.u8) (base:=0) (lo:=0) (hi:=32) (mz:=32) .here rfl (by decide)) w hw) ((rd_blk_i (s:=[.ints .u8 32 (y8)]) (N:=32) (k:=.u8) (base:=0) (lo:=0) (hi:=32) (mz:=32) (.there (.there (.app (.there .here)))) rfl (by decide)) w hw) ((rd_arg A1 apart0) w hw)) fun v43 Msv43 R44=>?_) (ef_al fun b50 hb50=>?_)
  ·obtain ⟨_,ms46,rfl,rfl,O47⟩:=R44
   refine ⟨(by repeat (first | exact Sup.refl _ | apply Sup.cons | apply Sup.app)),ws_two (ef_q _ (q_call rfl (fun w hw=>q3_Sum_spec ey48 (hG.at hw (by simp)) ((rd_own O47 .here) w hw))) ⟨(by repeat (first | exact Sup.refl _ | apply Sup.cons | apply Sup.app)),?_⟩) (ef_al fun b50 hb50=>⟨(by repeat (first | exact Sup.refl _ | apply Sup.cons | apply Sup.app)),?_⟩)⟩
   ·exact ws_p1 _ (q_cl rfl (q6_Reduce_spec ey49))<|ws_e1 (ef_al fun b50 hb50=>⟨(by repeat (first | exact Sup.refl _ | apply Sup.cons | apply Sup.app)),ws_eL rfl (ef_st (q:=[.ints .u8 32 (y49)]) rfl rfl rfl rfl rfl .here (ws_nil (⟨y49,b50,h,⟨⟨rfl,rfl,rfl,rfl,rfl,trivial⟩,(.one .here (.one (.app .here) (.one (.app .here) (.one (.app (.app .here)) (.one (.app (.app .here)) (.one (.app (.app .here)) (.one (.app (.app .here)) (.one (.app (.app .here)) .nil))))))))⟩⟩)))⟩)
   ·exact ws_eq _ (q_call rfl (fun w hw=>q3_Sum_spec ey48 (hG.at hw (by simp)) ((rd_own O47 (.there .here)) w hw))) (ws_p1 _ (q_cl rfl (q6_Reduce_spec ey49)) (ws_eL rfl (ef_st (q:=[.ints .u8 32 (y49)]) rfl rfl rfl rfl rfl .here (ws_nil (⟨y49,b50,h,⟨⟨rfl,rfl,rfl,rfl,rfl,trivial⟩,(.one .here (.one (.app .here) (.one (.app .here) (.one (.app (.app .here)) (.one (.app (.app .here)) (.one (.app (.app .here)) (.one (.app (.app .here)) (.one (.app (.app .here)) .nil))))))))⟩⟩))))) (by repeat (first | exact Sup.refl _ | apply Sup.cons | apply Sup.app))
  ·refine ⟨(by repeat (first | exact Sup.refl _ | apply Sup.cons | apply Sup.app)),ws_e1 (ef_callS0 rfl (fun w hw=>q8_joined_spec  ey42 ((rd_blk_i (s:=[.ints .u8 32 (y26)]) (N:=32) (k:=.u8) (base:=0) (lo:=0) (hi:=32) (mz:=32) (.there .here) rfl (by decide)) w hw) ((rd_blk_i (s:=[.ints .u8 32 (y8)]) (N:=32) (k:=.u8) (base:=0) (lo:=0) (hi:=32) (mz:=32) (.there (.there (.there (.app (.there .here))))) rfl (by decide)) w hw) ((rd_arg A1 apart0) w hw)) fun v43 Msv43 R44=>?_)⟩
   obtain ⟨_,ms46,rfl,rfl,O47⟩:=R44
   exact ⟨(by repeat (first | exact Sup.refl _ | apply Sup.cons | apply Sup.app)),ws_eq _ (q_call rfl (fun w hw=>q3_Sum_spec ey48 (hG.at hw (by simp)) ((rd_own O47 .here) w hw))) (ws_p1 _ (q_cl rfl (q6_Reduce_spec ey49)) (ws_eL rfl (ef_st (q:=[.ints .u8 32 (y49)]) rfl rfl rfl rfl rfl (.app .here) (ws_nil (⟨y49,b50,h,⟨⟨rfl,rfl,rfl,rfl,rfl,trivial⟩,(.one (.app .here) (.one (.app .here) (.one (.app .here) (.one (.app (.app .here)) (.one (.app (.app .here)) (.one (.app (.app .here)) (.one (.app (.app .here)) (.one (.app (.app .here)) .nil))))))))⟩⟩))))) (by repeat (first | exact Sup.refl _ | apply Sup.cons | apply Sup.app))⟩
 ·rintro t m ⟨a39,b38,h,hF⟩
  refine wc_fit hF ?_
  clear hF
  subst qk40
  refine wc_seq<|oH h fun y52 ey52 h=>wc_ops<|wj_q _ (q_ld (p:=[.ints .u8 32 (a39)]) rfl .here rfl)<|wj_q _ (q_ld (p:=[.ints .u8 32 (y5)]) rfl (.there (.there (.there (.there (.there .here))))) rfl)<|wj_q _ (q_ld (p:=[.ints .u8 32 (y22)]) rfl (.there (.there .here)) rfl)<|wj_q _ (q_cl rfl (q6_MulAdd_spec ey52))<|wj_e (ef_al fun b53 hb53=>wj_e (ef_st (q:=[.ints .u8 32 (y52)]) rfl rfl rfl rfl rfl .here<|wj_nil<|wc_seq<|wc_ops<|wj_e (ef_al fun b55 hb55=>wj_nil<|wc_seq<|wc_seq<|wc_ops<|wj_m rfl<|wj_nil<|jH h fun k102 qk102 h=>wc_mono2 (G:=fun t m=>∃ (a101:List Int),k102 a101=some r∧Fit [(4,.pointer (some ⟨b3,0,none⟩)),(12,.pointer (some ⟨b55,0,none⟩))] (ck b55 27 [.ints .u8 64 (a101)]::(ck b53 74 [.ints .u8 32 (y52)]::(ck b38 74 [.ints .u8 32 (a39)]::(ck b27 29 [.ints .u8 32 (y26)]::(ck b23 74 [.ints .u8 32 (y22)]::(ck b13 22 [.ints .u8 32 (y12)]::(ck b9 29 [.ints .u8 32 (y8)]::(ck b6 74 [.ints .u8 32 (y5)]::(ck b3 27 [.ints .u8 64 ((List.replicate 64 0))]::(ck b2 23 [.ints .u8 32 (p0)] :: [])))))))))) t m) ?_ ?_)))
  ·refine wc_block<|wc_loopJ (fun n131 t m=>∃ (i128:Int) (a129:List Int),q8_Sign_l1 y26 y52 k102 n131 i128 a129=some r∧Fit [(4,.pointer (some ⟨b3,0,none⟩)),(9,.pointer (some ⟨b27,0,none⟩)),(11,.pointer (some ⟨b53,0,none⟩)),(12,.pointer (some ⟨b55,0,none⟩)),(13,.int .i64 (i128))] (ck b55 27 [.ints .u8 64 (a129)]::(ck b53 74 [.ints .u8 32 (y52)]::(ck b38 74 [.ints .u8 32 (a39)]::(ck b27 29 [.ints .u8 32 (y26)]::(ck b23 74 [.ints .u8 32 (y22)]::(ck b13 22 [.ints .u8 32 (y12)]::(ck b9 29 [.ints .u8 32 (y8)]::(ck b6 74 [.ints .u8 32 (y5)]::(ck b3 27 [.ints .u8 64 ((List.replicate 64 0))]::(ck b2 23 [.ints .u8 32 (p0)] :: [])))))))))) t m) big ?_ ?_
   ·exact ⟨0,(List.replicate 64 0),h,⟨⟨rfl,rfl,rfl,rfl,rfl,trivial⟩,(.one .here (.one .here (.one .here (.one .here (.one .here (.one .here (.one .here (.one .here (.one .here (.one .here .nil))))))))))⟩⟩
   ·rintro n131 t m ⟨i128,a129,h,hF⟩
    refine wc_fit hF ?_
    clear hF
    rcases n131 with _ | n131
    · exact none_i h
    have h:q8_Sign_b1 y26 y52 k102 (q8_Sign_l1 y26 y52 k102 n131) i128 a129=some r:=h
    unfold q8_Sign_b1 at h
    obtain ⟨k130,qk130⟩ : ∃ k,k=q8_Sign_l1 y26 y52 k102 n131:=⟨_,rfl⟩
    try rw [← qk130] at h
    refine wc_seq<|wc_seq<|wc_ops<|wj_m rfl<|wj_q _ (q_bin rfl rfl rfl)<|wj_nil<|wc_br h rfl (fun h=>?_) (fun h=>?_)
    ·refine wc_skip<|wc_seq<|wc_block<|wc_seq<|cH h fun c135 h=>bH h fun z136 ez136 h=>cH h fun c137 h=>bH h fun l138 el138 h=>wc_ops<|wj_m rfl<|wj_m rfl<|wj_q _ (q_ia rfl rfl (inB_z c135))<|wj_q _ (iz ez136 (q_ldi (base:=0) rfl (.there (.there (.there .here))) rfl (inB_n c135)))<|wj_q _ (q_ia rfl rfl (inB_z c137))<|wj_e (ef_stiz (q:=[.ints .u8 64 (l138)]) (base:=0) el138 rfl rfl rfl (inB_n c137) rfl .here<|wj_nil<|bH h fun z140 ez140 h=>cH h fun c141 h=>bH h fun z142 ez142 h=>cH h fun c143 h=>bH h fun l144 el144 h=>wc_ops<|wj_m rfl<|wj_q _ (iz ez140 (q_bin rfl rfl rfl))<|wj_m rfl<|wj_q _ (q_ia rfl rfl (inB_z c141))<|wj_q _ (iz ez142 (q_ldi (base:=0) rfl (.there .here) rfl (inB_n c141)))<|wj_q _ (q_ia rfl rfl (inB_z c143))<|wj_e (ef_stiz (q:=[.ints .u8 64 (l144)]) (base:=0) el144 rfl rfl rfl (inB_n c143) rfl .here<|wj_nil<|bH h fun z146 ez146 h=>wc_ops<|wj_m rfl<|wj_q _ (iz ez146 (q_bin rfl rfl rfl))<|wj_m rfl<|wj_nil ?_))
     rw [qk130] at h
     exact ⟨n131,Nat.lt_succ_self _,z146,l144,h,⟨⟨rfl,rfl,rfl,rfl,rfl,trivial⟩,(.one .here (.one .here (.one .here (.one .here (.one .here (.one .here (.one .here (.one .here (.one .here (.one .here .nil))))))))))⟩⟩
    ·exact wc_exit _ rfl<|⟨a129,h,⟨⟨rfl,rfl,trivial⟩,(.one .here (.one .here (.one .here (.one .here (.one .here (.one .here (.one .here (.one .here (.one .here (.one .here .nil))))))))))⟩⟩
  ·rintro t m ⟨a101,h,hF⟩
   refine wc_fit hF ?_
   clear hF
   subst qk102
   refine wc_seq<|wc_ops<|wj_q _ (q_ld (p:=[.ints .u8 64 (a101)]) rfl .here rfl)<|wj_e (ef_st (q:=[.ints .u8 64 (a101)]) rfl rfl rfl rfl rfl (.there (.there (.there (.there (.there (.there (.there (.there .here))))))))<|wj_nil<|wc_ret ?_)
   revert h; refine ret_i fun h=>?_
   subst h
   exact ⟨_,(.cons (.agg rfl (.there (.there (.there (.there (.there (.there (.there (.there .here)))))))) rfl) .nil),rfl⟩
def fareboxlaw08_left_b1 (p0:List Int) (p1:List Int) (z3:Int) (k42:Unit→Option (Bool)) (k66:(Int)→Option (Bool)) (i65:Int):Option (Bool) :=
 br ((decide (i65<(p1.length:Int)))) (
 chk (inB i65 (z3).toNat) <|
 chk (inB i65 p1.length) <|
 bnd (p0.getD (i65).toNat 0) fun z73 =>
 bnd (p1.getD (i65).toNat 0) fun z74 =>
 br ((z73 != z74)) (
 some false
 ) (
 bnd (IntKind.wrap .i64 (i65+1)) fun z78 =>
 k66 z78
 )
 ) (
 k42 ()
 )
def fareboxlaw08_left_l1 (p0:List Int) (p1:List Int) (z3:Int) (k42:Unit→Option (Bool)):Nat→(Int)→Option (Bool)
  | 0,_=>none
  | n+1,i65=>fareboxlaw08_left_b1 p0 p1 z3 k42 (fareboxlaw08_left_l1 p0 p1 z3 k42 n) i65
def fareboxlaw08_left_b2 (p0:List Int) (z3:Int) (k111:Unit→Option (Bool)) (k132:(Int)→Option (Bool)) (i131:Int):Option (Bool) :=
 br ((decide (i131<z3))) (
 chk (inB i131 (z3).toNat) <|
 bnd (p0.getD (i131).toNat 0) fun z138 =>
 br ((z138 != 165)) (
 some false
 ) (
 bnd (IntKind.wrap .i64 (i131+1)) fun z142 =>
 k132 z142
 )
 ) (
 k111 ()
 )
def fareboxlaw08_left_l2 (p0:List Int) (z3:Int) (k111:Unit→Option (Bool)):Nat→(Int)→Option (Bool)
  | 0,_=>none
  | n+1,i131=>fareboxlaw08_left_b2 p0 z3 k111 (fareboxlaw08_left_l2 p0 z3 k111 n) i131
def fareboxlaw08_left (p0:List Int) (n0:Int) (p1:List Int):Option (Bool) :=
 bnd (IntKind.wrap .i64 ((p1.length:Int)+130)) fun z3 =>
 chk (cutB 0 z3 p0.length) <|
 jn (fun (_:Unit)=>jn (fun (_:Unit)=>some true) fun k111=>fareboxlaw08_left_l2 p0 z3 k111 big (p1.length:Int)) fun k42=>fareboxlaw08_left_l1 p0 p1 z3 k42 big 0
theorem fareboxlaw08_left_spec {W:World} {r:Bool} {p0:List Int} {n0:Int} {p1:List Int} {v0:Value} {v1:Value} (h:fareboxlaw08_left p0 n0 p1=some r) (A0:RdSl (El.int .u8) W v0 p0) (N0:cutB 0 n0 p0.length=true) (A1:RdSl (El.int .u8) W v1 p1) :
    Calls Tryz.prog 15 [(cutSl 1 v0 0 (n0).toNat),v1].toArray W (ret1 W (.bool (r))):=by
 unfold fareboxlaw08_left at h
 refine calls_val mo ok15 rfl ?_
 refine wc_seq<|wc_ops<|wj_m rfl<|wj_nil<|wc_seq<|bH h fun z3 ez3 h=>cH h fun c4 h=>wc_ops<|wj_m rfl<|wj_m rfl<|wj_q _ (q_lenP rfl (Shp.rd A1))<|wj_q _ (iz ez3 (q_bin rfl rfl rfl))<|wj_q _ (q_slsU (lz:=0) (hz:=z3) rfl (Shp.rd A0) N0 .no (.yes rfl) c4)<|wj_m rfl<|wj_nil<|wc_seq<|wc_seq<|wc_ops<|wj_m rfl<|wj_nil<|jH h fun k42 qk42 h=>wc_mono2 (G:=fun t m=>k42 ()=some r∧Fit [(1,v1),(5,(cutSl 1 v0 0 (z3).toNat))] [] t m) ?_ ?_
 ·refine wc_block<|wc_loopJ (fun n67 t m=>∃ (i65:Int),fareboxlaw08_left_l1 p0 p1 z3 k42 n67 i65=some r∧Fit [(1,v1),(5,(cutSl 1 v0 0 (z3).toNat)),(6,.int .i64 (i65))] [] t m) big ?_ ?_
  ·exact ⟨0,h,⟨⟨rfl,rfl,rfl,trivial⟩,.nil⟩⟩
  ·rintro n67 t m ⟨i65,h,hF⟩
   refine wc_fit hF ?_
   clear hF
   rcases n67 with _ | n67
   · exact none_i h
   have h:fareboxlaw08_left_b1 p0 p1 z3 k42 (fareboxlaw08_left_l1 p0 p1 z3 k42 n67) i65=some r:=h
   unfold fareboxlaw08_left_b1 at h
   obtain ⟨k66,qk66⟩ : ∃ k,k=fareboxlaw08_left_l1 p0 p1 z3 k42 n67:=⟨_,rfl⟩
   try rw [← qk66] at h
   refine wc_seq<|wc_seq<|wc_ops<|wj_m rfl<|wj_m rfl<|wj_q _ (q_lenP rfl (Shp.rd A1))<|wj_q _ (q_bin rfl rfl rfl)<|wj_nil<|wc_br h rfl (fun h=>?_) (fun h=>?_)
   ·refine wc_skip<|wc_seq<|wc_block<|wc_seq<|cH h fun c71 h=>cH h fun c72 h=>bH h fun z73 ez73 h=>bH h fun z74 ez74 h=>wc_draw<|ws_p1 _ (q_mv rfl)<|ws_p1 _ (q_mv rfl)<|ws_p1 _ (q_iasU rfl rfl (Shp.rd A0) c4 c71)<|ws_p1 _ (q_mv rfl)<|ws_p1 _ (q_mv rfl)<|ws_p1 _ (q_iasP rfl rfl (Shp.rd A1) c72)<|ws_q1 _ (iz ez73 (q_ldM10 (E:=(El.int .u8)) (s:=[.one (.int .u8 (p0.getD (i65).toNat 0))]) rfl (rd_arg A0 apart0) (inB_n (inB_up c4 c71)) rfl rfl))<|ws_q1 _ (iz ez74 (q_ldM10 (E:=(El.int .u8)) (s:=[.one (.int .u8 (p1.getD (i65).toNat 0))]) rfl (rd_arg A1 apart0) (inB_n c72) rfl rfl))<|ws_p1 _ (q_bin rfl rfl rfl)<|ws_nil<|wc_br h rfl (fun h=>?_) (fun h=>?_)
    ·refine wc_seq<|wc_ops<|wj_m rfl<|wj_nil<|wc_ret ?_
     revert h; refine ret_i fun h=>?_
     subst h
     exact ⟨_,(.cons (.tmp rfl) .nil),rfl⟩
    ·refine wc_skip<|bH h fun z78 ez78 h=>wc_ops<|wj_m rfl<|wj_q _ (iz ez78 (q_bin rfl rfl rfl))<|wj_m rfl<|wj_nil ?_
     rw [qk66] at h
     exact ⟨n67,Nat.lt_succ_self _,z78,h,⟨⟨rfl,rfl,rfl,trivial⟩,.nil⟩⟩
   ·exact wc_exit _ rfl<|⟨h,⟨⟨rfl,rfl,trivial⟩,.nil⟩⟩
 ·rintro t m ⟨h,hF⟩
  refine wc_fit hF ?_
  clear hF
  subst qk42
  refine wc_seq<|wc_seq<|wc_ops<|wj_m rfl<|wj_q _ (q_lenP rfl (Shp.rd A1))<|wj_m rfl<|wj_nil<|jH h fun k111 qk111 h=>wc_mono2 (G:=fun t m=>k111 ()=some r∧Fit [] [] t m) ?_ ?_
  ·refine wc_block<|wc_loopJ (fun n133 t m=>∃ (i131:Int),fareboxlaw08_left_l2 p0 z3 k111 n133 i131=some r∧Fit [(5,(cutSl 1 v0 0 (z3).toNat)),(7,.int .i64 (i131))] [] t m) big ?_ ?_
   ·exact ⟨(p1.length:Int),h,⟨⟨rfl,rfl,trivial⟩,.nil⟩⟩
   ·rintro n133 t m ⟨i131,h,hF⟩
    refine wc_fit hF ?_
    clear hF
    rcases n133 with _ | n133
    · exact none_i h
    have h:fareboxlaw08_left_b2 p0 z3 k111 (fareboxlaw08_left_l2 p0 z3 k111 n133) i131=some r:=h
    unfold fareboxlaw08_left_b2 at h
    obtain ⟨k132,qk132⟩ : ∃ k,k=fareboxlaw08_left_l2 p0 z3 k111 n133:=⟨_,rfl⟩
    try rw [← qk132] at h
    refine wc_seq<|wc_seq<|wc_ops<|wj_m rfl<|wj_m rfl<|wj_q _ (q_lenU rfl (Shp.rd A0) c4)<|wj_q _ (q_bin rfl rfl rfl)<|wj_nil<|wc_br h rfl (fun h=>?_) (fun h=>?_)
    ·refine wc_skip<|wc_seq<|wc_block<|wc_seq<|cH h fun c137 h=>bH h fun z138 ez138 h=>wc_ops<|wj_m rfl<|wj_m rfl<|wj_q _ (q_iasU rfl rfl (Shp.rd A0) c4 c137)<|wj_q _ (iz ez138 (q_ldM10 (E:=(El.int .u8)) (s:=[.one (.int .u8 (p0.getD (i131).toNat 0))]) rfl (rd_arg A0 apart0) (inB_n (inB_up c4 c137)) rfl rfl))<|wj_q _ (q_bin rfl rfl rfl)<|wj_nil<|wc_br h rfl (fun h=>?_) (fun h=>?_)
     ·refine wc_seq<|wc_ops<|wj_m rfl<|wj_nil<|wc_ret ?_
      revert h; refine ret_i fun h=>?_
      subst h
      exact ⟨_,(.cons (.tmp rfl) .nil),rfl⟩
     ·refine wc_skip<|bH h fun z142 ez142 h=>wc_ops<|wj_m rfl<|wj_q _ (iz ez142 (q_bin rfl rfl rfl))<|wj_m rfl<|wj_nil ?_
      rw [qk132] at h
      exact ⟨n133,Nat.lt_succ_self _,z142,h,⟨⟨rfl,rfl,trivial⟩,.nil⟩⟩
    ·exact wc_exit _ rfl<|⟨h,⟨trivial,.nil⟩⟩
  ·rintro t m ⟨h,hF⟩
   refine wc_fit hF ?_
   clear hF
   subst qk111
   refine wc_seq<|wc_ops<|wj_m rfl<|wj_nil<|wc_ret ?_
   revert h; refine ret_i fun h=>?_
   subst h
   exact ⟨_,(.cons (.tmp rfl) .nil),rfl⟩
def fareboxlaw08_turned (p0:List Int) (n0:Int):Option ((List Int)×(List (Int))) :=
 jn (fun (l17:List (Int))=>chk (decide ((([]:List (Int)).length+(l17.take (n0).toNat).length)*1≤140737488355328)) <|
 bnd (([]:List (Int))++(l17.take (n0).toNat)) fun l37 =>
 some (l37,l17)) fun k20=>br ((decide (n0>0))) (
 chk (inB 0 (n0).toNat) <|
 bnd (p0.getD 0 0) fun z24 =>
 bnd (bitsV .xor .u8 z24 64) fun z25 =>
 chk (inB 0 (n0).toNat) <|
 bnd (setG 0 p0 0 z25) fun l27 =>
 chk (cutB 0 n0 l27.length) <|
 chk (cutB 0 n0 l27.length) <|
 chk (cutB 0 n0 l27.length) <|
 chk (cutB 0 n0 l27.length) <|
 k20 l27
 ) (
 k20 p0
 )
theorem fareboxlaw08_turned_spec {W:World} {r:(List Int)×(List (Int))} {p0:List Int} {n0:Int} {v0:Value} {M0:List Chunk} (h:fareboxlaw08_turned p0 n0=some r) (h0:Sat W (M0.map (·.b)) (M0 ++ []) W) (O0:OwnSl (El.int .u8) v0 M0 p0) (N0:cutB 0 n0 p0.length=true) :
    Calls Tryz.prog 16 [(cutSl 1 v0 0 (n0).toNat)].toArray W (retS W (M0.map (·.b)) (fun v Ms=>∃ (u0:Value) (M0:List Chunk) (X0:List Chunk),v=u0∧Ms = [.all M0,.all X0]∧OwnSl (El.int .u8) u0 M0 r.1∧OwnSl (El.int .u8) v0 X0 r.2)):=by
 unfold fareboxlaw08_turned at h
 refine calls_memT mo ok16 rfl h0 ?_
 refine wc_seq<|wc_ops<|wj_m rfl<|wj_nil<|wc_seq<|wc_seq<|wc_ops<|wj_m rfl<|wj_q _ (q_lenU rfl (Shp.own O0) N0)<|wj_q _ (q_bin rfl rfl rfl)<|wj_nil<|jH h fun k20 qk20 h=>wc_mono2 (G:=fun t m=>∃ (l17:List (Int)) (ms16:List Chunk),k20 l17=some r∧OwnSl (El.int .u8) v0 ms16 l17∧cutB 0 n0 l17.length=true∧Fit [(0,(cutSl 1 v0 0 (n0).toNat))] (ms16 ++ []) t m) ?_ ?_
 ·refine wc_br h rfl (fun h=>?_) (fun h=>?_)
  ·exact cH h fun c23 h=>bH h fun z24 ez24 h=>bH h fun z25 ez25 h=>cH h fun c26 h=>bH h fun l27 el27 h=>cH h fun c30 h=>cH h fun c31 h=>cH h fun c32 h=>cH h fun c33 h=>wc_ops<|wj_m rfl<|wj_m rfl<|wj_q _ (q_iasU rfl rfl (Shp.own O0) N0 c23)<|wj_q _ (iz ez24 (q_ldM10 (E:=(El.int .u8)) (s:=[.one (.int .u8 (p0.getD 0 0))]) rfl (rd_own O0 .here) (inB_n (inB_up N0 c23)) rfl rfl))<|wj_q _ (iz ez25 (q_bin rfl rfl rfl))<|wj_q _ (q_iasU rfl rfl (Shp.own O0) N0 c26)<|wj_e (ef_stO (E:=(El.int .u8)) el27 O0 .here rfl rfl rfl (inB_n (inB_up N0 c26)) fun ms28 O29=>wj_nil<|⟨l27,ms28,h,O29,c30,⟨⟨rfl,trivial⟩,(.all .here .nil)⟩⟩)
  ·exact wc_skip<|⟨p0,M0,h,O0,N0,⟨⟨rfl,trivial⟩,(.all .here .nil)⟩⟩
 ·rintro t m ⟨l17,ms16,h,O18,H19,hF⟩
  refine wc_fit hF ?_
  clear hF
  subst qk20
  refine wc_seq<|wc_ops<|wj_m rfl<|wj_nil<|wc_seq<|cH h fun c36 h=>bH h fun l37 el37 h=>wc_ops<|wj_m rfl<|wj_m rfl<|wj_e (ef_appO (E:=(El.int .u8)) el37 rfl own_nil .here rfl (rd_pre (rd_own O18 .here) H19) c36 fun v38 ms39 O40=>wj_m rfl<|wj_nil<|wc_ret ?_)
  revert h; refine ret_i fun h=>?_
  subst h
  exact ⟨_,_,(.cons (.tmp rfl) .nil),(.all .here (.all .here .nil)),⟨_,rfl,⟨v38,ms39,ms16,rfl,rfl,O40,O18⟩⟩⟩
def fareboxlaw08_SignSigns (p0:List Int) (p1:List Int):Option (Bool) :=
 opt (fareboxlaw08_marked p1) fun y4 =>
 opt (sign_Sign p0 (y4.1.take (y4.2).toNat)) fun y12 =>
 opt (sign_Public p0) fun y15 =>
 opt (q8_Public p0) fun y16 =>
 chk (imp (!(!(ieq 32 y15 y16))) ((q8_Sign p0 p1).isSome)) <|
 chk (imp (!((!(ieq 32 y15 y16))||(!(ieq 64 y12 ((q8_Sign p0 p1).getD (List.replicate 64 0)))))) ((fareboxlaw08_left y4.1 y4.2 p1).isSome)) <|
 br ((((!(ieq 32 y15 y16))||(!(ieq 64 y12 ((q8_Sign p0 p1).getD (List.replicate 64 0)))))||(!((fareboxlaw08_left y4.1 y4.2 p1).getD false)))) (
 some false
 ) (
 opt (fareboxlaw08_turned y4.1 y4.2) fun y22 =>
 chk (cutB 0 y4.2 y22.2.length) <|
 chk (cutB 0 y4.2 y22.2.length) <|
 chk (cutB 0 y4.2 y22.2.length) <|
 chk (cutB 0 y4.2 y22.2.length) <|
 opt (sign_Sign p0 (y22.2.take (y4.2).toNat)) fun y35 =>
 opt (q8_Sign p0 y22.1) fun y38 =>
 chk (imp (ieq 64 y35 y38) ((fareboxlaw08_left y22.2 y4.2 y22.1).isSome)) <|
 some ((ieq 64 y35 y38)&&((fareboxlaw08_left y22.2 y4.2 y22.1).getD false))
 )
theorem fareboxlaw08_SignSigns_spec {W:World} {r:Bool} {p0:List Int} {p1:List Int} {v1:Value} (h:fareboxlaw08_SignSigns p0 p1=some r) (hG:Globs W) (A1:RdSl (El.int .u8) W v1 p1) :
    Calls Tryz.prog 3 [agg [.ints .u8 32 (p0)],v1].toArray W (ret1 W (.bool (r))):=by
 unfold fareboxlaw08_SignSigns at h
 refine calls_val mo ok3 rfl ?_
 refine wc_seq<|wc_ops<|wj_e (ef_bx (s:=[.ints .u8 32 (p0)]) rfl fun b2 hb2=>wj_m rfl<|wj_nil<|wc_seq<|oH h fun y4 ey4 h=>wc_ops<|wj_m rfl<|wj_e (ef_callS0 rfl (fun w hw=>fareboxlaw08_marked_spec  ey4 ((rd_arg A1 apart0) w hw)) fun v5 Msv5 R6=>?_))
 obtain ⟨v7,ms8,rfl,rfl,O9,H10⟩:=R6
 refine wj_m rfl<|wj_nil<|wc_seq<|oH h fun y12 ey12 h=>wc_ops<|wj_q _ (q_ld (p:=[.ints .u8 32 (p0)]) rfl (.app .here) rfl)<|wj_m rfl<|wj_q _ (q_call rfl (fun w hw=>sign_Sign_spec ey12 (hG.at hw (by simp)) ((rd_pre (rd_own O9 .here) H10) w hw)))<|wj_e (ef_al fun b13 hb13=>wj_e (ef_st (q:=[.ints .u8 64 (y12)]) rfl rfl rfl rfl rfl .here<|wj_nil<|wc_seq<|wc_seq<|oH h fun y15 ey15 h=>oH h fun y16 ey16 h=>cH h fun c17 h=>cH h fun c18 h=>wc_draw<|ws_q1 _ (q_ld (p:=[.ints .u8 32 (p0)]) rfl (.there (.app .here)) rfl)<|ws_p1 _ (q_call rfl (fun w hw=>sign_Public_spec ey15 (hG.at hw (by simp))))<|ws_q1 _ (q_ld (p:=[.ints .u8 32 (p0)]) rfl (.there (.app .here)) rfl)<|ws_p1 _ (q_call rfl (fun w hw=>q8_Public_spec ey16 (hG.at hw (by simp))))<|ws_p1 _ (q_eqa rfl rfl rfl rfl _ (eqc_last eqc_ints))<|ws_p1 _ (q_mv rfl)<|ws_or rfl rfl rfl (fun hg1=>qj_g rfl _ (q_ld (p:=[.ints .u8 64 (y12)]) rfl .here rfl) (qj_g rfl _ (q_ld (p:=[.ints .u8 32 (p0)]) rfl (.there (.app .here)) rfl) (qj_g rfl _ (q_mv rfl) (qj_g rfl _ (q_call rfl (fun w hw=>q8_Sign_spec (getD_some (z:=(List.replicate 64 0)) (imp_f c17 hg1)) (hG.at hw (by simp)) ((rd_arg A1 apart0) w hw))) (qj_g rfl _ (q_eqa rfl rfl rfl rfl _ (eqc_last eqc_ints)) (qj_nil)))))) (fun hg1=>rfl) rfl<|ws_p1 _ (q_mv rfl)<|ws_or rfl rfl rfl (fun hg1=>qj_g rfl _ (q_mv rfl) (qj_g rfl _ (q_mv rfl) (qj_g rfl _ (q_call rfl (fun w hw=>fareboxlaw08_left_spec (getD_some (z:=false) (imp_f c18 hg1)) ((rd_own O9 (.there .here)) w hw) H10 ((rd_arg A1 apart0) w hw))) (qj_g rfl _ (q_un rfl rfl) (qj_nil))))) (fun hg1=>rfl) rfl<|ws_nil<|wc_br h rfl (fun h=>?_) (fun h=>?_)))
 ·refine wc_seq<|wc_ops<|wj_m rfl<|wj_nil<|wc_ret ?_
  revert h; refine ret_i fun h=>?_
  subst h
  exact ⟨_,(.cons (.tmp rfl) .nil),rfl⟩
 ·refine wc_skip<|wc_seq<|oH h fun y22 ey22 h=>cH h fun c30 h=>cH h fun c31 h=>cH h fun c32 h=>cH h fun c33 h=>wc_ops<|wj_m rfl<|wj_e (ef_callS (mS:=ms8) rfl (Take.perm (.there .here)) (fun w hw=>fareboxlaw08_turned_spec  ey22 (sat_own1 hw (Take.perm (.there .here))) O9 H10) fun v23 Msv23 R24=>?_)
  obtain ⟨_,ms26,ms28,rfl,rfl,O27,O29⟩:=R24
  refine wj_m rfl<|wj_nil<|wc_seq<|oH h fun y35 ey35 h=>wc_ops<|wj_q _ (q_ld (p:=[.ints .u8 32 (p0)]) rfl (.app (.app (.there .here))) rfl)<|wj_m rfl<|wj_q _ (q_call rfl (fun w hw=>sign_Sign_spec ey35 (hG.at hw (by simp)) ((rd_pre (rd_own O29 (.app .here)) c30) w hw)))<|wj_e (ef_al fun b36 hb36=>wj_e (ef_st (q:=[.ints .u8 64 (y35)]) rfl rfl rfl rfl rfl .here<|wj_nil<|wc_seq<|oH h fun y38 ey38 h=>cH h fun c39 h=>wc_draw<|ws_p1 _ (q_mv rfl)<|ws_q1 _ (q_ld (p:=[.ints .u8 64 (y35)]) rfl .here rfl)<|ws_q1 _ (q_ld (p:=[.ints .u8 32 (p0)]) rfl (.there (.app (.app (.there .here)))) rfl)<|ws_q1 _ (q_call rfl (fun w hw=>q8_Sign_spec ey38 (hG.at hw (by simp)) ((rd_own O27 (.there .here)) w hw)))<|ws_p1 _ (q_eqa rfl rfl rfl rfl _ (eqc_last eqc_ints))<|ws_p1 _ (q_mv rfl)<|ws_and rfl rfl rfl (fun hg1=>qj_g rfl _ (q_mv rfl) (qj_g rfl _ (q_mv rfl) (qj_g rfl _ (q_call rfl (fun w hw=>fareboxlaw08_left_spec (getD_some (z:=false) (imp_t c39 hg1)) ((rd_own O29 (.there (.app .here))) w hw) c30 ((rd_own O27 (.there .here)) w hw))) (qj_nil)))) (fun hg1=>rfl) rfl<|ws_p1 _ (q_mv rfl)<|ws_nil<|wc_ret ?_))
  revert h; refine ret_i fun h=>?_
  subst h
  exact ⟨_,(.cons (.tmp rfl) .nil),rfl⟩
end Go.Proofs.YtiflckckekjbnaaGreatDoor

namespace Go.Proofs.YtiflckckekjbnaaGreatDoor
open Go Go.Sx Go.RowKit
set_option linter.all false
theorem wu64_eq (x:Int):IntKind.u64.wrap x=x%18446744073709551616:=by simp [IntKind.wrap,IntKind.bits,IntKind.signed]
theorem wu8_eq (x:Int):IntKind.u8.wrap x=x%256:=by simp [IntKind.wrap,IntKind.bits,IntKind.signed]
theorem wu64_small {x:Int} (h0:0≤x) (h1:x<18446744073709551616):IntKind.u64.wrap x=x:=by rw [wu64_eq]; omega
theorem wi64_small {x:Int} (h0 : -9223372036854775808≤x) (h1:x≤9223372036854775807):IntKind.i64.wrap x=x:=by rw [IntKind.wrap_i64]; omega
theorem bv64 (m:Nat) (h:m<18446744073709551616):(BitVec.ofInt 64 (m:Int)).toNat=m:=by
  rw [BitVec.toNat_ofInt]; simp; omega
theorem bv8 (m:Nat) (h:m<256):(BitVec.ofInt 8 (m:Int)).toNat=m:=by
  rw [BitVec.toNat_ofInt]; simp; omega
theorem and64 {x y:Int} (m n:Nat) (hx:x=m) (hy:y=n) (h1:m<18446744073709551616) (h2:n<18446744073709551616):bitsV .and .u64 x y=((m &&& n:Nat):Int):=by
  subst hx; subst hy
  show IntKind.u64.wrap (((BitVec.ofInt 64 (m:Int) &&& BitVec.ofInt 64 (n:Int)).toNat:Nat):Int)=_
  rw [BitVec.toNat_and,bv64 m h1,bv64 n h2,wu64_small (by omega)]
  have:m &&& n≤m:=Nat.and_le_left
  omega
theorem or64 {x y:Int} (m n:Nat) (hx:x=m) (hy:y=n) (h1:m<18446744073709551616) (h2:n<18446744073709551616):bitsV .or .u64 x y=((m ||| n:Nat):Int):=by
  subst hx; subst hy
  show IntKind.u64.wrap (((BitVec.ofInt 64 (m:Int) ||| BitVec.ofInt 64 (n:Int)).toNat:Nat):Int)=_
  rw [BitVec.toNat_or,bv64 m h1,bv64 n h2,wu64_small (by omega)]
  have:m ||| n<2^64:=Nat.or_lt_two_pow (by simpa using h1) (by simpa using h2)
  simp at this; omega
theorem and_low (k:Nat) {x y:Int} (hy:y=((2^k-1:Nat):Int)) (hk:2^k≤18446744073709551616) (h0:0≤x) (h1:x<18446744073709551616):bitsV .and .u64 x y=x%((2^k:Nat):Int):=by
  have hp:0<2^k:=Nat.pow_pos (by decide)
  rw [and64 x.toNat (2^k-1) (by omega) hy (by omega) (by omega),Nat.and_two_pow_sub_one_eq_mod]
  rw [Int.natCast_emod]
  congr 1; omega
theorem and51 {x:Int} (h0:0≤x) (h1:x<18446744073709551616):bitsV .and .u64 x 2251799813685247=x%2251799813685248:=and_low 51 (by decide) (by decide) h0 h1
theorem and32 {x:Int} (h0:0≤x) (h1:x<18446744073709551616):bitsV .and .u64 x 4294967295=x%4294967296:=and_low 32 (by decide) (by decide) h0 h1
theorem or_add (k:Nat) {x y a:Int} (hx:x=a*((2^k:Nat):Int)) (ha:0≤a) (h0:0≤y) (hy:y<((2^k:Nat):Int)) (h1:x+y<18446744073709551616):bitsV .or .u64 x y=x+y:=by
  have hp:(0:Int)≤((2^k:Nat):Int):=Int.natCast_nonneg _
  have hx0:0≤x:=by rw [hx]; exact Int.mul_nonneg ha hp
  rw [or64 x.toNat y.toNat (by omega) (by omega) (by omega) (by omega)]
  have e:x.toNat=a.toNat <<< k:=by
    rw [Nat.shiftLeft_eq]
    have:(x.toNat:Int)=((a.toNat*2^k:Nat):Int):=by
      rw [Int.natCast_mul,Int.toNat_of_nonneg hx0,Int.toNat_of_nonneg ha,hx]
    exact Int.ofNat_inj.1 this
  rw [e,← Nat.shiftLeft_add_eq_or_of_lt (by omega:y.toNat<2^k),← e]
  omega
theorem shr_eq (k:IntKind) {x:Int} {n:Nat} (h:n≤k.bits):shrV k x (n:Int)=x / ((2^n:Nat):Int):=by
  simp only [shrV,Int.toNat_natCast,Nat.min_eq_left h]
  rw [Int.fdiv_eq_ediv_of_nonneg]
  · simp
  · exact Int.le_of_lt (Int.pow_pos (by decide))
theorem shr51 (x:Int):shrV .u64 x 51=x / 2251799813685248:=by have:=shr_eq .u64 (x:=x) (n:=51) (by decide); simpa using this
theorem shr32 (x:Int):shrV .u64 x 32=x / 4294967296:=by have:=shr_eq .u64 (x:=x) (n:=32) (by decide); simpa using this
theorem shl_eq (k:IntKind) {x:Int} {n:Nat} (h:n≤k.bits):shlV k x (n:Int)=k.wrap (x*((2^n:Nat):Int)):=by
  simp only [shlV,Int.toNat_natCast,Nat.min_eq_left h]
  simp
theorem shl13 (x:Int):shlV .u64 x 13=(x*8192)%18446744073709551616:=by have:=shl_eq .u64 (x:=x) (n:=13) (by decide); rw [wu64_eq] at this; simpa using this
section
variable {α β:Type}
theorem bnd_eq (x:α) (f:α→Option β):bnd x f=f x:=by
  have h : ∀ y,y=bnd x f→y=f x:=fun y e=>e
  exact h _ rfl
theorem chk_t {c:Bool} {o:Option β} (h:c=true):chk c o=o:=by subst h; rfl
theorem opt_some {o:Option α} {f:α→Option β} {y:α} (h:o=some y):opt o f=f y:=by subst h; rfl
theorem br_tt {c:Bool} {a b:Option β} (h:c=true):br c a b=a:=by subst h; rfl
theorem br_ff {c:Bool} {a b:Option β} (h:c=false):br c a b=b:=by subst h; rfl
theorem jn_eq {K:Type} (k:K) (g:K→Option β):jn k g=g k:=by
  have h : ∀ y,y=jn k g→y=g k:=fun y e=>e
  exact h _ rfl
end
theorem inB_t {z:Int} {n:Nat} (h0:0≤z) (h1:z<n):inB z n=true:=by simp [inB,h0,h1]
abbrev PP:Int:=57896044618658097711785492504343953926634992332820282019728792003956564819949
abbrev M51:Int:=2251799813685248
def fval (x:List Int):Int:=x.getD 0 0+x.getD 1 0*2251799813685248+x.getD 2 0*5070602400912917605986812821504+x.getD 3 0*11417981541647679048466287755595961091061972992+x.getD 4 0*25711008708143844408671393477458601640355247900524685364822016
structure U5 (x:List Int):Prop where
  a0:0≤x.getD 0 0
  a1:0≤x.getD 1 0
  a2:0≤x.getD 2 0
  a3:0≤x.getD 3 0
  a4:0≤x.getD 4 0
  b0:x.getD 0 0<18446744073709551616
  b1:x.getD 1 0<18446744073709551616
  b2:x.getD 2 0<18446744073709551616
  b3:x.getD 3 0<18446744073709551616
  b4:x.getD 4 0<18446744073709551616
def fdig (n:Int):List Int:=[n%M51,n / M51%M51,n / (M51*M51)%M51,n / (M51*M51*M51)%M51,n / (M51*M51*M51*M51)%M51]
theorem fdig_unique {n d0 d1 d2 d3 d4:Int} (h:n=d0+d1*2251799813685248+d2*5070602400912917605986812821504+d3*11417981541647679048466287755595961091061972992+d4*25711008708143844408671393477458601640355247900524685364822016)
    (h0:0≤d0∧d0<2251799813685248) (h1:0≤d1∧d1<2251799813685248) (h2:0≤d2∧d2<2251799813685248) (h3:0≤d3∧d3<2251799813685248) (h4:0≤d4∧d4<2251799813685248) : [d0,d1,d2,d3,d4]=fdig n:=by
  unfold fdig
  simp only [M51,List.cons.injEq,and_true]
  refine ⟨?_,?_,?_,?_,?_⟩ <;> omega
theorem fval_fdig {n:Int} (h0:0≤n) (h1:n<PP):fval (fdig n)=n:=by
  simp only [fval,fdig,M51,PP,List.getD_cons_zero,List.getD_cons_succ] at *
  omega
theorem fdig_U5 (n:Int):U5 (fdig n):=by
  constructor <;> simp only [fdig,M51,List.getD_cons_zero,List.getD_cons_succ] <;> omega
set_option maxRecDepth 100000
def carL (x:List Int):List Int :=
  [x.getD 0 0%2251799813685248+x.getD 4 0 / 2251799813685248*19,x.getD 1 0%2251799813685248+x.getD 0 0 / 2251799813685248,x.getD 2 0%2251799813685248+x.getD 1 0 / 2251799813685248,
   x.getD 3 0%2251799813685248+x.getD 2 0 / 2251799813685248,x.getD 4 0%2251799813685248+x.getD 3 0 / 2251799813685248]
theorem carry_eq {x:List Int} (h:U5 x):field_carry x=some (carL x):=by
  have ⟨a0,a1,a2,a3,a4,b0,b1,b2,b3,b4⟩:=h
  simp only [field_carry,bnd_eq,shr51,wu64_eq,and51 a0 b0,and51 a1 b1,and51 a2 b2,and51 a3 b3,and51 a4 b4,carL]
  simp only [Option.some.injEq,List.cons.injEq,and_true]
  refine ⟨?_,?_,?_,?_,?_⟩ <;> omega
structure C5 (x:List Int) (e:Int):Prop where
  a0:0≤x.getD 0 0
  a1:0≤x.getD 1 0
  a2:0≤x.getD 2 0
  a3:0≤x.getD 3 0
  a4:0≤x.getD 4 0
  b0:x.getD 0 0<2251799813685248+e
  b1:x.getD 1 0<2251799813685248+e
  b2:x.getD 2 0<2251799813685248+e
  b3:x.getD 3 0<2251799813685248+e
  b4:x.getD 4 0<2251799813685248+e
theorem C5.u {x:List Int} {e:Int} (h:C5 x e) (he:e≤1125899906842624):U5 x:=by
  have ⟨a0,a1,a2,a3,a4,b0,b1,b2,b3,b4⟩:=h
  constructor <;> omega
theorem car_C {x:List Int} (h:U5 x):C5 (carL x) 262144:=by
  have ⟨a0,a1,a2,a3,a4,b0,b1,b2,b3,b4⟩:=h
  constructor <;> simp only [carL,List.getD_cons_zero,List.getD_cons_succ] <;> omega
theorem car_C2 {x:List Int} (h:C5 x 262144):C5 (carL x) 20:=by
  have ⟨a0,a1,a2,a3,a4,b0,b1,b2,b3,b4⟩:=h
  constructor <;> simp only [carL,List.getD_cons_zero,List.getD_cons_succ] <;> omega
theorem car_val {x:List Int} : ∃ q,fval x=fval (carL x)+q*PP:=by
  refine ⟨x.getD 4 0 / 2251799813685248,?_⟩
  simp only [fval,carL,PP,List.getD_cons_zero,List.getD_cons_succ]
  omega
theorem car_mod {x:List Int}:fval (carL x)%PP=fval x%PP:=by
  obtain ⟨q,hq⟩:=car_val (x:=x)
  rw [hq,Int.add_mul_emod_self_right]
def fred (x:List Int):List Int:=fdig (fval x%PP)
abbrev shw (x:Int):Int:=shrV .u64 x 51
abbrev wuu (x:Int):Int:=IntKind.wrap .u64 x
abbrev low (x:Int):Int:=bitsV .and .u64 x 2251799813685247
def rQ (y1 y2 y3 y4 q:Int):Int:=shw (wuu (y4+shw (wuu (y3+shw (wuu (y2+shw (wuu (y1+q))))))))
def rr0 (y0 Q:Int):Int:=wuu (y0+wuu (19*Q))
theorem red_run (y0 y1 y2 y3 y4 q:Int):field_reduce_l1 [y0,y1,y2,y3,y4] (fun i46=>field_reduce_l2 (fun a149=>some (setD a149 4 (bitsV .and .u64 (a149.getD 4 0) 2251799813685247))) big 0 (setD [y0,y1,y2,y3,y4] 0 (IntKind.wrap .u64 (y0+IntKind.wrap .u64 (19*i46))))) big q 0 =
    some [low (rr0 y0 (rQ y1 y2 y3 y4 q)),low (wuu (y1+shw (rr0 y0 (rQ y1 y2 y3 y4 q)))),low (wuu (y2+shw (wuu (y1+shw (rr0 y0 (rQ y1 y2 y3 y4 q)))))),
      low (wuu (y3+shw (wuu (y2+shw (wuu (y1+shw (rr0 y0 (rQ y1 y2 y3 y4 q)))))))),low (wuu (y4+shw (wuu (y3+shw (wuu (y2+shw (wuu (y1+shw (rr0 y0 (rQ y1 y2 y3 y4 q)))))))))) ]:=by kernel_rfl
theorem q_step {y q:Int} (hy:0≤y∧y<2251799813685268) (hq:0≤q∧q≤1) : ∃ q' s,shw (wuu (y+q))=q'∧y+q=2251799813685248*q'+s∧(0≤s∧s<2251799813685248)∧(0≤q'∧q'≤1):=by
  refine ⟨(y+q) / 2251799813685248,(y+q)%2251799813685248,?_,by omega,by omega,by omega⟩
  rw [shw,shr51,wuu,wu64_small (by omega) (by omega)]
theorem r_step {y r:Int} (hy:0≤y∧y<2251799813685268) (hr:0≤r∧r<4503599627370496) : ∃ c d r',shw r=c∧low r=d∧r=2251799813685248*c+d∧(0≤d∧d<2251799813685248)∧wuu (y+c)=r'∧r'=y+c∧(0≤r'∧r'<4503599627370496):=by
  refine ⟨r / 2251799813685248,r%2251799813685248,y+r / 2251799813685248,shr51 _,and51 hr.1 (by omega),by omega,by omega,wu64_small (by omega) (by omega),rfl,by omega⟩
theorem red_core {y0 y1 y2 y3 y4 q0 q1 q2 q3 q4 s0 s1 s2 s3 s4 c0 c1 c2 c3 c4 d0 d1 d2 d3 d4:Int}
    (h0:y0+19=2251799813685248*q0+s0) (h1:y1+q0=2251799813685248*q1+s1) (h2:y2+q1=2251799813685248*q2+s2) (h3:y3+q2=2251799813685248*q3+s3) (h4:y4+q3=2251799813685248*q4+s4)
    (k0:y0+19*q4=2251799813685248*c0+d0) (k1:y1+c0=2251799813685248*c1+d1) (k2:y2+c1=2251799813685248*c2+d2) (k3:y3+c2=2251799813685248*c3+d3) (k4:y4+c3=2251799813685248*c4+d4)
    (t0:0≤s0∧s0<2251799813685248) (t1:0≤s1∧s1<2251799813685248) (t2:0≤s2∧s2<2251799813685248) (t3:0≤s3∧s3<2251799813685248) (t4:0≤s4∧s4<2251799813685248)
    (u0:0≤d0∧d0<2251799813685248) (u1:0≤d1∧d1<2251799813685248) (u2:0≤d2∧d2<2251799813685248) (u3:0≤d3∧d3<2251799813685248) (u4:0≤d4∧d4<2251799813685248) (hq:0≤q4∧q4≤1) (hy:0≤(y0+y1*2251799813685248+y2*5070602400912917605986812821504+y3*11417981541647679048466287755595961091061972992+y4*25711008708143844408671393477458601640355247900524685364822016)∧(y0+y1*2251799813685248+y2*5070602400912917605986812821504+y3*11417981541647679048466287755595961091061972992+y4*25711008708143844408671393477458601640355247900524685364822016)<115792089237316195423570985008687907853269984665640564039457584007913129639836) :
    (y0+y1*2251799813685248+y2*5070602400912917605986812821504+y3*11417981541647679048466287755595961091061972992+y4*25711008708143844408671393477458601640355247900524685364822016)-q4*PP=(d0+d1*2251799813685248+d2*5070602400912917605986812821504+d3*11417981541647679048466287755595961091061972992+d4*25711008708143844408671393477458601640355247900524685364822016)∧0≤(d0+d1*2251799813685248+d2*5070602400912917605986812821504+d3*11417981541647679048466287755595961091061972992+d4*25711008708143844408671393477458601640355247900524685364822016)∧(d0+d1*2251799813685248+d2*5070602400912917605986812821504+d3*11417981541647679048466287755595961091061972992+d4*25711008708143844408671393477458601640355247900524685364822016)<PP:=by
  have e1:(y0+y1*2251799813685248+y2*5070602400912917605986812821504+y3*11417981541647679048466287755595961091061972992+y4*25711008708143844408671393477458601640355247900524685364822016)+19=q4*57896044618658097711785492504343953926634992332820282019728792003956564819968+(s0+s1*2251799813685248+s2*5070602400912917605986812821504+s3*11417981541647679048466287755595961091061972992+s4*25711008708143844408671393477458601640355247900524685364822016):=by omega
  have e2:(y0+y1*2251799813685248+y2*5070602400912917605986812821504+y3*11417981541647679048466287755595961091061972992+y4*25711008708143844408671393477458601640355247900524685364822016)+19*q4=c4*57896044618658097711785492504343953926634992332820282019728792003956564819968+(d0+d1*2251799813685248+d2*5070602400912917605986812821504+d3*11417981541647679048466287755595961091061972992+d4*25711008708143844408671393477458601640355247900524685364822016):=by omega
  have b1:0≤(s0+s1*2251799813685248+s2*5070602400912917605986812821504+s3*11417981541647679048466287755595961091061972992+s4*25711008708143844408671393477458601640355247900524685364822016)∧(s0+s1*2251799813685248+s2*5070602400912917605986812821504+s3*11417981541647679048466287755595961091061972992+s4*25711008708143844408671393477458601640355247900524685364822016)<57896044618658097711785492504343953926634992332820282019728792003956564819968:=by omega
  have b2:0≤(d0+d1*2251799813685248+d2*5070602400912917605986812821504+d3*11417981541647679048466287755595961091061972992+d4*25711008708143844408671393477458601640355247900524685364822016)∧(d0+d1*2251799813685248+d2*5070602400912917605986812821504+d3*11417981541647679048466287755595961091061972992+d4*25711008708143844408671393477458601640355247900524685364822016)<57896044618658097711785492504343953926634992332820282019728792003956564819968:=by omega
  generalize (y0+y1*2251799813685248+y2*5070602400912917605986812821504+y3*11417981541647679048466287755595961091061972992+y4*25711008708143844408671393477458601640355247900524685364822016)=V at *
  generalize (d0+d1*2251799813685248+d2*5070602400912917605986812821504+d3*11417981541647679048466287755595961091061972992+d4*25711008708143844408671393477458601640355247900524685364822016)=D at *
  generalize (s0+s1*2251799813685248+s2*5070602400912917605986812821504+s3*11417981541647679048466287755595961091061972992+s4*25711008708143844408671393477458601640355247900524685364822016)=S at *
  clear h0 h1 h2 h3 h4 k0 k1 k2 k3 k4 t0 t1 t2 t3 t4 u0 u1 u2 u3 u4
  simp only [PP]
  have hc:q4=0∨q4=1:=by omega
  rcases hc with rfl | rfl
  · obtain rfl:c4=0:=by omega
    omega
  · obtain rfl:c4=1:=by omega
    omega
theorem reduce_eq {x:List Int} (h:U5 x):field_reduce x=some (fred x):=by
  have h1:=car_C h
  have h2:=car_C2 h1
  have hm:fval (carL (carL x))%PP=fval x%PP:=by rw [car_mod,car_mod]
  rw [field_reduce,opt_some (carry_eq h),opt_some (carry_eq (h1.u (by decide)))]
  unfold fred
  rw [← hm]
  have hl:carL (carL x) = [(carL (carL x)).getD 0 0,(carL (carL x)).getD 1 0,(carL (carL x)).getD 2 0,(carL (carL x)).getD 3 0,(carL (carL x)).getD 4 0]:=rfl
  generalize carL (carL x)=y at *
  have ⟨a0,a1,a2,a3,a4,b0,b1,b2,b3,b4⟩:=h2
  simp only [bnd_eq,jn_eq,fval]
  generalize y.getD 0 0=y0 at *
  generalize y.getD 1 0=y1 at *
  generalize y.getD 2 0=y2 at *
  generalize y.getD 3 0=y3 at *
  generalize y.getD 4 0=y4 at *
  rw [hl,red_run]
  congr 1
  clear hl h1 h2 hm h
  have e0:shrV .u64 (IntKind.wrap .u64 (y0+19)) 51=(y0+19) / 2251799813685248:=by rw [shr51,wu64_small (by omega) (by omega)]
  obtain ⟨q0,s0,hq0,hs0,hs0',hq0'⟩ : ∃ q s,(y0+19) / 2251799813685248=q∧y0+19=2251799813685248*q+s∧(0≤s∧s<2251799813685248)∧(0≤q∧q≤1):=⟨_,(y0+19)%2251799813685248,rfl,by omega,by omega,by omega⟩
  rw [e0,hq0]
  obtain ⟨q1,s1,e1,hs1,hs1',hq1'⟩:=q_step (y:=y1) (q:=q0) (by omega) hq0'
  obtain ⟨q2,s2,e2,hs2,hs2',hq2'⟩:=q_step (y:=y2) (q:=q1) (by omega) hq1'
  obtain ⟨q3,s3,e3,hs3,hs3',hq3'⟩:=q_step (y:=y3) (q:=q2) (by omega) hq2'
  obtain ⟨q4,s4,e4,hs4,hs4',hq4'⟩:=q_step (y:=y4) (q:=q3) (by omega) hq3'
  have f0:rr0 y0 q4=y0+19*q4:=by rw [rr0,wuu,wuu,wu64_small (x:=19*q4) (by omega) (by omega),wu64_small (by omega) (by omega)]
  have hy:0≤(y0+y1*2251799813685248+y2*5070602400912917605986812821504+y3*11417981541647679048466287755595961091061972992+y4*25711008708143844408671393477458601640355247900524685364822016)∧(y0+y1*2251799813685248+y2*5070602400912917605986812821504+y3*11417981541647679048466287755595961091061972992+y4*25711008708143844408671393477458601640355247900524685364822016)<115792089237316195423570985008687907853269984665640564039457584007913129639836:=by omega
  unfold rQ
  rw [e1,e2,e3,e4,f0]
  obtain ⟨c0,d0,r1,g0,l0,k0,u0,w1,v1,z1⟩:=r_step (y:=y1) (r:=y0+19*q4) (by omega) (by omega)
  rw [g0,l0,w1]
  obtain ⟨c1,d1,r2,g1,l1,k1,u1,w2,v2,z2⟩:=r_step (y:=y2) (r:=r1) (by omega) z1
  rw [g1,l1,w2]
  obtain ⟨c2,d2,r3,g2,l2,k2,u2,w3,v3,z3⟩:=r_step (y:=y3) (r:=r2) (by omega) z2
  rw [g2,l2,w3]
  obtain ⟨c3,d3,r4,g3,l3,k3,u3,w4,v4,z4⟩:=r_step (y:=y4) (r:=r3) (by omega) z3
  rw [g3,l3,w4]
  obtain ⟨c4,d4,r5,g4,l4,k4,u4,w5,v5,z5⟩:=r_step (y:=y4) (r:=r4) (by omega) z4
  rw [l4]
  subst v1 v2 v3 v4
  obtain ⟨hv,hlo⟩:=red_core hs0 hs1 hs2 hs3 hs4 k0 k1 k2 k3 k4 hs0' hs1' hs2' hs3' hs4' u0 u1 u2 u3 u4 hq4' hy
  refine fdig_unique ?_ u0 u1 u2 u3 u4
  rw [← hv] at hlo ⊢
  rw [← Int.emod_eq_of_lt hlo.1 hlo.2,Int.sub_mul_emod_self_right]
theorem mul_bd {a b:Int} {A B:Int} (ha:0≤a∧a≤A) (hb:0≤b∧b≤B):0≤a*b∧a*b≤A*B :=
  ⟨Int.mul_nonneg ha.1 hb.1,Int.mul_le_mul ha.2 hb.2 hb.1 (Int.le_trans ha.1 ha.2)⟩
theorem mul64_eq {x y:Int} (hx:0≤x∧x<18446744073709551616) (hy:0≤y∧y<18446744073709551616) :
    math_bits_Mul64 x y=some (x*y / 18446744073709551616,x*y%18446744073709551616):=by
  simp only [math_bits_Mul64,bnd_eq,and32 hx.1 hx.2,and32 hy.1 hy.2,shr32]
  have ex:x=x / 4294967296*4294967296+x%4294967296:=by omega
  have ey:y=y / 4294967296*4294967296+y%4294967296:=by omega
  have bxl:0≤x%4294967296∧x%4294967296≤4294967295:=by omega
  have byl:0≤y%4294967296∧y%4294967296≤4294967295:=by omega
  have bxh:0≤x / 4294967296∧x / 4294967296≤4294967295:=by omega
  have byh:0≤y / 4294967296∧y / 4294967296≤4294967295:=by omega
  have hxy:x*y=x / 4294967296*(y / 4294967296)*18446744073709551616+(x / 4294967296*(y%4294967296)+x%4294967296*(y / 4294967296))*4294967296+x%4294967296*(y%4294967296):=by
    conv=>lhs; rw [ex,ey]
    generalize x / 4294967296=a
    generalize x%4294967296=b
    generalize y / 4294967296=c
    generalize y%4294967296=d
    grind
  have p00:=mul_bd bxl byl
  have p10:=mul_bd bxh byl
  have p01:=mul_bd bxl byh
  have p11:=mul_bd bxh byh
  rw [hxy]
  generalize x%4294967296*(y%4294967296)=A at *
  generalize x / 4294967296*(y%4294967296)=B at *
  generalize x%4294967296*(y / 4294967296)=D at *
  generalize x / 4294967296*(y / 4294967296)=F at *
  clear hxy ex ey bxl byl bxh byh
  rw [wu64_small (x:=A) (by omega) (by omega),wu64_small (x:=B) (by omega) (by omega),wu64_small (x:=D) (by omega) (by omega),wu64_small (x:=F) (by omega) (by omega)]
  rw [wu64_small (x:=B+A / 4294967296) (by omega) (by omega),and32 (by omega) (by omega)]
  rw [wu64_small (x:=(B+A / 4294967296)%4294967296+D) (by omega) (by omega),wu64_small (x:=F+(B+A / 4294967296) / 4294967296) (by omega) (by omega)]
  rw [wu64_small (by omega) (by omega),wu64_eq]
  congr 1
  refine Prod.ext ?_ rfl
  show F+(B+A / 4294967296) / 4294967296+((B+A / 4294967296)%4294967296+D) / 4294967296=_
  omega
def hi64 (s:Int):Int:=s / 18446744073709551616
def lo64 (s:Int):Int:=s%18446744073709551616
theorem addLo_eq (a b c:Int):addLo a b c=(a+b+c)%18446744073709551616:=rfl
theorem addHi_eq (a b c:Int):addHi a b c=(a+b+c) / 18446744073709551616:=rfl
theorem wadd_eq {xs:List Int} {o L:Nat} {s a c:Int} (hs:0≤s) (h1:xs.getD o 0=hi64 s) (h2:xs.getD (o+1) 0=lo64 s) (hL:o+1<L) (ha:0≤a∧a<18446744073709551616) (hc:0≤c∧c<18446744073709551616)
    (hb:s+a*c<340282366920938463463374607431768211456) :
    field_wide_add xs o L a c=some (setD (setD xs (o+1) (lo64 (s+a*c))) o (hi64 (s+a*c))):=by
  have hp:=mul_bd (A:=18446744073709551615) (B:=18446744073709551615) (a:=a) (b:=c) (by omega) (by omega)
  rw [field_wide_add,opt_some (mul64_eq ha hc)]
  rw [chk_t (by simpa using hL)]
  simp only [bnd_eq,h2]
  have e1:lo64 s+a*c%18446744073709551616=lo64 s+a*c%18446744073709551616:=rfl
  generalize a*c=p at *
  have hlo:0≤lo64 s∧lo64 s<18446744073709551616:=by unfold lo64; omega
  have hhi:0≤hi64 s∧hi64 s<18446744073709551616:=by unfold hi64; omega
  rw [chk_t (by simp [addOk]; omega),chk_t (by simpa using hL),chk_t (by simp; omega)]
  simp only [Nat.add_zero,getD_setD]
  rw [if_neg (by omega),h1,chk_t (by simp [addOk,addHi_eq]; omega),chk_t (by simp; omega)]
  simp only [addLo_eq,addHi_eq]
  congr 2
  · congr 1
    unfold lo64; omega
  · unfold hi64 lo64; omega
def srow (S:Nat→Int):List Int:=[hi64 (S 0),lo64 (S 0),hi64 (S 1),lo64 (S 1),hi64 (S 2),lo64 (S 2),hi64 (S 3),lo64 (S 3),hi64 (S 4),lo64 (S 4)]
theorem srow_congr {S T:Nat→Int} (h : ∀ k,k<5→S k=T k):srow S=srow T:=by
  simp only [srow,h 0 (by decide),h 1 (by decide),h 2 (by decide),h 3 (by decide),h 4 (by decide)]
def updN (S:Nat→Int) (k:Nat) (v:Int):Nat→Int:=fun j=>if j=k then v else S j
theorem wadd_row {S:Nat→Int} {k:Nat} {a c:Int} (hk:k<5) (hs:0≤S k) (ha:0≤a∧a<18446744073709551616) (hc:0≤c∧c<18446744073709551616) (hb:S k+a*c<340282366920938463463374607431768211456) :
    field_wide_add (srow S) (0+k*2) 10 a c=some (srow (updN S k (S k+a*c))):=by
  have h1:(srow S).getD (0+k*2) 0=hi64 (S k):=by
    match k,hk with
    | 0,_=>rfl
    | 1,_=>rfl
    | 2,_=>rfl
    | 3,_=>rfl
    | 4,_=>rfl
  have h2:(srow S).getD (0+k*2+1) 0=lo64 (S k):=by
    match k,hk with
    | 0,_=>rfl
    | 1,_=>rfl
    | 2,_=>rfl
    | 3,_=>rfl
    | 4,_=>rfl
  rw [wadd_eq hs h1 h2 (by omega) ha hc hb]
  congr 1
  match k,hk with
  | 0,_=>rfl
  | 1,_=>rfl
  | 2,_=>rfl
  | 3,_=>rfl
  | 4,_=>rfl
def mterm (x:Int) (y:List Int) (i j:Nat):Int:=x*(if i+j<5 then y.getD j 0 else 19*y.getD j 0)
theorem mul_round {y:List Int} {i j:Nat} {kk:List Int→Option (List Int)} {k':Int→List Int→Option (List Int)} {x:Int} {S:Nat→Int} {T:Int} (hi:i<5) (hj:j<5) (hx:0≤x∧x≤2251799813947392) (hy : ∀ j,j<5→0≤y.getD j 0∧y.getD j 0≤2251799813947392)
    (hS : ∀ k,k<5→0≤S k∧S k≤T) (hT:T≤100000000000000000000000000000000000) :
    field_Mul_b2 y (i:Int) x kk k' (j:Int) (srow S)=k' ((j+1:Nat):Int) (srow (updN S ((i+j)%5) (S ((i+j)%5)+mterm x y i j))):=by
  have hyj:=hy j hj
  rw [field_Mul_b2,br_tt (by simp; omega),jn_eq,chk_t (inB_t (by omega) (by omega))]
  simp only [bnd_eq,Int.toNat_natCast]
  have hij:IntKind.wrap .i64 ((i:Int)+(j:Int))=((i+j:Nat):Int):=by rw [wi64_small (by omega) (by omega)]; omega
  have hj1:IntKind.wrap .i64 ((j:Int)+1)=((j+1:Nat):Int):=by rw [wi64_small (by omega) (by omega)]; omega
  rw [hij,hj1]
  have hSk:=hS ((i+j)%5) (Nat.mod_lt _ (by decide))
  by_cases h:i+j<5
  · have hm:(i+j)%5=i+j:=Nat.mod_eq_of_lt h
    rw [hm] at hSk ⊢
    have hp:=mul_bd hx hyj
    rw [br_tt (by simp; omega),chk_t (inB_t (by omega) (by omega)),opt_some (wadd_row (S:=S) (k:=((i+j:Nat):Int).toNat) (by omega) (by rw [Int.toNat_natCast]; exact hSk.1) (by omega) (by omega) (by rw [Int.toNat_natCast]; omega))]
    simp only [Int.toNat_natCast,mterm,if_pos h]
  · have hm:(i+j)%5=i+j-5:=by omega
    rw [hm] at hSk ⊢
    have h5:IntKind.wrap .i64 (((i+j:Nat):Int)-5)=((i+j-5:Nat):Int):=by rw [wi64_small (by omega) (by omega)]; omega
    have h19:IntKind.wrap .u64 (19*y.getD j 0)=19*y.getD j 0:=wu64_small (by omega) (by omega)
    rw [h5,h19]
    have hp:=mul_bd (b:=19*y.getD j 0) (B:=42784196465000448) hx (by omega)
    rw [br_ff (by simp; omega),chk_t (inB_t (by omega) (by omega)),opt_some (wadd_row (S:=S) (k:=((i+j-5:Nat):Int).toNat) (by omega) (by rw [Int.toNat_natCast]; exact hSk.1) (by omega) (by omega) (by rw [Int.toNat_natCast]; omega))]
    simp only [Int.toNat_natCast,mterm,if_neg h]
theorem mul_exit {y:List Int} {i:Nat} {kk:List Int→Option (List Int)} {k':Int→List Int→Option (List Int)} {x:Int} {a:List Int} (hi:i<5):field_Mul_b2 y (i:Int) x kk k' 5 a=kk a:=by
  rw [field_Mul_b2,br_ff (by decide)]
theorem mterm_bd {x:Int} {y:List Int} {i j:Nat} (hj:j<5) (hx:0≤x∧x≤2251799813947392) (hy : ∀ j,j<5→0≤y.getD j 0∧y.getD j 0≤2251799813947392):0≤mterm x y i j∧mterm x y i j≤96341445639776675308685928431616:=by
  have hyj:=hy j hj
  unfold mterm
  split
  · have:=mul_bd hx hyj; omega
  · have:=mul_bd (b:=19*y.getD j 0) (B:=42784196465000448) hx (by omega); omega
theorem upd_bd {S:Nat→Int} {T v:Int} {k:Nat} (hS : ∀ k,k<5→0≤S k∧S k≤T) (hv:0≤v∧v≤T+96341445639776675308685928431616) : ∀ j,j<5→0≤updN S k v j∧updN S k v j≤T+96341445639776675308685928431616:=by
  intro j hj
  have:=hS j hj
  unfold updN
  split <;> omega
def inn (S:Nat→Int) (x:Int) (y:List Int) (i:Nat):Nat→Int:=fun k=>S k+x*(if i≤k then y.getD (k-i) 0 else 19*y.getD (k+5-i) 0)
theorem mul_inner {y:List Int} {i:Nat} {kk:List Int→Option (List Int)} {x:Int} {S:Nat→Int} {T:Int} (hi:i<5) (hx:0≤x∧x≤2251799813947392) (hy : ∀ j,j<5→0≤y.getD j 0∧y.getD j 0≤2251799813947392)
    (hS : ∀ k,k<5→0≤S k∧S k≤T) (hT:T≤10000000000000000000000000000000000) :
    field_Mul_l2 y (i:Int) x kk big 0 (srow S)=kk (srow (inn S x y i)):=by
  obtain ⟨n,hn⟩ : ∃ n,big=n+6:=⟨18446744073709551610,big_eq⟩
  rw [hn]
  have step : ∀ (n j:Nat) (S:Nat→Int) (T:Int),j<5→(∀ k,k<5→0≤S k∧S k≤T)→T≤100000000000000000000000000000000000 →
      field_Mul_l2 y (i:Int) x kk (n+1) (j:Int) (srow S)=field_Mul_l2 y (i:Int) x kk n ((j+1:Nat):Int) (srow (updN S ((i+j)%5) (S ((i+j)%5)+mterm x y i j))) :=
    fun n j S T hj hS hT=>mul_round hi hj hx hy hS hT
  have bd : ∀ (j:Nat) (S:Nat→Int) (T:Int),j<5→(∀ k,k<5→0≤S k∧S k≤T)→∀ k,k<5→0≤updN S ((i+j)%5) (S ((i+j)%5)+mterm x y i j) k∧updN S ((i+j)%5) (S ((i+j)%5)+mterm x y i j) k≤T+96341445639776675308685928431616 :=
    fun j S T hj hS=>upd_bd hS (by have:=mterm_bd (i:=i) hj hx hy; have:=hS ((i+j)%5) (Nat.mod_lt _ (by decide)); omega)
  have s0:=step (n+5) 0 S T (by decide) hS (by omega)
  have b0:=bd 0 S T (by decide) hS
  have s1:=step (n+4) 1 _ _ (by decide) b0 (by omega)
  have b1:=bd 1 _ _ (by decide) b0
  have s2:=step (n+3) 2 _ _ (by decide) b1 (by omega)
  have b2:=bd 2 _ _ (by decide) b1
  have s3:=step (n+2) 3 _ _ (by decide) b2 (by omega)
  have b3:=bd 3 _ _ (by decide) b2
  have s4:=step (n+1) 4 _ _ (by decide) b3 (by omega)
  refine (s0.trans (s1.trans (s2.trans (s3.trans (s4.trans ((mul_exit hi).trans ?_))))))
  congr 1
  apply srow_congr
  intro k hk
  clear s0 s1 s2 s3 s4 b0 b1 b2 b3 bd step hS hy hx hn
  match i,hi,k,hk with
  | 0,_,0,_ | 0,_,1,_ | 0,_,2,_ | 0,_,3,_ | 0,_,4,_ | 1,_,0,_ | 1,_,1,_ | 1,_,2,_ | 1,_,3,_ | 1,_,4,_ | 2,_,0,_ | 2,_,1,_ | 2,_,2,_ | 2,_,3,_ | 2,_,4,_
  | 3,_,0,_ | 3,_,1,_ | 3,_,2,_ | 3,_,3,_ | 3,_,4,_ | 4,_,0,_ | 4,_,1,_ | 4,_,2,_ | 4,_,3,_ | 4,_,4,_=>rfl
theorem inn_bd {S:Nat→Int} {x T:Int} {y:List Int} {i:Nat} (hi:i<5) (hx:0≤x∧x≤2251799813947392) (hy : ∀ j,j<5→0≤y.getD j 0∧y.getD j 0≤2251799813947392) (hS : ∀ k,k<5→0≤S k∧S k≤T) :
    ∀ k,k<5→0≤inn S x y i k∧inn S x y i k≤T+96341445639776675308685928431616:=by
  intro k hk
  have h1:=hS k hk
  unfold inn
  split
  · have:=mul_bd hx (hy (k-i) (by omega)); omega
  · have:=mul_bd (b:=19*y.getD (k+5-i) 0) (B:=42784196465000448) hx (by have:=hy (k+5-i) (by omega); omega); omega
def msum (x y:List Int):Nat→Int:=inn (inn (inn (inn (inn (fun _=>0) (x.getD 0 0) y 0) (x.getD 1 0) y 1) (x.getD 2 0) y 2) (x.getD 3 0) y 3) (x.getD 4 0) y 4
theorem msum_bd {x y:List Int} (hx : ∀ j,j<5→0≤x.getD j 0∧x.getD j 0≤2251799813947392) (hy : ∀ j,j<5→0≤y.getD j 0∧y.getD j 0≤2251799813947392) : ∀ k,k<5→0≤msum x y k∧msum x y k≤481707228198883376543429642158080:=by
  have b0:=inn_bd (S:=fun _=>0) (T:=0) (i:=0) (by decide) (hx 0 (by decide)) hy (fun _ _=>by simp)
  have b1:=inn_bd (i:=1) (by decide) (hx 1 (by decide)) hy b0
  have b2:=inn_bd (i:=2) (by decide) (hx 2 (by decide)) hy b1
  have b3:=inn_bd (i:=3) (by decide) (hx 3 (by decide)) hy b2
  have b4:=inn_bd (i:=4) (by decide) (hx 4 (by decide)) hy b3
  intro k hk
  have:=b4 k hk
  unfold msum
  omega
theorem outer_step {x y : List Int} (hx : ∀ j, j < 5 → 0 ≤ x.getD j 0 ∧ x.getD j 0 ≤ 2251799813947392) (hy : ∀ j, j < 5 → 0 ≤ y.getD j 0 ∧ y.getD j 0 ≤ 2251799813947392) (n i : Nat) (S : Nat → Int) (T : Int) (hi : i < 5) (hS : ∀ k, k < 5 → 0 ≤ S k ∧ S k ≤ T) (hT : T ≤ 10000000000000000000000000000000000) (kk : List Int → Option (List Int)) :
      field_Mul_l1 x y kk (n+1) (i:Int) (srow S)=field_Mul_l1 x y kk n ((i+1:Nat):Int) (srow (inn S (x.getD i 0) y i)):=by
  rw [field_Mul_l1,field_Mul_b1,br_tt (by simp; omega),chk_t (inB_t (by omega) (by omega))]
  simp only [bnd_eq,jn_eq,Int.toNat_natCast]
  rw [mul_inner hi (hx i hi) hy hS hT,wi64_small (by omega) (by omega)]
  rfl
theorem outer_last {x y:List Int} (n:Nat) (a:List Int) (kk:List Int→Option (List Int)):field_Mul_l1 x y kk (n+1) ((5:Nat):Int) a=kk a:=by
  rw [field_Mul_l1,field_Mul_b1,br_ff (by decide)]
theorem srow0:(List.replicate 10 0:List Int)=srow (fun _=>0):=by decide
theorem mul_outer {x y:List Int} (hx : ∀ j,j<5→0≤x.getD j 0∧x.getD j 0≤2251799813947392) (hy : ∀ j,j<5→0≤y.getD j 0∧y.getD j 0≤2251799813947392) (kk:List Int→Option (List Int)) :
    field_Mul_l1 x y kk big 0 (List.replicate 10 0)=kk (srow (msum x y)):=by
  obtain ⟨n,hn⟩ : ∃ n,big=n+1+1+1+1+1+1:=⟨18446744073709551610,big_eq⟩
  have b0:=inn_bd (S:=fun _=>0) (T:=0) (i:=0) (by decide) (hx 0 (by decide)) hy (fun _ _=>by simp)
  have b1:=inn_bd (i:=1) (by decide) (hx 1 (by decide)) hy b0
  have b2:=inn_bd (i:=2) (by decide) (hx 2 (by decide)) hy b1
  have b3:=inn_bd (i:=3) (by decide) (hx 3 (by decide)) hy b2
  have s0:=outer_step (kk:=kk) hx hy (n+1+1+1+1+1) 0 (fun _=>0) 0 (by decide) (fun _ _=>by simp) (by omega)
  have s1:=outer_step (kk:=kk) hx hy (n+1+1+1+1) 1 _ _ (by decide) b0 (by omega)
  have s2:=outer_step (kk:=kk) hx hy (n+1+1+1) 2 _ _ (by decide) b1 (by omega)
  have s3:=outer_step (kk:=kk) hx hy (n+1+1) 3 _ _ (by decide) b2 (by omega)
  have s4:=outer_step (kk:=kk) hx hy (n+1) 4 _ _ (by decide) b3 (by omega)
  have s5:=outer_last (x:=x) (y:=y) n (srow (msum x y)) kk
  unfold msum at s5 ⊢
  rw [← hn] at s0
  rw [srow0]
  exact s0.trans (s1.trans (s2.trans (s3.trans (s4.trans s5))))
theorem mul_carry {S:Nat→Int} {kk:Int→List Int→Option (List Int)} {k':Int→Int→List Int→Option (List Int)} {i:Nat} {c:Int} {out:List Int} (hi:i<5) (hS:0≤S i∧S i≤481707228198883376543429642158080) (hc:0≤c∧c<18446744073709551616) :
    field_Mul_b3 (srow S) kk k' c (i:Int) out=k' ((S i+c) / 2251799813685248) ((i+1:Nat):Int) (setD out i ((S i+c)%2251799813685248)):=by
  have ht:tk (srow S) (i*2) 2 = [hi64 (S i),lo64 (S i)]:=by
    match i,hi with
    | 0,_=>rfl
    | 1,_=>rfl
    | 2,_=>rfl
    | 3,_=>rfl
    | 4,_=>rfl
  rw [field_Mul_b3,br_tt (by simp; omega),chk_t (inB_t (by omega) (by omega))]
  simp only [bnd_eq,Int.toNat_natCast,ht,List.getD_cons_zero,List.getD_cons_succ]
  generalize S i=s at *
  have hl:0≤lo64 s∧lo64 s<18446744073709551616:=by unfold lo64; omega
  rw [chk_t (by simp [addOk]; omega),chk_t (inB_t (by omega) (by omega))]
  simp only [addLo_eq,addHi_eq,Int.add_zero]
  rw [wi64_small (by omega) (by omega),shr51,shl13,and51 (by omega) (by omega)]
  have hh:0≤hi64 s∧hi64 s<1000000000000000:=by unfold hi64; omega
  have hcar:0≤(lo64 s+c) / 18446744073709551616∧(lo64 s+c) / 18446744073709551616≤1:=by omega
  rw [wu64_small (x:=hi64 s+(lo64 s+c) / 18446744073709551616) (by omega) (by omega)]
  have hm:(hi64 s+(lo64 s+c) / 18446744073709551616)*8192%18446744073709551616=(hi64 s+(lo64 s+c) / 18446744073709551616)*8192:=by omega
  rw [hm,or_add 13 (x:=(hi64 s+(lo64 s+c) / 18446744073709551616)*8192) (a:=hi64 s+(lo64 s+c) / 18446744073709551616) rfl (by omega) (by omega) (by omega) (by omega)]
  have e1:(lo64 s+c)%18446744073709551616%2251799813685248=(s+c)%2251799813685248:=by unfold lo64; omega
  have e2:(hi64 s+(lo64 s+c) / 18446744073709551616)*8192+(lo64 s+c)%18446744073709551616 / 2251799813685248=(s+c) / 2251799813685248:=by unfold hi64 lo64; omega
  rw [e1,e2]
  rfl
theorem alg5 (x0 x1 x2 x3 x4 y0 y1 y2 y3 y4 m:Int):(x0+x1*m+x2*(m*m)+x3*(m*m*m)+x4*(m*m*m*m))*(y0+y1*m+y2*(m*m)+y3*(m*m*m)+y4*(m*m*m*m)) =
    x0*y0+(x0*y1+x1*y0)*m+(x0*y2+x1*y1+x2*y0)*(m*m)+(x0*y3+x1*y2+x2*y1+x3*y0)*(m*m*m)+(x0*y4+x1*y3+x2*y2+x3*y1+x4*y0)*(m*m*m*m)
     + ((x1*y4+x2*y3+x3*y2+x4*y1)+(x2*y4+x3*y3+x4*y2)*m+(x3*y4+x4*y3)*(m*m)+x4*y4*(m*m*m))*(m*m*m*m*m):=by grind
theorem msum_val (x y:List Int) : ∃ q,fval x*fval y=msum x y 0+msum x y 1*2251799813685248+msum x y 2*5070602400912917605986812821504+msum x y 3*11417981541647679048466287755595961091061972992+msum x y 4*25711008708143844408671393477458601640355247900524685364822016+q*PP:=by
  have h:=alg5 (x.getD 0 0) (x.getD 1 0) (x.getD 2 0) (x.getD 3 0) (x.getD 4 0) (y.getD 0 0) (y.getD 1 0) (y.getD 2 0) (y.getD 3 0) (y.getD 4 0) 2251799813685248
  have e0:msum x y 0=x.getD 0 0*y.getD 0 0+19*(x.getD 1 0*y.getD 4 0+x.getD 2 0*y.getD 3 0+x.getD 3 0*y.getD 2 0+x.getD 4 0*y.getD 1 0):=by simp [msum,inn] <;> grind
  have e1:msum x y 1=x.getD 0 0*y.getD 1 0+x.getD 1 0*y.getD 0 0+19*(x.getD 2 0*y.getD 4 0+x.getD 3 0*y.getD 3 0+x.getD 4 0*y.getD 2 0):=by simp [msum,inn] <;> grind
  have e2:msum x y 2=x.getD 0 0*y.getD 2 0+x.getD 1 0*y.getD 1 0+x.getD 2 0*y.getD 0 0+19*(x.getD 3 0*y.getD 4 0+x.getD 4 0*y.getD 3 0):=by simp [msum,inn] <;> grind
  have e3:msum x y 3=x.getD 0 0*y.getD 3 0+x.getD 1 0*y.getD 2 0+x.getD 2 0*y.getD 1 0+x.getD 3 0*y.getD 0 0+19*(x.getD 4 0*y.getD 4 0):=by simp [msum,inn] <;> grind
  have e4:msum x y 4=x.getD 0 0*y.getD 4 0+x.getD 1 0*y.getD 3 0+x.getD 2 0*y.getD 2 0+x.getD 3 0*y.getD 1 0+x.getD 4 0*y.getD 0 0:=by simp [msum,inn] <;> grind
  refine ⟨(x.getD 1 0*y.getD 4 0+x.getD 2 0*y.getD 3 0+x.getD 3 0*y.getD 2 0+x.getD 4 0*y.getD 1 0)+(x.getD 2 0*y.getD 4 0+x.getD 3 0*y.getD 3 0+x.getD 4 0*y.getD 2 0)*2251799813685248+(x.getD 3 0*y.getD 4 0+x.getD 4 0*y.getD 3 0)*5070602400912917605986812821504+x.getD 4 0*y.getD 4 0*11417981541647679048466287755595961091061972992,?_⟩
  rw [e0,e1,e2,e3,e4]
  simp only [fval,PP]
  simp only [Int.reduceMul] at h
  rw [h]
  omega
theorem U5.mk5 {d0 d1 d2 d3 d4:Int} (h0:0≤d0∧d0<18446744073709551616) (h1:0≤d1∧d1<18446744073709551616) (h2:0≤d2∧d2<18446744073709551616) (h3:0≤d3∧d3<18446744073709551616) (h4:0≤d4∧d4<18446744073709551616):U5 [d0,d1,d2,d3,d4] :=
  ⟨h0.1,h1.1,h2.1,h3.1,h4.1,h0.2,h1.2,h2.2,h3.2,h4.2⟩
theorem mul_last {c d0 d1 d2 d3 d4:Int} (hc:0≤c∧c<900000000000000000)
    (h0:0≤d0∧d0<2251799813685248) (h1:0≤d1∧d1<2251799813685248) (h2:0≤d2∧d2<2251799813685248) (h3:0≤d3∧d3<2251799813685248) (h4:0≤d4∧d4<2251799813685248) :
    (opt (field_wide_add (List.replicate 2 0) 0 2 c 19) fun y1819 =>
      bnd (y1819.getD 1 0) fun z1823 =>
      bnd ([d0,d1,d2,d3,d4].getD 0 0) fun z1824 =>
      chk (addOk z1823 z1824 0) <|
      bnd (addLo z1823 z1824 0) fun z1826 =>
      bnd (addHi z1823 z1824 0) fun z1827 =>
      bnd (bitsV .and .u64 z1826 2251799813685247) fun z1829 =>
      bnd (setD [d0,d1,d2,d3,d4] 0 z1829) fun l1830 =>
      bnd (l1830.getD 1 0) fun z1832 =>
      bnd (y1819.getD 0 0) fun z1833 =>
      bnd (IntKind.wrap .u64 (z1833+z1827)) fun z1834 =>
      bnd (shlV .u64 z1834 13) fun z1835 =>
      bnd (shrV .u64 z1826 51) fun z1836 =>
      bnd (bitsV .or .u64 z1835 z1836) fun z1837 =>
      bnd (IntKind.wrap .u64 (z1832+z1837)) fun z1838 =>
      bnd (setD l1830 1 z1838) fun l1839 =>
      opt (field_reduce l1839) fun y1841 =>
      some y1841)=some (fdig ((d0+d1*2251799813685248+d2*5070602400912917605986812821504+d3*11417981541647679048466287755595961091061972992+d4*25711008708143844408671393477458601640355247900524685364822016+19*c)%PP)):=by
  have hw:field_wide_add (List.replicate 2 0) 0 2 c 19=some [hi64 (0+c*19),lo64 (0+c*19)]:=wadd_eq (s:=0) (by decide) rfl rfl (by decide) (by omega) (by omega) (by omega)
  rw [opt_some hw]
  simp only [bnd_eq,List.getD_cons_zero,List.getD_cons_succ]
  have hl:lo64 (0+c*19)=c*19%18446744073709551616:=by unfold lo64; rw [Int.zero_add]
  have hh:hi64 (0+c*19)=c*19 / 18446744073709551616:=by unfold hi64; rw [Int.zero_add]
  rw [hl,hh]
  have hlt:c*19<18446744073709551616:=by omega
  rw [Int.emod_eq_of_lt (by omega) hlt,Int.ediv_eq_zero_of_lt (by omega) hlt]
  rw [chk_t (by simp [addOk]; omega)]
  simp only [addLo_eq,addHi_eq,Int.add_zero,Int.zero_add]
  rw [Int.emod_eq_of_lt (a:=c*19+d0) (by omega) (by omega),Int.ediv_eq_zero_of_lt (a:=c*19+d0) (by omega) (by omega)]
  have ew:IntKind.wrap .u64 0=0:=by decide
  rw [ew,shr51,shl13,and51 (by omega) (by omega)]
  have e0:(0:Int)*8192%18446744073709551616=0:=by decide
  rw [e0,or_add 13 (x:=0) (a:=0) (by simp) (by omega) (by omega) (by omega) (by omega),Int.zero_add]
  have hs1:setD [d0,d1,d2,d3,d4] 0 ((c*19+d0)%2251799813685248) = [(c*19+d0)%2251799813685248,d1,d2,d3,d4]:=rfl
  rw [hs1]
  simp only [List.getD_cons_zero,List.getD_cons_succ]
  rw [wu64_small (by omega) (by omega)]
  have hs2:setD [(c*19+d0)%2251799813685248,d1,d2,d3,d4] 1 (d1+(c*19+d0) / 2251799813685248) = [(c*19+d0)%2251799813685248,d1+(c*19+d0) / 2251799813685248,d2,d3,d4]:=rfl
  rw [hs2,opt_some (reduce_eq (U5.mk5 (by omega) (by omega) (by omega) (by omega) (by omega)))]
  unfold fred
  congr 3
  simp only [fval,List.getD_cons_zero,List.getD_cons_succ]
  omega
theorem C5.le {x:List Int} (h:C5 x 262144) : ∀ j,j<5→0≤x.getD j 0∧x.getD j 0≤2251799813947392:=by
  have ⟨a0,a1,a2,a3,a4,b0,b1,b2,b3,b4⟩:=h
  intro j hj
  match j,hj with
  | 0,_=>omega
  | 1,_=>omega
  | 2,_=>omega
  | 3,_=>omega
  | 4,_=>omega
theorem mul_eq {x y:List Int} (hx:U5 x) (hy:U5 y):field_Mul x y=some (fdig (fval x*fval y%PP)):=by
  have cx:=(car_C hx).le
  have cy:=(car_C hy).le
  rw [field_Mul,opt_some (carry_eq hx),opt_some (carry_eq hy),jn_eq,mul_outer cx cy,jn_eq]
  have hb:=msum_bd cx cy
  obtain ⟨q,hq⟩:=msum_val (carL x) (carL y)
  have hm:fval x*fval y%PP=fval (carL x)*fval (carL y)%PP:=by
    rw [Int.mul_emod,← car_mod (x:=x),← car_mod (x:=y),← Int.mul_emod]
  rw [hm,hq,Int.add_mul_emod_self_right]
  generalize msum (carL x) (carL y)=S at *
  obtain ⟨n,hn⟩ : ∃ n,big=n+1+1+1+1+1+1:=⟨18446744073709551610,big_eq⟩
  generalize hkk:(fun (i1740:Int) (a1741:List Int)=>_)=kk
  have step : ∀ (n i:Nat) (c:Int) (out:List Int),i<5→(0≤c∧c<18446744073709551616)→field_Mul_l3 (srow S) kk (n+1) c (i:Int) out=field_Mul_l3 (srow S) kk n ((S i+c) / 2251799813685248) ((i+1:Nat):Int) (setD out i ((S i+c)%2251799813685248)):=by
    intro n i c out hi hc
    rw [field_Mul_l3,mul_carry hi (hb i hi) hc]
  have c0:=hb 0 (by decide)
  have c1:=hb 1 (by decide)
  have c2:=hb 2 (by decide)
  have c3:=hb 3 (by decide)
  have c4:=hb 4 (by decide)
  have k1 : ∃ d,(S 0+0)%2251799813685248=d∧(0≤d∧d<2251799813685248):=⟨_,rfl,by omega⟩
  have s0:=step (n+1+1+1+1+1) 0 0 (List.replicate 5 0) (by decide) (by decide)
  generalize hd0:(S 0+0)%2251799813685248=d0 at s0
  generalize hv0:(S 0+0) / 2251799813685248=v0 at s0
  have s1:=step (n+1+1+1+1) 1 v0 (setD (List.replicate 5 0) 0 d0) (by decide) (by omega)
  generalize hd1:(S 1+v0)%2251799813685248=d1 at s1
  generalize hv1:(S 1+v0) / 2251799813685248=v1 at s1
  have s2:=step (n+1+1+1) 2 v1 (setD (setD (List.replicate 5 0) 0 d0) 1 d1) (by decide) (by omega)
  generalize hd2:(S 2+v1)%2251799813685248=d2 at s2
  generalize hv2:(S 2+v1) / 2251799813685248=v2 at s2
  have s3:=step (n+1+1) 3 v2 (setD (setD (setD (List.replicate 5 0) 0 d0) 1 d1) 2 d2) (by decide) (by omega)
  generalize hd3:(S 3+v2)%2251799813685248=d3 at s3
  generalize hv3:(S 3+v2) / 2251799813685248=v3 at s3
  have s4:=step (n+1) 4 v3 (setD (setD (setD (setD (List.replicate 5 0) 0 d0) 1 d1) 2 d2) 3 d3) (by decide) (by omega)
  generalize hd4:(S 4+v3)%2251799813685248=d4 at s4
  generalize hv4:(S 4+v3) / 2251799813685248=v4 at s4
  have hout:setD (setD (setD (setD (setD (List.replicate 5 0) 0 d0) 1 d1) 2 d2) 3 d3) 4 d4 = [d0,d1,d2,d3,d4]:=rfl
  rw [hout] at s4
  have s5:field_Mul_l3 (srow S) kk (n+1) v4 ((4+1:Nat):Int) [d0,d1,d2,d3,d4]=kk v4 [d0,d1,d2,d3,d4]:=by rw [field_Mul_l3,field_Mul_b3,br_ff (by decide)]
  subst hkk
  have s5:=s5.trans (mul_last (c:=v4) (d0:=d0) (d1:=d1) (d2:=d2) (d3:=d3) (d4:=d4) (by omega) (by omega) (by omega) (by omega) (by omega) (by omega))
  rw [← hn] at s0
  refine s0.trans (s1.trans (s2.trans (s3.trans (s4.trans (s5.trans ?_)))))
  congr 2
  clear s0 s1 s2 s3 s4 s5 step hout hb hn k1 cx cy
  have e0:S 0=v0*2251799813685248+d0:=by omega
  have e1:S 1+v0=v1*2251799813685248+d1:=by omega
  have e2:S 2+v1=v2*2251799813685248+d2:=by omega
  have e3:S 3+v2=v3*2251799813685248+d3:=by omega
  have e4:S 4+v3=v4*2251799813685248+d4:=by omega
  clear hd0 hd1 hd2 hd3 hd4 hv0 hv1 hv2 hv3 hv4
  have key:S 0+S 1*2251799813685248+S 2*5070602400912917605986812821504+S 3*11417981541647679048466287755595961091061972992+S 4*25711008708143844408671393477458601640355247900524685364822016 =
      d0+d1*2251799813685248+d2*5070602400912917605986812821504+d3*11417981541647679048466287755595961091061972992+d4*25711008708143844408671393477458601640355247900524685364822016+19*v4+v4*PP:=by
    simp only [PP]; omega
  rw [key,Int.add_mul_emod_self_right]
theorem square_eq {x:List Int} (hx:U5 x):field_Square x=some (fdig (fval x*fval x%PP)):=by
  rw [field_Square,opt_some (mul_eq hx hx)]
def fe (n:Int):List Int:=fdig (n%PP)
theorem fe_U5 (n:Int):U5 (fe n):=fdig_U5 _
theorem PP_pos:(0:Int)<PP:=by decide
theorem fval_fe (n:Int):fval (fe n)=n%PP:=fval_fdig (Int.emod_nonneg _ (by decide)) (Int.emod_lt_of_pos _ PP_pos)
theorem fe_mod (n:Int):fe (n%PP)=fe n:=by unfold fe; rw [Int.emod_emod_of_dvd _ (Int.dvd_refl _)]
theorem fe_congr {a b:Int} (h:a%PP=b%PP):fe a=fe b:=by unfold fe; rw [h]
theorem add_run (k:List Int→Option (List Int)) (x0 x1 x2 x3 x4 y0 y1 y2 y3 y4:Int):field_Add_l1 [y0,y1,y2,y3,y4] k big 0 [x0,x1,x2,x3,x4] =
    k ([IntKind.wrap .u64 (x0+y0),IntKind.wrap .u64 (x1+y1),IntKind.wrap .u64 (x2+y2),IntKind.wrap .u64 (x3+y3),IntKind.wrap .u64 (x4+y4)]):=by kernel_rfl
theorem add_eq {x y:List Int} (hx:U5 x) (hy:U5 y):field_Add x y=some (fe (fval x+fval y)):=by
  have cx:=car_C hx
  have cy:=car_C hy
  have ex:=car_mod (x:=x)
  have ey:=car_mod (x:=y)
  rw [field_Add,opt_some (carry_eq hx),opt_some (carry_eq hy),jn_eq]
  have hlx:carL x = [(carL x).getD 0 0,(carL x).getD 1 0,(carL x).getD 2 0,(carL x).getD 3 0,(carL x).getD 4 0]:=rfl
  have hly:carL y = [(carL y).getD 0 0,(carL y).getD 1 0,(carL y).getD 2 0,(carL y).getD 3 0,(carL y).getD 4 0]:=rfl
  have hm:(fval x+fval y)%PP=(fval (carL x)+fval (carL y))%PP:=by rw [Int.add_emod,← ex,← ey,← Int.add_emod]
  rw [fe_congr hm]
  generalize carL x=a at *
  generalize carL y=b at *
  have ⟨p0,p1,p2,p3,p4,q0,q1,q2,q3,q4⟩:=cx
  have ⟨r0,r1,r2,r3,r4,s0,s1,s2,s3,s4⟩:=cy
  rw [hlx,hly,add_run]
  rw [wu64_small (by omega) (by omega),wu64_small (by omega) (by omega),wu64_small (by omega) (by omega),wu64_small (by omega) (by omega),wu64_small (by omega) (by omega)]
  rw [opt_some (reduce_eq (U5.mk5 (by omega) (by omega) (by omega) (by omega) (by omega)))]
  unfold fred fe
  congr 3
  simp only [fval,List.getD_cons_zero,List.getD_cons_succ]
  omega
theorem neg_run (k:List Int→Option (List Int)) (y0 y1 y2 y3 y4 z:Int):field_Neg_l1 [y0,y1,y2,y3,y4] k big 1 [z,0,0,0,0] =
    k ([z,IntKind.wrap .u64 (4503599627370494-y1),IntKind.wrap .u64 (4503599627370494-y2),IntKind.wrap .u64 (4503599627370494-y3),IntKind.wrap .u64 (4503599627370494-y4)]):=by kernel_rfl
theorem neg_eq {x:List Int} (hx:U5 x):field_Neg x=some (fe (- fval x)):=by
  rw [field_Neg,opt_some (reduce_eq hx)]
  simp only [bnd_eq,jn_eq]
  have hv:fval (fred x)=fval x%PP:=fval_fe (fval x)
  have hl:fred x = [(fred x).getD 0 0,(fred x).getD 1 0,(fred x).getD 2 0,(fred x).getD 3 0,(fred x).getD 4 0]:=rfl
  have hb : ∀ j,j<5→0≤(fred x).getD j 0∧(fred x).getD j 0<2251799813685248:=by
    intro j hj
    unfold fred fdig
    match j,hj with
    | 0,_=>simp only [M51,List.getD_cons_zero,List.getD_cons_succ]; omega
    | 1,_=>simp only [M51,List.getD_cons_zero,List.getD_cons_succ]; omega
    | 2,_=>simp only [M51,List.getD_cons_zero,List.getD_cons_succ]; omega
    | 3,_=>simp only [M51,List.getD_cons_zero,List.getD_cons_succ]; omega
    | 4,_=>simp only [M51,List.getD_cons_zero,List.getD_cons_succ]; omega
  have hm:(- fval x)%PP=(2*PP-fval (fred x))%PP:=by
    rw [hv]
    have e : - fval x=2*PP-fval x%PP+(-2-fval x / PP)*PP:=by
      have:=Int.emod_add_mul_ediv (fval x) PP
      rw [Int.mul_comm] at this
      have h2:(-2-fval x / PP)*PP = -2*PP-fval x / PP*PP:=by rw [Int.sub_mul]
      omega
    rw [e,Int.add_mul_emod_self_right]
  rw [fe_congr hm]
  generalize fred x=a at *
  have b0:=hb 0 (by decide)
  have b1:=hb 1 (by decide)
  have b2:=hb 2 (by decide)
  have b3:=hb 3 (by decide)
  have b4:=hb 4 (by decide)
  rw [hl]
  simp only [List.getD_cons_zero]
  rw [neg_run]
  rw [wu64_small (by omega) (by omega),wu64_small (by omega) (by omega),wu64_small (by omega) (by omega),wu64_small (by omega) (by omega),wu64_small (by omega) (by omega)]
  rw [opt_some (reduce_eq (U5.mk5 (by omega) (by omega) (by omega) (by omega) (by omega)))]
  unfold fred fe
  congr 3
  simp only [fval,PP,List.getD_cons_zero,List.getD_cons_succ]
  omega
theorem sub_eq {x y:List Int} (hx:U5 x) (hy:U5 y):field_Sub x y=some (fe (fval x-fval y)):=by
  rw [field_Sub,opt_some (neg_eq hy),opt_some (add_eq hx (fe_U5 _)),fval_fe]
  rw [fe_congr (a:=fval x + -fval y%PP) (b:=fval x-fval y)]
  rw [Int.sub_eq_add_neg,Int.add_emod,Int.emod_emod_of_dvd _ (Int.dvd_refl _),← Int.add_emod]
theorem small_eq {n:Int} (h:0≤n∧n<18446744073709551616):field_Small n=some (fe n):=by
  rw [field_Small]
  simp only [bnd_eq]
  rw [opt_some (reduce_eq (U5.mk5 h (by omega) (by omega) (by omega) (by omega)))]
  unfold fred fe
  congr 3
  simp only [fval,List.getD_cons_zero,List.getD_cons_succ]
  omega
theorem and1_64 {x:Int} (h0:0≤x) (h1:x<18446744073709551616):bitsV .and .u64 x 1=x%2:=and_low 1 (by decide) (by decide) h0 h1
theorem isOdd_eq {x:List Int} (hx:U5 x):field_IsOdd x=some (fval x%PP%2==1):=by
  rw [field_IsOdd,opt_some (reduce_eq hx)]
  simp only [bnd_eq]
  have e:(fred x).getD 0 0=fval x%PP%2251799813685248:=rfl
  rw [e,and1_64 (by omega) (by omega)]
  congr 2
  omega
theorem and8 {x y:Int} (m n:Nat) (hx:x=m) (hy:y=n) (h1:m<256) (h2:n<256):bitsV .and .u8 x y=((m &&& n:Nat):Int):=by
  subst hx; subst hy
  show IntKind.u8.wrap (((BitVec.ofInt 8 (m:Int) &&& BitVec.ofInt 8 (n:Int)).toNat:Nat):Int)=_
  rw [BitVec.toNat_and,bv8 m h1,bv8 n h2,wu8_eq]
  have:m &&& n≤m:=Nat.and_le_left
  omega
theorem and_low8 (k:Nat) {x y:Int} (hy:y=((2^k-1:Nat):Int)) (hk:2^k≤256) (h0:0≤x) (h1:x<256):bitsV .and .u8 x y=x%((2^k:Nat):Int):=by
  have hp:0<2^k:=Nat.pow_pos (by decide)
  rw [and8 x.toNat (2^k-1) (by omega) hy (by omega) (by omega),Nat.and_two_pow_sub_one_eq_mod]
  rw [Int.natCast_emod]
  congr 1; omega
theorem and1_8 {x:Int} (h0:0≤x) (h1:x<256):bitsV .and .u8 x 1=x%2:=and_low8 1 (by decide) (by decide) h0 h1
def Byt (e:List Int):Prop:=∀ i,0≤e.getD i 0∧e.getD i 0<256
def ebit (e:List Int) (i:Nat):Bool:=(e.getD (i / 8) 0 / ((2^(i%8):Nat):Int))%2==1
def pw (x:Int) (e:List Int):Nat→Int
  | 0=>1
  | k+1=>if ebit e (255-k) then pw x e k*pw x e k%PP*x%PP else pw x e k*pw x e k%PP
theorem pw_rng (x:Int) (e:List Int) (k:Nat):0≤pw x e k∧pw x e k<PP:=by
  cases k with
  | zero=>exact ⟨by show (0:Int)≤1; decide,by show (1:Int)<PP; decide⟩
  | succ k =>
    unfold pw
    split
    · exact ⟨Int.emod_nonneg _ (by decide),Int.emod_lt_of_pos _ PP_pos⟩
    · exact ⟨Int.emod_nonneg _ (by decide),Int.emod_lt_of_pos _ PP_pos⟩
theorem fe_small {n:Int} (h0:0≤n) (h1:n<PP):fe n=fdig n:=by unfold fe; rw [Int.emod_eq_of_lt h0 h1]
theorem pow_round {x e:List Int} (hx:U5 x) (he:Byt e) {kk:List Int→Option (List Int)} {k':Int→List Int→Option (List Int)} {i:Nat} (hi:i<256) (a:Int) (ha:0≤a∧a<PP) :
    field_Pow_b1 x e kk k' (i:Int) (fdig a)=k' ((i:Int)-1) (fdig (if ebit e i then a*a%PP*fval x%PP else a*a%PP)):=by
  have hsq:field_Square (fdig a)=some (fdig (a*a%PP)):=by rw [square_eq (fdig_U5 _),fval_fdig ha.1 ha.2]
  rw [field_Pow_b1,br_tt (by simp),jn_eq,opt_some hsq]
  simp only [bnd_eq]
  have hd:IntKind.wrap .i64 (Int.tdiv (i:Int) 8)=((i / 8:Nat):Int):=by
    rw [Int.tdiv_eq_ediv_of_nonneg (by omega),wi64_small (by omega) (by omega)]; omega
  have hm:Int.tmod (i:Int) 8=((i%8:Nat):Int):=by
    rw [Int.tmod_eq_emod_of_nonneg (by omega)]; omega
  rw [hd,hm,chk_t (inB_t (by omega) (by omega)),chk_t (by simp; omega)]
  have hb:=he (i / 8)
  simp only [Int.toNat_natCast]
  rw [shr_eq .u8 (n:=i%8) (by show i%8≤8; omega)]
  have hp:(0:Int)<((2^(i%8):Nat):Int):=by have:=Nat.pow_pos (n:=i%8) (show 0<2 by decide); omega
  have hq0:=Int.ediv_nonneg hb.1 (Int.le_of_lt hp)
  have hq1:e.getD (i / 8) 0 / ((2^(i%8):Nat):Int)<256:=Int.lt_of_le_of_lt (Int.ediv_le_self _ hb.1) hb.2
  rw [and1_8 hq0 hq1]
  have hw:IntKind.wrap .i64 ((i:Int)-1)=(i:Int)-1:=wi64_small (by omega) (by omega)
  by_cases hbit:ebit e i=true
  · have hb':(e.getD (i / 8) 0 / ((2^(i%8):Nat):Int)%2==1)=true:=hbit
    rw [br_tt hb',if_pos hbit,opt_some (mul_eq (fdig_U5 _) hx),fval_fdig (Int.emod_nonneg _ (by decide)) (Int.emod_lt_of_pos _ PP_pos),hw]
  · rw [Bool.not_eq_true] at hbit
    have hb':(e.getD (i / 8) 0 / ((2^(i%8):Nat):Int)%2==1)=false:=hbit
    rw [br_ff hb',if_neg (by rw [hbit]; decide),hw]
theorem pow_loop {x e:List Int} (hx:U5 x) (he:Byt e) : ∀ (k n:Nat),k≤256→field_Pow_l1 x e some (n+1+k) ((k:Int)-1) (fdig (pw (fval x) e (256-k)))=some (fdig (pw (fval x) e 256))
  | 0,n,_=>by
    show field_Pow_l1 x e some (n+1) _ _=_
    rw [field_Pow_l1,field_Pow_b1,br_ff (by decide)]
  | k+1,n,hk=>by
    have ih:=pow_loop hx he k n (by omega)
    rw [← Nat.add_assoc,field_Pow_l1]
    have hi:((k+1:Nat):Int)-1=(k:Int):=by omega
    rw [hi,pow_round hx he (by omega) _ (pw_rng _ _ _)]
    have e1:256-k=(256-(k+1))+1:=by omega
    have e2:255-(256-(k+1))=k:=by omega
    rw [e1,pw,e2] at ih
    exact ih
theorem pow_eq {x e:List Int} (hx:U5 x) (he:Byt e):field_Pow x e=some (fdig (pw (fval x) e 256)):=by
  rw [field_Pow,opt_some (small_eq (by decide)),jn_eq]
  obtain ⟨n,hn⟩ : ∃ n,big=n+1+256:=⟨18446744073709551359,big_eq⟩
  have:=pow_loop hx he 256 n (Nat.le_refl _)
  rw [← hn] at this
  have e1:fe 1=fdig (pw (fval x) e (256-256)):=rfl
  rw [e1]
  exact this
set_option maxHeartbeats 1000000
theorem or_add' (k:Nat) {x y a:Int} (hx:x=a*((2^k:Nat):Int)) (ha:0≤a) (h0:0≤y) (hy:y<((2^k:Nat):Int)) (h1:y+x<18446744073709551616):bitsV .or .u64 y x=y+x:=by
  have hp:(0:Int)≤((2^k:Nat):Int):=Int.natCast_nonneg _
  have hx0:0≤x:=by rw [hx]; exact Int.mul_nonneg ha hp
  have:=or_add k hx ha h0 hy (by omega)
  rw [or64 y.toNat x.toNat (by omega) (by omega) (by omega) (by omega)]
  rw [or64 x.toNat y.toNat (by omega) (by omega) (by omega) (by omega)] at this
  rw [Nat.or_comm,this,Int.add_comm]
def byt (n:Int):List Int:=[n%256,n / 256%256,n / 65536%256,n / 16777216%256,n / 4294967296%256,n / 1099511627776%256,n / 281474976710656%256,n / 72057594037927936%256,n / 18446744073709551616%256,n / 4722366482869645213696%256,n / 1208925819614629174706176%256,n / 309485009821345068724781056%256,n / 79228162514264337593543950336%256,n / 20282409603651670423947251286016%256,n / 5192296858534827628530496329220096%256,n / 1329227995784915872903807060280344576%256,n / 340282366920938463463374607431768211456%256,n / 87112285931760246646623899502532662132736%256,n / 22300745198530623141535718272648361505980416%256,n / 5708990770823839524233143877797980545530986496%256,n / 1461501637330902918203684832716283019655932542976%256,n / 374144419156711147060143317175368453031918731001856%256,n / 95780971304118053647396689196894323976171195136475136%256,n / 24519928653854221733733552434404946937899825954937634816%256,n / 6277101735386680763835789423207666416102355444464034512896%256,n / 1606938044258990275541962092341162602522202993782792835301376%256,n / 411376139330301510538742295639337626245683966408394965837152256%256,n / 105312291668557186697918027683670432318895095400549111254310977536%256,n / 26959946667150639794667015087019630673637144422540572481103610249216%256,n / 6901746346790563787434755862277025452451108972170386555162524223799296%256,n / 1766847064778384329583297500742918515827483896875618958121606201292619776%256,n / 452312848583266388373324160190187140051835877600158453279131187530910662656%256]
theorem bytes_run (k:List Int→Option (List Int)) (y0 y1 y2 y3 y4:Int):field_Bytes_l1 [y0,y1,y2,y3,y4] k big 0 (List.replicate 32 0)=k [IntKind.wrap .u8 (shrV .u64 y0 0),IntKind.wrap .u8 (shrV .u64 y0 8),IntKind.wrap .u8 (shrV .u64 y0 16),IntKind.wrap .u8 (shrV .u64 y0 24),IntKind.wrap .u8 (shrV .u64 y0 32),IntKind.wrap .u8 (shrV .u64 y0 40),IntKind.wrap .u8 (bitsV .or .u64 (shrV .u64 y0 48) (shlV .u64 y1 3)),IntKind.wrap .u8 (shrV .u64 y1 5),IntKind.wrap .u8 (shrV .u64 y1 13),IntKind.wrap .u8 (shrV .u64 y1 21),IntKind.wrap .u8 (shrV .u64 y1 29),IntKind.wrap .u8 (shrV .u64 y1 37),IntKind.wrap .u8 (bitsV .or .u64 (shrV .u64 y1 45) (shlV .u64 y2 6)),IntKind.wrap .u8 (shrV .u64 y2 2),IntKind.wrap .u8 (shrV .u64 y2 10),IntKind.wrap .u8 (shrV .u64 y2 18),IntKind.wrap .u8 (shrV .u64 y2 26),IntKind.wrap .u8 (shrV .u64 y2 34),IntKind.wrap .u8 (shrV .u64 y2 42),IntKind.wrap .u8 (bitsV .or .u64 (shrV .u64 y2 50) (shlV .u64 y3 1)),IntKind.wrap .u8 (shrV .u64 y3 7),IntKind.wrap .u8 (shrV .u64 y3 15),IntKind.wrap .u8 (shrV .u64 y3 23),IntKind.wrap .u8 (shrV .u64 y3 31),IntKind.wrap .u8 (shrV .u64 y3 39),IntKind.wrap .u8 (bitsV .or .u64 (shrV .u64 y3 47) (shlV .u64 y4 4)),IntKind.wrap .u8 (shrV .u64 y4 4),IntKind.wrap .u8 (shrV .u64 y4 12),IntKind.wrap .u8 (shrV .u64 y4 20),IntKind.wrap .u8 (shrV .u64 y4 28),IntKind.wrap .u8 (shrV .u64 y4 36),IntKind.wrap .u8 (shrV .u64 y4 44)]:=by kernel_rfl
theorem shr_lit (x:Int) (n:Nat) (h:n≤64):shrV .u64 x (n:Int)=x / ((2^n:Nat):Int):=shr_eq .u64 h
theorem byte_0 {n:Int} (h0:0≤n):IntKind.wrap .u8 (shrV .u64 (n%2251799813685248) 0)=n%256:=by
  have:=shr_lit (n%2251799813685248) 0 (by decide)
  rw [show ((2^0:Nat):Int)=1 from rfl] at this
  refine (congrArg _ this).trans ?_
  rw [wu8_eq]
  omega
theorem byte_1 {n:Int} (h0:0≤n):IntKind.wrap .u8 (shrV .u64 (n%2251799813685248) 8)=n / 256%256:=by
  have:=shr_lit (n%2251799813685248) 8 (by decide)
  rw [show ((2^8:Nat):Int)=256 from rfl] at this
  refine (congrArg _ this).trans ?_
  rw [wu8_eq]
  omega
theorem byte_2 {n:Int} (h0:0≤n):IntKind.wrap .u8 (shrV .u64 (n%2251799813685248) 16)=n / 65536%256:=by
  have:=shr_lit (n%2251799813685248) 16 (by decide)
  rw [show ((2^16:Nat):Int)=65536 from rfl] at this
  refine (congrArg _ this).trans ?_
  rw [wu8_eq]
  omega
theorem byte_3 {n:Int} (h0:0≤n):IntKind.wrap .u8 (shrV .u64 (n%2251799813685248) 24)=n / 16777216%256:=by
  have:=shr_lit (n%2251799813685248) 24 (by decide)
  rw [show ((2^24:Nat):Int)=16777216 from rfl] at this
  refine (congrArg _ this).trans ?_
  rw [wu8_eq]
  omega
theorem byte_4 {n:Int} (h0:0≤n):IntKind.wrap .u8 (shrV .u64 (n%2251799813685248) 32)=n / 4294967296%256:=by
  have:=shr_lit (n%2251799813685248) 32 (by decide)
  rw [show ((2^32:Nat):Int)=4294967296 from rfl] at this
  refine (congrArg _ this).trans ?_
  rw [wu8_eq]
  omega
theorem byte_5 {n:Int} (h0:0≤n):IntKind.wrap .u8 (shrV .u64 (n%2251799813685248) 40)=n / 1099511627776%256:=by
  have:=shr_lit (n%2251799813685248) 40 (by decide)
  rw [show ((2^40:Nat):Int)=1099511627776 from rfl] at this
  refine (congrArg _ this).trans ?_
  rw [wu8_eq]
  omega
theorem byte_6 {n:Int} (h0:0≤n):IntKind.wrap .u8 (bitsV .or .u64 (shrV .u64 (n%2251799813685248) 48) (shlV .u64 (n / 2251799813685248%2251799813685248) 3))=n / 281474976710656%256:=by
  have e1:shrV .u64 (n%2251799813685248) 48=n / 281474976710656%8:=by
    have:=shr_lit (n%2251799813685248) 48 (by decide)
    rw [show ((2^48:Nat):Int)=281474976710656 from rfl] at this
    refine this.trans ?_
    omega
  have e2:shlV .u64 (n / 2251799813685248%2251799813685248) 3=(n / 2251799813685248%2251799813685248)*8:=by
    have:=shl_eq .u64 (x:=n / 2251799813685248%2251799813685248) (n:=3) (by decide)
    rw [show ((2^3:Nat):Int)=8 from rfl] at this
    refine this.trans (wu64_small (by omega) (by omega))
  rw [e1,e2,or_add' 3 (x:=(n / 2251799813685248%2251799813685248)*8) (y:=n / 281474976710656%8) (a:=n / 2251799813685248%2251799813685248) rfl (by omega) (by omega) (by show _<(8:Int); omega) (by omega),wu8_eq]
  omega
theorem byte_7 {n:Int} (h0:0≤n):IntKind.wrap .u8 (shrV .u64 (n / 2251799813685248%2251799813685248) 5)=n / 72057594037927936%256:=by
  have:=shr_lit (n / 2251799813685248%2251799813685248) 5 (by decide)
  rw [show ((2^5:Nat):Int)=32 from rfl] at this
  refine (congrArg _ this).trans ?_
  rw [wu8_eq]
  omega
theorem byte_8 {n:Int} (h0:0≤n):IntKind.wrap .u8 (shrV .u64 (n / 2251799813685248%2251799813685248) 13)=n / 18446744073709551616%256:=by
  have:=shr_lit (n / 2251799813685248%2251799813685248) 13 (by decide)
  rw [show ((2^13:Nat):Int)=8192 from rfl] at this
  refine (congrArg _ this).trans ?_
  rw [wu8_eq]
  omega
theorem byte_9 {n:Int} (h0:0≤n):IntKind.wrap .u8 (shrV .u64 (n / 2251799813685248%2251799813685248) 21)=n / 4722366482869645213696%256:=by
  have:=shr_lit (n / 2251799813685248%2251799813685248) 21 (by decide)
  rw [show ((2^21:Nat):Int)=2097152 from rfl] at this
  refine (congrArg _ this).trans ?_
  rw [wu8_eq]
  omega
theorem byte_10 {n:Int} (h0:0≤n):IntKind.wrap .u8 (shrV .u64 (n / 2251799813685248%2251799813685248) 29)=n / 1208925819614629174706176%256:=by
  have:=shr_lit (n / 2251799813685248%2251799813685248) 29 (by decide)
  rw [show ((2^29:Nat):Int)=536870912 from rfl] at this
  refine (congrArg _ this).trans ?_
  rw [wu8_eq]
  omega
theorem byte_11 {n:Int} (h0:0≤n):IntKind.wrap .u8 (shrV .u64 (n / 2251799813685248%2251799813685248) 37)=n / 309485009821345068724781056%256:=by
  have:=shr_lit (n / 2251799813685248%2251799813685248) 37 (by decide)
  rw [show ((2^37:Nat):Int)=137438953472 from rfl] at this
  refine (congrArg _ this).trans ?_
  rw [wu8_eq]
  omega
theorem byte_12 {n:Int} (h0:0≤n):IntKind.wrap .u8 (bitsV .or .u64 (shrV .u64 (n / 2251799813685248%2251799813685248) 45) (shlV .u64 (n / 5070602400912917605986812821504%2251799813685248) 6))=n / 79228162514264337593543950336%256:=by
  have e1:shrV .u64 (n / 2251799813685248%2251799813685248) 45=n / 79228162514264337593543950336%64:=by
    have:=shr_lit (n / 2251799813685248%2251799813685248) 45 (by decide)
    rw [show ((2^45:Nat):Int)=35184372088832 from rfl] at this
    refine this.trans ?_
    omega
  have e2:shlV .u64 (n / 5070602400912917605986812821504%2251799813685248) 6=(n / 5070602400912917605986812821504%2251799813685248)*64:=by
    have:=shl_eq .u64 (x:=n / 5070602400912917605986812821504%2251799813685248) (n:=6) (by decide)
    rw [show ((2^6:Nat):Int)=64 from rfl] at this
    refine this.trans (wu64_small (by omega) (by omega))
  rw [e1,e2,or_add' 6 (x:=(n / 5070602400912917605986812821504%2251799813685248)*64) (y:=n / 79228162514264337593543950336%64) (a:=n / 5070602400912917605986812821504%2251799813685248) rfl (by omega) (by omega) (by show _<(64:Int); omega) (by omega),wu8_eq]
  omega
theorem byte_13 {n:Int} (h0:0≤n):IntKind.wrap .u8 (shrV .u64 (n / 5070602400912917605986812821504%2251799813685248) 2)=n / 20282409603651670423947251286016%256:=by
  have:=shr_lit (n / 5070602400912917605986812821504%2251799813685248) 2 (by decide)
  rw [show ((2^2:Nat):Int)=4 from rfl] at this
  refine (congrArg _ this).trans ?_
  rw [wu8_eq]
  omega
theorem byte_14 {n:Int} (h0:0≤n):IntKind.wrap .u8 (shrV .u64 (n / 5070602400912917605986812821504%2251799813685248) 10)=n / 5192296858534827628530496329220096%256:=by
  have:=shr_lit (n / 5070602400912917605986812821504%2251799813685248) 10 (by decide)
  rw [show ((2^10:Nat):Int)=1024 from rfl] at this
  refine (congrArg _ this).trans ?_
  rw [wu8_eq]
  omega
theorem byte_15 {n:Int} (h0:0≤n):IntKind.wrap .u8 (shrV .u64 (n / 5070602400912917605986812821504%2251799813685248) 18)=n / 1329227995784915872903807060280344576%256:=by
  have:=shr_lit (n / 5070602400912917605986812821504%2251799813685248) 18 (by decide)
  rw [show ((2^18:Nat):Int)=262144 from rfl] at this
  refine (congrArg _ this).trans ?_
  rw [wu8_eq]
  omega
theorem byte_16 {n:Int} (h0:0≤n):IntKind.wrap .u8 (shrV .u64 (n / 5070602400912917605986812821504%2251799813685248) 26)=n / 340282366920938463463374607431768211456%256:=by
  have:=shr_lit (n / 5070602400912917605986812821504%2251799813685248) 26 (by decide)
  rw [show ((2^26:Nat):Int)=67108864 from rfl] at this
  refine (congrArg _ this).trans ?_
  rw [wu8_eq]
  omega
theorem byte_17 {n:Int} (h0:0≤n):IntKind.wrap .u8 (shrV .u64 (n / 5070602400912917605986812821504%2251799813685248) 34)=n / 87112285931760246646623899502532662132736%256:=by
  have:=shr_lit (n / 5070602400912917605986812821504%2251799813685248) 34 (by decide)
  rw [show ((2^34:Nat):Int)=17179869184 from rfl] at this
  refine (congrArg _ this).trans ?_
  rw [wu8_eq]
  omega
theorem byte_18 {n:Int} (h0:0≤n):IntKind.wrap .u8 (shrV .u64 (n / 5070602400912917605986812821504%2251799813685248) 42)=n / 22300745198530623141535718272648361505980416%256:=by
  have:=shr_lit (n / 5070602400912917605986812821504%2251799813685248) 42 (by decide)
  rw [show ((2^42:Nat):Int)=4398046511104 from rfl] at this
  refine (congrArg _ this).trans ?_
  rw [wu8_eq]
  omega
theorem byte_19 {n:Int} (h0:0≤n):IntKind.wrap .u8 (bitsV .or .u64 (shrV .u64 (n / 5070602400912917605986812821504%2251799813685248) 50) (shlV .u64 (n / 11417981541647679048466287755595961091061972992%2251799813685248) 1))=n / 5708990770823839524233143877797980545530986496%256:=by
  have e1:shrV .u64 (n / 5070602400912917605986812821504%2251799813685248) 50=n / 5708990770823839524233143877797980545530986496%2:=by
    have:=shr_lit (n / 5070602400912917605986812821504%2251799813685248) 50 (by decide)
    rw [show ((2^50:Nat):Int)=1125899906842624 from rfl] at this
    refine this.trans ?_
    omega
  have e2:shlV .u64 (n / 11417981541647679048466287755595961091061972992%2251799813685248) 1=(n / 11417981541647679048466287755595961091061972992%2251799813685248)*2:=by
    have:=shl_eq .u64 (x:=n / 11417981541647679048466287755595961091061972992%2251799813685248) (n:=1) (by decide)
    rw [show ((2^1:Nat):Int)=2 from rfl] at this
    refine this.trans (wu64_small (by omega) (by omega))
  rw [e1,e2,or_add' 1 (x:=(n / 11417981541647679048466287755595961091061972992%2251799813685248)*2) (y:=n / 5708990770823839524233143877797980545530986496%2) (a:=n / 11417981541647679048466287755595961091061972992%2251799813685248) rfl (by omega) (by omega) (by show _<(2:Int); omega) (by omega),wu8_eq]
  omega
theorem byte_20 {n:Int} (h0:0≤n):IntKind.wrap .u8 (shrV .u64 (n / 11417981541647679048466287755595961091061972992%2251799813685248) 7)=n / 1461501637330902918203684832716283019655932542976%256:=by
  have:=shr_lit (n / 11417981541647679048466287755595961091061972992%2251799813685248) 7 (by decide)
  rw [show ((2^7:Nat):Int)=128 from rfl] at this
  refine (congrArg _ this).trans ?_
  rw [wu8_eq]
  omega
theorem byte_21 {n:Int} (h0:0≤n):IntKind.wrap .u8 (shrV .u64 (n / 11417981541647679048466287755595961091061972992%2251799813685248) 15)=n / 374144419156711147060143317175368453031918731001856%256:=by
  have:=shr_lit (n / 11417981541647679048466287755595961091061972992%2251799813685248) 15 (by decide)
  rw [show ((2^15:Nat):Int)=32768 from rfl] at this
  refine (congrArg _ this).trans ?_
  rw [wu8_eq]
  omega
theorem byte_22 {n:Int} (h0:0≤n):IntKind.wrap .u8 (shrV .u64 (n / 11417981541647679048466287755595961091061972992%2251799813685248) 23)=n / 95780971304118053647396689196894323976171195136475136%256:=by
  have:=shr_lit (n / 11417981541647679048466287755595961091061972992%2251799813685248) 23 (by decide)
  rw [show ((2^23:Nat):Int)=8388608 from rfl] at this
  refine (congrArg _ this).trans ?_
  rw [wu8_eq]
  omega
theorem byte_23 {n:Int} (h0:0≤n):IntKind.wrap .u8 (shrV .u64 (n / 11417981541647679048466287755595961091061972992%2251799813685248) 31)=n / 24519928653854221733733552434404946937899825954937634816%256:=by
  have:=shr_lit (n / 11417981541647679048466287755595961091061972992%2251799813685248) 31 (by decide)
  rw [show ((2^31:Nat):Int)=2147483648 from rfl] at this
  refine (congrArg _ this).trans ?_
  rw [wu8_eq]
  omega
theorem byte_24 {n:Int} (h0:0≤n):IntKind.wrap .u8 (shrV .u64 (n / 11417981541647679048466287755595961091061972992%2251799813685248) 39)=n / 6277101735386680763835789423207666416102355444464034512896%256:=by
  have:=shr_lit (n / 11417981541647679048466287755595961091061972992%2251799813685248) 39 (by decide)
  rw [show ((2^39:Nat):Int)=549755813888 from rfl] at this
  refine (congrArg _ this).trans ?_
  rw [wu8_eq]
  omega
theorem byte_25 {n:Int} (h0:0≤n):IntKind.wrap .u8 (bitsV .or .u64 (shrV .u64 (n / 11417981541647679048466287755595961091061972992%2251799813685248) 47) (shlV .u64 (n / 25711008708143844408671393477458601640355247900524685364822016%2251799813685248) 4))=n / 1606938044258990275541962092341162602522202993782792835301376%256:=by
  have e1:shrV .u64 (n / 11417981541647679048466287755595961091061972992%2251799813685248) 47=n / 1606938044258990275541962092341162602522202993782792835301376%16:=by
    have:=shr_lit (n / 11417981541647679048466287755595961091061972992%2251799813685248) 47 (by decide)
    rw [show ((2^47:Nat):Int)=140737488355328 from rfl] at this
    refine this.trans ?_
    omega
  have e2:shlV .u64 (n / 25711008708143844408671393477458601640355247900524685364822016%2251799813685248) 4=(n / 25711008708143844408671393477458601640355247900524685364822016%2251799813685248)*16:=by
    have:=shl_eq .u64 (x:=n / 25711008708143844408671393477458601640355247900524685364822016%2251799813685248) (n:=4) (by decide)
    rw [show ((2^4:Nat):Int)=16 from rfl] at this
    refine this.trans (wu64_small (by omega) (by omega))
  rw [e1,e2,or_add' 4 (x:=(n / 25711008708143844408671393477458601640355247900524685364822016%2251799813685248)*16) (y:=n / 1606938044258990275541962092341162602522202993782792835301376%16) (a:=n / 25711008708143844408671393477458601640355247900524685364822016%2251799813685248) rfl (by omega) (by omega) (by show _<(16:Int); omega) (by omega),wu8_eq]
  omega
theorem byte_26 {n:Int} (h0:0≤n) (h1:n<57896044618658097711785492504343953926634992332820282019728792003956564819949):IntKind.wrap .u8 (shrV .u64 (n / 25711008708143844408671393477458601640355247900524685364822016%2251799813685248) 4)=n / 411376139330301510538742295639337626245683966408394965837152256%256:=by
  have:=shr_lit (n / 25711008708143844408671393477458601640355247900524685364822016%2251799813685248) 4 (by decide)
  rw [show ((2^4:Nat):Int)=16 from rfl] at this
  refine (congrArg _ this).trans ?_
  rw [wu8_eq]
  omega
theorem byte_27 {n:Int} (h0:0≤n) (h1:n<57896044618658097711785492504343953926634992332820282019728792003956564819949):IntKind.wrap .u8 (shrV .u64 (n / 25711008708143844408671393477458601640355247900524685364822016%2251799813685248) 12)=n / 105312291668557186697918027683670432318895095400549111254310977536%256:=by
  have:=shr_lit (n / 25711008708143844408671393477458601640355247900524685364822016%2251799813685248) 12 (by decide)
  rw [show ((2^12:Nat):Int)=4096 from rfl] at this
  refine (congrArg _ this).trans ?_
  rw [wu8_eq]
  omega
theorem byte_28 {n:Int} (h0:0≤n) (h1:n<57896044618658097711785492504343953926634992332820282019728792003956564819949):IntKind.wrap .u8 (shrV .u64 (n / 25711008708143844408671393477458601640355247900524685364822016%2251799813685248) 20)=n / 26959946667150639794667015087019630673637144422540572481103610249216%256:=by
  have:=shr_lit (n / 25711008708143844408671393477458601640355247900524685364822016%2251799813685248) 20 (by decide)
  rw [show ((2^20:Nat):Int)=1048576 from rfl] at this
  refine (congrArg _ this).trans ?_
  rw [wu8_eq]
  omega
theorem byte_29 {n:Int} (h0:0≤n) (h1:n<57896044618658097711785492504343953926634992332820282019728792003956564819949):IntKind.wrap .u8 (shrV .u64 (n / 25711008708143844408671393477458601640355247900524685364822016%2251799813685248) 28)=n / 6901746346790563787434755862277025452451108972170386555162524223799296%256:=by
  have:=shr_lit (n / 25711008708143844408671393477458601640355247900524685364822016%2251799813685248) 28 (by decide)
  rw [show ((2^28:Nat):Int)=268435456 from rfl] at this
  refine (congrArg _ this).trans ?_
  rw [wu8_eq]
  omega
theorem byte_30 {n:Int} (h0:0≤n) (h1:n<57896044618658097711785492504343953926634992332820282019728792003956564819949):IntKind.wrap .u8 (shrV .u64 (n / 25711008708143844408671393477458601640355247900524685364822016%2251799813685248) 36)=n / 1766847064778384329583297500742918515827483896875618958121606201292619776%256:=by
  have:=shr_lit (n / 25711008708143844408671393477458601640355247900524685364822016%2251799813685248) 36 (by decide)
  rw [show ((2^36:Nat):Int)=68719476736 from rfl] at this
  refine (congrArg _ this).trans ?_
  rw [wu8_eq]
  omega
theorem byte_31 {n:Int} (h0:0≤n) (h1:n<57896044618658097711785492504343953926634992332820282019728792003956564819949):IntKind.wrap .u8 (shrV .u64 (n / 25711008708143844408671393477458601640355247900524685364822016%2251799813685248) 44)=n / 452312848583266388373324160190187140051835877600158453279131187530910662656%256:=by
  have:=shr_lit (n / 25711008708143844408671393477458601640355247900524685364822016%2251799813685248) 44 (by decide)
  rw [show ((2^44:Nat):Int)=17592186044416 from rfl] at this
  refine (congrArg _ this).trans ?_
  rw [wu8_eq]
  omega
theorem bytes_eq {x:List Int} (hx:U5 x):field_Bytes x=some (byt (fval x%PP)):=by
  rw [field_Bytes,opt_some (reduce_eq hx),jn_eq]
  have h0:0≤fval x%PP:=Int.emod_nonneg _ (by decide)
  have h1:fval x%PP<PP:=Int.emod_lt_of_pos _ PP_pos
  unfold fred
  generalize fval x%PP=n at *
  have e:fdig n = [n%2251799813685248,n / 2251799813685248%2251799813685248,n / 5070602400912917605986812821504%2251799813685248,n / 11417981541647679048466287755595961091061972992%2251799813685248,n / 25711008708143844408671393477458601640355247900524685364822016%2251799813685248]:=rfl
  rw [e,bytes_run,byte_0 h0,byte_1 h0,byte_2 h0,byte_3 h0,byte_4 h0,byte_5 h0,byte_6 h0,byte_7 h0,byte_8 h0,byte_9 h0,byte_10 h0,byte_11 h0,byte_12 h0,byte_13 h0,byte_14 h0,byte_15 h0,byte_16 h0,byte_17 h0,byte_18 h0,byte_19 h0,byte_20 h0,byte_21 h0,byte_22 h0,byte_23 h0,byte_24 h0,byte_25 h0,byte_26 h0 h1,byte_27 h0 h1,byte_28 h0 h1,byte_29 h0 h1,byte_30 h0 h1,byte_31 h0 h1]
  rfl
theorem fb_run (k:List Int→Option (List Int)) (x:List Int):field_FromBytes_l1 x k big 0 (List.replicate 5 0)=k [bitsV .or .u64 (bitsV .or .u64 (bitsV .or .u64 (bitsV .or .u64 (bitsV .or .u64 (bitsV .or .u64 (bitsV .or .u64 (0) (bitsV .and .u64 (shlV .u64 (IntKind.wrap .u64 (x.getD 0 0)) 0) 2251799813685247)) (bitsV .and .u64 (shlV .u64 (IntKind.wrap .u64 (x.getD 1 0)) 8) 2251799813685247)) (bitsV .and .u64 (shlV .u64 (IntKind.wrap .u64 (x.getD 2 0)) 16) 2251799813685247)) (bitsV .and .u64 (shlV .u64 (IntKind.wrap .u64 (x.getD 3 0)) 24) 2251799813685247)) (bitsV .and .u64 (shlV .u64 (IntKind.wrap .u64 (x.getD 4 0)) 32) 2251799813685247)) (bitsV .and .u64 (shlV .u64 (IntKind.wrap .u64 (x.getD 5 0)) 40) 2251799813685247)) (bitsV .and .u64 (shlV .u64 (IntKind.wrap .u64 (x.getD 6 0)) 48) 2251799813685247),
  bitsV .or .u64 (bitsV .or .u64 (bitsV .or .u64 (bitsV .or .u64 (bitsV .or .u64 (bitsV .or .u64 (bitsV .or .u64 (0) (shrV .u64 (IntKind.wrap .u64 (x.getD 6 0)) 3)) (bitsV .and .u64 (shlV .u64 (IntKind.wrap .u64 (x.getD 7 0)) 5) 2251799813685247)) (bitsV .and .u64 (shlV .u64 (IntKind.wrap .u64 (x.getD 8 0)) 13) 2251799813685247)) (bitsV .and .u64 (shlV .u64 (IntKind.wrap .u64 (x.getD 9 0)) 21) 2251799813685247)) (bitsV .and .u64 (shlV .u64 (IntKind.wrap .u64 (x.getD 10 0)) 29) 2251799813685247)) (bitsV .and .u64 (shlV .u64 (IntKind.wrap .u64 (x.getD 11 0)) 37) 2251799813685247)) (bitsV .and .u64 (shlV .u64 (IntKind.wrap .u64 (x.getD 12 0)) 45) 2251799813685247),
  bitsV .or .u64 (bitsV .or .u64 (bitsV .or .u64 (bitsV .or .u64 (bitsV .or .u64 (bitsV .or .u64 (bitsV .or .u64 (bitsV .or .u64 (0) (shrV .u64 (IntKind.wrap .u64 (x.getD 12 0)) 6)) (bitsV .and .u64 (shlV .u64 (IntKind.wrap .u64 (x.getD 13 0)) 2) 2251799813685247)) (bitsV .and .u64 (shlV .u64 (IntKind.wrap .u64 (x.getD 14 0)) 10) 2251799813685247)) (bitsV .and .u64 (shlV .u64 (IntKind.wrap .u64 (x.getD 15 0)) 18) 2251799813685247)) (bitsV .and .u64 (shlV .u64 (IntKind.wrap .u64 (x.getD 16 0)) 26) 2251799813685247)) (bitsV .and .u64 (shlV .u64 (IntKind.wrap .u64 (x.getD 17 0)) 34) 2251799813685247)) (bitsV .and .u64 (shlV .u64 (IntKind.wrap .u64 (x.getD 18 0)) 42) 2251799813685247)) (bitsV .and .u64 (shlV .u64 (IntKind.wrap .u64 (x.getD 19 0)) 50) 2251799813685247),
  bitsV .or .u64 (bitsV .or .u64 (bitsV .or .u64 (bitsV .or .u64 (bitsV .or .u64 (bitsV .or .u64 (bitsV .or .u64 (0) (shrV .u64 (IntKind.wrap .u64 (x.getD 19 0)) 1)) (bitsV .and .u64 (shlV .u64 (IntKind.wrap .u64 (x.getD 20 0)) 7) 2251799813685247)) (bitsV .and .u64 (shlV .u64 (IntKind.wrap .u64 (x.getD 21 0)) 15) 2251799813685247)) (bitsV .and .u64 (shlV .u64 (IntKind.wrap .u64 (x.getD 22 0)) 23) 2251799813685247)) (bitsV .and .u64 (shlV .u64 (IntKind.wrap .u64 (x.getD 23 0)) 31) 2251799813685247)) (bitsV .and .u64 (shlV .u64 (IntKind.wrap .u64 (x.getD 24 0)) 39) 2251799813685247)) (bitsV .and .u64 (shlV .u64 (IntKind.wrap .u64 (x.getD 25 0)) 47) 2251799813685247),
  bitsV .or .u64 (bitsV .or .u64 (bitsV .or .u64 (bitsV .or .u64 (bitsV .or .u64 (bitsV .or .u64 (bitsV .or .u64 (0) (shrV .u64 (IntKind.wrap .u64 (x.getD 25 0)) 4)) (bitsV .and .u64 (shlV .u64 (IntKind.wrap .u64 (x.getD 26 0)) 4) 2251799813685247)) (bitsV .and .u64 (shlV .u64 (IntKind.wrap .u64 (x.getD 27 0)) 12) 2251799813685247)) (bitsV .and .u64 (shlV .u64 (IntKind.wrap .u64 (x.getD 28 0)) 20) 2251799813685247)) (bitsV .and .u64 (shlV .u64 (IntKind.wrap .u64 (x.getD 29 0)) 28) 2251799813685247)) (bitsV .and .u64 (shlV .u64 (IntKind.wrap .u64 (x.getD 30 0)) 36) 2251799813685247)) (bitsV .and .u64 (shlV .u64 (IntKind.wrap .u64 (bitsV .and .u8 (x.getD 31 0) 127)) 44) 2251799813685247)]:=by kernel_rfl
theorem piece_lo (k:Nat) {b:Int} (hk:k≤51) (hb:0≤b∧b<256):bitsV .and .u64 (shlV .u64 (IntKind.wrap .u64 b) (k:Int)) 2251799813685247=b%((2^(51-k):Nat):Int)*((2^k:Nat):Int):=by
  have hp:(0:Int)<((2^k:Nat):Int):=by have:=Nat.pow_pos (n:=k) (show 0<2 by decide); omega
  have hq:(0:Int)<((2^(51-k):Nat):Int):=by have:=Nat.pow_pos (n:=51-k) (show 0<2 by decide); omega
  have hle:((2^k:Nat):Int)≤2251799813685248:=by
    have:=Nat.pow_le_pow_right (show 0<2 by decide) hk
    have e:(2^51:Nat)=2251799813685248:=by decide
    omega
  have hprod:((2^k:Nat):Int)*((2^(51-k):Nat):Int)=2251799813685248:=by
    rw [← Int.natCast_mul,← Nat.pow_add,show k+(51-k)=51 by omega]; rfl
  have hbk:b*((2^k:Nat):Int)≤256*2251799813685248:=Int.mul_le_mul (by omega) hle (by omega) (by omega)
  have hbk0:0≤b*((2^k:Nat):Int):=Int.mul_nonneg hb.1 (by omega)
  rw [wu64_small hb.1 (by omega),shl_eq .u64 (n:=k) (by show k≤64; omega),wu64_small hbk0 (by omega),and51 hbk0 (by omega)]
  rw [← hprod,Int.mul_comm b,Int.mul_emod_mul_of_pos _ _ hp,Int.mul_comm]
theorem piece_hi (k:Nat) {b:Int} (hk:k≤64) (hb:0≤b∧b<256):shrV .u64 (IntKind.wrap .u64 b) (k:Int)=b / ((2^k:Nat):Int):=by
  rw [wu64_small hb.1 (by omega),shr_eq .u64 hk]
theorem limb_0 {b0 b1 b2 b3 b4 b5 b6:Int} (h0:0≤b0∧b0<256) (h1:0≤b1∧b1<256) (h2:0≤b2∧b2<256) (h3:0≤b3∧b3<256) (h4:0≤b4∧b4<256) (h5:0≤b5∧b5<256) (h6:0≤b6∧b6<256):bitsV .or .u64 (bitsV .or .u64 (bitsV .or .u64 (bitsV .or .u64 (bitsV .or .u64 (bitsV .or .u64 (bitsV .or .u64 (0) (bitsV .and .u64 (shlV .u64 (IntKind.wrap .u64 b0) 0) 2251799813685247)) (bitsV .and .u64 (shlV .u64 (IntKind.wrap .u64 b1) 8) 2251799813685247)) (bitsV .and .u64 (shlV .u64 (IntKind.wrap .u64 b2) 16) 2251799813685247)) (bitsV .and .u64 (shlV .u64 (IntKind.wrap .u64 b3) 24) 2251799813685247)) (bitsV .and .u64 (shlV .u64 (IntKind.wrap .u64 b4) 32) 2251799813685247)) (bitsV .and .u64 (shlV .u64 (IntKind.wrap .u64 b5) 40) 2251799813685247)) (bitsV .and .u64 (shlV .u64 (IntKind.wrap .u64 b6) 48) 2251799813685247)=0+b0*1+b1*256+b2*65536+b3*16777216+b4*4294967296+b5*1099511627776+b6%8*281474976710656:=by
  have p0:bitsV .and .u64 (shlV .u64 (IntKind.wrap .u64 b0) 0) 2251799813685247=b0*1:=by
    have:=piece_lo 0 (by decide) h0
    refine this.trans ?_
    rw [show ((2^(51-0):Nat):Int)=2251799813685248 from rfl,show ((2^0:Nat):Int)=1 from rfl]
    rw [Int.emod_eq_of_lt h0.1 (by omega)]
  rw [p0,or_add' 0 (x:=b0*1) (y:=0) (a:=b0) (by simp) (by omega) (by omega) (by show _<(1:Int); omega) (by omega)]
  have p1:bitsV .and .u64 (shlV .u64 (IntKind.wrap .u64 b1) 8) 2251799813685247=b1*256:=by
    have:=piece_lo 8 (by decide) h1
    refine this.trans ?_
    rw [show ((2^(51-8):Nat):Int)=8796093022208 from rfl,show ((2^8:Nat):Int)=256 from rfl]
    rw [Int.emod_eq_of_lt h1.1 (by omega)]
  rw [p1,or_add' 8 (x:=b1*256) (y:=0+b0*1) (a:=b1) (by simp) (by omega) (by omega) (by show _<(256:Int); omega) (by omega)]
  have p2:bitsV .and .u64 (shlV .u64 (IntKind.wrap .u64 b2) 16) 2251799813685247=b2*65536:=by
    have:=piece_lo 16 (by decide) h2
    refine this.trans ?_
    rw [show ((2^(51-16):Nat):Int)=34359738368 from rfl,show ((2^16:Nat):Int)=65536 from rfl]
    rw [Int.emod_eq_of_lt h2.1 (by omega)]
  rw [p2,or_add' 16 (x:=b2*65536) (y:=0+b0*1+b1*256) (a:=b2) (by simp) (by omega) (by omega) (by show _<(65536:Int); omega) (by omega)]
  have p3:bitsV .and .u64 (shlV .u64 (IntKind.wrap .u64 b3) 24) 2251799813685247=b3*16777216:=by
    have:=piece_lo 24 (by decide) h3
    refine this.trans ?_
    rw [show ((2^(51-24):Nat):Int)=134217728 from rfl,show ((2^24:Nat):Int)=16777216 from rfl]
    rw [Int.emod_eq_of_lt h3.1 (by omega)]
  rw [p3,or_add' 24 (x:=b3*16777216) (y:=0+b0*1+b1*256+b2*65536) (a:=b3) (by simp) (by omega) (by omega) (by show _<(16777216:Int); omega) (by omega)]
  have p4:bitsV .and .u64 (shlV .u64 (IntKind.wrap .u64 b4) 32) 2251799813685247=b4*4294967296:=by
    have:=piece_lo 32 (by decide) h4
    refine this.trans ?_
    rw [show ((2^(51-32):Nat):Int)=524288 from rfl,show ((2^32:Nat):Int)=4294967296 from rfl]
    rw [Int.emod_eq_of_lt h4.1 (by omega)]
  rw [p4,or_add' 32 (x:=b4*4294967296) (y:=0+b0*1+b1*256+b2*65536+b3*16777216) (a:=b4) (by simp) (by omega) (by omega) (by show _<(4294967296:Int); omega) (by omega)]
  have p5:bitsV .and .u64 (shlV .u64 (IntKind.wrap .u64 b5) 40) 2251799813685247=b5*1099511627776:=by
    have:=piece_lo 40 (by decide) h5
    refine this.trans ?_
    rw [show ((2^(51-40):Nat):Int)=2048 from rfl,show ((2^40:Nat):Int)=1099511627776 from rfl]
    rw [Int.emod_eq_of_lt h5.1 (by omega)]
  rw [p5,or_add' 40 (x:=b5*1099511627776) (y:=0+b0*1+b1*256+b2*65536+b3*16777216+b4*4294967296) (a:=b5) (by simp) (by omega) (by omega) (by show _<(1099511627776:Int); omega) (by omega)]
  have p6:bitsV .and .u64 (shlV .u64 (IntKind.wrap .u64 b6) 48) 2251799813685247=b6%8*281474976710656:=by
    have:=piece_lo 48 (by decide) h6
    refine this.trans ?_
    rw [show ((2^(51-48):Nat):Int)=8 from rfl,show ((2^48:Nat):Int)=281474976710656 from rfl]
  rw [p6,or_add' 48 (x:=b6%8*281474976710656) (y:=0+b0*1+b1*256+b2*65536+b3*16777216+b4*4294967296+b5*1099511627776) (a:=b6%8) (by simp) (by omega) (by omega) (by show _<(281474976710656:Int); omega) (by omega)]
theorem limb_1 {b6 b7 b8 b9 b10 b11 b12:Int} (h6:0≤b6∧b6<256) (h7:0≤b7∧b7<256) (h8:0≤b8∧b8<256) (h9:0≤b9∧b9<256) (h10:0≤b10∧b10<256) (h11:0≤b11∧b11<256) (h12:0≤b12∧b12<256):bitsV .or .u64 (bitsV .or .u64 (bitsV .or .u64 (bitsV .or .u64 (bitsV .or .u64 (bitsV .or .u64 (bitsV .or .u64 (0) (shrV .u64 (IntKind.wrap .u64 b6) 3)) (bitsV .and .u64 (shlV .u64 (IntKind.wrap .u64 b7) 5) 2251799813685247)) (bitsV .and .u64 (shlV .u64 (IntKind.wrap .u64 b8) 13) 2251799813685247)) (bitsV .and .u64 (shlV .u64 (IntKind.wrap .u64 b9) 21) 2251799813685247)) (bitsV .and .u64 (shlV .u64 (IntKind.wrap .u64 b10) 29) 2251799813685247)) (bitsV .and .u64 (shlV .u64 (IntKind.wrap .u64 b11) 37) 2251799813685247)) (bitsV .and .u64 (shlV .u64 (IntKind.wrap .u64 b12) 45) 2251799813685247)=0+b6 / 8+b7*32+b8*8192+b9*2097152+b10*536870912+b11*137438953472+b12%64*35184372088832:=by
  have p0:shrV .u64 (IntKind.wrap .u64 b6) 3=b6 / 8:=by
    have:=piece_hi 3 (by decide) h6
    refine this.trans ?_
    rw [show ((2^3:Nat):Int)=8 from rfl]
  rw [p0,or_add' 0 (x:=b6 / 8) (y:=0) (a:=b6 / 8) (by simp) (by omega) (by omega) (by show _<(1:Int); omega) (by omega)]
  have p1:bitsV .and .u64 (shlV .u64 (IntKind.wrap .u64 b7) 5) 2251799813685247=b7*32:=by
    have:=piece_lo 5 (by decide) h7
    refine this.trans ?_
    rw [show ((2^(51-5):Nat):Int)=70368744177664 from rfl,show ((2^5:Nat):Int)=32 from rfl]
    rw [Int.emod_eq_of_lt h7.1 (by omega)]
  rw [p1,or_add' 5 (x:=b7*32) (y:=0+b6 / 8) (a:=b7) (by simp) (by omega) (by omega) (by show _<(32:Int); omega) (by omega)]
  have p2:bitsV .and .u64 (shlV .u64 (IntKind.wrap .u64 b8) 13) 2251799813685247=b8*8192:=by
    have:=piece_lo 13 (by decide) h8
    refine this.trans ?_
    rw [show ((2^(51-13):Nat):Int)=274877906944 from rfl,show ((2^13:Nat):Int)=8192 from rfl]
    rw [Int.emod_eq_of_lt h8.1 (by omega)]
  rw [p2,or_add' 13 (x:=b8*8192) (y:=0+b6 / 8+b7*32) (a:=b8) (by simp) (by omega) (by omega) (by show _<(8192:Int); omega) (by omega)]
  have p3:bitsV .and .u64 (shlV .u64 (IntKind.wrap .u64 b9) 21) 2251799813685247=b9*2097152:=by
    have:=piece_lo 21 (by decide) h9
    refine this.trans ?_
    rw [show ((2^(51-21):Nat):Int)=1073741824 from rfl,show ((2^21:Nat):Int)=2097152 from rfl]
    rw [Int.emod_eq_of_lt h9.1 (by omega)]
  rw [p3,or_add' 21 (x:=b9*2097152) (y:=0+b6 / 8+b7*32+b8*8192) (a:=b9) (by simp) (by omega) (by omega) (by show _<(2097152:Int); omega) (by omega)]
  have p4:bitsV .and .u64 (shlV .u64 (IntKind.wrap .u64 b10) 29) 2251799813685247=b10*536870912:=by
    have:=piece_lo 29 (by decide) h10
    refine this.trans ?_
    rw [show ((2^(51-29):Nat):Int)=4194304 from rfl,show ((2^29:Nat):Int)=536870912 from rfl]
    rw [Int.emod_eq_of_lt h10.1 (by omega)]
  rw [p4,or_add' 29 (x:=b10*536870912) (y:=0+b6 / 8+b7*32+b8*8192+b9*2097152) (a:=b10) (by simp) (by omega) (by omega) (by show _<(536870912:Int); omega) (by omega)]
  have p5:bitsV .and .u64 (shlV .u64 (IntKind.wrap .u64 b11) 37) 2251799813685247=b11*137438953472:=by
    have:=piece_lo 37 (by decide) h11
    refine this.trans ?_
    rw [show ((2^(51-37):Nat):Int)=16384 from rfl,show ((2^37:Nat):Int)=137438953472 from rfl]
    rw [Int.emod_eq_of_lt h11.1 (by omega)]
  rw [p5,or_add' 37 (x:=b11*137438953472) (y:=0+b6 / 8+b7*32+b8*8192+b9*2097152+b10*536870912) (a:=b11) (by simp) (by omega) (by omega) (by show _<(137438953472:Int); omega) (by omega)]
  have p6:bitsV .and .u64 (shlV .u64 (IntKind.wrap .u64 b12) 45) 2251799813685247=b12%64*35184372088832:=by
    have:=piece_lo 45 (by decide) h12
    refine this.trans ?_
    rw [show ((2^(51-45):Nat):Int)=64 from rfl,show ((2^45:Nat):Int)=35184372088832 from rfl]
  rw [p6,or_add' 45 (x:=b12%64*35184372088832) (y:=0+b6 / 8+b7*32+b8*8192+b9*2097152+b10*536870912+b11*137438953472) (a:=b12%64) (by simp) (by omega) (by omega) (by show _<(35184372088832:Int); omega) (by omega)]
theorem limb_2 {b12 b13 b14 b15 b16 b17 b18 b19:Int} (h12:0≤b12∧b12<256) (h13:0≤b13∧b13<256) (h14:0≤b14∧b14<256) (h15:0≤b15∧b15<256) (h16:0≤b16∧b16<256) (h17:0≤b17∧b17<256) (h18:0≤b18∧b18<256) (h19:0≤b19∧b19<256):bitsV .or .u64 (bitsV .or .u64 (bitsV .or .u64 (bitsV .or .u64 (bitsV .or .u64 (bitsV .or .u64 (bitsV .or .u64 (bitsV .or .u64 (0) (shrV .u64 (IntKind.wrap .u64 b12) 6)) (bitsV .and .u64 (shlV .u64 (IntKind.wrap .u64 b13) 2) 2251799813685247)) (bitsV .and .u64 (shlV .u64 (IntKind.wrap .u64 b14) 10) 2251799813685247)) (bitsV .and .u64 (shlV .u64 (IntKind.wrap .u64 b15) 18) 2251799813685247)) (bitsV .and .u64 (shlV .u64 (IntKind.wrap .u64 b16) 26) 2251799813685247)) (bitsV .and .u64 (shlV .u64 (IntKind.wrap .u64 b17) 34) 2251799813685247)) (bitsV .and .u64 (shlV .u64 (IntKind.wrap .u64 b18) 42) 2251799813685247)) (bitsV .and .u64 (shlV .u64 (IntKind.wrap .u64 b19) 50) 2251799813685247)=0+b12 / 64+b13*4+b14*1024+b15*262144+b16*67108864+b17*17179869184+b18*4398046511104+b19%2*1125899906842624:=by
  have p0:shrV .u64 (IntKind.wrap .u64 b12) 6=b12 / 64:=by
    have:=piece_hi 6 (by decide) h12
    refine this.trans ?_
    rw [show ((2^6:Nat):Int)=64 from rfl]
  rw [p0,or_add' 0 (x:=b12 / 64) (y:=0) (a:=b12 / 64) (by simp) (by omega) (by omega) (by show _<(1:Int); omega) (by omega)]
  have p1:bitsV .and .u64 (shlV .u64 (IntKind.wrap .u64 b13) 2) 2251799813685247=b13*4:=by
    have:=piece_lo 2 (by decide) h13
    refine this.trans ?_
    rw [show ((2^(51-2):Nat):Int)=562949953421312 from rfl,show ((2^2:Nat):Int)=4 from rfl]
    rw [Int.emod_eq_of_lt h13.1 (by omega)]
  rw [p1,or_add' 2 (x:=b13*4) (y:=0+b12 / 64) (a:=b13) (by simp) (by omega) (by omega) (by show _<(4:Int); omega) (by omega)]
  have p2:bitsV .and .u64 (shlV .u64 (IntKind.wrap .u64 b14) 10) 2251799813685247=b14*1024:=by
    have:=piece_lo 10 (by decide) h14
    refine this.trans ?_
    rw [show ((2^(51-10):Nat):Int)=2199023255552 from rfl,show ((2^10:Nat):Int)=1024 from rfl]
    rw [Int.emod_eq_of_lt h14.1 (by omega)]
  rw [p2,or_add' 10 (x:=b14*1024) (y:=0+b12 / 64+b13*4) (a:=b14) (by simp) (by omega) (by omega) (by show _<(1024:Int); omega) (by omega)]
  have p3:bitsV .and .u64 (shlV .u64 (IntKind.wrap .u64 b15) 18) 2251799813685247=b15*262144:=by
    have:=piece_lo 18 (by decide) h15
    refine this.trans ?_
    rw [show ((2^(51-18):Nat):Int)=8589934592 from rfl,show ((2^18:Nat):Int)=262144 from rfl]
    rw [Int.emod_eq_of_lt h15.1 (by omega)]
  rw [p3,or_add' 18 (x:=b15*262144) (y:=0+b12 / 64+b13*4+b14*1024) (a:=b15) (by simp) (by omega) (by omega) (by show _<(262144:Int); omega) (by omega)]
  have p4:bitsV .and .u64 (shlV .u64 (IntKind.wrap .u64 b16) 26) 2251799813685247=b16*67108864:=by
    have:=piece_lo 26 (by decide) h16
    refine this.trans ?_
    rw [show ((2^(51-26):Nat):Int)=33554432 from rfl,show ((2^26:Nat):Int)=67108864 from rfl]
    rw [Int.emod_eq_of_lt h16.1 (by omega)]
  rw [p4,or_add' 26 (x:=b16*67108864) (y:=0+b12 / 64+b13*4+b14*1024+b15*262144) (a:=b16) (by simp) (by omega) (by omega) (by show _<(67108864:Int); omega) (by omega)]
  have p5:bitsV .and .u64 (shlV .u64 (IntKind.wrap .u64 b17) 34) 2251799813685247=b17*17179869184:=by
    have:=piece_lo 34 (by decide) h17
    refine this.trans ?_
    rw [show ((2^(51-34):Nat):Int)=131072 from rfl,show ((2^34:Nat):Int)=17179869184 from rfl]
    rw [Int.emod_eq_of_lt h17.1 (by omega)]
  rw [p5,or_add' 34 (x:=b17*17179869184) (y:=0+b12 / 64+b13*4+b14*1024+b15*262144+b16*67108864) (a:=b17) (by simp) (by omega) (by omega) (by show _<(17179869184:Int); omega) (by omega)]
  have p6:bitsV .and .u64 (shlV .u64 (IntKind.wrap .u64 b18) 42) 2251799813685247=b18*4398046511104:=by
    have:=piece_lo 42 (by decide) h18
    refine this.trans ?_
    rw [show ((2^(51-42):Nat):Int)=512 from rfl,show ((2^42:Nat):Int)=4398046511104 from rfl]
    rw [Int.emod_eq_of_lt h18.1 (by omega)]
  rw [p6,or_add' 42 (x:=b18*4398046511104) (y:=0+b12 / 64+b13*4+b14*1024+b15*262144+b16*67108864+b17*17179869184) (a:=b18) (by simp) (by omega) (by omega) (by show _<(4398046511104:Int); omega) (by omega)]
  have p7:bitsV .and .u64 (shlV .u64 (IntKind.wrap .u64 b19) 50) 2251799813685247=b19%2*1125899906842624:=by
    have:=piece_lo 50 (by decide) h19
    refine this.trans ?_
    rw [show ((2^(51-50):Nat):Int)=2 from rfl,show ((2^50:Nat):Int)=1125899906842624 from rfl]
  rw [p7,or_add' 50 (x:=b19%2*1125899906842624) (y:=0+b12 / 64+b13*4+b14*1024+b15*262144+b16*67108864+b17*17179869184+b18*4398046511104) (a:=b19%2) (by simp) (by omega) (by omega) (by show _<(1125899906842624:Int); omega) (by omega)]
theorem limb_3 {b19 b20 b21 b22 b23 b24 b25:Int} (h19:0≤b19∧b19<256) (h20:0≤b20∧b20<256) (h21:0≤b21∧b21<256) (h22:0≤b22∧b22<256) (h23:0≤b23∧b23<256) (h24:0≤b24∧b24<256) (h25:0≤b25∧b25<256):bitsV .or .u64 (bitsV .or .u64 (bitsV .or .u64 (bitsV .or .u64 (bitsV .or .u64 (bitsV .or .u64 (bitsV .or .u64 (0) (shrV .u64 (IntKind.wrap .u64 b19) 1)) (bitsV .and .u64 (shlV .u64 (IntKind.wrap .u64 b20) 7) 2251799813685247)) (bitsV .and .u64 (shlV .u64 (IntKind.wrap .u64 b21) 15) 2251799813685247)) (bitsV .and .u64 (shlV .u64 (IntKind.wrap .u64 b22) 23) 2251799813685247)) (bitsV .and .u64 (shlV .u64 (IntKind.wrap .u64 b23) 31) 2251799813685247)) (bitsV .and .u64 (shlV .u64 (IntKind.wrap .u64 b24) 39) 2251799813685247)) (bitsV .and .u64 (shlV .u64 (IntKind.wrap .u64 b25) 47) 2251799813685247)=0+b19 / 2+b20*128+b21*32768+b22*8388608+b23*2147483648+b24*549755813888+b25%16*140737488355328:=by
  have p0:shrV .u64 (IntKind.wrap .u64 b19) 1=b19 / 2:=by
    have:=piece_hi 1 (by decide) h19
    refine this.trans ?_
    rw [show ((2^1:Nat):Int)=2 from rfl]
  rw [p0,or_add' 0 (x:=b19 / 2) (y:=0) (a:=b19 / 2) (by simp) (by omega) (by omega) (by show _<(1:Int); omega) (by omega)]
  have p1:bitsV .and .u64 (shlV .u64 (IntKind.wrap .u64 b20) 7) 2251799813685247=b20*128:=by
    have:=piece_lo 7 (by decide) h20
    refine this.trans ?_
    rw [show ((2^(51-7):Nat):Int)=17592186044416 from rfl,show ((2^7:Nat):Int)=128 from rfl]
    rw [Int.emod_eq_of_lt h20.1 (by omega)]
  rw [p1,or_add' 7 (x:=b20*128) (y:=0+b19 / 2) (a:=b20) (by simp) (by omega) (by omega) (by show _<(128:Int); omega) (by omega)]
  have p2:bitsV .and .u64 (shlV .u64 (IntKind.wrap .u64 b21) 15) 2251799813685247=b21*32768:=by
    have:=piece_lo 15 (by decide) h21
    refine this.trans ?_
    rw [show ((2^(51-15):Nat):Int)=68719476736 from rfl,show ((2^15:Nat):Int)=32768 from rfl]
    rw [Int.emod_eq_of_lt h21.1 (by omega)]
  rw [p2,or_add' 15 (x:=b21*32768) (y:=0+b19 / 2+b20*128) (a:=b21) (by simp) (by omega) (by omega) (by show _<(32768:Int); omega) (by omega)]
  have p3:bitsV .and .u64 (shlV .u64 (IntKind.wrap .u64 b22) 23) 2251799813685247=b22*8388608:=by
    have:=piece_lo 23 (by decide) h22
    refine this.trans ?_
    rw [show ((2^(51-23):Nat):Int)=268435456 from rfl,show ((2^23:Nat):Int)=8388608 from rfl]
    rw [Int.emod_eq_of_lt h22.1 (by omega)]
  rw [p3,or_add' 23 (x:=b22*8388608) (y:=0+b19 / 2+b20*128+b21*32768) (a:=b22) (by simp) (by omega) (by omega) (by show _<(8388608:Int); omega) (by omega)]
  have p4:bitsV .and .u64 (shlV .u64 (IntKind.wrap .u64 b23) 31) 2251799813685247=b23*2147483648:=by
    have:=piece_lo 31 (by decide) h23
    refine this.trans ?_
    rw [show ((2^(51-31):Nat):Int)=1048576 from rfl,show ((2^31:Nat):Int)=2147483648 from rfl]
    rw [Int.emod_eq_of_lt h23.1 (by omega)]
  rw [p4,or_add' 31 (x:=b23*2147483648) (y:=0+b19 / 2+b20*128+b21*32768+b22*8388608) (a:=b23) (by simp) (by omega) (by omega) (by show _<(2147483648:Int); omega) (by omega)]
  have p5:bitsV .and .u64 (shlV .u64 (IntKind.wrap .u64 b24) 39) 2251799813685247=b24*549755813888:=by
    have:=piece_lo 39 (by decide) h24
    refine this.trans ?_
    rw [show ((2^(51-39):Nat):Int)=4096 from rfl,show ((2^39:Nat):Int)=549755813888 from rfl]
    rw [Int.emod_eq_of_lt h24.1 (by omega)]
  rw [p5,or_add' 39 (x:=b24*549755813888) (y:=0+b19 / 2+b20*128+b21*32768+b22*8388608+b23*2147483648) (a:=b24) (by simp) (by omega) (by omega) (by show _<(549755813888:Int); omega) (by omega)]
  have p6:bitsV .and .u64 (shlV .u64 (IntKind.wrap .u64 b25) 47) 2251799813685247=b25%16*140737488355328:=by
    have:=piece_lo 47 (by decide) h25
    refine this.trans ?_
    rw [show ((2^(51-47):Nat):Int)=16 from rfl,show ((2^47:Nat):Int)=140737488355328 from rfl]
  rw [p6,or_add' 47 (x:=b25%16*140737488355328) (y:=0+b19 / 2+b20*128+b21*32768+b22*8388608+b23*2147483648+b24*549755813888) (a:=b25%16) (by simp) (by omega) (by omega) (by show _<(140737488355328:Int); omega) (by omega)]
theorem limb_4 {b25 b26 b27 b28 b29 b30 b31:Int} (h25:0≤b25∧b25<256) (h26:0≤b26∧b26<256) (h27:0≤b27∧b27<256) (h28:0≤b28∧b28<256) (h29:0≤b29∧b29<256) (h30:0≤b30∧b30<256) (h31:0≤b31∧b31<256):bitsV .or .u64 (bitsV .or .u64 (bitsV .or .u64 (bitsV .or .u64 (bitsV .or .u64 (bitsV .or .u64 (bitsV .or .u64 (0) (shrV .u64 (IntKind.wrap .u64 b25) 4)) (bitsV .and .u64 (shlV .u64 (IntKind.wrap .u64 b26) 4) 2251799813685247)) (bitsV .and .u64 (shlV .u64 (IntKind.wrap .u64 b27) 12) 2251799813685247)) (bitsV .and .u64 (shlV .u64 (IntKind.wrap .u64 b28) 20) 2251799813685247)) (bitsV .and .u64 (shlV .u64 (IntKind.wrap .u64 b29) 28) 2251799813685247)) (bitsV .and .u64 (shlV .u64 (IntKind.wrap .u64 b30) 36) 2251799813685247)) (bitsV .and .u64 (shlV .u64 (IntKind.wrap .u64 b31) 44) 2251799813685247)=0+b25 / 16+b26*16+b27*4096+b28*1048576+b29*268435456+b30*68719476736+b31%128*17592186044416:=by
  have p0:shrV .u64 (IntKind.wrap .u64 b25) 4=b25 / 16:=by
    have:=piece_hi 4 (by decide) h25
    refine this.trans ?_
    rw [show ((2^4:Nat):Int)=16 from rfl]
  rw [p0,or_add' 0 (x:=b25 / 16) (y:=0) (a:=b25 / 16) (by simp) (by omega) (by omega) (by show _<(1:Int); omega) (by omega)]
  have p1:bitsV .and .u64 (shlV .u64 (IntKind.wrap .u64 b26) 4) 2251799813685247=b26*16:=by
    have:=piece_lo 4 (by decide) h26
    refine this.trans ?_
    rw [show ((2^(51-4):Nat):Int)=140737488355328 from rfl,show ((2^4:Nat):Int)=16 from rfl]
    rw [Int.emod_eq_of_lt h26.1 (by omega)]
  rw [p1,or_add' 4 (x:=b26*16) (y:=0+b25 / 16) (a:=b26) (by simp) (by omega) (by omega) (by show _<(16:Int); omega) (by omega)]
  have p2:bitsV .and .u64 (shlV .u64 (IntKind.wrap .u64 b27) 12) 2251799813685247=b27*4096:=by
    have:=piece_lo 12 (by decide) h27
    refine this.trans ?_
    rw [show ((2^(51-12):Nat):Int)=549755813888 from rfl,show ((2^12:Nat):Int)=4096 from rfl]
    rw [Int.emod_eq_of_lt h27.1 (by omega)]
  rw [p2,or_add' 12 (x:=b27*4096) (y:=0+b25 / 16+b26*16) (a:=b27) (by simp) (by omega) (by omega) (by show _<(4096:Int); omega) (by omega)]
  have p3:bitsV .and .u64 (shlV .u64 (IntKind.wrap .u64 b28) 20) 2251799813685247=b28*1048576:=by
    have:=piece_lo 20 (by decide) h28
    refine this.trans ?_
    rw [show ((2^(51-20):Nat):Int)=2147483648 from rfl,show ((2^20:Nat):Int)=1048576 from rfl]
    rw [Int.emod_eq_of_lt h28.1 (by omega)]
  rw [p3,or_add' 20 (x:=b28*1048576) (y:=0+b25 / 16+b26*16+b27*4096) (a:=b28) (by simp) (by omega) (by omega) (by show _<(1048576:Int); omega) (by omega)]
  have p4:bitsV .and .u64 (shlV .u64 (IntKind.wrap .u64 b29) 28) 2251799813685247=b29*268435456:=by
    have:=piece_lo 28 (by decide) h29
    refine this.trans ?_
    rw [show ((2^(51-28):Nat):Int)=8388608 from rfl,show ((2^28:Nat):Int)=268435456 from rfl]
    rw [Int.emod_eq_of_lt h29.1 (by omega)]
  rw [p4,or_add' 28 (x:=b29*268435456) (y:=0+b25 / 16+b26*16+b27*4096+b28*1048576) (a:=b29) (by simp) (by omega) (by omega) (by show _<(268435456:Int); omega) (by omega)]
  have p5:bitsV .and .u64 (shlV .u64 (IntKind.wrap .u64 b30) 36) 2251799813685247=b30*68719476736:=by
    have:=piece_lo 36 (by decide) h30
    refine this.trans ?_
    rw [show ((2^(51-36):Nat):Int)=32768 from rfl,show ((2^36:Nat):Int)=68719476736 from rfl]
    rw [Int.emod_eq_of_lt h30.1 (by omega)]
  rw [p5,or_add' 36 (x:=b30*68719476736) (y:=0+b25 / 16+b26*16+b27*4096+b28*1048576+b29*268435456) (a:=b30) (by simp) (by omega) (by omega) (by show _<(68719476736:Int); omega) (by omega)]
  have p6:bitsV .and .u64 (shlV .u64 (IntKind.wrap .u64 b31) 44) 2251799813685247=b31%128*17592186044416:=by
    have:=piece_lo 44 (by decide) h31
    refine this.trans ?_
    rw [show ((2^(51-44):Nat):Int)=128 from rfl,show ((2^44:Nat):Int)=17592186044416 from rfl]
  rw [p6,or_add' 44 (x:=b31%128*17592186044416) (y:=0+b25 / 16+b26*16+b27*4096+b28*1048576+b29*268435456+b30*68719476736) (a:=b31%128) (by simp) (by omega) (by omega) (by show _<(17592186044416:Int); omega) (by omega)]
def bval (x:List Int):Int:=x.getD 0 0+x.getD 1 0*256+x.getD 2 0*65536+x.getD 3 0*16777216+x.getD 4 0*4294967296+x.getD 5 0*1099511627776+x.getD 6 0*281474976710656+x.getD 7 0*72057594037927936+x.getD 8 0*18446744073709551616+x.getD 9 0*4722366482869645213696+x.getD 10 0*1208925819614629174706176+x.getD 11 0*309485009821345068724781056+x.getD 12 0*79228162514264337593543950336+x.getD 13 0*20282409603651670423947251286016+x.getD 14 0*5192296858534827628530496329220096+x.getD 15 0*1329227995784915872903807060280344576+x.getD 16 0*340282366920938463463374607431768211456+x.getD 17 0*87112285931760246646623899502532662132736+x.getD 18 0*22300745198530623141535718272648361505980416+x.getD 19 0*5708990770823839524233143877797980545530986496+x.getD 20 0*1461501637330902918203684832716283019655932542976+x.getD 21 0*374144419156711147060143317175368453031918731001856+x.getD 22 0*95780971304118053647396689196894323976171195136475136+x.getD 23 0*24519928653854221733733552434404946937899825954937634816+x.getD 24 0*6277101735386680763835789423207666416102355444464034512896+x.getD 25 0*1606938044258990275541962092341162602522202993782792835301376+x.getD 26 0*411376139330301510538742295639337626245683966408394965837152256+x.getD 27 0*105312291668557186697918027683670432318895095400549111254310977536+x.getD 28 0*26959946667150639794667015087019630673637144422540572481103610249216+x.getD 29 0*6901746346790563787434755862277025452451108972170386555162524223799296+x.getD 30 0*1766847064778384329583297500742918515827483896875618958121606201292619776+x.getD 31 0%128*452312848583266388373324160190187140051835877600158453279131187530910662656
theorem fromBytes_eq {x:List Int} (h:Byt x):field_FromBytes x=some (fe (bval x)):=by
  rw [field_FromBytes,jn_eq,fb_run]
  have e31:bitsV .and .u8 (x.getD 31 0) 127=x.getD 31 0%128:=and_low8 7 (by decide) (by decide) (h 31).1 (h 31).2
  have h31:0≤x.getD 31 0%128∧x.getD 31 0%128<256:=by have:=h 31; omega
  rw [e31,limb_0 (h 0) (h 1) (h 2) (h 3) (h 4) (h 5) (h 6),limb_1 (h 6) (h 7) (h 8) (h 9) (h 10) (h 11) (h 12),limb_2 (h 12) (h 13) (h 14) (h 15) (h 16) (h 17) (h 18) (h 19),limb_3 (h 19) (h 20) (h 21) (h 22) (h 23) (h 24) (h 25),limb_4 (h 25) (h 26) (h 27) (h 28) (h 29) (h 30) h31]
  have g0:=h 0
  have g1:=h 1
  have g2:=h 2
  have g3:=h 3
  have g4:=h 4
  have g5:=h 5
  have g6:=h 6
  have g7:=h 7
  have g8:=h 8
  have g9:=h 9
  have g10:=h 10
  have g11:=h 11
  have g12:=h 12
  have g13:=h 13
  have g14:=h 14
  have g15:=h 15
  have g16:=h 16
  have g17:=h 17
  have g18:=h 18
  have g19:=h 19
  have g20:=h 20
  have g21:=h 21
  have g22:=h 22
  have g23:=h 23
  have g24:=h 24
  have g25:=h 25
  have g26:=h 26
  have g27:=h 27
  have g28:=h 28
  have g29:=h 29
  have g30:=h 30
  have g31:=h 31
  rw [opt_some (reduce_eq (U5.mk5 (by omega) (by omega) (by omega) (by omega) (by omega)))]
  unfold fred fe
  congr 3
  simp only [fval,bval,List.getD_cons_zero,List.getD_cons_succ]
  omega
theorem emod_pp (a:Int):a%PP%PP=a%PP:=Int.emod_emod_of_dvd _ (Int.dvd_refl _)
theorem fmul (a b:Int):field_Mul (fe a) (fe b)=some (fe (a*b)):=by
  rw [mul_eq (fe_U5 a) (fe_U5 b),fval_fe,fval_fe,← Int.mul_emod]; rfl
theorem fsquare (a:Int):field_Square (fe a)=some (fe (a*a)):=by
  rw [square_eq (fe_U5 a),fval_fe,← Int.mul_emod]; rfl
theorem fadd (a b:Int):field_Add (fe a) (fe b)=some (fe (a+b)):=by
  rw [add_eq (fe_U5 a) (fe_U5 b),fval_fe,fval_fe,fe_congr]
  exact (Int.add_emod _ _ _).symm
theorem fsub (a b:Int):field_Sub (fe a) (fe b)=some (fe (a-b)):=by
  rw [sub_eq (fe_U5 a) (fe_U5 b),fval_fe,fval_fe,fe_congr]
  exact (Int.sub_emod _ _ _).symm
structure Q4 where
  x:Int
  y:Int
  z:Int
  t:Int
  deriving DecidableEq
def pt (q:Q4):api_Point:=⟨fe q.x,fe q.y,fe q.z,fe q.t⟩
def qred (q:Q4):Q4:=⟨q.x%PP,q.y%PP,q.z%PP,q.t%PP⟩
theorem pt_red (q:Q4):pt (qred q)=pt q:=by simp only [pt,qred,fe_mod]
def D2:Int:=16295367250680780974490674513165176452449235426866156013048779062215315747161
def qclosed (e f g h:Int):Q4:=⟨e*f,g*h,f*g,e*h⟩
def qadd (p q:Q4):Q4 :=
  let a:=(p.y-p.x)*(q.y-q.x)
  let b:=(p.y+p.x)*(q.y+q.x)
  let c:=p.t*D2*q.t
  let d:=(p.z+p.z)*q.z
  qclosed (b-a) (d-c) (d+c) (b+a)
def qdbl (p:Q4):Q4 :=
  let a:=p.x*p.x
  let b:=p.y*p.y
  let z:=p.z*p.z
  let h:=a+b
  let e:=h-(p.x+p.y)*(p.x+p.y)
  let g:=a-b
  qclosed e (z+z+g) g h
theorem closed_eq (e f g h:Int):curve_closed (fe e) (fe f) (fe g) (fe h)=some (pt (qclosed e f g h)):=by
  rw [curve_closed,opt_some (fmul e f),opt_some (fmul g h),opt_some (fmul f g),opt_some (fmul e h)]; rfl
theorem doubled_eq:curve_doubled=some (fe D2):=by
  rw [curve_doubled,bnd_eq]
  congr 1
theorem cadd_eq (p q:Q4):curve_Add (pt p) (pt q)=some (pt (qadd p q)):=by
  rw [curve_Add]
  show opt (field_Sub (fe p.y) (fe p.x)) _=_
  rw [opt_some (fsub p.y p.x)]
  show opt (field_Sub (fe q.y) (fe q.x)) _=_
  rw [opt_some (fsub q.y q.x),opt_some (fmul _ _)]
  show opt (field_Add (fe p.y) (fe p.x)) _=_
  rw [opt_some (fadd p.y p.x)]
  show opt (field_Add (fe q.y) (fe q.x)) _=_
  rw [opt_some (fadd q.y q.x),opt_some (fmul _ _),opt_some doubled_eq]
  show opt (field_Mul (fe p.t) (fe D2)) _=_
  rw [opt_some (fmul _ _)]
  show opt (field_Mul (fe (p.t*D2)) (fe q.t)) _=_
  rw [opt_some (fmul _ _)]
  show opt (field_Add (fe p.z) (fe p.z)) _=_
  rw [opt_some (fadd _ _)]
  show opt (field_Mul (fe (p.z+p.z)) (fe q.z)) _=_
  rw [opt_some (fmul _ _),opt_some (fsub _ _),opt_some (fsub _ _),opt_some (fadd _ _),opt_some (fadd _ _),opt_some (closed_eq _ _ _ _)]
  rfl
theorem cdbl_eq (p:Q4):curve_Double (pt p)=some (pt (qdbl p)):=by
  rw [curve_Double]
  show opt (field_Square (fe p.x)) _=_
  rw [opt_some (fsquare _)]
  show opt (field_Square (fe p.y)) _=_
  rw [opt_some (fsquare _)]
  show opt (field_Square (fe p.z)) _=_
  rw [opt_some (fsquare _),opt_some (fadd _ _)]
  show opt (field_Add (fe p.x) (fe p.y)) _=_
  rw [opt_some (fadd _ _),opt_some (fsquare _),opt_some (fsub _ _),opt_some (fsub _ _),opt_some (fadd _ _),opt_some (fadd _ _),opt_some (closed_eq _ _ _ _)]
  rfl
def qzero:Q4:=⟨0,1,1,0⟩
theorem unit_eq:curve_unit=some (fe 1):=by rw [curve_unit,bnd_eq]; congr 1
theorem zero_eq:curve_Zero=some (pt qzero):=by
  rw [curve_Zero,opt_some unit_eq,opt_some unit_eq]
  have:(List.replicate 5 0:List Int)=fe 0:=by decide
  rw [this]; rfl
def qadd' (p q:Q4):Q4:=qred (qadd p q)
def qdbl' (p:Q4):Q4:=qred (qdbl p)
theorem cadd_eq' (p q:Q4):curve_Add (pt p) (pt q)=some (pt (qadd' p q)):=by rw [cadd_eq]; unfold qadd'; rw [pt_red]
theorem cdbl_eq' (p:Q4):curve_Double (pt p)=some (pt (qdbl' p)):=by rw [cdbl_eq]; unfold qdbl'; rw [pt_red]
def tab (p:Q4):Nat→Q4
  | 0=>qzero
  | i+1=>qadd' (tab p i) p
def tabL (f:Nat→api_Point) (i:Nat):List api_Point:=(List.range 16).map fun j=>if j≤i then f j else api_Point_z
theorem tabL_set (f:Nat→api_Point) {i:Nat} (hi:i<15):setG api_Point_z (tabL f i) (i+1) (f (i+1))=tabL f (i+1):=by
  rw [setG_eq (by simp [tabL]; omega)]
  apply List.ext_getElem
  · simp [tabL]
  · intro j h1 h2
    simp only [tabL,List.getElem_set,List.getElem_map,List.getElem_range]
    by_cases hj:i+1=j
    · subst hj; simp
    · rw [if_neg hj]
      by_cases h:j≤i
      · rw [if_pos h,if_pos (by omega)]
      · rw [if_neg h,if_neg (by omega)]
theorem tabL_get (f:Nat→api_Point) {i j:Nat} (hj:j≤i) (hi:i<16):(tabL f i).getD j api_Point_z=f j:=by
  simp only [tabL,List.getD,List.getElem?_map,List.getElem?_range (show j<16 by omega),Option.map_some,Option.getD_some,if_pos hj]
theorem mult_round (p:Q4) {kk:List api_Point→Option (List api_Point)} {k':Int→List api_Point→Option (List api_Point)} {i:Nat} (hi:i<15) :
    curve_multiples_b1 (pt p) kk k' (i:Int) (tabL (fun j=>pt (tab p j)) i)=k' ((i+1:Nat):Int) (tabL (fun j=>pt (tab p j)) (i+1)):=by
  rw [curve_multiples_b1,br_tt (by simp; omega)]
  simp only [bnd_eq]
  rw [wi64_small (by omega) (by omega),chk_t (inB_t (by omega) (by omega)),Int.toNat_natCast,tabL_get _ (Nat.le_refl i) (by omega),opt_some (cadd_eq' _ _),chk_t (inB_t (by omega) (by omega))]
  have e:((i:Int)+1).toNat=i+1:=by omega
  have e2:(i:Int)+1=((i+1:Nat):Int):=by omega
  rw [e]
  have:=tabL_set (fun j=>pt (tab p j)) hi
  rw [show pt (qadd' (tab p i) p)=pt (tab p (i+1)) from rfl,this,e2]
theorem mult_loop (p:Q4) : ∀ (k n:Nat),k≤15→curve_multiples_l1 (pt p) some (n+1+k) ((15-k:Nat):Int) (tabL (fun j=>pt (tab p j)) (15-k))=some (tabL (fun j=>pt (tab p j)) 15)
  | 0,n,_=>by
    rw [show n+1+0=n+1 from rfl,curve_multiples_l1,curve_multiples_b1,br_ff (by decide)]
  | k+1,n,hk=>by
    have ih:=mult_loop p k n (by omega)
    rw [← Nat.add_assoc,curve_multiples_l1,mult_round p (by omega)]
    rw [show 15-(k+1)+1=15-k by omega]
    exact ih
theorem multiples_eq (p:Q4):curve_multiples (pt p)=some (tabL (fun j=>pt (tab p j)) 15):=by
  rw [curve_multiples,opt_some zero_eq,bnd_eq,jn_eq]
  obtain ⟨n,hn⟩ : ∃ n,big=n+1+15:=⟨18446744073709551600,big_eq⟩
  have:=mult_loop p 15 n (by decide)
  rw [← hn] at this
  have e:setG api_Point_z (List.replicate 16 api_Point_z) 0 (pt qzero)=tabL (fun j=>pt (tab p j)) (15-15):=by
    rw [setG_eq (by simp)]
    rfl
  rw [e]
  exact this
def nib (k:List Int) (i:Nat):Int:=if i%2=0 then k.getD (31-i / 2) 0 / 16%16 else k.getD (31-i / 2) 0%16
theorem nibble_eq {k:List Int} (hk:Byt k) {i:Nat} (hi:i<64):curve_nibble k (i:Int)=some (nib k i):=by
  rw [curve_nibble]
  simp only [bnd_eq]
  have h1:IntKind.wrap .i64 (Int.tdiv (i:Int) 2)=((i / 2:Nat):Int):=by
    rw [Int.tdiv_eq_ediv_of_nonneg (by omega),wi64_small (by omega) (by omega)]; omega
  have h2:Int.tmod (i:Int) 2=((i%2:Nat):Int):=by
    rw [Int.tmod_eq_emod_of_nonneg (by omega)]; omega
  rw [h1,h2,wi64_small (x:=31-((i / 2:Nat):Int)) (by omega) (by omega),chk_t (inB_t (by omega) (by omega))]
  have h3:(31-((i / 2:Nat):Int)).toNat=31-i / 2:=by omega
  rw [h3]
  have hb:=hk (31-i / 2)
  rw [wi64_small (x:=1-((i%2:Nat):Int)) (by omega) (by omega),wi64_small (by omega) (by omega)]
  rcases Nat.mod_two_eq_zero_or_one i with h | h
  · rw [h,chk_t (by decide)]
    have e:shrV .u8 (k.getD (31-i / 2) 0) (4*(1-((0:Nat):Int)))=k.getD (31-i / 2) 0 / 16:=shr_eq .u8 (n:=4) (by decide)
    rw [e]
    have e2:bitsV .and .u8 (k.getD (31-i / 2) 0 / 16) 15=k.getD (31-i / 2) 0 / 16%16:=and_low8 4 (by decide) (by decide) (by omega) (by omega)
    rw [e2,nib,if_pos h]
  · rw [h,chk_t (by decide)]
    have e:shrV .u8 (k.getD (31-i / 2) 0) (4*(1-((1:Nat):Int)))=k.getD (31-i / 2) 0:=by
      have:=shr_eq .u8 (x:=k.getD (31-i / 2) 0) (n:=0) (by decide)
      simpa using this
    rw [e]
    have e2:bitsV .and .u8 (k.getD (31-i / 2) 0) 15=k.getD (31-i / 2) 0%16:=and_low8 4 (by decide) (by decide) (by omega) (by omega)
    rw [e2,nib,if_neg (by omega)]
theorem nib_rng (k:List Int) (i:Nat):0≤nib k i∧nib k i<16:=by unfold nib; split <;> omega
def dbl4 (q:Q4):Q4:=qdbl' (qdbl' (qdbl' (qdbl' q)))
def qround (k:List Int) (p:Q4) (q:Q4) (i:Nat):Q4:=qadd' (dbl4 q) (tab p (nib k i).toNat)
def qacc (k:List Int) (p:Q4):Nat→Q4
  | 0=>qzero
  | i+1=>qround k p (qacc k p i) i
theorem mul_inner4 (q:Q4) {kk:List Int→List Int→List Int→List Int→Option api_Point} :
    curve_Mul_l2 kk big 0 (pt q).gX (pt q).gY (pt q).gZ (pt q).gT=kk (pt (dbl4 q)).gX (pt (dbl4 q)).gY (pt (dbl4 q)).gZ (pt (dbl4 q)).gT:=by
  obtain ⟨n,hn⟩ : ∃ n,big=n+1+1+1+1+1:=⟨18446744073709551611,big_eq⟩
  have step : ∀ (n j:Nat) (q:Q4),j<4→curve_Mul_l2 kk (n+1) (j:Int) (pt q).gX (pt q).gY (pt q).gZ (pt q).gT =
      curve_Mul_l2 kk n ((j+1:Nat):Int) (pt (qdbl' q)).gX (pt (qdbl' q)).gY (pt (qdbl' q)).gZ (pt (qdbl' q)).gT:=by
    intro n j q hj
    rw [curve_Mul_l2,curve_Mul_b2,br_tt (by simp; omega)]
    have:=cdbl_eq' q
    rw [show (⟨(pt q).gX,(pt q).gY,(pt q).gZ,(pt q).gT⟩:api_Point)=pt q from rfl,opt_some this]
    simp only [bnd_eq]
    rw [wi64_small (by omega) (by omega)]
    rfl
  rw [hn]
  have s0:=step (n+1+1+1+1) 0 q (by decide)
  have s1:=step (n+1+1+1) 1 (qdbl' q) (by decide)
  have s2:=step (n+1+1) 2 (qdbl' (qdbl' q)) (by decide)
  have s3:=step (n+1) 3 (qdbl' (qdbl' (qdbl' q))) (by decide)
  refine s0.trans (s1.trans (s2.trans (s3.trans ?_)))
  rw [curve_Mul_l2,curve_Mul_b2,br_ff (by decide)]
  rfl
theorem mul_rounds {k:List Int} (hk:Byt k) (p:Q4) : ∀ (j n:Nat),j≤64→curve_Mul_l1 k (tabL (fun j=>pt (tab p j)) 15) (fun a b c d=>some ⟨a,b,c,d⟩) (n+1+j) ((64-j:Nat):Int) (pt (qacc k p (64-j))).gX (pt (qacc k p (64-j))).gY (pt (qacc k p (64-j))).gZ (pt (qacc k p (64-j))).gT=some (pt (qacc k p 64))
  | 0,n,_=>by
    rw [show n+1+0=n+1 from rfl,curve_Mul_l1,curve_Mul_b1,br_ff (by decide)]
  | j+1,n,hj=>by
    have ih:=mul_rounds hk p j n (by omega)
    have hr:=nib_rng k (64-(j+1))
    rw [← Nat.add_assoc,curve_Mul_l1,curve_Mul_b1,br_tt (by simp; omega),jn_eq,mul_inner4]
    rw [opt_some (nibble_eq hk (by omega)),chk_t (inB_t hr.1 hr.2),bnd_eq,tabL_get _ (by omega) (by decide)]
    have hadd:=cadd_eq' (dbl4 (qacc k p (64-(j+1)))) (tab p (nib k (64-(j+1))).toNat)
    rw [show (⟨(pt (dbl4 (qacc k p (64-(j+1))))).gX,(pt (dbl4 (qacc k p (64-(j+1))))).gY,(pt (dbl4 (qacc k p (64-(j+1))))).gZ,(pt (dbl4 (qacc k p (64-(j+1))))).gT⟩:api_Point)=pt (dbl4 (qacc k p (64-(j+1)))) from rfl,opt_some hadd,bnd_eq,wi64_small (by omega) (by omega)]
    have ei:((64-(j+1):Nat):Int)+1=((64-(j+1)+1:Nat):Int):=by omega
    rw [ei]
    have e:64-(j+1)+1=64-j:=by omega
    rw [e]
    have e2:qadd' (dbl4 (qacc k p (64-(j+1)))) (tab p (nib k (64-(j+1))).toNat)=qacc k p (64-j):=by rw [← e]; rfl
    rw [e2]
    exact ih
theorem cmul_eq {k:List Int} (hk:Byt k) (p:Q4):curve_Mul k (pt p)=some (pt (qacc k p 64)):=by
  rw [curve_Mul,opt_some (multiples_eq p),opt_some zero_eq,jn_eq]
  obtain ⟨n,hn⟩ : ∃ n,big=n+1+64:=⟨18446744073709551551,big_eq⟩
  have:=mul_rounds hk p 64 n (by decide)
  rw [← hn] at this
  exact this
theorem byt_of {l:List Int} (h : ∀ x∈l,0≤x∧x<256):Byt l:=by
  intro i
  simp only [List.getD]
  cases hi:l[i]? with
  | none=>simp
  | some v=>exact h v (List.mem_of_getElem? hi)
def BX:Int:=15112221349535400772501151409588531511454012693041857206046113283949847762202
def BY:Int:=46316835694926478169428394003475163141307993866256225615783033603165251855960
def qbase:Q4:=⟨BX,BY,1,BX*BY⟩
theorem start_run (k:List Int→Option api_Point):curve_start_l1 k big 0 [88,0,0,0,0,0,0,0,0,0,0,0,0,0,0,0,0,0,0,0,0,0,0,0,0,0,0,0,0,0,0,0]=k [88,102,102,102,102,102,102,102,102,102,102,102,102,102,102,102,102,102,102,102,102,102,102,102,102,102,102,102,102,102,102,102]:=by kernel_rfl
theorem start_eq:curve_start=some (pt qbase):=by
  rw [curve_start,bnd_eq,opt_some (fromBytes_eq (byt_of (by decide))),bnd_eq,jn_eq,start_run,opt_some (fromBytes_eq (byt_of (by decide))),opt_some unit_eq]
  have e1:bval [26,213,37,143,96,45,86,201,178,167,37,149,96,199,44,105,92,220,214,253,49,226,164,192,254,83,110,205,211,54,105,33]=BX:=by decide
  have e2:bval [88,102,102,102,102,102,102,102,102,102,102,102,102,102,102,102,102,102,102,102,102,102,102,102,102,102,102,102,102,102,102,102]=BY:=by decide
  rw [e1,e2,opt_some (fmul _ _)]
  rfl
theorem mulBase_eq {k:List Int} (hk:Byt k):curve_MulBase k=some (pt (qacc k qbase 64)):=by
  rw [curve_MulBase,opt_some start_eq,opt_some (cmul_eq hk _)]
def einv:List Int:=[235,255,255,255,255,255,255,255,255,255,255,255,255,255,255,255,255,255,255,255,255,255,255,255,255,255,255,255,255,255,255,127]
theorem power_inv:field_power 235 127=some einv:=by kernel_rfl
theorem einv_byt:Byt einv:=byt_of (by decide)
def finv (a:Int):Int:=pw (a%PP) einv 256
theorem fe_rng {n:Int} (h:0≤n∧n<PP):fdig n=fe n:=(fe_small h.1 h.2).symm
theorem inv_eq (a:Int):field_Invert (fe a)=some (fe (finv a)):=by
  rw [field_Invert,opt_some power_inv,opt_some (pow_eq (fe_U5 _) einv_byt),fval_fe,fe_rng (pw_rng _ _ _)]
  rfl
def encXY (x y:Int):List Int:=if x%PP%2=1 then setD (byt (y%PP)) 31 (bitsV .or .u8 ((byt (y%PP)).getD 31 0) 128) else byt (y%PP)
def encQ (q:Q4):List Int:=encXY (q.x*finv q.z) (q.y*finv q.z)
theorem encode_eq (q:Q4):curve_Encode (pt q)=some (encQ q):=by
  rw [curve_Encode]
  show opt (field_Invert (fe q.z)) _=_
  rw [opt_some (inv_eq _)]
  show opt (field_Mul (fe q.y) (fe (finv q.z))) _=_
  rw [opt_some (fmul _ _),opt_some (bytes_eq (fe_U5 _))]
  show opt (field_Mul (fe q.x) (fe (finv q.z))) _=_
  rw [opt_some (fmul _ _),opt_some (isOdd_eq (fe_U5 _)),jn_eq,fval_fe,fval_fe]
  simp only [bnd_eq,emod_pp]
  unfold encQ encXY
  by_cases h:q.x*finv q.z%PP%2=1
  · rw [br_tt (by rw [h]; rfl),if_pos h]
  · rw [br_ff (by simpa using h),if_neg h]
def ert:List Int:=[251,255,255,255,255,255,255,255,255,255,255,255,255,255,255,255,255,255,255,255,255,255,255,255,255,255,255,255,255,255,255,31]
def fabs (a:Int):Int:=bif a%PP%2==1 then -a else a
def sqrt2:Int:=pw (2%PP) ert 256
def DD:Int:=37095705934669439343138083508754565189542113879843219016388785533085940283555
theorem setD_byt {p:List Int} (h:Byt p) {j:Nat} {v:Int} (hv:0≤v∧v<256):Byt (setD p j v):=by
  intro i
  rw [getD_setD]
  split
  · exact hv
  · exact h i
def W64 (l:List Int):Prop:=∀ i,0≤l.getD i 0∧l.getD i 0<18446744073709551616
def V4 (l:List Int):Int:=l.getD 0 0+l.getD 1 0*18446744073709551616+l.getD 2 0*340282366920938463463374607431768211456+l.getD 3 0*6277101735386680763835789423207666416102355444464034512896
def B4:Int:=115792089237316195423570985008687907853269984665640564039457584007913129639936
def VL:Int:=7237005577332262213973186563042994240857116359379907606001950938285454250989
theorem V4_order:V4 G_order=VL:=by decide
theorem w64_of {l:List Int} (h : ∀ x∈l,0≤x∧x<18446744073709551616):W64 l:=by
  intro i
  simp only [List.getD]
  cases hi:l[i]? with
  | none=>simp
  | some v=>exact h v (List.mem_of_getElem? hi)
theorem W64_order:W64 G_order:=w64_of (by decide)
theorem W64_set {l:List Int} (h:W64 l) {i:Nat} {z:Int} (hz:0≤z∧z<18446744073709551616):W64 (setD l i z):=by
  intro j; rw [getD_setD]; split
  · exact hz
  · exact h j
theorem W64_setG {l:List Int} (h:W64 l) {i:Nat} {z:Int} (hz:0≤z∧z<18446744073709551616):W64 (setG 0 l i z):=by
  intro j; rw [getD_setG]; split
  · exact hz
  · exact h j
theorem W64_replicate (n:Nat):W64 (List.replicate n 0):=w64_of (by intro x hx; rw [List.mem_replicate] at hx; omega)
theorem or_rng (x y:Int):0≤bitsV .or .u64 x y∧bitsV .or .u64 x y<18446744073709551616:=by
  show 0≤IntKind.u64.wrap _∧IntKind.u64.wrap _<_
  rw [wu64_eq]; omega
theorem and_rng (x y:Int):0≤bitsV .and .u64 x y∧bitsV .and .u64 x y<18446744073709551616:=by
  show 0≤IntKind.u64.wrap _∧IntKind.u64.wrap _<_
  rw [wu64_eq]; omega
theorem addOk_t {x y c:Int} (hx:0≤x∧x<18446744073709551616) (hy:0≤y∧y<18446744073709551616) (hc:c=0∨c=1):addOk x y c=true:=by
  unfold addOk
  rw [decide_eq_true hx.1,decide_eq_true hy.1,decide_eq_true (show 0≤c by omega),decide_eq_true (show c≤1 by omega)]; rfl
theorem subOk_t {x y c:Int} (hx:0≤x∧x<18446744073709551616) (hy:0≤y∧y<18446744073709551616) (hc:c=0∨c=1):subOk x y c=true:=by
  unfold subOk
  rw [decide_eq_true hx.1,decide_eq_true hy.1,decide_eq_true hy.2,decide_eq_true (show 0≤c by omega),decide_eq_true (show c≤1 by omega)]; rfl
theorem minus_step {q:List Int} {k:Int→List Int→Option (List Int×Int)} {a:List Int} {c:Int} (n:Nat) {i:Nat} (hi:i<4) (ha:W64 a) (hq:W64 q) (hc:c=0∨c=1) :
    ∃ c' lo,scalar_minus_l1 q k (n+1) c (i:Int) a=scalar_minus_l1 q k n c' ((i+1:Nat):Int) (setD a i lo)∧0≤lo∧lo<18446744073709551616∧(c'=0∨c'=1)∧lo=a.getD i 0-q.getD i 0-c+c'*18446744073709551616:=by
  have h1:=ha i
  have h2:=hq i
  refine ⟨subHi (a.getD i 0) (q.getD i 0) c,subLo (a.getD i 0) (q.getD i 0) c,?_,?_⟩
  · rw [scalar_minus_l1,scalar_minus_b1,br_tt (by simp; omega),chk_t (inB_t (by omega) (by omega)),chk_t (inB_t (by omega) (by omega)),bnd_eq,bnd_eq]
    simp only [Int.toNat_natCast]
    rw [chk_t (subOk_t h1 h2 hc),bnd_eq,bnd_eq,chk_t (inB_t (by omega) (by omega)),bnd_eq,bnd_eq,wi64_small (by omega) (by omega)]
    rfl
  · unfold subHi subLo
    generalize a.getD i 0=x at *
    generalize q.getD i 0=y at *
    split <;> omega
theorem minus_eq {p q:List Int} (hp:W64 p) (hq:W64 q) : ∃ a c,scalar_minus p q=some (a,c)∧W64 a∧(c=0∨c=1)∧V4 a=V4 p-V4 q+c*B4:=by
  obtain ⟨n,hn⟩ : ∃ n,big=n+1+1+1+1+1:=⟨18446744073709551611,big_eq⟩
  rw [scalar_minus,jn_eq,hn]
  obtain ⟨c0,l0,e0,b0,b0',hc0,v0⟩:=minus_step (k:=fun i a=>some (a,i)) (n+1+1+1+1) (i:=0) (by decide) hp hq (.inl rfl)
  have w0:=W64_set hp (i:=0) ⟨b0,b0'⟩
  obtain ⟨c1,l1,e1,b1,b1',hc1,v1⟩:=minus_step (k:=fun i a=>some (a,i)) (n+1+1+1) (i:=1) (by decide) w0 hq hc0
  have w1:=W64_set w0 (i:=1) ⟨b1,b1'⟩
  obtain ⟨c2,l2,e2,b2,b2',hc2,v2⟩:=minus_step (k:=fun i a=>some (a,i)) (n+1+1) (i:=2) (by decide) w1 hq hc1
  have w2:=W64_set w1 (i:=2) ⟨b2,b2'⟩
  obtain ⟨c3,l3,e3,b3,b3',hc3,v3⟩:=minus_step (k:=fun i a=>some (a,i)) (n+1) (i:=3) (by decide) w2 hq hc2
  have w3:=W64_set w2 (i:=3) ⟨b3,b3'⟩
  refine ⟨_,c3,(e0.trans (e1.trans (e2.trans (e3.trans ?_)))),w3,hc3,?_⟩
  · rw [scalar_minus_l1,scalar_minus_b1,br_ff (by decide)]
  · simp only [V4,getD_setD] at v1 v2 v3 ⊢
    simp [-List.getD_eq_getElem?_getD] at v1 v2 v3 ⊢
    unfold B4
    omega
theorem plus_step {q:List Int} {k:Int→List Int→Option (List Int×Int)} {a:List Int} {c:Int} (n:Nat) {i:Nat} (hi:i<4) (ha:W64 a) (hq:W64 q) (hc:c=0∨c=1) :
    ∃ c' lo,scalar_plus_l1 q k (n+1) c (i:Int) a=scalar_plus_l1 q k n c' ((i+1:Nat):Int) (setD a i lo)∧0≤lo∧lo<18446744073709551616∧(c'=0∨c'=1)∧lo=a.getD i 0+q.getD i 0+c-c'*18446744073709551616:=by
  have h1:=ha i
  have h2:=hq i
  refine ⟨addHi (a.getD i 0) (q.getD i 0) c,addLo (a.getD i 0) (q.getD i 0) c,?_,?_⟩
  · rw [scalar_plus_l1,scalar_plus_b1,br_tt (by simp; omega),chk_t (inB_t (by omega) (by omega)),chk_t (inB_t (by omega) (by omega)),bnd_eq,bnd_eq]
    simp only [Int.toNat_natCast]
    rw [chk_t (addOk_t h1 h2 hc),bnd_eq,bnd_eq,chk_t (inB_t (by omega) (by omega)),bnd_eq,bnd_eq,wi64_small (by omega) (by omega)]
    rfl
  · unfold addHi addLo
    generalize a.getD i 0=x at *
    generalize q.getD i 0=y at *
    omega
theorem plus_eq {p q:List Int} (hp:W64 p) (hq:W64 q) : ∃ a c,scalar_plus p q=some (a,c)∧W64 a∧(c=0∨c=1)∧V4 a=V4 p+V4 q-c*B4:=by
  obtain ⟨n,hn⟩ : ∃ n,big=n+1+1+1+1+1:=⟨18446744073709551611,big_eq⟩
  rw [scalar_plus,jn_eq,hn]
  obtain ⟨c0,l0,e0,b0,b0',hc0,v0⟩:=plus_step (k:=fun i a=>some (a,i)) (n+1+1+1+1) (i:=0) (by decide) hp hq (.inl rfl)
  have w0:=W64_set hp (i:=0) ⟨b0,b0'⟩
  obtain ⟨c1,l1,e1,b1,b1',hc1,v1⟩:=plus_step (k:=fun i a=>some (a,i)) (n+1+1+1) (i:=1) (by decide) w0 hq hc0
  have w1:=W64_set w0 (i:=1) ⟨b1,b1'⟩
  obtain ⟨c2,l2,e2,b2,b2',hc2,v2⟩:=plus_step (k:=fun i a=>some (a,i)) (n+1+1) (i:=2) (by decide) w1 hq hc1
  have w2:=W64_set w1 (i:=2) ⟨b2,b2'⟩
  obtain ⟨c3,l3,e3,b3,b3',hc3,v3⟩:=plus_step (k:=fun i a=>some (a,i)) (n+1) (i:=3) (by decide) w2 hq hc2
  have w3:=W64_set w2 (i:=3) ⟨b3,b3'⟩
  refine ⟨_,c3,(e0.trans (e1.trans (e2.trans (e3.trans ?_)))),w3,hc3,?_⟩
  · rw [scalar_plus_l1,scalar_plus_b1,br_ff (by decide)]
  · simp only [V4,getD_setD] at v1 v2 v3 ⊢
    simp [-List.getD_eq_getElem?_getD] at v1 v2 v3 ⊢
    unfold B4
    omega
theorem V4_rng {l:List Int} (h:W64 l):0≤V4 l∧V4 l<B4:=by
  have h0:=h 0
  have h1:=h 1
  have h2:=h 2
  have h3:=h 3
  unfold V4 B4
  omega
theorem below_step {k2:List Int→Option (List Int)} {k5:Unit→Option (List Int)} {a:List Int} (n:Nat) {i:Nat} (hi:i<4) :
    scalar_below_l2 k2 a k5 (n+1) (i:Int)=if a.getD i 0<G_order.getD i 0 then k2 a else if a.getD i 0>G_order.getD i 0 then k5 () else scalar_below_l2 k2 a k5 n ((i:Int)-1):=by
  rw [scalar_below_l2,scalar_below_b2,br_tt (by simp),chk_t (inB_t (by omega) (by omega)),chk_t (inB_t (by omega) (by omega)),bnd_eq,bnd_eq]
  simp only [Int.toNat_natCast]
  by_cases h1:a.getD i 0<G_order.getD i 0
  · rw [br_tt (by simpa using h1),if_pos h1]
  · rw [br_ff (by simpa using h1),if_neg h1,chk_t (inB_t (by omega) (by omega)),chk_t (inB_t (by omega) (by omega)),bnd_eq,bnd_eq]
    by_cases h2:a.getD i 0>G_order.getD i 0
    · rw [br_tt (by simpa using h2),if_pos h2]
    · rw [br_ff (by simpa using h2),if_neg h2,bnd_eq,wi64_small (by omega) (by omega)]
theorem below_cmp {k2:List Int→Option (List Int)} {k5:Unit→Option (List Int)} {a:List Int} (ha:W64 a):scalar_below_l2 k2 a k5 big 3=if V4 a<VL then k2 a else k5 ():=by
  obtain ⟨n,hn⟩ : ∃ n,big=n+1+1+1+1+1:=⟨18446744073709551611,big_eq⟩
  rw [hn]
  have s3:=below_step (k2:=k2) (k5:=k5) (a:=a) (n+1+1+1+1) (i:=3) (by decide)
  have s2:=below_step (k2:=k2) (k5:=k5) (a:=a) (n+1+1+1) (i:=2) (by decide)
  have s1:=below_step (k2:=k2) (k5:=k5) (a:=a) (n+1+1) (i:=1) (by decide)
  have s0:=below_step (k2:=k2) (k5:=k5) (a:=a) (n+1) (i:=0) (by decide)
  have e:scalar_below_l2 k2 a k5 (n+1) (-1)=k5 ():=by
    rw [scalar_below_l2,scalar_below_b2,br_ff (by decide)]
  have o0:G_order.getD 0 0=6346243789798364141:=rfl
  have o1:G_order.getD 1 0=1503914060200516822:=rfl
  have o2:G_order.getD 2 0=0:=rfl
  have o3:G_order.getD 3 0=1152921504606846976:=rfl
  rw [o0] at s0
  rw [o1] at s1
  rw [o2] at s2
  rw [o3] at s3
  have s0':scalar_below_l2 k2 a k5 (n+1+1) (1-1)=_:=s0
  have s1':scalar_below_l2 k2 a k5 (n+1+1+1) (2-1)=_:=s1
  have s2':scalar_below_l2 k2 a k5 (n+1+1+1+1) (3-1)=_:=s2
  have e':scalar_below_l2 k2 a k5 (n+1) (0-1)=k5 ():=e
  have f3:scalar_below_l2 k2 a k5 (n+1+1+1+1+1) 3=_:=s3
  rw [f3]
  rw [show ((3:Nat):Int)-1=3-1 from rfl,s2',show ((2:Nat):Int)-1=2-1 from rfl,s1',show ((1:Nat):Int)-1=1-1 from rfl,s0',show ((0:Nat):Int)-1=0-1 from rfl,e']
  have h0:=ha 0
  have h1:=ha 1
  have h2:=ha 2
  have h3:=ha 3
  unfold V4 VL
  generalize a.getD 0 0=a0 at *
  generalize a.getD 1 0=a1 at *
  generalize a.getD 2 0=a2 at *
  generalize a.getD 3 0=a3 at *
  by_cases hv:a0+a1*18446744073709551616+a2*340282366920938463463374607431768211456+a3*6277101735386680763835789423207666416102355444464034512896<7237005577332262213973186563042994240857116359379907606001950938285454250989
  · rw [if_pos hv]
    repeat' split
    all_goals first | rfl | (exfalso; omega)
  · rw [if_neg hv]
    repeat' split
    all_goals first | rfl | (exfalso; omega)
theorem below_loop (m:Nat) : ∀ (n:Nat) {a:List Int},W64 a→V4 a<((m:Int)+1)*VL→∃ r,scalar_below_l1 some (n+1+m) a=some r∧W64 r∧V4 r=V4 a%VL:=by
  induction m with
  | zero =>
    intro n a ha hv
    have h0:=V4_rng ha
    have hv':V4 a<VL:=by omega
    refine ⟨a,?_,ha,?_⟩
    · rw [Nat.add_zero,scalar_below_l1,scalar_below_b1,jn_eq,below_cmp ha,if_pos hv']
    · rw [Int.emod_eq_of_lt h0.1 hv']
  | succ m ih =>
    intro n a ha hv
    have h0:=V4_rng ha
    rw [← Nat.add_assoc,scalar_below_l1,scalar_below_b1,jn_eq,below_cmp ha]
    by_cases h:V4 a<VL
    · rw [if_pos h]
      exact ⟨a,rfl,ha,by rw [Int.emod_eq_of_lt h0.1 h]⟩
    · rw [if_neg h]
      obtain ⟨b,c,e,hb,hc,hv2⟩:=minus_eq ha W64_order
      have hbr:=V4_rng hb
      rw [V4_order] at hv2
      have hc0:c=0:=by
        unfold B4 VL at *
        rcases hc with h | h
        · exact h
        · exfalso; subst h; omega
      rw [opt_some e]
      have hv3:V4 b=V4 a-VL:=by rw [hv2,hc0]; omega
      have hlt:V4 b<((m:Int)+1)*VL:=by
        rw [hv3]
        have:((m+1:Nat):Int)+1=((m:Int)+1)+1:=by omega
        rw [this,Int.add_mul ((m:Int)+1) 1 VL] at hv
        omega
      obtain ⟨r,er,hr,vr⟩:=ih n hb hlt
      exact ⟨r,er,hr,by rw [vr,hv3,Int.sub_emod_right]⟩
theorem below_eq {a:List Int} (ha:W64 a) : ∃ r,scalar_below a=some r∧W64 r∧V4 r=V4 a%VL:=by
  rw [scalar_below,jn_eq]
  obtain ⟨n,hn⟩ : ∃ n,big=n+1+16:=⟨18446744073709551599,big_eq⟩
  rw [hn]
  have h:=V4_rng ha
  exact below_loop 16 n ha (by unfold B4 at h; unfold VL; omega)
theorem loadLE_run (p:List Int):scalar_load p=some [bitsV .or .u64 (bitsV .or .u64 (bitsV .or .u64 (bitsV .or .u64 (bitsV .or .u64 (bitsV .or .u64 (bitsV .or .u64 (bitsV .or .u64 (0) (shlV .u64 (IntKind.wrap .u64 (p.getD 0 0)) 0)) (shlV .u64 (IntKind.wrap .u64 (p.getD 1 0)) 8)) (shlV .u64 (IntKind.wrap .u64 (p.getD 2 0)) 16)) (shlV .u64 (IntKind.wrap .u64 (p.getD 3 0)) 24)) (shlV .u64 (IntKind.wrap .u64 (p.getD 4 0)) 32)) (shlV .u64 (IntKind.wrap .u64 (p.getD 5 0)) 40)) (shlV .u64 (IntKind.wrap .u64 (p.getD 6 0)) 48)) (shlV .u64 (IntKind.wrap .u64 (p.getD 7 0)) 56),bitsV .or .u64 (bitsV .or .u64 (bitsV .or .u64 (bitsV .or .u64 (bitsV .or .u64 (bitsV .or .u64 (bitsV .or .u64 (bitsV .or .u64 (0) (shlV .u64 (IntKind.wrap .u64 (p.getD 8 0)) 0)) (shlV .u64 (IntKind.wrap .u64 (p.getD 9 0)) 8)) (shlV .u64 (IntKind.wrap .u64 (p.getD 10 0)) 16)) (shlV .u64 (IntKind.wrap .u64 (p.getD 11 0)) 24)) (shlV .u64 (IntKind.wrap .u64 (p.getD 12 0)) 32)) (shlV .u64 (IntKind.wrap .u64 (p.getD 13 0)) 40)) (shlV .u64 (IntKind.wrap .u64 (p.getD 14 0)) 48)) (shlV .u64 (IntKind.wrap .u64 (p.getD 15 0)) 56),bitsV .or .u64 (bitsV .or .u64 (bitsV .or .u64 (bitsV .or .u64 (bitsV .or .u64 (bitsV .or .u64 (bitsV .or .u64 (bitsV .or .u64 (0) (shlV .u64 (IntKind.wrap .u64 (p.getD 16 0)) 0)) (shlV .u64 (IntKind.wrap .u64 (p.getD 17 0)) 8)) (shlV .u64 (IntKind.wrap .u64 (p.getD 18 0)) 16)) (shlV .u64 (IntKind.wrap .u64 (p.getD 19 0)) 24)) (shlV .u64 (IntKind.wrap .u64 (p.getD 20 0)) 32)) (shlV .u64 (IntKind.wrap .u64 (p.getD 21 0)) 40)) (shlV .u64 (IntKind.wrap .u64 (p.getD 22 0)) 48)) (shlV .u64 (IntKind.wrap .u64 (p.getD 23 0)) 56),bitsV .or .u64 (bitsV .or .u64 (bitsV .or .u64 (bitsV .or .u64 (bitsV .or .u64 (bitsV .or .u64 (bitsV .or .u64 (bitsV .or .u64 (0) (shlV .u64 (IntKind.wrap .u64 (p.getD 24 0)) 0)) (shlV .u64 (IntKind.wrap .u64 (p.getD 25 0)) 8)) (shlV .u64 (IntKind.wrap .u64 (p.getD 26 0)) 16)) (shlV .u64 (IntKind.wrap .u64 (p.getD 27 0)) 24)) (shlV .u64 (IntKind.wrap .u64 (p.getD 28 0)) 32)) (shlV .u64 (IntKind.wrap .u64 (p.getD 29 0)) 40)) (shlV .u64 (IntKind.wrap .u64 (p.getD 30 0)) 48)) (shlV .u64 (IntKind.wrap .u64 (p.getD 31 0)) 56)]:=by kernel_rfl
theorem Reduce_run (p:List Int) (k:List Int→Option (List Int)):scalar_Reduce_l1 p k big 0 (List.replicate 8 0)=k [bitsV .or .u64 (bitsV .or .u64 (bitsV .or .u64 (bitsV .or .u64 (bitsV .or .u64 (bitsV .or .u64 (bitsV .or .u64 (bitsV .or .u64 (0) (shlV .u64 (IntKind.wrap .u64 (p.getD 0 0)) 0)) (shlV .u64 (IntKind.wrap .u64 (p.getD 1 0)) 8)) (shlV .u64 (IntKind.wrap .u64 (p.getD 2 0)) 16)) (shlV .u64 (IntKind.wrap .u64 (p.getD 3 0)) 24)) (shlV .u64 (IntKind.wrap .u64 (p.getD 4 0)) 32)) (shlV .u64 (IntKind.wrap .u64 (p.getD 5 0)) 40)) (shlV .u64 (IntKind.wrap .u64 (p.getD 6 0)) 48)) (shlV .u64 (IntKind.wrap .u64 (p.getD 7 0)) 56),bitsV .or .u64 (bitsV .or .u64 (bitsV .or .u64 (bitsV .or .u64 (bitsV .or .u64 (bitsV .or .u64 (bitsV .or .u64 (bitsV .or .u64 (0) (shlV .u64 (IntKind.wrap .u64 (p.getD 8 0)) 0)) (shlV .u64 (IntKind.wrap .u64 (p.getD 9 0)) 8)) (shlV .u64 (IntKind.wrap .u64 (p.getD 10 0)) 16)) (shlV .u64 (IntKind.wrap .u64 (p.getD 11 0)) 24)) (shlV .u64 (IntKind.wrap .u64 (p.getD 12 0)) 32)) (shlV .u64 (IntKind.wrap .u64 (p.getD 13 0)) 40)) (shlV .u64 (IntKind.wrap .u64 (p.getD 14 0)) 48)) (shlV .u64 (IntKind.wrap .u64 (p.getD 15 0)) 56),bitsV .or .u64 (bitsV .or .u64 (bitsV .or .u64 (bitsV .or .u64 (bitsV .or .u64 (bitsV .or .u64 (bitsV .or .u64 (bitsV .or .u64 (0) (shlV .u64 (IntKind.wrap .u64 (p.getD 16 0)) 0)) (shlV .u64 (IntKind.wrap .u64 (p.getD 17 0)) 8)) (shlV .u64 (IntKind.wrap .u64 (p.getD 18 0)) 16)) (shlV .u64 (IntKind.wrap .u64 (p.getD 19 0)) 24)) (shlV .u64 (IntKind.wrap .u64 (p.getD 20 0)) 32)) (shlV .u64 (IntKind.wrap .u64 (p.getD 21 0)) 40)) (shlV .u64 (IntKind.wrap .u64 (p.getD 22 0)) 48)) (shlV .u64 (IntKind.wrap .u64 (p.getD 23 0)) 56),bitsV .or .u64 (bitsV .or .u64 (bitsV .or .u64 (bitsV .or .u64 (bitsV .or .u64 (bitsV .or .u64 (bitsV .or .u64 (bitsV .or .u64 (0) (shlV .u64 (IntKind.wrap .u64 (p.getD 24 0)) 0)) (shlV .u64 (IntKind.wrap .u64 (p.getD 25 0)) 8)) (shlV .u64 (IntKind.wrap .u64 (p.getD 26 0)) 16)) (shlV .u64 (IntKind.wrap .u64 (p.getD 27 0)) 24)) (shlV .u64 (IntKind.wrap .u64 (p.getD 28 0)) 32)) (shlV .u64 (IntKind.wrap .u64 (p.getD 29 0)) 40)) (shlV .u64 (IntKind.wrap .u64 (p.getD 30 0)) 48)) (shlV .u64 (IntKind.wrap .u64 (p.getD 31 0)) 56),bitsV .or .u64 (bitsV .or .u64 (bitsV .or .u64 (bitsV .or .u64 (bitsV .or .u64 (bitsV .or .u64 (bitsV .or .u64 (bitsV .or .u64 (0) (shlV .u64 (IntKind.wrap .u64 (p.getD 32 0)) 0)) (shlV .u64 (IntKind.wrap .u64 (p.getD 33 0)) 8)) (shlV .u64 (IntKind.wrap .u64 (p.getD 34 0)) 16)) (shlV .u64 (IntKind.wrap .u64 (p.getD 35 0)) 24)) (shlV .u64 (IntKind.wrap .u64 (p.getD 36 0)) 32)) (shlV .u64 (IntKind.wrap .u64 (p.getD 37 0)) 40)) (shlV .u64 (IntKind.wrap .u64 (p.getD 38 0)) 48)) (shlV .u64 (IntKind.wrap .u64 (p.getD 39 0)) 56),bitsV .or .u64 (bitsV .or .u64 (bitsV .or .u64 (bitsV .or .u64 (bitsV .or .u64 (bitsV .or .u64 (bitsV .or .u64 (bitsV .or .u64 (0) (shlV .u64 (IntKind.wrap .u64 (p.getD 40 0)) 0)) (shlV .u64 (IntKind.wrap .u64 (p.getD 41 0)) 8)) (shlV .u64 (IntKind.wrap .u64 (p.getD 42 0)) 16)) (shlV .u64 (IntKind.wrap .u64 (p.getD 43 0)) 24)) (shlV .u64 (IntKind.wrap .u64 (p.getD 44 0)) 32)) (shlV .u64 (IntKind.wrap .u64 (p.getD 45 0)) 40)) (shlV .u64 (IntKind.wrap .u64 (p.getD 46 0)) 48)) (shlV .u64 (IntKind.wrap .u64 (p.getD 47 0)) 56),bitsV .or .u64 (bitsV .or .u64 (bitsV .or .u64 (bitsV .or .u64 (bitsV .or .u64 (bitsV .or .u64 (bitsV .or .u64 (bitsV .or .u64 (0) (shlV .u64 (IntKind.wrap .u64 (p.getD 48 0)) 0)) (shlV .u64 (IntKind.wrap .u64 (p.getD 49 0)) 8)) (shlV .u64 (IntKind.wrap .u64 (p.getD 50 0)) 16)) (shlV .u64 (IntKind.wrap .u64 (p.getD 51 0)) 24)) (shlV .u64 (IntKind.wrap .u64 (p.getD 52 0)) 32)) (shlV .u64 (IntKind.wrap .u64 (p.getD 53 0)) 40)) (shlV .u64 (IntKind.wrap .u64 (p.getD 54 0)) 48)) (shlV .u64 (IntKind.wrap .u64 (p.getD 55 0)) 56),bitsV .or .u64 (bitsV .or .u64 (bitsV .or .u64 (bitsV .or .u64 (bitsV .or .u64 (bitsV .or .u64 (bitsV .or .u64 (bitsV .or .u64 (0) (shlV .u64 (IntKind.wrap .u64 (p.getD 56 0)) 0)) (shlV .u64 (IntKind.wrap .u64 (p.getD 57 0)) 8)) (shlV .u64 (IntKind.wrap .u64 (p.getD 58 0)) 16)) (shlV .u64 (IntKind.wrap .u64 (p.getD 59 0)) 24)) (shlV .u64 (IntKind.wrap .u64 (p.getD 60 0)) 32)) (shlV .u64 (IntKind.wrap .u64 (p.getD 61 0)) 40)) (shlV .u64 (IntKind.wrap .u64 (p.getD 62 0)) 48)) (shlV .u64 (IntKind.wrap .u64 (p.getD 63 0)) 56)]:=by kernel_rfl
theorem store_run (p:List Int):scalar_store p=some [IntKind.wrap .u8 (p.getD 0 0),IntKind.wrap .u8 (shrV .u64 (p.getD 0 0) 8),IntKind.wrap .u8 (shrV .u64 (shrV .u64 (p.getD 0 0) 8) 8),IntKind.wrap .u8 (shrV .u64 (shrV .u64 (shrV .u64 (p.getD 0 0) 8) 8) 8),IntKind.wrap .u8 (shrV .u64 (shrV .u64 (shrV .u64 (shrV .u64 (p.getD 0 0) 8) 8) 8) 8),IntKind.wrap .u8 (shrV .u64 (shrV .u64 (shrV .u64 (shrV .u64 (shrV .u64 (p.getD 0 0) 8) 8) 8) 8) 8),IntKind.wrap .u8 (shrV .u64 (shrV .u64 (shrV .u64 (shrV .u64 (shrV .u64 (shrV .u64 (p.getD 0 0) 8) 8) 8) 8) 8) 8),IntKind.wrap .u8 (shrV .u64 (shrV .u64 (shrV .u64 (shrV .u64 (shrV .u64 (shrV .u64 (shrV .u64 (p.getD 0 0) 8) 8) 8) 8) 8) 8) 8),IntKind.wrap .u8 (p.getD 1 0),IntKind.wrap .u8 (shrV .u64 (p.getD 1 0) 8),IntKind.wrap .u8 (shrV .u64 (shrV .u64 (p.getD 1 0) 8) 8),IntKind.wrap .u8 (shrV .u64 (shrV .u64 (shrV .u64 (p.getD 1 0) 8) 8) 8),IntKind.wrap .u8 (shrV .u64 (shrV .u64 (shrV .u64 (shrV .u64 (p.getD 1 0) 8) 8) 8) 8),IntKind.wrap .u8 (shrV .u64 (shrV .u64 (shrV .u64 (shrV .u64 (shrV .u64 (p.getD 1 0) 8) 8) 8) 8) 8),IntKind.wrap .u8 (shrV .u64 (shrV .u64 (shrV .u64 (shrV .u64 (shrV .u64 (shrV .u64 (p.getD 1 0) 8) 8) 8) 8) 8) 8),IntKind.wrap .u8 (shrV .u64 (shrV .u64 (shrV .u64 (shrV .u64 (shrV .u64 (shrV .u64 (shrV .u64 (p.getD 1 0) 8) 8) 8) 8) 8) 8) 8),IntKind.wrap .u8 (p.getD 2 0),IntKind.wrap .u8 (shrV .u64 (p.getD 2 0) 8),IntKind.wrap .u8 (shrV .u64 (shrV .u64 (p.getD 2 0) 8) 8),IntKind.wrap .u8 (shrV .u64 (shrV .u64 (shrV .u64 (p.getD 2 0) 8) 8) 8),IntKind.wrap .u8 (shrV .u64 (shrV .u64 (shrV .u64 (shrV .u64 (p.getD 2 0) 8) 8) 8) 8),IntKind.wrap .u8 (shrV .u64 (shrV .u64 (shrV .u64 (shrV .u64 (shrV .u64 (p.getD 2 0) 8) 8) 8) 8) 8),IntKind.wrap .u8 (shrV .u64 (shrV .u64 (shrV .u64 (shrV .u64 (shrV .u64 (shrV .u64 (p.getD 2 0) 8) 8) 8) 8) 8) 8),IntKind.wrap .u8 (shrV .u64 (shrV .u64 (shrV .u64 (shrV .u64 (shrV .u64 (shrV .u64 (shrV .u64 (p.getD 2 0) 8) 8) 8) 8) 8) 8) 8),IntKind.wrap .u8 (p.getD 3 0),IntKind.wrap .u8 (shrV .u64 (p.getD 3 0) 8),IntKind.wrap .u8 (shrV .u64 (shrV .u64 (p.getD 3 0) 8) 8),IntKind.wrap .u8 (shrV .u64 (shrV .u64 (shrV .u64 (p.getD 3 0) 8) 8) 8),IntKind.wrap .u8 (shrV .u64 (shrV .u64 (shrV .u64 (shrV .u64 (p.getD 3 0) 8) 8) 8) 8),IntKind.wrap .u8 (shrV .u64 (shrV .u64 (shrV .u64 (shrV .u64 (shrV .u64 (p.getD 3 0) 8) 8) 8) 8) 8),IntKind.wrap .u8 (shrV .u64 (shrV .u64 (shrV .u64 (shrV .u64 (shrV .u64 (shrV .u64 (p.getD 3 0) 8) 8) 8) 8) 8) 8),IntKind.wrap .u8 (shrV .u64 (shrV .u64 (shrV .u64 (shrV .u64 (shrV .u64 (shrV .u64 (shrV .u64 (p.getD 3 0) 8) 8) 8) 8) 8) 8) 8)]:=by kernel_rfl
theorem u8_rng (x:Int):0≤IntKind.wrap .u8 x∧IntKind.wrap .u8 x<256:=by rw [wu8_eq]; omega
theorem addOk_t0 {x y:Int} (hx:0≤x) (hy:0≤y):addOk x y 0=true:=by
  unfold addOk
  rw [decide_eq_true hx,decide_eq_true hy]; rfl
theorem u64_rng (x:Int):0≤IntKind.wrap .u64 x∧IntKind.wrap .u64 x<18446744073709551616:=by rw [wu64_eq]; omega
theorem addLo_rng (x y c:Int):0≤addLo x y c∧addLo x y c<18446744073709551616:=by unfold addLo; omega
theorem shr60_rng {x:Int} (h:0≤x∧x<18446744073709551616):0≤shrV .u64 x 60∧shrV .u64 x 60<18446744073709551616:=by
  have:=shr_eq .u64 (x:=x) (n:=60) (by decide)
  rw [show ((60:Nat):Int)=60 from rfl] at this
  rw [this]
  have:((2^60:Nat):Int)=1152921504606846976:=by decide
  rw [this]; omega
theorem W64_app {l r:List Int} (h:W64 l) (hr:W64 r):W64 (l++r):=by
  intro i
  by_cases hi:i<l.length
  · have:(l++r).getD i 0=l.getD i 0:=by simp [List.getD_eq_getElem?_getD,List.getElem?_append_left hi]
    rw [this]; exact h i
  · have:(l++r).getD i 0=r.getD (i-l.length) 0:=by simp [List.getD_eq_getElem?_getD,List.getElem?_append_right (Nat.le_of_not_lt hi)]
    rw [this]; exact hr _
theorem W64_one {z:Int} (h:0≤z∧z<18446744073709551616):W64 [z]:=w64_of (by simpa using h)
theorem W64_rest:W64 [6346243789798364141,1503914060200516822]:=w64_of (by decide)
theorem tk8 (a b c d e f g h:Int):tk [a,b,c,d,e,f,g,h] 0 8 = [a,b,c,d,e,f,g,h]:=rfl
def pV (l:List Int):Nat→Int
  | 0=>0
  | n+1=>pV l n+l.getD n 0*(18446744073709551616:Int)^n
theorem pV_succ (l:List Int) (n:Nat):pV l (n+1)=pV l n+l.getD n 0*(18446744073709551616:Int)^n:=rfl
theorem pV_set_ge (l:List Int) (i:Nat) (v:Int) : ∀ n,n≤i→pV (setG 0 l i v) n=pV l n
  | 0,_=>rfl
  | n+1,h=>by rw [pV_succ,pV_succ,pV_set_ge l i v n (by omega),getD_setG,if_neg (by omega)]
theorem pV_set (l:List Int) (i:Nat) (v:Int) : ∀ n,i<n→pV (setG 0 l i v) n=pV l n+(v-l.getD i 0)*(18446744073709551616:Int)^i
  | 0,h=>by omega
  | n+1,h=>by
    rw [pV_succ,pV_succ,getD_setG]
    by_cases hi:n=i
    · subst hi
      rw [if_pos rfl,pV_set_ge l n v n (Nat.le_refl _),Int.sub_mul]
      omega
    · rw [if_neg hi,pV_set l i v n (by omega)]
      omega
theorem pV_zero {l:List Int} {m:Nat} (h : ∀ t,m≤t→l.getD t 0=0) : ∀ n,m≤n→pV l n=pV l m
  | 0,hn=>by rw [show m=0 by omega]
  | n+1,hn=>by
    by_cases e:m=n+1
    · rw [e]
    · rw [pV_succ,h n (by omega),pV_zero h n (by omega)]; omega
theorem pV_replicate (n m:Nat):pV (List.replicate m 0) n=0:=by
  induction n with
  | zero=>rfl
  | succ n ih =>
    have:(List.replicate m (0:Int)).getD n 0=0:=by
      simp only [List.getD]
      cases hi:(List.replicate m (0:Int))[n]? with
      | none=>rfl
      | some v=>simpa using (List.mem_replicate.1 (List.mem_of_getElem? hi)).2
    rw [pV_succ,ih,this]; omega
theorem pow_pos64 (n:Nat):0<(18446744073709551616:Int)^n:=Int.pow_pos (by decide)
theorem pV_rng {l:List Int} (h:W64 l) : ∀ n,0≤pV l n∧pV l n<(18446744073709551616:Int)^n
  | 0=>by show (0:Int)≤0∧(0:Int)<1; omega
  | n+1=>by
    have ih:=pV_rng h n
    have h1:=h n
    have hp:=pow_pos64 n
    rw [pV_succ,Int.pow_succ]
    generalize (18446744073709551616:Int)^n=w at *
    generalize l.getD n 0=x at *
    generalize pV l n=v at *
    have a:0≤x*w:=Int.mul_nonneg h1.1 (by omega)
    have b:x*w≤18446744073709551615*w:=Int.mul_le_mul_of_nonneg_right (by omega) (by omega)
    omega
theorem carry_one {z q o c:Int} (hz:0≤z∧z<18446744073709551616) (hq:0≤q∧q<18446744073709551616) (ho:0≤o∧o<18446744073709551616) (hc:0≤c∧c<18446744073709551616) :
    ∃ n,IntKind.wrap .u64 (IntKind.wrap .u64 (z*q / 18446744073709551616+addHi (z*q%18446744073709551616) o 0)+addHi (addLo (z*q%18446744073709551616) o 0) c 0)=n∧0≤n∧n<18446744073709551616∧addLo (addLo (z*q%18446744073709551616) o 0) c 0+n*18446744073709551616=z*q+o+c:=by
  have h0:0≤z*q:=Int.mul_nonneg hz.1 hq.1
  have h1:z*q≤18446744073709551615*18446744073709551615:=Int.mul_le_mul (by omega) (by omega) hq.1 (by omega)
  generalize z*q=p at *
  refine ⟨_,rfl,?_⟩
  unfold addLo addHi
  have e1:IntKind.wrap .u64 (p / 18446744073709551616+(p%18446744073709551616+o+0) / 18446744073709551616)=p / 18446744073709551616+(p%18446744073709551616+o+0) / 18446744073709551616:=wu64_small (by omega) (by omega)
  rw [e1]
  rw [wu64_small (by omega) (by omega)]
  omega
theorem times_innerV {q:List Int} (hq:W64 q) {i:Nat} {z:Int} (hz:0≤z∧z<18446744073709551616) {L:Nat} (hL:i+q.length≤L) (hb:L<1000000) (m:Nat) : ∀ (n:Nat) (j:Nat) (l:List Int) (c:Int),j+m=q.length→l.length=L→W64 l→(0≤c∧c<18446744073709551616) →
    ∃ l' c',(∀ k,scalar_times_l2 q (i:Int) z k (n+1+m) l c (j:Int)=k l' c')∧l'.length=L∧W64 l'∧(0≤c'∧c'<18446744073709551616) ∧
      pV l' L+c'*(18446744073709551616:Int)^(i+q.length)+z*pV q j*(18446744073709551616:Int)^i=pV l L+c*(18446744073709551616:Int)^(i+j)+z*pV q q.length*(18446744073709551616:Int)^i∧(∀ t,i+q.length≤t→l'.getD t 0=l.getD t 0):=by
  induction m with
  | zero =>
    intro n j l c hj hl hw hc
    refine ⟨l,c,fun k=>?_,hl,hw,hc,?_,fun _ _=>rfl⟩
    · rw [Nat.add_zero,scalar_times_l2,scalar_times_b2,br_ff (by simp; omega)]
    · rw [show j=q.length by omega]
  | succ m ih =>
    intro n j l c hj hl hw hc
    have hqj:=hq j
    have hmul:=mul64_eq hz hqj
    have hlj:=hw (i+j)
    have hp:0≤z*q.getD j 0:=Int.mul_nonneg hz.1 hqj.1
    have e1:IntKind.wrap .i64 ((i:Int)+(j:Int))=((i+j:Nat):Int):=by rw [wi64_small (by omega) (by omega)]; omega
    have e2:IntKind.wrap .i64 ((j:Int)+1)=((j+1:Nat):Int):=by rw [wi64_small (by omega) (by omega)]; rfl
    have hj':j<q.length:=by omega
    have hbr:decide ((j:Int)<(q.length:Int))=true:=by simp; omega
    have hlo:0≤z*q.getD j 0%18446744073709551616:=by omega
    obtain ⟨c1,ec,c1a,c1b,ev⟩:=carry_one hz hqj hlj hc
    obtain ⟨l',c',e,h1,h2,h3,h4,h5⟩:=ih n (j+1) (setG 0 l (i+j) (addLo (addLo (z*q.getD j 0%18446744073709551616) (l.getD (i+j) 0) 0) c 0)) c1 (by omega) (by rw [setG_eq (by omega),List.length_set,hl]) (W64_setG hw (addLo_rng _ _ _)) ⟨c1a,c1b⟩
    refine ⟨l',c',fun k=>?_,h1,h2,h3,?_,?_⟩
    · rw [← Nat.add_assoc,scalar_times_l2,scalar_times_b2,br_tt hbr,chk_t (inB_t (by omega) (by omega)),bnd_eq]
      simp only [Int.toNat_natCast]
      rw [opt_some hmul,bnd_eq,e1,chk_t (inB_t (by omega) (by omega)),bnd_eq]
      simp only [Int.toNat_natCast]
      rw [chk_t (addOk_t0 hlo hlj.1),bnd_eq,bnd_eq,bnd_eq,chk_t (addOk_t0 (addLo_rng _ _ _).1 hc.1),bnd_eq,bnd_eq,bnd_eq,bnd_eq,chk_t (inB_t (by omega) (by omega)),bnd_eq,bnd_eq,e2,ec]
      exact e k
    · rw [pV_set _ _ _ _ (by omega),pV_succ,← Nat.add_assoc,Int.pow_succ,Int.pow_add 18446744073709551616 i j] at h4
      rw [Int.pow_add 18446744073709551616 i j]
      generalize (18446744073709551616:Int)^(i+q.length)=w1 at *
      generalize (18446744073709551616:Int)^i=w2 at *
      generalize (18446744073709551616:Int)^j=w3 at *
      generalize addLo (addLo (z*q.getD j 0%18446744073709551616) (l.getD (i+j) 0) 0) c 0=lo at *
      generalize q.getD j 0=qj at *
      generalize l.getD (i+j) 0=o at *
      generalize pV l' L=a1 at *
      generalize pV l L=a2 at *
      generalize pV q j=a3 at *
      generalize pV q q.length=a4 at *
      clear e ec ih
      grind -lia -linarith (splits:=0)
    · intro t ht
      rw [h5 t ht,getD_setG,if_neg (by omega)]
theorem times_outerV {p q:List Int} (hp:W64 p) (hq:W64 q) {L:Nat} (hL:p.length+q.length=L) (hb:L<1000000) (m:Nat) : ∀ (n:Nat) (i:Nat) (l:List Int),i+m=p.length→l.length=L→W64 l→(∀ t,i+q.length≤t→l.getD t 0=0)→pV l L=pV p i*pV q q.length →
    ∃ l',scalar_times_l1 p q some (n+1+m) l (i:Int)=some l'∧l'.length=L∧W64 l'∧pV l' L=pV p p.length*pV q q.length:=by
  induction m with
  | zero =>
    intro n i l hi hl hw hz hv
    refine ⟨l,?_,hl,hw,by rw [hv,show i=p.length by omega]⟩
    rw [Nat.add_zero,scalar_times_l1,scalar_times_b1,br_ff (by simp; omega)]
  | succ m ih =>
    intro n i l hi hl hw hz hv
    have hbr:decide ((i:Int)<(p.length:Int))=true:=by simp; omega
    obtain ⟨n',hn⟩ : ∃ n',big=n'+1+q.length:=⟨18446744073709551615-q.length,by have:big=18446744073709551616:=big_eq; omega⟩
    obtain ⟨l',c',e,hl',hw',hc',v',z'⟩:=times_innerV hq (i:=i) (hp i) (L:=L) (by omega) hb q.length n' 0 l 0 (by omega) hl hw (by decide)
    have e1:IntKind.wrap .i64 ((i:Int)+(q.length:Int))=((i+q.length:Nat):Int):=by rw [wi64_small (by omega) (by omega)]; omega
    have e2:IntKind.wrap .i64 ((i:Int)+1)=((i+1:Nat):Int):=by rw [wi64_small (by omega) (by omega)]; rfl
    have hz0:l'.getD (i+q.length) 0=0:=by rw [z' _ (Nat.le_refl _),hz _ (Nat.le_refl _)]
    obtain ⟨l2,e3,hl2,hw2,v2⟩:=ih n (i+1) (setG 0 l' (i+q.length) c') (by omega) (by rw [setG_eq (by omega),List.length_set,hl']) (W64_setG hw' hc') (by
      intro t ht
      rw [getD_setG,if_neg (by omega),z' t (by omega),hz t (by omega)]) (by
      rw [pV_set _ _ _ _ (by omega),hz0,pV_succ]
      rw [hv] at v'
      have e0:pV q 0=0:=rfl
      rw [e0] at v'
      generalize (18446744073709551616:Int)^(i+q.length)=w1 at *
      generalize (18446744073709551616:Int)^i=w2 at *
      generalize pV l' L=a1 at *
      generalize pV q q.length=a4 at *
      generalize pV p i=a5 at *
      generalize p.getD i 0=a6 at *
      clear e ih
      grind -lia -linarith (splits:=0))
    refine ⟨l2,?_,hl2,hw2,v2⟩
    rw [← Nat.add_assoc,scalar_times_l1,scalar_times_b1,br_tt hbr,chk_t (inB_t (by omega) (by omega)),bnd_eq,jn_eq]
    simp only [Int.toNat_natCast]
    rw [hn]
    refine (e _).trans ?_
    simp only [bnd_eq,e1,e2]
    rw [chk_t (inB_t (by omega) (by omega))]
    exact e3
theorem times_val {p q:List Int} (hp:W64 p) (hq:W64 q) (hb:p.length+q.length<1000000) : ∃ r,scalar_times p q=some r∧r.length=p.length+q.length∧W64 r∧pV r r.length=pV p p.length*pV q q.length:=by
  have e1:IntKind.wrap .i64 ((p.length:Int)+(q.length:Int))=((p.length+q.length:Nat):Int):=by rw [wi64_small (by omega) (by omega)]; omega
  obtain ⟨n,hn⟩ : ∃ n',big=n'+1+p.length:=⟨18446744073709551615-p.length,by have:big=18446744073709551616:=big_eq; omega⟩
  obtain ⟨r,e,h1,h2,h3⟩:=times_outerV hp hq (L:=p.length+q.length) rfl hb p.length n 0 (List.replicate (p.length+q.length) 0) (by omega) (by simp) (W64_replicate _) (by
    intro t _
    simp only [List.getD]
    cases hi:(List.replicate (p.length+q.length) (0:Int))[t]? with
    | none=>rfl
    | some v=>simpa using (List.mem_replicate.1 (List.mem_of_getElem? hi)).2) (by
    rw [pV_replicate]
    show 0=0*_
    omega)
  refine ⟨r,?_,h1,h2,by rw [h1]; exact h3⟩
  rw [scalar_times,bnd_eq,e1,chk_t (by unfold mkB; simp; omega),jn_eq,Int.toNat_natCast,hn]
  exact e
theorem shr60_eq (x:Int):shrV .u64 x 60=x / 1152921504606846976:=by
  have:=shr_eq .u64 (x:=x) (n:=60) (by decide)
  simpa using this
theorem shl4_eq (x:Int):shlV .u64 x 4=(x*16)%18446744073709551616:=by
  have:=shl_eq .u64 (x:=x) (n:=4) (by decide); rw [wu64_eq] at this; simpa using this
theorem join_word {x y:Int} (hx:0≤x∧x<18446744073709551616) (hy:0≤y∧y<18446744073709551616):bitsV .or .u64 (shrV .u64 x 60) (shlV .u64 y 4)=x / 1152921504606846976+y%1152921504606846976*16:=by
  rw [shr60_eq,shl4_eq]
  have e:y*16%18446744073709551616=y%1152921504606846976*16:=by omega
  rw [e]
  exact or_add' 4 (x:=y%1152921504606846976*16) (a:=y%1152921504606846976) rfl (by omega) (by omega) (by
    show _<(16:Int)
    omega) (by omega)
theorem pV_app (l:List Int) (v:Int):pV (l ++ [v]) l.length=pV l l.length:=by
  have h : ∀ n,n≤l.length→pV (l ++ [v]) n=pV l n:=by
    intro n
    induction n with
    | zero=>intro _; rfl
    | succ n ih =>
      intro hn
      have:(l ++ [v]).getD n 0=l.getD n 0:=by simp [List.getD_eq_getElem?_getD,List.getElem?_append_left (show n<l.length by omega)]
      rw [pV_succ,pV_succ,ih (by omega),this]
  exact h _ (Nat.le_refl _)
theorem pV_snoc (l:List Int) (v:Int):pV (l ++ [v]) (l ++ [v]).length=pV l l.length+v*(18446744073709551616:Int)^l.length:=by
  have e:(l ++ [v]).length=l.length+1:=by simp
  rw [e,pV_succ,pV_app]
  have:(l ++ [v]).getD l.length 0=v:=by simp [List.getD_eq_getElem?_getD]
  rw [this]
theorem split_fin (x d r y w2 w3 b1 b2 b3:Int) {b4:Int} (hx:1152921504606846976*d+r=x)
    (h:b1+w3*1152921504606846976*(b2+(d+y*16)*w2)=b4+x*(w3*w2)+y*(w3*w2*18446744073709551616)+w3*1152921504606846976*b3) :
    b1+w3*1152921504606846976*b2=b4+r*(w3*w2)+w3*1152921504606846976*b3:=by grind -lia -linarith (splits:=0)
theorem split_loopV {p:List Int} (hp:W64 p) (hb:p.length<1000000) {k:List Int→Option (List Int×List Int)} (m:Nat) : ∀ (n i:Nat) (l:List Int),3+i+m=p.length→l.length=i→W64 l →
    ∃ l',scalar_split_l1 p k (n+1+m) l ((3+i:Nat):Int)=k l'∧l'.length=i+m∧W64 l' ∧
      pV p p.length+7237005577332262213973186563042994240829374041602535252466099000494570602496*pV l l.length=pV p (3+i)+p.getD (3+i) 0%1152921504606846976*(18446744073709551616:Int)^(3+i)+7237005577332262213973186563042994240829374041602535252466099000494570602496*pV l' l'.length:=by
  induction m with
  | zero =>
    intro n i l hi hl hw
    refine ⟨l,?_,by omega,hw,?_⟩
    · rw [Nat.add_zero,scalar_split_l1,scalar_split_b1,br_ff (by simp; omega)]
    · have e:p.getD (3+i) 0=0:=by simp [List.getD_eq_getElem?_getD,List.getElem?_eq_none (show p.length≤3+i by omega)]
      rw [e,show 3+i=p.length by omega]
      omega
  | succ m ih =>
    intro n i l hi hl hw
    have hbr:decide (((3+i:Nat):Int)<(p.length:Int))=true:=by simp; omega
    have e2:IntKind.wrap .i64 (((3+i:Nat):Int)+1)=((3+(i+1):Nat):Int):=by rw [wi64_small (by omega) (by omega)]; omega
    have hs:=shr60_rng (hp (3+i))
    have e3:((3+(i+1):Nat):Int).toNat=3+i+1:=by omega
    have hw3:(18446744073709551616:Int)^3*1152921504606846976=7237005577332262213973186563042994240829374041602535252466099000494570602496:=by decide
    have fin : ∀ (w:Int) (l':List Int),w=p.getD (3+i) 0 / 1152921504606846976+p.getD (3+i+1) 0%1152921504606846976*16 →
        pV p p.length+7237005577332262213973186563042994240829374041602535252466099000494570602496*pV (l ++ [w]) (l ++ [w]).length=pV p (3+(i+1))+p.getD (3+(i+1)) 0%1152921504606846976*(18446744073709551616:Int)^(3+(i+1))+7237005577332262213973186563042994240829374041602535252466099000494570602496*pV l' l'.length →
        pV p p.length+7237005577332262213973186563042994240829374041602535252466099000494570602496*pV l l.length=pV p (3+i)+p.getD (3+i) 0%1152921504606846976*(18446744073709551616:Int)^(3+i)+7237005577332262213973186563042994240829374041602535252466099000494570602496*pV l' l'.length:=by
      intro w l' hw' h
      rw [pV_snoc,hl,← Nat.add_assoc,pV_succ,Int.pow_succ,Int.pow_add 18446744073709551616 3 i,hw',← hw3] at h
      rw [hl,Int.pow_add 18446744073709551616 3 i,← hw3]
      exact split_fin _ _ _ _ _ _ _ _ _ (Int.mul_ediv_add_emod (p.getD (3+i) 0) 1152921504606846976) h
    by_cases h:3+i+1<p.length
    · obtain ⟨l',e,h1,h2,h3⟩:=ih n (i+1) (l ++ [bitsV .or .u64 (shrV .u64 (p.getD (3+i) 0) 60) (shlV .u64 (p.getD (3+i+1) 0) 4)]) (by omega) (by simp; omega) (W64_app hw (W64_one (or_rng _ _)))
      refine ⟨l',?_,by omega,h2,fin _ _ (join_word (hp _) (hp _)) h3⟩
      rw [← Nat.add_assoc,scalar_split_l1,scalar_split_b1,br_tt hbr,chk_t (inB_t (by omega) (by omega))]
      simp only [bnd_eq,e2,jn_eq,Int.toNat_natCast,e3]
      rw [br_tt (by simp; omega),chk_t (inB_t (by omega) (by omega))]
      rw [chk_t (by simp; omega)]
      exact e
    · obtain ⟨l',e,h1,h2,h3⟩:=ih n (i+1) (l ++ [shrV .u64 (p.getD (3+i) 0) 60]) (by omega) (by simp; omega) (W64_app hw (W64_one hs))
      have e0:p.getD (3+i+1) 0=0:=by simp [List.getD_eq_getElem?_getD,List.getElem?_eq_none (show p.length≤3+i+1 by omega)]
      refine ⟨l',?_,by omega,h2,fin _ _ (by rw [e0,shr60_eq]; omega) h3⟩
      rw [← Nat.add_assoc,scalar_split_l1,scalar_split_b1,br_tt hbr,chk_t (inB_t (by omega) (by omega))]
      simp only [bnd_eq,e2,jn_eq,Int.toNat_natCast]
      rw [br_ff (by simp; omega)]
      rw [chk_t (by simp; omega)]
      exact e
end Go.Proofs.YtiflckckekjbnaaGreatDoor
namespace Go.Proofs.YtiflckckekjbnaaGreatDoor
set_option linter.all false
set_option maxRecDepth 100000
def Prm (n:Nat):Prop:=2≤n ∧ ∀ d,d∣n→d=1∨d=n
theorem pigeon (n:Nat) : ∀ (m:Nat) (f:Nat→Nat),(∀ i,i<n→f i<m)→(∀ i j,i<n→j<n→f i=f j→i=j)→n≤m:=by
  induction n with
  | zero=>intros; omega
  | succ n ih =>
    intro m f h1 h2
    have hm:=h1 n (by omega)
    have:=ih (m-1) (fun i=>if f i=m-1 then f n else f i) (by
      intro i hi
      have a1:=h1 i (by omega)
      have a2:f i≠f n:=fun e=>by have:=h2 i n (by omega) (by omega) e; omega
      split <;> omega) (by
      intro i j hi hj e
      have a1:f i≠f n:=fun e=>by have:=h2 i n (by omega) (by omega) e; omega
      have a2:f j≠f n:=fun e=>by have:=h2 j n (by omega) (by omega) e; omega
      split at e <;> split at e
      · rename_i x y; exact h2 i j (by omega) (by omega) (x.trans y.symm)
      · exact absurd e.symm a2
      · exact absurd e a1
      · exact h2 i j (by omega) (by omega) e)
    omega
theorem surj {n:Nat} {f:Nat→Nat} (h1 : ∀ i,i<n→f i<n) (h2 : ∀ i j,i<n→j<n→f i=f j→i=j) {v:Nat} (hv:v<n) : ∃ i,i<n∧f i=v:=by
  false_or_by_contra
  rename_i hc
  have hc : ∀ i,i<n→f i≠v:=fun i hi e=>hc ⟨i,hi,e⟩
  have:=pigeon (n+1) n (fun i=>if i=n then v else f i) (by
    intro i hi
    split
    · exact hv
    · exact h1 i (by omega)) (by
    intro i j hi hj e
    split at e <;> split at e
    · omega
    · exact absurd e.symm (hc j (by omega))
    · exact absurd e (hc i (by omega))
    · exact h2 i j (by omega) (by omega) e)
  omega
theorem pow_emod {a n e:Nat}:(a%n)^e%n=a^e%n:=by rw [← Nat.pow_mod]
def One (a m k:Nat):Prop:=a^k%m=1%m
theorem One.mul {a m k:Nat} (h:One a m k) (l:Nat):One a m (k*l):=by
  unfold One at *
  rw [Nat.pow_mul,Nat.pow_mod,h,← Nat.pow_mod,Nat.one_pow]
theorem One.rest {a m k l:Nat} (h:One a m k) (h2:One a m l):One a m (k%l):=by
  have h3:=h2.mul (k / l)
  unfold One at *
  have e:k=l*(k / l)+k%l:=(Nat.div_add_mod k l).symm
  rw [e,Nat.pow_add,Nat.mul_mod,h3,← Nat.mul_mod,Nat.one_mul] at h
  exact h
theorem One.gcd {a m:Nat} (k:Nat) : ∀ l,One a m k→One a m l→One a m (Nat.gcd k l):=by
  induction k using Nat.strongRecOn with
  | ind k ih =>
    intro l h h2
    by_cases hk:k=0
    · subst hk; rw [Nat.gcd_zero_left]; exact h2
    · rw [Nat.gcd_rec]
      exact ih (l%k) (Nat.mod_lt _ (by omega)) k (h2.rest h) h
def prodL:List Nat→Nat
  | []=>1
  | r::rs=>r*prodL rs
theorem prime_in {m:Nat} (hm:1<m) : ∀ (rs:List Nat),(∀ r∈rs,Prm r)→m∣prodL rs→∃ r,r∈rs∧r∣m
  | [],_,h=>by
    have:=Nat.le_of_dvd (by decide) h
    simp [prodL] at this
    omega
  | r::rs,hp,h=>by
    have hr:=hp r List.mem_cons_self
    rcases hr.2 (Nat.gcd m r) (Nat.gcd_dvd_right m r) with h1 | h1
    · have h2:m∣prodL rs:=Nat.Coprime.dvd_of_dvd_mul_left h1 h
      obtain ⟨s,hs,hd⟩:=prime_in hm rs (fun x hx=>hp x (List.mem_cons_of_mem _ hx)) h2
      exact ⟨s,List.mem_cons_of_mem _ hs,hd⟩
    · exact ⟨r,List.mem_cons_self,by rw [← h1]; exact Nat.gcd_dvd_left m r⟩
theorem order_eq {a m n:Nat} {rs:List Nat} (hp : ∀ r∈rs,Prm r) (hn:prodL rs=n) (h0:0<n) (h1:One a m n) (hr : ∀ r∈rs,¬ One a m (n / r)) {k:Nat} (hk:0<k) (hkn:k<n) : ¬ One a m k:=by
  intro h
  have hg:=One.gcd k n h h1
  have hd:Nat.gcd k n∣n:=Nat.gcd_dvd_right k n
  have hle:Nat.gcd k n≤k:=Nat.le_of_dvd hk (Nat.gcd_dvd_left k n)
  obtain ⟨q,hq⟩:=hd
  generalize Nat.gcd k n=g at *
  have hq1:1<q:=by
    rcases Nat.lt_or_ge 1 q with h | h
    · exact h
    · have:g*q≤g*1:=Nat.mul_le_mul_left g h
      omega
  obtain ⟨r,hrm,s,hs⟩:=prime_in hq1 rs hp (by rw [hn,hq]; exact Nat.dvd_mul_left q g)
  have hr0:0<r:=by have:=(hp r hrm).1; omega
  apply hr r hrm
  have e:n / r=g*s:=by
    rw [hq,hs,← Nat.mul_assoc,Nat.mul_comm g r,Nat.mul_assoc,Nat.mul_div_cancel_left _ hr0]
  rw [e]
  exact hg.mul s
theorem powers_inj {a m n:Nat} (h1:One a m n) (ho : ∀ k,0<k→k<n→¬ One a m k) {i j:Nat} (hi:i<n) (hj:j<n) (e:a^i%m=a^j%m):i=j:=by
  have key : ∀ i j,i<j→j<n→a^i%m=a^j%m→False:=by
    intro i j hij hj e
    apply ho (j-i) (by omega) (by omega)
    have e2:a^(n-i)*a^i%m=a^(n-i)*a^j%m:=by rw [Nat.mul_mod,e,← Nat.mul_mod]
    rw [← Nat.pow_add,← Nat.pow_add,show n-i+i=n by omega,show n-i+j=n+(j-i) by omega] at e2
    unfold One at h1 ⊢
    rw [h1,Nat.pow_add,Nat.mul_mod,h1,← Nat.mul_mod,Nat.one_mul] at e2
    exact e2.symm
  rcases Nat.lt_trichotomy i j with h | h | h
  · exact (key i j h hj e).elim
  · exact h
  · exact (key j i h hi e.symm).elim
theorem One.dvd {a m l k:Nat} (h:One a m k) (hl:l∣m):One a l k:=by
  unfold One at *
  obtain ⟨q,rfl⟩:=hl
  have:=congrArg (· % l) h
  simpa [Nat.mod_mul_right_mod] using this
theorem pock {n F c:Nat} {rs:List Nat} (h2:2≤n) (hp : ∀ r∈rs,Prm r) (hF:prodL rs=F) (hF0:0<F) (hFn:n<F*F) (h1:One c n F) (hr : ∀ r∈rs,Nat.gcd (c^(F / r)%n+(n-1)) n=1):Prm n:=by
  have key : ∀ l,l∣n→2≤l→F≤l:=by
    intro l hl h2l
    have h1l:=h1.dvd hl
    have hol : ∀ k,0<k→k<F→¬ One c l k:=fun k hk hkF=>order_eq hp hF hF0 h1l (fun r hrm hone=>by
      have hg:=hr r hrm
      have hd:l∣c^(F / r)%n+(n-1):=by
        unfold One at hone
        have e1:c^(F / r)%n%l=1%l:=by
          obtain ⟨q,rfl⟩:=hl
          rw [Nat.mod_mul_right_mod]; exact hone
        obtain ⟨q,rfl⟩:=hl
        apply Nat.dvd_of_mod_eq_zero
        rw [Nat.add_mod,e1,← Nat.add_mod,show 1+(l*q-1)=l*q by omega,Nat.mul_mod_right]
      have:=Nat.dvd_gcd hd hl
      rw [hg] at this
      have:=Nat.le_of_dvd (by decide) this
      omega) hk hkF
    exact pigeon F l (fun i=>c^i%l) (fun i _=>Nat.mod_lt _ (by omega)) (fun i j hi hj e=>powers_inj h1l hol hi hj e)
  refine ⟨h2,fun d hd=>?_⟩
  obtain ⟨q,hq⟩:=hd
  by_cases hd1:d=1
  · exact .inl hd1
  by_cases hq1:q=1
  · subst hq1; exact .inr (by omega)
  exfalso
  have hd0:d≠0:=fun h=>by subst h; simp at hq; omega
  have hq0:q≠0:=fun h=>by subst h; simp at hq; omega
  have a1:=key d ⟨q,hq⟩ (by omega)
  have a2:=key q ⟨d,by rw [hq,Nat.mul_comm]⟩ (by omega)
  have:=Nat.mul_le_mul a1 a2
  omega
def pm (m:Nat):Nat→Nat→Nat→Nat→Nat
  | 0,_,_,acc=>acc
  | f+1,a,e,acc=>pm m f (a*a%m) (e / 2) (if e%2=0 then acc else acc*a%m)
theorem pm_eq (m f:Nat) : ∀ (a e acc:Nat),e<2^f→pm m f a e acc%m=acc*a^e%m:=by
  induction f with
  | zero => intro a e acc h; have : e = 0 := by simpa using h
            subst this; simp [pm]
  | succ f ih =>
    intro a e acc h
    have h2:e / 2<2^f:=by rw [Nat.pow_succ] at h; omega
    rw [pm,ih _ _ _ h2]
    have e1:e=2*(e / 2)+e%2:=(Nat.div_add_mod e 2).symm
    have e2:(a*a%m)^(e / 2)%m=a^(2*(e / 2))%m:=by rw [← Nat.pow_mod,← Nat.pow_two,← Nat.pow_mul]
    by_cases hz:e%2=0
    · rw [if_pos hz,Nat.mul_mod,e2,← Nat.mul_mod,show 2*(e / 2)=e by omega]
    · have e3:a^e=a*a^(2*(e / 2)):=by
        conv=>lhs; rw [e1,show e%2=1 by omega,Nat.pow_succ,Nat.mul_comm]
      rw [if_neg hz,Nat.mul_mod,e2,Nat.mod_mod,← Nat.mul_mod,e3,Nat.mul_assoc]
theorem one_of {a m e:Nat} (f:Nat) (h:e<2^f) (h1:(pm m f a e 1%m==1%m)=true):One a m e:=by
  have:=pm_eq m f a e 1 h
  unfold One
  rw [Nat.one_mul] at this
  rw [← this]
  simpa using h1
def chkP (n F c:Nat) (rs:List Nat):Bool :=
  Nat.ble 2 n&&(prodL rs==F)&&Nat.ble 1 F&&Nat.blt n (F*F)&&Nat.blt F (2^256)&&(pm n 256 c F 1%n==1%n)&&rs.all fun r=>Nat.blt (F / r) (2^256)&&Nat.gcd (pm n 256 c (F / r) 1%n+(n-1)) n==1
theorem prm_of {n F c:Nat} {rs:List Nat} (hp : ∀ r∈rs,Prm r) (h:chkP n F c rs=true):Prm n:=by
  unfold chkP at h
  simp only [Bool.and_eq_true,List.all_eq_true] at h
  obtain ⟨⟨⟨⟨⟨⟨h1,h2⟩,h3⟩,h4⟩,h5⟩,h6⟩,h7⟩:=h
  refine pock (F:=F) (c:=c) (rs:=rs) (Nat.le_of_ble_eq_true h1) hp (by simpa using h2) (Nat.le_of_ble_eq_true h3) (Nat.le_of_ble_eq_true h4) (one_of 256 (Nat.le_of_ble_eq_true h5) h6) ?_
  intro r hr
  obtain ⟨a1,a2⟩:=h7 r hr
  have:=pm_eq n 256 c (F / r) 1 (Nat.le_of_ble_eq_true a1)
  rw [Nat.one_mul] at this
  rw [← this]
  simpa using a2
def tryD (n:Nat):Nat→Nat→Bool
  | 0,_=>true
  | f+1,d => !(n%d==0)&&tryD n f (d+1)
theorem tryD_eq (n f:Nat) : ∀ d,tryD n f d=true→∀ i,i<f→n%(d+i)≠0:=by
  induction f with
  | zero=>intros; omega
  | succ f ih =>
    intro d h i hi
    simp only [tryD,Bool.and_eq_true] at h
    cases i with
    | zero=>simpa using h.1
    | succ i=>have:=ih (d+1) h.2 i (by omega); rwa [show d+(i+1)=d+1+i by omega]
theorem prm_small (n f:Nat) (h:(Nat.ble 2 n&&tryD n f 2&&Nat.blt n ((f+2)*(f+2)))=true):Prm n:=by
  simp only [Bool.and_eq_true] at h
  obtain ⟨⟨h1,h2⟩,h3⟩:=h
  have h1:=Nat.le_of_ble_eq_true h1
  have h3:n<(f+2)*(f+2):=Nat.le_of_ble_eq_true h3
  have key : ∀ d,2≤d→d<f+2→¬ d∣n:=fun d a b hd=>by
    have:=tryD_eq n f 2 h2 (d-2) (by omega)
    rw [show 2+(d-2)=d by omega] at this
    exact this (Nat.mod_eq_zero_of_dvd hd)
  refine ⟨h1,fun d hd=>?_⟩
  obtain ⟨q,hq⟩:=hd
  by_cases hd1:d=1
  · exact .inl hd1
  by_cases hq1:q=1
  · subst hq1; exact .inr (by omega)
  exfalso
  have hd0:d≠0:=fun h=>by subst h; simp at hq; omega
  have hq0:q≠0:=fun h=>by subst h; simp at hq; omega
  have a1:f+2≤d:=by
    rcases Nat.lt_or_ge d (f+2) with h | h
    · exact absurd ⟨q,hq⟩ (key d (by omega) h)
    · exact h
  have a2:f+2≤q:=by
    rcases Nat.lt_or_ge q (f+2) with h | h
    · exact absurd ⟨d,by rw [hq,Nat.mul_comm]⟩ (key q (by omega) h)
    · exact h
  have:=Nat.mul_le_mul a1 a2
  omega
theorem all_one {P:Nat→Prop} {a:Nat} (h:P a) : ∀ r ∈ [a],P r:=by intro r hr; rw [List.mem_singleton] at hr; subst hr; exact h
theorem all_two {P:Nat→Prop} {a b:Nat} (h:P a) (h2:P b) : ∀ r ∈ [a,b],P r:=by
  intro r hr
  simp only [List.mem_cons,List.not_mem_nil,or_false] at hr
  rcases hr with rfl | rfl
  · exact h
  · exact h2
theorem prm_2773320623:Prm 2773320623:=prm_small 2773320623 52662 (by decide +kernel)
theorem prm_72106336199:Prm 72106336199:=prm_of (F:=2773320623) (c:=67108864) (rs:=[2773320623]) (all_one prm_2773320623) (by decide +kernel)
theorem prm_8574133:Prm 8574133:=prm_small 8574133 2928 (by decide +kernel)
theorem prm_127:Prm 127:=prm_small 127 11 (by decide +kernel)
theorem prm_1919519569386763:Prm 1919519569386763:=prm_of (F:=1088914891) (c:=354538099852037) (rs:=[8574133,127]) (all_two prm_8574133 prm_127) (by decide +kernel)
theorem prm_430751:Prm 430751:=prm_small 430751 656 (by decide +kernel)
theorem prm_4153:Prm 4153:=prm_small 4153 64 (by decide +kernel)
theorem prm_31757755568855353:Prm 31757755568855353:=prm_of (F:=1788908903) (c:=26222887164197666) (rs:=[430751,4153]) (all_two prm_430751 prm_4153) (by decide +kernel)
theorem prm_75445702479781427272750846543864801:Prm 75445702479781427272750846543864801:=prm_of (F:=138409523410761641138333837) (c:=23520671056837248616447561120497838) (rs:=[1919519569386763,72106336199]) (all_two prm_1919519569386763 prm_72106336199) (by decide +kernel)
theorem prm_74058212732561358302231226437062788676166966415465897661863160754340907:Prm 74058212732561358302231226437062788676166966415465897661863160754340907:=prm_of (F:=2395986178073482737347378734667165195040796357129753) (c:=32917242187670345156894797748588826076355976820526874250530785709567478) (rs:=[75445702479781427272750846543864801,31757755568855353]) (all_two prm_75445702479781427272750846543864801 prm_31757755568855353) (by decide +kernel)
abbrev pN:Nat:=57896044618658097711785492504343953926634992332820282019728792003956564819949
abbrev qN:Nat:=74058212732561358302231226437062788676166966415465897661863160754340907
theorem prm_2:Prm 2:=prm_small 2 0 (by decide +kernel)
theorem prm_3:Prm 3:=prm_small 3 1 (by decide +kernel)
theorem prm_65147:Prm 65147:=prm_small 65147 255 (by decide +kernel)
theorem not_one {a m e:Nat} (f:Nat) (h:e<2^f) (h1:(pm m f a e 1%m==1%m)=false) : ¬ One a m e:=by
  have:=pm_eq m f a e 1 h
  intro h2
  unfold One at h2
  rw [Nat.one_mul,h2] at this
  rw [this] at h1
  simp at h1
theorem root_full:One 2 pN (pN-1):=one_of 256 (by decide +kernel) (by decide +kernel)
theorem root_order {k:Nat} (hk:0<k) (hk2:k<pN-1) : ¬ One 2 pN k:=by
  refine order_eq (rs:=[2,2,3,65147,qN]) ?_ (by decide +kernel) (by decide +kernel) root_full ?_ hk hk2
  · intro r hr
    simp only [List.mem_cons,List.not_mem_nil,or_false] at hr
    rcases hr with rfl | rfl | rfl | rfl | rfl
    · exact prm_2
    · exact prm_2
    · exact prm_3
    · exact prm_65147
    · exact prm_74058212732561358302231226437062788676166966415465897661863160754340907
  · intro r hr
    simp only [List.mem_cons,List.not_mem_nil,or_false] at hr
    rcases hr with rfl | rfl | rfl | rfl | rfl
    all_goals exact not_one 256 (by decide +kernel) (by decide +kernel)
theorem root_ne {i:Nat} (hi:i<pN-1):2^i%pN≠0:=by
  intro h
  have h1:=root_full
  unfold One at h1
  rw [show pN-1=i+(pN-1-i) by omega,Nat.pow_add,Nat.mul_mod,h,Nat.zero_mul,Nat.zero_mod] at h1
  exact absurd h1 (by decide +kernel)
theorem root_all {a:Nat} (ha:a%pN≠0) : ∃ i,i<pN-1∧2^i%pN=a%pN:=by
  have hlt : ∀ x,x%pN<pN:=fun x=>Nat.mod_lt _ (by decide +kernel)
  obtain ⟨i,hi,e⟩:=surj (n:=pN-1) (f:=fun i=>2^i%pN-1) (fun i hi=>by
    have:=hlt (2^i)
    have:=root_ne hi
    omega) (fun i j hi hj e=>by
    have:=root_ne hi
    have:=root_ne hj
    exact powers_inj root_full (fun k a b=>root_order a b) hi hj (by omega)) (v:=a%pN-1) (by have:=hlt a; omega)
  refine ⟨i,hi,?_⟩
  have:=root_ne hi
  omega
theorem fermat {a:Nat} (ha:a%pN≠0):One a pN (pN-1):=by
  obtain ⟨i,_,e⟩:=root_all ha
  have h:=root_full.mul i
  unfold One at h ⊢
  rw [← pow_emod,← e,pow_emod,← Nat.pow_mul,Nat.mul_comm]
  exact h
theorem inverse {a:Nat} (ha:a%pN≠0):a*a^(pN-2)%pN=1:=by
  have h:=fermat ha
  unfold One at h
  rw [show pN-1=(pN-2)+1 by decide +kernel,Nat.pow_succ,Nat.mul_comm] at h
  rw [h]
  decide +kernel
theorem no_root {d:Nat} (hd:(pm pN 256 d ((pN-1) / 2) 1%pN==1%pN)=false) (x:Nat) (hx:x%pN≠0):x*x%pN≠d%pN:=by
  intro e
  refine not_one 256 (by decide +kernel) hd ?_
  have h:=fermat hx
  unfold One at h ⊢
  rw [← pow_emod,← e,pow_emod,← Nat.pow_two,← Nat.pow_mul,show 2*((pN-1) / 2)=pN-1 by decide +kernel]
  exact h
abbrev dN:Nat:=37095705934669439343138083508754565189542113879843219016388785533085940283555
theorem d_no_root (x:Nat) (hx:x%pN≠0):x*x%pN≠dN%pN:=no_root (by decide +kernel) x hx
abbrev F:=Fin pN
theorem F_inv (a:F) (ha:a≠0) : ∃ i:F,a*i=1:=by
  have h0:a.val%pN≠0:=by
    intro h
    apply ha
    rw [Nat.mod_eq_of_lt a.isLt] at h
    exact Fin.ext h
  have h:=inverse h0
  refine ⟨⟨a.val^(pN-2)%pN,Nat.mod_lt _ (by decide +kernel)⟩,Fin.ext ?_⟩
  rw [Fin.val_mul]
  show a.val*(a.val^(pN-2)%pN)%pN=_
  generalize a.val^(pN-2)=z at *
  rw [Nat.mul_mod,Nat.mod_mod,← Nat.mul_mod,h]
  decide +kernel
theorem F_euclid {a b:F} (h:a*b=0):a=0∨b=0:=by
  by_cases ha:a=0
  · exact .inl ha
  · obtain ⟨i,hi⟩:=F_inv a ha
    exact .inr (by grind -lia -linarith (splits:=0))
def dF:F:=⟨dN,by decide +kernel⟩
def iF:F:=⟨19681161376707505956807079304988542015446066515923890162744021073123829784752,by decide +kernel⟩
theorem iF_sq:iF*iF+1=0:=by decide +kernel
theorem dF_noroot (s t:F) (h:s*s=dF*(t*t)):t=0:=by
  false_or_by_contra
  rename_i ht
  obtain ⟨i,hi⟩:=F_inv t ht
  have hx:(s*i)*(s*i)=dF:=by grind -lia -linarith (splits:=0)
  have h1:(s*i).val*(s*i).val%pN=dN%pN:=by
    have:=congrArg Fin.val hx
    rw [Fin.val_mul] at this
    rw [this]
    decide +kernel
  by_cases hz:(s*i).val%pN=0
  · rw [Nat.mul_mod,hz] at h1
    exact absurd h1 (by decide +kernel)
  · exact d_no_root _ hz h1
structure On (x y:F):Prop where
  eq:y*y-x*x=1+dF*x*x*y*y
theorem two_ne (a:F) (h:a+a=0):a=0:=by
  obtain ⟨i,hi⟩:=F_inv 2 (by decide +kernel)
  grind -lia -linarith (splits:=0)
theorem den_ne {x1 y1 x2 y2:F} (h1:On x1 y1) (h2:On x2 y2):dF*x1*x2*y1*y2*(dF*x1*x2*y1*y2)≠1:=by
  intro h3
  have e1:=h1.eq
  have e2:=h2.eq
  have hi:=iF_sq
  obtain ⟨j,hj⟩ : ∃ j,j=iF:=⟨_,rfl⟩
  rw [← hj] at hi
  obtain ⟨d,hd⟩ : ∃ d,d=dF:=⟨_,rfl⟩
  have nr : ∀ s t:F,s*s=d*(t*t)→t=0:=by rw [hd]; exact dF_noroot
  rw [← hd] at e1 e2 h3
  clear hd hj h1 h2
  obtain ⟨e,he⟩ : ∃ e,e=d*x1*x2*y1*y2:=⟨_,rfl⟩
  rw [← he] at h3
  -- with u = j x the curve is u u + y y = 1 - d u u y y
  have a1:x1*y1*(j*x2+y2)=0:=by
    refine nr (j*x1+e*y1) _ ?_
    grind -lia -linarith (splits:=0)
  have a2:x1*y1*(j*x2-y2)=0:=by
    refine nr (j*x1-e*y1) _ ?_
    grind -lia -linarith (splits:=0)
  have n1:x1*y1≠0:=fun h=>absurd (show (1:F)=0 by grind -lia -linarith (splits:=0)) (by decide +kernel)
  have b1:=(F_euclid a1).resolve_left n1
  have b2:=(F_euclid a2).resolve_left n1
  have b3:y2=0:=two_ne y2 (by grind -lia -linarith (splits:=0))
  exact absurd (show (1:F)=0 by grind -lia -linarith (splits:=0)) (by decide +kernel)
noncomputable def invF (a:F):F:=if h:a=0 then 0 else Classical.choose (F_inv a h)
theorem invF_mul {a:F} (ha:a≠0):a*invF a=1:=by
  unfold invF
  rw [dif_neg ha]
  exact Classical.choose_spec (F_inv a ha)
theorem den1 {x1 y1 x2 y2:F} (h1:On x1 y1) (h2:On x2 y2):1+dF*x1*x2*y1*y2≠0:=by
  intro h
  refine den_ne h1 h2 ?_
  generalize dF*x1*x2*y1*y2=e at *
  grind -lia -linarith (splits:=0)
theorem den2 {x1 y1 x2 y2:F} (h1:On x1 y1) (h2:On x2 y2):1-dF*x1*x2*y1*y2≠0:=by
  intro h
  refine den_ne h1 h2 ?_
  generalize dF*x1*x2*y1*y2=e at *
  grind -lia -linarith (splits:=0)
structure G where
  x:F
  y:F
  on:On x y
theorem G_ext {P Q:G} (hx:P.x=Q.x) (hy:P.y=Q.y):P=Q:=by
  cases P; cases Q
  simp only at hx hy
  subst hx; subst hy; rfl
theorem on_poly (a b u v d:F) (h1:b*b-a*a=1+d*a*a*b*b) (h2:v*v-u*u=1+d*u*u*v*v) :
    (b*v+a*u)*(b*v+a*u)*(1+d*a*u*b*v)*(1+d*a*u*b*v)-(a*v+b*u)*(a*v+b*u)*(1-d*a*u*b*v)*(1-d*a*u*b*v)-(1+d*a*u*b*v)*(1+d*a*u*b*v)*(1-d*a*u*b*v)*(1-d*a*u*b*v)-d*(a*v+b*u)*(a*v+b*u)*(b*v+a*u)*(b*v+a*u)=0:=by
  grind -lia -linarith (splits:=0)
theorem on_frac (A B C D i1 i2 d:F) (hB:B*i1=1) (hD:D*i2=1) (h:C*C*B*B-A*A*D*D-B*B*D*D-d*A*A*C*C=0) :
    C*i2*(C*i2)-A*i1*(A*i1)=1+d*(A*i1)*(A*i1)*(C*i2)*(C*i2):=by
  grind -lia -linarith (splits:=0)
noncomputable def addG (P Q:G):G :=
  ⟨(P.x*Q.y+P.y*Q.x)*invF (1+dF*P.x*Q.x*P.y*Q.y),(P.y*Q.y+P.x*Q.x)*invF (1-dF*P.x*Q.x*P.y*Q.y),
    ⟨on_frac _ _ _ _ _ _ _ (invF_mul (den1 P.on Q.on)) (invF_mul (den2 P.on Q.on)) (on_poly P.x P.y Q.x Q.y dF P.on.eq Q.on.eq)⟩⟩
def zeroG:G:=⟨0,1,⟨by decide +kernel⟩⟩
theorem addG_comm (P Q:G):addG P Q=addG Q P:=by
  have e1:dF*P.x*Q.x*P.y*Q.y=dF*Q.x*P.x*Q.y*P.y:=by generalize dF=d; grind -lia -linarith (splits:=0)
  refine G_ext ?_ ?_
  · show (P.x*Q.y+P.y*Q.x)*_=(Q.x*P.y+Q.y*P.x)*_
    rw [e1]; generalize invF _=i; grind -lia -linarith (splits:=0)
  · show (P.y*Q.y+P.x*Q.x)*_=(Q.y*P.y+Q.x*P.x)*_
    rw [e1]; generalize invF _=i; grind -lia -linarith (splits:=0)
theorem assocF_x (a b u v x y d:F) (h1:b*b-a*a=1+d*a*a*b*b) (h2:v*v-u*u=1+d*u*u*v*v) (h3:y*y-x*x=1+d*x*x*y*y):((a*v+b*u)*(1-d*a*u*b*v)*y+(b*v+a*u)*(1+d*a*u*b*v)*x)*((1+d*u*x*v*y)*(1-d*u*x*v*y)+d*(u*y+v*x)*(v*y+u*x)*a*b)-((u*y+v*x)*(1-d*u*x*v*y)*b+(v*y+u*x)*(1+d*u*x*v*y)*a)*((1+d*a*u*b*v)*(1-d*a*u*b*v)+d*(a*v+b*u)*(b*v+a*u)*x*y)=0:=by
  grind -lia -linarith (splits:=0)
theorem assocF_y (a b u v x y d:F) (h1:b*b-a*a=1+d*a*a*b*b) (h2:v*v-u*u=1+d*u*u*v*v) (h3:y*y-x*x=1+d*x*x*y*y):((b*v+a*u)*(1+d*a*u*b*v)*y+(a*v+b*u)*(1-d*a*u*b*v)*x)*((1+d*u*x*v*y)*(1-d*u*x*v*y)-d*(u*y+v*x)*(v*y+u*x)*a*b)-((v*y+u*x)*(1+d*u*x*v*y)*b+(u*y+v*x)*(1-d*u*x*v*y)*a)*((1+d*a*u*b*v)*(1-d*a*u*b*v)-d*(a*v+b*u)*(b*v+a*u)*x*y)=0:=by
  grind -lia -linarith (splits:=0)
theorem frac_x (A B C D A2 B2 C2 D2 i1 i2 i3 i4 x1 y1 x3 y3 d j k:F) (hB:B*i1=1) (hD:D*i2=1) (hB2:B2*i3=1) (hD2:D2*i4=1)
    (h:(A*D*y3+C*B*x3)*(B2*D2+d*A2*C2*x1*y1)-(A2*D2*y1+C2*B2*x1)*(B*D+d*A*C*x3*y3)=0) :
    (A*i1*y3+C*i2*x3)*(1+d*(A2*i3)*(C2*i4)*x1*y1)=(A2*i3*y1+C2*i4*x1)*(1+d*(A*i1)*(C*i2)*x3*y3):=by
  grind -lia -linarith (splits:=0)
theorem frac_y (A B C D A2 B2 C2 D2 i1 i2 i3 i4 x1 y1 x3 y3 d j k:F) (hB:B*i1=1) (hD:D*i2=1) (hB2:B2*i3=1) (hD2:D2*i4=1)
    (h:(C*B*y3+A*D*x3)*(B2*D2-d*A2*C2*x1*y1)-(C2*B2*y1+A2*D2*x1)*(B*D-d*A*C*x3*y3)=0) :
    (C*i2*y3+A*i1*x3)*(1-d*(A2*i3)*(C2*i4)*x1*y1)=(C2*i4*y1+A2*i3*x1)*(1-d*(A*i1)*(C*i2)*x3*y3):=by
  grind -lia -linarith (splits:=0)
theorem fin_x (X Y U V x1 y1 x3 y3 d j k:F) (h:(X*y3+Y*x3)*(1+d*U*V*x1*y1)=(U*y1+V*x1)*(1+d*X*Y*x3*y3)) (hj:(1+d*X*x3*Y*y3)*j=1) (hk:(1+d*x1*U*y1*V)*k=1) :
    (X*y3+Y*x3)*j=(x1*V+y1*U)*k:=by grind -lia -linarith (splits:=0)
theorem fin_y (X Y U V x1 y1 x3 y3 d j k:F) (h:(Y*y3+X*x3)*(1-d*U*V*x1*y1)=(V*y1+U*x1)*(1-d*X*Y*x3*y3)) (hj:(1-d*X*x3*Y*y3)*j=1) (hk:(1-d*x1*U*y1*V)*k=1) :
    (Y*y3+X*x3)*j=(y1*V+x1*U)*k:=by grind -lia -linarith (splits:=0)
theorem addG_assoc (P Q R:G):addG (addG P Q) R=addG P (addG Q R):=by
  have b1:=invF_mul (den1 P.on Q.on)
  have b2:=invF_mul (den2 P.on Q.on)
  have b3:=invF_mul (den1 Q.on R.on)
  have b4:=invF_mul (den2 Q.on R.on)
  refine G_ext ?_ ?_
  · refine fin_x _ _ _ _ P.x P.y R.x R.y dF _ _ ?_ (invF_mul (den1 (addG P Q).on R.on)) (invF_mul (den1 P.on (addG Q R).on))
    exact frac_x _ _ _ _ _ _ _ _ _ _ _ _ P.x P.y R.x R.y dF 0 0 b1 b2 b3 b4 (assocF_x P.x P.y Q.x Q.y R.x R.y dF P.on.eq Q.on.eq R.on.eq)
  · refine fin_y _ _ _ _ P.x P.y R.x R.y dF _ _ ?_ (invF_mul (den2 (addG P Q).on R.on)) (invF_mul (den2 P.on (addG Q R).on))
    exact frac_y _ _ _ _ _ _ _ _ _ _ _ _ P.x P.y R.x R.y dF 0 0 b1 b2 b3 b4 (assocF_y P.x P.y Q.x Q.y R.x R.y dF P.on.eq Q.on.eq R.on.eq)
theorem addG_zero (P:G):addG P zeroG=P:=by
  have b1:=invF_mul (den1 P.on zeroG.on)
  have b2:=invF_mul (den2 P.on zeroG.on)
  have z1:zeroG.x=0:=rfl
  have z2:zeroG.y=1:=rfl
  refine G_ext ?_ ?_
  · show (P.x*zeroG.y+P.y*zeroG.x)*invF _=P.x
    generalize invF (1+dF*P.x*zeroG.x*P.y*zeroG.y)=i at *
    rw [z1,z2] at *
    generalize dF=d at *
    grind -lia -linarith (splits:=0)
  · show (P.y*zeroG.y+P.x*zeroG.x)*invF _=P.y
    generalize invF (1-dF*P.x*zeroG.x*P.y*zeroG.y)=i at *
    rw [z1,z2] at *
    generalize dF=d at *
    grind -lia -linarith (splits:=0)
theorem zero_addG (P:G):addG zeroG P=P:=by rw [addG_comm,addG_zero]
noncomputable def mulG:Nat→G→G
  | 0,_=>zeroG
  | n+1,P=>addG (mulG n P) P
theorem mulG_add (m n:Nat) (P:G):mulG (m+n) P=addG (mulG m P) (mulG n P):=by
  induction n with
  | zero=>exact (addG_zero _).symm
  | succ n ih =>
    show addG (mulG (m+n) P) P=addG (mulG m P) (addG (mulG n P) P)
    rw [ih,addG_assoc]
theorem mulG_mul (m n:Nat) (P:G):mulG (m*n) P=mulG m (mulG n P):=by
  induction m with
  | zero=>rw [Nat.zero_mul]; rfl
  | succ m ih=>rw [Nat.succ_mul,mulG_add,ih]; rfl
def fi (n:Int):F:=⟨(n%57896044618658097711785492504343953926634992332820282019728792003956564819949).toNat,by
  show _<57896044618658097711785492504343953926634992332820282019728792003956564819949
  omega⟩
theorem fi_val (n:Int):((fi n).val:Int)=n%57896044618658097711785492504343953926634992332820282019728792003956564819949:=by
  show (((n%_).toNat:Nat):Int)=_
  omega
theorem pN_eq:(pN:Int)=57896044618658097711785492504343953926634992332820282019728792003956564819949:=by decide +kernel
theorem fi_eq {a b:Int}:fi a=fi b↔a%57896044618658097711785492504343953926634992332820282019728792003956564819949=b%57896044618658097711785492504343953926634992332820282019728792003956564819949:=by
  constructor
  · intro h
    rw [← fi_val,← fi_val,h]
  · intro h
    apply Fin.ext
    have:((fi a).val:Int)=((fi b).val:Int):=by rw [fi_val,fi_val,h]
    omega
theorem fi_add (a b:Int):fi (a+b)=fi a+fi b:=by
  apply Fin.ext
  rw [Fin.val_add]
  apply Int.ofNat_inj.1
  rw [fi_val,Int.natCast_emod,Int.natCast_add,fi_val,fi_val,pN_eq]
  exact Int.add_emod _ _ _
theorem fi_mul (a b:Int):fi (a*b)=fi a*fi b:=by
  apply Fin.ext
  rw [Fin.val_mul]
  apply Int.ofNat_inj.1
  rw [fi_val,Int.natCast_emod,Int.natCast_mul,fi_val,fi_val,pN_eq]
  exact Int.mul_emod _ _ _
theorem fi_1:fi 1=1:=by decide +kernel
theorem fi_sub (a b:Int):fi (a-b)=fi a-fi b:=by
  have h:=fi_add (a-b) b
  rw [Int.sub_add_cancel] at h
  grind -lia -linarith (splits:=0)
theorem fi_mod (a:Int):fi (a%57896044618658097711785492504343953926634992332820282019728792003956564819949)=fi a:=by
  rw [fi_eq]; exact Int.emod_emod_of_dvd _ (Int.dvd_refl _)
def fv (x:F):Int:=(x.val:Int)
theorem fv_rng (x:F):0≤fv x∧fv x<57896044618658097711785492504343953926634992332820282019728792003956564819949:=by
  have:=x.isLt
  have h:=pN_eq
  unfold fv
  omega
theorem fv_fi (n:Int):fv (fi n)=n%57896044618658097711785492504343953926634992332820282019728792003956564819949:=fi_val n
def pwF (x:F):Nat→F
  | 0=>1
  | n+1=>pwF x n*x
theorem pwF_zero (x:F):pwF x 0=1:=rfl
theorem pwF_succ (x:F) (n:Nat):pwF x (n+1)=pwF x n*x:=rfl
theorem pwF_add (x:F) (m n:Nat):pwF x (m+n)=pwF x m*pwF x n:=by
  induction n with
  | zero=>rw [Nat.add_zero,pwF_zero]; generalize pwF x m=z; grind -lia -linarith (splits:=0)
  | succ n ih=>rw [← Nat.add_assoc,pwF_succ,pwF_succ,ih]; generalize pwF x m=z; generalize pwF x n=w; grind -lia -linarith (splits:=0)
theorem pwF_val (x:F) (n:Nat):(pwF x n).val=x.val^n%pN:=by
  induction n with
  | zero=>rw [pwF_zero,Nat.pow_zero]; decide +kernel
  | succ n ih=>rw [pwF_succ,Fin.val_mul,ih,Nat.mod_mul_mod,Nat.pow_succ]
theorem fermatF {x:F} {n:Nat} (hn:n=pN-1) (hx:x≠0):pwF x n=1:=by
  have h0:x.val%pN≠0:=by
    intro h
    apply hx
    rw [Nat.mod_eq_of_lt x.isLt] at h
    exact Fin.ext h
  have h:=fermat h0
  rw [← hn] at h
  unfold One at h
  apply Fin.ext
  rw [pwF_val,h]
  decide +kernel
theorem inv_pow {x:F} {n:Nat} (hn:n+2=pN) (hx:x≠0):x*pwF x n=1:=by
  have h:=fermatF (n:=n+1) (by omega) hx
  rw [pwF_succ] at h
  rw [← h]
  generalize pwF x n=z
  grind -lia -linarith (splits:=0)
end Go.Proofs.YtiflckckekjbnaaGreatDoor
namespace Go.Proofs.YtiflckckekjbnaaGreatDoor
open Go Go.Sx Go.RowKit
set_option linter.all false
set_option maxRecDepth 100000
structure Rep (q:Q4) (P:G):Prop where
  z:fi q.z≠0
  x:fi q.x=P.x*fi q.z
  y:fi q.y=P.y*fi q.z
  t:fi q.t=P.x*P.y*fi q.z
theorem fi_D2:fi D2=dF+dF:=by decide +kernel
theorem fi_DD:fi DD=dF:=by decide +kernel
theorem mul_ne {a b:F} (ha:a≠0) (hb:b≠0):a*b≠0:=fun h=>(F_euclid h).elim ha hb
theorem two_F:(1:F)+1≠0:=by decide +kernel
theorem rep_closed {e f g h:Int} {P:G} (hf:fi f≠0) (hg:fi g≠0) (he:fi e=P.x*fi g) (hh:fi h=P.y*fi f):Rep (qclosed e f g h) P:=by
  constructor
  · show fi (f*g)≠0
    rw [fi_mul]; exact mul_ne hf hg
  · show fi (e*f)=_*fi (f*g)
    rw [fi_mul,fi_mul,he]; grind -lia -linarith (splits:=0)
  · show fi (g*h)=_*fi (f*g)
    rw [fi_mul,fi_mul,hh]; grind -lia -linarith (splits:=0)
  · show fi (e*h)=_*fi (f*g)
    rw [fi_mul,fi_mul,he,hh]; grind -lia -linarith (splits:=0)
theorem addG_x (P Q:G):(addG P Q).x*(1+dF*P.x*Q.x*P.y*Q.y)=P.x*Q.y+P.y*Q.x:=by
  have h:=invF_mul (den1 P.on Q.on)
  show (P.x*Q.y+P.y*Q.x)*invF (1+dF*P.x*Q.x*P.y*Q.y)*_=_
  generalize invF (1+dF*P.x*Q.x*P.y*Q.y)=i at *
  generalize dF=d at *
  grind -lia -linarith (splits:=0)
theorem addG_y (P Q:G):(addG P Q).y*(1-dF*P.x*Q.x*P.y*Q.y)=P.y*Q.y+P.x*Q.x:=by
  have h:=invF_mul (den2 P.on Q.on)
  show (P.y*Q.y+P.x*Q.x)*invF (1-dF*P.x*Q.x*P.y*Q.y)*_=_
  generalize invF (1-dF*P.x*Q.x*P.y*Q.y)=i at *
  generalize dF=d at *
  grind -lia -linarith (splits:=0)
theorem rep_add {p q:Q4} {P Q:G} (hp:Rep p P) (hq:Rep q Q):Rep (qadd p q) (addG P Q):=by
  have d1:=den1 P.on Q.on
  have d2:=den2 P.on Q.on
  have ax:=addG_x P Q
  have ay:=addG_y P Q
  have hz:=mul_ne two_F (mul_ne hp.z hq.z)
  have ef:fi ((p.z+p.z)*q.z-p.t*D2*q.t)=(1+1)*(fi p.z*fi q.z)*(1-dF*P.x*Q.x*P.y*Q.y):=by
    simp only [fi_mul,fi_sub,fi_add,fi_D2,hp.t,hq.t]
    generalize dF=d at *
    grind -lia -linarith (splits:=0)
  have eg:fi ((p.z+p.z)*q.z+p.t*D2*q.t)=(1+1)*(fi p.z*fi q.z)*(1+dF*P.x*Q.x*P.y*Q.y):=by
    simp only [fi_mul,fi_sub,fi_add,fi_D2,hp.t,hq.t]
    generalize dF=d at *
    grind -lia -linarith (splits:=0)
  refine rep_closed ?_ ?_ ?_ ?_
  · rw [ef]; exact mul_ne hz d2
  · rw [eg]; exact mul_ne hz d1
  · rw [eg]
    simp only [fi_mul,fi_sub,fi_add,hp.x,hq.x,hp.y,hq.y]
    generalize dF=d at *
    generalize (addG P Q).x=X at *
    grind -lia -linarith (splits:=0)
  · rw [ef]
    simp only [fi_mul,fi_sub,fi_add,hp.x,hq.x,hp.y,hq.y]
    generalize dF=d at *
    generalize (addG P Q).y=Y at *
    grind -lia -linarith (splits:=0)
theorem rep_dbl {p:Q4} {P:G} (hp:Rep p P):Rep (qdbl p) (addG P P):=by
  have d1:=den1 P.on P.on
  have d2:=den2 P.on P.on
  have ax:=addG_x P P
  have ay:=addG_y P P
  have on:=P.on.eq
  have ef:fi (p.z*p.z+p.z*p.z+(p.x*p.x-p.y*p.y))=(fi p.z*fi p.z)*(1-dF*P.x*P.x*P.y*P.y):=by
    simp only [fi_mul,fi_sub,fi_add,hp.x,hp.y]
    generalize dF=d at *
    grind -lia -linarith (splits:=0)
  have eg:fi (p.x*p.x-p.y*p.y) = - (fi p.z*fi p.z)*(1+dF*P.x*P.x*P.y*P.y):=by
    simp only [fi_mul,fi_sub,fi_add,hp.x,hp.y]
    generalize dF=d at *
    grind -lia -linarith (splits:=0)
  have hz:=mul_ne hp.z hp.z
  have hz' : - (fi p.z*fi p.z)≠0:=by
    intro h; apply hz
    grind -lia -linarith (splits:=0)
  refine rep_closed ?_ ?_ ?_ ?_
  · rw [ef]; exact mul_ne hz d2
  · rw [eg]; exact mul_ne hz' d1
  · rw [eg]
    simp only [fi_mul,fi_sub,fi_add,hp.x,hp.y]
    generalize dF=d at *
    generalize (addG P P).x=X at *
    grind -lia -linarith (splits:=0)
  · rw [ef]
    simp only [fi_mul,fi_sub,fi_add,hp.x,hp.y]
    generalize dF=d at *
    generalize (addG P P).y=Y at *
    grind -lia -linarith (splits:=0)
theorem rep_red {q:Q4} {P:G} (h:Rep q P):Rep (qred q) P:=by
  constructor
  · show fi (q.z%PP)≠0; rw [fi_mod]; exact h.z
  · show fi (q.x%PP)=_*fi (q.z%PP); rw [fi_mod,fi_mod]; exact h.x
  · show fi (q.y%PP)=_*fi (q.z%PP); rw [fi_mod,fi_mod]; exact h.y
  · show fi (q.t%PP)=_*fi (q.z%PP); rw [fi_mod,fi_mod]; exact h.t
theorem rep_zero:Rep qzero zeroG:=by
  constructor
  · show fi 1≠0; decide +kernel
  · show fi 0=0*fi 1; decide +kernel
  · show fi 1=1*fi 1; decide +kernel
  · show fi 0=0*1*fi 1; decide +kernel
theorem rep_add' {p q:Q4} {P Q:G} (hp:Rep p P) (hq:Rep q Q):Rep (qadd' p q) (addG P Q):=rep_red (rep_add hp hq)
theorem rep_dbl' {p:Q4} {P:G} (hp:Rep p P):Rep (qdbl' p) (addG P P):=rep_red (rep_dbl hp)
theorem rep_tab {p:Q4} {P:G} (hp:Rep p P) : ∀ j,Rep (tab p j) (mulG j P)
  | 0=>rep_zero
  | j+1=>rep_add' (rep_tab hp j) hp
theorem mulG_one (P:G):mulG 1 P=P:=zero_addG P
theorem mulG_two (P:G):mulG 2 P=addG P P:=by
  show addG (mulG 1 P) P=_
  rw [mulG_one]
theorem rep_dbl4 {p:Q4} {P:G} (hp:Rep p P):Rep (dbl4 p) (mulG 16 P):=by
  have h:=rep_dbl' (rep_dbl' (rep_dbl' (rep_dbl' hp)))
  rw [← mulG_two,← mulG_two,← mulG_two,← mulG_two,← mulG_mul,← mulG_mul,← mulG_mul] at h
  exact h
def nacc (k:List Int):Nat→Nat
  | 0=>0
  | i+1=>16*nacc k i+(nib k i).toNat
theorem rep_qacc {p:Q4} {P:G} (k:List Int) (hp:Rep p P) : ∀ i,Rep (qacc k p i) (mulG (nacc k i) P)
  | 0=>rep_zero
  | i+1=>by
    have h:=rep_add' (rep_dbl4 (rep_qacc k hp i)) (rep_tab hp (nib k i).toNat)
    rw [← mulG_mul,← mulG_add] at h
    exact h
def hacc (k:List Int):Nat→Int
  | 0=>0
  | j+1=>hacc k j*256+k.getD (31-j) 0
theorem nacc_two {k:List Int} (hk:Byt k) : ∀ j,(nacc k (2*j):Int)=hacc k j
  | 0=>rfl
  | j+1=>by
    have ih:=nacc_two hk j
    have hb:=hk (31-j)
    have e1:nib k (2*j)=k.getD (31-j) 0 / 16%16:=by unfold nib; rw [if_pos (by omega),show 2*j / 2=j by omega]
    have e2:nib k (2*j+1)=k.getD (31-j) 0%16:=by unfold nib; rw [if_neg (by omega),show (2*j+1) / 2=j by omega]
    show ((16*(16*nacc k (2*j)+(nib k (2*j)).toNat)+(nib k (2*j+1)).toNat:Nat):Int)=hacc k j*256+k.getD (31-j) 0
    rw [e1,e2]
    generalize k.getD (31-j) 0=b at *
    generalize nacc k (2*j)=n at *
    generalize hacc k j=m at *
    omega
def sval (x:List Int):Int:=x.getD 0 0+x.getD 1 0*256+x.getD 2 0*65536+x.getD 3 0*16777216+x.getD 4 0*4294967296+x.getD 5 0*1099511627776+x.getD 6 0*281474976710656+x.getD 7 0*72057594037927936+x.getD 8 0*18446744073709551616+x.getD 9 0*4722366482869645213696+x.getD 10 0*1208925819614629174706176+x.getD 11 0*309485009821345068724781056+x.getD 12 0*79228162514264337593543950336+x.getD 13 0*20282409603651670423947251286016+x.getD 14 0*5192296858534827628530496329220096+x.getD 15 0*1329227995784915872903807060280344576+x.getD 16 0*340282366920938463463374607431768211456+x.getD 17 0*87112285931760246646623899502532662132736+x.getD 18 0*22300745198530623141535718272648361505980416+x.getD 19 0*5708990770823839524233143877797980545530986496+x.getD 20 0*1461501637330902918203684832716283019655932542976+x.getD 21 0*374144419156711147060143317175368453031918731001856+x.getD 22 0*95780971304118053647396689196894323976171195136475136+x.getD 23 0*24519928653854221733733552434404946937899825954937634816+x.getD 24 0*6277101735386680763835789423207666416102355444464034512896+x.getD 25 0*1606938044258990275541962092341162602522202993782792835301376+x.getD 26 0*411376139330301510538742295639337626245683966408394965837152256+x.getD 27 0*105312291668557186697918027683670432318895095400549111254310977536+x.getD 28 0*26959946667150639794667015087019630673637144422540572481103610249216+x.getD 29 0*6901746346790563787434755862277025452451108972170386555162524223799296+x.getD 30 0*1766847064778384329583297500742918515827483896875618958121606201292619776+x.getD 31 0*452312848583266388373324160190187140051835877600158453279131187530910662656
theorem hacc_eq (k:List Int):hacc k 32=sval k:=by
  simp only [hacc,sval]
  simp only [Nat.reduceSub]
  omega
theorem nacc_eq {k:List Int} (hk:Byt k):nacc k 64=(sval k).toNat:=by
  have h:(nacc k 64:Int)=hacc k 32:=nacc_two hk 32
  rw [hacc_eq] at h
  omega
theorem sval_nonneg {k:List Int} (hk:Byt k):0≤sval k:=by
  have h:(nacc k 64:Int)=hacc k 32:=nacc_two hk 32
  rw [hacc_eq] at h
  omega
def bnum (e:List Int):Nat→Nat
  | 0=>0
  | k+1=>if ebit e (255-k) then 2*bnum e k+1 else 2*bnum e k
theorem fi_pw (x:Int) (e:List Int) : ∀ k,fi (pw x e k)=pwF (fi x) (bnum e k)
  | 0=>fi_1
  | k+1=>by
    have ih:=fi_pw x e k
    simp only [pw,bnum]
    split
    · rw [fi_mod,fi_mul,fi_mod,fi_mul,ih,pwF_succ,Nat.two_mul,pwF_add]
    · rw [fi_mod,fi_mul,ih,Nat.two_mul,pwF_add]
theorem bnum_inv:bnum einv 256+2=pN:=by decide +kernel
theorem fi_finv {a:Int} (h:fi a≠0):fi a*fi (finv a)=1:=by
  unfold finv
  rw [fi_pw,fi_mod]
  exact inv_pow bnum_inv h
def encG (P:G):List Int:=encXY (fv P.x) (fv P.y)
theorem encXY_congr {x y u v:Int} (h1:x%PP=u%PP) (h2:y%PP=v%PP):encXY x y=encXY u v:=by
  unfold encXY; rw [h1,h2]
theorem rep_aff {q:Q4} {P:G} (h:Rep q P):fi (q.x*finv q.z)=P.x∧fi (q.y*finv q.z)=P.y:=by
  have hi:=fi_finv h.z
  rw [fi_mul,fi_mul,h.x,h.y]
  generalize fi (finv q.z)=i at *
  generalize fi q.z=z at *
  exact ⟨by grind -lia -linarith (splits:=0),by grind -lia -linarith (splits:=0)⟩
theorem fv_mod (x:F):fv x%PP=fv x:=Int.emod_eq_of_lt (fv_rng x).1 (fv_rng x).2
theorem enc_rep {q:Q4} {P:G} (h:Rep q P):encQ q=encG P:=by
  have ha:=rep_aff h
  refine encXY_congr ?_ ?_
  · rw [fv_mod,← ha.1,fv_fi]
  · rw [fv_mod,← ha.2,fv_fi]
theorem byt_byt (n:Int):Byt (byt n):=byt_of (by
  unfold byt
  repeat' (first | exact List.forall_mem_nil _ | refine List.forall_mem_cons.2 ⟨?_,?_⟩)
  all_goals omega)
theorem byt_length (n:Int):(byt n).length=32:=rfl
theorem or128 {x:Int} (h0:0≤x) (h1:x<128):bitsV .or .u8 x 128=x+128:=by
  have:x=((x.toNat:Nat):Int):=by omega
  rw [this]
  have hx:x.toNat<128:=by omega
  generalize x.toNat=n at *
  have h : ∀ n:Fin 128,bitsV .or .u8 ((n.val:Nat):Int) 128=(n.val:Int)+128:=by decide +kernel
  exact h ⟨n,hx⟩
theorem byt_31 {n:Int} (h0:0≤n) (h1:n<PP):0≤(byt n).getD 31 0∧(byt n).getD 31 0<128:=by
  have e:(byt n).getD 31 0=n / 452312848583266388373324160190187140051835877600158453279131187530910662656%256:=rfl
  rw [e]
  unfold PP at h1
  omega
theorem setD_length {l:List Int} {i:Nat} {v:Int} (h:i<l.length):(setD l i v).length=l.length:=by rw [setD_eq h,List.length_set]
theorem enc_byt (x y:Int):Byt (encXY x y):=by
  unfold encXY
  split
  · refine setD_byt (byt_byt _) ?_
    have:=byt_31 (n:=y%PP) (Int.emod_nonneg _ (by decide)) (Int.emod_lt_of_pos _ PP_pos)
    rw [or128 this.1 this.2]
    omega
  · exact byt_byt _
theorem enc_length (x y:Int):(encXY x y).length=32:=by
  unfold encXY
  split
  · rw [setD_length (by rw [byt_length]; decide),byt_length]
  · exact byt_length _
end Go.Proofs.YtiflckckekjbnaaGreatDoor
