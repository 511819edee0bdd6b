/- Texts of a proof, one behind the other: L8 L9 L10 L11 L12 L13 L14. -/
import Derived.Test.YtiflckckekjbnaaGreatDoorMV4
namespace Go.Proofs.YtiflckckekjbnaaGreatDoor
open Go Go.Sx Go.RowKit
set_option linter.all false
set_option maxHeartbeats 400000
set_option maxRecDepth 100000
def q5_Mul_b2 (p0:List Int) (p1:List Int) (i561:Int) (k623:(List Int)→OL) (k659:(Int)→(List Int)→OL) (i657:Int) (a658:List Int):OL :=
 br ((decide (i657<10))) (
 bnd (IntKind.wrap .i64 (i561+i657)) fun z664 =>
 bnd (IntKind.wrap .i64 (i561+i657)) fun z665 =>
 chk (inB z665 20) <|
 chk (inB i561 10) <|
 chk (inB i657 10) <|
 bnd (a658.getD (z665).toNat 0) fun z669 =>
 bnd (p0.getD (i561).toNat 0) fun z670 =>
 bnd (p1.getD (i657).toNat 0) fun z671 =>
 bnd (IntKind.wrap .u64 (z670*z671)) fun z672 =>
 bnd (IntKind.wrap .u64 (z669+z672)) fun z673 =>
 chk (inB z664 20) <|
 bnd (setD a658 (z664).toNat z673) fun l675 =>
 bnd (IntKind.wrap .i64 (i657+1)) fun z677 =>
 k659 z677 l675
 ) (
 k623 a658
 )
def q5_Mul_l2 (p0:List Int) (p1:List Int) (i561:Int) (k623:(List Int)→OL):Nat→(Int)→(List Int)→OL
  | 0,_,_=>none
  | n+1,i657,a658=>q5_Mul_b2 p0 p1 i561 k623 (q5_Mul_l2 p0 p1 i561 k623 n) i657 a658
def q5_Mul_b1 (p0:List Int) (p1:List Int) (k344:(List Int)→OL) (k563:(Int)→(List Int)→OL) (i561:Int) (a562:List Int):OL :=
 br ((decide (i561<10))) (
 jn (fun (a622:List Int)=>bnd (IntKind.wrap .i64 (i561+1)) fun z679 =>
 k563 z679 a622) fun k623=>q5_Mul_l2 p0 p1 i561 k623 big 0 a562
 ) (
 k344 a562
 )
def q5_Mul_l1 (p0:List Int) (p1:List Int) (k344:(List Int)→OL):Nat→(Int)→(List Int)→OL
  | 0,_,_=>none
  | n+1,i561,a562=>q5_Mul_b1 p0 p1 k344 (q5_Mul_l1 p0 p1 k344 n) i561 a562
def q5_Mul_b3 (k742:(List Int)→OL) (k780:(Int)→(List Int)→OL) (i778:Int) (a779:List Int):OL :=
 br ((decide (i778<19))) (
 bnd (IntKind.wrap .i64 (i778+1)) fun z785 =>
 bnd (IntKind.wrap .i64 (i778+1)) fun z786 =>
 chk (inB z786 20) <|
 chk (inB i778 20) <|
 bnd (a779.getD (z786).toNat 0) fun z789 =>
 bnd (a779.getD (i778).toNat 0) fun z790 =>
 bnd (shrV .u64 z790 26) fun z791 =>
 bnd (IntKind.wrap .u64 (z789+z791)) fun z792 =>
 chk (inB z785 20) <|
 bnd (setD a779 (z785).toNat z792) fun l794 =>
 chk (inB i778 20) <|
 bnd (l794.getD (i778).toNat 0) fun z797 =>
 bnd (bitsV .and .u64 z797 67108863) fun z798 =>
 chk (inB i778 20) <|
 bnd (setD l794 (i778).toNat z798) fun l800 =>
 bnd (IntKind.wrap .i64 (i778+1)) fun z802 =>
 k780 z802 l800
 ) (
 k742 a779
 )
def q5_Mul_l3 (k742:(List Int)→OL):Nat→(Int)→(List Int)→OL
  | 0,_,_=>none
  | n+1,i778,a779=>q5_Mul_b3 k742 (q5_Mul_l3 k742 n) i778 a779
def q5_Mul_b4 (a741:List Int) (k849:(List Int)→OL) (k876:(Int)→(List Int)→OL) (i874:Int) (a875:List Int):OL :=
 br ((decide (i874<10))) (
 chk (inB i874 20) <|
 bnd (IntKind.wrap .i64 (i874+10)) fun z882 =>
 chk (inB z882 20) <|
 bnd (a741.getD (i874).toNat 0) fun z884 =>
 bnd (a741.getD (z882).toNat 0) fun z885 =>
 bnd (IntKind.wrap .u64 (608*z885)) fun z886 =>
 bnd (IntKind.wrap .u64 (z884+z886)) fun z887 =>
 chk (inB i874 10) <|
 bnd (setD a875 (i874).toNat z887) fun l889 =>
 bnd (IntKind.wrap .i64 (i874+1)) fun z891 =>
 k876 z891 l889
 ) (
 k849 a875
 )
def q5_Mul_l4 (a741:List Int) (k849:(List Int)→OL):Nat→(Int)→(List Int)→OL
  | 0,_,_=>none
  | n+1,i874,a875=>q5_Mul_b4 a741 k849 (q5_Mul_l4 a741 k849 n) i874 a875
def q5_Mul (p0:List Int) (p1:List Int):OL :=
 jn (fun (a343:List Int)=>jn (fun (a741:List Int)=>jn (fun (a848:List Int)=>opt (q5_Least a848) fun y893 =>
 some y893) fun k849=>q5_Mul_l4 a741 k849 big 0 (List.replicate 10 0)) fun k742=>q5_Mul_l3 k742 big 0 a343) fun k344=>q5_Mul_l1 p0 p1 k344 big 0 (List.replicate 20 0)
theorem q5_Mul_spec {W:World} {r:(List Int)} {p0:List Int} {p1:List Int} (h:q5_Mul p0 p1=some r)  :
    Calls Tryz.prog 104 [agg [.ints .u64 10 (p0)],agg [.ints .u64 10 (p1)]].toArray W (ret1 W (agg [.ints .u64 10 (r)])):=by
 unfold q5_Mul at h
 refine calls_val mo ok104 rfl ?_
 refine wc_seq<|wc_ops<|wj_e (ef_bx (s:=[.ints .u64 10 (p0)]) rfl fun b2 hb2=>wj_e (ef_bx (s:=[.ints .u64 10 (p1)]) rfl fun b3 hb3=>wj_e (ef_al fun b4 hb4=>wj_nil<|wc_seq<|wc_ops<|wj_e (ef_al fun b6 hb6=>wj_nil<|wc_seq<|wc_seq<|wc_ops<|wj_m rfl<|wj_nil<|jH h fun k344 qk344 h=>wc_mono2 (G:=fun t m=>∃ (a343:List Int),k344 a343=some r∧Fit [(4,.pointer (some ⟨b4,0,none⟩)),(5,.pointer (some ⟨b6,0,none⟩))] (ck b6 205 [.ints .u64 20 (a343)]::(ck b4 88 [.ints .u64 10 ((List.replicate 10 0))]::(ck b3 88 [.ints .u64 10 (p1)]::(ck b2 88 [.ints .u64 10 (p0)] :: [])))) t m) ?_ ?_))))
 ·refine wc_block<|wc_loopJ (fun n564 t m=>∃ (i561:Int) (a562:List Int),q5_Mul_l1 p0 p1 k344 n564 i561 a562=some r∧Fit [(2,.pointer (some ⟨b2,0,none⟩)),(3,.pointer (some ⟨b3,0,none⟩)),(4,.pointer (some ⟨b4,0,none⟩)),(5,.pointer (some ⟨b6,0,none⟩)),(6,.int .i64 (i561))] (ck b6 205 [.ints .u64 20 (a562)]::(ck b4 88 [.ints .u64 10 ((List.replicate 10 0))]::(ck b3 88 [.ints .u64 10 (p1)]::(ck b2 88 [.ints .u64 10 (p0)] :: [])))) t m) big ?_ ?_
  ·exact ⟨0,(List.replicate 20 0),h,⟨⟨rfl,rfl,rfl,rfl,rfl,trivial⟩,(.one .here (.one .here (.one .here (.one .here .nil))))⟩⟩
  ·rintro n564 t m ⟨i561,a562,h,hF⟩
   refine wc_fit hF ?_
   clear hF
   rcases n564 with _ | n564
   · exact none_i h
   have h:q5_Mul_b1 p0 p1 k344 (q5_Mul_l1 p0 p1 k344 n564) i561 a562=some r:=h
   unfold q5_Mul_b1 at h
   obtain ⟨k563,qk563⟩ : ∃ k,k=q5_Mul_l1 p0 p1 k344 n564:=⟨_,rfl⟩
   try rw [← qk563] at h
   refine wc_seq<|wc_seq<|wc_ops<|wj_m rfl<|wj_q _ (q_bin rfl rfl rfl)<|wj_nil<|wc_br h rfl (fun h=>?_) (fun h=>?_)
   ·refine wc_skip<|wc_seq<|wc_block<|wc_seq<|wc_ops<|wj_m rfl<|wj_nil<|jH h fun k623 qk623 h=>wc_mono2 (G:=fun t m=>∃ (a622:List Int),k623 a622=some r∧Fit [(2,.pointer (some ⟨b2,0,none⟩)),(3,.pointer (some ⟨b3,0,none⟩)),(4,.pointer (some ⟨b4,0,none⟩)),(5,.pointer (some ⟨b6,0,none⟩)),(6,.int .i64 (i561))] (ck b6 205 [.ints .u64 20 (a622)]::(ck b4 88 [.ints .u64 10 ((List.replicate 10 0))]::(ck b3 88 [.ints .u64 10 (p1)]::(ck b2 88 [.ints .u64 10 (p0)] :: [])))) t m) ?_ ?_
    ·refine wc_block<|wc_loopJ (fun n660 t m=>∃ (i657:Int) (a658:List Int),q5_Mul_l2 p0 p1 i561 k623 n660 i657 a658=some r∧Fit [(2,.pointer (some ⟨b2,0,none⟩)),(3,.pointer (some ⟨b3,0,none⟩)),(4,.pointer (some ⟨b4,0,none⟩)),(5,.pointer (some ⟨b6,0,none⟩)),(6,.int .i64 (i561)),(7,.int .i64 (i657))] (ck b6 205 [.ints .u64 20 (a658)]::(ck b4 88 [.ints .u64 10 ((List.replicate 10 0))]::(ck b3 88 [.ints .u64 10 (p1)]::(ck b2 88 [.ints .u64 10 (p0)] :: [])))) t m) big ?_ ?_
     ·exact ⟨0,a562,h,⟨⟨rfl,rfl,rfl,rfl,rfl,rfl,trivial⟩,(.one .here (.one .here (.one .here (.one .here .nil))))⟩⟩
     ·rintro n660 t m ⟨i657,a658,h,hF⟩
      refine wc_fit hF ?_
      clear hF
      rcases n660 with _ | n660
      · exact none_i h
      have h:q5_Mul_b2 p0 p1 i561 k623 (q5_Mul_l2 p0 p1 i561 k623 n660) i657 a658=some r:=h
      unfold q5_Mul_b2 at h
      obtain ⟨k659,qk659⟩ : ∃ k,k=q5_Mul_l2 p0 p1 i561 k623 n660:=⟨_,rfl⟩
      try rw [← qk659] at h
      refine wc_seq<|wc_seq<|wc_ops<|wj_m rfl<|wj_q _ (q_bin rfl rfl rfl)<|wj_nil<|wc_br h rfl (fun h=>?_) (fun h=>?_)
      ·refine wc_skip<|wc_seq<|wc_block<|bH h fun z664 ez664 h=>bH h fun z665 ez665 h=>cH h fun c666 h=>cH h fun c667 h=>cH h fun c668 h=>bH h fun z669 ez669 h=>bH h fun z670 ez670 h=>bH h fun z671 ez671 h=>bH h fun z672 ez672 h=>bH h fun z673 ez673 h=>cH h fun c674 h=>bH h fun l675 el675 h=>wc_draw<|ws_p1 _ (q_mv rfl)<|ws_p1 _ (q_mv rfl)<|ws_p1 _ (iz ez664 (q_bin rfl rfl rfl))<|ws_p1 _ (q_mv rfl)<|ws_p1 _ (q_mv rfl)<|ws_p1 _ (iz ez665 (q_bin rfl rfl rfl))<|ws_p1 _ (q_ia rfl rfl (inB_z c666))<|ws_p1 _ (q_mv rfl)<|ws_p1 _ (q_ia rfl rfl (inB_z c667))<|ws_p1 _ (q_mv rfl)<|ws_p1 _ (q_ia rfl rfl (inB_z c668))<|ws_q1 _ (iz ez669 (q_ldi (base:=0) rfl .here rfl (inB_n c666)))<|ws_q1 _ (iz ez670 (q_ldi (base:=0) rfl (.there (.there (.there .here))) rfl (inB_n c667)))<|ws_q1 _ (iz ez671 (q_ldi (base:=0) rfl (.there (.there .here)) rfl (inB_n c668)))<|ws_p1 _ (iz ez672 (q_bin rfl rfl rfl))<|ws_p1 _ (iz ez673 (q_bin rfl rfl rfl))<|ws_p1 _ (q_ia rfl rfl (inB_z c674))<|ws_eL rfl (ef_stiz (q:=[.ints .u64 20 (l675)]) (base:=0) el675 rfl rfl rfl (inB_n c674) rfl .here<|ws_nil<|bH h fun z677 ez677 h=>wc_ops<|wj_m rfl<|wj_q _ (iz ez677 (q_bin rfl rfl rfl))<|wj_m rfl<|wj_nil ?_)
       rw [qk659] at h
       exact ⟨n660,Nat.lt_succ_self _,z677,l675,h,⟨⟨rfl,rfl,rfl,rfl,rfl,rfl,trivial⟩,(.one .here (.one .here (.one .here (.one .here .nil))))⟩⟩
      ·exact wc_exit _ rfl<|⟨a658,h,⟨⟨rfl,rfl,rfl,rfl,rfl,trivial⟩,(.one .here (.one .here (.one .here (.one .here .nil))))⟩⟩
    ·rintro t m ⟨a622,h,hF⟩
     refine wc_fit hF ?_
     clear hF
     subst qk623
     refine bH h fun z679 ez679 h=>wc_ops<|wj_m rfl<|wj_q _ (iz ez679 (q_bin rfl rfl rfl))<|wj_m rfl<|wj_nil ?_
     rw [qk563] at h
     exact ⟨n564,Nat.lt_succ_self _,z679,a622,h,⟨⟨rfl,rfl,rfl,rfl,rfl,trivial⟩,(.one .here (.one .here (.one .here (.one .here .nil))))⟩⟩
   ·exact wc_exit _ rfl<|⟨a562,h,⟨⟨rfl,rfl,trivial⟩,(.one .here (.one .here (.one .here (.one .here .nil))))⟩⟩
 ·rintro t m ⟨a343,h,hF⟩
  refine wc_fit hF ?_
  clear hF
  subst qk344
  refine wc_seq<|wc_seq<|wc_ops<|wj_m rfl<|wj_nil<|jH h fun k742 qk742 h=>wc_mono2 (G:=fun t m=>∃ (a741:List Int),k742 a741=some r∧Fit [(4,.pointer (some ⟨b4,0,none⟩)),(5,.pointer (some ⟨b6,0,none⟩))] (ck b6 205 [.ints .u64 20 (a741)]::(ck b4 88 [.ints .u64 10 ((List.replicate 10 0))]::(ck b3 88 [.ints .u64 10 (p1)]::(ck b2 88 [.ints .u64 10 (p0)] :: [])))) t m) ?_ ?_
  ·refine wc_block<|wc_loopJ (fun n781 t m=>∃ (i778:Int) (a779:List Int),q5_Mul_l3 k742 n781 i778 a779=some r∧Fit [(4,.pointer (some ⟨b4,0,none⟩)),(5,.pointer (some ⟨b6,0,none⟩)),(8,.int .i64 (i778))] (ck b6 205 [.ints .u64 20 (a779)]::(ck b4 88 [.ints .u64 10 ((List.replicate 10 0))]::(ck b3 88 [.ints .u64 10 (p1)]::(ck b2 88 [.ints .u64 10 (p0)] :: [])))) t m) big ?_ ?_
   ·exact ⟨0,a343,h,⟨⟨rfl,rfl,rfl,trivial⟩,(.one .here (.one .here (.one .here (.one .here .nil))))⟩⟩
   ·rintro n781 t m ⟨i778,a779,h,hF⟩
    refine wc_fit hF ?_
    clear hF
    rcases n781 with _ | n781
    · exact none_i h
    have h:q5_Mul_b3 k742 (q5_Mul_l3 k742 n781) i778 a779=some r:=h
    unfold q5_Mul_b3 at h
    obtain ⟨k780,qk780⟩ : ∃ k,k=q5_Mul_l3 k742 n781:=⟨_,rfl⟩
    try rw [← qk780] at h
    refine wc_seq<|wc_seq<|wc_ops<|wj_m rfl<|wj_q _ (q_bin rfl rfl rfl)<|wj_nil<|wc_br h rfl (fun h=>?_) (fun h=>?_)
    ·refine wc_skip<|wc_seq<|wc_block<|wc_seq<|bH h fun z785 ez785 h=>bH h fun z786 ez786 h=>cH h fun c787 h=>cH h fun c788 h=>bH h fun z789 ez789 h=>bH h fun z790 ez790 h=>bH h fun z791 ez791 h=>bH h fun z792 ez792 h=>cH h fun c793 h=>bH h fun l794 el794 h=>wc_draw<|ws_p1 _ (q_mv rfl)<|ws_p1 _ (iz ez785 (q_bin rfl rfl rfl))<|ws_p1 _ (q_mv rfl)<|ws_p1 _ (iz ez786 (q_bin rfl rfl rfl))<|ws_p1 _ (q_ia rfl rfl (inB_z c787))<|ws_p1 _ (q_mv rfl)<|ws_p1 _ (q_ia rfl rfl (inB_z c788))<|ws_q1 _ (iz ez789 (q_ldi (base:=0) rfl .here rfl (inB_n c787)))<|ws_q1 _ (iz ez790 (q_ldi (base:=0) rfl .here rfl (inB_n c788)))<|ws_p1 _ (iz ez791 (q_shr rfl rfl (by decide)))<|ws_p1 _ (iz ez792 (q_bin rfl rfl rfl))<|ws_p1 _ (q_ia rfl rfl (inB_z c793))<|ws_eL rfl (ef_stiz (q:=[.ints .u64 20 (l794)]) (base:=0) el794 rfl rfl rfl (inB_n c793) rfl .here<|ws_nil<|cH h fun c796 h=>bH h fun z797 ez797 h=>bH h fun z798 ez798 h=>cH h fun c799 h=>bH h fun l800 el800 h=>wc_ops<|wj_m rfl<|wj_m rfl<|wj_q _ (q_ia rfl rfl (inB_z c796))<|wj_q _ (iz ez797 (q_ldi (base:=0) rfl .here rfl (inB_n c796)))<|wj_q _ (iz ez798 (q_bin rfl rfl rfl))<|wj_q _ (q_ia rfl rfl (inB_z c799))<|wj_e (ef_stiz (q:=[.ints .u64 20 (l800)]) (base:=0) el800 rfl rfl rfl (inB_n c799) rfl .here<|wj_nil<|bH h fun z802 ez802 h=>wc_ops<|wj_m rfl<|wj_q _ (iz ez802 (q_bin rfl rfl rfl))<|wj_m rfl<|wj_nil ?_))
     rw [qk780] at h
     exact ⟨n781,Nat.lt_succ_self _,z802,l800,h,⟨⟨rfl,rfl,rfl,trivial⟩,(.one .here (.one .here (.one .here (.one .here .nil))))⟩⟩
    ·exact wc_exit _ rfl<|⟨a779,h,⟨⟨rfl,rfl,trivial⟩,(.one .here (.one .here (.one .here (.one .here .nil))))⟩⟩
  ·rintro t m ⟨a741,h,hF⟩
   refine wc_fit hF ?_
   clear hF
   subst qk742
   refine wc_seq<|wc_ops<|wj_e (ef_al fun b804 hb804=>wj_nil<|wc_seq<|wc_seq<|wc_ops<|wj_m rfl<|wj_nil<|jH h fun k849 qk849 h=>wc_mono2 (G:=fun t m=>∃ (a848:List Int),k849 a848=some r∧Fit [(4,.pointer (some ⟨b4,0,none⟩)),(9,.pointer (some ⟨b804,0,none⟩))] (ck b804 88 [.ints .u64 10 (a848)]::(ck b6 205 [.ints .u64 20 (a741)]::(ck b4 88 [.ints .u64 10 ((List.replicate 10 0))]::(ck b3 88 [.ints .u64 10 (p1)]::(ck b2 88 [.ints .u64 10 (p0)] :: []))))) t m) ?_ ?_)
   ·refine wc_block<|wc_loopJ (fun n877 t m=>∃ (i874:Int) (a875:List Int),q5_Mul_l4 a741 k849 n877 i874 a875=some r∧Fit [(4,.pointer (some ⟨b4,0,none⟩)),(5,.pointer (some ⟨b6,0,none⟩)),(9,.pointer (some ⟨b804,0,none⟩)),(10,.int .i64 (i874))] (ck b804 88 [.ints .u64 10 (a875)]::(ck b6 205 [.ints .u64 20 (a741)]::(ck b4 88 [.ints .u64 10 ((List.replicate 10 0))]::(ck b3 88 [.ints .u64 10 (p1)]::(ck b2 88 [.ints .u64 10 (p0)] :: []))))) t m) big ?_ ?_
    ·exact ⟨0,(List.replicate 10 0),h,⟨⟨rfl,rfl,rfl,rfl,trivial⟩,(.one .here (.one .here (.one .here (.one .here (.one .here .nil)))))⟩⟩
    ·rintro n877 t m ⟨i874,a875,h,hF⟩
     refine wc_fit hF ?_
     clear hF
     rcases n877 with _ | n877
     · exact none_i h
     have h:q5_Mul_b4 a741 k849 (q5_Mul_l4 a741 k849 n877) i874 a875=some r:=h
     unfold q5_Mul_b4 at h
     obtain ⟨k876,qk876⟩ : ∃ k,k=q5_Mul_l4 a741 k849 n877:=⟨_,rfl⟩
     try rw [← qk876] at h
     refine wc_seq<|wc_seq<|wc_ops<|wj_m rfl<|wj_q _ (q_bin rfl rfl rfl)<|wj_nil<|wc_br h rfl (fun h=>?_) (fun h=>?_)
     ·refine wc_skip<|wc_seq<|wc_block<|cH h fun c881 h=>bH h fun z882 ez882 h=>cH h fun c883 h=>bH h fun z884 ez884 h=>bH h fun z885 ez885 h=>bH h fun z886 ez886 h=>bH h fun z887 ez887 h=>cH h fun c888 h=>bH h fun l889 el889 h=>wc_draw<|ws_p1 _ (q_mv rfl)<|ws_p1 _ (q_mv rfl)<|ws_p1 _ (q_ia rfl rfl (inB_z c881))<|ws_p1 _ (q_mv rfl)<|ws_p1 _ (iz ez882 (q_bin rfl rfl rfl))<|ws_p1 _ (q_ia rfl rfl (inB_z c883))<|ws_q1 _ (iz ez884 (q_ldi (base:=0) rfl (.there .here) rfl (inB_n c881)))<|ws_q1 _ (iz ez885 (q_ldi (base:=0) rfl (.there .here) rfl (inB_n c883)))<|ws_p1 _ (iz ez886 (q_bin rfl rfl rfl))<|ws_p1 _ (iz ez887 (q_bin rfl rfl rfl))<|ws_p1 _ (q_ia rfl rfl (inB_z c888))<|ws_eL rfl (ef_stiz (q:=[.ints .u64 10 (l889)]) (base:=0) el889 rfl rfl rfl (inB_n c888) rfl .here<|ws_nil<|bH h fun z891 ez891 h=>wc_ops<|wj_m rfl<|wj_q _ (iz ez891 (q_bin rfl rfl rfl))<|wj_m rfl<|wj_nil ?_)
      rw [qk876] at h
      exact ⟨n877,Nat.lt_succ_self _,z891,l889,h,⟨⟨rfl,rfl,rfl,rfl,trivial⟩,(.one .here (.one .here (.one .here (.one .here (.one .here .nil)))))⟩⟩
     ·exact wc_exit _ rfl<|⟨a875,h,⟨⟨rfl,rfl,trivial⟩,(.one .here (.one .here (.one .here (.one .here (.one .here .nil)))))⟩⟩
   ·rintro t m ⟨a848,h,hF⟩
    refine wc_fit hF ?_
    clear hF
    subst qk849
    refine wc_seq<|oH h fun y893 ey893 h=>wc_ops<|wj_q _ (q_ld (p:=[.ints .u64 10 (a848)]) rfl .here rfl)<|wj_q _ (q_cl rfl (q5_Least_spec ey893))<|wj_e (ef_st (q:=[.ints .u64 10 (y893)]) rfl rfl rfl rfl rfl (.there (.there .here))<|wj_nil<|wc_ret ?_)
    revert h; refine ret_i fun h=>?_
    subst h
    exact ⟨_,(.cons (.agg rfl (.there (.there .here)) rfl) .nil),rfl⟩
def q5_Small (p0:Int):OL :=
 bnd (bitsV .and .u64 p0 67108863) fun z4 =>
 bnd (shrV .u64 p0 26) fun z5 =>
 bnd (bitsV .and .u64 z5 67108863) fun z6 =>
 bnd (shrV .u64 p0 52) fun z7 =>
 bnd (([z4,z6,z7,0,0,0,0,0,0,0]:List Int)) fun z8 =>
 some z8
theorem q5_Small_spec {W:World} {r:(List Int)} {p0:Int} (h:q5_Small p0=some r)  :
    Calls Tryz.prog 176 [.int .u64 (p0)].toArray W (ret1 W (agg [.ints .u64 10 (r)])):=by
 unfold q5_Small at h
 refine calls_val mo ok176 rfl ?_
 refine wc_seq<|wc_ops<|wj_e (ef_al fun b2 hb2=>wj_nil<|wc_seq<|bH h fun z4 ez4 h=>bH h fun z5 ez5 h=>bH h fun z6 ez6 h=>bH h fun z7 ez7 h=>bH h fun z8 ez8 h=>wc_ops<|wj_m rfl<|wj_q _ (iz ez4 (q_bin rfl rfl rfl))<|wj_m rfl<|wj_q _ (iz ez5 (q_shr rfl rfl (by decide)))<|wj_q _ (iz ez6 (q_bin rfl rfl rfl))<|wj_m rfl<|wj_q _ (iz ez7 (q_shr rfl rfl (by decide)))<|wj_q _ (az (fun z=>agg [.ints .u64 10 z]) ez8 (q_bd (.one rfl rfl rfl (.one rfl rfl rfl (.one rfl rfl rfl BdR.nil)))))<|wj_e (ef_st (q:=[.ints .u64 10 (z8)]) rfl rfl rfl rfl rfl .here<|wj_nil<|wc_ret ?_))
 revert h; refine ret_i fun h=>?_
 subst h
 exact ⟨_,(.cons (.agg rfl .here rfl) .nil),rfl⟩
def q5_Pow_b1 (p0:List Int) (p1:List Int) (k102:(List Int)→OL) (k161:(Int)→(List Int)→OL) (i159:Int) (a160:List Int):OL :=
 br ((decide (i159≥0))) (
 jn (fun (a178:List Int)=>bnd (IntKind.wrap .i64 (i159-1)) fun z194 =>
 k161 z194 a178) fun k179=>opt (q5_Mul a160 a160) fun y181 =>
 bnd (IntKind.wrap .i64 (Int.tdiv i159 8)) fun z183 =>
 chk (inB z183 32) <|
 bnd (p1.getD (z183).toNat 0) fun z185 =>
 bnd (Int.tmod i159 8) fun z186 =>
 chk (decide (0≤z186)) <|
 bnd (shrV .u8 z185 z186) fun z188 =>
 bnd (bitsV .and .u8 z188 1) fun z189 =>
 br ((z189==1)) (
 opt (q5_Mul y181 p0) fun y192 =>
 k179 y192
 ) (
 k179 y181
 )
 ) (
 k102 a160
 )
def q5_Pow_l1 (p0:List Int) (p1:List Int) (k102:(List Int)→OL):Nat→(Int)→(List Int)→OL
  | 0,_,_=>none
  | n+1,i159,a160=>q5_Pow_b1 p0 p1 k102 (q5_Pow_l1 p0 p1 k102 n) i159 a160
def q5_Pow (p0:List Int) (p1:List Int):OL :=
 opt (q5_Small 1) fun y6 =>
 jn (fun (a101:List Int)=>some a101) fun k102=>q5_Pow_l1 p0 p1 k102 big 255 y6
theorem q5_Pow_spec {W:World} {r:(List Int)} {p0:List Int} {p1:List Int} (h:q5_Pow p0 p1=some r)  :
    Calls Tryz.prog 170 [agg [.ints .u64 10 (p0)],agg [.ints .u8 32 (p1)]].toArray W (ret1 W (agg [.ints .u64 10 (r)])):=by
 unfold q5_Pow at h
 refine calls_val mo ok170 rfl ?_
 refine wc_seq<|wc_ops<|wj_e (ef_bx (s:=[.ints .u64 10 (p0)]) rfl fun b2 hb2=>wj_e (ef_bx (s:=[.ints .u8 32 (p1)]) rfl fun b3 hb3=>wj_e (ef_al fun b4 hb4=>wj_nil<|wc_seq<|oH h fun y6 ey6 h=>wc_ops<|wj_q _ (q_cl rfl (q5_Small_spec ey6))<|wj_e (ef_al fun b7 hb7=>wj_e (ef_st (q:=[.ints .u64 10 (y6)]) rfl rfl rfl rfl rfl .here<|wj_nil<|wc_seq<|wc_seq<|wc_ops<|wj_m rfl<|wj_nil<|jH h fun k102 qk102 h=>wc_mono2 (G:=fun t m=>∃ (a101:List Int),k102 a101=some r∧Fit [(4,.pointer (some ⟨b4,0,none⟩)),(5,.pointer (some ⟨b7,0,none⟩))] (ck b7 88 [.ints .u64 10 (a101)]::(ck b4 88 [.ints .u64 10 ((List.replicate 10 0))]::(ck b3 22 [.ints .u8 32 (p1)]::(ck b2 88 [.ints .u64 10 (p0)] :: [])))) t m) ?_ ?_)))))
 ·refine wc_block<|wc_loopJ (fun n162 t m=>∃ (i159:Int) (a160:List Int),q5_Pow_l1 p0 p1 k102 n162 i159 a160=some r∧Fit [(2,.pointer (some ⟨b2,0,none⟩)),(3,.pointer (some ⟨b3,0,none⟩)),(4,.pointer (some ⟨b4,0,none⟩)),(5,.pointer (some ⟨b7,0,none⟩)),(6,.int .i64 (i159))] (ck b7 88 [.ints .u64 10 (a160)]::(ck b4 88 [.ints .u64 10 ((List.replicate 10 0))]::(ck b3 22 [.ints .u8 32 (p1)]::(ck b2 88 [.ints .u64 10 (p0)] :: [])))) t m) big ?_ ?_
  ·exact ⟨255,y6,h,⟨⟨rfl,rfl,rfl,rfl,rfl,trivial⟩,(.one .here (.one .here (.one .here (.one .here .nil))))⟩⟩
  ·rintro n162 t m ⟨i159,a160,h,hF⟩
   refine wc_fit hF ?_
   clear hF
   rcases n162 with _ | n162
   · exact none_i h
   have h:q5_Pow_b1 p0 p1 k102 (q5_Pow_l1 p0 p1 k102 n162) i159 a160=some r:=h
   unfold q5_Pow_b1 at h
   obtain ⟨k161,qk161⟩ : ∃ k,k=q5_Pow_l1 p0 p1 k102 n162:=⟨_,rfl⟩
   try rw [← qk161] at h
   refine wc_seq<|wc_seq<|wc_ops<|wj_m rfl<|wj_q _ (q_bin rfl rfl rfl)<|wj_nil<|wc_br h rfl (fun h=>?_) (fun h=>?_)
   ·refine wc_skip<|wc_seq<|jH h fun k179 qk179 h=>wc_mono2 (G:=fun t m=>∃ (a178:List Int),k179 a178=some r∧Fit [(2,.pointer (some ⟨b2,0,none⟩)),(3,.pointer (some ⟨b3,0,none⟩)),(4,.pointer (some ⟨b4,0,none⟩)),(5,.pointer (some ⟨b7,0,none⟩)),(6,.int .i64 (i159))] (ck b7 88 [.ints .u64 10 (a178)]::(ck b4 88 [.ints .u64 10 ((List.replicate 10 0))]::(ck b3 22 [.ints .u8 32 (p1)]::(ck b2 88 [.ints .u64 10 (p0)] :: [])))) t m) ?_ ?_
    ·refine wc_block<|wc_seq<|oH h fun y181 ey181 h=>wc_ops<|wj_q _ (q_ld (p:=[.ints .u64 10 (a160)]) rfl .here rfl)<|wj_q _ (q_ld (p:=[.ints .u64 10 (a160)]) rfl .here rfl)<|wj_q _ (q_cl rfl (q5_Mul_spec ey181))<|wj_e (ef_st (q:=[.ints .u64 10 (y181)]) rfl rfl rfl rfl rfl .here<|wj_nil<|wc_seq<|bH h fun z183 ez183 h=>cH h fun c184 h=>bH h fun z185 ez185 h=>bH h fun z186 ez186 h=>cH h fun c187 h=>bH h fun z188 ez188 h=>bH h fun z189 ez189 h=>wc_ops<|wj_m rfl<|wj_q _ (iz ez183 (q_quo rfl rfl (by decide)))<|wj_q _ (q_ia rfl rfl (inB_z c184))<|wj_q _ (iz ez185 (q_ldi (base:=0) rfl (.there (.there .here)) rfl (inB_n c184)))<|wj_m rfl<|wj_q _ (iz ez186 (q_rem rfl rfl (by decide)))<|wj_q _ (iz ez188 (q_shr rfl rfl (of_decide_eq_true c187)))<|wj_q _ (iz ez189 (q_bin rfl rfl rfl))<|wj_q _ (q_bin rfl rfl rfl)<|wj_nil<|wc_br h rfl (fun h=>?_) (fun h=>?_))
     ·exact oH h fun y192 ey192 h=>wc_ops<|wj_q _ (q_ld (p:=[.ints .u64 10 (y181)]) rfl .here rfl)<|wj_q _ (q_ld (p:=[.ints .u64 10 (p0)]) rfl (.there (.there (.there .here))) rfl)<|wj_q _ (q_cl rfl (q5_Mul_spec ey192))<|wj_e (ef_st (q:=[.ints .u64 10 (y192)]) rfl rfl rfl rfl rfl .here<|wj_nil<|⟨y192,h,⟨⟨rfl,rfl,rfl,rfl,rfl,trivial⟩,(.one .here (.one .here (.one .here (.one .here .nil))))⟩⟩)
     ·exact wc_skip<|⟨y181,h,⟨⟨rfl,rfl,rfl,rfl,rfl,trivial⟩,(.one .here (.one .here (.one .here (.one .here .nil))))⟩⟩
    ·rintro t m ⟨a178,h,hF⟩
     refine wc_fit hF ?_
     clear hF
     subst qk179
     refine bH h fun z194 ez194 h=>wc_ops<|wj_m rfl<|wj_q _ (iz ez194 (q_bin rfl rfl rfl))<|wj_m rfl<|wj_nil ?_
     rw [qk161] at h
     exact ⟨n162,Nat.lt_succ_self _,z194,a178,h,⟨⟨rfl,rfl,rfl,rfl,rfl,trivial⟩,(.one .here (.one .here (.one .here (.one .here .nil))))⟩⟩
   ·exact wc_exit _ rfl<|⟨a160,h,⟨⟨rfl,rfl,trivial⟩,(.one .here (.one .here (.one .here (.one .here .nil))))⟩⟩
 ·rintro t m ⟨a101,h,hF⟩
  refine wc_fit hF ?_
  clear hF
  subst qk102
  refine wc_seq<|wc_ops<|wj_q _ (q_ld (p:=[.ints .u64 10 (a101)]) rfl .here rfl)<|wj_e (ef_st (q:=[.ints .u64 10 (a101)]) rfl rfl rfl rfl rfl (.there .here)<|wj_nil<|wc_ret ?_)
  revert h; refine ret_i fun h=>?_
  subst h
  exact ⟨_,(.cons (.agg rfl (.there .here) rfl) .nil),rfl⟩
def q5_Power_b1 (k31:(List Int)→OL) (k47:(Int)→(List Int)→OL) (i45:Int) (a46:List Int):OL :=
 br ((decide (i45<32))) (
 chk (inB i45 32) <|
 bnd (setD a46 (i45).toNat 255) fun l53 =>
 bnd (IntKind.wrap .i64 (i45+1)) fun z55 =>
 k47 z55 l53
 ) (
 k31 a46
 )
def q5_Power_l1 (k31:(List Int)→OL):Nat→(Int)→(List Int)→OL
  | 0,_,_=>none
  | n+1,i45,a46=>q5_Power_b1 k31 (q5_Power_l1 k31 n) i45 a46
def q5_Power (p0:Int) (p1:Int):OL :=
 jn (fun (a30:List Int)=>bnd (setD a30 0 p0) fun l57 =>
 bnd (setD l57 31 p1) fun l59 =>
 some l59) fun k31=>q5_Power_l1 k31 big 0 (List.replicate 32 0)
theorem q5_Power_spec {W:World} {r:(List Int)} {p0:Int} {p1:Int} (h:q5_Power p0 p1=some r)  :
    Calls Tryz.prog 171 [.int .u8 (p0),.int .u8 (p1)].toArray W (ret1 W (agg [.ints .u8 32 (r)])):=by
 unfold q5_Power at h
 refine calls_val mo ok171 rfl ?_
 refine wc_seq<|wc_ops<|wj_e (ef_al fun b2 hb2=>wj_nil<|wc_seq<|wc_ops<|wj_e (ef_al fun b4 hb4=>wj_nil<|wc_seq<|wc_seq<|wc_ops<|wj_m rfl<|wj_nil<|jH h fun k31 qk31 h=>wc_mono2 (G:=fun t m=>∃ (a30:List Int),k31 a30=some r∧Fit [(0,.int .u8 (p0)),(1,.int .u8 (p1)),(4,.pointer (some ⟨b2,0,none⟩)),(5,.pointer (some ⟨b4,0,none⟩))] (ck b4 22 [.ints .u8 32 (a30)]::(ck b2 22 [.ints .u8 32 ((List.replicate 32 0))] :: [])) t m) ?_ ?_))
 ·refine wc_block<|wc_loopJ (fun n48 t m=>∃ (i45:Int) (a46:List Int),q5_Power_l1 k31 n48 i45 a46=some r∧Fit [(0,.int .u8 (p0)),(1,.int .u8 (p1)),(4,.pointer (some ⟨b2,0,none⟩)),(5,.pointer (some ⟨b4,0,none⟩)),(6,.int .i64 (i45))] (ck b4 22 [.ints .u8 32 (a46)]::(ck b2 22 [.ints .u8 32 ((List.replicate 32 0))] :: [])) t m) big ?_ ?_
  ·exact ⟨0,(List.replicate 32 0),h,⟨⟨rfl,rfl,rfl,rfl,rfl,trivial⟩,(.one .here (.one .here .nil))⟩⟩
  ·rintro n48 t m ⟨i45,a46,h,hF⟩
   refine wc_fit hF ?_
   clear hF
   rcases n48 with _ | n48
   · exact none_i h
   have h:q5_Power_b1 k31 (q5_Power_l1 k31 n48) i45 a46=some r:=h
   unfold q5_Power_b1 at h
   obtain ⟨k47,qk47⟩ : ∃ k,k=q5_Power_l1 k31 n48:=⟨_,rfl⟩
   try rw [← qk47] at h
   refine wc_seq<|wc_seq<|wc_ops<|wj_m rfl<|wj_q _ (q_bin rfl rfl rfl)<|wj_nil<|wc_br h rfl (fun h=>?_) (fun h=>?_)
   ·refine wc_skip<|wc_seq<|wc_block<|cH h fun c52 h=>bH h fun l53 el53 h=>wc_ops<|wj_m rfl<|wj_q _ (q_ia rfl rfl (inB_z c52))<|wj_e (ef_stiz (q:=[.ints .u8 32 (l53)]) (base:=0) el53 rfl rfl rfl (inB_n c52) rfl .here<|wj_nil<|bH h fun z55 ez55 h=>wc_ops<|wj_m rfl<|wj_q _ (iz ez55 (q_bin rfl rfl rfl))<|wj_m rfl<|wj_nil ?_)
    rw [qk47] at h
    exact ⟨n48,Nat.lt_succ_self _,z55,l53,h,⟨⟨rfl,rfl,rfl,rfl,rfl,trivial⟩,(.one .here (.one .here .nil))⟩⟩
   ·exact wc_exit _ rfl<|⟨a46,h,⟨⟨rfl,rfl,rfl,rfl,trivial⟩,(.one .here (.one .here .nil))⟩⟩
 ·rintro t m ⟨a30,h,hF⟩
  refine wc_fit hF ?_
  clear hF
  subst qk31
  refine wc_seq<|bH h fun l57 el57 h=>wc_ops<|wj_m rfl<|wj_q _ (q_ia rfl rfl (by decide))<|wj_e (ef_st1z (q:=[.ints .u8 32 (l57)]) (congrArg (fun z=>([.ints .u8 32 (z)]:List Seg)) el57.symm) rfl rfl rfl rfl .here<|wj_nil<|wc_seq<|bH h fun l59 el59 h=>wc_ops<|wj_m rfl<|wj_q _ (q_ia rfl rfl (by decide))<|wj_e (ef_st1z (q:=[.ints .u8 32 (l59)]) (congrArg (fun z=>([.ints .u8 32 (z)]:List Seg)) el59.symm) rfl rfl rfl rfl .here<|wj_nil<|wc_seq<|wc_ops<|wj_q _ (q_ld (p:=[.ints .u8 32 (l59)]) rfl .here rfl)<|wj_e (ef_st (q:=[.ints .u8 32 (l59)]) rfl rfl rfl rfl rfl (.there .here)<|wj_nil<|wc_ret ?_)))
  revert h; refine ret_i fun h=>?_
  subst h
  exact ⟨_,(.cons (.agg rfl (.there .here) rfl) .nil),rfl⟩
def q5_Invert (p0:List Int):OL :=
 opt (q5_Power 235 127) fun y5 =>
 opt (q5_Pow p0 y5) fun y6 =>
 some y6
theorem q5_Invert_spec {W:World} {r:(List Int)} {p0:List Int} (h:q5_Invert p0=some r)  :
    Calls Tryz.prog 102 [agg [.ints .u64 10 (p0)]].toArray W (ret1 W (agg [.ints .u64 10 (r)])):=by
 unfold q5_Invert at h
 refine calls_val mo ok102 rfl ?_
 refine wc_seq<|wc_ops<|wj_e (ef_bx (s:=[.ints .u64 10 (p0)]) rfl fun b2 hb2=>wj_e (ef_al fun b3 hb3=>wj_nil<|wc_seq<|oH h fun y5 ey5 h=>oH h fun y6 ey6 h=>wc_draw<|ws_p1 _ (q_cl rfl (q5_Power_spec ey5))<|ws_q1 _ (q_ld (p:=[.ints .u64 10 (p0)]) rfl (.there .here) rfl)<|ws_p1 _ (q_cl rfl (q5_Pow_spec ey6))<|ws_eL rfl (ef_st (q:=[.ints .u64 10 (y6)]) rfl rfl rfl rfl rfl .here<|ws_nil<|wc_ret ?_)))
 revert h; refine ret_i fun h=>?_
 subst h
 exact ⟨_,(.cons (.agg rfl .here rfl) .nil),rfl⟩
def q5_Bytes_b1 (p0:List Int) (k74:(List Int)→OL) (k115:(Int)→(List Int)→OL) (i113:Int) (a114:List Int):OL :=
 br ((decide (i113<255))) (
 bnd (IntKind.wrap .i64 (Int.tdiv i113 26)) fun z120 =>
 chk (inB z120 10) <|
 bnd (p0.getD (z120).toNat 0) fun z122 =>
 bnd (Int.tmod i113 26) fun z123 =>
 chk (decide (0≤z123)) <|
 bnd (shrV .u64 z122 z123) fun z125 =>
 bnd (bitsV .and .u64 z125 1) fun z126 =>
 bnd (IntKind.wrap .u8 z126) fun z127 =>
 bnd (IntKind.wrap .i64 (Int.tdiv i113 8)) fun z129 =>
 bnd (IntKind.wrap .i64 (Int.tdiv i113 8)) fun z130 =>
 chk (inB z130 32) <|
 bnd (Int.tmod i113 8) fun z132 =>
 chk (decide (0≤z132)) <|
 bnd (shlV .u8 z127 z132) fun z134 =>
 bnd (a114.getD (z130).toNat 0) fun z135 =>
 bnd (IntKind.wrap .u8 (z135+z134)) fun z136 =>
 chk (inB z129 32) <|
 bnd (setD a114 (z129).toNat z136) fun l138 =>
 bnd (IntKind.wrap .i64 (i113+1)) fun z140 =>
 k115 z140 l138
 ) (
 k74 a114
 )
def q5_Bytes_l1 (p0:List Int) (k74:(List Int)→OL):Nat→(Int)→(List Int)→OL
  | 0,_,_=>none
  | n+1,i113,a114=>q5_Bytes_b1 p0 k74 (q5_Bytes_l1 p0 k74 n) i113 a114
def q5_Bytes (p0:List Int):OL :=
 jn (fun (a73:List Int)=>some a73) fun k74=>q5_Bytes_l1 p0 k74 big 0 (List.replicate 32 0)
theorem q5_Bytes_spec {W:World} {r:(List Int)} {p0:List Int} (h:q5_Bytes p0=some r)  :
    Calls Tryz.prog 103 [agg [.ints .u64 10 (p0)]].toArray W (ret1 W (agg [.ints .u8 32 (r)])):=by
 unfold q5_Bytes at h
 refine calls_val mo ok103 rfl ?_
 refine wc_seq<|wc_ops<|wj_e (ef_bx (s:=[.ints .u64 10 (p0)]) rfl fun b2 hb2=>wj_e (ef_al fun b3 hb3=>wj_nil<|wc_seq<|wc_ops<|wj_e (ef_al fun b5 hb5=>wj_nil<|wc_seq<|wc_seq<|wc_ops<|wj_m rfl<|wj_nil<|jH h fun k74 qk74 h=>wc_mono2 (G:=fun t m=>∃ (a73:List Int),k74 a73=some r∧Fit [(2,.pointer (some ⟨b3,0,none⟩)),(3,.pointer (some ⟨b5,0,none⟩))] (ck b5 22 [.ints .u8 32 (a73)]::(ck b3 22 [.ints .u8 32 ((List.replicate 32 0))]::(ck b2 88 [.ints .u64 10 (p0)] :: []))) t m) ?_ ?_)))
 ·refine wc_block<|wc_loopJ (fun n116 t m=>∃ (i113:Int) (a114:List Int),q5_Bytes_l1 p0 k74 n116 i113 a114=some r∧Fit [(1,.pointer (some ⟨b2,0,none⟩)),(2,.pointer (some ⟨b3,0,none⟩)),(3,.pointer (some ⟨b5,0,none⟩)),(4,.int .i64 (i113))] (ck b5 22 [.ints .u8 32 (a114)]::(ck b3 22 [.ints .u8 32 ((List.replicate 32 0))]::(ck b2 88 [.ints .u64 10 (p0)] :: []))) t m) big ?_ ?_
  ·exact ⟨0,(List.replicate 32 0),h,⟨⟨rfl,rfl,rfl,rfl,trivial⟩,(.one .here (.one .here (.one .here .nil)))⟩⟩
  ·rintro n116 t m ⟨i113,a114,h,hF⟩
   refine wc_fit hF ?_
   clear hF
   rcases n116 with _ | n116
   · exact none_i h
   have h:q5_Bytes_b1 p0 k74 (q5_Bytes_l1 p0 k74 n116) i113 a114=some r:=h
   unfold q5_Bytes_b1 at h
   obtain ⟨k115,qk115⟩ : ∃ k,k=q5_Bytes_l1 p0 k74 n116:=⟨_,rfl⟩
   try rw [← qk115] at h
   refine wc_seq<|wc_seq<|wc_ops<|wj_m rfl<|wj_q _ (q_bin rfl rfl rfl)<|wj_nil<|wc_br h rfl (fun h=>?_) (fun h=>?_)
   ·refine wc_skip<|wc_seq<|wc_block<|wc_seq<|bH h fun z120 ez120 h=>cH h fun c121 h=>bH h fun z122 ez122 h=>bH h fun z123 ez123 h=>cH h fun c124 h=>bH h fun z125 ez125 h=>bH h fun z126 ez126 h=>bH h fun z127 ez127 h=>wc_ops<|wj_m rfl<|wj_q _ (iz ez120 (q_quo rfl rfl (by decide)))<|wj_q _ (q_ia rfl rfl (inB_z c121))<|wj_q _ (iz ez122 (q_ldi (base:=0) rfl (.there (.there .here)) rfl (inB_n c121)))<|wj_m rfl<|wj_q _ (iz ez123 (q_rem rfl rfl (by decide)))<|wj_q _ (iz ez125 (q_shr rfl rfl (of_decide_eq_true c124)))<|wj_q _ (iz ez126 (q_bin rfl rfl rfl))<|wj_q _ (iz ez127 (q_conv rfl))<|wj_m rfl<|wj_nil<|bH h fun z129 ez129 h=>bH h fun z130 ez130 h=>cH h fun c131 h=>bH h fun z132 ez132 h=>cH h fun c133 h=>bH h fun z134 ez134 h=>bH h fun z135 ez135 h=>bH h fun z136 ez136 h=>cH h fun c137 h=>bH h fun l138 el138 h=>wc_draw<|ws_p1 _ (q_mv rfl)<|ws_p1 _ (iz ez129 (q_quo rfl rfl (by decide)))<|ws_p1 _ (q_mv rfl)<|ws_p1 _ (iz ez130 (q_quo rfl rfl (by decide)))<|ws_p1 _ (q_ia rfl rfl (inB_z c131))<|ws_p1 _ (q_mv rfl)<|ws_p1 _ (q_mv rfl)<|ws_p1 _ (iz ez132 (q_rem rfl rfl (by decide)))<|ws_p1 _ (iz ez134 (q_shl rfl rfl (of_decide_eq_true c133)))<|ws_q1 _ (iz ez135 (q_ldi (base:=0) rfl .here rfl (inB_n c131)))<|ws_p1 _ (iz ez136 (q_bin rfl rfl rfl))<|ws_p1 _ (q_ia rfl rfl (inB_z c137))<|ws_eL rfl (ef_stiz (q:=[.ints .u8 32 (l138)]) (base:=0) el138 rfl rfl rfl (inB_n c137) rfl .here<|ws_nil<|bH h fun z140 ez140 h=>wc_ops<|wj_m rfl<|wj_q _ (iz ez140 (q_bin rfl rfl rfl))<|wj_m rfl<|wj_nil ?_)
    rw [qk115] at h
    exact ⟨n116,Nat.lt_succ_self _,z140,l138,h,⟨⟨rfl,rfl,rfl,rfl,trivial⟩,(.one .here (.one .here (.one .here .nil)))⟩⟩
   ·exact wc_exit _ rfl<|⟨a114,h,⟨⟨rfl,rfl,trivial⟩,(.one .here (.one .here (.one .here .nil)))⟩⟩
 ·rintro t m ⟨a73,h,hF⟩
  refine wc_fit hF ?_
  clear hF
  subst qk74
  refine wc_seq<|wc_ops<|wj_q _ (q_ld (p:=[.ints .u8 32 (a73)]) rfl .here rfl)<|wj_e (ef_st (q:=[.ints .u8 32 (a73)]) rfl rfl rfl rfl rfl (.there .here)<|wj_nil<|wc_ret ?_)
  revert h; refine ret_i fun h=>?_
  subst h
  exact ⟨_,(.cons (.agg rfl (.there .here) rfl) .nil),rfl⟩
def q5_IsOdd (p0:List Int):Option (Bool) :=
 bnd (p0.getD 0 0) fun z4 =>
 bnd (bitsV .and .u64 z4 1) fun z5 =>
 some (z5==1)
theorem q5_IsOdd_spec {W:World} {r:Bool} {p0:List Int} (h:q5_IsOdd p0=some r)  :
    Calls Tryz.prog 105 [agg [.ints .u64 10 (p0)]].toArray W (ret1 W (.bool (r))):=by
 unfold q5_IsOdd at h
 refine calls_val mo ok105 rfl ?_
 refine wc_seq<|wc_ops<|wj_e (ef_bx (s:=[.ints .u64 10 (p0)]) rfl fun b2 hb2=>wj_m rfl<|wj_nil<|wc_seq<|bH h fun z4 ez4 h=>bH h fun z5 ez5 h=>wc_ops<|wj_q _ (q_ia rfl rfl (by decide))<|wj_q _ (iz ez4 (q_ld1 rfl .here rfl))<|wj_q _ (iz ez5 (q_bin rfl rfl rfl))<|wj_q _ (q_bin rfl rfl rfl)<|wj_m rfl<|wj_nil<|wc_ret ?_)
 revert h; refine ret_i fun h=>?_
 subst h
 exact ⟨_,(.cons (.tmp rfl) .nil),rfl⟩
structure q7_Pt where
  gX:List Int
  gY:List Int
  gZ:List Int
def q7_Pt_z:q7_Pt:=⟨(List.replicate 10 0),(List.replicate 10 0),(List.replicate 10 0)⟩
def q7_Encode (p0:q7_Pt):OL :=
 opt (q5_Invert p0.gZ) fun y5 =>
 opt (q5_Mul p0.gY y5) fun y8 =>
 opt (q5_Bytes y8) fun y9 =>
 opt (q5_Mul p0.gX y5) fun y12 =>
 opt (q5_IsOdd y12) fun y13 =>
 jn (fun (a19:List Int)=>some a19) fun k20=>br (y13) (
 bnd (y9.getD 31 0) fun z23 =>
 bnd (IntKind.wrap .u8 (z23+128)) fun z24 =>
 bnd (setD y9 31 z24) fun l25 =>
 k20 l25
 ) (
 k20 y9
 )
theorem q7_Encode_spec {W:World} {r:(List Int)} {p0:q7_Pt} (h:q7_Encode p0=some r)  :
    Calls Tryz.prog 54 [agg [.ints .u64 10 (p0.gX),.ints .u64 10 (p0.gY),.ints .u64 10 (p0.gZ)]].toArray W (ret1 W (agg [.ints .u8 32 (r)])):=by
 unfold q7_Encode at h
 refine calls_val mo ok54 rfl ?_
 refine wc_seq<|wc_ops<|wj_e (ef_bx (s:=[.ints .u64 10 (p0.gX),.ints .u64 10 (p0.gY),.ints .u64 10 (p0.gZ)]) rfl fun b2 hb2=>wj_e (ef_al fun b3 hb3=>wj_nil<|wc_seq<|oH h fun y5 ey5 h=>wc_ops<|wj_q _ (q_fa rfl)<|wj_q _ (q_ld (p:=[.ints .u64 10 (p0.gZ)]) rfl (.there .here) rfl)<|wj_q _ (q_cl rfl (q5_Invert_spec ey5))<|wj_e (ef_al fun b6 hb6=>wj_e (ef_st (q:=[.ints .u64 10 (y5)]) rfl rfl rfl rfl rfl .here<|wj_nil<|wc_seq<|oH h fun y8 ey8 h=>oH h fun y9 ey9 h=>wc_ops<|wj_q _ (q_fa rfl)<|wj_q _ (q_ld (p:=[.ints .u64 10 (p0.gY)]) rfl (.there (.there .here)) rfl)<|wj_q _ (q_ld (p:=[.ints .u64 10 (y5)]) rfl .here rfl)<|wj_q _ (q_cl rfl (q5_Mul_spec ey8))<|wj_q _ (q_cl rfl (q5_Bytes_spec ey9))<|wj_e (ef_al fun b10 hb10=>wj_e (ef_st (q:=[.ints .u8 32 (y9)]) rfl rfl rfl rfl rfl .here<|wj_nil<|wc_seq<|wc_seq<|oH h fun y12 ey12 h=>oH h fun y13 ey13 h=>wc_ops<|wj_q _ (q_fa rfl)<|wj_q _ (q_ld (p:=[.ints .u64 10 (p0.gX)]) rfl (.there (.there (.there .here))) rfl)<|wj_q _ (q_ld (p:=[.ints .u64 10 (y5)]) rfl (.there .here) rfl)<|wj_q _ (q_cl rfl (q5_Mul_spec ey12))<|wj_q _ (q_cl rfl (q5_IsOdd_spec ey13))<|wj_nil<|jH h fun k20 qk20 h=>wc_mono2 (G:=fun t m=>∃ (a19:List Int),k20 a19=some r∧Fit [(2,.pointer (some ⟨b3,0,none⟩)),(4,.pointer (some ⟨b10,0,none⟩))] (ck b10 22 [.ints .u8 32 (a19)]::(ck b6 88 [.ints .u64 10 (y5)]::(ck b3 29 [.ints .u8 32 ((List.replicate 32 0))]::(ck b2 90 [.ints .u64 10 (p0.gX),.ints .u64 10 (p0.gY),.ints .u64 10 (p0.gZ)] :: [])))) t m) ?_ ?_))))))
 ·refine wc_br h rfl (fun h=>?_) (fun h=>?_)
  ·exact bH h fun z23 ez23 h=>bH h fun z24 ez24 h=>bH h fun l25 el25 h=>wc_ops<|wj_q _ (q_ia rfl rfl (by decide))<|wj_q _ (iz ez23 (q_ld1 rfl .here rfl))<|wj_q _ (iz ez24 (q_bin rfl rfl rfl))<|wj_q _ (q_ia rfl rfl (by decide))<|wj_e (ef_st1z (q:=[.ints .u8 32 (l25)]) (congrArg (fun z=>([.ints .u8 32 (z)]:List Seg)) el25.symm) rfl rfl rfl rfl .here<|wj_nil<|⟨l25,h,⟨⟨rfl,rfl,trivial⟩,(.one .here (.one .here (.one .here (.one .here .nil))))⟩⟩)
  ·exact wc_skip<|⟨y9,h,⟨⟨rfl,rfl,trivial⟩,(.one .here (.one .here (.one .here (.one .here .nil))))⟩⟩
 ·rintro t m ⟨a19,h,hF⟩
  refine wc_fit hF ?_
  clear hF
  subst qk20
  refine wc_seq<|wc_ops<|wj_q _ (q_ld (p:=[.ints .u8 32 (a19)]) rfl .here rfl)<|wj_e (ef_st (q:=[.ints .u8 32 (a19)]) rfl rfl rfl rfl rfl (.there (.there .here))<|wj_nil<|wc_ret ?_)
  revert h; refine ret_i fun h=>?_
  subst h
  exact ⟨_,(.cons (.agg rfl (.there (.there .here)) rfl) .nil),rfl⟩
def q5_Neg (p0:List Int):OL :=
 opt (q5_prime) fun y5 =>
 opt (q5_lessened y5 p0) fun y6 =>
 opt (q5_Least y6) fun y7 =>
 some y7
theorem q5_Neg_spec {W:World} {r:(List Int)} {p0:List Int} (h:q5_Neg p0=some r)  :
    Calls Tryz.prog 142 [agg [.ints .u64 10 (p0)]].toArray W (ret1 W (agg [.ints .u64 10 (r)])):=by
 unfold q5_Neg at h
 refine calls_val mo ok142 rfl ?_
 refine wc_seq<|wc_ops<|wj_e (ef_bx (s:=[.ints .u64 10 (p0)]) rfl fun b2 hb2=>wj_e (ef_al fun b3 hb3=>wj_nil<|wc_seq<|oH h fun y5 ey5 h=>oH h fun y6 ey6 h=>oH h fun y7 ey7 h=>wc_draw<|ws_p1 _ (q_cl rfl (q5_prime_spec ey5))<|ws_q1 _ (q_ld (p:=[.ints .u64 10 (p0)]) rfl (.there .here) rfl)<|ws_p1 _ (q_cl rfl (q5_lessened_spec ey6))<|ws_p1 _ (q_cl rfl (q5_Least_spec ey7))<|ws_eL rfl (ef_st (q:=[.ints .u64 10 (y7)]) rfl rfl rfl rfl rfl .here<|ws_nil<|wc_ret ?_)))
 revert h; refine ret_i fun h=>?_
 subst h
 exact ⟨_,(.cons (.agg rfl .here rfl) .nil),rfl⟩
def q5_Add_b1 (p1:List Int) (k44:(List Int)→OL) (k68:(Int)→(List Int)→OL) (i66:Int) (a67:List Int):OL :=
 br ((decide (i66<10))) (
 chk (inB i66 10) <|
 chk (inB i66 10) <|
 bnd (a67.getD (i66).toNat 0) fun z75 =>
 bnd (p1.getD (i66).toNat 0) fun z76 =>
 bnd (IntKind.wrap .u64 (z75+z76)) fun z77 =>
 chk (inB i66 10) <|
 bnd (setD a67 (i66).toNat z77) fun l79 =>
 bnd (IntKind.wrap .i64 (i66+1)) fun z81 =>
 k68 z81 l79
 ) (
 k44 a67
 )
def q5_Add_l1 (p1:List Int) (k44:(List Int)→OL):Nat→(Int)→(List Int)→OL
  | 0,_,_=>none
  | n+1,i66,a67=>q5_Add_b1 p1 k44 (q5_Add_l1 p1 k44 n) i66 a67
def q5_Add (p0:List Int) (p1:List Int):OL :=
 jn (fun (a43:List Int)=>opt (q5_Least a43) fun y83 =>
 some y83) fun k44=>q5_Add_l1 p1 k44 big 0 p0
theorem q5_Add_spec {W:World} {r:(List Int)} {p0:List Int} {p1:List Int} (h:q5_Add p0 p1=some r)  :
    Calls Tryz.prog 194 [agg [.ints .u64 10 (p0)],agg [.ints .u64 10 (p1)]].toArray W (ret1 W (agg [.ints .u64 10 (r)])):=by
 unfold q5_Add at h
 refine calls_val mo ok194 rfl ?_
 refine wc_seq<|wc_ops<|wj_e (ef_bx (s:=[.ints .u64 10 (p0)]) rfl fun b2 hb2=>wj_e (ef_bx (s:=[.ints .u64 10 (p1)]) rfl fun b3 hb3=>wj_e (ef_al fun b4 hb4=>wj_nil<|wc_seq<|wc_seq<|wc_ops<|wj_m rfl<|wj_nil<|jH h fun k44 qk44 h=>wc_mono2 (G:=fun t m=>∃ (a43:List Int),k44 a43=some r∧Fit [(2,.pointer (some ⟨b2,0,none⟩)),(4,.pointer (some ⟨b4,0,none⟩))] (ck b4 88 [.ints .u64 10 ((List.replicate 10 0))]::(ck b3 88 [.ints .u64 10 (p1)]::(ck b2 88 [.ints .u64 10 (a43)] :: []))) t m) ?_ ?_)))
 ·refine wc_block<|wc_loopJ (fun n69 t m=>∃ (i66:Int) (a67:List Int),q5_Add_l1 p1 k44 n69 i66 a67=some r∧Fit [(2,.pointer (some ⟨b2,0,none⟩)),(3,.pointer (some ⟨b3,0,none⟩)),(4,.pointer (some ⟨b4,0,none⟩)),(5,.int .i64 (i66))] (ck b4 88 [.ints .u64 10 ((List.replicate 10 0))]::(ck b3 88 [.ints .u64 10 (p1)]::(ck b2 88 [.ints .u64 10 (a67)] :: []))) t m) big ?_ ?_
  ·exact ⟨0,p0,h,⟨⟨rfl,rfl,rfl,rfl,trivial⟩,(.one .here (.one .here (.one .here .nil)))⟩⟩
  ·rintro n69 t m ⟨i66,a67,h,hF⟩
   refine wc_fit hF ?_
   clear hF
   rcases n69 with _ | n69
   · exact none_i h
   have h:q5_Add_b1 p1 k44 (q5_Add_l1 p1 k44 n69) i66 a67=some r:=h
   unfold q5_Add_b1 at h
   obtain ⟨k68,qk68⟩ : ∃ k,k=q5_Add_l1 p1 k44 n69:=⟨_,rfl⟩
   try rw [← qk68] at h
   refine wc_seq<|wc_seq<|wc_ops<|wj_m rfl<|wj_q _ (q_bin rfl rfl rfl)<|wj_nil<|wc_br h rfl (fun h=>?_) (fun h=>?_)
   ·refine wc_skip<|wc_seq<|wc_block<|cH h fun c73 h=>cH h fun c74 h=>bH h fun z75 ez75 h=>bH h fun z76 ez76 h=>bH h fun z77 ez77 h=>cH h fun c78 h=>bH h fun l79 el79 h=>wc_draw<|ws_p1 _ (q_mv rfl)<|ws_p1 _ (q_mv rfl)<|ws_p1 _ (q_ia rfl rfl (inB_z c73))<|ws_p1 _ (q_mv rfl)<|ws_p1 _ (q_ia rfl rfl (inB_z c74))<|ws_q1 _ (iz ez75 (q_ldi (base:=0) rfl (.there (.there .here)) rfl (inB_n c73)))<|ws_q1 _ (iz ez76 (q_ldi (base:=0) rfl (.there .here) rfl (inB_n c74)))<|ws_p1 _ (iz ez77 (q_bin rfl rfl rfl))<|ws_p1 _ (q_ia rfl rfl (inB_z c78))<|ws_eL rfl (ef_stiz (q:=[.ints .u64 10 (l79)]) (base:=0) el79 rfl rfl rfl (inB_n c78) rfl (.there (.there .here))<|ws_nil<|bH h fun z81 ez81 h=>wc_ops<|wj_m rfl<|wj_q _ (iz ez81 (q_bin rfl rfl rfl))<|wj_m rfl<|wj_nil ?_)
    rw [qk68] at h
    exact ⟨n69,Nat.lt_succ_self _,z81,l79,h,⟨⟨rfl,rfl,rfl,rfl,trivial⟩,(.one .here (.one .here (.one .here .nil)))⟩⟩
   ·exact wc_exit _ rfl<|⟨a67,h,⟨⟨rfl,rfl,trivial⟩,(.one .here (.one .here (.one .here .nil)))⟩⟩
 ·rintro t m ⟨a43,h,hF⟩
  refine wc_fit hF ?_
  clear hF
  subst qk44
  refine wc_seq<|oH h fun y83 ey83 h=>wc_ops<|wj_q _ (q_ld (p:=[.ints .u64 10 (a43)]) rfl (.there (.there .here)) rfl)<|wj_q _ (q_cl rfl (q5_Least_spec ey83))<|wj_e (ef_st (q:=[.ints .u64 10 (y83)]) rfl rfl rfl rfl rfl .here<|wj_nil<|wc_ret ?_)
  revert h; refine ret_i fun h=>?_
  subst h
  exact ⟨_,(.cons (.agg rfl .here rfl) .nil),rfl⟩
def q5_Sub (p0:List Int) (p1:List Int):OL :=
 opt (q5_Neg p1) fun y6 =>
 opt (q5_Add p0 y6) fun y7 =>
 some y7
theorem q5_Sub_spec {W:World} {r:(List Int)} {p0:List Int} {p1:List Int} (h:q5_Sub p0 p1=some r)  :
    Calls Tryz.prog 193 [agg [.ints .u64 10 (p0)],agg [.ints .u64 10 (p1)]].toArray W (ret1 W (agg [.ints .u64 10 (r)])):=by
 unfold q5_Sub at h
 refine calls_val mo ok193 rfl ?_
 refine wc_seq<|wc_ops<|wj_e (ef_bx (s:=[.ints .u64 10 (p0)]) rfl fun b2 hb2=>wj_e (ef_bx (s:=[.ints .u64 10 (p1)]) rfl fun b3 hb3=>wj_e (ef_al fun b4 hb4=>wj_nil<|wc_seq<|oH h fun y6 ey6 h=>oH h fun y7 ey7 h=>wc_draw<|ws_q1 _ (q_ld (p:=[.ints .u64 10 (p0)]) rfl (.there (.there .here)) rfl)<|ws_q1 _ (q_ld (p:=[.ints .u64 10 (p1)]) rfl (.there .here) rfl)<|ws_p1 _ (q_cl rfl (q5_Neg_spec ey6))<|ws_p1 _ (q_cl rfl (q5_Add_spec ey7))<|ws_eL rfl (ef_st (q:=[.ints .u64 10 (y7)]) rfl rfl rfl rfl rfl .here<|ws_nil<|wc_ret ?_))))
 revert h; refine ret_i fun h=>?_
 subst h
 exact ⟨_,(.cons (.agg rfl .here rfl) .nil),rfl⟩
def q5_FromBytes_b1 (p0:List Int) (k74:(List Int)→OL) (k115:(Int)→(List Int)→OL) (i113:Int) (a114:List Int):OL :=
 br ((decide (i113<255))) (
 bnd (IntKind.wrap .i64 (Int.tdiv i113 8)) fun z120 =>
 chk (inB z120 32) <|
 bnd (p0.getD (z120).toNat 0) fun z122 =>
 bnd (Int.tmod i113 8) fun z123 =>
 chk (decide (0≤z123)) <|
 bnd (shrV .u8 z122 z123) fun z125 =>
 bnd (bitsV .and .u8 z125 1) fun z126 =>
 bnd (IntKind.wrap .u64 z126) fun z127 =>
 bnd (IntKind.wrap .i64 (Int.tdiv i113 26)) fun z129 =>
 bnd (IntKind.wrap .i64 (Int.tdiv i113 26)) fun z130 =>
 chk (inB z130 10) <|
 bnd (Int.tmod i113 26) fun z132 =>
 chk (decide (0≤z132)) <|
 bnd (shlV .u64 z127 z132) fun z134 =>
 bnd (a114.getD (z130).toNat 0) fun z135 =>
 bnd (IntKind.wrap .u64 (z135+z134)) fun z136 =>
 chk (inB z129 10) <|
 bnd (setD a114 (z129).toNat z136) fun l138 =>
 bnd (IntKind.wrap .i64 (i113+1)) fun z140 =>
 k115 z140 l138
 ) (
 k74 a114
 )
def q5_FromBytes_l1 (p0:List Int) (k74:(List Int)→OL):Nat→(Int)→(List Int)→OL
  | 0,_,_=>none
  | n+1,i113,a114=>q5_FromBytes_b1 p0 k74 (q5_FromBytes_l1 p0 k74 n) i113 a114
def q5_FromBytes (p0:List Int):OL :=
 jn (fun (a73:List Int)=>opt (q5_Least a73) fun y142 =>
 some y142) fun k74=>q5_FromBytes_l1 p0 k74 big 0 (List.replicate 10 0)
theorem q5_FromBytes_spec {W:World} {r:(List Int)} {p0:List Int} (h:q5_FromBytes p0=some r)  :
    Calls Tryz.prog 139 [agg [.ints .u8 32 (p0)]].toArray W (ret1 W (agg [.ints .u64 10 (r)])):=by
 unfold q5_FromBytes at h
 refine calls_val mo ok139 rfl ?_
 refine wc_seq<|wc_ops<|wj_e (ef_bx (s:=[.ints .u8 32 (p0)]) rfl fun b2 hb2=>wj_e (ef_al fun b3 hb3=>wj_nil<|wc_seq<|wc_ops<|wj_e (ef_al fun b5 hb5=>wj_nil<|wc_seq<|wc_seq<|wc_ops<|wj_m rfl<|wj_nil<|jH h fun k74 qk74 h=>wc_mono2 (G:=fun t m=>∃ (a73:List Int),k74 a73=some r∧Fit [(2,.pointer (some ⟨b3,0,none⟩)),(3,.pointer (some ⟨b5,0,none⟩))] (ck b5 88 [.ints .u64 10 (a73)]::(ck b3 88 [.ints .u64 10 ((List.replicate 10 0))]::(ck b2 22 [.ints .u8 32 (p0)] :: []))) t m) ?_ ?_)))
 ·refine wc_block<|wc_loopJ (fun n116 t m=>∃ (i113:Int) (a114:List Int),q5_FromBytes_l1 p0 k74 n116 i113 a114=some r∧Fit [(1,.pointer (some ⟨b2,0,none⟩)),(2,.pointer (some ⟨b3,0,none⟩)),(3,.pointer (some ⟨b5,0,none⟩)),(4,.int .i64 (i113))] (ck b5 88 [.ints .u64 10 (a114)]::(ck b3 88 [.ints .u64 10 ((List.replicate 10 0))]::(ck b2 22 [.ints .u8 32 (p0)] :: []))) t m) big ?_ ?_
  ·exact ⟨0,(List.replicate 10 0),h,⟨⟨rfl,rfl,rfl,rfl,trivial⟩,(.one .here (.one .here (.one .here .nil)))⟩⟩
  ·rintro n116 t m ⟨i113,a114,h,hF⟩
   refine wc_fit hF ?_
   clear hF
   rcases n116 with _ | n116
   · exact none_i h
   have h:q5_FromBytes_b1 p0 k74 (q5_FromBytes_l1 p0 k74 n116) i113 a114=some r:=h
   unfold q5_FromBytes_b1 at h
   obtain ⟨k115,qk115⟩ : ∃ k,k=q5_FromBytes_l1 p0 k74 n116:=⟨_,rfl⟩
   try rw [← qk115] at h
   refine wc_seq<|wc_seq<|wc_ops<|wj_m rfl<|wj_q _ (q_bin rfl rfl rfl)<|wj_nil<|wc_br h rfl (fun h=>?_) (fun h=>?_)
   ·refine wc_skip<|wc_seq<|wc_block<|wc_seq<|bH h fun z120 ez120 h=>cH h fun c121 h=>bH h fun z122 ez122 h=>bH h fun z123 ez123 h=>cH h fun c124 h=>bH h fun z125 ez125 h=>bH h fun z126 ez126 h=>bH h fun z127 ez127 h=>wc_ops<|wj_m rfl<|wj_q _ (iz ez120 (q_quo rfl rfl (by decide)))<|wj_q _ (q_ia rfl rfl (inB_z c121))<|wj_q _ (iz ez122 (q_ldi (base:=0) rfl (.there (.there .here)) rfl (inB_n c121)))<|wj_m rfl<|wj_q _ (iz ez123 (q_rem rfl rfl (by decide)))<|wj_q _ (iz ez125 (q_shr rfl rfl (of_decide_eq_true c124)))<|wj_q _ (iz ez126 (q_bin rfl rfl rfl))<|wj_q _ (iz ez127 (q_conv rfl))<|wj_m rfl<|wj_nil<|bH h fun z129 ez129 h=>bH h fun z130 ez130 h=>cH h fun c131 h=>bH h fun z132 ez132 h=>cH h fun c133 h=>bH h fun z134 ez134 h=>bH h fun z135 ez135 h=>bH h fun z136 ez136 h=>cH h fun c137 h=>bH h fun l138 el138 h=>wc_draw<|ws_p1 _ (q_mv rfl)<|ws_p1 _ (iz ez129 (q_quo rfl rfl (by decide)))<|ws_p1 _ (q_mv rfl)<|ws_p1 _ (iz ez130 (q_quo rfl rfl (by decide)))<|ws_p1 _ (q_ia rfl rfl (inB_z c131))<|ws_p1 _ (q_mv rfl)<|ws_p1 _ (q_mv rfl)<|ws_p1 _ (iz ez132 (q_rem rfl rfl (by decide)))<|ws_p1 _ (iz ez134 (q_shl rfl rfl (of_decide_eq_true c133)))<|ws_q1 _ (iz ez135 (q_ldi (base:=0) rfl .here rfl (inB_n c131)))<|ws_p1 _ (iz ez136 (q_bin rfl rfl rfl))<|ws_p1 _ (q_ia rfl rfl (inB_z c137))<|ws_eL rfl (ef_stiz (q:=[.ints .u64 10 (l138)]) (base:=0) el138 rfl rfl rfl (inB_n c137) rfl .here<|ws_nil<|bH h fun z140 ez140 h=>wc_ops<|wj_m rfl<|wj_q _ (iz ez140 (q_bin rfl rfl rfl))<|wj_m rfl<|wj_nil ?_)
    rw [qk115] at h
    exact ⟨n116,Nat.lt_succ_self _,z140,l138,h,⟨⟨rfl,rfl,rfl,rfl,trivial⟩,(.one .here (.one .here (.one .here .nil)))⟩⟩
   ·exact wc_exit _ rfl<|⟨a114,h,⟨⟨rfl,rfl,trivial⟩,(.one .here (.one .here (.one .here .nil)))⟩⟩
 ·rintro t m ⟨a73,h,hF⟩
  refine wc_fit hF ?_
  clear hF
  subst qk74
  refine wc_seq<|oH h fun y142 ey142 h=>wc_ops<|wj_q _ (q_ld (p:=[.ints .u64 10 (a73)]) rfl .here rfl)<|wj_q _ (q_cl rfl (q5_Least_spec ey142))<|wj_e (ef_st (q:=[.ints .u64 10 (y142)]) rfl rfl rfl rfl rfl (.there .here)<|wj_nil<|wc_ret ?_)
  revert h; refine ret_i fun h=>?_
  subst h
  exact ⟨_,(.cons (.agg rfl (.there .here) rfl) .nil),rfl⟩
def q7_D:OL :=
 bnd (([163,120,89,19,202,77,235,117,171,216,65,65,77,10,112,0,152,232,121,119,121,64,199,140,115,254,111,43,238,108,3,82]:List Int)) fun z4 =>
 opt (q5_FromBytes z4) fun y5 =>
 some y5
theorem q7_D_spec {W:World} {r:(List Int)} (h:q7_D=some r)  :
    Calls Tryz.prog 195 [].toArray W (ret1 W (agg [.ints .u64 10 (r)])):=by
 unfold q7_D at h
 refine calls_val mo ok195 rfl ?_
 refine wc_seq<|wc_ops<|wj_e (ef_al fun b2 hb2=>wj_nil<|wc_seq<|bH h fun z4 ez4 h=>oH h fun y5 ey5 h=>wc_ops<|wj_q _ (az (fun z=>agg [.ints .u8 32 z]) ez4 (q_bd (.one rfl rfl rfl (.one rfl rfl rfl (.one rfl rfl rfl (.one rfl rfl rfl (.one rfl rfl rfl (.one rfl rfl rfl (.one rfl rfl rfl (.one rfl rfl rfl (.one rfl rfl rfl (.one rfl rfl rfl (.one rfl rfl rfl (.one rfl rfl rfl (.one rfl rfl rfl (.one rfl rfl rfl (.one rfl rfl rfl (.one rfl rfl rfl (.one rfl rfl rfl (.one rfl rfl rfl (.one rfl rfl rfl (.one rfl rfl rfl (.one rfl rfl rfl (.one rfl rfl rfl (.one rfl rfl rfl (.one rfl rfl rfl (.one rfl rfl rfl (.one rfl rfl rfl (.one rfl rfl rfl (.one rfl rfl rfl (.one rfl rfl rfl (.one rfl rfl rfl (.one rfl rfl rfl (.one rfl rfl rfl BdR.nil))))))))))))))))))))))))))))))))))<|wj_q _ (q_cl rfl (q5_FromBytes_spec ey5))<|wj_e (ef_st (q:=[.ints .u64 10 (y5)]) rfl rfl rfl rfl rfl .here<|wj_nil<|wc_ret ?_))
 revert h; refine ret_i fun h=>?_
 subst h
 exact ⟨_,(.cons (.agg rfl .here rfl) .nil),rfl⟩
def q7_Add (p0:q7_Pt) (p1:q7_Pt):Option (q7_Pt) :=
 opt (q5_Mul p0.gZ p1.gZ) fun y6 =>
 opt (q5_Mul y6 y6) fun y9 =>
 opt (q5_Mul p0.gX p1.gX) fun y12 =>
 opt (q5_Mul p0.gY p1.gY) fun y15 =>
 opt (q7_D) fun y18 =>
 opt (q5_Mul y12 y15) fun y19 =>
 opt (q5_Mul y18 y19) fun y20 =>
 opt (q5_Sub y9 y20) fun y23 =>
 opt (q5_Add y9 y20) fun y26 =>
 opt (q5_Mul p0.gX p1.gY) fun y29 =>
 opt (q5_Mul p0.gY p1.gX) fun y30 =>
 opt (q5_Add y29 y30) fun y31 =>
 opt (q5_Mul y6 y23) fun y34 =>
 opt (q5_Mul y34 y31) fun y35 =>
 opt (q5_Mul y6 y26) fun y38 =>
 opt (q5_Add y15 y12) fun y39 =>
 opt (q5_Mul y38 y39) fun y40 =>
 opt (q5_Mul y23 y26) fun y43 =>
 some (⟨y35,y40,y43⟩:q7_Pt)
theorem q7_Add_spec {W:World} {r:q7_Pt} {p0:q7_Pt} {p1:q7_Pt} (h:q7_Add p0 p1=some r)  :
    Calls Tryz.prog 146 [agg [.ints .u64 10 (p0.gX),.ints .u64 10 (p0.gY),.ints .u64 10 (p0.gZ)],agg [.ints .u64 10 (p1.gX),.ints .u64 10 (p1.gY),.ints .u64 10 (p1.gZ)]].toArray W (ret1 W (agg [.ints .u64 10 (r.gX),.ints .u64 10 (r.gY),.ints .u64 10 (r.gZ)])):=by
 unfold q7_Add at h
 refine calls_val mo ok146 rfl ?_
 refine wc_seq<|wc_ops<|wj_e (ef_bx (s:=[.ints .u64 10 (p0.gX),.ints .u64 10 (p0.gY),.ints .u64 10 (p0.gZ)]) rfl fun b2 hb2=>wj_e (ef_bx (s:=[.ints .u64 10 (p1.gX),.ints .u64 10 (p1.gY),.ints .u64 10 (p1.gZ)]) rfl fun b3 hb3=>wj_e (ef_al fun b4 hb4=>wj_nil<|wc_seq<|oH h fun y6 ey6 h=>wc_ops<|wj_q _ (q_fa rfl)<|wj_q _ (q_ld (p:=[.ints .u64 10 (p0.gZ)]) rfl (.there (.there .here)) rfl)<|wj_q _ (q_fa rfl)<|wj_q _ (q_ld (p:=[.ints .u64 10 (p1.gZ)]) rfl (.there .here) rfl)<|wj_q _ (q_cl rfl (q5_Mul_spec ey6))<|wj_e (ef_al fun b7 hb7=>wj_e (ef_st (q:=[.ints .u64 10 (y6)]) rfl rfl rfl rfl rfl .here<|wj_nil<|wc_seq<|oH h fun y9 ey9 h=>wc_ops<|wj_q _ (q_ld (p:=[.ints .u64 10 (y6)]) rfl .here rfl)<|wj_q _ (q_ld (p:=[.ints .u64 10 (y6)]) rfl .here rfl)<|wj_q _ (q_cl rfl (q5_Mul_spec ey9))<|wj_e (ef_al fun b10 hb10=>wj_e (ef_st (q:=[.ints .u64 10 (y9)]) rfl rfl rfl rfl rfl .here<|wj_nil<|wc_seq<|oH h fun y12 ey12 h=>wc_ops<|wj_q _ (q_fa rfl)<|wj_q _ (q_ld (p:=[.ints .u64 10 (p0.gX)]) rfl (.there (.there (.there (.there .here)))) rfl)<|wj_q _ (q_fa rfl)<|wj_q _ (q_ld (p:=[.ints .u64 10 (p1.gX)]) rfl (.there (.there (.there .here))) rfl)<|wj_q _ (q_cl rfl (q5_Mul_spec ey12))<|wj_e (ef_al fun b13 hb13=>wj_e (ef_st (q:=[.ints .u64 10 (y12)]) rfl rfl rfl rfl rfl .here<|wj_nil<|wc_seq<|oH h fun y15 ey15 h=>wc_ops<|wj_q _ (q_fa rfl)<|wj_q _ (q_ld (p:=[.ints .u64 10 (p0.gY)]) rfl (.there (.there (.there (.there (.there .here))))) rfl)<|wj_q _ (q_fa rfl)<|wj_q _ (q_ld (p:=[.ints .u64 10 (p1.gY)]) rfl (.there (.there (.there (.there .here)))) rfl)<|wj_q _ (q_cl rfl (q5_Mul_spec ey15))<|wj_e (ef_al fun b16 hb16=>wj_e (ef_st (q:=[.ints .u64 10 (y15)]) rfl rfl rfl rfl rfl .here<|wj_nil<|wc_seq<|oH h fun y18 ey18 h=>oH h fun y19 ey19 h=>oH h fun y20 ey20 h=>wc_draw<|ws_p1 _ (q_cl rfl (q7_D_spec ey18))<|ws_q1 _ (q_ld (p:=[.ints .u64 10 (y12)]) rfl (.there .here) rfl)<|ws_q1 _ (q_ld (p:=[.ints .u64 10 (y15)]) rfl .here rfl)<|ws_p1 _ (q_cl rfl (q5_Mul_spec ey19))<|ws_p1 _ (q_cl rfl (q5_Mul_spec ey20))<|ws_e1 (ef_al fun b21 hb21=>⟨(by repeat (first | exact Sup.refl _ | apply Sup.cons | apply Sup.app)),ws_eL rfl (ef_st (q:=[.ints .u64 10 (y20)]) rfl rfl rfl rfl rfl .here (ws_nil (wc_seq (oH h fun y23 ey23 h=>wc_ops (wj_q _ (q_ld (p:=[.ints .u64 10 (y9)]) rfl (.there (.there (.there .here))) rfl) (wj_q _ (q_ld (p:=[.ints .u64 10 (y20)]) rfl .here rfl) (wj_q _ (q_cl rfl (q5_Sub_spec ey23)) (wj_e (ef_al fun b24 hb24=>wj_e (ef_st (q:=[.ints .u64 10 (y23)]) rfl rfl rfl rfl rfl .here (wj_nil (wc_seq (oH h fun y26 ey26 h=>wc_ops (wj_q _ (q_ld (p:=[.ints .u64 10 (y9)]) rfl (.there (.there (.there (.there .here)))) rfl) (wj_q _ (q_ld (p:=[.ints .u64 10 (y20)]) rfl (.there .here) rfl) (wj_q _ (q_cl rfl (q5_Add_spec ey26)) (wj_e (ef_al fun b27 hb27=>wj_e (ef_st (q:=[.ints .u64 10 (y26)]) rfl rfl rfl rfl rfl .here (wj_nil (wc_seq (oH h fun y29 ey29 h=>oH h fun y30 ey30 h=>oH h fun y31 ey31 h=>wc_draw (ws_p1 _ (q_fa rfl) (ws_p1 _ (q_fa rfl) (ws_p1 _ (q_fa rfl) (ws_p1 _ (q_fa rfl) (ws_q1 _ (q_ld (p:=[.ints .u64 10 (p0.gX)]) rfl (.there (.there (.there (.there (.there (.there (.there (.there (.there .here))))))))) rfl) (ws_q1 _ (q_ld (p:=[.ints .u64 10 (p1.gY)]) rfl (.there (.there (.there (.there (.there (.there (.there (.there .here)))))))) rfl) (ws_p1 _ (q_cl rfl (q5_Mul_spec ey29)) (ws_q1 _ (q_ld (p:=[.ints .u64 10 (p0.gY)]) rfl (.there (.there (.there (.there (.there (.there (.there (.there (.there .here))))))))) rfl) (ws_q1 _ (q_ld (p:=[.ints .u64 10 (p1.gX)]) rfl (.there (.there (.there (.there (.there (.there (.there (.there .here)))))))) rfl) (ws_p1 _ (q_cl rfl (q5_Mul_spec ey30)) (ws_p1 _ (q_cl rfl (q5_Add_spec ey31)) (ws_e1 (ef_al fun b32 hb32=>⟨(by repeat (first | exact Sup.refl _ | apply Sup.cons | apply Sup.app)),ws_eL rfl (ef_st (q:=[.ints .u64 10 (y31)]) rfl rfl rfl rfl rfl .here (ws_nil (wc_seq (oH h fun y34 ey34 h=>oH h fun y35 ey35 h=>wc_draw (ws_q1 _ (q_ld (p:=[.ints .u64 10 (y6)]) rfl (.there (.there (.there (.there (.there (.there (.there .here))))))) rfl) (ws_q1 _ (q_ld (p:=[.ints .u64 10 (y23)]) rfl (.there (.there .here)) rfl) (ws_p1 _ (q_cl rfl (q5_Mul_spec ey34)) (ws_q1 _ (q_ld (p:=[.ints .u64 10 (y31)]) rfl .here rfl) (ws_p1 _ (q_cl rfl (q5_Mul_spec ey35)) (ws_e1 (ef_al fun b36 hb36=>⟨(by repeat (first | exact Sup.refl _ | apply Sup.cons | apply Sup.app)),ws_eL rfl (ef_st (q:=[.ints .u64 10 (y35)]) rfl rfl rfl rfl rfl .here (ws_nil (wc_seq (oH h fun y38 ey38 h=>oH h fun y39 ey39 h=>oH h fun y40 ey40 h=>wc_draw (ws_q1 _ (q_ld (p:=[.ints .u64 10 (y6)]) rfl (.there (.there (.there (.there (.there (.there (.there (.there .here)))))))) rfl) (ws_q1 _ (q_ld (p:=[.ints .u64 10 (y26)]) rfl (.there (.there .here)) rfl) (ws_p1 _ (q_cl rfl (q5_Mul_spec ey38)) (ws_q1 _ (q_ld (p:=[.ints .u64 10 (y15)]) rfl (.there (.there (.there (.there (.there .here))))) rfl) (ws_q1 _ (q_ld (p:=[.ints .u64 10 (y12)]) rfl (.there (.there (.there (.there (.there (.there .here)))))) rfl) (ws_p1 _ (q_cl rfl (q5_Add_spec ey39)) (ws_p1 _ (q_cl rfl (q5_Mul_spec ey40)) (ws_e1 (ef_al fun b41 hb41=>⟨(by repeat (first | exact Sup.refl _ | apply Sup.cons | apply Sup.app)),ws_eL rfl (ef_st (q:=[.ints .u64 10 (y40)]) rfl rfl rfl rfl rfl .here (ws_nil (wc_seq (oH h fun y43 ey43 h=>wc_draw (ws_q1 _ (q_ld (p:=[.ints .u64 10 (y35)]) rfl (.there .here) rfl) (ws_q1 _ (q_ld (p:=[.ints .u64 10 (y40)]) rfl .here rfl) (ws_q1 _ (q_ld (p:=[.ints .u64 10 (y23)]) rfl (.there (.there (.there (.there .here)))) rfl) (ws_q1 _ (q_ld (p:=[.ints .u64 10 (y26)]) rfl (.there (.there (.there .here))) rfl) (ws_p1 _ (q_cl rfl (q5_Mul_spec ey43)) (ws_p1 _ (q_bd (q:=[.ints .u64 10 (y35),.ints .u64 10 (y40),.ints .u64 10 (y43)]) (.agg rfl rfl rfl (.agg rfl rfl rfl (.agg rfl rfl rfl BdR.nil)))) (ws_eL rfl (ef_st (q:=[.ints .u64 10 (y35),.ints .u64 10 (y40),.ints .u64 10 (y43)]) rfl rfl rfl rfl rfl (.there (.there (.there (.there (.there (.there (.there (.there (.there (.there .here)))))))))) (ws_nil (wc_ret ?_))))))))))))))⟩)))))))))))))⟩)))))))))))⟩)))))))))))))))))))))))))))))))))))⟩))))))))))))
 revert h; refine ret_i fun h=>?_
 subst h
 exact ⟨_,(.cons (.agg rfl (.there (.there (.there (.there (.there (.there (.there (.there (.there (.there .here)))))))))) rfl) .nil),rfl⟩
def q7_Zero:Option (q7_Pt) :=
 opt (q5_Small 0) fun y4 =>
 opt (q5_Small 1) fun y5 =>
 opt (q5_Small 1) fun y6 =>
 some (⟨y4,y5,y6⟩:q7_Pt)
theorem q7_Zero_spec {W:World} {r:q7_Pt} (h:q7_Zero=some r)  :
    Calls Tryz.prog 174 [].toArray W (ret1 W (agg [.ints .u64 10 (r.gX),.ints .u64 10 (r.gY),.ints .u64 10 (r.gZ)])):=by
 unfold q7_Zero at h
 refine calls_val mo ok174 rfl ?_
 refine wc_seq<|wc_ops<|wj_e (ef_al fun b2 hb2=>wj_nil<|wc_seq<|oH h fun y4 ey4 h=>oH h fun y5 ey5 h=>oH h fun y6 ey6 h=>wc_ops<|wj_q _ (q_cl rfl (q5_Small_spec ey4))<|wj_q _ (q_cl rfl (q5_Small_spec ey5))<|wj_q _ (q_cl rfl (q5_Small_spec ey6))<|wj_q _ (q_bd (q:=[.ints .u64 10 (y4),.ints .u64 10 (y5),.ints .u64 10 (y6)]) (.agg rfl rfl rfl (.agg rfl rfl rfl (.agg rfl rfl rfl BdR.nil))))<|wj_e (ef_st (q:=[.ints .u64 10 (y4),.ints .u64 10 (y5),.ints .u64 10 (y6)]) rfl rfl rfl rfl rfl .here<|wj_nil<|wc_ret ?_))
 revert h; refine ret_i fun h=>?_
 subst h
 exact ⟨_,(.cons (.agg rfl .here rfl) .nil),rfl⟩
abbrev E_fareboxref07_Pt:El (q7_Pt):=⟨30,fun x=>cells [.ints .u64 10 (x.gX),.ints .u64 10 (x.gY),.ints .u64 10 (x.gZ)],fun x=>by rw [cells_length]; rfl,fun x=>(ones_cons ones_ints (ones_cons ones_ints (ones_cons ones_ints ones_nil))),by decide,q7_Pt_z⟩
def q7_upTo15_b1 (p0:q7_Pt) (k45:(List (q7_Pt))→Option ((List (q7_Pt)))) (k67:(Int)→(List (q7_Pt))→Option ((List (q7_Pt)))) (i65:Int) (a66:List (q7_Pt)):Option ((List (q7_Pt))) :=
 br ((decide (i65<16))) (
 bnd (IntKind.wrap .i64 (i65-1)) fun z72 =>
 chk (inB z72 16) <|
 bnd (a66.getD (z72).toNat q7_Pt_z) fun x74 =>
 opt (q7_Add x74 p0) fun y75 =>
 chk (inB i65 16) <|
 bnd (setG q7_Pt_z a66 (i65).toNat y75) fun l77 =>
 bnd (IntKind.wrap .i64 (i65+1)) fun z79 =>
 k67 z79 l77
 ) (
 k45 a66
 )
def q7_upTo15_l1 (p0:q7_Pt) (k45:(List (q7_Pt))→Option ((List (q7_Pt)))):Nat→(Int)→(List (q7_Pt))→Option ((List (q7_Pt)))
  | 0,_,_=>none
  | n+1,i65,a66=>q7_upTo15_b1 p0 k45 (q7_upTo15_l1 p0 k45 n) i65 a66
def q7_upTo15 (p0:q7_Pt):Option ((List (q7_Pt))) :=
 opt (q7_Zero) fun y7 =>
 bnd (setG q7_Pt_z (List.replicate 16 q7_Pt_z) 0 y7) fun l8 =>
 jn (fun (a44:List (q7_Pt))=>some a44) fun k45=>q7_upTo15_l1 p0 k45 big 1 l8
theorem q7_upTo15_spec {W:World} {r:(List (q7_Pt))} {p0:q7_Pt} (h:q7_upTo15 p0=some r)  :
    Calls Tryz.prog 173 [agg [.ints .u64 10 (p0.gX),.ints .u64 10 (p0.gY),.ints .u64 10 (p0.gZ)]].toArray W (ret1 W (agg [.rows 30 16 (rowE E_fareboxref07_Pt (r))])):=by
 unfold q7_upTo15 at h
 refine calls_val mo ok173 rfl ?_
 refine wc_seq<|wc_ops<|wj_e (ef_bx (s:=[.ints .u64 10 (p0.gX),.ints .u64 10 (p0.gY),.ints .u64 10 (p0.gZ)]) rfl fun b2 hb2=>wj_e (ef_al2 (z':=[.rows 30 16 (rowE E_fareboxref07_Pt ((List.replicate 16 q7_Pt_z)))]) (alz_rows (E:=E_fareboxref07_Pt) rfl rfl) fun b3 hb3=>wj_nil<|wc_seq<|wc_ops<|wj_e (ef_al2 (z':=[.rows 30 16 (rowE E_fareboxref07_Pt ((List.replicate 16 q7_Pt_z)))]) (alz_rows (E:=E_fareboxref07_Pt) rfl rfl) fun b5 hb5=>wj_nil<|wc_seq<|oH h fun y7 ey7 h=>bH h fun l8 el8 h=>wc_ops<|wj_q _ (q_call (vs:=[]) (v:=agg [.ints .u64 10 (y7.gX),.ints .u64 10 (y7.gY),.ints .u64 10 (y7.gZ)]) rfl (fun w hw=>q7_Zero_spec (r:=y7) ey7 ))<|wj_q _ (q_ia rfl rfl (by decide))<|wj_e (ef_strz (q:=[.rows 30 16 (rowE E_fareboxref07_Pt (l8))]) (E:=E_fareboxref07_Pt) (base:=0) (i:=0) (len:=16) el8 rfl rfl rfl rfl (by decide) rfl .here<|wj_nil<|wc_seq<|wc_seq<|wc_ops<|wj_m rfl<|wj_nil<|jH h fun k45 qk45 h=>wc_mono2 (G:=fun t m=>∃ (a44:List (q7_Pt)),k45 a44=some r∧Fit [(2,.pointer (some ⟨b3,0,none⟩)),(3,.pointer (some ⟨b5,0,none⟩))] (ck b5 206 [.rows 30 16 (rowE E_fareboxref07_Pt (a44))]::(ck b3 206 [.rows 30 16 (rowE E_fareboxref07_Pt ((List.replicate 16 q7_Pt_z)))]::(ck b2 90 [.ints .u64 10 (p0.gX),.ints .u64 10 (p0.gY),.ints .u64 10 (p0.gZ)] :: []))) t m) ?_ ?_))))
 ·refine wc_block<|wc_loopJ (fun n68 t m=>∃ (i65:Int) (a66:List (q7_Pt)),q7_upTo15_l1 p0 k45 n68 i65 a66=some r∧Fit [(1,.pointer (some ⟨b2,0,none⟩)),(2,.pointer (some ⟨b3,0,none⟩)),(3,.pointer (some ⟨b5,0,none⟩)),(4,.int .i64 (i65))] (ck b5 206 [.rows 30 16 (rowE E_fareboxref07_Pt (a66))]::(ck b3 206 [.rows 30 16 (rowE E_fareboxref07_Pt ((List.replicate 16 q7_Pt_z)))]::(ck b2 90 [.ints .u64 10 (p0.gX),.ints .u64 10 (p0.gY),.ints .u64 10 (p0.gZ)] :: []))) t m) big ?_ ?_
  ·exact ⟨1,l8,h,⟨⟨rfl,rfl,rfl,rfl,trivial⟩,(.one .here (.one .here (.one .here .nil)))⟩⟩
  ·rintro n68 t m ⟨i65,a66,h,hF⟩
   refine wc_fit hF ?_
   clear hF
   rcases n68 with _ | n68
   · exact none_i h
   have h:q7_upTo15_b1 p0 k45 (q7_upTo15_l1 p0 k45 n68) i65 a66=some r:=h
   unfold q7_upTo15_b1 at h
   obtain ⟨k67,qk67⟩ : ∃ k,k=q7_upTo15_l1 p0 k45 n68:=⟨_,rfl⟩
   try rw [← qk67] at h
   refine wc_seq<|wc_seq<|wc_ops<|wj_m rfl<|wj_q _ (q_bin rfl rfl rfl)<|wj_nil<|wc_br h rfl (fun h=>?_) (fun h=>?_)
   ·refine wc_skip<|wc_seq<|wc_block<|bH h fun z72 ez72 h=>cH h fun c73 h=>bH h fun x74 ex74 h=>oH h fun y75 ey75 h=>cH h fun c76 h=>bH h fun l77 el77 h=>wc_draw<|ws_p1 _ (q_mv rfl)<|ws_p1 _ (q_mv rfl)<|ws_p1 _ (iz ez72 (q_bin rfl rfl rfl))<|ws_p1 _ (q_ia rfl rfl (inB_z c73))<|ws_q1 _ (az (fun x74=>agg [.ints .u64 10 (x74.gX),.ints .u64 10 (x74.gY),.ints .u64 10 (x74.gZ)]) ex74 (q_ldr0 (base:=0) (w:=30) rfl .here rfl (inB_n c73) rfl rfl rfl))<|ws_q1 _ (q_ld (p:=[.ints .u64 10 (p0.gX),.ints .u64 10 (p0.gY),.ints .u64 10 (p0.gZ)]) rfl (.there (.there .here)) rfl)<|ws_p1 _ (q_call (vs:=[agg [.ints .u64 10 (x74.gX),.ints .u64 10 (x74.gY),.ints .u64 10 (x74.gZ)],agg [.ints .u64 10 (p0.gX),.ints .u64 10 (p0.gY),.ints .u64 10 (p0.gZ)]]) (v:=agg [.ints .u64 10 (y75.gX),.ints .u64 10 (y75.gY),.ints .u64 10 (y75.gZ)]) rfl (fun w hw=>q7_Add_spec (r:=y75) (p0:=x74) (p1:=p0) ey75 ))<|ws_p1 _ (q_ia rfl rfl (inB_z c76))<|ws_eL rfl (ef_strz (q:=[.rows 30 16 (rowE E_fareboxref07_Pt (l77))]) (E:=E_fareboxref07_Pt) (base:=0) el77 rfl rfl rfl rfl (inB_n c76) rfl .here<|ws_nil<|bH h fun z79 ez79 h=>wc_ops<|wj_m rfl<|wj_q _ (iz ez79 (q_bin rfl rfl rfl))<|wj_m rfl<|wj_nil ?_)
    rw [qk67] at h
    exact ⟨n68,Nat.lt_succ_self _,z79,l77,h,⟨⟨rfl,rfl,rfl,rfl,trivial⟩,(.one .here (.one .here (.one .here .nil)))⟩⟩
   ·exact wc_exit _ rfl<|⟨a66,h,⟨⟨rfl,rfl,trivial⟩,(.one .here (.one .here (.one .here .nil)))⟩⟩
 ·rintro t m ⟨a44,h,hF⟩
  refine wc_fit hF ?_
  clear hF
  subst qk45
  refine wc_seq<|wc_ops<|wj_q _ (q_ld (p:=[.rows 30 16 (rowE E_fareboxref07_Pt (a44))]) rfl .here rfl)<|wj_e (ef_stg (q:=[.rows 30 16 (rowE E_fareboxref07_Pt (a44))]) rfl rfl rfl rfl (ones_cons (ones_rows (E:=E_fareboxref07_Pt)) ones_nil) (.there .here)<|wj_nil<|wc_ret ?_)
  revert h; refine ret_i fun h=>?_
  subst h
  exact ⟨_,(.cons (.agg rfl (.there .here) rfl) .nil),rfl⟩
def q7_Double (p0:q7_Pt):Option (q7_Pt) :=
 opt (q5_Mul p0.gX p0.gX) fun y5 =>
 opt (q5_Mul p0.gY p0.gY) fun y8 =>
 opt (q5_Mul p0.gZ p0.gZ) fun y11 =>
 opt (q5_Sub y8 y5) fun y14 =>
 opt (q5_Add y11 y11) fun y17 =>
 opt (q5_Sub y17 y14) fun y18 =>
 opt (q5_Mul p0.gX p0.gY) fun y21 =>
 opt (q5_Add y21 y21) fun y24 =>
 opt (q5_Mul y24 y18) fun y25 =>
 opt (q5_Add y5 y8) fun y28 =>
 opt (q5_Mul y28 y14) fun y29 =>
 opt (q5_Mul y14 y18) fun y32 =>
 some (⟨y25,y29,y32⟩:q7_Pt)
theorem q7_Double_spec {W:World} {r:q7_Pt} {p0:q7_Pt} (h:q7_Double p0=some r)  :
    Calls Tryz.prog 175 [agg [.ints .u64 10 (p0.gX),.ints .u64 10 (p0.gY),.ints .u64 10 (p0.gZ)]].toArray W (ret1 W (agg [.ints .u64 10 (r.gX),.ints .u64 10 (r.gY),.ints .u64 10 (r.gZ)])):=by
 unfold q7_Double at h
 refine calls_val mo ok175 rfl ?_
 refine wc_seq<|wc_ops<|wj_e (ef_bx (s:=[.ints .u64 10 (p0.gX),.ints .u64 10 (p0.gY),.ints .u64 10 (p0.gZ)]) rfl fun b2 hb2=>wj_e (ef_al fun b3 hb3=>wj_nil<|wc_seq<|oH h fun y5 ey5 h=>wc_ops<|wj_q _ (q_fa rfl)<|wj_q _ (q_ld (p:=[.ints .u64 10 (p0.gX)]) rfl (.there .here) rfl)<|wj_q _ (q_fa rfl)<|wj_q _ (q_ld (p:=[.ints .u64 10 (p0.gX)]) rfl (.there .here) rfl)<|wj_q _ (q_cl rfl (q5_Mul_spec ey5))<|wj_e (ef_al fun b6 hb6=>wj_e (ef_st (q:=[.ints .u64 10 (y5)]) rfl rfl rfl rfl rfl .here<|wj_nil<|wc_seq<|oH h fun y8 ey8 h=>wc_ops<|wj_q _ (q_fa rfl)<|wj_q _ (q_ld (p:=[.ints .u64 10 (p0.gY)]) rfl (.there (.there .here)) rfl)<|wj_q _ (q_fa rfl)<|wj_q _ (q_ld (p:=[.ints .u64 10 (p0.gY)]) rfl (.there (.there .here)) rfl)<|wj_q _ (q_cl rfl (q5_Mul_spec ey8))<|wj_e (ef_al fun b9 hb9=>wj_e (ef_st (q:=[.ints .u64 10 (y8)]) rfl rfl rfl rfl rfl .here<|wj_nil<|wc_seq<|oH h fun y11 ey11 h=>wc_ops<|wj_q _ (q_fa rfl)<|wj_q _ (q_ld (p:=[.ints .u64 10 (p0.gZ)]) rfl (.there (.there (.there .here))) rfl)<|wj_q _ (q_fa rfl)<|wj_q _ (q_ld (p:=[.ints .u64 10 (p0.gZ)]) rfl (.there (.there (.there .here))) rfl)<|wj_q _ (q_cl rfl (q5_Mul_spec ey11))<|wj_e (ef_al fun b12 hb12=>wj_e (ef_st (q:=[.ints .u64 10 (y11)]) rfl rfl rfl rfl rfl .here<|wj_nil<|wc_seq<|oH h fun y14 ey14 h=>wc_ops<|wj_q _ (q_ld (p:=[.ints .u64 10 (y8)]) rfl (.there .here) rfl)<|wj_q _ (q_ld (p:=[.ints .u64 10 (y5)]) rfl (.there (.there .here)) rfl)<|wj_q _ (q_cl rfl (q5_Sub_spec ey14))<|wj_e (ef_al fun b15 hb15=>wj_e (ef_st (q:=[.ints .u64 10 (y14)]) rfl rfl rfl rfl rfl .here<|wj_nil<|wc_seq<|oH h fun y17 ey17 h=>oH h fun y18 ey18 h=>wc_draw<|ws_q1 _ (q_ld (p:=[.ints .u64 10 (y11)]) rfl (.there .here) rfl)<|ws_q1 _ (q_ld (p:=[.ints .u64 10 (y11)]) rfl (.there .here) rfl)<|ws_p1 _ (q_cl rfl (q5_Add_spec ey17))<|ws_q1 _ (q_ld (p:=[.ints .u64 10 (y14)]) rfl .here rfl)<|ws_p1 _ (q_cl rfl (q5_Sub_spec ey18))<|ws_e1 (ef_al fun b19 hb19=>⟨(by repeat (first | exact Sup.refl _ | apply Sup.cons | apply Sup.app)),ws_eL rfl (ef_st (q:=[.ints .u64 10 (y18)]) rfl rfl rfl rfl rfl .here (ws_nil (wc_seq (oH h fun y21 ey21 h=>wc_ops (wj_q _ (q_fa rfl) (wj_q _ (q_ld (p:=[.ints .u64 10 (p0.gX)]) rfl (.there (.there (.there (.there (.there (.there .here)))))) rfl) (wj_q _ (q_fa rfl) (wj_q _ (q_ld (p:=[.ints .u64 10 (p0.gY)]) rfl (.there (.there (.there (.there (.there (.there .here)))))) rfl) (wj_q _ (q_cl rfl (q5_Mul_spec ey21)) (wj_e (ef_al fun b22 hb22=>wj_e (ef_st (q:=[.ints .u64 10 (y21)]) rfl rfl rfl rfl rfl .here (wj_nil (wc_seq (oH h fun y24 ey24 h=>oH h fun y25 ey25 h=>wc_draw (ws_q1 _ (q_ld (p:=[.ints .u64 10 (y21)]) rfl .here rfl) (ws_q1 _ (q_ld (p:=[.ints .u64 10 (y21)]) rfl .here rfl) (ws_p1 _ (q_cl rfl (q5_Add_spec ey24)) (ws_q1 _ (q_ld (p:=[.ints .u64 10 (y18)]) rfl (.there .here) rfl) (ws_p1 _ (q_cl rfl (q5_Mul_spec ey25)) (ws_e1 (ef_al fun b26 hb26=>⟨(by repeat (first | exact Sup.refl _ | apply Sup.cons | apply Sup.app)),ws_eL rfl (ef_st (q:=[.ints .u64 10 (y25)]) rfl rfl rfl rfl rfl .here (ws_nil (wc_seq (oH h fun y28 ey28 h=>oH h fun y29 ey29 h=>wc_draw (ws_q1 _ (q_ld (p:=[.ints .u64 10 (y5)]) rfl (.there (.there (.there (.there (.there (.there .here)))))) rfl) (ws_q1 _ (q_ld (p:=[.ints .u64 10 (y8)]) rfl (.there (.there (.there (.there (.there .here))))) rfl) (ws_p1 _ (q_cl rfl (q5_Add_spec ey28)) (ws_q1 _ (q_ld (p:=[.ints .u64 10 (y14)]) rfl (.there (.there (.there .here))) rfl) (ws_p1 _ (q_cl rfl (q5_Mul_spec ey29)) (ws_e1 (ef_al fun b30 hb30=>⟨(by repeat (first | exact Sup.refl _ | apply Sup.cons | apply Sup.app)),ws_eL rfl (ef_st (q:=[.ints .u64 10 (y29)]) rfl rfl rfl rfl rfl .here (ws_nil (wc_seq (oH h fun y32 ey32 h=>wc_draw (ws_q1 _ (q_ld (p:=[.ints .u64 10 (y25)]) rfl (.there .here) rfl) (ws_q1 _ (q_ld (p:=[.ints .u64 10 (y29)]) rfl .here rfl) (ws_q1 _ (q_ld (p:=[.ints .u64 10 (y14)]) rfl (.there (.there (.there (.there .here)))) rfl) (ws_q1 _ (q_ld (p:=[.ints .u64 10 (y18)]) rfl (.there (.there (.there .here))) rfl) (ws_p1 _ (q_cl rfl (q5_Mul_spec ey32)) (ws_p1 _ (q_bd (q:=[.ints .u64 10 (y25),.ints .u64 10 (y29),.ints .u64 10 (y32)]) (.agg rfl rfl rfl (.agg rfl rfl rfl (.agg rfl rfl rfl BdR.nil)))) (ws_eL rfl (ef_st (q:=[.ints .u64 10 (y25),.ints .u64 10 (y29),.ints .u64 10 (y32)]) rfl rfl rfl rfl rfl (.there (.there (.there (.there (.there (.there (.there (.there .here)))))))) (ws_nil (wc_ret ?_))))))))))))))⟩)))))))))))⟩))))))))))))))))))))))⟩)))))))))))
 revert h; refine ret_i fun h=>?_
 subst h
 exact ⟨_,(.cons (.agg rfl (.there (.there (.there (.there (.there (.there (.there (.there .here)))))))) rfl) .nil),rfl⟩
def q7_Mul_b1 (p0:List Int) (y6:(List (q7_Pt))) (k99:(List Int)→(List Int)→(List Int)→Option (q7_Pt)) (k156:(Int)→(List Int)→(List Int)→(List Int)→Option (q7_Pt)) (i152:Int) (a153:List Int) (a154:List Int) (a155:List Int):Option (q7_Pt) :=
 br ((decide (i152≥0))) (
 chk (inB i152 32) <|
 opt (q7_Double (⟨a153,a154,a155⟩:q7_Pt)) fun y162 =>
 opt (q7_Double y162) fun y163 =>
 opt (q7_Double y163) fun y164 =>
 opt (q7_Double y164) fun y165 =>
 bnd (p0.getD (i152).toNat 0) fun z166 =>
 bnd (IntKind.wrap .u8 (Int.tdiv z166 16)) fun z167 =>
 chk (inB z167 16) <|
 bnd (y6.getD (z167).toNat q7_Pt_z) fun x169 =>
 opt (q7_Add y165 x169) fun y170 =>
 chk (inB i152 32) <|
 opt (q7_Double y170) fun y173 =>
 opt (q7_Double y173) fun y174 =>
 opt (q7_Double y174) fun y175 =>
 opt (q7_Double y175) fun y176 =>
 bnd (p0.getD (i152).toNat 0) fun z177 =>
 bnd (Int.tmod z177 16) fun z178 =>
 chk (inB z178 16) <|
 bnd (y6.getD (z178).toNat q7_Pt_z) fun x180 =>
 opt (q7_Add y176 x180) fun y181 =>
 bnd (IntKind.wrap .i64 (i152-1)) fun z183 =>
 k156 z183 y181.gX y181.gY y181.gZ
 ) (
 k99 a153 a154 a155
 )
def q7_Mul_l1 (p0:List Int) (y6:(List (q7_Pt))) (k99:(List Int)→(List Int)→(List Int)→Option (q7_Pt)):Nat→(Int)→(List Int)→(List Int)→(List Int)→Option (q7_Pt)
  | 0,_,_,_,_=>none
  | n+1,i152,a153,a154,a155=>q7_Mul_b1 p0 y6 k99 (q7_Mul_l1 p0 y6 k99 n) i152 a153 a154 a155
def q7_Mul (p0:List Int) (p1:q7_Pt):Option (q7_Pt) :=
 opt (q7_upTo15 p1) fun y6 =>
 opt (q7_Zero) fun y9 =>
 jn (fun (a96:List Int) (a97:List Int) (a98:List Int)=>some (⟨a96,a97,a98⟩:q7_Pt)) fun k99=>q7_Mul_l1 p0 y6 k99 big 31 y9.gX y9.gY y9.gZ
theorem q7_Mul_spec {W:World} {r:q7_Pt} {p0:List Int} {p1:q7_Pt} (h:q7_Mul p0 p1=some r)  :
    Calls Tryz.prog 106 [agg [.ints .u8 32 (p0)],agg [.ints .u64 10 (p1.gX),.ints .u64 10 (p1.gY),.ints .u64 10 (p1.gZ)]].toArray W (ret1 W (agg [.ints .u64 10 (r.gX),.ints .u64 10 (r.gY),.ints .u64 10 (r.gZ)])):=by
 unfold q7_Mul at h
 refine calls_val mo ok106 rfl ?_
 refine wc_seq<|wc_ops<|wj_e (ef_bx (s:=[.ints .u8 32 (p0)]) rfl fun b2 hb2=>wj_e (ef_bx (s:=[.ints .u64 10 (p1.gX),.ints .u64 10 (p1.gY),.ints .u64 10 (p1.gZ)]) rfl fun b3 hb3=>wj_e (ef_al fun b4 hb4=>wj_nil<|wc_seq<|oH h fun y6 ey6 h=>wc_ops<|wj_q _ (q_ld (p:=[.ints .u64 10 (p1.gX),.ints .u64 10 (p1.gY),.ints .u64 10 (p1.gZ)]) rfl (.there .here) rfl)<|wj_q _ (q_cl rfl (q7_upTo15_spec ey6))<|wj_e (ef_al2 (z':=[.rows 30 16 (rowE E_fareboxref07_Pt ((List.replicate 16 q7_Pt_z)))]) (alz_rows (E:=E_fareboxref07_Pt) rfl rfl) fun b7 hb7=>wj_e (ef_stg (q:=[.rows 30 16 (rowE E_fareboxref07_Pt (y6))]) rfl rfl rfl rfl (ones_cons (ones_rows (E:=E_fareboxref07_Pt)) ones_nil) .here<|wj_nil<|wc_seq<|oH h fun y9 ey9 h=>wc_ops<|wj_q _ (q_call (vs:=[]) (v:=agg [.ints .u64 10 (y9.gX),.ints .u64 10 (y9.gY),.ints .u64 10 (y9.gZ)]) rfl (fun w hw=>q7_Zero_spec (r:=y9) ey9 ))<|wj_e (ef_al fun b10 hb10=>wj_e (ef_st (q:=[.ints .u64 10 (y9.gX),.ints .u64 10 (y9.gY),.ints .u64 10 (y9.gZ)]) rfl rfl rfl rfl rfl .here<|wj_nil<|wc_seq<|wc_seq<|wc_ops<|wj_m rfl<|wj_nil<|jH h fun k99 qk99 h=>wc_mono2 (G:=fun t m=>∃ (a96:List Int) (a97:List Int) (a98:List Int),k99 a96 a97 a98=some r∧Fit [(4,.pointer (some ⟨b4,0,none⟩)),(6,.pointer (some ⟨b10,0,none⟩))] (ck b10 90 [.ints .u64 10 (a96),.ints .u64 10 (a97),.ints .u64 10 (a98)]::(ck b7 206 [.rows 30 16 (rowE E_fareboxref07_Pt (y6))]::(ck b4 90 [.ints .u64 10 ((List.replicate 10 0)),.ints .u64 10 ((List.replicate 10 0)),.ints .u64 10 ((List.replicate 10 0))]::(ck b3 90 [.ints .u64 10 (p1.gX),.ints .u64 10 (p1.gY),.ints .u64 10 (p1.gZ)]::(ck b2 74 [.ints .u8 32 (p0)] :: []))))) t m) ?_ ?_)))))))
 ·refine wc_block<|wc_loopJ (fun n157 t m=>∃ (i152:Int) (a153:List Int) (a154:List Int) (a155:List Int),q7_Mul_l1 p0 y6 k99 n157 i152 a153 a154 a155=some r∧Fit [(2,.pointer (some ⟨b2,0,none⟩)),(4,.pointer (some ⟨b4,0,none⟩)),(5,.pointer (some ⟨b7,0,none⟩)),(6,.pointer (some ⟨b10,0,none⟩)),(7,.int .i64 (i152))] (ck b10 90 [.ints .u64 10 (a153),.ints .u64 10 (a154),.ints .u64 10 (a155)]::(ck b7 206 [.rows 30 16 (rowE E_fareboxref07_Pt (y6))]::(ck b4 90 [.ints .u64 10 ((List.replicate 10 0)),.ints .u64 10 ((List.replicate 10 0)),.ints .u64 10 ((List.replicate 10 0))]::(ck b3 90 [.ints .u64 10 (p1.gX),.ints .u64 10 (p1.gY),.ints .u64 10 (p1.gZ)]::(ck b2 74 [.ints .u8 32 (p0)] :: []))))) t m) big ?_ ?_
  ·exact ⟨31,y9.gX,y9.gY,y9.gZ,h,⟨⟨rfl,rfl,rfl,rfl,rfl,trivial⟩,(.one .here (.one .here (.one .here (.one .here (.one .here .nil)))))⟩⟩
  ·rintro n157 t m ⟨i152,a153,a154,a155,h,hF⟩
   refine wc_fit hF ?_
   clear hF
   rcases n157 with _ | n157
   · exact none_i h
   have h:q7_Mul_b1 p0 y6 k99 (q7_Mul_l1 p0 y6 k99 n157) i152 a153 a154 a155=some r:=h
   unfold q7_Mul_b1 at h
   obtain ⟨k156,qk156⟩ : ∃ k,k=q7_Mul_l1 p0 y6 k99 n157:=⟨_,rfl⟩
   try rw [← qk156] at h
   refine wc_seq<|wc_seq<|wc_ops<|wj_m rfl<|wj_q _ (q_bin rfl rfl rfl)<|wj_nil<|wc_br h rfl (fun h=>?_) (fun h=>?_)
   ·refine wc_skip<|wc_seq<|wc_block<|wc_seq<|cH h fun c161 h=>oH h fun y162 ey162 h=>oH h fun y163 ey163 h=>oH h fun y164 ey164 h=>oH h fun y165 ey165 h=>bH h fun z166 ez166 h=>bH h fun z167 ez167 h=>cH h fun c168 h=>bH h fun x169 ex169 h=>oH h fun y170 ey170 h=>wc_draw<|ws_p1 _ (q_mv rfl)<|ws_p1 _ (q_ia rfl rfl (inB_z c161))<|ws_q1 _ (q_ld (p:=[.ints .u64 10 (a153),.ints .u64 10 (a154),.ints .u64 10 (a155)]) rfl .here rfl)<|ws_p1 _ (q_call (vs:=[agg [.ints .u64 10 (a153),.ints .u64 10 (a154),.ints .u64 10 (a155)]]) (v:=agg [.ints .u64 10 (y162.gX),.ints .u64 10 (y162.gY),.ints .u64 10 (y162.gZ)]) rfl (fun w hw=>q7_Double_spec (r:=y162) (p0:=(⟨a153,a154,a155⟩:q7_Pt)) ey162 ))<|ws_p1 _ (q_call (vs:=[agg [.ints .u64 10 (y162.gX),.ints .u64 10 (y162.gY),.ints .u64 10 (y162.gZ)]]) (v:=agg [.ints .u64 10 (y163.gX),.ints .u64 10 (y163.gY),.ints .u64 10 (y163.gZ)]) rfl (fun w hw=>q7_Double_spec (r:=y163) (p0:=y162) ey163 ))<|ws_p1 _ (q_call (vs:=[agg [.ints .u64 10 (y163.gX),.ints .u64 10 (y163.gY),.ints .u64 10 (y163.gZ)]]) (v:=agg [.ints .u64 10 (y164.gX),.ints .u64 10 (y164.gY),.ints .u64 10 (y164.gZ)]) rfl (fun w hw=>q7_Double_spec (r:=y164) (p0:=y163) ey164 ))<|ws_p1 _ (q_call (vs:=[agg [.ints .u64 10 (y164.gX),.ints .u64 10 (y164.gY),.ints .u64 10 (y164.gZ)]]) (v:=agg [.ints .u64 10 (y165.gX),.ints .u64 10 (y165.gY),.ints .u64 10 (y165.gZ)]) rfl (fun w hw=>q7_Double_spec (r:=y165) (p0:=y164) ey165 ))<|ws_q1 _ (iz ez166 (q_ldi (base:=0) rfl (.there (.there (.there (.there .here)))) rfl (inB_n c161)))<|ws_p1 _ (iz ez167 (q_quo rfl rfl (by decide)))<|ws_p1 _ (q_ia rfl rfl (inB_z c168))<|ws_q1 _ (az (fun x169=>agg [.ints .u64 10 (x169.gX),.ints .u64 10 (x169.gY),.ints .u64 10 (x169.gZ)]) ex169 (q_ldr0 (base:=0) (w:=30) rfl (.there .here) rfl (inB_n c168) rfl rfl rfl))<|ws_p1 _ (q_call (vs:=[agg [.ints .u64 10 (y165.gX),.ints .u64 10 (y165.gY),.ints .u64 10 (y165.gZ)],agg [.ints .u64 10 (x169.gX),.ints .u64 10 (x169.gY),.ints .u64 10 (x169.gZ)]]) (v:=agg [.ints .u64 10 (y170.gX),.ints .u64 10 (y170.gY),.ints .u64 10 (y170.gZ)]) rfl (fun w hw=>q7_Add_spec (r:=y170) (p0:=y165) (p1:=x169) ey170 ))<|ws_eL rfl (ef_st (q:=[.ints .u64 10 (y170.gX),.ints .u64 10 (y170.gY),.ints .u64 10 (y170.gZ)]) rfl rfl rfl rfl rfl .here<|ws_nil<|cH h fun c172 h=>oH h fun y173 ey173 h=>oH h fun y174 ey174 h=>oH h fun y175 ey175 h=>oH h fun y176 ey176 h=>bH h fun z177 ez177 h=>bH h fun z178 ez178 h=>cH h fun c179 h=>bH h fun x180 ex180 h=>oH h fun y181 ey181 h=>wc_draw<|ws_p1 _ (q_mv rfl)<|ws_p1 _ (q_ia rfl rfl (inB_z c172))<|ws_q1 _ (q_ld (p:=[.ints .u64 10 (y170.gX),.ints .u64 10 (y170.gY),.ints .u64 10 (y170.gZ)]) rfl .here rfl)<|ws_p1 _ (q_call (vs:=[agg [.ints .u64 10 (y170.gX),.ints .u64 10 (y170.gY),.ints .u64 10 (y170.gZ)]]) (v:=agg [.ints .u64 10 (y173.gX),.ints .u64 10 (y173.gY),.ints .u64 10 (y173.gZ)]) rfl (fun w hw=>q7_Double_spec (r:=y173) (p0:=y170) ey173 ))<|ws_p1 _ (q_call (vs:=[agg [.ints .u64 10 (y173.gX),.ints .u64 10 (y173.gY),.ints .u64 10 (y173.gZ)]]) (v:=agg [.ints .u64 10 (y174.gX),.ints .u64 10 (y174.gY),.ints .u64 10 (y174.gZ)]) rfl (fun w hw=>q7_Double_spec (r:=y174) (p0:=y173) ey174 ))<|ws_p1 _ (q_call (vs:=[agg [.ints .u64 10 (y174.gX),.ints .u64 10 (y174.gY),.ints .u64 10 (y174.gZ)]]) (v:=agg [.ints .u64 10 (y175.gX),.ints .u64 10 (y175.gY),.ints .u64 10 (y175.gZ)]) rfl (fun w hw=>q7_Double_spec (r:=y175) (p0:=y174) ey175 ))<|ws_p1 _ (q_call (vs:=[agg [.ints .u64 10 (y175.gX),.ints .u64 10 (y175.gY),.ints .u64 10 (y175.gZ)]]) (v:=agg [.ints .u64 10 (y176.gX),.ints .u64 10 (y176.gY),.ints .u64 10 (y176.gZ)]) rfl (fun w hw=>q7_Double_spec (r:=y176) (p0:=y175) ey176 ))<|ws_q1 _ (iz ez177 (q_ldi (base:=0) rfl (.there (.there (.there (.there .here)))) rfl (inB_n c172)))<|ws_p1 _ (iz ez178 (q_rem rfl rfl (by decide)))<|ws_p1 _ (q_ia rfl rfl (inB_z c179))<|ws_q1 _ (az (fun x180=>agg [.ints .u64 10 (x180.gX),.ints .u64 10 (x180.gY),.ints .u64 10 (x180.gZ)]) ex180 (q_ldr0 (base:=0) (w:=30) rfl (.there .here) rfl (inB_n c179) rfl rfl rfl))<|ws_p1 _ (q_call (vs:=[agg [.ints .u64 10 (y176.gX),.ints .u64 10 (y176.gY),.ints .u64 10 (y176.gZ)],agg [.ints .u64 10 (x180.gX),.ints .u64 10 (x180.gY),.ints .u64 10 (x180.gZ)]]) (v:=agg [.ints .u64 10 (y181.gX),.ints .u64 10 (y181.gY),.ints .u64 10 (y181.gZ)]) rfl (fun w hw=>q7_Add_spec (r:=y181) (p0:=y176) (p1:=x180) ey181 ))<|ws_eL rfl (ef_st (q:=[.ints .u64 10 (y181.gX),.ints .u64 10 (y181.gY),.ints .u64 10 (y181.gZ)]) rfl rfl rfl rfl rfl .here<|ws_nil<|bH h fun z183 ez183 h=>wc_ops<|wj_m rfl<|wj_q _ (iz ez183 (q_bin rfl rfl rfl))<|wj_m rfl<|wj_nil ?_))
    rw [qk156] at h
    exact ⟨n157,Nat.lt_succ_self _,z183,y181.gX,y181.gY,y181.gZ,h,⟨⟨rfl,rfl,rfl,rfl,rfl,trivial⟩,(.one .here (.one .here (.one .here (.one .here (.one .here .nil)))))⟩⟩
   ·exact wc_exit _ rfl<|⟨a153,a154,a155,h,⟨⟨rfl,rfl,trivial⟩,(.one .here (.one .here (.one .here (.one .here (.one .here .nil)))))⟩⟩
 ·rintro t m ⟨a96,a97,a98,h,hF⟩
  refine wc_fit hF ?_
  clear hF
  subst qk99
  refine wc_seq<|wc_ops<|wj_q _ (q_ld (p:=[.ints .u64 10 (a96),.ints .u64 10 (a97),.ints .u64 10 (a98)]) rfl .here rfl)<|wj_e (ef_st (q:=[.ints .u64 10 (a96),.ints .u64 10 (a97),.ints .u64 10 (a98)]) rfl rfl rfl rfl rfl (.there (.there .here))<|wj_nil<|wc_ret ?_)
  revert h; refine ret_i fun h=>?_
  subst h
  exact ⟨_,(.cons (.agg rfl (.there (.there .here)) rfl) .nil),rfl⟩
def q5_IsZero (p0:List Int):Option (Bool) :=
 bnd (([0,0,0,0,0,0,0,0,0,0]:List Int)) fun z4 =>
 some (ieq 10 p0 z4)
theorem q5_IsZero_spec {W:World} {r:Bool} {p0:List Int} (h:q5_IsZero p0=some r)  :
    Calls Tryz.prog 141 [agg [.ints .u64 10 (p0)]].toArray W (ret1 W (.bool (r))):=by
 unfold q5_IsZero at h
 refine calls_val mo ok141 rfl ?_
 refine wc_seq<|wc_ops<|wj_e (ef_bx (s:=[.ints .u64 10 (p0)]) rfl fun b2 hb2=>wj_m rfl<|wj_nil<|wc_seq<|bH h fun z4 ez4 h=>wc_ops<|wj_q _ (q_ld (p:=[.ints .u64 10 (p0)]) rfl .here rfl)<|wj_q _ (az (fun z=>agg [.ints .u64 10 z]) ez4 (q_bd BdR.nil))<|wj_q _ (q_eqa rfl rfl rfl rfl _ (eqc_last eqc_ints))<|wj_m rfl<|wj_nil<|wc_ret ?_)
 revert h; refine ret_i fun h=>?_
 subst h
 exact ⟨_,(.cons (.tmp rfl) .nil),rfl⟩
def q5_even (p0:List Int):OL :=
 opt (q5_IsOdd p0) fun y5 =>
 br (y5) (
 opt (q5_Neg p0) fun y8 =>
 some y8
 ) (
 some p0
 )
theorem q5_even_spec {W:World} {r:(List Int)} {p0:List Int} (h:q5_even p0=some r)  :
    Calls Tryz.prog 217 [agg [.ints .u64 10 (p0)]].toArray W (ret1 W (agg [.ints .u64 10 (r)])):=by
 unfold q5_even at h
 refine calls_val mo ok217 rfl ?_
 refine wc_seq<|wc_ops<|wj_e (ef_bx (s:=[.ints .u64 10 (p0)]) rfl fun b2 hb2=>wj_e (ef_al fun b3 hb3=>wj_nil<|wc_seq<|wc_seq<|oH h fun y5 ey5 h=>wc_ops<|wj_q _ (q_ld (p:=[.ints .u64 10 (p0)]) rfl (.there .here) rfl)<|wj_q _ (q_cl rfl (q5_IsOdd_spec ey5))<|wj_nil<|wc_br h rfl (fun h=>?_) (fun h=>?_)))
 ·refine wc_seq<|oH h fun y8 ey8 h=>wc_ops<|wj_q _ (q_ld (p:=[.ints .u64 10 (p0)]) rfl (.there .here) rfl)<|wj_q _ (q_cl rfl (q5_Neg_spec ey8))<|wj_e (ef_st (q:=[.ints .u64 10 (y8)]) rfl rfl rfl rfl rfl .here<|wj_nil<|wc_ret ?_)
  revert h; refine ret_i fun h=>?_
  subst h
  exact ⟨_,(.cons (.agg rfl .here rfl) .nil),rfl⟩
 ·refine wc_skip<|wc_seq<|wc_ops<|wj_q _ (q_ld (p:=[.ints .u64 10 (p0)]) rfl (.there .here) rfl)<|wj_e (ef_st (q:=[.ints .u64 10 (p0)]) rfl rfl rfl rfl rfl .here<|wj_nil<|wc_ret ?_)
  revert h; refine ret_i fun h=>?_
  subst h
  exact ⟨_,(.cons (.agg rfl .here rfl) .nil),rfl⟩
def q5_SqrtRatio (p0:List Int) (p1:List Int):Option ((List Int)×Bool) :=
 opt (q5_IsZero p1) fun y6 =>
 br (y6) (
 bnd (([0,0,0,0,0,0,0,0,0,0]:List Int)) fun z9 =>
 opt (q5_IsZero p0) fun y10 =>
 some (z9,y10)
 ) (
 opt (q5_Invert p1) fun y12 =>
 opt (q5_Mul p0 y12) fun y13 =>
 opt (q5_Power 254 15) fun y16 =>
 opt (q5_Pow y13 y16) fun y17 =>
 opt (q5_Mul y17 y17) fun y20 =>
 br ((ieq 10 y20 y13)) (
 opt (q5_even y17) fun y23 =>
 some (y23,true)
 ) (
 opt (q5_Small 2) fun y25 =>
 opt (q5_Power 251 31) fun y26 =>
 opt (q5_Pow y25 y26) fun y27 =>
 opt (q5_Mul y17 y27) fun y28 =>
 opt (q5_Mul y28 y28) fun y30 =>
 br ((ieq 10 y30 y13)) (
 opt (q5_even y28) fun y33 =>
 some (y33,true)
 ) (
 bnd (([0,0,0,0,0,0,0,0,0,0]:List Int)) fun z35 =>
 some (z35,false)
 )
 )
 )
theorem q5_SqrtRatio_spec {W:World} {r:(List Int)×Bool} {p0:List Int} {p1:List Int} (h:q5_SqrtRatio p0 p1=some r)  :
    Calls Tryz.prog 196 [agg [.ints .u64 10 (p0)],agg [.ints .u64 10 (p1)]].toArray W (ret1 W (.tuple #[agg [.ints .u64 10 (r.1)],.bool (r.2)])):=by
 unfold q5_SqrtRatio at h
 refine calls_val mo ok196 rfl ?_
 refine wc_seq<|wc_ops<|wj_e (ef_bx (s:=[.ints .u64 10 (p0)]) rfl fun b2 hb2=>wj_e (ef_bx (s:=[.ints .u64 10 (p1)]) rfl fun b3 hb3=>wj_e (ef_al fun b4 hb4=>wj_m rfl<|wj_nil<|wc_seq<|wc_seq<|oH h fun y6 ey6 h=>wc_ops<|wj_q _ (q_ld (p:=[.ints .u64 10 (p1)]) rfl (.there .here) rfl)<|wj_q _ (q_cl rfl (q5_IsZero_spec ey6))<|wj_nil<|wc_br h rfl (fun h=>?_) (fun h=>?_))))
 ·refine wc_seq<|bH h fun z9 ez9 h=>oH h fun y10 ey10 h=>wc_ops<|wj_q _ (az (fun z=>agg [.ints .u64 10 z]) ez9 (q_bd BdR.nil))<|wj_q _ (q_ld (p:=[.ints .u64 10 (p0)]) rfl (.there (.there .here)) rfl)<|wj_q _ (q_cl rfl (q5_IsZero_spec ey10))<|wj_e (ef_st (q:=[.ints .u64 10 (z9)]) rfl rfl rfl rfl rfl .here<|wj_m rfl<|wj_nil<|wc_ret ?_)
  revert h; refine ret_i fun h=>?_
  subst h
  exact ⟨_,(.cons (.agg rfl .here rfl) (.cons (.tmp rfl) .nil)),rfl⟩
 ·refine wc_skip<|wc_seq<|oH h fun y12 ey12 h=>oH h fun y13 ey13 h=>wc_draw<|ws_q1 _ (q_ld (p:=[.ints .u64 10 (p0)]) rfl (.there (.there .here)) rfl)<|ws_q1 _ (q_ld (p:=[.ints .u64 10 (p1)]) rfl (.there .here) rfl)<|ws_p1 _ (q_cl rfl (q5_Invert_spec ey12))<|ws_p1 _ (q_cl rfl (q5_Mul_spec ey13))<|ws_e1 (ef_al fun b14 hb14=>⟨(by repeat (first | exact Sup.refl _ | apply Sup.cons | apply Sup.app)),ws_eL rfl (ef_st (q:=[.ints .u64 10 (y13)]) rfl rfl rfl rfl rfl .here (ws_nil (wc_seq (oH h fun y16 ey16 h=>oH h fun y17 ey17 h=>wc_draw (ws_p1 _ (q_cl rfl (q5_Power_spec ey16)) (ws_q1 _ (q_ld (p:=[.ints .u64 10 (y13)]) rfl .here rfl) (ws_p1 _ (q_cl rfl (q5_Pow_spec ey17)) (ws_e1 (ef_al fun b18 hb18=>⟨(by repeat (first | exact Sup.refl _ | apply Sup.cons | apply Sup.app)),ws_eL rfl (ef_st (q:=[.ints .u64 10 (y17)]) rfl rfl rfl rfl rfl .here (ws_nil (wc_seq (wc_seq (oH h fun y20 ey20 h=>wc_draw (ws_q1 _ (q_ld (p:=[.ints .u64 10 (y17)]) rfl .here rfl) (ws_q1 _ (q_ld (p:=[.ints .u64 10 (y17)]) rfl .here rfl) (ws_p1 _ (q_cl rfl (q5_Mul_spec ey20)) (ws_q1 _ (q_ld (p:=[.ints .u64 10 (y13)]) rfl (.there .here) rfl) (ws_p1 _ (q_eqa rfl rfl rfl rfl _ (eqc_last eqc_ints)) (ws_nil (wc_br h rfl (fun h=>?_) (fun h=>?_)))))))))))))⟩)))))))))⟩)
  ·refine wc_seq<|oH h fun y23 ey23 h=>wc_ops<|wj_q _ (q_ld (p:=[.ints .u64 10 (y17)]) rfl .here rfl)<|wj_q _ (q_cl rfl (q5_even_spec ey23))<|wj_e (ef_st (q:=[.ints .u64 10 (y23)]) rfl rfl rfl rfl rfl (.there (.there .here))<|wj_m rfl<|wj_nil<|wc_ret ?_)
   revert h; refine ret_i fun h=>?_
   subst h
   exact ⟨_,(.cons (.agg rfl (.there (.there .here)) rfl) (.cons (.tmp rfl) .nil)),rfl⟩
  ·refine wc_skip<|wc_seq<|oH h fun y25 ey25 h=>oH h fun y26 ey26 h=>oH h fun y27 ey27 h=>oH h fun y28 ey28 h=>wc_draw<|ws_p1 _ (q_cl rfl (q5_Small_spec ey25))<|ws_p1 _ (q_cl rfl (q5_Power_spec ey26))<|ws_p1 _ (q_cl rfl (q5_Pow_spec ey27))<|ws_q1 _ (q_ld (p:=[.ints .u64 10 (y17)]) rfl .here rfl)<|ws_p1 _ (q_cl rfl (q5_Mul_spec ey28))<|ws_eL rfl (ef_st (q:=[.ints .u64 10 (y28)]) rfl rfl rfl rfl rfl .here<|ws_nil<|wc_seq<|wc_seq<|oH h fun y30 ey30 h=>wc_draw<|ws_q1 _ (q_ld (p:=[.ints .u64 10 (y28)]) rfl .here rfl)<|ws_q1 _ (q_ld (p:=[.ints .u64 10 (y28)]) rfl .here rfl)<|ws_p1 _ (q_cl rfl (q5_Mul_spec ey30))<|ws_q1 _ (q_ld (p:=[.ints .u64 10 (y13)]) rfl (.there .here) rfl)<|ws_p1 _ (q_eqa rfl rfl rfl rfl _ (eqc_last eqc_ints))<|ws_nil<|wc_br h rfl (fun h=>?_) (fun h=>?_))
   ·refine wc_seq<|oH h fun y33 ey33 h=>wc_ops<|wj_q _ (q_ld (p:=[.ints .u64 10 (y28)]) rfl .here rfl)<|wj_q _ (q_cl rfl (q5_even_spec ey33))<|wj_e (ef_st (q:=[.ints .u64 10 (y33)]) rfl rfl rfl rfl rfl (.there (.there .here))<|wj_m rfl<|wj_nil<|wc_ret ?_)
    revert h; refine ret_i fun h=>?_
    subst h
    exact ⟨_,(.cons (.agg rfl (.there (.there .here)) rfl) (.cons (.tmp rfl) .nil)),rfl⟩
   ·refine wc_skip<|wc_seq<|bH h fun z35 ez35 h=>wc_ops<|wj_q _ (az (fun z=>agg [.ints .u64 10 z]) ez35 (q_bd BdR.nil))<|wj_e (ef_st (q:=[.ints .u64 10 (z35)]) rfl rfl rfl rfl rfl (.there (.there .here))<|wj_m rfl<|wj_nil<|wc_ret ?_)
    revert h; refine ret_i fun h=>?_
    subst h
    exact ⟨_,(.cons (.agg rfl (.there (.there .here)) rfl) (.cons (.tmp rfl) .nil)),rfl⟩
def q7_across (p0:List Int):Option ((List Int)×Bool) :=
 opt (q5_Mul p0 p0) fun y5 =>
 opt (q5_Small 1) fun y8 =>
 opt (q5_Sub y5 y8) fun y9 =>
 opt (q7_D) fun y12 =>
 opt (q5_Mul y12 y5) fun y13 =>
 opt (q5_Small 1) fun y14 =>
 opt (q5_Add y13 y14) fun y15 =>
 opt (q5_SqrtRatio y9 y15) fun y18 =>
 some (y18.1,y18.2)
theorem q7_across_spec {W:World} {r:(List Int)×Bool} {p0:List Int} (h:q7_across p0=some r)  :
    Calls Tryz.prog 140 [agg [.ints .u64 10 (p0)]].toArray W (ret1 W (.tuple #[agg [.ints .u64 10 (r.1)],.bool (r.2)])):=by
 unfold q7_across at h
 refine calls_val mo ok140 rfl ?_
 refine wc_seq<|wc_ops<|wj_e (ef_bx (s:=[.ints .u64 10 (p0)]) rfl fun b2 hb2=>wj_e (ef_al fun b3 hb3=>wj_m rfl<|wj_nil<|wc_seq<|oH h fun y5 ey5 h=>wc_ops<|wj_q _ (q_ld (p:=[.ints .u64 10 (p0)]) rfl (.there .here) rfl)<|wj_q _ (q_ld (p:=[.ints .u64 10 (p0)]) rfl (.there .here) rfl)<|wj_q _ (q_cl rfl (q5_Mul_spec ey5))<|wj_e (ef_al fun b6 hb6=>wj_e (ef_st (q:=[.ints .u64 10 (y5)]) rfl rfl rfl rfl rfl .here<|wj_nil<|wc_seq<|oH h fun y8 ey8 h=>oH h fun y9 ey9 h=>wc_draw<|ws_p1 _ (q_cl rfl (q5_Small_spec ey8))<|ws_q1 _ (q_ld (p:=[.ints .u64 10 (y5)]) rfl .here rfl)<|ws_p1 _ (q_cl rfl (q5_Sub_spec ey9))<|ws_e1 (ef_al fun b10 hb10=>⟨(by repeat (first | exact Sup.refl _ | apply Sup.cons | apply Sup.app)),ws_eL rfl (ef_st (q:=[.ints .u64 10 (y9)]) rfl rfl rfl rfl rfl .here (ws_nil (wc_seq (oH h fun y12 ey12 h=>oH h fun y13 ey13 h=>oH h fun y14 ey14 h=>oH h fun y15 ey15 h=>wc_draw (ws_p1 _ (q_cl rfl (q7_D_spec ey12)) (ws_q1 _ (q_ld (p:=[.ints .u64 10 (y5)]) rfl (.there .here) rfl) (ws_p1 _ (q_cl rfl (q5_Mul_spec ey13)) (ws_p1 _ (q_cl rfl (q5_Small_spec ey14)) (ws_p1 _ (q_cl rfl (q5_Add_spec ey15)) (ws_e1 (ef_al fun b16 hb16=>⟨(by repeat (first | exact Sup.refl _ | apply Sup.cons | apply Sup.app)),ws_eL rfl (ef_st (q:=[.ints .u64 10 (y15)]) rfl rfl rfl rfl rfl .here (ws_nil (wc_seq (oH h fun y18 ey18 h=>wc_ops (wj_q _ (q_ld (p:=[.ints .u64 10 (y9)]) rfl (.there .here) rfl) (wj_q _ (q_ld (p:=[.ints .u64 10 (y15)]) rfl .here rfl) (wj_q _ (q_cl rfl (q5_SqrtRatio_spec ey18)) (wj_q _ (q_ext rfl rfl) (wj_q _ (q_ext rfl rfl) (wj_e (ef_st (q:=[.ints .u64 10 (y18.1)]) rfl rfl rfl rfl rfl (.there (.there (.there .here))) (wj_m rfl (wj_nil (wc_ret ?_))))))))))))))⟩)))))))))))⟩)))))
 revert h; refine ret_i fun h=>?_
 subst h
 exact ⟨_,(.cons (.agg rfl (.there (.there (.there .here))) rfl) (.cons (.tmp rfl) .nil)),rfl⟩
def q7_affine (p0:List Int) (p1:List Int):Option (q7_Pt) :=
 opt (q5_Small 1) fun y6 =>
 some (⟨p0,p1,y6⟩:q7_Pt)
theorem q7_affine_spec {W:World} {r:q7_Pt} {p0:List Int} {p1:List Int} (h:q7_affine p0 p1=some r)  :
    Calls Tryz.prog 143 [agg [.ints .u64 10 (p0)],agg [.ints .u64 10 (p1)]].toArray W (ret1 W (agg [.ints .u64 10 (r.gX),.ints .u64 10 (r.gY),.ints .u64 10 (r.gZ)])):=by
 unfold q7_affine at h
 refine calls_val mo ok143 rfl ?_
 refine wc_seq<|wc_ops<|wj_e (ef_bx (s:=[.ints .u64 10 (p0)]) rfl fun b2 hb2=>wj_e (ef_bx (s:=[.ints .u64 10 (p1)]) rfl fun b3 hb3=>wj_e (ef_al fun b4 hb4=>wj_nil<|wc_seq<|oH h fun y6 ey6 h=>wc_draw<|ws_p1 _ (q_cl rfl (q5_Small_spec ey6))<|ws_q1 _ (q_ld (p:=[.ints .u64 10 (p0)]) rfl (.there (.there .here)) rfl)<|ws_q1 _ (q_ld (p:=[.ints .u64 10 (p1)]) rfl (.there .here) rfl)<|ws_p1 _ (q_bd (q:=[.ints .u64 10 (p0),.ints .u64 10 (p1),.ints .u64 10 (y6)]) (.agg rfl rfl rfl (.agg rfl rfl rfl (.agg rfl rfl rfl BdR.nil))))<|ws_eL rfl (ef_st (q:=[.ints .u64 10 (p0),.ints .u64 10 (p1),.ints .u64 10 (y6)]) rfl rfl rfl rfl rfl .here<|ws_nil<|wc_ret ?_))))
 revert h; refine ret_i fun h=>?_
 subst h
 exact ⟨_,(.cons (.agg rfl .here rfl) .nil),rfl⟩
def q7_Base:Option (q7_Pt) :=
 opt (q5_Small 4) fun y4 =>
 opt (q5_Small 5) fun y5 =>
 opt (q5_Invert y5) fun y6 =>
 opt (q5_Mul y4 y6) fun y7 =>
 opt (q7_across y7) fun y10 =>
 opt (q7_affine y10.1 y7) fun y13 =>
 some y13
theorem q7_Base_spec {W:World} {r:q7_Pt} (h:q7_Base=some r)  :
    Calls Tryz.prog 107 [].toArray W (ret1 W (agg [.ints .u64 10 (r.gX),.ints .u64 10 (r.gY),.ints .u64 10 (r.gZ)])):=by
 unfold q7_Base at h
 refine calls_val mo ok107 rfl ?_
 refine wc_seq<|wc_ops<|wj_e (ef_al fun b2 hb2=>wj_nil<|wc_seq<|oH h fun y4 ey4 h=>oH h fun y5 ey5 h=>oH h fun y6 ey6 h=>oH h fun y7 ey7 h=>wc_ops<|wj_q _ (q_cl rfl (q5_Small_spec ey4))<|wj_q _ (q_cl rfl (q5_Small_spec ey5))<|wj_q _ (q_cl rfl (q5_Invert_spec ey6))<|wj_q _ (q_cl rfl (q5_Mul_spec ey7))<|wj_e (ef_al fun b8 hb8=>wj_e (ef_st (q:=[.ints .u64 10 (y7)]) rfl rfl rfl rfl rfl .here<|wj_nil<|wc_seq<|oH h fun y10 ey10 h=>wc_ops<|wj_q _ (q_ld (p:=[.ints .u64 10 (y7)]) rfl .here rfl)<|wj_q _ (q_cl rfl (q7_across_spec ey10))<|wj_m rfl<|wj_q _ (q_ext rfl rfl)<|wj_q _ (q_ext rfl rfl)<|wj_e (ef_al fun b11 hb11=>wj_e (ef_st (q:=[.ints .u64 10 (y10.1)]) rfl rfl rfl rfl rfl .here<|wj_m rfl<|wj_nil<|wc_seq<|oH h fun y13 ey13 h=>wc_ops<|wj_q _ (q_ld (p:=[.ints .u64 10 (y10.1)]) rfl .here rfl)<|wj_q _ (q_ld (p:=[.ints .u64 10 (y7)]) rfl (.there .here) rfl)<|wj_q _ (q_cl rfl (q7_affine_spec ey13))<|wj_e (ef_st (q:=[.ints .u64 10 (y13.gX),.ints .u64 10 (y13.gY),.ints .u64 10 (y13.gZ)]) rfl rfl rfl rfl rfl (.there (.there .here))<|wj_nil<|wc_ret ?_))))))
 revert h; refine ret_i fun h=>?_
 subst h
 exact ⟨_,(.cons (.agg rfl (.there (.there .here)) rfl) .nil),rfl⟩
def q7_MulBase (p0:List Int):Option (q7_Pt) :=
 opt (q7_Base) fun y5 =>
 opt (q7_Mul p0 y5) fun y6 =>
 some y6
theorem q7_MulBase_spec {W:World} {r:q7_Pt} {p0:List Int} (h:q7_MulBase p0=some r)  :
    Calls Tryz.prog 55 [agg [.ints .u8 32 (p0)]].toArray W (ret1 W (agg [.ints .u64 10 (r.gX),.ints .u64 10 (r.gY),.ints .u64 10 (r.gZ)])):=by
 unfold q7_MulBase at h
 refine calls_val mo ok55 rfl ?_
 refine wc_seq<|wc_ops<|wj_e (ef_bx (s:=[.ints .u8 32 (p0)]) rfl fun b2 hb2=>wj_e (ef_al fun b3 hb3=>wj_nil<|wc_seq<|oH h fun y5 ey5 h=>oH h fun y6 ey6 h=>wc_draw<|ws_p1 _ (q_cl rfl (q7_Base_spec ey5))<|ws_q1 _ (q_ld (p:=[.ints .u8 32 (p0)]) rfl (.there .here) rfl)<|ws_p1 _ (q_cl rfl (q7_Mul_spec ey6))<|ws_eL rfl (ef_st (q:=[.ints .u64 10 (y6.gX),.ints .u64 10 (y6.gY),.ints .u64 10 (y6.gZ)]) rfl rfl rfl rfl rfl .here<|ws_nil<|wc_ret ?_)))
 revert h; refine ret_i fun h=>?_
 subst h
 exact ⟨_,(.cons (.agg rfl .here rfl) .nil),rfl⟩
def q8_half_b1 (p0:List Int) (p1:Bool) (k98:(List Int)→OL) (k155:(Int)→(List Int)→OL) (i153:Int) (a154:List Int):OL :=
 br ((decide (i153<32))) (
 jn (fun (a172:List Int)=>bnd (IntKind.wrap .i64 (i153+1)) fun z188 =>
 k155 z188 a172) fun k173=>chk (inB i153 64) <|
 bnd (p0.getD (i153).toNat 0) fun z176 =>
 chk (inB i153 32) <|
 bnd (setD a154 (i153).toNat z176) fun l178 =>
 br (p1) (
 bnd (IntKind.wrap .i64 (32+i153)) fun z182 =>
 chk (inB z182 64) <|
 bnd (p0.getD (z182).toNat 0) fun z184 =>
 chk (inB i153 32) <|
 bnd (setD l178 (i153).toNat z184) fun l186 =>
 k173 l186
 ) (
 k173 l178
 )
 ) (
 k98 a154
 )
def q8_half_l1 (p0:List Int) (p1:Bool) (k98:(List Int)→OL):Nat→(Int)→(List Int)→OL
  | 0,_,_=>none
  | n+1,i153,a154=>q8_half_b1 p0 p1 k98 (q8_half_l1 p0 p1 k98 n) i153 a154
def q8_half (p0:List Int) (p1:Bool):OL :=
 jn (fun (a97:List Int)=>some a97) fun k98=>q8_half_l1 p0 p1 k98 big 0 (List.replicate 32 0)
theorem q8_half_spec {W:World} {r:(List Int)} {p0:List Int} {p1:Bool} (h:q8_half p0 p1=some r)  :
    Calls Tryz.prog 57 [agg [.ints .u8 64 (p0)],.bool (p1)].toArray W (ret1 W (agg [.ints .u8 32 (r)])):=by
 unfold q8_half at h
 refine calls_val mo ok57 rfl ?_
 refine wc_seq<|wc_ops<|wj_e (ef_bx (s:=[.ints .u8 64 (p0)]) rfl fun b2 hb2=>wj_e (ef_al fun b3 hb3=>wj_nil<|wc_seq<|wc_ops<|wj_e (ef_al fun b5 hb5=>wj_nil<|wc_seq<|wc_seq<|wc_ops<|wj_m rfl<|wj_nil<|jH h fun k98 qk98 h=>wc_mono2 (G:=fun t m=>∃ (a97:List Int),k98 a97=some r∧Fit [(4,.pointer (some ⟨b3,0,none⟩)),(5,.pointer (some ⟨b5,0,none⟩))] (ck b5 22 [.ints .u8 32 (a97)]::(ck b3 22 [.ints .u8 32 ((List.replicate 32 0))]::(ck b2 94 [.ints .u8 64 (p0)] :: []))) t m) ?_ ?_)))
 ·refine wc_block<|wc_loopJ (fun n156 t m=>∃ (i153:Int) (a154:List Int),q8_half_l1 p0 p1 k98 n156 i153 a154=some r∧Fit [(1,.bool (p1)),(2,.pointer (some ⟨b2,0,none⟩)),(4,.pointer (some ⟨b3,0,none⟩)),(5,.pointer (some ⟨b5,0,none⟩)),(6,.int .i64 (i153))] (ck b5 22 [.ints .u8 32 (a154)]::(ck b3 22 [.ints .u8 32 ((List.replicate 32 0))]::(ck b2 94 [.ints .u8 64 (p0)] :: []))) t m) big ?_ ?_
  ·exact ⟨0,(List.replicate 32 0),h,⟨⟨rfl,rfl,rfl,rfl,rfl,trivial⟩,(.one .here (.one .here (.one .here .nil)))⟩⟩
  ·rintro n156 t m ⟨i153,a154,h,hF⟩
   refine wc_fit hF ?_
   clear hF
   rcases n156 with _ | n156
   · exact none_i h
   have h:q8_half_b1 p0 p1 k98 (q8_half_l1 p0 p1 k98 n156) i153 a154=some r:=h
   unfold q8_half_b1 at h
   obtain ⟨k155,qk155⟩ : ∃ k,k=q8_half_l1 p0 p1 k98 n156:=⟨_,rfl⟩
   try rw [← qk155] at h
   refine wc_seq<|wc_seq<|wc_ops<|wj_m rfl<|wj_q _ (q_bin rfl rfl rfl)<|wj_nil<|wc_br h rfl (fun h=>?_) (fun h=>?_)
   ·refine wc_skip<|wc_seq<|jH h fun k173 qk173 h=>wc_mono2 (G:=fun t m=>∃ (a172:List Int),k173 a172=some r∧Fit [(1,.bool (p1)),(2,.pointer (some ⟨b2,0,none⟩)),(4,.pointer (some ⟨b3,0,none⟩)),(5,.pointer (some ⟨b5,0,none⟩)),(6,.int .i64 (i153))] (ck b5 22 [.ints .u8 32 (a172)]::(ck b3 22 [.ints .u8 32 ((List.replicate 32 0))]::(ck b2 94 [.ints .u8 64 (p0)] :: []))) t m) ?_ ?_
    ·refine wc_block<|wc_seq<|cH h fun c175 h=>bH h fun z176 ez176 h=>cH h fun c177 h=>bH h fun l178 el178 h=>wc_ops<|wj_m rfl<|wj_m rfl<|wj_q _ (q_ia rfl rfl (inB_z c175))<|wj_q _ (iz ez176 (q_ldi (base:=0) rfl (.there (.there .here)) rfl (inB_n c175)))<|wj_q _ (q_ia rfl rfl (inB_z c177))<|wj_e (ef_stiz (q:=[.ints .u8 32 (l178)]) (base:=0) el178 rfl rfl rfl (inB_n c177) rfl .here<|wj_nil<|wc_seq<|wc_ops<|wj_m rfl<|wj_nil<|wc_br h rfl (fun h=>?_) (fun h=>?_))
     ·exact bH h fun z182 ez182 h=>cH h fun c183 h=>bH h fun z184 ez184 h=>cH h fun c185 h=>bH h fun l186 el186 h=>wc_ops<|wj_m rfl<|wj_m rfl<|wj_q _ (iz ez182 (q_bin rfl rfl rfl))<|wj_q _ (q_ia rfl rfl (inB_z c183))<|wj_q _ (iz ez184 (q_ldi (base:=0) rfl (.there (.there .here)) rfl (inB_n c183)))<|wj_q _ (q_ia rfl rfl (inB_z c185))<|wj_e (ef_stiz (q:=[.ints .u8 32 (l186)]) (base:=0) el186 rfl rfl rfl (inB_n c185) rfl .here<|wj_nil<|⟨l186,h,⟨⟨rfl,rfl,rfl,rfl,rfl,trivial⟩,(.one .here (.one .here (.one .here .nil)))⟩⟩)
     ·exact wc_skip<|⟨l178,h,⟨⟨rfl,rfl,rfl,rfl,rfl,trivial⟩,(.one .here (.one .here (.one .here .nil)))⟩⟩
    ·rintro t m ⟨a172,h,hF⟩
     refine wc_fit hF ?_
     clear hF
     subst qk173
     refine bH h fun z188 ez188 h=>wc_ops<|wj_m rfl<|wj_q _ (iz ez188 (q_bin rfl rfl rfl))<|wj_m rfl<|wj_nil ?_
     rw [qk155] at h
     exact ⟨n156,Nat.lt_succ_self _,z188,a172,h,⟨⟨rfl,rfl,rfl,rfl,rfl,trivial⟩,(.one .here (.one .here (.one .here .nil)))⟩⟩
   ·exact wc_exit _ rfl<|⟨a154,h,⟨⟨rfl,rfl,trivial⟩,(.one .here (.one .here (.one .here .nil)))⟩⟩
 ·rintro t m ⟨a97,h,hF⟩
  refine wc_fit hF ?_
  clear hF
  subst qk98
  refine wc_seq<|wc_ops<|wj_q _ (q_ld (p:=[.ints .u8 32 (a97)]) rfl .here rfl)<|wj_e (ef_st (q:=[.ints .u8 32 (a97)]) rfl rfl rfl rfl rfl (.there .here)<|wj_nil<|wc_ret ?_)
  revert h; refine ret_i fun h=>?_
  subst h
  exact ⟨_,(.cons (.agg rfl (.there .here) rfl) .nil),rfl⟩
def q3_tell_b1 (p0:Int) (k74:(List (Int))→OL) (k119:(List (Int))→(Int)→OL) (l116:List (Int)) (i118:Int):OL :=
 br ((decide (i118<8))) (
 bnd (IntKind.wrap .i64 (8*i118)) fun z124 =>
 bnd (IntKind.wrap .i64 (56-z124)) fun z125 =>
 bnd (IntKind.wrap .u64 z125) fun z126 =>
 chk (decide (0≤z126)) <|
 bnd (shrV .u64 p0 z126) fun z129 =>
 bnd (IntKind.wrap .u8 z129) fun z130 =>
 chk (decide ((l116.length+([z130]:List (Int)).length)*1≤140737488355328)) <|
 bnd (l116++([z130]:List (Int))) fun l135 =>
 bnd (IntKind.wrap .i64 (i118+1)) fun z140 =>
 k119 l135 z140
 ) (
 k74 l116
 )
def q3_tell_l1 (p0:Int) (k74:(List (Int))→OL):Nat→(List (Int))→(Int)→OL
  | 0,_,_=>none
  | n+1,l116,i118=>q3_tell_b1 p0 k74 (q3_tell_l1 p0 k74 n) l116 i118
def q3_tell (p0:Int):OL :=
 jn (fun (l72:List (Int))=>some l72) fun k74=>q3_tell_l1 p0 k74 big [] 0
theorem q3_tell_spec {W:World} {r:(List Int)} {p0:Int} (h:q3_tell p0=some r)  :
    Calls Tryz.prog 111 [.int .u64 (p0)].toArray W (retS W [] (fun v Ms=>∃ (u0:Value) (M0:List Chunk),v=u0∧Ms = [.all M0]∧OwnSl (El.int .u8) u0 M0 r)):=by
 unfold q3_tell at h
 refine calls_memT mo ok111 rfl (sat0 _) ?_
 refine wc_seq<|wc_ops<|wj_m rfl<|wj_nil<|wc_seq<|wc_ops<|wj_m rfl<|wj_nil<|wc_seq<|wc_seq<|wc_ops<|wj_m rfl<|wj_nil<|jH h fun k74 qk74 h=>wc_mono2 (G:=fun t m=>∃ (l72:List (Int)) (v70:Value) (ms71:List Chunk),k74 l72=some r∧OwnSl (El.int .u8) v70 ms71 l72∧Fit [(3,v70)] (ms71 ++ []) t m) ?_ ?_
 ·refine wc_block<|wc_loopJ (fun n120 t m=>∃ (l116:List (Int)) (i118:Int) (v114:Value) (ms115:List Chunk),q3_tell_l1 p0 k74 n120 l116 i118=some r∧OwnSl (El.int .u8) v114 ms115 l116∧Fit [(0,.int .u64 (p0)),(3,v114),(4,.int .i64 (i118))] (ms115 ++ []) t m) big ?_ ?_
  ·exact ⟨[],0,(.slice none 0 0),[],h,own_nil,⟨⟨rfl,rfl,rfl,trivial⟩,(.no .nil)⟩⟩
  ·rintro n120 t m ⟨l116,i118,v114,ms115,h,O117,hF⟩
   refine wc_fit hF ?_
   clear hF
   rcases n120 with _ | n120
   · exact none_i h
   have h:q3_tell_b1 p0 k74 (q3_tell_l1 p0 k74 n120) l116 i118=some r:=h
   unfold q3_tell_b1 at h
   obtain ⟨k119,qk119⟩ : ∃ k,k=q3_tell_l1 p0 k74 n120:=⟨_,rfl⟩
   try rw [← qk119] at h
   refine wc_seq<|wc_seq<|wc_ops<|wj_m rfl<|wj_q _ (q_bin rfl rfl rfl)<|wj_nil<|wc_br h rfl (fun h=>?_) (fun h=>?_)
   ·refine wc_skip<|wc_seq<|wc_block<|wc_seq<|bH h fun z124 ez124 h=>bH h fun z125 ez125 h=>bH h fun z126 ez126 h=>wc_ops<|wj_m rfl<|wj_q _ (iz ez124 (q_bin rfl rfl rfl))<|wj_q _ (iz ez125 (q_bin rfl rfl rfl))<|wj_q _ (iz ez126 (q_conv rfl))<|wj_m rfl<|wj_nil<|cH h fun c128 h=>bH h fun z129 ez129 h=>bH h fun z130 ez130 h=>cH h fun c134 h=>bH h fun l135 el135 h=>wc_ops<|wj_m rfl<|wj_m rfl<|wj_m rfl<|wj_q _ (iz ez129 (q_shr rfl rfl (of_decide_eq_true c128)))<|wj_q _ (iz ez130 (q_conv rfl))<|wj_e (ef_bsO (E:=(El.int .u8)) (xs:=[z130]) (.one rfl rfl rfl BdR.nil) (.cons (p:=[.one (.int .u8 (z130))]) rfl .nil) rfl fun v131 ms132 O133=>wj_e (ef_appO (E:=(El.int .u8)) el135 rfl O117 (.app .here) rfl (rd_own O133 .here) c134 fun v136 ms137 O138=>wj_m rfl<|wj_nil<|bH h fun z140 ez140 h=>wc_ops<|wj_m rfl<|wj_q _ (iz ez140 (q_bin rfl rfl rfl))<|wj_m rfl<|wj_nil ?_))
    rw [qk119] at h
    exact ⟨n120,Nat.lt_succ_self _,l135,z140,v136,ms137,h,O138,⟨⟨rfl,rfl,rfl,trivial⟩,(.all .here .nil)⟩⟩
   ·exact wc_exit _ rfl<|⟨l116,v114,ms115,h,O117,⟨⟨rfl,trivial⟩,(.all .here .nil)⟩⟩
 ·rintro t m ⟨l72,v70,ms71,h,O73,hF⟩
  refine wc_fit hF ?_
  clear hF
  subst qk74
  refine wc_seq<|wc_ops<|wj_m rfl<|wj_m rfl<|wj_nil<|wc_ret ?_
  revert h; refine ret_i fun h=>?_
  subst h
  exact ⟨_,_,(.cons (.tmp rfl) .nil),(.all .here .nil),⟨_,rfl,⟨v70,ms71,rfl,rfl,O73⟩⟩⟩
def q3_Pad_b1 (z8:Int) (k65:(List (Int))→OL) (k102:(List (Int))→OL) (l100:List (Int)):OL :=
 bnd (IntKind.wrap .i64 (z8+(l100.length:Int))) fun z105 =>
 bnd (IntKind.wrap .i64 (z105+16)) fun z106 =>
 bnd (Int.tmod z106 128) fun z107 =>
 br ((z107 != 0)) (
 chk (decide ((l100.length+([0]:List (Int)).length)*1≤140737488355328)) <|
 bnd (l100++([0]:List (Int))) fun l114 =>
 k102 l114
 ) (
 k65 l100
 )
def q3_Pad_l1 (z8:Int) (k65:(List (Int))→OL):Nat→(List (Int))→OL
  | 0,_=>none
  | n+1,l100=>q3_Pad_b1 z8 k65 (q3_Pad_l1 z8 k65 n) l100
def q3_Pad (p0:Int):OL :=
 bnd (Int.tmod p0 128) fun z7 =>
 bnd (IntKind.wrap .i64 z7) fun z8 =>
 jn (fun (l63:List (Int))=>bnd (IntKind.wrap .u64 (Int.tdiv p0 2305843009213693952)) fun z119 =>
 opt (q3_tell z119) fun y120 =>
 chk (decide ((l63.length+y120.length)*1≤140737488355328)) <|
 bnd (l63++y120) fun l127 =>
 bnd (IntKind.wrap .u64 (p0*8)) fun z132 =>
 opt (q3_tell z132) fun y133 =>
 chk (decide ((l127.length+y133.length)*1≤140737488355328)) <|
 bnd (l127++y133) fun l140 =>
 some l140) fun k65=>q3_Pad_l1 z8 k65 big ([128]:List (Int))
theorem q3_Pad_spec {W:World} {r:(List Int)} {p0:Int} (h:q3_Pad p0=some r)  :
    Calls Tryz.prog 109 [.int .u64 (p0)].toArray W (retS W [] (fun v Ms=>∃ (u0:Value) (M0:List Chunk),v=u0∧Ms = [.all M0]∧OwnSl (El.int .u8) u0 M0 r)):=by
 unfold q3_Pad at h
 refine calls_memT mo ok109 rfl (sat0 _) ?_
 refine wc_seq<|wc_ops<|wj_m rfl<|wj_nil<|wc_seq<|wc_ops<|wj_e (ef_bsO (E:=(El.int .u8)) (xs:=[128]) (.one rfl rfl rfl BdR.nil) (.cons (p:=[.one (.int .u8 (128))]) rfl .nil) rfl fun v3 ms4 O5=>wj_m rfl<|wj_nil<|wc_seq<|bH h fun z7 ez7 h=>bH h fun z8 ez8 h=>wc_ops<|wj_m rfl<|wj_q _ (iz ez7 (q_rem rfl rfl (by decide)))<|wj_q _ (iz ez8 (q_conv rfl))<|wj_m rfl<|wj_nil<|wc_seq<|jH h fun k65 qk65 h=>wc_mono2 (G:=fun t m=>∃ (l63:List (Int)) (v61:Value) (ms62:List Chunk),k65 l63=some r∧OwnSl (El.int .u8) v61 ms62 l63∧Fit [(0,.int .u64 (p0)),(3,v61)] (ms62 ++ []) t m) ?_ ?_)
 ·refine wc_block<|wc_loopJ (fun n103 t m=>∃ (l100:List (Int)) (v98:Value) (ms99:List Chunk),q3_Pad_l1 z8 k65 n103 l100=some r∧OwnSl (El.int .u8) v98 ms99 l100∧Fit [(0,.int .u64 (p0)),(3,v98),(4,.int .i64 (z8))] (ms99 ++ []) t m) big ?_ ?_
  ·exact ⟨([128]:List (Int)),v3,ms4,h,O5,⟨⟨rfl,rfl,rfl,trivial⟩,(.all .here .nil)⟩⟩
  ·rintro n103 t m ⟨l100,v98,ms99,h,O101,hF⟩
   refine wc_fit hF ?_
   clear hF
   rcases n103 with _ | n103
   · exact none_i h
   have h:q3_Pad_b1 z8 k65 (q3_Pad_l1 z8 k65 n103) l100=some r:=h
   unfold q3_Pad_b1 at h
   obtain ⟨k102,qk102⟩ : ∃ k,k=q3_Pad_l1 z8 k65 n103:=⟨_,rfl⟩
   try rw [← qk102] at h
   refine wc_seq<|wc_seq<|bH h fun z105 ez105 h=>bH h fun z106 ez106 h=>bH h fun z107 ez107 h=>wc_ops<|wj_m rfl<|wj_m rfl<|wj_q _ (q_lenP rfl (Shp.own O101))<|wj_q _ (iz ez105 (q_bin rfl rfl rfl))<|wj_q _ (iz ez106 (q_bin rfl rfl rfl))<|wj_q _ (iz ez107 (q_rem rfl rfl (by decide)))<|wj_q _ (q_bin rfl rfl rfl)<|wj_nil<|wc_br h rfl (fun h=>?_) (fun h=>?_)
   ·refine wc_skip<|wc_block<|cH h fun c113 h=>bH h fun l114 el114 h=>wc_ops<|wj_m rfl<|wj_e (ef_bsO (E:=(El.int .u8)) (xs:=[0]) (.one rfl rfl rfl BdR.nil) (.cons (p:=[.one (.int .u8 (0))]) rfl .nil) rfl fun v110 ms111 O112=>wj_e (ef_appO (E:=(El.int .u8)) el114 rfl O101 (.app .here) rfl (rd_own O112 .here) c113 fun v115 ms116 O117=>wj_m rfl<|wj_nil ?_))
    rw [qk102] at h
    exact ⟨n103,Nat.lt_succ_self _,l114,v115,ms116,h,O117,⟨⟨rfl,rfl,rfl,trivial⟩,(.all .here .nil)⟩⟩
   ·exact wc_exit _ rfl<|⟨l100,v98,ms99,h,O101,⟨⟨rfl,rfl,trivial⟩,(.all .here .nil)⟩⟩
 ·rintro t m ⟨l63,v61,ms62,h,O64,hF⟩
  refine wc_fit hF ?_
  clear hF
  subst qk65
  refine wc_seq<|bH h fun z119 ez119 h=>oH h fun y120 ey120 h=>cH h fun c126 h=>bH h fun l127 el127 h=>wc_ops<|wj_m rfl<|wj_m rfl<|wj_q _ (iz ez119 (q_quo rfl rfl (by decide)))<|wj_e (ef_callS0 rfl (fun w hw=>q3_tell_spec  ey120 ) fun v121 Msv121 R122=>?_)
  obtain ⟨_,ms124,rfl,rfl,O125⟩:=R122
  refine wj_e (ef_appO (E:=(El.int .u8)) el127 rfl O64 (.app .here) rfl (rd_own O125 .here) c126 fun v128 ms129 O130=>wj_m rfl<|wj_nil<|wc_seq<|bH h fun z132 ez132 h=>oH h fun y133 ey133 h=>cH h fun c139 h=>bH h fun l140 el140 h=>wc_ops<|wj_m rfl<|wj_m rfl<|wj_q _ (iz ez132 (q_bin rfl rfl rfl))<|wj_e (ef_callS0 rfl (fun w hw=>q3_tell_spec  ey133 ) fun v134 Msv134 R135=>?_))
  obtain ⟨_,ms137,rfl,rfl,O138⟩:=R135
  refine wj_e (ef_appO (E:=(El.int .u8)) el140 rfl O130 (.app .here) rfl (rd_own O138 .here) c139 fun v141 ms142 O143=>wj_m rfl<|wj_nil<|wc_ret ?_)
  revert h; refine ret_i fun h=>?_
  subst h
  exact ⟨_,_,(.cons (.tmp rfl) .nil),(.all .here .nil),⟨_,rfl,⟨v141,ms142,rfl,rfl,O143⟩⟩⟩
def q3_word_b1 (p0:List Int) (k38:(Int)→Option (Int)) (k60:(Int)→(Int)→Option (Int)) (i58:Int) (i59:Int):Option (Int) :=
 br ((decide (i59<8))) (
 bnd (IntKind.wrap .u64 (i58*256)) fun z65 =>
 chk (inB i59 p0.length) <|
 bnd (p0.getD (i59).toNat 0) fun z67 =>
 bnd (IntKind.wrap .u64 z67) fun z68 =>
 bnd (IntKind.wrap .u64 (z65+z68)) fun z69 =>
 bnd (IntKind.wrap .i64 (i59+1)) fun z71 =>
 k60 z69 z71
 ) (
 k38 i58
 )
def q3_word_l1 (p0:List Int) (k38:(Int)→Option (Int)):Nat→(Int)→(Int)→Option (Int)
  | 0,_,_=>none
  | n+1,i58,i59=>q3_word_b1 p0 k38 (q3_word_l1 p0 k38 n) i58 i59
def q3_word (p0:List Int):Option (Int) :=
 jn (fun (i37:Int)=>some i37) fun k38=>q3_word_l1 p0 k38 big 0 0
theorem q3_word_spec {W:World} {r:Int} {p0:List Int} {v0:Value} (h:q3_word p0=some r) (A0:RdSl (El.int .u8) W v0 p0) :
    Calls Tryz.prog 209 [v0].toArray W (ret1 W (.int .u64 (r))):=by
 unfold q3_word at h
 refine calls_val mo ok209 rfl ?_
 refine wc_seq<|wc_ops<|wj_m rfl<|wj_nil<|wc_seq<|wc_ops<|wj_m rfl<|wj_nil<|wc_seq<|wc_seq<|wc_ops<|wj_m rfl<|wj_nil<|jH h fun k38 qk38 h=>wc_mono2 (G:=fun t m=>∃ (i37:Int),k38 i37=some r∧Fit [(3,.int .u64 (i37))] [] t m) ?_ ?_
 ·refine wc_block<|wc_loopJ (fun n61 t m=>∃ (i58:Int) (i59:Int),q3_word_l1 p0 k38 n61 i58 i59=some r∧Fit [(0,v0),(3,.int .u64 (i58)),(4,.int .i64 (i59))] [] t m) big ?_ ?_
  ·exact ⟨0,0,h,⟨⟨rfl,rfl,rfl,trivial⟩,.nil⟩⟩
  ·rintro n61 t m ⟨i58,i59,h,hF⟩
   refine wc_fit hF ?_
   clear hF
   rcases n61 with _ | n61
   · exact none_i h
   have h:q3_word_b1 p0 k38 (q3_word_l1 p0 k38 n61) i58 i59=some r:=h
   unfold q3_word_b1 at h
   obtain ⟨k60,qk60⟩ : ∃ k,k=q3_word_l1 p0 k38 n61:=⟨_,rfl⟩
   try rw [← qk60] at h
   refine wc_seq<|wc_seq<|wc_ops<|wj_m rfl<|wj_q _ (q_bin rfl rfl rfl)<|wj_nil<|wc_br h rfl (fun h=>?_) (fun h=>?_)
   ·refine wc_skip<|wc_seq<|wc_block<|bH h fun z65 ez65 h=>cH h fun c66 h=>bH h fun z67 ez67 h=>bH h fun z68 ez68 h=>bH h fun z69 ez69 h=>wc_ops<|wj_m rfl<|wj_q _ (iz ez65 (q_bin rfl rfl rfl))<|wj_m rfl<|wj_m rfl<|wj_q _ (q_iasP rfl rfl (Shp.rd A0) c66)<|wj_q _ (iz ez67 (q_ldM10 (E:=(El.int .u8)) (s:=[.one (.int .u8 (p0.getD (i59).toNat 0))]) rfl (rd_arg A0 apart0) (inB_n c66) rfl rfl))<|wj_q _ (iz ez68 (q_conv rfl))<|wj_q _ (iz ez69 (q_bin rfl rfl rfl))<|wj_m rfl<|wj_nil<|bH h fun z71 ez71 h=>wc_ops<|wj_m rfl<|wj_q _ (iz ez71 (q_bin rfl rfl rfl))<|wj_m rfl<|wj_nil ?_
    rw [qk60] at h
    exact ⟨n61,Nat.lt_succ_self _,z69,z71,h,⟨⟨rfl,rfl,rfl,trivial⟩,.nil⟩⟩
   ·exact wc_exit _ rfl<|⟨i58,h,⟨⟨rfl,trivial⟩,.nil⟩⟩
 ·rintro t m ⟨i37,h,hF⟩
  refine wc_fit hF ?_
  clear hF
  subst qk38
  refine wc_seq<|wc_ops<|wj_m rfl<|wj_m rfl<|wj_nil<|wc_ret ?_
  revert h; refine ret_i fun h=>?_
  subst h
  exact ⟨_,(.cons (.tmp rfl) .nil),rfl⟩
def q3_R (p0:Int) (p1:Int):Option (Int) :=
 chk (decide (0≤p1)) <|
 bnd (shrV .u64 p0 p1) fun z4 =>
 bnd (IntKind.wrap .u64 (64-p1)) fun z5 =>
 chk (decide (0≤z5)) <|
 bnd (shlV .u64 p0 z5) fun z7 =>
 bnd (bitsV .or .u64 z4 z7) fun z8 =>
 some z8
theorem q3_R_spec {W:World} {r:Int} {p0:Int} {p1:Int} (h:q3_R p0 p1=some r)  :
    Calls Tryz.prog 212 [.int .u64 (p0),.int .u64 (p1)].toArray W (ret1 W (.int .u64 (r))):=by
 unfold q3_R at h
 refine calls_val mo ok212 rfl ?_
 refine wc_seq<|wc_ops<|wj_m rfl<|wj_nil<|wc_seq<|cH h fun c3 h=>bH h fun z4 ez4 h=>bH h fun z5 ez5 h=>cH h fun c6 h=>bH h fun z7 ez7 h=>bH h fun z8 ez8 h=>wc_ops<|wj_m rfl<|wj_m rfl<|wj_q _ (iz ez4 (q_shr rfl rfl (of_decide_eq_true c3)))<|wj_m rfl<|wj_m rfl<|wj_q _ (iz ez5 (q_bin rfl rfl rfl))<|wj_q _ (iz ez7 (q_shl rfl rfl (of_decide_eq_true c6)))<|wj_q _ (iz ez8 (q_bin rfl rfl rfl))<|wj_m rfl<|wj_nil<|wc_ret ?_
 revert h; refine ret_i fun h=>?_
 subst h
 exact ⟨_,(.cons (.tmp rfl) .nil),rfl⟩
def q3_s1 (p0:Int):Option (Int) :=
 opt (q3_R p0 19) fun y3 =>
 opt (q3_R p0 61) fun y4 =>
 bnd (bitsV .xor .u64 y3 y4) fun z5 =>
 bnd (shrV .u64 p0 6) fun z6 =>
 bnd (bitsV .xor .u64 z5 z6) fun z7 =>
 some z7
theorem q3_s1_spec {W:World} {r:Int} {p0:Int} (h:q3_s1 p0=some r)  :
    Calls Tryz.prog 210 [.int .u64 (p0)].toArray W (ret1 W (.int .u64 (r))):=by
 unfold q3_s1 at h
 refine calls_val mo ok210 rfl ?_
 refine wc_seq<|wc_ops<|wj_m rfl<|wj_nil<|wc_seq<|oH h fun y3 ey3 h=>oH h fun y4 ey4 h=>bH h fun z5 ez5 h=>bH h fun z6 ez6 h=>bH h fun z7 ez7 h=>wc_ops<|wj_m rfl<|wj_q _ (q_cl rfl (q3_R_spec ey3))<|wj_m rfl<|wj_q _ (q_cl rfl (q3_R_spec ey4))<|wj_q _ (iz ez5 (q_bin rfl rfl rfl))<|wj_m rfl<|wj_q _ (iz ez6 (q_shr rfl rfl (by decide)))<|wj_q _ (iz ez7 (q_bin rfl rfl rfl))<|wj_m rfl<|wj_nil<|wc_ret ?_
 revert h; refine ret_i fun h=>?_
 subst h
 exact ⟨_,(.cons (.tmp rfl) .nil),rfl⟩
def q3_s0 (p0:Int):Option (Int) :=
 opt (q3_R p0 1) fun y3 =>
 opt (q3_R p0 8) fun y4 =>
 bnd (bitsV .xor .u64 y3 y4) fun z5 =>
 bnd (shrV .u64 p0 7) fun z6 =>
 bnd (bitsV .xor .u64 z5 z6) fun z7 =>
 some z7
theorem q3_s0_spec {W:World} {r:Int} {p0:Int} (h:q3_s0 p0=some r)  :
    Calls Tryz.prog 211 [.int .u64 (p0)].toArray W (ret1 W (.int .u64 (r))):=by
 unfold q3_s0 at h
 refine calls_val mo ok211 rfl ?_
 refine wc_seq<|wc_ops<|wj_m rfl<|wj_nil<|wc_seq<|oH h fun y3 ey3 h=>oH h fun y4 ey4 h=>bH h fun z5 ez5 h=>bH h fun z6 ez6 h=>bH h fun z7 ez7 h=>wc_ops<|wj_m rfl<|wj_q _ (q_cl rfl (q3_R_spec ey3))<|wj_m rfl<|wj_q _ (q_cl rfl (q3_R_spec ey4))<|wj_q _ (iz ez5 (q_bin rfl rfl rfl))<|wj_m rfl<|wj_q _ (iz ez6 (q_shr rfl rfl (by decide)))<|wj_q _ (iz ez7 (q_bin rfl rfl rfl))<|wj_m rfl<|wj_nil<|wc_ret ?_
 revert h; refine ret_i fun h=>?_
 subst h
 exact ⟨_,(.cons (.tmp rfl) .nil),rfl⟩
def q3_words_b1 (p0:List Int) (k69:(List (Int))→OL) (k111:(List (Int))→(Int)→OL) (l108:List (Int)) (i110:Int):OL :=
 br ((decide (i110<16))) (
 bnd (IntKind.wrap .i64 (8*i110)) fun z116 =>
 bnd (IntKind.wrap .i64 (8*i110)) fun z117 =>
 bnd (IntKind.wrap .i64 (z117+8)) fun z118 =>
 chk (cutB z116 z118 p0.length) <|
 opt (q3_word ((p0.drop (z116).toNat).take ((z118).toNat-(z116).toNat))) fun y120 =>
 chk (decide ((l108.length+([y120]:List (Int)).length)*8≤140737488355328)) <|
 bnd (l108++([y120]:List (Int))) fun l125 =>
 bnd (IntKind.wrap .i64 (i110+1)) fun z130 =>
 k111 l125 z130
 ) (
 k69 l108
 )
def q3_words_l1 (p0:List Int) (k69:(List (Int))→OL):Nat→(List (Int))→(Int)→OL
  | 0,_,_=>none
  | n+1,l108,i110=>q3_words_b1 p0 k69 (q3_words_l1 p0 k69 n) l108 i110
def q3_words_b2 (k232:(List (Int))→OL) (k297:(List (Int))→(Int)→OL) (l294:List (Int)) (i296:Int):OL :=
 br ((decide (i296<80))) (
 bnd (IntKind.wrap .i64 (i296-2)) fun z302 =>
 chk (inB z302 l294.length) <|
 bnd (IntKind.wrap .i64 (i296-7)) fun z304 =>
 chk (inB z304 l294.length) <|
 bnd (IntKind.wrap .i64 (i296-15)) fun z306 =>
 chk (inB z306 l294.length) <|
 bnd (IntKind.wrap .i64 (i296-16)) fun z308 =>
 chk (inB z308 l294.length) <|
 bnd (l294.getD (z302).toNat 0) fun z310 =>
 opt (q3_s1 z310) fun y311 =>
 bnd (l294.getD (z304).toNat 0) fun z312 =>
 bnd (IntKind.wrap .u64 (y311+z312)) fun z313 =>
 bnd (l294.getD (z306).toNat 0) fun z314 =>
 opt (q3_s0 z314) fun y315 =>
 bnd (IntKind.wrap .u64 (z313+y315)) fun z316 =>
 bnd (l294.getD (z308).toNat 0) fun z317 =>
 bnd (IntKind.wrap .u64 (z316+z317)) fun z318 =>
 chk (decide ((l294.length+([z318]:List (Int)).length)*8≤140737488355328)) <|
 bnd (l294++([z318]:List (Int))) fun l323 =>
 bnd (IntKind.wrap .i64 (i296+1)) fun z328 =>
 k297 l323 z328
 ) (
 k232 l294
 )
def q3_words_l2 (k232:(List (Int))→OL):Nat→(List (Int))→(Int)→OL
  | 0,_,_=>none
  | n+1,l294,i296=>q3_words_b2 k232 (q3_words_l2 k232 n) l294 i296
def q3_words (p0:List Int):OL :=
 jn (fun (l67:List (Int))=>jn (fun (l230:List (Int))=>some l230) fun k232=>q3_words_l2 k232 big l67 16) fun k69=>q3_words_l1 p0 k69 big [] 0
theorem q3_words_spec {W:World} {r:(List Int)} {p0:List Int} {v0:Value} (h:q3_words p0=some r) (A0:RdSl (El.int .u8) W v0 p0) :
    Calls Tryz.prog 177 [v0].toArray W (retS W [] (fun v Ms=>∃ (u0:Value) (M0:List Chunk),v=u0∧Ms = [.all M0]∧OwnSl (El.int .u64) u0 M0 r)):=by
 unfold q3_words at h
 refine calls_memT mo ok177 rfl (sat0 _) ?_
 refine wc_seq<|wc_ops<|wj_m rfl<|wj_nil<|wc_seq<|wc_ops<|wj_m rfl<|wj_nil<|wc_seq<|wc_seq<|wc_ops<|wj_m rfl<|wj_nil<|jH h fun k69 qk69 h=>wc_mono2 (G:=fun t m=>∃ (l67:List (Int)) (v65:Value) (ms66:List Chunk),k69 l67=some r∧OwnSl (El.int .u64) v65 ms66 l67∧Fit [(3,v65)] (ms66 ++ []) t m) ?_ ?_
 ·refine wc_block<|wc_loopJ (fun n112 t m=>∃ (l108:List (Int)) (i110:Int) (v106:Value) (ms107:List Chunk),q3_words_l1 p0 k69 n112 l108 i110=some r∧OwnSl (El.int .u64) v106 ms107 l108∧Fit [(0,v0),(3,v106),(4,.int .i64 (i110))] (ms107 ++ []) t m) big ?_ ?_
  ·exact ⟨[],0,(.slice none 0 0),[],h,own_nil,⟨⟨rfl,rfl,rfl,trivial⟩,(.no .nil)⟩⟩
  ·rintro n112 t m ⟨l108,i110,v106,ms107,h,O109,hF⟩
   refine wc_fit hF ?_
   clear hF
   rcases n112 with _ | n112
   · exact none_i h
   have h:q3_words_b1 p0 k69 (q3_words_l1 p0 k69 n112) l108 i110=some r:=h
   unfold q3_words_b1 at h
   obtain ⟨k111,qk111⟩ : ∃ k,k=q3_words_l1 p0 k69 n112:=⟨_,rfl⟩
   try rw [← qk111] at h
   refine wc_seq<|wc_seq<|wc_ops<|wj_m rfl<|wj_q _ (q_bin rfl rfl rfl)<|wj_nil<|wc_br h rfl (fun h=>?_) (fun h=>?_)
   ·refine wc_skip<|wc_seq<|wc_block<|bH h fun z116 ez116 h=>bH h fun z117 ez117 h=>bH h fun z118 ez118 h=>cH h fun c119 h=>oH h fun y120 ey120 h=>cH h fun c124 h=>bH h fun l125 el125 h=>wc_ops<|wj_m rfl<|wj_m rfl<|wj_m rfl<|wj_q _ (iz ez116 (q_bin rfl rfl rfl))<|wj_m rfl<|wj_q _ (iz ez117 (q_bin rfl rfl rfl))<|wj_q _ (iz ez118 (q_bin rfl rfl rfl))<|wj_q _ (q_slsP (lz:=z116) (hz:=z118) rfl (Shp.rd A0) (.yes rfl) (.yes rfl) c119)<|wj_q _ (q_call rfl (fun w hw=>q3_word_spec ey120 ((rd_cut (rd_arg A0 apart0) (lz:=z116) (hz:=z118) c119) w hw)))<|wj_e (ef_bsO (E:=(El.int .u64)) (xs:=[y120]) (.one rfl rfl rfl BdR.nil) (.cons (p:=[.one (.int .u64 (y120))]) rfl .nil) rfl fun v121 ms122 O123=>wj_e (ef_appO (E:=(El.int .u64)) el125 rfl O109 (.app .here) rfl (rd_own O123 .here) c124 fun v126 ms127 O128=>wj_m rfl<|wj_nil<|bH h fun z130 ez130 h=>wc_ops<|wj_m rfl<|wj_q _ (iz ez130 (q_bin rfl rfl rfl))<|wj_m rfl<|wj_nil ?_))
    rw [qk111] at h
    exact ⟨n112,Nat.lt_succ_self _,l125,z130,v126,ms127,h,O128,⟨⟨rfl,rfl,rfl,trivial⟩,(.all .here .nil)⟩⟩
   ·exact wc_exit _ rfl<|⟨l108,v106,ms107,h,O109,⟨⟨rfl,trivial⟩,(.all .here .nil)⟩⟩
 ·rintro t m ⟨l67,v65,ms66,h,O68,hF⟩
  refine wc_fit hF ?_
  clear hF
  subst qk69
  refine wc_seq<|wc_seq<|wc_ops<|wj_m rfl<|wj_nil<|jH h fun k232 qk232 h=>wc_mono2 (G:=fun t m=>∃ (l230:List (Int)) (v228:Value) (ms229:List Chunk),k232 l230=some r∧OwnSl (El.int .u64) v228 ms229 l230∧Fit [(3,v228)] (ms229 ++ []) t m) ?_ ?_
  ·refine wc_block<|wc_loopJ (fun n298 t m=>∃ (l294:List (Int)) (i296:Int) (v292:Value) (ms293:List Chunk),q3_words_l2 k232 n298 l294 i296=some r∧OwnSl (El.int .u64) v292 ms293 l294∧Fit [(3,v292),(5,.int .i64 (i296))] (ms293 ++ []) t m) big ?_ ?_
   ·exact ⟨l67,16,v65,ms66,h,O68,⟨⟨rfl,rfl,trivial⟩,(.all .here .nil)⟩⟩
   ·rintro n298 t m ⟨l294,i296,v292,ms293,h,O295,hF⟩
    refine wc_fit hF ?_
    clear hF
    rcases n298 with _ | n298
    · exact none_i h
    have h:q3_words_b2 k232 (q3_words_l2 k232 n298) l294 i296=some r:=h
    unfold q3_words_b2 at h
    obtain ⟨k297,qk297⟩ : ∃ k,k=q3_words_l2 k232 n298:=⟨_,rfl⟩
    try rw [← qk297] at h
    refine wc_seq<|wc_seq<|wc_ops<|wj_m rfl<|wj_q _ (q_bin rfl rfl rfl)<|wj_nil<|wc_br h rfl (fun h=>?_) (fun h=>?_)
    ·refine wc_skip<|wc_seq<|wc_block<|bH h fun z302 ez302 h=>cH h fun c303 h=>bH h fun z304 ez304 h=>cH h fun c305 h=>bH h fun z306 ez306 h=>cH h fun c307 h=>bH h fun z308 ez308 h=>cH h fun c309 h=>bH h fun z310 ez310 h=>oH h fun y311 ey311 h=>bH h fun z312 ez312 h=>bH h fun z313 ez313 h=>bH h fun z314 ez314 h=>oH h fun y315 ey315 h=>bH h fun z316 ez316 h=>bH h fun z317 ez317 h=>bH h fun z318 ez318 h=>cH h fun c322 h=>bH h fun l323 el323 h=>wc_draw<|ws_p1 _ (q_mv rfl)<|ws_p1 _ (q_mv rfl)<|ws_p1 _ (q_mv rfl)<|ws_p1 _ (iz ez302 (q_bin rfl rfl rfl))<|ws_p1 _ (q_iasP rfl rfl (Shp.own O295) c303)<|ws_p1 _ (q_mv rfl)<|ws_p1 _ (q_mv rfl)<|ws_p1 _ (iz ez304 (q_bin rfl rfl rfl))<|ws_p1 _ (q_iasP rfl rfl (Shp.own O295) c305)<|ws_p1 _ (q_mv rfl)<|ws_p1 _ (q_mv rfl)<|ws_p1 _ (iz ez306 (q_bin rfl rfl rfl))<|ws_p1 _ (q_iasP rfl rfl (Shp.own O295) c307)<|ws_p1 _ (q_mv rfl)<|ws_p1 _ (q_mv rfl)<|ws_p1 _ (iz ez308 (q_bin rfl rfl rfl))<|ws_p1 _ (q_iasP rfl rfl (Shp.own O295) c309)<|ws_q1 _ (iz ez310 (q_ldM10 (E:=(El.int .u64)) (s:=[.one (.int .u64 (l294.getD (z302).toNat 0))]) rfl (rd_own O295 .here) (inB_n c303) rfl rfl))<|ws_p1 _ (q_cl rfl (q3_s1_spec ey311))<|ws_q1 _ (iz ez312 (q_ldM10 (E:=(El.int .u64)) (s:=[.one (.int .u64 (l294.getD (z304).toNat 0))]) rfl (rd_own O295 .here) (inB_n c305) rfl rfl))<|ws_p1 _ (iz ez313 (q_bin rfl rfl rfl))<|ws_q1 _ (iz ez314 (q_ldM10 (E:=(El.int .u64)) (s:=[.one (.int .u64 (l294.getD (z306).toNat 0))]) rfl (rd_own O295 .here) (inB_n c307) rfl rfl))<|ws_p1 _ (q_cl rfl (q3_s0_spec ey315))<|ws_p1 _ (iz ez316 (q_bin rfl rfl rfl))<|ws_q1 _ (iz ez317 (q_ldM10 (E:=(El.int .u64)) (s:=[.one (.int .u64 (l294.getD (z308).toNat 0))]) rfl (rd_own O295 .here) (inB_n c309) rfl rfl))<|ws_p1 _ (iz ez318 (q_bin rfl rfl rfl))<|ws_e1 (ef_bsO (E:=(El.int .u64)) (xs:=[z318]) (.one rfl rfl rfl BdR.nil) (.cons (p:=[.one (.int .u64 (z318))]) rfl .nil) rfl fun v319 ms320 O321=>⟨(by repeat (first | exact Sup.refl _ | apply Sup.cons | apply Sup.app)),ws_eL rfl (ef_appO (E:=(El.int .u64)) el323 rfl O295 (.app .here) rfl (rd_own O321 .here) c322 fun v324 ms325 O326=>ws_p1 _ (q_mv rfl) (ws_nil (bH h fun z328 ez328 h=>wc_ops (wj_m rfl (wj_q _ (iz ez328 (q_bin rfl rfl rfl)) (wj_m rfl (wj_nil ?_)))))))⟩)
     rw [qk297] at h
     exact ⟨n298,Nat.lt_succ_self _,l323,z328,v324,ms325,h,O326,⟨⟨rfl,rfl,trivial⟩,(.all .here .nil)⟩⟩
    ·exact wc_exit _ rfl<|⟨l294,v292,ms293,h,O295,⟨⟨rfl,trivial⟩,(.all .here .nil)⟩⟩
  ·rintro t m ⟨l230,v228,ms229,h,O231,hF⟩
   refine wc_fit hF ?_
   clear hF
   subst qk232
   refine wc_seq<|wc_ops<|wj_m rfl<|wj_m rfl<|wj_nil<|wc_ret ?_
   revert h; refine ret_i fun h=>?_
   subst h
   exact ⟨_,_,(.cons (.tmp rfl) .nil),(.all .here .nil),⟨_,rfl,⟨v228,ms229,rfl,rfl,O231⟩⟩⟩
def q3_round (p0:List Int) (p1:Int) (p2:Int):OL :=
 bnd (p0.getD 4 0) fun z5 =>
 bnd (p0.getD 0 0) fun z7 =>
 bnd (p0.getD 5 0) fun z9 =>
 bnd (bitsV .and .u64 z5 z9) fun z10 =>
 bnd (bitsV .xor .u64 18446744073709551615 z5) fun z11 =>
 bnd (p0.getD 6 0) fun z12 =>
 bnd (bitsV .and .u64 z11 z12) fun z13 =>
 bnd (bitsV .xor .u64 z10 z13) fun z14 =>
 bnd (p0.getD 1 0) fun z16 =>
 bnd (bitsV .and .u64 z7 z16) fun z17 =>
 bnd (p0.getD 2 0) fun z18 =>
 bnd (bitsV .and .u64 z7 z18) fun z19 =>
 bnd (bitsV .xor .u64 z17 z19) fun z20 =>
 bnd (p0.getD 1 0) fun z21 =>
 bnd (p0.getD 2 0) fun z22 =>
 bnd (bitsV .and .u64 z21 z22) fun z23 =>
 bnd (bitsV .xor .u64 z20 z23) fun z24 =>
 opt (q3_R z5 14) fun y26 =>
 opt (q3_R z5 18) fun y27 =>
 bnd (bitsV .xor .u64 y26 y27) fun z28 =>
 opt (q3_R z5 41) fun y29 =>
 bnd (bitsV .xor .u64 z28 y29) fun z30 =>
 bnd (p0.getD 7 0) fun z31 =>
 bnd (IntKind.wrap .u64 (z31+z30)) fun z32 =>
 bnd (IntKind.wrap .u64 (z32+z14)) fun z33 =>
 bnd (IntKind.wrap .u64 (z33+p1)) fun z34 =>
 bnd (IntKind.wrap .u64 (z34+p2)) fun z35 =>
 opt (q3_R z7 28) fun y37 =>
 opt (q3_R z7 34) fun y38 =>
 bnd (bitsV .xor .u64 y37 y38) fun z39 =>
 opt (q3_R z7 39) fun y40 =>
 bnd (bitsV .xor .u64 z39 y40) fun z41 =>
 bnd (IntKind.wrap .u64 (z41+z24)) fun z42 =>
 bnd (IntKind.wrap .u64 (z35+z42)) fun z44 =>
 bnd (p0.getD 0 0) fun z45 =>
 bnd (p0.getD 1 0) fun z46 =>
 bnd (p0.getD 2 0) fun z47 =>
 bnd (p0.getD 3 0) fun z48 =>
 bnd (IntKind.wrap .u64 (z48+z35)) fun z49 =>
 bnd (p0.getD 4 0) fun z50 =>
 bnd (p0.getD 5 0) fun z51 =>
 bnd (p0.getD 6 0) fun z52 =>
 bnd (([z44,z45,z46,z47,z49,z50,z51,z52]:List Int)) fun z53 =>
 some z53
theorem q3_round_spec {W:World} {r:(List Int)} {p0:List Int} {p1:Int} {p2:Int} (h:q3_round p0 p1 p2=some r)  :
    Calls Tryz.prog 178 [agg [.ints .u64 8 (p0)],.int .u64 (p1),.int .u64 (p2)].toArray W (ret1 W (agg [.ints .u64 8 (r)])):=by
 unfold q3_round at h
 refine calls_val mo ok178 rfl ?_
 refine wc_seq<|wc_ops<|wj_e (ef_bx (s:=[.ints .u64 8 (p0)]) rfl fun b2 hb2=>wj_e (ef_al fun b3 hb3=>wj_nil<|wc_seq<|bH h fun z5 ez5 h=>wc_ops<|wj_q _ (q_ia rfl rfl (by decide))<|wj_q _ (iz ez5 (q_ld1 rfl (.there .here) rfl))<|wj_m rfl<|wj_nil<|wc_seq<|bH h fun z7 ez7 h=>wc_ops<|wj_q _ (q_ia rfl rfl (by decide))<|wj_q _ (iz ez7 (q_ld1 rfl (.there .here) rfl))<|wj_m rfl<|wj_nil<|wc_seq<|bH h fun z9 ez9 h=>bH h fun z10 ez10 h=>bH h fun z11 ez11 h=>bH h fun z12 ez12 h=>bH h fun z13 ez13 h=>bH h fun z14 ez14 h=>wc_ops<|wj_m rfl<|wj_q _ (q_ia rfl rfl (by decide))<|wj_q _ (iz ez9 (q_ld1 rfl (.there .here) rfl))<|wj_q _ (iz ez10 (q_bin rfl rfl rfl))<|wj_m rfl<|wj_q _ (iz ez11 (q_un rfl rfl))<|wj_q _ (q_ia rfl rfl (by decide))<|wj_q _ (iz ez12 (q_ld1 rfl (.there .here) rfl))<|wj_q _ (iz ez13 (q_bin rfl rfl rfl))<|wj_q _ (iz ez14 (q_bin rfl rfl rfl))<|wj_m rfl<|wj_nil<|wc_seq<|bH h fun z16 ez16 h=>bH h fun z17 ez17 h=>bH h fun z18 ez18 h=>bH h fun z19 ez19 h=>bH h fun z20 ez20 h=>bH h fun z21 ez21 h=>bH h fun z22 ez22 h=>bH h fun z23 ez23 h=>bH h fun z24 ez24 h=>wc_ops<|wj_m rfl<|wj_q _ (q_ia rfl rfl (by decide))<|wj_q _ (iz ez16 (q_ld1 rfl (.there .here) rfl))<|wj_q _ (iz ez17 (q_bin rfl rfl rfl))<|wj_m rfl<|wj_q _ (q_ia rfl rfl (by decide))<|wj_q _ (iz ez18 (q_ld1 rfl (.there .here) rfl))<|wj_q _ (iz ez19 (q_bin rfl rfl rfl))<|wj_q _ (iz ez20 (q_bin rfl rfl rfl))<|wj_q _ (q_ia rfl rfl (by decide))<|wj_q _ (iz ez21 (q_ld1 rfl (.there .here) rfl))<|wj_q _ (q_ia rfl rfl (by decide))<|wj_q _ (iz ez22 (q_ld1 rfl (.there .here) rfl))<|wj_q _ (iz ez23 (q_bin rfl rfl rfl))<|wj_q _ (iz ez24 (q_bin rfl rfl rfl))<|wj_m rfl<|wj_nil<|wc_seq<|oH h fun y26 ey26 h=>oH h fun y27 ey27 h=>bH h fun z28 ez28 h=>oH h fun y29 ey29 h=>bH h fun z30 ez30 h=>bH h fun z31 ez31 h=>bH h fun z32 ez32 h=>bH h fun z33 ez33 h=>bH h fun z34 ez34 h=>bH h fun z35 ez35 h=>wc_draw<|ws_p1 _ (q_ia rfl rfl (by decide))<|ws_p1 _ (q_mv rfl)<|ws_p1 _ (q_cl rfl (q3_R_spec ey26))<|ws_p1 _ (q_mv rfl)<|ws_p1 _ (q_cl rfl (q3_R_spec ey27))<|ws_p1 _ (iz ez28 (q_bin rfl rfl rfl))<|ws_p1 _ (q_mv rfl)<|ws_p1 _ (q_cl rfl (q3_R_spec ey29))<|ws_p1 _ (iz ez30 (q_bin rfl rfl rfl))<|ws_p1 _ (q_mv rfl)<|ws_p1 _ (q_mv rfl)<|ws_p1 _ (q_mv rfl)<|ws_q1 _ (iz ez31 (q_ld1 rfl (.there .here) rfl))<|ws_p1 _ (iz ez32 (q_bin rfl rfl rfl))<|ws_p1 _ (iz ez33 (q_bin rfl rfl rfl))<|ws_p1 _ (iz ez34 (q_bin rfl rfl rfl))<|ws_p1 _ (iz ez35 (q_bin rfl rfl rfl))<|ws_p1 _ (q_mv rfl)<|ws_nil<|wc_seq<|oH h fun y37 ey37 h=>oH h fun y38 ey38 h=>bH h fun z39 ez39 h=>oH h fun y40 ey40 h=>bH h fun z41 ez41 h=>bH h fun z42 ez42 h=>wc_ops<|wj_m rfl<|wj_q _ (q_cl rfl (q3_R_spec ey37))<|wj_m rfl<|wj_q _ (q_cl rfl (q3_R_spec ey38))<|wj_q _ (iz ez39 (q_bin rfl rfl rfl))<|wj_m rfl<|wj_q _ (q_cl rfl (q3_R_spec ey40))<|wj_q _ (iz ez41 (q_bin rfl rfl rfl))<|wj_m rfl<|wj_q _ (iz ez42 (q_bin rfl rfl rfl))<|wj_m rfl<|wj_nil<|wc_seq<|bH h fun z44 ez44 h=>bH h fun z45 ez45 h=>bH h fun z46 ez46 h=>bH h fun z47 ez47 h=>bH h fun z48 ez48 h=>bH h fun z49 ez49 h=>bH h fun z50 ez50 h=>bH h fun z51 ez51 h=>bH h fun z52 ez52 h=>bH h fun z53 ez53 h=>wc_ops<|wj_m rfl<|wj_m rfl<|wj_q _ (iz ez44 (q_bin rfl rfl rfl))<|wj_q _ (q_ia rfl rfl (by decide))<|wj_q _ (iz ez45 (q_ld1 rfl (.there .here) rfl))<|wj_q _ (q_ia rfl rfl (by decide))<|wj_q _ (iz ez46 (q_ld1 rfl (.there .here) rfl))<|wj_q _ (q_ia rfl rfl (by decide))<|wj_q _ (iz ez47 (q_ld1 rfl (.there .here) rfl))<|wj_q _ (q_ia rfl rfl (by decide))<|wj_q _ (iz ez48 (q_ld1 rfl (.there .here) rfl))<|wj_m rfl<|wj_q _ (iz ez49 (q_bin rfl rfl rfl))<|wj_q _ (q_ia rfl rfl (by decide))<|wj_q _ (iz ez50 (q_ld1 rfl (.there .here) rfl))<|wj_q _ (q_ia rfl rfl (by decide))<|wj_q _ (iz ez51 (q_ld1 rfl (.there .here) rfl))<|wj_q _ (q_ia rfl rfl (by decide))<|wj_q _ (iz ez52 (q_ld1 rfl (.there .here) rfl))<|wj_q _ (az (fun z=>agg [.ints .u64 8 z]) ez53 (q_bd (.one rfl rfl rfl (.one rfl rfl rfl (.one rfl rfl rfl (.one rfl rfl rfl (.one rfl rfl rfl (.one rfl rfl rfl (.one rfl rfl rfl (.one rfl rfl rfl BdR.nil))))))))))<|wj_e (ef_st (q:=[.ints .u64 8 (z53)]) rfl rfl rfl rfl rfl .here<|wj_nil<|wc_ret ?_)))
 revert h; refine ret_i fun h=>?_
 subst h
 exact ⟨_,(.cons (.agg rfl .here rfl) .nil),rfl⟩
def q3_step_b1 (y5:(List Int)) (k48:(List Int)→OL) (k70:(Int)→(List Int)→OL) (i68:Int) (a69:List Int):OL :=
 br ((decide (i68<80))) (
 chk (inB i68 80) <|
 chk (inB i68 y5.length) <|
 bnd (G_rtable.getD (i68).toNat 0) fun z77 =>
 bnd (y5.getD (i68).toNat 0) fun z78 =>
 opt (q3_round a69 z77 z78) fun y79 =>
 bnd (IntKind.wrap .i64 (i68+1)) fun z81 =>
 k70 z81 y79
 ) (
 k48 a69
 )
def q3_step_l1 (y5:(List Int)) (k48:(List Int)→OL):Nat→(Int)→(List Int)→OL
  | 0,_,_=>none
  | n+1,i68,a69=>q3_step_b1 y5 k48 (q3_step_l1 y5 k48 n) i68 a69
def q3_step_b2 (p0:List Int) (k121:(List Int)→OL) (k145:(Int)→(List Int)→OL) (i143:Int) (a144:List Int):OL :=
 br ((decide (i143<8))) (
 chk (inB i143 8) <|
 chk (inB i143 8) <|
 bnd (a144.getD (i143).toNat 0) fun z152 =>
 bnd (p0.getD (i143).toNat 0) fun z153 =>
 bnd (IntKind.wrap .u64 (z152+z153)) fun z154 =>
 chk (inB i143 8) <|
 bnd (setD a144 (i143).toNat z154) fun l156 =>
 bnd (IntKind.wrap .i64 (i143+1)) fun z158 =>
 k145 z158 l156
 ) (
 k121 a144
 )
def q3_step_l2 (p0:List Int) (k121:(List Int)→OL):Nat→(Int)→(List Int)→OL
  | 0,_,_=>none
  | n+1,i143,a144=>q3_step_b2 p0 k121 (q3_step_l2 p0 k121 n) i143 a144
def q3_step (p0:List Int) (p1:List Int):OL :=
 opt (q3_words p1) fun y5 =>
 jn (fun (a47:List Int)=>jn (fun (a120:List Int)=>some a120) fun k121=>q3_step_l2 p0 k121 big 0 a47) fun k48=>q3_step_l1 y5 k48 big 0 p0
theorem q3_step_spec {W:World} {r:(List Int)} {p0:List Int} {p1:List Int} {v1:Value} (h:q3_step p0 p1=some r) (hG:Globs W) (A1:RdSl (El.int .u8) W v1 p1) :
    Calls Tryz.prog 110 [agg [.ints .u64 8 (p0)],v1].toArray W (ret1 W (agg [.ints .u64 8 (r)])):=by
 unfold q3_step at h
 refine calls_val mo ok110 rfl ?_
 refine wc_seq<|wc_ops<|wj_e (ef_bx (s:=[.ints .u64 8 (p0)]) rfl fun b2 hb2=>wj_e (ef_al fun b3 hb3=>wj_nil<|wc_seq<|oH h fun y5 ey5 h=>wc_ops<|wj_m rfl<|wj_e (ef_callS0 rfl (fun w hw=>q3_words_spec  ey5 ((rd_arg A1 apart0) w hw)) fun v6 Msv6 R7=>?_)))
 obtain ⟨_,ms9,rfl,rfl,O10⟩:=R7
 refine wj_m rfl<|wj_nil<|wc_seq<|wc_ops<|wj_q _ (q_ld (p:=[.ints .u64 8 (p0)]) rfl (.app (.there .here)) rfl)<|wj_e (ef_al fun b12 hb12=>wj_e (ef_st (q:=[.ints .u64 8 (p0)]) rfl rfl rfl rfl rfl .here<|wj_nil<|wc_seq<|wc_seq<|wc_ops<|wj_m rfl<|wj_nil<|jH h fun k48 qk48 h=>wc_mono2 (G:=fun t m=>∃ (a47:List Int),k48 a47=some r∧Fit [(2,.pointer (some ⟨b2,0,none⟩)),(4,.pointer (some ⟨b3,0,none⟩)),(6,.pointer (some ⟨b12,0,none⟩))] (ck b12 144 [.ints .u64 8 (a47)]::(ck b3 144 [.ints .u64 8 ((List.replicate 8 0))]::(ck b2 144 [.ints .u64 8 (p0)] :: []))) t m) ?_ ?_))
 ·refine wc_block<|wc_loopJ (fun n71 t m=>∃ (i68:Int) (a69:List Int),q3_step_l1 y5 k48 n71 i68 a69=some r∧Fit [(2,.pointer (some ⟨b2,0,none⟩)),(4,.pointer (some ⟨b3,0,none⟩)),(5,v6),(6,.pointer (some ⟨b12,0,none⟩)),(7,.int .i64 (i68))] (ck b12 144 [.ints .u64 8 (a69)]::(ms9++(ck b3 144 [.ints .u64 8 ((List.replicate 8 0))]::(ck b2 144 [.ints .u64 8 (p0)] :: [])))) t m) big ?_ ?_
  ·exact ⟨0,p0,h,⟨⟨rfl,rfl,rfl,rfl,rfl,trivial⟩,(.one .here (.all .here (.one .here (.one .here .nil))))⟩⟩
  ·rintro n71 t m ⟨i68,a69,h,hF⟩
   refine wc_fit hF ?_
   clear hF
   rcases n71 with _ | n71
   · exact none_i h
   have h:q3_step_b1 y5 k48 (q3_step_l1 y5 k48 n71) i68 a69=some r:=h
   unfold q3_step_b1 at h
   obtain ⟨k70,qk70⟩ : ∃ k,k=q3_step_l1 y5 k48 n71:=⟨_,rfl⟩
   try rw [← qk70] at h
   refine wc_seq<|wc_seq<|wc_ops<|wj_m rfl<|wj_q _ (q_bin rfl rfl rfl)<|wj_nil<|wc_br h rfl (fun h=>?_) (fun h=>?_)
   ·refine wc_skip<|wc_seq<|wc_block<|cH h fun c75 h=>cH h fun c76 h=>bH h fun z77 ez77 h=>bH h fun z78 ez78 h=>oH h fun y79 ey79 h=>wc_draw<|ws_p1 _ (q_mv rfl)<|ws_p1 _ (q_ia rfl rfl (inB_z c75))<|ws_p1 _ (q_mv rfl)<|ws_p1 _ (q_mv rfl)<|ws_p1 _ (q_iasP rfl rfl (Shp.own O10) c76)<|ws_q1 _ (q_ld (p:=[.ints .u64 8 (a69)]) rfl .here rfl)<|ws_q1 _ (iz ez77 (q_memi rfl (hG.g3) (by simp) (inB_n c75)))<|ws_q1 _ (iz ez78 (q_ldM10 (E:=(El.int .u64)) (s:=[.one (.int .u64 (y5.getD (i68).toNat 0))]) rfl (rd_own O10 (.there .here)) (inB_n c76) rfl rfl))<|ws_p1 _ (q_cl rfl (q3_round_spec ey79))<|ws_eL rfl (ef_st (q:=[.ints .u64 8 (y79)]) rfl rfl rfl rfl rfl .here<|ws_nil<|bH h fun z81 ez81 h=>wc_ops<|wj_m rfl<|wj_q _ (iz ez81 (q_bin rfl rfl rfl))<|wj_m rfl<|wj_nil ?_)
    rw [qk70] at h
    exact ⟨n71,Nat.lt_succ_self _,z81,y79,h,⟨⟨rfl,rfl,rfl,rfl,rfl,trivial⟩,(.one .here (.all .here (.one .here (.one .here .nil))))⟩⟩
   ·exact wc_exit _ rfl<|⟨a69,h,⟨⟨rfl,rfl,rfl,trivial⟩,(.one .here (.one (.app .here) (.one (.app .here) .nil)))⟩⟩
 ·rintro t m ⟨a47,h,hF⟩
  refine wc_fit hF ?_
  clear hF
  subst qk48
  refine wc_seq<|wc_seq<|wc_ops<|wj_m rfl<|wj_nil<|jH h fun k121 qk121 h=>wc_mono2 (G:=fun t m=>∃ (a120:List Int),k121 a120=some r∧Fit [(4,.pointer (some ⟨b3,0,none⟩)),(6,.pointer (some ⟨b12,0,none⟩))] (ck b12 144 [.ints .u64 8 (a120)]::(ck b3 144 [.ints .u64 8 ((List.replicate 8 0))]::(ck b2 144 [.ints .u64 8 (p0)] :: []))) t m) ?_ ?_
  ·refine wc_block<|wc_loopJ (fun n146 t m=>∃ (i143:Int) (a144:List Int),q3_step_l2 p0 k121 n146 i143 a144=some r∧Fit [(2,.pointer (some ⟨b2,0,none⟩)),(4,.pointer (some ⟨b3,0,none⟩)),(6,.pointer (some ⟨b12,0,none⟩)),(8,.int .i64 (i143))] (ck b12 144 [.ints .u64 8 (a144)]::(ck b3 144 [.ints .u64 8 ((List.replicate 8 0))]::(ck b2 144 [.ints .u64 8 (p0)] :: []))) t m) big ?_ ?_
   ·exact ⟨0,a47,h,⟨⟨rfl,rfl,rfl,rfl,trivial⟩,(.one .here (.one .here (.one .here .nil)))⟩⟩
   ·rintro n146 t m ⟨i143,a144,h,hF⟩
    refine wc_fit hF ?_
    clear hF
    rcases n146 with _ | n146
    · exact none_i h
    have h:q3_step_b2 p0 k121 (q3_step_l2 p0 k121 n146) i143 a144=some r:=h
    unfold q3_step_b2 at h
    obtain ⟨k145,qk145⟩ : ∃ k,k=q3_step_l2 p0 k121 n146:=⟨_,rfl⟩
    try rw [← qk145] at h
    refine wc_seq<|wc_seq<|wc_ops<|wj_m rfl<|wj_q _ (q_bin rfl rfl rfl)<|wj_nil<|wc_br h rfl (fun h=>?_) (fun h=>?_)
    ·refine wc_skip<|wc_seq<|wc_block<|cH h fun c150 h=>cH h fun c151 h=>bH h fun z152 ez152 h=>bH h fun z153 ez153 h=>bH h fun z154 ez154 h=>cH h fun c155 h=>bH h fun l156 el156 h=>wc_draw<|ws_p1 _ (q_mv rfl)<|ws_p1 _ (q_mv rfl)<|ws_p1 _ (q_ia rfl rfl (inB_z c150))<|ws_p1 _ (q_mv rfl)<|ws_p1 _ (q_ia rfl rfl (inB_z c151))<|ws_q1 _ (iz ez152 (q_ldi (base:=0) rfl .here rfl (inB_n c150)))<|ws_q1 _ (iz ez153 (q_ldi (base:=0) rfl (.there (.there .here)) rfl (inB_n c151)))<|ws_p1 _ (iz ez154 (q_bin rfl rfl rfl))<|ws_p1 _ (q_ia rfl rfl (inB_z c155))<|ws_eL rfl (ef_stiz (q:=[.ints .u64 8 (l156)]) (base:=0) el156 rfl rfl rfl (inB_n c155) rfl .here<|ws_nil<|bH h fun z158 ez158 h=>wc_ops<|wj_m rfl<|wj_q _ (iz ez158 (q_bin rfl rfl rfl))<|wj_m rfl<|wj_nil ?_)
     rw [qk145] at h
     exact ⟨n146,Nat.lt_succ_self _,z158,l156,h,⟨⟨rfl,rfl,rfl,rfl,trivial⟩,(.one .here (.one .here (.one .here .nil)))⟩⟩
    ·exact wc_exit _ rfl<|⟨a144,h,⟨⟨rfl,rfl,trivial⟩,(.one .here (.one .here (.one .here .nil)))⟩⟩
  ·rintro t m ⟨a120,h,hF⟩
   refine wc_fit hF ?_
   clear hF
   subst qk121
   refine wc_seq<|wc_ops<|wj_q _ (q_ld (p:=[.ints .u64 8 (a120)]) rfl .here rfl)<|wj_e (ef_st (q:=[.ints .u64 8 (a120)]) rfl rfl rfl rfl rfl (.there .here)<|wj_nil<|wc_ret ?_)
   revert h; refine ret_i fun h=>?_
   subst h
   exact ⟨_,(.cons (.agg rfl (.there .here) rfl) .nil),rfl⟩
def q3_Sum_b1 (l19:List (Int)) (k55:(List Int)→OL) (k74:(Int)→(List Int)→OL) (i72:Int) (a73:List Int):OL :=
 br ((decide (i72<(l19.length:Int)))) (
 bnd (IntKind.wrap .i64 (i72+128)) fun z79 =>
 chk (cutB i72 z79 l19.length) <|
 opt (q3_step a73 ((l19.drop (i72).toNat).take ((z79).toNat-(i72).toNat))) fun y81 =>
 bnd (IntKind.wrap .i64 (i72+128)) fun z83 =>
 k74 z83 y81
 ) (
 k55 a73
 )
def q3_Sum_l1 (l19:List (Int)) (k55:(List Int)→OL):Nat→(Int)→(List Int)→OL
  | 0,_,_=>none
  | n+1,i72,a73=>q3_Sum_b1 l19 k55 (q3_Sum_l1 l19 k55 n) i72 a73
def q3_Sum_b3 (i521:Int) (y530:(List Int)) (k575:(List Int)→OL) (k600:(Int)→(List Int)→OL) (i598:Int) (a599:List Int):OL :=
 br ((decide (i598<8))) (
 bnd (IntKind.wrap .i64 (8*i521)) fun z605 =>
 bnd (IntKind.wrap .i64 (z605+i598)) fun z606 =>
 chk (inB i598 y530.length) <|
 bnd (y530.getD (i598).toNat 0) fun z608 =>
 chk (inB z606 64) <|
 bnd (setD a599 (z606).toNat z608) fun l610 =>
 bnd (IntKind.wrap .i64 (i598+1)) fun z612 =>
 k600 z612 l610
 ) (
 k575 a599
 )
def q3_Sum_l3 (i521:Int) (y530:(List Int)) (k575:(List Int)→OL):Nat→(Int)→(List Int)→OL
  | 0,_,_=>none
  | n+1,i598,a599=>q3_Sum_b3 i521 y530 k575 (q3_Sum_l3 i521 y530 k575 n) i598 a599
def q3_Sum_b2 (a54:List Int) (k351:(List Int)→OL) (k523:(Int)→(List Int)→OL) (i521:Int) (a522:List Int):OL :=
 br ((decide (i521<8))) (
 chk (inB i521 8) <|
 bnd (a54.getD (i521).toNat 0) fun z529 =>
 opt (q3_tell z529) fun y530 =>
 jn (fun (a574:List Int)=>bnd (IntKind.wrap .i64 (i521+1)) fun z614 =>
 k523 z614 a574) fun k575=>q3_Sum_l3 i521 y530 k575 big 0 a522
 ) (
 k351 a522
 )
def q3_Sum_l2 (a54:List Int) (k351:(List Int)→OL):Nat→(Int)→(List Int)→OL
  | 0,_,_=>none
  | n+1,i521,a522=>q3_Sum_b2 a54 k351 (q3_Sum_l2 a54 k351 n) i521 a522
def q3_Sum (p0:List Int):OL :=
 chk (decide ((([]:List (Int)).length+p0.length)*1≤140737488355328)) <|
 bnd (([]:List (Int))++p0) fun l6 =>
 bnd (IntKind.wrap .u64 (p0.length:Int)) fun z11 =>
 opt (q3_Pad z11) fun y12 =>
 chk (decide ((l6.length+y12.length)*1≤140737488355328)) <|
 bnd (l6++y12) fun l19 =>
 jn (fun (a54:List Int)=>jn (fun (a350:List Int)=>some a350) fun k351=>q3_Sum_l2 a54 k351 big 0 (List.replicate 64 0)) fun k55=>q3_Sum_l1 l19 k55 big 0 G_rfirst
theorem q3_Sum_spec {W:World} {r:(List Int)} {p0:List Int} {v0:Value} (h:q3_Sum p0=some r) (hG:Globs W) (A0:RdSl (El.int .u8) W v0 p0) :
    Calls Tryz.prog 58 [v0].toArray W (ret1 W (agg [.ints .u8 64 (r)])):=by
 unfold q3_Sum at h
 refine calls_val mo ok58 rfl ?_
 refine wc_seq<|wc_ops<|wj_e (ef_al fun b2 hb2=>wj_nil<|wc_seq<|wc_ops<|wj_m rfl<|wj_nil<|wc_seq<|cH h fun c5 h=>bH h fun l6 el6 h=>wc_ops<|wj_m rfl<|wj_m rfl<|wj_e (ef_appO (E:=(El.int .u8)) el6 rfl own_nil .here rfl (rd_arg A0 apart0) c5 fun v7 ms8 O9=>wj_m rfl<|wj_nil<|wc_seq<|bH h fun z11 ez11 h=>oH h fun y12 ey12 h=>cH h fun c18 h=>bH h fun l19 el19 h=>wc_ops<|wj_m rfl<|wj_m rfl<|wj_q _ (q_lenP rfl (Shp.rd A0))<|wj_q _ (iz ez11 (q_conv rfl))<|wj_e (ef_callS0 rfl (fun w hw=>q3_Pad_spec  ey12 ) fun v13 Msv13 R14=>?_)))
 obtain ⟨_,ms16,rfl,rfl,O17⟩:=R14
 refine wj_e (ef_appO (E:=(El.int .u8)) el19 rfl O9 (.app .here) rfl (rd_own O17 .here) c18 fun v20 ms21 O22=>wj_m rfl<|wj_nil<|wc_seq<|wc_ops<|wj_q _ (q_mem (o0:=0) (off:=0) rfl (hG.g0) (by simp) rfl)<|wj_e (ef_al fun b24 hb24=>wj_e (ef_st (q:=[.ints .u64 8 (G_rfirst)]) rfl rfl rfl rfl rfl .here<|wj_nil<|wc_seq<|wc_seq<|wc_ops<|wj_m rfl<|wj_nil<|jH h fun k55 qk55 h=>wc_mono2 (G:=fun t m=>∃ (a54:List Int),k55 a54=some r∧Fit [(2,.pointer (some ⟨b2,0,none⟩)),(4,.pointer (some ⟨b24,0,none⟩))] (ck b24 144 [.ints .u64 8 (a54)]::(ck b2 94 [.ints .u8 64 ((List.replicate 64 0))] :: [])) t m) ?_ ?_)))
 ·refine wc_block<|wc_loopJ (fun n75 t m=>∃ (i72:Int) (a73:List Int),q3_Sum_l1 l19 k55 n75 i72 a73=some r∧Fit [(2,.pointer (some ⟨b2,0,none⟩)),(3,v20),(4,.pointer (some ⟨b24,0,none⟩)),(5,.int .i64 (i72))] (ck b24 144 [.ints .u64 8 (a73)]::(ms21++(ck b2 94 [.ints .u8 64 ((List.replicate 64 0))] :: []))) t m) big ?_ ?_
  ·exact ⟨0,G_rfirst,h,⟨⟨rfl,rfl,rfl,rfl,trivial⟩,(.one .here (.all .here (.one (.app .here) .nil)))⟩⟩
  ·rintro n75 t m ⟨i72,a73,h,hF⟩
   refine wc_fit hF ?_
   clear hF
   rcases n75 with _ | n75
   · exact none_i h
   have h:q3_Sum_b1 l19 k55 (q3_Sum_l1 l19 k55 n75) i72 a73=some r:=h
   unfold q3_Sum_b1 at h
   obtain ⟨k74,qk74⟩ : ∃ k,k=q3_Sum_l1 l19 k55 n75:=⟨_,rfl⟩
   try rw [← qk74] at h
   refine wc_seq<|wc_seq<|wc_ops<|wj_m rfl<|wj_m rfl<|wj_q _ (q_lenP rfl (Shp.own O22))<|wj_q _ (q_bin rfl rfl rfl)<|wj_nil<|wc_br h rfl (fun h=>?_) (fun h=>?_)
   ·refine wc_skip<|wc_seq<|wc_block<|bH h fun z79 ez79 h=>cH h fun c80 h=>oH h fun y81 ey81 h=>wc_draw<|ws_p1 _ (q_mv rfl)<|ws_p1 _ (q_mv rfl)<|ws_p1 _ (q_mv rfl)<|ws_p1 _ (iz ez79 (q_bin rfl rfl rfl))<|ws_p1 _ (q_slsP (lz:=i72) (hz:=z79) rfl (Shp.own O22) (.yes rfl) (.yes rfl) c80)<|ws_q1 _ (q_ld (p:=[.ints .u64 8 (a73)]) rfl .here rfl)<|ws_q1 _ (q_call rfl (fun w hw=>q3_step_spec ey81 (hG.at hw (by simp)) ((rd_cut (rd_own O22 (.there .here)) (lz:=i72) (hz:=z79) c80) w hw)))<|ws_eL rfl (ef_st (q:=[.ints .u64 8 (y81)]) rfl rfl rfl rfl rfl .here<|ws_nil<|bH h fun z83 ez83 h=>wc_ops<|wj_m rfl<|wj_q _ (iz ez83 (q_bin rfl rfl rfl))<|wj_m rfl<|wj_nil ?_)
    rw [qk74] at h
    exact ⟨n75,Nat.lt_succ_self _,z83,y81,h,⟨⟨rfl,rfl,rfl,rfl,trivial⟩,(.one .here (.all .here (.one .here .nil)))⟩⟩
   ·exact wc_exit _ rfl<|⟨a73,h,⟨⟨rfl,rfl,trivial⟩,(.one .here (.one (.app .here) .nil))⟩⟩
 ·rintro t m ⟨a54,h,hF⟩
  refine wc_fit hF ?_
  clear hF
  subst qk55
  refine wc_seq<|wc_ops<|wj_e (ef_al fun b85 hb85=>wj_nil<|wc_seq<|wc_seq<|wc_ops<|wj_m rfl<|wj_nil<|jH h fun k351 qk351 h=>wc_mono2 (G:=fun t m=>∃ (a350:List Int),k351 a350=some r∧Fit [(2,.pointer (some ⟨b2,0,none⟩)),(6,.pointer (some ⟨b85,0,none⟩))] (ck b85 94 [.ints .u8 64 (a350)]::(ck b24 144 [.ints .u64 8 (a54)]::(ck b2 94 [.ints .u8 64 ((List.replicate 64 0))] :: []))) t m) ?_ ?_)
  ·refine wc_block<|wc_loopJ (fun n524 t m=>∃ (i521:Int) (a522:List Int),q3_Sum_l2 a54 k351 n524 i521 a522=some r∧Fit [(2,.pointer (some ⟨b2,0,none⟩)),(4,.pointer (some ⟨b24,0,none⟩)),(6,.pointer (some ⟨b85,0,none⟩)),(7,.int .i64 (i521))] (ck b85 94 [.ints .u8 64 (a522)]::(ck b24 144 [.ints .u64 8 (a54)]::(ck b2 94 [.ints .u8 64 ((List.replicate 64 0))] :: []))) t m) big ?_ ?_
   ·exact ⟨0,(List.replicate 64 0),h,⟨⟨rfl,rfl,rfl,rfl,trivial⟩,(.one .here (.one .here (.one .here .nil)))⟩⟩
   ·rintro n524 t m ⟨i521,a522,h,hF⟩
    refine wc_fit hF ?_
    clear hF
    rcases n524 with _ | n524
    · exact none_i h
    have h:q3_Sum_b2 a54 k351 (q3_Sum_l2 a54 k351 n524) i521 a522=some r:=h
    unfold q3_Sum_b2 at h
    obtain ⟨k523,qk523⟩ : ∃ k,k=q3_Sum_l2 a54 k351 n524:=⟨_,rfl⟩
    try rw [← qk523] at h
    refine wc_seq<|wc_seq<|wc_ops<|wj_m rfl<|wj_q _ (q_bin rfl rfl rfl)<|wj_nil<|wc_br h rfl (fun h=>?_) (fun h=>?_)
    ·refine wc_skip<|wc_seq<|wc_block<|wc_seq<|cH h fun c528 h=>bH h fun z529 ez529 h=>oH h fun y530 ey530 h=>wc_ops<|wj_m rfl<|wj_q _ (q_ia rfl rfl (inB_z c528))<|wj_q _ (iz ez529 (q_ldi (base:=0) rfl (.there .here) rfl (inB_n c528)))<|wj_e (ef_callS0 rfl (fun w hw=>q3_tell_spec  ey530 ) fun v531 Msv531 R532=>?_)
     obtain ⟨_,ms534,rfl,rfl,O535⟩:=R532
     refine wj_m rfl<|wj_nil<|wc_seq<|wc_ops<|wj_m rfl<|wj_nil<|jH h fun k575 qk575 h=>wc_mono2 (G:=fun t m=>∃ (a574:List Int),k575 a574=some r∧Fit [(2,.pointer (some ⟨b2,0,none⟩)),(4,.pointer (some ⟨b24,0,none⟩)),(6,.pointer (some ⟨b85,0,none⟩)),(7,.int .i64 (i521))] (ck b85 94 [.ints .u8 64 (a574)]::(ck b24 144 [.ints .u64 8 (a54)]::(ck b2 94 [.ints .u8 64 ((List.replicate 64 0))] :: []))) t m) ?_ ?_
     ·refine wc_block<|wc_loopJ (fun n601 t m=>∃ (i598:Int) (a599:List Int),q3_Sum_l3 i521 y530 k575 n601 i598 a599=some r∧Fit [(2,.pointer (some ⟨b2,0,none⟩)),(4,.pointer (some ⟨b24,0,none⟩)),(6,.pointer (some ⟨b85,0,none⟩)),(7,.int .i64 (i521)),(8,v531),(9,.int .i64 (i598))] (ms534++(ck b85 94 [.ints .u8 64 (a599)]::(ck b24 144 [.ints .u64 8 (a54)]::(ck b2 94 [.ints .u8 64 ((List.replicate 64 0))] :: [])))) t m) big ?_ ?_
      ·exact ⟨0,a522,h,⟨⟨rfl,rfl,rfl,rfl,rfl,rfl,trivial⟩,(.all .here (.one .here (.one .here (.one .here .nil))))⟩⟩
      ·rintro n601 t m ⟨i598,a599,h,hF⟩
       refine wc_fit hF ?_
       clear hF
       rcases n601 with _ | n601
       · exact none_i h
       have h:q3_Sum_b3 i521 y530 k575 (q3_Sum_l3 i521 y530 k575 n601) i598 a599=some r:=h
       unfold q3_Sum_b3 at h
       obtain ⟨k600,qk600⟩ : ∃ k,k=q3_Sum_l3 i521 y530 k575 n601:=⟨_,rfl⟩
       try rw [← qk600] at h
       refine wc_seq<|wc_seq<|wc_ops<|wj_m rfl<|wj_q _ (q_bin rfl rfl rfl)<|wj_nil<|wc_br h rfl (fun h=>?_) (fun h=>?_)
       ·refine wc_skip<|wc_seq<|wc_block<|bH h fun z605 ez605 h=>bH h fun z606 ez606 h=>cH h fun c607 h=>bH h fun z608 ez608 h=>cH h fun c609 h=>bH h fun l610 el610 h=>wc_ops<|wj_m rfl<|wj_q _ (iz ez605 (q_bin rfl rfl rfl))<|wj_m rfl<|wj_q _ (iz ez606 (q_bin rfl rfl rfl))<|wj_m rfl<|wj_m rfl<|wj_q _ (q_iasP rfl rfl (Shp.own O535) c607)<|wj_q _ (iz ez608 (q_ldM10 (E:=(El.int .u8)) (s:=[.one (.int .u8 (y530.getD (i598).toNat 0))]) rfl (rd_own O535 .here) (inB_n c607) rfl rfl))<|wj_q _ (q_ia rfl rfl (inB_z c609))<|wj_e (ef_stiz (q:=[.ints .u8 64 (l610)]) (base:=0) el610 rfl rfl rfl (inB_n c609) rfl (.app .here)<|wj_nil<|bH h fun z612 ez612 h=>wc_ops<|wj_m rfl<|wj_q _ (iz ez612 (q_bin rfl rfl rfl))<|wj_m rfl<|wj_nil ?_)
        rw [qk600] at h
        exact ⟨n601,Nat.lt_succ_self _,z612,l610,h,⟨⟨rfl,rfl,rfl,rfl,rfl,rfl,trivial⟩,(.all .here (.one .here (.one .here (.one .here .nil))))⟩⟩
       ·exact wc_exit _ rfl<|⟨a599,h,⟨⟨rfl,rfl,rfl,rfl,trivial⟩,(.one (.app .here) (.one (.app .here) (.one (.app .here) .nil)))⟩⟩
     ·rintro t m ⟨a574,h,hF⟩
      refine wc_fit hF ?_
      clear hF
      subst qk575
      refine bH h fun z614 ez614 h=>wc_ops<|wj_m rfl<|wj_q _ (iz ez614 (q_bin rfl rfl rfl))<|wj_m rfl<|wj_nil ?_
      rw [qk523] at h
      exact ⟨n524,Nat.lt_succ_self _,z614,a574,h,⟨⟨rfl,rfl,rfl,rfl,trivial⟩,(.one .here (.one .here (.one .here .nil)))⟩⟩
    ·exact wc_exit _ rfl<|⟨a522,h,⟨⟨rfl,rfl,trivial⟩,(.one .here (.one .here (.one .here .nil)))⟩⟩
  ·rintro t m ⟨a350,h,hF⟩
   refine wc_fit hF ?_
   clear hF
   subst qk351
   refine wc_seq<|wc_ops<|wj_q _ (q_ld (p:=[.ints .u8 64 (a350)]) rfl .here rfl)<|wj_e (ef_st (q:=[.ints .u8 64 (a350)]) rfl rfl rfl rfl rfl (.there (.there .here))<|wj_nil<|wc_ret ?_)
   revert h; refine ret_i fun h=>?_
   subst h
   exact ⟨_,(.cons (.agg rfl (.there (.there .here)) rfl) .nil),rfl⟩
def q6_at (p0:List Int) (p1:Int):Option (Int) :=
 br ((decide (p1<(p0.length:Int)))) (
 chk (inB p1 p0.length) <|
 bnd (p0.getD (p1).toNat 0) fun z6 =>
 some z6
 ) (
 some 0
 )
theorem q6_at_spec {W:World} {r:Int} {p0:List Int} {p1:Int} {v0:Value} (h:q6_at p0 p1=some r) (A0:RdSl (El.int .i64) W v0 p0) :
    Calls Tryz.prog 179 [v0,.int .i64 (p1)].toArray W (ret1 W (.int .i64 (r))):=by
 unfold q6_at at h
 refine calls_val mo ok179 rfl ?_
 refine wc_seq<|wc_ops<|wj_m rfl<|wj_nil<|wc_seq<|wc_seq<|wc_ops<|wj_m rfl<|wj_m rfl<|wj_q _ (q_lenP rfl (Shp.rd A0))<|wj_q _ (q_bin rfl rfl rfl)<|wj_nil<|wc_br h rfl (fun h=>?_) (fun h=>?_)
 ·refine wc_seq<|cH h fun c5 h=>bH h fun z6 ez6 h=>wc_ops<|wj_m rfl<|wj_m rfl<|wj_q _ (q_iasP rfl rfl (Shp.rd A0) c5)<|wj_q _ (iz ez6 (q_ldM10 (E:=(El.int .i64)) (s:=[.one (.int .i64 (p0.getD (p1).toNat 0))]) rfl (rd_arg A0 apart0) (inB_n c5) rfl rfl))<|wj_m rfl<|wj_nil<|wc_ret ?_
  revert h; refine ret_i fun h=>?_
  subst h
  exact ⟨_,(.cons (.tmp rfl) .nil),rfl⟩
 ·refine wc_skip<|wc_seq<|wc_ops<|wj_m rfl<|wj_nil<|wc_ret ?_
  revert h; refine ret_i fun h=>?_
  subst h
  exact ⟨_,(.cons (.tmp rfl) .nil),rfl⟩
def q6_Tell_b1 (p0:List Int) (k37:(List Int)→OL) (k57:(Int)→(List Int)→OL) (i55:Int) (a56:List Int):OL :=
 br ((decide (i55<32))) (
 opt (q6_at p0 i55) fun y62 =>
 bnd (IntKind.wrap .u8 y62) fun z63 =>
 chk (inB i55 32) <|
 bnd (setD a56 (i55).toNat z63) fun l65 =>
 bnd (IntKind.wrap .i64 (i55+1)) fun z67 =>
 k57 z67 l65
 ) (
 k37 a56
 )
def q6_Tell_l1 (p0:List Int) (k37:(List Int)→OL):Nat→(Int)→(List Int)→OL
  | 0,_,_=>none
  | n+1,i55,a56=>q6_Tell_b1 p0 k37 (q6_Tell_l1 p0 k37 n) i55 a56
def q6_Tell (p0:List Int):OL :=
 jn (fun (a36:List Int)=>some a36) fun k37=>q6_Tell_l1 p0 k37 big 0 (List.replicate 32 0)
theorem q6_Tell_spec {W:World} {r:(List Int)} {p0:List Int} {v0:Value} (h:q6_Tell p0=some r) (A0:RdSl (El.int .i64) W v0 p0) :
    Calls Tryz.prog 112 [v0].toArray W (ret1 W (agg [.ints .u8 32 (r)])):=by
 unfold q6_Tell at h
 refine calls_val mo ok112 rfl ?_
 refine wc_seq<|wc_ops<|wj_e (ef_al fun b2 hb2=>wj_nil<|wc_seq<|wc_ops<|wj_e (ef_al fun b4 hb4=>wj_nil<|wc_seq<|wc_seq<|wc_ops<|wj_m rfl<|wj_nil<|jH h fun k37 qk37 h=>wc_mono2 (G:=fun t m=>∃ (a36:List Int),k37 a36=some r∧Fit [(2,.pointer (some ⟨b2,0,none⟩)),(3,.pointer (some ⟨b4,0,none⟩))] (ck b4 74 [.ints .u8 32 (a36)]::(ck b2 74 [.ints .u8 32 ((List.replicate 32 0))] :: [])) t m) ?_ ?_))
 ·refine wc_block<|wc_loopJ (fun n58 t m=>∃ (i55:Int) (a56:List Int),q6_Tell_l1 p0 k37 n58 i55 a56=some r∧Fit [(0,v0),(2,.pointer (some ⟨b2,0,none⟩)),(3,.pointer (some ⟨b4,0,none⟩)),(4,.int .i64 (i55))] (ck b4 74 [.ints .u8 32 (a56)]::(ck b2 74 [.ints .u8 32 ((List.replicate 32 0))] :: [])) t m) big ?_ ?_
  ·exact ⟨0,(List.replicate 32 0),h,⟨⟨rfl,rfl,rfl,rfl,trivial⟩,(.one .here (.one .here .nil))⟩⟩
  ·rintro n58 t m ⟨i55,a56,h,hF⟩
   refine wc_fit hF ?_
   clear hF
   rcases n58 with _ | n58
   · exact none_i h
   have h:q6_Tell_b1 p0 k37 (q6_Tell_l1 p0 k37 n58) i55 a56=some r:=h
   unfold q6_Tell_b1 at h
   obtain ⟨k57,qk57⟩ : ∃ k,k=q6_Tell_l1 p0 k37 n58:=⟨_,rfl⟩
   try rw [← qk57] at h
   refine wc_seq<|wc_seq<|wc_ops<|wj_m rfl<|wj_q _ (q_bin rfl rfl rfl)<|wj_nil<|wc_br h rfl (fun h=>?_) (fun h=>?_)
   ·refine wc_skip<|wc_seq<|wc_block<|oH h fun y62 ey62 h=>bH h fun z63 ez63 h=>cH h fun c64 h=>bH h fun l65 el65 h=>wc_ops<|wj_m rfl<|wj_m rfl<|wj_m rfl<|wj_q _ (q_call rfl (fun w hw=>q6_at_spec ey62 ((rd_arg A0 apart0) w hw)))<|wj_q _ (iz ez63 (q_conv rfl))<|wj_q _ (q_ia rfl rfl (inB_z c64))<|wj_e (ef_stiz (q:=[.ints .u8 32 (l65)]) (base:=0) el65 rfl rfl rfl (inB_n c64) rfl .here<|wj_nil<|bH h fun z67 ez67 h=>wc_ops<|wj_m rfl<|wj_q _ (iz ez67 (q_bin rfl rfl rfl))<|wj_m rfl<|wj_nil ?_)
    rw [qk57] at h
    exact ⟨n58,Nat.lt_succ_self _,z67,l65,h,⟨⟨rfl,rfl,rfl,rfl,trivial⟩,(.one .here (.one .here .nil))⟩⟩
   ·exact wc_exit _ rfl<|⟨a56,h,⟨⟨rfl,rfl,trivial⟩,(.one .here (.one .here .nil))⟩⟩
 ·rintro t m ⟨a36,h,hF⟩
  refine wc_fit hF ?_
  clear hF
  subst qk37
  refine wc_seq<|wc_ops<|wj_q _ (q_ld (p:=[.ints .u8 32 (a36)]) rfl .here rfl)<|wj_e (ef_st (q:=[.ints .u8 32 (a36)]) rfl rfl rfl rfl rfl (.there .here)<|wj_nil<|wc_ret ?_)
  revert h; refine ret_i fun h=>?_
  subst h
  exact ⟨_,(.cons (.agg rfl (.there .here) rfl) .nil),rfl⟩
def q6_longer (p0:List Int) (p1:List Int):Option (Int) :=
 br ((decide ((p0.length:Int)<(p1.length:Int)))) (
 some (p1.length:Int)
 ) (
 some (p0.length:Int)
 )
theorem q6_longer_spec {W:World} {r:Int} {p0:List Int} {p1:List Int} {v0:Value} {v1:Value} (h:q6_longer p0 p1=some r) (A0:RdSl (El.int .i64) W v0 p0) (A1:RdSl (El.int .i64) W v1 p1) :
    Calls Tryz.prog 182 [v0,v1].toArray W (ret1 W (.int .i64 (r))):=by
 unfold q6_longer at h
 refine calls_val mo ok182 rfl ?_
 refine wc_seq<|wc_ops<|wj_m rfl<|wj_nil<|wc_seq<|wc_seq<|wc_ops<|wj_m rfl<|wj_q _ (q_lenP rfl (Shp.rd A0))<|wj_m rfl<|wj_q _ (q_lenP rfl (Shp.rd A1))<|wj_q _ (q_bin rfl rfl rfl)<|wj_nil<|wc_br h rfl (fun h=>?_) (fun h=>?_)
 ·refine wc_seq<|wc_ops<|wj_m rfl<|wj_q _ (q_lenP rfl (Shp.rd A1))<|wj_m rfl<|wj_nil<|wc_ret ?_
  revert h; refine ret_i fun h=>?_
  subst h
  exact ⟨_,(.cons (.tmp rfl) .nil),rfl⟩
 ·refine wc_skip<|wc_seq<|wc_ops<|wj_m rfl<|wj_q _ (q_lenP rfl (Shp.rd A0))<|wj_m rfl<|wj_nil<|wc_ret ?_
  revert h; refine ret_i fun h=>?_
  subst h
  exact ⟨_,(.cons (.tmp rfl) .nil),rfl⟩
def q6_Less_b1 (p0:List Int) (p1:List Int) (k42:Unit→Option (Bool)) (k67:(Int)→Option (Bool)) (i66:Int):Option (Bool) :=
 br ((decide (i66≥0))) (
 opt (q6_at p0 i66) fun y72 =>
 opt (q6_at p1 i66) fun y73 =>
 br ((y72 != y73)) (
 opt (q6_at p0 i66) fun y76 =>
 opt (q6_at p1 i66) fun y77 =>
 some (decide (y76<y77))
 ) (
 bnd (IntKind.wrap .i64 (i66-1)) fun z79 =>
 k67 z79
 )
 ) (
 k42 ()
 )
def q6_Less_l1 (p0:List Int) (p1:List Int) (k42:Unit→Option (Bool)):Nat→(Int)→Option (Bool)
  | 0,_=>none
  | n+1,i66=>q6_Less_b1 p0 p1 k42 (q6_Less_l1 p0 p1 k42 n) i66
def q6_Less (p0:List Int) (p1:List Int):Option (Bool) :=
 opt (q6_longer p0 p1) fun y3 =>
 bnd (IntKind.wrap .i64 (y3-1)) fun z4 =>
 jn (fun (_:Unit)=>some false) fun k42=>q6_Less_l1 p0 p1 k42 big z4
theorem q6_Less_spec {W:World} {r:Bool} {p0:List Int} {p1:List Int} {v0:Value} {v1:Value} (h:q6_Less p0 p1=some r) (A0:RdSl (El.int .i64) W v0 p0) (A1:RdSl (El.int .i64) W v1 p1) :
    Calls Tryz.prog 144 [v0,v1].toArray W (ret1 W (.bool (r))):=by
 unfold q6_Less at h
 refine calls_val mo ok144 rfl ?_
 refine wc_seq<|wc_ops<|wj_m rfl<|wj_nil<|wc_seq<|wc_seq<|oH h fun y3 ey3 h=>bH h fun z4 ez4 h=>wc_ops<|wj_m rfl<|wj_m rfl<|wj_q _ (q_call rfl (fun w hw=>q6_longer_spec ey3 ((rd_arg A0 apart0) w hw) ((rd_arg A1 apart0) w hw)))<|wj_q _ (iz ez4 (q_bin rfl rfl rfl))<|wj_m rfl<|wj_nil<|jH h fun k42 qk42 h=>wc_mono2 (G:=fun t m=>k42 ()=some r∧Fit [] [] t m) ?_ ?_
 ·refine wc_block<|wc_loopJ (fun n68 t m=>∃ (i66:Int),q6_Less_l1 p0 p1 k42 n68 i66=some r∧Fit [(0,v0),(1,v1),(5,.int .i64 (i66))] [] t m) big ?_ ?_
  ·exact ⟨z4,h,⟨⟨rfl,rfl,rfl,trivial⟩,.nil⟩⟩
  ·rintro n68 t m ⟨i66,h,hF⟩
   refine wc_fit hF ?_
   clear hF
   rcases n68 with _ | n68
   · exact none_i h
   have h:q6_Less_b1 p0 p1 k42 (q6_Less_l1 p0 p1 k42 n68) i66=some r:=h
   unfold q6_Less_b1 at h
   obtain ⟨k67,qk67⟩ : ∃ k,k=q6_Less_l1 p0 p1 k42 n68:=⟨_,rfl⟩
   try rw [← qk67] at h
   refine wc_seq<|wc_seq<|wc_ops<|wj_m rfl<|wj_q _ (q_bin rfl rfl rfl)<|wj_nil<|wc_br h rfl (fun h=>?_) (fun h=>?_)
   ·refine wc_skip<|wc_seq<|wc_block<|wc_seq<|oH h fun y72 ey72 h=>oH h fun y73 ey73 h=>wc_ops<|wj_m rfl<|wj_m rfl<|wj_q _ (q_call rfl (fun w hw=>q6_at_spec ey72 ((rd_arg A0 apart0) w hw)))<|wj_m rfl<|wj_m rfl<|wj_q _ (q_call rfl (fun w hw=>q6_at_spec ey73 ((rd_arg A1 apart0) w hw)))<|wj_q _ (q_bin rfl rfl rfl)<|wj_nil<|wc_br h rfl (fun h=>?_) (fun h=>?_)
    ·refine wc_seq<|oH h fun y76 ey76 h=>oH h fun y77 ey77 h=>wc_ops<|wj_m rfl<|wj_m rfl<|wj_q _ (q_call rfl (fun w hw=>q6_at_spec ey76 ((rd_arg A0 apart0) w hw)))<|wj_m rfl<|wj_m rfl<|wj_q _ (q_call rfl (fun w hw=>q6_at_spec ey77 ((rd_arg A1 apart0) w hw)))<|wj_q _ (q_bin rfl rfl rfl)<|wj_m rfl<|wj_nil<|wc_ret ?_
     revert h; refine ret_i fun h=>?_
     subst h
     exact ⟨_,(.cons (.tmp rfl) .nil),rfl⟩
    ·refine wc_skip<|bH h fun z79 ez79 h=>wc_ops<|wj_m rfl<|wj_q _ (iz ez79 (q_bin rfl rfl rfl))<|wj_m rfl<|wj_nil ?_
     rw [qk67] at h
     exact ⟨n68,Nat.lt_succ_self _,z79,h,⟨⟨rfl,rfl,rfl,trivial⟩,.nil⟩⟩
   ·exact wc_exit _ rfl<|⟨h,⟨trivial,.nil⟩⟩
 ·rintro t m ⟨h,hF⟩
  refine wc_fit hF ?_
  clear hF
  subst qk42
  refine wc_seq<|wc_ops<|wj_m rfl<|wj_nil<|wc_ret ?_
  revert h; refine ret_i fun h=>?_
  subst h
  exact ⟨_,(.cons (.tmp rfl) .nil),rfl⟩
def q6_order:OL :=
 some ([237,211,245,92,26,99,18,88,214,156,247,162,222,249,222,20,0,0,0,0,0,0,0,0,0,0,0,0,0,0,0,16]:List (Int))
theorem q6_order_spec {W:World} {r:(List Int)} (h:q6_order=some r)  :
    Calls Tryz.prog 145 [].toArray W (retS W [] (fun v Ms=>∃ (u0:Value) (M0:List Chunk),v=u0∧Ms = [.all M0]∧OwnSl (El.int .i64) u0 M0 r)):=by
 unfold q6_order at h
 refine calls_memT mo ok145 rfl (sat0 _) ?_
 refine wc_seq<|wc_ops<|wj_m rfl<|wj_nil<|wc_seq<|wc_ops<|wj_e (ef_bsO (E:=(El.int .i64)) (xs:=[237,211,245,92,26,99,18,88,214,156,247,162,222,249,222,20,0,0,0,0,0,0,0,0,0,0,0,0,0,0,0,16]) (.one rfl rfl rfl (.one rfl rfl rfl (.one rfl rfl rfl (.one rfl rfl rfl (.one rfl rfl rfl (.one rfl rfl rfl (.one rfl rfl rfl (.one rfl rfl rfl (.one rfl rfl rfl (.one rfl rfl rfl (.one rfl rfl rfl (.one rfl rfl rfl (.one rfl rfl rfl (.one rfl rfl rfl (.one rfl rfl rfl (.one rfl rfl rfl (.one rfl rfl rfl (.one rfl rfl rfl (.one rfl rfl rfl (.one rfl rfl rfl (.one rfl rfl rfl (.one rfl rfl rfl (.one rfl rfl rfl (.one rfl rfl rfl (.one rfl rfl rfl (.one rfl rfl rfl (.one rfl rfl rfl (.one rfl rfl rfl (.one rfl rfl rfl (.one rfl rfl rfl (.one rfl rfl rfl (.one rfl rfl rfl BdR.nil)))))))))))))))))))))))))))))))) (.cons (p:=[.one (.int .i64 (237))]) rfl (.cons (p:=[.one (.int .i64 (211))]) rfl (.cons (p:=[.one (.int .i64 (245))]) rfl (.cons (p:=[.one (.int .i64 (92))]) rfl (.cons (p:=[.one (.int .i64 (26))]) rfl (.cons (p:=[.one (.int .i64 (99))]) rfl (.cons (p:=[.one (.int .i64 (18))]) rfl (.cons (p:=[.one (.int .i64 (88))]) rfl (.cons (p:=[.one (.int .i64 (214))]) rfl (.cons (p:=[.one (.int .i64 (156))]) rfl (.cons (p:=[.one (.int .i64 (247))]) rfl (.cons (p:=[.one (.int .i64 (162))]) rfl (.cons (p:=[.one (.int .i64 (222))]) rfl (.cons (p:=[.one (.int .i64 (249))]) rfl (.cons (p:=[.one (.int .i64 (222))]) rfl (.cons (p:=[.one (.int .i64 (20))]) rfl (.cons (p:=[.one (.int .i64 (0))]) rfl (.cons (p:=[.one (.int .i64 (0))]) rfl (.cons (p:=[.one (.int .i64 (0))]) rfl (.cons (p:=[.one (.int .i64 (0))]) rfl (.cons (p:=[.one (.int .i64 (0))]) rfl (.cons (p:=[.one (.int .i64 (0))]) rfl (.cons (p:=[.one (.int .i64 (0))]) rfl (.cons (p:=[.one (.int .i64 (0))]) rfl (.cons (p:=[.one (.int .i64 (0))]) rfl (.cons (p:=[.one (.int .i64 (0))]) rfl (.cons (p:=[.one (.int .i64 (0))]) rfl (.cons (p:=[.one (.int .i64 (0))]) rfl (.cons (p:=[.one (.int .i64 (0))]) rfl (.cons (p:=[.one (.int .i64 (0))]) rfl (.cons (p:=[.one (.int .i64 (0))]) rfl (.cons (p:=[.one (.int .i64 (16))]) rfl .nil)))))))))))))))))))))))))))))))) rfl fun v3 ms4 O5=>wj_m rfl<|wj_nil<|wc_ret ?_)
 revert h; refine ret_i fun h=>?_
 subst h
 exact ⟨_,_,(.cons (.tmp rfl) .nil),(.all .here .nil),⟨_,rfl,⟨v3,ms4,rfl,rfl,O5⟩⟩⟩
def q6_bit_b1 (p1:Int) (k33:(Int)→Option (Int)) (k51:(Int)→(Int)→Option (Int)) (i49:Int) (i50:Int):Option (Int) :=
 bnd (Int.tmod p1 8) fun z54 =>
 br ((decide (i50<z54))) (
 bnd (IntKind.wrap .i64 (Int.tdiv i49 2)) fun z57 =>
 bnd (IntKind.wrap .i64 (i50+1)) fun z59 =>
 k51 z57 z59
 ) (
 k33 i49
 )
def q6_bit_l1 (p1:Int) (k33:(Int)→Option (Int)):Nat→(Int)→(Int)→Option (Int)
  | 0,_,_=>none
  | n+1,i49,i50=>q6_bit_b1 p1 k33 (q6_bit_l1 p1 k33 n) i49 i50
def q6_bit (p0:List Int) (p1:Int):Option (Int) :=
 bnd (IntKind.wrap .i64 (Int.tdiv p1 8)) fun z3 =>
 opt (q6_at p0 z3) fun y4 =>
 jn (fun (i32:Int)=>bnd (Int.tmod i32 2) fun z61 =>
 some z61) fun k33=>q6_bit_l1 p1 k33 big y4 0
theorem q6_bit_spec {W:World} {r:Int} {p0:List Int} {p1:Int} {v0:Value} (h:q6_bit p0 p1=some r) (A0:RdSl (El.int .i64) W v0 p0) :
    Calls Tryz.prog 180 [v0,.int .i64 (p1)].toArray W (ret1 W (.int .i64 (r))):=by
 unfold q6_bit at h
 refine calls_val mo ok180 rfl ?_
 refine wc_seq<|wc_ops<|wj_m rfl<|wj_nil<|wc_seq<|bH h fun z3 ez3 h=>oH h fun y4 ey4 h=>wc_ops<|wj_m rfl<|wj_m rfl<|wj_q _ (iz ez3 (q_quo rfl rfl (by decide)))<|wj_q _ (q_call rfl (fun w hw=>q6_at_spec ey4 ((rd_arg A0 apart0) w hw)))<|wj_m rfl<|wj_nil<|wc_seq<|wc_seq<|wc_ops<|wj_m rfl<|wj_nil<|jH h fun k33 qk33 h=>wc_mono2 (G:=fun t m=>∃ (i32:Int),k33 i32=some r∧Fit [(5,.int .i64 (i32))] [] t m) ?_ ?_
 ·refine wc_block<|wc_loopJ (fun n52 t m=>∃ (i49:Int) (i50:Int),q6_bit_l1 p1 k33 n52 i49 i50=some r∧Fit [(1,.int .i64 (p1)),(5,.int .i64 (i49)),(6,.int .i64 (i50))] [] t m) big ?_ ?_
  ·exact ⟨y4,0,h,⟨⟨rfl,rfl,rfl,trivial⟩,.nil⟩⟩
  ·rintro n52 t m ⟨i49,i50,h,hF⟩
   refine wc_fit hF ?_
   clear hF
   rcases n52 with _ | n52
   · exact none_i h
   have h:q6_bit_b1 p1 k33 (q6_bit_l1 p1 k33 n52) i49 i50=some r:=h
   unfold q6_bit_b1 at h
   obtain ⟨k51,qk51⟩ : ∃ k,k=q6_bit_l1 p1 k33 n52:=⟨_,rfl⟩
   try rw [← qk51] at h
   refine wc_seq<|wc_seq<|bH h fun z54 ez54 h=>wc_ops<|wj_m rfl<|wj_m rfl<|wj_q _ (iz ez54 (q_rem rfl rfl (by decide)))<|wj_q _ (q_bin rfl rfl rfl)<|wj_nil<|wc_br h rfl (fun h=>?_) (fun h=>?_)
   ·refine wc_skip<|wc_seq<|wc_block<|bH h fun z57 ez57 h=>wc_ops<|wj_m rfl<|wj_q _ (iz ez57 (q_quo rfl rfl (by decide)))<|wj_m rfl<|wj_nil<|bH h fun z59 ez59 h=>wc_ops<|wj_m rfl<|wj_q _ (iz ez59 (q_bin rfl rfl rfl))<|wj_m rfl<|wj_nil ?_
    rw [qk51] at h
    exact ⟨n52,Nat.lt_succ_self _,z57,z59,h,⟨⟨rfl,rfl,rfl,trivial⟩,.nil⟩⟩
   ·exact wc_exit _ rfl<|⟨i49,h,⟨⟨rfl,trivial⟩,.nil⟩⟩
 ·rintro t m ⟨i32,h,hF⟩
  refine wc_fit hF ?_
  clear hF
  subst qk33
  refine wc_seq<|bH h fun z61 ez61 h=>wc_ops<|wj_m rfl<|wj_q _ (iz ez61 (q_rem rfl rfl (by decide)))<|wj_m rfl<|wj_nil<|wc_ret ?_
  revert h; refine ret_i fun h=>?_
  subst h
  exact ⟨_,(.cons (.tmp rfl) .nil),rfl⟩
def q6_minus_b1 (p0:List Int) (p1:List Int) (k118:(List (Int))→OL) (k194:(List (Int))→(Int)→(Int)→OL) (l190:List (Int)) (i192:Int) (i193:Int):OL :=
 br ((decide (i193<(p0.length:Int)))) (
 chk (inB i193 p0.length) <|
 bnd (p0.getD (i193).toNat 0) fun z200 =>
 opt (q6_at p1 i193) fun y201 =>
 bnd (IntKind.wrap .i64 (z200-y201)) fun z202 =>
 bnd (IntKind.wrap .i64 (z202-i192)) fun z203 =>
 jn (fun (i210:Int) (i211:Int)=>chk (decide ((l190.length+([i211]:List (Int)).length)*8≤140737488355328)) <|
 bnd (l190++([i211]:List (Int))) fun l222 =>
 bnd (IntKind.wrap .i64 (i193+1)) fun z227 =>
 k194 l222 i210 z227) fun k212=>br ((decide (z203<0))) (
 bnd (IntKind.wrap .i64 (z203+256)) fun z215 =>
 k212 1 z215
 ) (
 k212 0 z203
 )
 ) (
 k118 l190
 )
def q6_minus_l1 (p0:List Int) (p1:List Int) (k118:(List (Int))→OL):Nat→(List (Int))→(Int)→(Int)→OL
  | 0,_,_,_=>none
  | n+1,l190,i192,i193=>q6_minus_b1 p0 p1 k118 (q6_minus_l1 p0 p1 k118 n) l190 i192 i193
def q6_minus (p0:List Int) (p1:List Int):OL :=
 jn (fun (l116:List (Int))=>some l116) fun k118=>q6_minus_l1 p0 p1 k118 big [] 0 0
theorem q6_minus_spec {W:World} {r:(List Int)} {p0:List Int} {p1:List Int} {v0:Value} {v1:Value} (h:q6_minus p0 p1=some r) (A0:RdSl (El.int .i64) W v0 p0) (A1:RdSl (El.int .i64) W v1 p1) :
    Calls Tryz.prog 181 [v0,v1].toArray W (retS W [] (fun v Ms=>∃ (u0:Value) (M0:List Chunk),v=u0∧Ms = [.all M0]∧OwnSl (El.int .i64) u0 M0 r)):=by
 unfold q6_minus at h
 refine calls_memT mo ok181 rfl (sat0 _) ?_
 refine wc_seq<|wc_ops<|wj_m rfl<|wj_nil<|wc_seq<|wc_ops<|wj_m rfl<|wj_nil<|wc_seq<|wc_ops<|wj_m rfl<|wj_nil<|wc_seq<|wc_seq<|wc_ops<|wj_m rfl<|wj_nil<|jH h fun k118 qk118 h=>wc_mono2 (G:=fun t m=>∃ (l116:List (Int)) (v114:Value) (ms115:List Chunk),k118 l116=some r∧OwnSl (El.int .i64) v114 ms115 l116∧Fit [(5,v114)] (ms115 ++ []) t m) ?_ ?_
 ·refine wc_block<|wc_loopJ (fun n195 t m=>∃ (l190:List (Int)) (i192:Int) (i193:Int) (v188:Value) (ms189:List Chunk),q6_minus_l1 p0 p1 k118 n195 l190 i192 i193=some r∧OwnSl (El.int .i64) v188 ms189 l190∧Fit [(0,v0),(1,v1),(5,v188),(6,.int .i64 (i192)),(7,.int .i64 (i193))] (ms189 ++ []) t m) big ?_ ?_
  ·exact ⟨[],0,0,(.slice none 0 0),[],h,own_nil,⟨⟨rfl,rfl,rfl,rfl,rfl,trivial⟩,(.no .nil)⟩⟩
  ·rintro n195 t m ⟨l190,i192,i193,v188,ms189,h,O191,hF⟩
   refine wc_fit hF ?_
   clear hF
   rcases n195 with _ | n195
   · exact none_i h
   have h:q6_minus_b1 p0 p1 k118 (q6_minus_l1 p0 p1 k118 n195) l190 i192 i193=some r:=h
   unfold q6_minus_b1 at h
   obtain ⟨k194,qk194⟩ : ∃ k,k=q6_minus_l1 p0 p1 k118 n195:=⟨_,rfl⟩
   try rw [← qk194] at h
   refine wc_seq<|wc_seq<|wc_ops<|wj_m rfl<|wj_m rfl<|wj_q _ (q_lenP rfl (Shp.rd A0))<|wj_q _ (q_bin rfl rfl rfl)<|wj_nil<|wc_br h rfl (fun h=>?_) (fun h=>?_)
   ·refine wc_skip<|wc_seq<|wc_block<|wc_seq<|cH h fun c199 h=>bH h fun z200 ez200 h=>oH h fun y201 ey201 h=>bH h fun z202 ez202 h=>bH h fun z203 ez203 h=>wc_draw<|ws_p1 _ (q_mv rfl)<|ws_p1 _ (q_mv rfl)<|ws_p1 _ (q_iasP rfl rfl (Shp.rd A0) c199)<|ws_p1 _ (q_mv rfl)<|ws_p1 _ (q_mv rfl)<|ws_p1 _ (q_mv rfl)<|ws_q1 _ (iz ez200 (q_ldM10 (E:=(El.int .i64)) (s:=[.one (.int .i64 (p0.getD (i193).toNat 0))]) rfl (rd_arg A0 apart0) (inB_n c199) rfl rfl))<|ws_q1 _ (q_call rfl (fun w hw=>q6_at_spec ey201 ((rd_arg A1 apart0) w hw)))<|ws_p1 _ (iz ez202 (q_bin rfl rfl rfl))<|ws_p1 _ (iz ez203 (q_bin rfl rfl rfl))<|ws_p1 _ (q_mv rfl)<|ws_nil<|wc_seq<|wc_ops<|wj_m rfl<|wj_nil<|wc_seq<|wc_seq<|wc_ops<|wj_m rfl<|wj_q _ (q_bin rfl rfl rfl)<|wj_nil<|jH h fun k212 qk212 h=>wc_mono2 (G:=fun t m=>∃ (i210:Int) (i211:Int),k212 i210 i211=some r∧Fit [(0,v0),(1,v1),(5,v188),(6,.int .i64 (i210)),(7,.int .i64 (i193)),(8,.int .i64 (i211))] (ms189 ++ []) t m) ?_ ?_
    ·refine wc_br h rfl (fun h=>?_) (fun h=>?_)
     ·exact wc_seq<|bH h fun z215 ez215 h=>wc_ops<|wj_m rfl<|wj_q _ (iz ez215 (q_bin rfl rfl rfl))<|wj_m rfl<|wj_nil<|wc_ops<|wj_m rfl<|wj_nil<|⟨1,z215,h,⟨⟨rfl,rfl,rfl,rfl,rfl,rfl,trivial⟩,(.all .here .nil)⟩⟩
     ·exact wc_skip<|⟨0,z203,h,⟨⟨rfl,rfl,rfl,rfl,rfl,rfl,trivial⟩,(.all .here .nil)⟩⟩
    ·rintro t m ⟨i210,i211,h,hF⟩
     refine wc_fit hF ?_
     clear hF
     subst qk212
     refine cH h fun c221 h=>bH h fun l222 el222 h=>wc_ops<|wj_m rfl<|wj_m rfl<|wj_e (ef_bsO (E:=(El.int .i64)) (xs:=[i211]) (.one rfl rfl rfl BdR.nil) (.cons (p:=[.one (.int .i64 (i211))]) rfl .nil) rfl fun v218 ms219 O220=>wj_e (ef_appO (E:=(El.int .i64)) el222 rfl O191 (.app .here) rfl (rd_own O220 .here) c221 fun v223 ms224 O225=>wj_m rfl<|wj_nil<|bH h fun z227 ez227 h=>wc_ops<|wj_m rfl<|wj_q _ (iz ez227 (q_bin rfl rfl rfl))<|wj_m rfl<|wj_nil ?_))
     rw [qk194] at h
     exact ⟨n195,Nat.lt_succ_self _,l222,i210,z227,v223,ms224,h,O225,⟨⟨rfl,rfl,rfl,rfl,rfl,trivial⟩,(.all .here .nil)⟩⟩
   ·exact wc_exit _ rfl<|⟨l190,v188,ms189,h,O191,⟨⟨rfl,trivial⟩,(.all .here .nil)⟩⟩
 ·rintro t m ⟨l116,v114,ms115,h,O117,hF⟩
  refine wc_fit hF ?_
  clear hF
  subst qk118
  refine wc_seq<|wc_ops<|wj_m rfl<|wj_m rfl<|wj_nil<|wc_ret ?_
  revert h; refine ret_i fun h=>?_
  subst h
  exact ⟨_,_,(.cons (.tmp rfl) .nil),(.all .here .nil),⟨_,rfl,⟨v114,ms115,rfl,rfl,O117⟩⟩⟩
def q6_Mod_b2 (k1752:(List (Int))→OL) (k1797:(List (Int))→(Int)→(Int)→OL) (l1793:List (Int)) (i1795:Int) (i1796:Int):OL :=
 br ((decide (i1796<33))) (
 chk (inB i1796 l1793.length) <|
 bnd (l1793.getD (i1796).toNat 0) fun z1803 =>
 bnd (IntKind.wrap .i64 (2*z1803)) fun z1804 =>
 bnd (IntKind.wrap .i64 (z1804+i1795)) fun z1805 =>
 bnd (Int.tmod z1805 256) fun z1807 =>
 chk (inB i1796 l1793.length) <|
 bnd (setG 0 l1793 (i1796).toNat z1807) fun l1809 =>
 bnd (IntKind.wrap .i64 (Int.tdiv z1805 256)) fun z1813 =>
 bnd (IntKind.wrap .i64 (i1796+1)) fun z1815 =>
 k1797 l1809 z1813 z1815
 ) (
 k1752 l1793
 )
def q6_Mod_l2 (k1752:(List (Int))→OL):Nat→(List (Int))→(Int)→(Int)→OL
  | 0,_,_,_=>none
  | n+1,l1793,i1795,i1796=>q6_Mod_b2 k1752 (q6_Mod_l2 k1752 n) l1793 i1795 i1796
def q6_Mod_b1 (p0:List Int) (y3:(List Int)) (k924:(List (Int))→OL) (k1529:(List (Int))→(Int)→OL) (l1526:List (Int)) (i1528:Int):OL :=
 br ((decide (i1528≥0))) (
 jn (fun (l1679:List (Int))=>bnd (IntKind.wrap .i64 (i1528-1)) fun z1827 =>
 k1529 l1679 z1827) fun k1681=>opt (q6_bit p0 i1528) fun y1683 =>
 jn (fun (l1750:List (Int))=>opt (q6_Less l1750 y3) fun y1817 =>
 br ((!y1817)) (
 opt (q6_minus l1750 y3) fun y1820 =>
 k1681 y1820
 ) (
 k1681 l1750
 )) fun k1752=>q6_Mod_l2 k1752 big l1526 y1683 0
 ) (
 k924 l1526
 )
def q6_Mod_l1 (p0:List Int) (y3:(List Int)) (k924:(List (Int))→OL):Nat→(List (Int))→(Int)→OL
  | 0,_,_=>none
  | n+1,l1526,i1528=>q6_Mod_b1 p0 y3 k924 (q6_Mod_l1 p0 y3 k924 n) l1526 i1528
def q6_Mod (p0:List Int):OL :=
 opt (q6_order ) fun y3 =>
 chk (mkB 8 33 33) <|
 bnd (IntKind.wrap .i64 (8*(p0.length:Int))) fun z15 =>
 bnd (IntKind.wrap .i64 (z15-1)) fun z16 =>
 jn (fun (l922:List (Int))=>some l922) fun k924=>q6_Mod_l1 p0 y3 k924 big (List.replicate 33 0:List (Int)) z16
theorem q6_Mod_spec {W:World} {r:(List Int)} {p0:List Int} {v0:Value} (h:q6_Mod p0=some r) (A0:RdSl (El.int .i64) W v0 p0) :
    Calls Tryz.prog 113 [v0].toArray W (retS W [] (fun v Ms=>∃ (u0:Value) (M0:List Chunk),v=u0∧Ms = [.all M0]∧OwnSl (El.int .i64) u0 M0 r)):=by
 unfold q6_Mod at h
 refine calls_memT mo ok113 rfl (sat0 _) ?_
 refine wc_seq<|wc_ops<|wj_m rfl<|wj_nil<|wc_seq<|oH h fun y3 ey3 h=>wc_ops<|wj_e (ef_callS0 rfl (fun w hw=>q6_order_spec  ey3 ) fun v4 Msv4 R5=>?_)
 obtain ⟨_,ms7,rfl,rfl,O8⟩:=R5
 refine wj_m rfl<|wj_nil<|wc_seq<|cH h fun c10 h=>wc_ops<|wj_e (ef_mksO (E:=(El.int .i64)) rfl rfl rfl c10 fun v11 ms12 O13=>wj_m rfl<|wj_nil<|wc_seq<|wc_seq<|bH h fun z15 ez15 h=>bH h fun z16 ez16 h=>wc_ops<|wj_m rfl<|wj_q _ (q_lenP rfl (Shp.rd A0))<|wj_q _ (iz ez15 (q_bin rfl rfl rfl))<|wj_q _ (iz ez16 (q_bin rfl rfl rfl))<|wj_m rfl<|wj_nil<|jH h fun k924 qk924 h=>wc_mono2 (G:=fun t m=>∃ (l922:List (Int)) (v920:Value) (ms921:List Chunk),k924 l922=some r∧OwnSl (El.int .i64) v920 ms921 l922∧Fit [(4,v920)] (ms921 ++ []) t m) ?_ ?_)
 ·refine wc_block<|wc_loopJ (fun n1530 t m=>∃ (l1526:List (Int)) (i1528:Int) (v1524:Value) (ms1525:List Chunk),q6_Mod_l1 p0 y3 k924 n1530 l1526 i1528=some r∧OwnSl (El.int .i64) v1524 ms1525 l1526∧Fit [(0,v0),(3,v4),(4,v1524),(5,.int .i64 (i1528))] (ms7++(ms1525 ++ [])) t m) big ?_ ?_
  ·exact ⟨(List.replicate 33 0:List (Int)),z16,v11,ms12,h,O13,⟨⟨rfl,rfl,rfl,rfl,trivial⟩,(.all (.app .here) (.all .here .nil))⟩⟩
  ·rintro n1530 t m ⟨l1526,i1528,v1524,ms1525,h,O1527,hF⟩
   refine wc_fit hF ?_
   clear hF
   rcases n1530 with _ | n1530
   · exact none_i h
   have h:q6_Mod_b1 p0 y3 k924 (q6_Mod_l1 p0 y3 k924 n1530) l1526 i1528=some r:=h
   unfold q6_Mod_b1 at h
   obtain ⟨k1529,qk1529⟩ : ∃ k,k=q6_Mod_l1 p0 y3 k924 n1530:=⟨_,rfl⟩
   try rw [← qk1529] at h
   refine wc_seq<|wc_seq<|wc_ops<|wj_m rfl<|wj_q _ (q_bin rfl rfl rfl)<|wj_nil<|wc_br h rfl (fun h=>?_) (fun h=>?_)
   ·refine wc_skip<|wc_seq<|jH h fun k1681 qk1681 h=>wc_mono2 (G:=fun t m=>∃ (l1679:List (Int)) (v1677:Value) (ms1678:List Chunk),k1681 l1679=some r∧OwnSl (El.int .i64) v1677 ms1678 l1679∧Fit [(0,v0),(3,v4),(4,v1677),(5,.int .i64 (i1528))] (ms7++(ms1678 ++ [])) t m) ?_ ?_
    ·refine wc_block<|wc_seq<|oH h fun y1683 ey1683 h=>wc_ops<|wj_m rfl<|wj_m rfl<|wj_q _ (q_call rfl (fun w hw=>q6_bit_spec ey1683 ((rd_arg A0 apart0) w hw)))<|wj_m rfl<|wj_nil<|wc_seq<|wc_seq<|wc_ops<|wj_m rfl<|wj_nil<|jH h fun k1752 qk1752 h=>wc_mono2 (G:=fun t m=>∃ (l1750:List (Int)) (v1748:Value) (ms1749:List Chunk),k1752 l1750=some r∧OwnSl (El.int .i64) v1748 ms1749 l1750∧Fit [(0,v0),(3,v4),(4,v1748),(5,.int .i64 (i1528))] (ms7++(ms1749 ++ [])) t m) ?_ ?_
     ·refine wc_block<|wc_loopJ (fun n1798 t m=>∃ (l1793:List (Int)) (i1795:Int) (i1796:Int) (v1791:Value) (ms1792:List Chunk),q6_Mod_l2 k1752 n1798 l1793 i1795 i1796=some r∧OwnSl (El.int .i64) v1791 ms1792 l1793∧Fit [(0,v0),(3,v4),(4,v1791),(5,.int .i64 (i1528)),(6,.int .i64 (i1795)),(7,.int .i64 (i1796))] (ms7++(ms1792 ++ [])) t m) big ?_ ?_
      ·exact ⟨l1526,y1683,0,v1524,ms1525,h,O1527,⟨⟨rfl,rfl,rfl,rfl,rfl,rfl,trivial⟩,(.all .here (.all .here .nil))⟩⟩
      ·rintro n1798 t m ⟨l1793,i1795,i1796,v1791,ms1792,h,O1794,hF⟩
       refine wc_fit hF ?_
       clear hF
       rcases n1798 with _ | n1798
       · exact none_i h
       have h:q6_Mod_b2 k1752 (q6_Mod_l2 k1752 n1798) l1793 i1795 i1796=some r:=h
       unfold q6_Mod_b2 at h
       obtain ⟨k1797,qk1797⟩ : ∃ k,k=q6_Mod_l2 k1752 n1798:=⟨_,rfl⟩
       try rw [← qk1797] at h
       refine wc_seq<|wc_seq<|wc_ops<|wj_m rfl<|wj_q _ (q_bin rfl rfl rfl)<|wj_nil<|wc_br h rfl (fun h=>?_) (fun h=>?_)
       ·refine wc_skip<|wc_seq<|wc_block<|wc_seq<|cH h fun c1802 h=>bH h fun z1803 ez1803 h=>bH h fun z1804 ez1804 h=>bH h fun z1805 ez1805 h=>wc_ops<|wj_m rfl<|wj_m rfl<|wj_q _ (q_iasP rfl rfl (Shp.own O1794) c1802)<|wj_q _ (iz ez1803 (q_ldM10 (E:=(El.int .i64)) (s:=[.one (.int .i64 (l1793.getD (i1796).toNat 0))]) rfl (rd_own O1794 (.app .here)) (inB_n c1802) rfl rfl))<|wj_q _ (iz ez1804 (q_bin rfl rfl rfl))<|wj_m rfl<|wj_q _ (iz ez1805 (q_bin rfl rfl rfl))<|wj_m rfl<|wj_nil<|wc_seq<|bH h fun z1807 ez1807 h=>cH h fun c1808 h=>bH h fun l1809 el1809 h=>wc_ops<|wj_m rfl<|wj_m rfl<|wj_m rfl<|wj_q _ (iz ez1807 (q_rem rfl rfl (by decide)))<|wj_q _ (q_iasP rfl rfl (Shp.own O1794) c1808)<|wj_e (ef_stO (E:=(El.int .i64)) el1809 O1794 (.app .here) rfl rfl rfl (inB_n c1808) fun ms1810 O1811=>wj_nil<|bH h fun z1813 ez1813 h=>wc_ops<|wj_m rfl<|wj_q _ (iz ez1813 (q_quo rfl rfl (by decide)))<|wj_m rfl<|wj_nil<|bH h fun z1815 ez1815 h=>wc_ops<|wj_m rfl<|wj_q _ (iz ez1815 (q_bin rfl rfl rfl))<|wj_m rfl<|wj_nil ?_)
        rw [qk1797] at h
        exact ⟨n1798,Nat.lt_succ_self _,l1809,z1813,z1815,v1791,ms1810,h,O1811,⟨⟨rfl,rfl,rfl,rfl,rfl,rfl,trivial⟩,(.all (.app .here) (.all .here .nil))⟩⟩
       ·exact wc_exit _ rfl<|⟨l1793,v1791,ms1792,h,O1794,⟨⟨rfl,rfl,rfl,rfl,trivial⟩,(.all .here (.all .here .nil))⟩⟩
     ·rintro t m ⟨l1750,v1748,ms1749,h,O1751,hF⟩
      refine wc_fit hF ?_
      clear hF
      subst qk1752
      refine wc_seq<|oH h fun y1817 ey1817 h=>wc_ops<|wj_m rfl<|wj_m rfl<|wj_q _ (q_call rfl (fun w hw=>q6_Less_spec ey1817 ((rd_own O1751 (.app .here)) w hw) ((rd_own O8 .here) w hw)))<|wj_q _ (q_un rfl rfl)<|wj_nil<|wc_br h rfl (fun h=>?_) (fun h=>?_)
      ·refine oH h fun y1820 ey1820 h=>wc_ops<|wj_m rfl<|wj_m rfl<|wj_e (ef_callS0 rfl (fun w hw=>q6_minus_spec  ey1820 ((rd_own O1751 (.app .here)) w hw) ((rd_own O8 .here) w hw)) fun v1821 Msv1821 R1822=>?_)
       obtain ⟨_,ms1824,rfl,rfl,O1825⟩:=R1822
       exact wj_m rfl<|wj_nil<|⟨y1820,v1821,ms1824,h,O1825,⟨⟨rfl,rfl,rfl,rfl,trivial⟩,(.all (.app .here) (.all .here .nil))⟩⟩
      ·exact wc_skip<|⟨l1750,v1748,ms1749,h,O1751,⟨⟨rfl,rfl,rfl,rfl,trivial⟩,(.all .here (.all .here .nil))⟩⟩
    ·rintro t m ⟨l1679,v1677,ms1678,h,O1680,hF⟩
     refine wc_fit hF ?_
     clear hF
     subst qk1681
     refine bH h fun z1827 ez1827 h=>wc_ops<|wj_m rfl<|wj_q _ (iz ez1827 (q_bin rfl rfl rfl))<|wj_m rfl<|wj_nil ?_
     rw [qk1529] at h
     exact ⟨n1530,Nat.lt_succ_self _,l1679,z1827,v1677,ms1678,h,O1680,⟨⟨rfl,rfl,rfl,rfl,trivial⟩,(.all .here (.all .here .nil))⟩⟩
   ·exact wc_exit _ rfl<|⟨l1526,v1524,ms1525,h,O1527,⟨⟨rfl,trivial⟩,(.all (.app .here) .nil)⟩⟩
 ·rintro t m ⟨l922,v920,ms921,h,O923,hF⟩
  refine wc_fit hF ?_
  clear hF
  subst qk924
  refine wc_seq<|wc_ops<|wj_m rfl<|wj_m rfl<|wj_nil<|wc_ret ?_
  revert h; refine ret_i fun h=>?_
  subst h
  exact ⟨_,_,(.cons (.tmp rfl) .nil),(.all .here .nil),⟨_,rfl,⟨v920,ms921,rfl,rfl,O923⟩⟩⟩
def q6_Of_b1 (p0:List Int) (k67:(List (Int))→OL) (k109:(List (Int))→(Int)→OL) (l106:List (Int)) (i108:Int):OL :=
 br ((decide (i108<(p0.length:Int)))) (
 chk (inB i108 p0.length) <|
 bnd (p0.getD (i108).toNat 0) fun z115 =>
 bnd (IntKind.wrap .i64 z115) fun z116 =>
 chk (decide ((l106.length+([z116]:List (Int)).length)*8≤140737488355328)) <|
 bnd (l106++([z116]:List (Int))) fun l121 =>
 bnd (IntKind.wrap .i64 (i108+1)) fun z126 =>
 k109 l121 z126
 ) (
 k67 l106
 )
def q6_Of_l1 (p0:List Int) (k67:(List (Int))→OL):Nat→(List (Int))→(Int)→OL
  | 0,_,_=>none
  | n+1,l106,i108=>q6_Of_b1 p0 k67 (q6_Of_l1 p0 k67 n) l106 i108
def q6_Of (p0:List Int):OL :=
 jn (fun (l65:List (Int))=>some l65) fun k67=>q6_Of_l1 p0 k67 big [] 0
theorem q6_Of_spec {W:World} {r:(List Int)} {p0:List Int} {v0:Value} (h:q6_Of p0=some r) (A0:RdSl (El.int .u8) W v0 p0) :
    Calls Tryz.prog 114 [v0].toArray W (retS W [] (fun v Ms=>∃ (u0:Value) (M0:List Chunk),v=u0∧Ms = [.all M0]∧OwnSl (El.int .i64) u0 M0 r)):=by
 unfold q6_Of at h
 refine calls_memT mo ok114 rfl (sat0 _) ?_
 refine wc_seq<|wc_ops<|wj_m rfl<|wj_nil<|wc_seq<|wc_ops<|wj_m rfl<|wj_nil<|wc_seq<|wc_seq<|wc_ops<|wj_m rfl<|wj_nil<|jH h fun k67 qk67 h=>wc_mono2 (G:=fun t m=>∃ (l65:List (Int)) (v63:Value) (ms64:List Chunk),k67 l65=some r∧OwnSl (El.int .i64) v63 ms64 l65∧Fit [(3,v63)] (ms64 ++ []) t m) ?_ ?_
 ·refine wc_block<|wc_loopJ (fun n110 t m=>∃ (l106:List (Int)) (i108:Int) (v104:Value) (ms105:List Chunk),q6_Of_l1 p0 k67 n110 l106 i108=some r∧OwnSl (El.int .i64) v104 ms105 l106∧Fit [(0,v0),(3,v104),(4,.int .i64 (i108))] (ms105 ++ []) t m) big ?_ ?_
  ·exact ⟨[],0,(.slice none 0 0),[],h,own_nil,⟨⟨rfl,rfl,rfl,trivial⟩,(.no .nil)⟩⟩
  ·rintro n110 t m ⟨l106,i108,v104,ms105,h,O107,hF⟩
   refine wc_fit hF ?_
   clear hF
   rcases n110 with _ | n110
   · exact none_i h
   have h:q6_Of_b1 p0 k67 (q6_Of_l1 p0 k67 n110) l106 i108=some r:=h
   unfold q6_Of_b1 at h
   obtain ⟨k109,qk109⟩ : ∃ k,k=q6_Of_l1 p0 k67 n110:=⟨_,rfl⟩
   try rw [← qk109] at h
   refine wc_seq<|wc_seq<|wc_ops<|wj_m rfl<|wj_m rfl<|wj_q _ (q_lenP rfl (Shp.rd A0))<|wj_q _ (q_bin rfl rfl rfl)<|wj_nil<|wc_br h rfl (fun h=>?_) (fun h=>?_)
   ·refine wc_skip<|wc_seq<|wc_block<|cH h fun c114 h=>bH h fun z115 ez115 h=>bH h fun z116 ez116 h=>cH h fun c120 h=>bH h fun l121 el121 h=>wc_ops<|wj_m rfl<|wj_m rfl<|wj_m rfl<|wj_q _ (q_iasP rfl rfl (Shp.rd A0) c114)<|wj_q _ (iz ez115 (q_ldM10 (E:=(El.int .u8)) (s:=[.one (.int .u8 (p0.getD (i108).toNat 0))]) rfl (rd_arg A0 apart0) (inB_n c114) rfl rfl))<|wj_q _ (iz ez116 (q_conv rfl))<|wj_e (ef_bsO (E:=(El.int .i64)) (xs:=[z116]) (.one rfl rfl rfl BdR.nil) (.cons (p:=[.one (.int .i64 (z116))]) rfl .nil) rfl fun v117 ms118 O119=>wj_e (ef_appO (E:=(El.int .i64)) el121 rfl O107 (.app .here) rfl (rd_own O119 .here) c120 fun v122 ms123 O124=>wj_m rfl<|wj_nil<|bH h fun z126 ez126 h=>wc_ops<|wj_m rfl<|wj_q _ (iz ez126 (q_bin rfl rfl rfl))<|wj_m rfl<|wj_nil ?_))
    rw [qk109] at h
    exact ⟨n110,Nat.lt_succ_self _,l121,z126,v122,ms123,h,O124,⟨⟨rfl,rfl,rfl,trivial⟩,(.all .here .nil)⟩⟩
   ·exact wc_exit _ rfl<|⟨l106,v104,ms105,h,O107,⟨⟨rfl,trivial⟩,(.all .here .nil)⟩⟩
 ·rintro t m ⟨l65,v63,ms64,h,O66,hF⟩
  refine wc_fit hF ?_
  clear hF
  subst qk67
  refine wc_seq<|wc_ops<|wj_m rfl<|wj_m rfl<|wj_nil<|wc_ret ?_
  revert h; refine ret_i fun h=>?_
  subst h
  exact ⟨_,_,(.cons (.tmp rfl) .nil),(.all .here .nil),⟨_,rfl,⟨v63,ms64,rfl,rfl,O66⟩⟩⟩
def q6_Reduce (p0:List Int):OL :=
 opt (q6_Of (tk p0 0 64)) fun y5 =>
 opt (q6_Mod y5) fun y11 =>
 opt (q6_Tell y11) fun y17 =>
 some y17
theorem q6_Reduce_spec {W:World} {r:(List Int)} {p0:List Int} (h:q6_Reduce p0=some r)  :
    Calls Tryz.prog 59 [agg [.ints .u8 64 (p0)]].toArray W (ret1 W (agg [.ints .u8 32 (r)])):=by
 unfold q6_Reduce at h
 refine calls_val mo ok59 rfl ?_
 refine wc_seq<|wc_ops<|wj_e (ef_bx (s:=[.ints .u8 64 (p0)]) rfl fun b2 hb2=>wj_e (ef_al fun b3 hb3=>wj_nil<|wc_seq<|oH h fun y5 ey5 h=>oH h fun y11 ey11 h=>oH h fun y17 ey17 h=>wc_ops<|wj_q _ (q_sla rfl .no .no .no (by simp) (by decide))<|wj_e (ef_callS0 rfl (fun w hw=>q6_Of_spec  ey5 ((rd_blk_i (s:=[.ints .u8 64 (p0)]) (N:=64) (k:=.u8) (base:=0) (lo:=0) (hi:=64) (mz:=64) (.there .here) rfl (by decide)) w hw)) fun v6 Msv6 R7=>?_)))
 obtain ⟨_,ms9,rfl,rfl,O10⟩:=R7
 refine wj_e (ef_callS0 rfl (fun w hw=>q6_Mod_spec  ey11 ((rd_own O10 .here) w hw)) fun v12 Msv12 R13=>?_)
 obtain ⟨_,ms15,rfl,rfl,O16⟩:=R13
 refine wj_q _ (q_call rfl (fun w hw=>q6_Tell_spec ey17 ((rd_own O16 .here) w hw)))<|wj_e (ef_st (q:=[.ints .u8 32 (y17)]) rfl rfl rfl rfl rfl (.app (.app .here))<|wj_nil<|wc_ret ?_)
 revert h; refine ret_i fun h=>?_
 subst h
 exact ⟨_,(.cons (.agg rfl (.app (.app .here)) rfl) .nil),rfl⟩
def q8_joined (p0:List Int) (p1:List Int) (p2:List Int):OL :=
 chk (decide ((([]:List (Int)).length+p0.length)*1≤140737488355328)) <|
 bnd (([]:List (Int))++p0) fun l5 =>
 chk (decide ((l5.length+p1.length)*1≤140737488355328)) <|
 bnd (l5++p1) fun l11 =>
 chk (decide ((l11.length+p2.length)*1≤140737488355328)) <|
 bnd (l11++p2) fun l17 =>
 some l17
theorem q8_joined_spec {W:World} {r:(List Int)} {p0:List Int} {p1:List Int} {p2:List Int} {v0:Value} {v1:Value} {v2:Value} (h:q8_joined p0 p1 p2=some r) (A0:RdSl (El.int .u8) W v0 p0) (A1:RdSl (El.int .u8) W v1 p1) (A2:RdSl (El.int .u8) W v2 p2) :
    Calls Tryz.prog 60 [v0,v1,v2].toArray W (retS W [] (fun v Ms=>∃ (u0:Value) (M0:List Chunk),v=u0∧Ms = [.all M0]∧OwnSl (El.int .u8) u0 M0 r)):=by
 unfold q8_joined at h
 refine calls_memT mo ok60 rfl (sat0 _) ?_
 refine wc_seq<|wc_ops<|wj_m rfl<|wj_nil<|wc_seq<|wc_ops<|wj_m rfl<|wj_nil<|wc_seq<|cH h fun c4 h=>bH h fun l5 el5 h=>wc_ops<|wj_m rfl<|wj_m rfl<|wj_e (ef_appO (E:=(El.int .u8)) el5 rfl own_nil .here rfl (rd_arg A0 apart0) c4 fun v6 ms7 O8=>wj_m rfl<|wj_nil<|wc_seq<|cH h fun c10 h=>bH h fun l11 el11 h=>wc_ops<|wj_m rfl<|wj_m rfl<|wj_e (ef_appO (E:=(El.int .u8)) el11 rfl O8 .here rfl (rd_arg A1 apart0) c10 fun v12 ms13 O14=>wj_m rfl<|wj_nil<|wc_seq<|cH h fun c16 h=>bH h fun l17 el17 h=>wc_ops<|wj_m rfl<|wj_m rfl<|wj_e (ef_appO (E:=(El.int .u8)) el17 rfl O14 .here rfl (rd_arg A2 apart0) c16 fun v18 ms19 O20=>wj_m rfl<|wj_nil<|wc_seq<|wc_ops<|wj_m rfl<|wj_m rfl<|wj_nil<|wc_ret ?_)))
 revert h; refine ret_i fun h=>?_
 subst h
 exact ⟨_,_,(.cons (.tmp rfl) .nil),(.all .here .nil),⟨_,rfl,⟨v18,ms19,rfl,rfl,O20⟩⟩⟩
def fareboxlaw08_left_b1 (p0:List Int) (p1:List Int) (z3:Int) (k42:Unit→Option (Bool)) (k66:(Int)→Option (Bool)) (i65:Int):Option (Bool) :=
 br ((decide (i65<(p1.length:Int)))) (
 chk (inB i65 (z3).toNat) <|
 chk (inB i65 p1.length) <|
 bnd (p0.getD (i65).toNat 0) fun z73 =>
 bnd (p1.getD (i65).toNat 0) fun z74 =>
 br ((z73 != z74)) (
 some false
 ) (
 bnd (IntKind.wrap .i64 (i65+1)) fun z78 =>
 k66 z78
 )
 ) (
 k42 ()
 )
def fareboxlaw08_left_l1 (p0:List Int) (p1:List Int) (z3:Int) (k42:Unit→Option (Bool)):Nat→(Int)→Option (Bool)
  | 0,_=>none
  | n+1,i65=>fareboxlaw08_left_b1 p0 p1 z3 k42 (fareboxlaw08_left_l1 p0 p1 z3 k42 n) i65
def fareboxlaw08_left_b2 (p0:List Int) (z3:Int) (k111:Unit→Option (Bool)) (k132:(Int)→Option (Bool)) (i131:Int):Option (Bool) :=
 br ((decide (i131<z3))) (
 chk (inB i131 (z3).toNat) <|
 bnd (p0.getD (i131).toNat 0) fun z138 =>
 br ((z138 != 165)) (
 some false
 ) (
 bnd (IntKind.wrap .i64 (i131+1)) fun z142 =>
 k132 z142
 )
 ) (
 k111 ()
 )
def fareboxlaw08_left_l2 (p0:List Int) (z3:Int) (k111:Unit→Option (Bool)):Nat→(Int)→Option (Bool)
  | 0,_=>none
  | n+1,i131=>fareboxlaw08_left_b2 p0 z3 k111 (fareboxlaw08_left_l2 p0 z3 k111 n) i131
def fareboxlaw08_left (p0:List Int) (n0:Int) (p1:List Int):Option (Bool) :=
 bnd (IntKind.wrap .i64 ((p1.length:Int)+130)) fun z3 =>
 chk (cutB 0 z3 p0.length) <|
 jn (fun (_:Unit)=>jn (fun (_:Unit)=>some true) fun k111=>fareboxlaw08_left_l2 p0 z3 k111 big (p1.length:Int)) fun k42=>fareboxlaw08_left_l1 p0 p1 z3 k42 big 0
theorem fareboxlaw08_left_spec {W:World} {r:Bool} {p0:List Int} {n0:Int} {p1:List Int} {v0:Value} {v1:Value} (h:fareboxlaw08_left p0 n0 p1=some r) (A0:RdSl (El.int .u8) W v0 p0) (N0:cutB 0 n0 p0.length=true) (A1:RdSl (El.int .u8) W v1 p1) :
    Calls Tryz.prog 15 [(cutSl 1 v0 0 (n0).toNat),v1].toArray W (ret1 W (.bool (r))):=by
 unfold fareboxlaw08_left at h
 refine calls_val mo ok15 rfl ?_
 refine wc_seq<|wc_ops<|wj_m rfl<|wj_nil<|wc_seq<|bH h fun z3 ez3 h=>cH h fun c4 h=>wc_ops<|wj_m rfl<|wj_m rfl<|wj_q _ (q_lenP rfl (Shp.rd A1))<|wj_q _ (iz ez3 (q_bin rfl rfl rfl))<|wj_q _ (q_slsU (lz:=0) (hz:=z3) rfl (Shp.rd A0) N0 .no (.yes rfl) c4)<|wj_m rfl<|wj_nil<|wc_seq<|wc_seq<|wc_ops<|wj_m rfl<|wj_nil<|jH h fun k42 qk42 h=>wc_mono2 (G:=fun t m=>k42 ()=some r∧Fit [(1,v1),(5,(cutSl 1 v0 0 (z3).toNat))] [] t m) ?_ ?_
 ·refine wc_block<|wc_loopJ (fun n67 t m=>∃ (i65:Int),fareboxlaw08_left_l1 p0 p1 z3 k42 n67 i65=some r∧Fit [(1,v1),(5,(cutSl 1 v0 0 (z3).toNat)),(6,.int .i64 (i65))] [] t m) big ?_ ?_
  ·exact ⟨0,h,⟨⟨rfl,rfl,rfl,trivial⟩,.nil⟩⟩
  ·rintro n67 t m ⟨i65,h,hF⟩
   refine wc_fit hF ?_
   clear hF
   rcases n67 with _ | n67
   · exact none_i h
   have h:fareboxlaw08_left_b1 p0 p1 z3 k42 (fareboxlaw08_left_l1 p0 p1 z3 k42 n67) i65=some r:=h
   unfold fareboxlaw08_left_b1 at h
   obtain ⟨k66,qk66⟩ : ∃ k,k=fareboxlaw08_left_l1 p0 p1 z3 k42 n67:=⟨_,rfl⟩
   try rw [← qk66] at h
   refine wc_seq<|wc_seq<|wc_ops<|wj_m rfl<|wj_m rfl<|wj_q _ (q_lenP rfl (Shp.rd A1))<|wj_q _ (q_bin rfl rfl rfl)<|wj_nil<|wc_br h rfl (fun h=>?_) (fun h=>?_)
   ·refine wc_skip<|wc_seq<|wc_block<|wc_seq<|cH h fun c71 h=>cH h fun c72 h=>bH h fun z73 ez73 h=>bH h fun z74 ez74 h=>wc_draw<|ws_p1 _ (q_mv rfl)<|ws_p1 _ (q_mv rfl)<|ws_p1 _ (q_iasU rfl rfl (Shp.rd A0) c4 c71)<|ws_p1 _ (q_mv rfl)<|ws_p1 _ (q_mv rfl)<|ws_p1 _ (q_iasP rfl rfl (Shp.rd A1) c72)<|ws_q1 _ (iz ez73 (q_ldM10 (E:=(El.int .u8)) (s:=[.one (.int .u8 (p0.getD (i65).toNat 0))]) rfl (rd_arg A0 apart0) (inB_n (inB_up c4 c71)) rfl rfl))<|ws_q1 _ (iz ez74 (q_ldM10 (E:=(El.int .u8)) (s:=[.one (.int .u8 (p1.getD (i65).toNat 0))]) rfl (rd_arg A1 apart0) (inB_n c72) rfl rfl))<|ws_p1 _ (q_bin rfl rfl rfl)<|ws_nil<|wc_br h rfl (fun h=>?_) (fun h=>?_)
    ·refine wc_seq<|wc_ops<|wj_m rfl<|wj_nil<|wc_ret ?_
     revert h; refine ret_i fun h=>?_
     subst h
     exact ⟨_,(.cons (.tmp rfl) .nil),rfl⟩
    ·refine wc_skip<|bH h fun z78 ez78 h=>wc_ops<|wj_m rfl<|wj_q _ (iz ez78 (q_bin rfl rfl rfl))<|wj_m rfl<|wj_nil ?_
     rw [qk66] at h
     exact ⟨n67,Nat.lt_succ_self _,z78,h,⟨⟨rfl,rfl,rfl,trivial⟩,.nil⟩⟩
   ·exact wc_exit _ rfl<|⟨h,⟨⟨rfl,rfl,trivial⟩,.nil⟩⟩
 ·rintro t m ⟨h,hF⟩
  refine wc_fit hF ?_
  clear hF
  subst qk42
  refine wc_seq<|wc_seq<|wc_ops<|wj_m rfl<|wj_q _ (q_lenP rfl (Shp.rd A1))<|wj_m rfl<|wj_nil<|jH h fun k111 qk111 h=>wc_mono2 (G:=fun t m=>k111 ()=some r∧Fit [] [] t m) ?_ ?_
  ·refine wc_block<|wc_loopJ (fun n133 t m=>∃ (i131:Int),fareboxlaw08_left_l2 p0 z3 k111 n133 i131=some r∧Fit [(5,(cutSl 1 v0 0 (z3).toNat)),(7,.int .i64 (i131))] [] t m) big ?_ ?_
   ·exact ⟨(p1.length:Int),h,⟨⟨rfl,rfl,trivial⟩,.nil⟩⟩
   ·rintro n133 t m ⟨i131,h,hF⟩
    refine wc_fit hF ?_
    clear hF
    rcases n133 with _ | n133
    · exact none_i h
    have h:fareboxlaw08_left_b2 p0 z3 k111 (fareboxlaw08_left_l2 p0 z3 k111 n133) i131=some r:=h
    unfold fareboxlaw08_left_b2 at h
    obtain ⟨k132,qk132⟩ : ∃ k,k=fareboxlaw08_left_l2 p0 z3 k111 n133:=⟨_,rfl⟩
    try rw [← qk132] at h
    refine wc_seq<|wc_seq<|wc_ops<|wj_m rfl<|wj_m rfl<|wj_q _ (q_lenU rfl (Shp.rd A0) c4)<|wj_q _ (q_bin rfl rfl rfl)<|wj_nil<|wc_br h rfl (fun h=>?_) (fun h=>?_)
    ·refine wc_skip<|wc_seq<|wc_block<|wc_seq<|cH h fun c137 h=>bH h fun z138 ez138 h=>wc_ops<|wj_m rfl<|wj_m rfl<|wj_q _ (q_iasU rfl rfl (Shp.rd A0) c4 c137)<|wj_q _ (iz ez138 (q_ldM10 (E:=(El.int .u8)) (s:=[.one (.int .u8 (p0.getD (i131).toNat 0))]) rfl (rd_arg A0 apart0) (inB_n (inB_up c4 c137)) rfl rfl))<|wj_q _ (q_bin rfl rfl rfl)<|wj_nil<|wc_br h rfl (fun h=>?_) (fun h=>?_)
     ·refine wc_seq<|wc_ops<|wj_m rfl<|wj_nil<|wc_ret ?_
      revert h; refine ret_i fun h=>?_
      subst h
      exact ⟨_,(.cons (.tmp rfl) .nil),rfl⟩
     ·refine wc_skip<|bH h fun z142 ez142 h=>wc_ops<|wj_m rfl<|wj_q _ (iz ez142 (q_bin rfl rfl rfl))<|wj_m rfl<|wj_nil ?_
      rw [qk132] at h
      exact ⟨n133,Nat.lt_succ_self _,z142,h,⟨⟨rfl,rfl,trivial⟩,.nil⟩⟩
    ·exact wc_exit _ rfl<|⟨h,⟨trivial,.nil⟩⟩
  ·rintro t m ⟨h,hF⟩
   refine wc_fit hF ?_
   clear hF
   subst qk111
   refine wc_seq<|wc_ops<|wj_m rfl<|wj_nil<|wc_ret ?_
   revert h; refine ret_i fun h=>?_
   subst h
   exact ⟨_,(.cons (.tmp rfl) .nil),rfl⟩
def fareboxlaw08_turned (p0:List Int) (n0:Int):Option ((List Int)×(List (Int))) :=
 jn (fun (l17:List (Int))=>chk (decide ((([]:List (Int)).length+(l17.take (n0).toNat).length)*1≤140737488355328)) <|
 bnd (([]:List (Int))++(l17.take (n0).toNat)) fun l37 =>
 some (l37,l17)) fun k20=>br ((decide (n0>0))) (
 chk (inB 0 (n0).toNat) <|
 bnd (p0.getD 0 0) fun z24 =>
 bnd (bitsV .xor .u8 z24 64) fun z25 =>
 chk (inB 0 (n0).toNat) <|
 bnd (setG 0 p0 0 z25) fun l27 =>
 chk (cutB 0 n0 l27.length) <|
 chk (cutB 0 n0 l27.length) <|
 chk (cutB 0 n0 l27.length) <|
 chk (cutB 0 n0 l27.length) <|
 k20 l27
 ) (
 k20 p0
 )
theorem fareboxlaw08_turned_spec {W:World} {r:(List Int)×(List (Int))} {p0:List Int} {n0:Int} {v0:Value} {M0:List Chunk} (h:fareboxlaw08_turned p0 n0=some r) (h0:Sat W (M0.map (·.b)) (M0 ++ []) W) (O0:OwnSl (El.int .u8) v0 M0 p0) (N0:cutB 0 n0 p0.length=true) :
    Calls Tryz.prog 16 [(cutSl 1 v0 0 (n0).toNat)].toArray W (retS W (M0.map (·.b)) (fun v Ms=>∃ (u0:Value) (M0:List Chunk) (X0:List Chunk),v=u0∧Ms = [.all M0,.all X0]∧OwnSl (El.int .u8) u0 M0 r.1∧OwnSl (El.int .u8) v0 X0 r.2)):=by
 unfold fareboxlaw08_turned at h
 refine calls_memT mo ok16 rfl h0 ?_
 refine wc_seq<|wc_ops<|wj_m rfl<|wj_nil<|wc_seq<|wc_seq<|wc_ops<|wj_m rfl<|wj_q _ (q_lenU rfl (Shp.own O0) N0)<|wj_q _ (q_bin rfl rfl rfl)<|wj_nil<|jH h fun k20 qk20 h=>wc_mono2 (G:=fun t m=>∃ (l17:List (Int)) (ms16:List Chunk),k20 l17=some r∧OwnSl (El.int .u8) v0 ms16 l17∧cutB 0 n0 l17.length=true∧Fit [(0,(cutSl 1 v0 0 (n0).toNat))] (ms16 ++ []) t m) ?_ ?_
 ·refine wc_br h rfl (fun h=>?_) (fun h=>?_)
  ·exact cH h fun c23 h=>bH h fun z24 ez24 h=>bH h fun z25 ez25 h=>cH h fun c26 h=>bH h fun l27 el27 h=>cH h fun c30 h=>cH h fun c31 h=>cH h fun c32 h=>cH h fun c33 h=>wc_ops<|wj_m rfl<|wj_m rfl<|wj_q _ (q_iasU rfl rfl (Shp.own O0) N0 c23)<|wj_q _ (iz ez24 (q_ldM10 (E:=(El.int .u8)) (s:=[.one (.int .u8 (p0.getD 0 0))]) rfl (rd_own O0 .here) (inB_n (inB_up N0 c23)) rfl rfl))<|wj_q _ (iz ez25 (q_bin rfl rfl rfl))<|wj_q _ (q_iasU rfl rfl (Shp.own O0) N0 c26)<|wj_e (ef_stO (E:=(El.int .u8)) el27 O0 .here rfl rfl rfl (inB_n (inB_up N0 c26)) fun ms28 O29=>wj_nil<|⟨l27,ms28,h,O29,c30,⟨⟨rfl,trivial⟩,(.all .here .nil)⟩⟩)
  ·exact wc_skip<|⟨p0,M0,h,O0,N0,⟨⟨rfl,trivial⟩,(.all .here .nil)⟩⟩
 ·rintro t m ⟨l17,ms16,h,O18,H19,hF⟩
  refine wc_fit hF ?_
  clear hF
  subst qk20
  refine wc_seq<|wc_ops<|wj_m rfl<|wj_nil<|wc_seq<|cH h fun c36 h=>bH h fun l37 el37 h=>wc_ops<|wj_m rfl<|wj_m rfl<|wj_e (ef_appO (E:=(El.int .u8)) el37 rfl own_nil .here rfl (rd_pre (rd_own O18 .here) H19) c36 fun v38 ms39 O40=>wj_m rfl<|wj_nil<|wc_ret ?_)
  revert h; refine ret_i fun h=>?_
  subst h
  exact ⟨_,_,(.cons (.tmp rfl) .nil),(.all .here (.all .here .nil)),⟨_,rfl,⟨v38,ms39,ms16,rfl,rfl,O40,O18⟩⟩⟩
def field_Canonical (p0:List Int):Option (Bool) :=
 opt (field_FromBytes p0) fun y4 =>
 opt (field_Bytes y4) fun y5 =>
 some (ieq 32 y5 p0)
theorem field_Canonical_spec {W:World} {r:Bool} {p0:List Int} (h:field_Canonical p0=some r)  :
    Calls Tryz.prog 121 [agg [.ints .u8 32 (p0)]].toArray W (ret1 W (.bool (r))):=by
 unfold field_Canonical at h
 refine calls_val mo ok121 rfl ?_
 refine wc_seq<|wc_ops<|wj_e (ef_bx (s:=[.ints .u8 32 (p0)]) rfl fun b2 hb2=>wj_m rfl<|wj_nil<|wc_seq<|oH h fun y4 ey4 h=>oH h fun y5 ey5 h=>wc_draw<|ws_q1 _ (q_ld (p:=[.ints .u8 32 (p0)]) rfl .here rfl)<|ws_p1 _ (q_cl rfl (field_FromBytes_spec ey4))<|ws_p1 _ (q_cl rfl (field_Bytes_spec ey5))<|ws_q1 _ (q_ld (p:=[.ints .u8 32 (p0)]) rfl .here rfl)<|ws_p1 _ (q_eqa rfl rfl rfl rfl _ (eqc_last eqc_ints))<|ws_p1 _ (q_mv rfl)<|ws_nil<|wc_ret ?_)
 revert h; refine ret_i fun h=>?_
 subst h
 exact ⟨_,(.cons (.tmp rfl) .nil),rfl⟩
def field_IsZero (p0:List Int):Option (Bool) :=
 opt (field_reduce p0) fun y4 =>
 bnd (([0,0,0,0,0]:List Int)) fun z5 =>
 some (ieq 5 y4 z5)
theorem field_IsZero_spec {W:World} {r:Bool} {p0:List Int} (h:field_IsZero p0=some r)  :
    Calls Tryz.prog 129 [agg [.ints .u64 5 (p0)]].toArray W (ret1 W (.bool (r))):=by
 unfold field_IsZero at h
 refine calls_val mo ok129 rfl ?_
 refine wc_seq<|wc_ops<|wj_e (ef_bx (s:=[.ints .u64 5 (p0)]) rfl fun b2 hb2=>wj_m rfl<|wj_nil<|wc_seq<|oH h fun y4 ey4 h=>bH h fun z5 ez5 h=>wc_ops<|wj_q _ (q_ld (p:=[.ints .u64 5 (p0)]) rfl .here rfl)<|wj_q _ (q_cl rfl (field_reduce_spec ey4))<|wj_q _ (az (fun z=>agg [.ints .u64 5 z]) ez5 (q_bd BdR.nil))<|wj_q _ (q_eqa rfl rfl rfl rfl _ (eqc_last eqc_ints))<|wj_m rfl<|wj_nil<|wc_ret ?_)
 revert h; refine ret_i fun h=>?_
 subst h
 exact ⟨_,(.cons (.tmp rfl) .nil),rfl⟩
def field_Equal (p0:List Int) (p1:List Int):Option (Bool) :=
 opt (field_reduce p0) fun y5 =>
 opt (field_reduce p1) fun y6 =>
 some (ieq 5 y5 y6)
theorem field_Equal_spec {W:World} {r:Bool} {p0:List Int} {p1:List Int} (h:field_Equal p0 p1=some r)  :
    Calls Tryz.prog 187 [agg [.ints .u64 5 (p0)],agg [.ints .u64 5 (p1)]].toArray W (ret1 W (.bool (r))):=by
 unfold field_Equal at h
 refine calls_val mo ok187 rfl ?_
 refine wc_seq<|wc_ops<|wj_e (ef_bx (s:=[.ints .u64 5 (p0)]) rfl fun b2 hb2=>wj_e (ef_bx (s:=[.ints .u64 5 (p1)]) rfl fun b3 hb3=>wj_m rfl<|wj_nil<|wc_seq<|oH h fun y5 ey5 h=>oH h fun y6 ey6 h=>wc_draw<|ws_q1 _ (q_ld (p:=[.ints .u64 5 (p0)]) rfl (.there .here) rfl)<|ws_p1 _ (q_cl rfl (field_reduce_spec ey5))<|ws_q1 _ (q_ld (p:=[.ints .u64 5 (p1)]) rfl .here rfl)<|ws_p1 _ (q_cl rfl (field_reduce_spec ey6))<|ws_p1 _ (q_eqa rfl rfl rfl rfl _ (eqc_last eqc_ints))<|ws_p1 _ (q_mv rfl)<|ws_nil<|wc_ret ?_))
 revert h; refine ret_i fun h=>?_
 subst h
 exact ⟨_,(.cons (.tmp rfl) .nil),rfl⟩
def field_Select (p0:Bool) (p1:List Int) (p2:List Int):OL :=
 br (p0) (
 opt (field_reduce p1) fun y8 =>
 some y8
 ) (
 opt (field_reduce p2) fun y10 =>
 some y10
 )
theorem field_Select_spec {W:World} {r:(List Int)} {p0:Bool} {p1:List Int} {p2:List Int} (h:field_Select p0 p1 p2=some r)  :
    Calls Tryz.prog 189 [.bool (p0),agg [.ints .u64 5 (p1)],agg [.ints .u64 5 (p2)]].toArray W (ret1 W (agg [.ints .u64 5 (r)])):=by
 unfold field_Select at h
 refine calls_val mo ok189 rfl ?_
 refine wc_seq<|wc_ops<|wj_e (ef_bx (s:=[.ints .u64 5 (p1)]) rfl fun b2 hb2=>wj_e (ef_bx (s:=[.ints .u64 5 (p2)]) rfl fun b3 hb3=>wj_e (ef_al fun b4 hb4=>wj_nil<|wc_seq<|wc_seq<|wc_ops<|wj_m rfl<|wj_nil<|wc_br h rfl (fun h=>?_) (fun h=>?_))))
 ·refine wc_seq<|oH h fun y8 ey8 h=>wc_ops<|wj_q _ (q_ld (p:=[.ints .u64 5 (p1)]) rfl (.there (.there .here)) rfl)<|wj_q _ (q_cl rfl (field_reduce_spec ey8))<|wj_e (ef_st (q:=[.ints .u64 5 (y8)]) rfl rfl rfl rfl rfl .here<|wj_nil<|wc_ret ?_)
  revert h; refine ret_i fun h=>?_
  subst h
  exact ⟨_,(.cons (.agg rfl .here rfl) .nil),rfl⟩
 ·refine wc_skip<|wc_seq<|oH h fun y10 ey10 h=>wc_ops<|wj_q _ (q_ld (p:=[.ints .u64 5 (p2)]) rfl (.there .here) rfl)<|wj_q _ (q_cl rfl (field_reduce_spec ey10))<|wj_e (ef_st (q:=[.ints .u64 5 (y10)]) rfl rfl rfl rfl rfl .here<|wj_nil<|wc_ret ?_)
  revert h; refine ret_i fun h=>?_
  subst h
  exact ⟨_,(.cons (.agg rfl .here rfl) .nil),rfl⟩
def field_SqrtRatio (p0:List Int) (p1:List Int):Option ((List Int)×Bool) :=
 opt (field_IsZero p1) fun y6 =>
 br (y6) (
 bnd (([0,0,0,0,0]:List Int)) fun z9 =>
 opt (field_IsZero p0) fun y10 =>
 some (z9,y10)
 ) (
 opt (field_Square p1) fun y12 =>
 opt (field_Mul y12 p1) fun y13 =>
 opt (field_Square y13) fun y16 =>
 opt (field_Mul p0 y16) fun y17 =>
 opt (field_Mul y17 p1) fun y18 =>
 opt (field_Mul p0 y13) fun y21 =>
 opt (field_power 253 15) fun y22 =>
 opt (field_Pow y18 y22) fun y23 =>
 opt (field_Mul y21 y23) fun y24 =>
 opt (field_Square y24) fun y27 =>
 opt (field_Mul p1 y27) fun y28 =>
 jn (fun (a44:List Int)=>opt (field_IsOdd a44) fun y61 =>
 opt (field_Neg a44) fun y62 =>
 opt (field_Select y61 y62 a44) fun y63 =>
 some (y63,true)) fun k45=>opt (field_Equal y28 p0) fun y47 =>
 br (y47) (
 k45 y24
 ) (
 opt (field_Neg p0) fun y50 =>
 opt (field_Equal y28 y50) fun y51 =>
 br (y51) (
 opt (field_Small 2) fun y54 =>
 opt (field_power 251 31) fun y55 =>
 opt (field_Pow y54 y55) fun y56 =>
 opt (field_Mul y24 y56) fun y57 =>
 k45 y57
 ) (
 bnd (([0,0,0,0,0]:List Int)) fun z59 =>
 some (z59,false)
 )
 )
 )
theorem field_SqrtRatio_spec {W:World} {r:(List Int)×Bool} {p0:List Int} {p1:List Int} (h:field_SqrtRatio p0 p1=some r)  :
    Calls Tryz.prog 125 [agg [.ints .u64 5 (p0)],agg [.ints .u64 5 (p1)]].toArray W (ret1 W (.tuple #[agg [.ints .u64 5 (r.1)],.bool (r.2)])):=by
 unfold field_SqrtRatio at h
 refine calls_val mo ok125 rfl ?_
 refine wc_seq<|wc_ops<|wj_e (ef_bx (s:=[.ints .u64 5 (p0)]) rfl fun b2 hb2=>wj_e (ef_bx (s:=[.ints .u64 5 (p1)]) rfl fun b3 hb3=>wj_e (ef_al fun b4 hb4=>wj_m rfl<|wj_nil<|wc_seq<|wc_seq<|oH h fun y6 ey6 h=>wc_ops<|wj_q _ (q_ld (p:=[.ints .u64 5 (p1)]) rfl (.there .here) rfl)<|wj_q _ (q_cl rfl (field_IsZero_spec ey6))<|wj_nil<|wc_br h rfl (fun h=>?_) (fun h=>?_))))
 ·refine wc_seq<|bH h fun z9 ez9 h=>oH h fun y10 ey10 h=>wc_ops<|wj_q _ (az (fun z=>agg [.ints .u64 5 z]) ez9 (q_bd BdR.nil))<|wj_q _ (q_ld (p:=[.ints .u64 5 (p0)]) rfl (.there (.there .here)) rfl)<|wj_q _ (q_cl rfl (field_IsZero_spec ey10))<|wj_e (ef_st (q:=[.ints .u64 5 (z9)]) rfl rfl rfl rfl rfl .here<|wj_m rfl<|wj_nil<|wc_ret ?_)
  revert h; refine ret_i fun h=>?_
  subst h
  exact ⟨_,(.cons (.agg rfl .here rfl) (.cons (.tmp rfl) .nil)),rfl⟩
 ·refine wc_skip<|wc_seq<|oH h fun y12 ey12 h=>oH h fun y13 ey13 h=>wc_draw<|ws_q1 _ (q_ld (p:=[.ints .u64 5 (p1)]) rfl (.there .here) rfl)<|ws_p1 _ (q_cl rfl (field_Square_spec ey12))<|ws_q1 _ (q_ld (p:=[.ints .u64 5 (p1)]) rfl (.there .here) rfl)<|ws_p1 _ (q_cl rfl (field_Mul_spec ey13))<|ws_e1 (ef_al fun b14 hb14=>⟨(by repeat (first | exact Sup.refl _ | apply Sup.cons | apply Sup.app)),ws_eL rfl (ef_st (q:=[.ints .u64 5 (y13)]) rfl rfl rfl rfl rfl .here (ws_nil (wc_seq (oH h fun y16 ey16 h=>oH h fun y17 ey17 h=>oH h fun y18 ey18 h=>wc_draw (ws_q1 _ (q_ld (p:=[.ints .u64 5 (p0)]) rfl (.there (.there (.there .here))) rfl) (ws_q1 _ (q_ld (p:=[.ints .u64 5 (y13)]) rfl .here rfl) (ws_p1 _ (q_cl rfl (field_Square_spec ey16)) (ws_p1 _ (q_cl rfl (field_Mul_spec ey17)) (ws_q1 _ (q_ld (p:=[.ints .u64 5 (p1)]) rfl (.there (.there .here)) rfl) (ws_p1 _ (q_cl rfl (field_Mul_spec ey18)) (ws_e1 (ef_al fun b19 hb19=>⟨(by repeat (first | exact Sup.refl _ | apply Sup.cons | apply Sup.app)),ws_eL rfl (ef_st (q:=[.ints .u64 5 (y18)]) rfl rfl rfl rfl rfl .here (ws_nil (wc_seq (oH h fun y21 ey21 h=>oH h fun y22 ey22 h=>oH h fun y23 ey23 h=>oH h fun y24 ey24 h=>wc_draw (ws_q1 _ (q_ld (p:=[.ints .u64 5 (p0)]) rfl (.there (.there (.there (.there .here)))) rfl) (ws_q1 _ (q_ld (p:=[.ints .u64 5 (y13)]) rfl (.there .here) rfl) (ws_p1 _ (q_cl rfl (field_Mul_spec ey21)) (ws_p1 _ (q_cl rfl (field_power_spec ey22)) (ws_q1 _ (q_ld (p:=[.ints .u64 5 (y18)]) rfl .here rfl) (ws_p1 _ (q_cl rfl (field_Pow_spec ey23)) (ws_p1 _ (q_cl rfl (field_Mul_spec ey24)) (ws_e1 (ef_al fun b25 hb25=>⟨(by repeat (first | exact Sup.refl _ | apply Sup.cons | apply Sup.app)),ws_eL rfl (ef_st (q:=[.ints .u64 5 (y24)]) rfl rfl rfl rfl rfl .here (ws_nil (wc_seq (wc_seq (oH h fun y27 ey27 h=>oH h fun y28 ey28 h=>wc_draw (ws_q1 _ (q_ld (p:=[.ints .u64 5 (p1)]) rfl (.there (.there (.there (.there .here)))) rfl) (ws_q1 _ (q_ld (p:=[.ints .u64 5 (y24)]) rfl .here rfl) (ws_p1 _ (q_cl rfl (field_Square_spec ey27)) (ws_p1 _ (q_cl rfl (field_Mul_spec ey28)) (ws_e1 (ef_al fun b29 hb29=>⟨(by repeat (first | exact Sup.refl _ | apply Sup.cons | apply Sup.app)),ws_eL rfl (ef_st (q:=[.ints .u64 5 (y28)]) rfl rfl rfl rfl rfl .here (ws_nil (jH h fun k45 qk45 h=>wc_mono2 (G:=fun t m=>∃ (a44:List Int),k45 a44=some r∧Fit [(4,.pointer (some ⟨b4,0,none⟩)),(8,.pointer (some ⟨b25,0,none⟩))] (ck b29 80 [.ints .u64 5 (y28)]::(ck b25 80 [.ints .u64 5 (a44)]::(ck b19 80 [.ints .u64 5 (y18)]::(ck b14 80 [.ints .u64 5 (y13)]::(ck b4 80 [.ints .u64 5 ((List.replicate 5 0))]::(ck b3 80 [.ints .u64 5 (p1)]::(ck b2 80 [.ints .u64 5 (p0)] :: []))))))) t m) ?_ ?_)))⟩)))))))))))⟩)))))))))))))⟩))))))))))))⟩)
  ·refine wc_block<|wc_seq<|oH h fun y47 ey47 h=>wc_ops<|wj_q _ (q_ld (p:=[.ints .u64 5 (y28)]) rfl .here rfl)<|wj_q _ (q_ld (p:=[.ints .u64 5 (p0)]) rfl (.there (.there (.there (.there (.there (.there .here)))))) rfl)<|wj_q _ (q_cl rfl (field_Equal_spec ey47))<|wj_m rfl<|wj_nil<|wc_br h rfl (fun h=>?_) (fun h=>?_)
   ·exact wc_skip<|⟨y24,h,⟨⟨rfl,rfl,trivial⟩,(.one .here (.one .here (.one .here (.one .here (.one .here (.one .here (.one .here .nil)))))))⟩⟩
   ·refine wc_seq<|oH h fun y50 ey50 h=>oH h fun y51 ey51 h=>wc_draw<|ws_q1 _ (q_ld (p:=[.ints .u64 5 (y28)]) rfl .here rfl)<|ws_q1 _ (q_ld (p:=[.ints .u64 5 (p0)]) rfl (.there (.there (.there (.there (.there (.there .here)))))) rfl)<|ws_p1 _ (q_cl rfl (field_Neg_spec ey50))<|ws_p1 _ (q_cl rfl (field_Equal_spec ey51))<|ws_p1 _ (q_mv rfl)<|ws_nil<|wc_br h rfl (fun h=>?_) (fun h=>?_)
    ·exact oH h fun y54 ey54 h=>oH h fun y55 ey55 h=>oH h fun y56 ey56 h=>oH h fun y57 ey57 h=>wc_draw<|ws_p1 _ (q_cl rfl (field_Small_spec ey54))<|ws_p1 _ (q_cl rfl (field_power_spec ey55))<|ws_p1 _ (q_cl rfl (field_Pow_spec ey56))<|ws_q1 _ (q_ld (p:=[.ints .u64 5 (y24)]) rfl (.there .here) rfl)<|ws_p1 _ (q_cl rfl (field_Mul_spec ey57))<|ws_eL rfl (ef_st (q:=[.ints .u64 5 (y57)]) rfl rfl rfl rfl rfl (.there .here)<|ws_nil<|⟨y57,h,⟨⟨rfl,rfl,trivial⟩,(.one .here (.one .here (.one .here (.one .here (.one .here (.one .here (.one .here .nil)))))))⟩⟩)
    ·refine wc_seq<|bH h fun z59 ez59 h=>wc_ops<|wj_q _ (az (fun z=>agg [.ints .u64 5 z]) ez59 (q_bd BdR.nil))<|wj_e (ef_st (q:=[.ints .u64 5 (z59)]) rfl rfl rfl rfl rfl (.there (.there (.there (.there .here))))<|wj_m rfl<|wj_nil<|wc_ret ?_)
     revert h; refine ret_i fun h=>?_
     subst h
     exact ⟨_,(.cons (.agg rfl (.there (.there (.there (.there .here)))) rfl) (.cons (.tmp rfl) .nil)),rfl⟩
  ·rintro t m ⟨a44,h,hF⟩
   refine wc_fit hF ?_
   clear hF
   subst qk45
   refine wc_seq<|oH h fun y61 ey61 h=>oH h fun y62 ey62 h=>oH h fun y63 ey63 h=>wc_draw<|ws_q1 _ (q_ld (p:=[.ints .u64 5 (a44)]) rfl (.there .here) rfl)<|ws_p1 _ (q_cl rfl (field_IsOdd_spec ey61))<|ws_q1 _ (q_ld (p:=[.ints .u64 5 (a44)]) rfl (.there .here) rfl)<|ws_p1 _ (q_cl rfl (field_Neg_spec ey62))<|ws_q1 _ (q_ld (p:=[.ints .u64 5 (a44)]) rfl (.there .here) rfl)<|ws_p1 _ (q_cl rfl (field_Select_spec ey63))<|ws_eL rfl (ef_st (q:=[.ints .u64 5 (y63)]) rfl rfl rfl rfl rfl (.there (.there (.there (.there .here))))<|ws_p1 _ (q_mv rfl)<|ws_nil<|wc_ret ?_)
   revert h; refine ret_i fun h=>?_
   subst h
   exact ⟨_,(.cons (.agg rfl (.there (.there (.there (.there .here)))) rfl) (.cons (.tmp rfl) .nil)),rfl⟩
def curve_limbs:OL :=
 bnd (([929955233495203,466365720129213,1662059464998953,2033849074728123,1442794654840575]:List Int)) fun z4 =>
 some z4
theorem curve_limbs_spec {W:World} {r:(List Int)} (h:curve_limbs=some r)  :
    Calls Tryz.prog 128 [].toArray W (ret1 W (agg [.ints .u64 5 (r)])):=by
 unfold curve_limbs at h
 refine calls_val mo ok128 rfl ?_
 refine wc_seq<|wc_ops<|wj_e (ef_al fun b2 hb2=>wj_nil<|wc_seq<|bH h fun z4 ez4 h=>wc_ops<|wj_q _ (az (fun z=>agg [.ints .u64 5 z]) ez4 (q_bd (.one rfl rfl rfl (.one rfl rfl rfl (.one rfl rfl rfl (.one rfl rfl rfl (.one rfl rfl rfl BdR.nil)))))))<|wj_e (ef_st (q:=[.ints .u64 5 (z4)]) rfl rfl rfl rfl rfl .here<|wj_nil<|wc_ret ?_))
 revert h; refine ret_i fun h=>?_
 subst h
 exact ⟨_,(.cons (.agg rfl .here rfl) .nil),rfl⟩
def curve_Decode (p0:List Int):Option (api_Point×Bool) :=
 bnd (p0.getD 31 0) fun z5 =>
 bnd (shrV .u8 z5 7) fun z6 =>
 bnd (p0.getD 31 0) fun z8 =>
 bnd (bitsV .and .u8 z8 127) fun z9 =>
 bnd (setD p0 31 z9) fun l10 =>
 opt (field_Canonical l10) fun y12 =>
 br ((!y12)) (
 some ((⟨(List.replicate 5 0),(List.replicate 5 0),(List.replicate 5 0),(List.replicate 5 0)⟩:api_Point),false)
 ) (
 opt (field_FromBytes l10) fun y16 =>
 opt (field_Square y16) fun y19 =>
 opt (curve_unit) fun y22 =>
 opt (field_Sub y19 y22) fun y25 =>
 opt (curve_limbs) fun y26 =>
 opt (field_Mul y26 y19) fun y27 =>
 opt (field_Add y27 y22) fun y28 =>
 opt (field_SqrtRatio y25 y28) fun y29 =>
 chk (imp (!(!y29.2)) (imp (z6==1) ((field_IsZero y29.1).isSome))) <|
 br (((!y29.2)||((z6==1)&&((field_IsZero y29.1).getD false)))) (
 some ((⟨(List.replicate 5 0),(List.replicate 5 0),(List.replicate 5 0),(List.replicate 5 0)⟩:api_Point),false)
 ) (
 jn (fun (a39:List Int)=>opt (field_Mul a39 y16) fun y45 =>
 some ((⟨a39,y16,y22,y45⟩:api_Point),true)) fun k40=>br ((z6==1)) (
 opt (field_Neg y29.1) fun y43 =>
 k40 y43
 ) (
 k40 y29.1
 )
 )
 )
theorem curve_Decode_spec {W:World} {r:api_Point×Bool} {p0:List Int} (h:curve_Decode p0=some r)  :
    Calls Tryz.prog 66 [agg [.ints .u8 32 (p0)]].toArray W (ret1 W (.tuple #[agg [.ints .u64 5 (r.1.gX),.ints .u64 5 (r.1.gY),.ints .u64 5 (r.1.gZ),.ints .u64 5 (r.1.gT)],.bool (r.2)])):=by
 unfold curve_Decode at h
 refine calls_val mo ok66 rfl ?_
 refine wc_seq<|wc_ops<|wj_e (ef_bx (s:=[.ints .u8 32 (p0)]) rfl fun b2 hb2=>wj_e (ef_al fun b3 hb3=>wj_m rfl<|wj_nil<|wc_seq<|bH h fun z5 ez5 h=>bH h fun z6 ez6 h=>wc_ops<|wj_q _ (q_ia rfl rfl (by decide))<|wj_q _ (iz ez5 (q_ld1 rfl (.there .here) rfl))<|wj_q _ (iz ez6 (q_shr rfl rfl (by decide)))<|wj_q _ (q_bin rfl rfl rfl)<|wj_m rfl<|wj_nil<|wc_seq<|bH h fun z8 ez8 h=>bH h fun z9 ez9 h=>bH h fun l10 el10 h=>wc_ops<|wj_q _ (q_ia rfl rfl (by decide))<|wj_q _ (iz ez8 (q_ld1 rfl (.there .here) rfl))<|wj_q _ (iz ez9 (q_bin rfl rfl rfl))<|wj_q _ (q_ia rfl rfl (by decide))<|wj_e (ef_st1z (q:=[.ints .u8 32 (l10)]) (congrArg (fun z=>([.ints .u8 32 (z)]:List Seg)) el10.symm) rfl rfl rfl rfl (.there .here)<|wj_nil<|wc_seq<|wc_seq<|oH h fun y12 ey12 h=>wc_ops<|wj_q _ (q_ld (p:=[.ints .u8 32 (l10)]) rfl (.there .here) rfl)<|wj_q _ (q_cl rfl (field_Canonical_spec ey12))<|wj_q _ (q_un rfl rfl)<|wj_nil<|wc_br h rfl (fun h=>?_) (fun h=>?_))))
 ·refine wc_seq<|wc_ops<|wj_q _ (q_bd (q:=[.ints .u64 5 ((List.replicate 5 0)),.ints .u64 5 ((List.replicate 5 0)),.ints .u64 5 ((List.replicate 5 0)),.ints .u64 5 ((List.replicate 5 0))]) BdR.nil)<|wj_e (ef_st (q:=[.ints .u64 5 ((List.replicate 5 0)),.ints .u64 5 ((List.replicate 5 0)),.ints .u64 5 ((List.replicate 5 0)),.ints .u64 5 ((List.replicate 5 0))]) rfl rfl rfl rfl rfl .here<|wj_m rfl<|wj_nil<|wc_ret ?_)
  revert h; refine ret_i fun h=>?_
  subst h
  exact ⟨_,(.cons (.agg rfl .here rfl) (.cons (.tmp rfl) .nil)),rfl⟩
 ·refine wc_skip<|wc_seq<|oH h fun y16 ey16 h=>wc_ops<|wj_q _ (q_ld (p:=[.ints .u8 32 (l10)]) rfl (.there .here) rfl)<|wj_q _ (q_cl rfl (field_FromBytes_spec ey16))<|wj_e (ef_al fun b17 hb17=>wj_e (ef_st (q:=[.ints .u64 5 (y16)]) rfl rfl rfl rfl rfl .here<|wj_nil<|wc_seq<|oH h fun y19 ey19 h=>wc_ops<|wj_q _ (q_ld (p:=[.ints .u64 5 (y16)]) rfl .here rfl)<|wj_q _ (q_cl rfl (field_Square_spec ey19))<|wj_e (ef_al fun b20 hb20=>wj_e (ef_st (q:=[.ints .u64 5 (y19)]) rfl rfl rfl rfl rfl .here<|wj_nil<|wc_seq<|oH h fun y22 ey22 h=>wc_ops<|wj_q _ (q_cl rfl (curve_unit_spec ey22))<|wj_e (ef_al fun b23 hb23=>wj_e (ef_st (q:=[.ints .u64 5 (y22)]) rfl rfl rfl rfl rfl .here<|wj_nil<|wc_seq<|oH h fun y25 ey25 h=>oH h fun y26 ey26 h=>oH h fun y27 ey27 h=>oH h fun y28 ey28 h=>oH h fun y29 ey29 h=>wc_draw<|ws_q1 _ (q_ld (p:=[.ints .u64 5 (y19)]) rfl (.there .here) rfl)<|ws_q1 _ (q_ld (p:=[.ints .u64 5 (y22)]) rfl .here rfl)<|ws_p1 _ (q_cl rfl (field_Sub_spec ey25))<|ws_p1 _ (q_cl rfl (curve_limbs_spec ey26))<|ws_q1 _ (q_ld (p:=[.ints .u64 5 (y19)]) rfl (.there .here) rfl)<|ws_p1 _ (q_cl rfl (field_Mul_spec ey27))<|ws_q1 _ (q_ld (p:=[.ints .u64 5 (y22)]) rfl .here rfl)<|ws_p1 _ (q_cl rfl (field_Add_spec ey28))<|ws_p1 _ (q_cl rfl (field_SqrtRatio_spec ey29))<|ws_p1 _ (q_mv rfl)<|ws_p1 _ (q_ext rfl rfl)<|ws_p1 _ (q_ext rfl rfl)<|ws_e1 (ef_al fun b30 hb30=>⟨(by repeat (first | exact Sup.refl _ | apply Sup.cons | apply Sup.app)),ws_eL rfl (ef_st (q:=[.ints .u64 5 (y29.1)]) rfl rfl rfl rfl rfl .here (ws_p1 _ (q_mv rfl) (ws_nil (wc_seq (wc_seq (cH h fun c32 h=>wc_ops (wj_m rfl (wj_q _ (q_un rfl rfl) (wj_m rfl (wj_or rfl rfl rfl (fun hg1=>qj_g rfl _ (q_mv rfl) (qj_g rfl _ (q_mv rfl) (qj_and rfl (fun _ h=>by cases h; rfl) rfl rfl (fun hg2=>qj_g rfl _ (q_ld (p:=[.ints .u64 5 (y29.1)]) rfl .here rfl) (qj_g rfl _ (q_call rfl (fun _ _=>field_IsZero_spec (getD_some (z:=false) (imp_t (imp_f c32 hg1) hg2)))) (qj_nil))) (fun hg2=>rfl) rfl (qj_nil)))) (fun hg1=>rfl) rfl (wj_nil (wc_br h rfl (fun h=>?_) (fun h=>?_)))))))))))))⟩)))))))
  ·refine wc_seq<|wc_ops<|wj_q _ (q_bd (q:=[.ints .u64 5 ((List.replicate 5 0)),.ints .u64 5 ((List.replicate 5 0)),.ints .u64 5 ((List.replicate 5 0)),.ints .u64 5 ((List.replicate 5 0))]) BdR.nil)<|wj_e (ef_st (q:=[.ints .u64 5 ((List.replicate 5 0)),.ints .u64 5 ((List.replicate 5 0)),.ints .u64 5 ((List.replicate 5 0)),.ints .u64 5 ((List.replicate 5 0))]) rfl rfl rfl rfl rfl (.there (.there (.there (.there .here))))<|wj_m rfl<|wj_nil<|wc_ret ?_)
   revert h; refine ret_i fun h=>?_
   subst h
   exact ⟨_,(.cons (.agg rfl (.there (.there (.there (.there .here)))) rfl) (.cons (.tmp rfl) .nil)),rfl⟩
  ·refine wc_skip<|wc_seq<|wc_seq<|wc_ops<|wj_m rfl<|wj_nil<|jH h fun k40 qk40 h=>wc_mono2 (G:=fun t m=>∃ (a39:List Int),k40 a39=some r∧Fit [(2,.pointer (some ⟨b3,0,none⟩)),(5,.pointer (some ⟨b17,0,none⟩)),(7,.pointer (some ⟨b23,0,none⟩)),(8,.pointer (some ⟨b30,0,none⟩))] (ck b30 80 [.ints .u64 5 (a39)]::(ck b23 80 [.ints .u64 5 (y22)]::(ck b20 80 [.ints .u64 5 (y19)]::(ck b17 80 [.ints .u64 5 (y16)]::(ck b3 82 [.ints .u64 5 ((List.replicate 5 0)),.ints .u64 5 ((List.replicate 5 0)),.ints .u64 5 ((List.replicate 5 0)),.ints .u64 5 ((List.replicate 5 0))]::(ck b2 29 [.ints .u8 32 (l10)] :: [])))))) t m) ?_ ?_
   ·refine wc_br h rfl (fun h=>?_) (fun h=>?_)
    ·exact oH h fun y43 ey43 h=>wc_ops<|wj_q _ (q_ld (p:=[.ints .u64 5 (y29.1)]) rfl .here rfl)<|wj_q _ (q_cl rfl (field_Neg_spec ey43))<|wj_e (ef_st (q:=[.ints .u64 5 (y43)]) rfl rfl rfl rfl rfl .here<|wj_nil<|⟨y43,h,⟨⟨rfl,rfl,rfl,rfl,trivial⟩,(.one .here (.one .here (.one .here (.one .here (.one .here (.one .here .nil))))))⟩⟩)
    ·exact wc_skip<|⟨y29.1,h,⟨⟨rfl,rfl,rfl,rfl,trivial⟩,(.one .here (.one .here (.one .here (.one .here (.one .here (.one .here .nil))))))⟩⟩
   ·rintro t m ⟨a39,h,hF⟩
    refine wc_fit hF ?_
    clear hF
    subst qk40
    refine wc_seq<|oH h fun y45 ey45 h=>wc_draw<|ws_q1 _ (q_ld (p:=[.ints .u64 5 (a39)]) rfl .here rfl)<|ws_q1 _ (q_ld (p:=[.ints .u64 5 (y16)]) rfl (.there (.there (.there .here))) rfl)<|ws_q1 _ (q_ld (p:=[.ints .u64 5 (y22)]) rfl (.there .here) rfl)<|ws_q1 _ (q_ld (p:=[.ints .u64 5 (a39)]) rfl .here rfl)<|ws_q1 _ (q_ld (p:=[.ints .u64 5 (y16)]) rfl (.there (.there (.there .here))) rfl)<|ws_p1 _ (q_cl rfl (field_Mul_spec ey45))<|ws_p1 _ (q_bd (q:=[.ints .u64 5 (a39),.ints .u64 5 (y16),.ints .u64 5 (y22),.ints .u64 5 (y45)]) (.agg rfl rfl rfl (.agg rfl rfl rfl (.agg rfl rfl rfl (.agg rfl rfl rfl BdR.nil)))))<|ws_eL rfl (ef_st (q:=[.ints .u64 5 (a39),.ints .u64 5 (y16),.ints .u64 5 (y22),.ints .u64 5 (y45)]) rfl rfl rfl rfl rfl (.there (.there (.there (.there .here))))<|ws_p1 _ (q_mv rfl)<|ws_nil<|wc_ret ?_)
    revert h; refine ret_i fun h=>?_
    subst h
    exact ⟨_,(.cons (.agg rfl (.there (.there (.there (.there .here)))) rfl) (.cons (.tmp rfl) .nil)),rfl⟩
def scalar_Canonical (p0:List Int):Option (Bool) :=
 opt (scalar_load p0) fun y4 =>
 opt (scalar_minus y4 G_order) fun y5 =>
 some (y5.2==1)
theorem scalar_Canonical_spec {W:World} {r:Bool} {p0:List Int} (h:scalar_Canonical p0=some r) (hG:Globs W) :
    Calls Tryz.prog 67 [agg [.ints .u8 32 (p0)]].toArray W (ret1 W (.bool (r))):=by
 unfold scalar_Canonical at h
 refine calls_val mo ok67 rfl ?_
 refine wc_seq<|wc_ops<|wj_e (ef_bx (s:=[.ints .u8 32 (p0)]) rfl fun b2 hb2=>wj_m rfl<|wj_nil<|wc_seq<|oH h fun y4 ey4 h=>oH h fun y5 ey5 h=>wc_draw<|ws_q1 _ (q_ld (p:=[.ints .u8 32 (p0)]) rfl .here rfl)<|ws_p1 _ (q_cl rfl (scalar_load_spec ey4))<|ws_q1 _ (q_mem (o0:=0) (off:=0) rfl (hG.g1) (by simp) rfl)<|ws_p1 _ (q_cl rfl (scalar_minus_spec ey5))<|ws_p1 _ (q_mv rfl)<|ws_p1 _ (q_ext rfl rfl)<|ws_p1 _ (q_ext rfl rfl)<|ws_e1 (ef_al fun b6 hb6=>⟨(by repeat (first | exact Sup.refl _ | apply Sup.cons | apply Sup.app)),ws_eL rfl (ef_st (q:=[.ints .u64 4 (y5.1)]) rfl rfl rfl rfl rfl .here (ws_p1 _ (q_mv rfl) (ws_nil (wc_seq (wc_ops (wj_m rfl (wj_q _ (q_bin rfl rfl rfl) (wj_m rfl (wj_nil (wc_ret ?_))))))))))⟩))
 revert h; refine ret_i fun h=>?_
 subst h
 exact ⟨_,(.cons (.tmp rfl) .nil),rfl⟩
def curve_Combine_b2 (k469:(List Int)→(List Int)→(List Int)→(List Int)→Option (api_Point)) (k490:(Int)→(List Int)→(List Int)→(List Int)→(List Int)→Option (api_Point)) (i485:Int) (a486:List Int) (a487:List Int) (a488:List Int) (a489:List Int):Option (api_Point) :=
 br ((decide (i485<4))) (
 opt (curve_Double (⟨a486,a487,a488,a489⟩:api_Point)) fun y495 =>
 bnd (IntKind.wrap .i64 (i485+1)) fun z497 =>
 k490 z497 y495.gX y495.gY y495.gZ y495.gT
 ) (
 k469 a486 a487 a488 a489
 )
def curve_Combine_l2 (k469:(List Int)→(List Int)→(List Int)→(List Int)→Option (api_Point)):Nat→(Int)→(List Int)→(List Int)→(List Int)→(List Int)→Option (api_Point)
  | 0,_,_,_,_,_=>none
  | n+1,i485,a486,a487,a488,a489=>curve_Combine_b2 k469 (curve_Combine_l2 k469 n) i485 a486 a487 a488 a489
def curve_Combine_b1 (p0:List Int) (p2:List Int) (a15:List (api_Point)) (a17:List (api_Point)) (k270:(List Int)→(List Int)→(List Int)→(List Int)→Option (api_Point)) (k431:(Int)→(List Int)→(List Int)→(List Int)→(List Int)→Option (api_Point)) (i426:Int) (a427:List Int) (a428:List Int) (a429:List Int) (a430:List Int):Option (api_Point) :=
 br ((decide (i426<64))) (
 jn (fun (a465:List Int) (a466:List Int) (a467:List Int) (a468:List Int)=>opt (curve_nibble p0 i426) fun y499 =>
 chk (inB y499 16) <|
 bnd (a15.getD (y499).toNat api_Point_z) fun x501 =>
 opt (curve_Add (⟨a465,a466,a467,a468⟩:api_Point) x501) fun y502 =>
 opt (curve_nibble p2 i426) fun y503 =>
 chk (inB y503 16) <|
 bnd (a17.getD (y503).toNat api_Point_z) fun x505 =>
 opt (curve_Add y502 x505) fun y506 =>
 bnd (IntKind.wrap .i64 (i426+1)) fun z508 =>
 k431 z508 y506.gX y506.gY y506.gZ y506.gT) fun k469=>curve_Combine_l2 k469 big 0 a427 a428 a429 a430
 ) (
 k270 a427 a428 a429 a430
 )
def curve_Combine_l1 (p0:List Int) (p2:List Int) (a15:List (api_Point)) (a17:List (api_Point)) (k270:(List Int)→(List Int)→(List Int)→(List Int)→Option (api_Point)):Nat→(Int)→(List Int)→(List Int)→(List Int)→(List Int)→Option (api_Point)
  | 0,_,_,_,_,_=>none
  | n+1,i426,a427,a428,a429,a430=>curve_Combine_b1 p0 p2 a15 a17 k270 (curve_Combine_l1 p0 p2 a15 a17 k270 n) i426 a427 a428 a429 a430
def curve_Combine (p0:List Int) (p1:api_Point) (p2:List Int):Option (api_Point) :=
 opt (curve_start) fun y7 =>
 jn (fun (a15:List (api_Point)) (a17:List (api_Point))=>opt (curve_Zero) fun y25 =>
 jn (fun (a266:List Int) (a267:List Int) (a268:List Int) (a269:List Int)=>some (⟨a266,a267,a268,a269⟩:api_Point)) fun k270=>curve_Combine_l1 p0 p2 a15 a17 k270 big 0 y25.gX y25.gY y25.gZ y25.gT) fun k18=>opt (curve_multiples p1) fun y20 =>
 opt (curve_multiples y7) fun y21 =>
 k18 y20 y21
theorem curve_Combine_spec {W:World} {r:api_Point} {p0:List Int} {p1:api_Point} {p2:List Int} (h:curve_Combine p0 p1 p2=some r)  :
    Calls Tryz.prog 68 [agg [.ints .u8 32 (p0)],agg [.ints .u64 5 (p1.gX),.ints .u64 5 (p1.gY),.ints .u64 5 (p1.gZ),.ints .u64 5 (p1.gT)],agg [.ints .u8 32 (p2)]].toArray W (ret1 W (agg [.ints .u64 5 (r.gX),.ints .u64 5 (r.gY),.ints .u64 5 (r.gZ),.ints .u64 5 (r.gT)])):=by
 unfold curve_Combine at h
 refine calls_val mo ok68 rfl ?_
 refine wc_seq<|wc_ops<|wj_e (ef_bx (s:=[.ints .u8 32 (p0)]) rfl fun b2 hb2=>wj_e (ef_bx (s:=[.ints .u64 5 (p1.gX),.ints .u64 5 (p1.gY),.ints .u64 5 (p1.gZ),.ints .u64 5 (p1.gT)]) rfl fun b3 hb3=>wj_e (ef_bx (s:=[.ints .u8 32 (p2)]) rfl fun b4 hb4=>wj_e (ef_al fun b5 hb5=>wj_nil<|wc_seq<|oH h fun y7 ey7 h=>wc_ops<|wj_q _ (q_cl rfl (curve_start_spec ey7))<|wj_e (ef_al fun b8 hb8=>wj_e (ef_st (q:=[.ints .u64 5 (y7.gX),.ints .u64 5 (y7.gY),.ints .u64 5 (y7.gZ),.ints .u64 5 (y7.gT)]) rfl rfl rfl rfl rfl .here<|wj_nil<|wc_seq<|jH h fun k18 qk18 h=>wc_mono2 (G:=fun t m=>∃ (a15:List (api_Point)) (a17:List (api_Point)) (b14:Nat) (b16:Nat),k18 a15 a17=some r∧Fit [(3,.pointer (some ⟨b2,0,none⟩)),(5,.pointer (some ⟨b4,0,none⟩)),(6,.pointer (some ⟨b5,0,none⟩)),(8,.pointer (some ⟨b14,0,none⟩)),(9,.pointer (some ⟨b16,0,none⟩))] (ck b16 166 [.rows 20 16 (rowE E_api_Point (a17))]::(ck b14 166 [.rows 20 16 (rowE E_api_Point (a15))]::(ck b8 82 [.ints .u64 5 (y7.gX),.ints .u64 5 (y7.gY),.ints .u64 5 (y7.gZ),.ints .u64 5 (y7.gT)]::(ck b5 82 [.ints .u64 5 ((List.replicate 5 0)),.ints .u64 5 ((List.replicate 5 0)),.ints .u64 5 ((List.replicate 5 0)),.ints .u64 5 ((List.replicate 5 0))]::(ck b4 74 [.ints .u8 32 (p2)]::(ck b3 82 [.ints .u64 5 (p1.gX),.ints .u64 5 (p1.gY),.ints .u64 5 (p1.gZ),.ints .u64 5 (p1.gT)]::(ck b2 74 [.ints .u8 32 (p0)] :: []))))))) t m) ?_ ?_))))))
 ·refine oH h fun y20 ey20 h=>oH h fun y21 ey21 h=>wc_draw<|ws_q1 _ (q_ld (p:=[.ints .u64 5 (p1.gX),.ints .u64 5 (p1.gY),.ints .u64 5 (p1.gZ),.ints .u64 5 (p1.gT)]) rfl (.there (.there (.there .here))) rfl)<|ws_p1 _ (q_cl rfl (curve_multiples_spec ey20))<|ws_q1 _ (q_ld (p:=[.ints .u64 5 (y7.gX),.ints .u64 5 (y7.gY),.ints .u64 5 (y7.gZ),.ints .u64 5 (y7.gT)]) rfl .here rfl)<|ws_p1 _ (q_cl rfl (curve_multiples_spec ey21))<|ws_two (ef_al2 (z':=[.rows 20 16 (rowE E_api_Point ((List.replicate 16 api_Point_z)))]) (alz_rows (E:=E_api_Point) rfl rfl) fun b22 hb22=>⟨(by repeat (first | exact Sup.refl _ | apply Sup.cons | apply Sup.app)),?_⟩) (ef_al2 (z':=[.rows 20 16 (rowE E_api_Point ((List.replicate 16 api_Point_z)))]) (alz_rows (E:=E_api_Point) rfl rfl) fun b23 hb23=>⟨(by repeat (first | exact Sup.refl _ | apply Sup.cons | apply Sup.app)),?_⟩)
  ·exact ws_e1 (ef_al2 (z':=[.rows 20 16 (rowE E_api_Point ((List.replicate 16 api_Point_z)))]) (alz_rows (E:=E_api_Point) rfl rfl) fun b23 hb23=>⟨(by repeat (first | exact Sup.refl _ | apply Sup.cons | apply Sup.app)),ws_eL rfl (ef_stg (q:=[.rows 20 16 (rowE E_api_Point (y20))]) rfl rfl rfl rfl (ones_cons (ones_rows (E:=E_api_Point)) ones_nil) (.there .here) (ws_eM rfl (ef_stg (q:=[.rows 20 16 (rowE E_api_Point (y21))]) rfl rfl rfl rfl (ones_cons (ones_rows (E:=E_api_Point)) ones_nil) .here (ws_nil (⟨y20,y21,b22,b23,h,⟨⟨rfl,rfl,rfl,rfl,rfl,trivial⟩,(.one .here (.one .here (.one .here (.one .here (.one .here (.one .here (.one .here .nil)))))))⟩⟩)))))⟩)
  ·exact ws_e1 (ef_al2 (z':=[.rows 20 16 (rowE E_api_Point ((List.replicate 16 api_Point_z)))]) (alz_rows (E:=E_api_Point) rfl rfl) fun b22 hb22=>⟨(by repeat (first | exact Sup.refl _ | apply Sup.cons | apply Sup.app)),ws_eL rfl (ef_stg (q:=[.rows 20 16 (rowE E_api_Point (y20))]) rfl rfl rfl rfl (ones_cons (ones_rows (E:=E_api_Point)) ones_nil) .here (ws_eM rfl (ef_stg (q:=[.rows 20 16 (rowE E_api_Point (y21))]) rfl rfl rfl rfl (ones_cons (ones_rows (E:=E_api_Point)) ones_nil) (.there .here) (ws_nil (⟨y20,y21,b22,b23,h,⟨⟨rfl,rfl,rfl,rfl,rfl,trivial⟩,(.one (.there .here) (.one .here (.one .here (.one .here (.one .here (.one .here (.one .here .nil)))))))⟩⟩)))))⟩)
 ·rintro t m ⟨a15,a17,b14,b16,h,hF⟩
  refine wc_fit hF ?_
  clear hF
  subst qk18
  refine wc_seq<|oH h fun y25 ey25 h=>wc_ops<|wj_q _ (q_call (vs:=[]) (v:=agg [.ints .u64 5 (y25.gX),.ints .u64 5 (y25.gY),.ints .u64 5 (y25.gZ),.ints .u64 5 (y25.gT)]) rfl (fun w hw=>curve_Zero_spec (r:=y25) ey25 ))<|wj_e (ef_al fun b26 hb26=>wj_e (ef_st (q:=[.ints .u64 5 (y25.gX),.ints .u64 5 (y25.gY),.ints .u64 5 (y25.gZ),.ints .u64 5 (y25.gT)]) rfl rfl rfl rfl rfl .here<|wj_nil<|wc_seq<|wc_seq<|wc_ops<|wj_m rfl<|wj_nil<|jH h fun k270 qk270 h=>wc_mono2 (G:=fun t m=>∃ (a266:List Int) (a267:List Int) (a268:List Int) (a269:List Int),k270 a266 a267 a268 a269=some r∧Fit [(6,.pointer (some ⟨b5,0,none⟩)),(10,.pointer (some ⟨b26,0,none⟩))] (ck b26 82 [.ints .u64 5 (a266),.ints .u64 5 (a267),.ints .u64 5 (a268),.ints .u64 5 (a269)]::(ck b16 166 [.rows 20 16 (rowE E_api_Point (a17))]::(ck b14 166 [.rows 20 16 (rowE E_api_Point (a15))]::(ck b8 82 [.ints .u64 5 (y7.gX),.ints .u64 5 (y7.gY),.ints .u64 5 (y7.gZ),.ints .u64 5 (y7.gT)]::(ck b5 82 [.ints .u64 5 ((List.replicate 5 0)),.ints .u64 5 ((List.replicate 5 0)),.ints .u64 5 ((List.replicate 5 0)),.ints .u64 5 ((List.replicate 5 0))]::(ck b4 74 [.ints .u8 32 (p2)]::(ck b3 82 [.ints .u64 5 (p1.gX),.ints .u64 5 (p1.gY),.ints .u64 5 (p1.gZ),.ints .u64 5 (p1.gT)]::(ck b2 74 [.ints .u8 32 (p0)] :: [])))))))) t m) ?_ ?_))
  ·refine wc_block<|wc_loopJ (fun n432 t m=>∃ (i426:Int) (a427:List Int) (a428:List Int) (a429:List Int) (a430:List Int),curve_Combine_l1 p0 p2 a15 a17 k270 n432 i426 a427 a428 a429 a430=some r∧Fit [(3,.pointer (some ⟨b2,0,none⟩)),(5,.pointer (some ⟨b4,0,none⟩)),(6,.pointer (some ⟨b5,0,none⟩)),(8,.pointer (some ⟨b14,0,none⟩)),(9,.pointer (some ⟨b16,0,none⟩)),(10,.pointer (some ⟨b26,0,none⟩)),(18,.int .i64 (i426))] (ck b26 82 [.ints .u64 5 (a427),.ints .u64 5 (a428),.ints .u64 5 (a429),.ints .u64 5 (a430)]::(ck b16 166 [.rows 20 16 (rowE E_api_Point (a17))]::(ck b14 166 [.rows 20 16 (rowE E_api_Point (a15))]::(ck b8 82 [.ints .u64 5 (y7.gX),.ints .u64 5 (y7.gY),.ints .u64 5 (y7.gZ),.ints .u64 5 (y7.gT)]::(ck b5 82 [.ints .u64 5 ((List.replicate 5 0)),.ints .u64 5 ((List.replicate 5 0)),.ints .u64 5 ((List.replicate 5 0)),.ints .u64 5 ((List.replicate 5 0))]::(ck b4 74 [.ints .u8 32 (p2)]::(ck b3 82 [.ints .u64 5 (p1.gX),.ints .u64 5 (p1.gY),.ints .u64 5 (p1.gZ),.ints .u64 5 (p1.gT)]::(ck b2 74 [.ints .u8 32 (p0)] :: [])))))))) t m) big ?_ ?_
   ·exact ⟨0,y25.gX,y25.gY,y25.gZ,y25.gT,h,⟨⟨rfl,rfl,rfl,rfl,rfl,rfl,rfl,trivial⟩,(.one .here (.one .here (.one .here (.one .here (.one .here (.one .here (.one .here (.one .here .nil))))))))⟩⟩
   ·rintro n432 t m ⟨i426,a427,a428,a429,a430,h,hF⟩
    refine wc_fit hF ?_
    clear hF
    rcases n432 with _ | n432
    · exact none_i h
    have h:curve_Combine_b1 p0 p2 a15 a17 k270 (curve_Combine_l1 p0 p2 a15 a17 k270 n432) i426 a427 a428 a429 a430=some r:=h
    unfold curve_Combine_b1 at h
    obtain ⟨k431,qk431⟩ : ∃ k,k=curve_Combine_l1 p0 p2 a15 a17 k270 n432:=⟨_,rfl⟩
    try rw [← qk431] at h
    refine wc_seq<|wc_ops<|wj_q _ (q_bin rfl rfl rfl)<|wj_nil<|wc_seq<|wc_br h rfl (fun h=>?_) (fun h=>?_)
    ·refine wc_skip<|wc_seq<|wc_block<|wc_seq<|wc_ops<|wj_m rfl<|wj_m rfl<|wj_nil<|wc_seq<|wc_seq<|wc_ops<|wj_m rfl<|wj_nil<|jH h fun k469 qk469 h=>wc_mono2 (G:=fun t m=>∃ (a465:List Int) (a466:List Int) (a467:List Int) (a468:List Int),k469 a465 a466 a467 a468=some r∧Fit [(3,.pointer (some ⟨b2,0,none⟩)),(5,.pointer (some ⟨b4,0,none⟩)),(6,.pointer (some ⟨b5,0,none⟩)),(8,.pointer (some ⟨b14,0,none⟩)),(9,.pointer (some ⟨b16,0,none⟩)),(10,.pointer (some ⟨b26,0,none⟩)),(11,.int .i64 (i426)),(18,.int .i64 (i426))] (ck b26 82 [.ints .u64 5 (a465),.ints .u64 5 (a466),.ints .u64 5 (a467),.ints .u64 5 (a468)]::(ck b16 166 [.rows 20 16 (rowE E_api_Point (a17))]::(ck b14 166 [.rows 20 16 (rowE E_api_Point (a15))]::(ck b8 82 [.ints .u64 5 (y7.gX),.ints .u64 5 (y7.gY),.ints .u64 5 (y7.gZ),.ints .u64 5 (y7.gT)]::(ck b5 82 [.ints .u64 5 ((List.replicate 5 0)),.ints .u64 5 ((List.replicate 5 0)),.ints .u64 5 ((List.replicate 5 0)),.ints .u64 5 ((List.replicate 5 0))]::(ck b4 74 [.ints .u8 32 (p2)]::(ck b3 82 [.ints .u64 5 (p1.gX),.ints .u64 5 (p1.gY),.ints .u64 5 (p1.gZ),.ints .u64 5 (p1.gT)]::(ck b2 74 [.ints .u8 32 (p0)] :: [])))))))) t m) ?_ ?_
     ·refine wc_block<|wc_loopJ (fun n491 t m=>∃ (i485:Int) (a486:List Int) (a487:List Int) (a488:List Int) (a489:List Int),curve_Combine_l2 k469 n491 i485 a486 a487 a488 a489=some r∧Fit [(3,.pointer (some ⟨b2,0,none⟩)),(5,.pointer (some ⟨b4,0,none⟩)),(6,.pointer (some ⟨b5,0,none⟩)),(8,.pointer (some ⟨b14,0,none⟩)),(9,.pointer (some ⟨b16,0,none⟩)),(10,.pointer (some ⟨b26,0,none⟩)),(11,.int .i64 (i426)),(18,.int .i64 (i426)),(21,.int .i64 (i485))] (ck b26 82 [.ints .u64 5 (a486),.ints .u64 5 (a487),.ints .u64 5 (a488),.ints .u64 5 (a489)]::(ck b16 166 [.rows 20 16 (rowE E_api_Point (a17))]::(ck b14 166 [.rows 20 16 (rowE E_api_Point (a15))]::(ck b8 82 [.ints .u64 5 (y7.gX),.ints .u64 5 (y7.gY),.ints .u64 5 (y7.gZ),.ints .u64 5 (y7.gT)]::(ck b5 82 [.ints .u64 5 ((List.replicate 5 0)),.ints .u64 5 ((List.replicate 5 0)),.ints .u64 5 ((List.replicate 5 0)),.ints .u64 5 ((List.replicate 5 0))]::(ck b4 74 [.ints .u8 32 (p2)]::(ck b3 82 [.ints .u64 5 (p1.gX),.ints .u64 5 (p1.gY),.ints .u64 5 (p1.gZ),.ints .u64 5 (p1.gT)]::(ck b2 74 [.ints .u8 32 (p0)] :: [])))))))) t m) big ?_ ?_
      ·exact ⟨0,a427,a428,a429,a430,h,⟨⟨rfl,rfl,rfl,rfl,rfl,rfl,rfl,rfl,rfl,trivial⟩,(.one .here (.one .here (.one .here (.one .here (.one .here (.one .here (.one .here (.one .here .nil))))))))⟩⟩
      ·rintro n491 t m ⟨i485,a486,a487,a488,a489,h,hF⟩
       refine wc_fit hF ?_
       clear hF
       rcases n491 with _ | n491
       · exact none_i h
       have h:curve_Combine_b2 k469 (curve_Combine_l2 k469 n491) i485 a486 a487 a488 a489=some r:=h
       unfold curve_Combine_b2 at h
       obtain ⟨k490,qk490⟩ : ∃ k,k=curve_Combine_l2 k469 n491:=⟨_,rfl⟩
       try rw [← qk490] at h
       refine wc_seq<|wc_ops<|wj_q _ (q_bin rfl rfl rfl)<|wj_nil<|wc_seq<|wc_br h rfl (fun h=>?_) (fun h=>?_)
       ·refine wc_skip<|wc_seq<|wc_block<|oH h fun y495 ey495 h=>wc_ops<|wj_q _ (q_ld (p:=[.ints .u64 5 (a486),.ints .u64 5 (a487),.ints .u64 5 (a488),.ints .u64 5 (a489)]) rfl .here rfl)<|wj_q _ (q_call (vs:=[agg [.ints .u64 5 (a486),.ints .u64 5 (a487),.ints .u64 5 (a488),.ints .u64 5 (a489)]]) (v:=agg [.ints .u64 5 (y495.gX),.ints .u64 5 (y495.gY),.ints .u64 5 (y495.gZ),.ints .u64 5 (y495.gT)]) rfl (fun w hw=>curve_Double_spec (r:=y495) (p0:=(⟨a486,a487,a488,a489⟩:api_Point)) ey495 ))<|wj_e (ef_st (q:=[.ints .u64 5 (y495.gX),.ints .u64 5 (y495.gY),.ints .u64 5 (y495.gZ),.ints .u64 5 (y495.gT)]) rfl rfl rfl rfl rfl .here<|wj_nil<|bH h fun z497 ez497 h=>wc_ops<|wj_q _ (iz ez497 (q_bin rfl rfl rfl))<|wj_m rfl<|wj_nil ?_)
        rw [qk490] at h
        exact ⟨n491,Nat.lt_succ_self _,z497,y495.gX,y495.gY,y495.gZ,y495.gT,h,⟨⟨rfl,rfl,rfl,rfl,rfl,rfl,rfl,rfl,rfl,trivial⟩,(.one .here (.one .here (.one .here (.one .here (.one .here (.one .here (.one .here (.one .here .nil))))))))⟩⟩
       ·exact wc_exit _ rfl<|⟨a486,a487,a488,a489,h,⟨⟨rfl,rfl,rfl,rfl,rfl,rfl,rfl,rfl,trivial⟩,(.one .here (.one .here (.one .here (.one .here (.one .here (.one .here (.one .here (.one .here .nil))))))))⟩⟩
     ·rintro t m ⟨a465,a466,a467,a468,h,hF⟩
      refine wc_fit hF ?_
      clear hF
      subst qk469
      refine oH h fun y499 ey499 h=>cH h fun c500 h=>bH h fun x501 ex501 h=>oH h fun y502 ey502 h=>oH h fun y503 ey503 h=>cH h fun c504 h=>bH h fun x505 ex505 h=>oH h fun y506 ey506 h=>wc_draw<|ws_p1 _ (q_mv rfl)<|ws_p1 _ (q_mv rfl)<|ws_q1 _ (q_ld (p:=[.ints .u64 5 (a465),.ints .u64 5 (a466),.ints .u64 5 (a467),.ints .u64 5 (a468)]) rfl .here rfl)<|ws_q1 _ (q_ld (p:=[.ints .u8 32 (p0)]) rfl (.there (.there (.there (.there (.there (.there (.there .here))))))) rfl)<|ws_p1 _ (q_call (vs:=[agg [.ints .u8 32 (p0)],.int .i64 (i426)]) (v:=.int .u8 (y499)) rfl (fun w hw=>curve_nibble_spec (r:=y499) (p0:=p0) (p1:=i426) ey499 ))<|ws_p1 _ (q_ia rfl rfl (inB_z c500))<|ws_q1 _ (az (fun x501=>agg [.ints .u64 5 (x501.gX),.ints .u64 5 (x501.gY),.ints .u64 5 (x501.gZ),.ints .u64 5 (x501.gT)]) ex501 (q_ldr0 (base:=0) (w:=20) rfl (.there (.there .here)) rfl (inB_n c500) rfl rfl rfl))<|ws_p1 _ (q_call (vs:=[agg [.ints .u64 5 (a465),.ints .u64 5 (a466),.ints .u64 5 (a467),.ints .u64 5 (a468)],agg [.ints .u64 5 (x501.gX),.ints .u64 5 (x501.gY),.ints .u64 5 (x501.gZ),.ints .u64 5 (x501.gT)]]) (v:=agg [.ints .u64 5 (y502.gX),.ints .u64 5 (y502.gY),.ints .u64 5 (y502.gZ),.ints .u64 5 (y502.gT)]) rfl (fun w hw=>curve_Add_spec (r:=y502) (p0:=(⟨a465,a466,a467,a468⟩:api_Point)) (p1:=x501) ey502 ))<|ws_q1 _ (q_ld (p:=[.ints .u8 32 (p2)]) rfl (.there (.there (.there (.there (.there .here))))) rfl)<|ws_p1 _ (q_call (vs:=[agg [.ints .u8 32 (p2)],.int .i64 (i426)]) (v:=.int .u8 (y503)) rfl (fun w hw=>curve_nibble_spec (r:=y503) (p0:=p2) (p1:=i426) ey503 ))<|ws_p1 _ (q_ia rfl rfl (inB_z c504))<|ws_q1 _ (az (fun x505=>agg [.ints .u64 5 (x505.gX),.ints .u64 5 (x505.gY),.ints .u64 5 (x505.gZ),.ints .u64 5 (x505.gT)]) ex505 (q_ldr0 (base:=0) (w:=20) rfl (.there .here) rfl (inB_n c504) rfl rfl rfl))<|ws_p1 _ (q_call (vs:=[agg [.ints .u64 5 (y502.gX),.ints .u64 5 (y502.gY),.ints .u64 5 (y502.gZ),.ints .u64 5 (y502.gT)],agg [.ints .u64 5 (x505.gX),.ints .u64 5 (x505.gY),.ints .u64 5 (x505.gZ),.ints .u64 5 (x505.gT)]]) (v:=agg [.ints .u64 5 (y506.gX),.ints .u64 5 (y506.gY),.ints .u64 5 (y506.gZ),.ints .u64 5 (y506.gT)]) rfl (fun w hw=>curve_Add_spec (r:=y506) (p0:=y502) (p1:=x505) ey506 ))<|ws_eL rfl (ef_st (q:=[.ints .u64 5 (y506.gX),.ints .u64 5 (y506.gY),.ints .u64 5 (y506.gZ),.ints .u64 5 (y506.gT)]) rfl rfl rfl rfl rfl .here<|ws_nil<|bH h fun z508 ez508 h=>wc_ops<|wj_q _ (iz ez508 (q_bin rfl rfl rfl))<|wj_m rfl<|wj_nil ?_)
      rw [qk431] at h
      exact ⟨n432,Nat.lt_succ_self _,z508,y506.gX,y506.gY,y506.gZ,y506.gT,h,⟨⟨rfl,rfl,rfl,rfl,rfl,rfl,rfl,trivial⟩,(.one .here (.one .here (.one .here (.one .here (.one .here (.one .here (.one .here (.one .here .nil))))))))⟩⟩
    ·exact wc_exit _ rfl<|⟨a427,a428,a429,a430,h,⟨⟨rfl,rfl,trivial⟩,(.one .here (.one .here (.one .here (.one .here (.one .here (.one .here (.one .here (.one .here .nil))))))))⟩⟩
  ·rintro t m ⟨a266,a267,a268,a269,h,hF⟩
   refine wc_fit hF ?_
   clear hF
   subst qk270
   refine wc_seq<|wc_ops<|wj_q _ (q_ld (p:=[.ints .u64 5 (a266),.ints .u64 5 (a267),.ints .u64 5 (a268),.ints .u64 5 (a269)]) rfl .here rfl)<|wj_e (ef_st (q:=[.ints .u64 5 (a266),.ints .u64 5 (a267),.ints .u64 5 (a268),.ints .u64 5 (a269)]) rfl rfl rfl rfl rfl (.there (.there (.there (.there .here))))<|wj_nil<|wc_ret ?_)
   revert h; refine ret_i fun h=>?_
   subst h
   exact ⟨_,(.cons (.agg rfl (.there (.there (.there (.there .here)))) rfl) .nil),rfl⟩
end Go.Proofs.YtiflckckekjbnaaGreatDoor
