/- Texts of a proof, one behind the other: L8 L9 L10 L11 L12 L13 L14 L15. -/
import Derived.Test.YtiflckckekjbnaaGreatDoorMS4
namespace Go.Proofs.YtiflckckekjbnaaGreatDoor
open Go Go.Sx Go.RowKit
set_option linter.all false
set_option maxHeartbeats 400000
set_option maxRecDepth 100000
def Zdu (p0:List Int) (p1:List Int) (i561:Int) (k623:(List Int)→OL) (k659:(Int)→(List Int)→OL) (i657:Int) (a658:List Int):OL :=
 br ((decide (i657<10))) (
 bnd (IntKind.wrap .i64 (i561+i657)) fun z664 =>
 bnd (IntKind.wrap .i64 (i561+i657)) fun z665 =>
 chk (inB z665 20) <|
 chk (inB i561 10) <|
 chk (inB i657 10) <|
 bnd (a658.getD (z665).toNat 0) fun z669 =>
 bnd (p0.getD (i561).toNat 0) fun z670 =>
 bnd (p1.getD (i657).toNat 0) fun z671 =>
 bnd (IntKind.wrap .u64 (z670*z671)) fun z672 =>
 bnd (IntKind.wrap .u64 (z669+z672)) fun z673 =>
 chk (inB z664 20) <|
 bnd (Z21 a658 (z664).toNat z673) fun l675 =>
 bnd (IntKind.wrap .i64 (i657+1)) fun z677 =>
 k659 z677 l675
 ) (
 k623 a658
 )
def Z8t (p0:List Int) (p1:List Int) (i561:Int) (k623:(List Int)→OL):Nat→(Int)→(List Int)→OL
  | 0,_,_=>none
  | n+1,i657,a658=>Zdu p0 p1 i561 k623 (Z8t p0 p1 i561 k623 n) i657 a658
def Zdt (p0:List Int) (p1:List Int) (k344:(List Int)→OL) (k563:(Int)→(List Int)→OL) (i561:Int) (a562:List Int):OL :=
 br ((decide (i561<10))) (
 jn (fun (a622:List Int)=>bnd (IntKind.wrap .i64 (i561+1)) fun z679 =>
 k563 z679 a622) fun k623=>Z8t p0 p1 i561 k623 big 0 a562
 ) (
 k344 a562
 )
def Z7j (p0:List Int) (p1:List Int) (k344:(List Int)→OL):Nat→(Int)→(List Int)→OL
  | 0,_,_=>none
  | n+1,i561,a562=>Zdt p0 p1 k344 (Z7j p0 p1 k344 n) i561 a562
def Zdv (k742:(List Int)→OL) (k780:(Int)→(List Int)→OL) (i778:Int) (a779:List Int):OL :=
 br ((decide (i778<19))) (
 bnd (IntKind.wrap .i64 (i778+1)) fun z785 =>
 bnd (IntKind.wrap .i64 (i778+1)) fun z786 =>
 chk (inB z786 20) <|
 chk (inB i778 20) <|
 bnd (a779.getD (z786).toNat 0) fun z789 =>
 bnd (a779.getD (i778).toNat 0) fun z790 =>
 bnd (Zn .u64 z790 26) fun z791 =>
 bnd (IntKind.wrap .u64 (z789+z791)) fun z792 =>
 chk (inB z785 20) <|
 bnd (Z21 a779 (z785).toNat z792) fun l794 =>
 chk (inB i778 20) <|
 bnd (l794.getD (i778).toNat 0) fun z797 =>
 bnd (Z4 .and .u64 z797 67108863) fun z798 =>
 chk (inB i778 20) <|
 bnd (Z21 l794 (i778).toNat z798) fun l800 =>
 bnd (IntKind.wrap .i64 (i778+1)) fun z802 =>
 k780 z802 l800
 ) (
 k742 a779
 )
def Z6g (k742:(List Int)→OL):Nat→(Int)→(List Int)→OL
  | 0,_,_=>none
  | n+1,i778,a779=>Zdv k742 (Z6g k742 n) i778 a779
def Zjw (a741:List Int) (k849:(List Int)→OL) (k876:(Int)→(List Int)→OL) (i874:Int) (a875:List Int):OL :=
 br ((decide (i874<10))) (
 chk (inB i874 20) <|
 bnd (IntKind.wrap .i64 (i874+10)) fun z882 =>
 chk (inB z882 20) <|
 bnd (a741.getD (i874).toNat 0) fun z884 =>
 bnd (a741.getD (z882).toNat 0) fun z885 =>
 bnd (IntKind.wrap .u64 (608*z885)) fun z886 =>
 bnd (IntKind.wrap .u64 (z884+z886)) fun z887 =>
 chk (inB i874 10) <|
 bnd (Z21 a875 (i874).toNat z887) fun l889 =>
 bnd (IntKind.wrap .i64 (i874+1)) fun z891 =>
 k876 z891 l889
 ) (
 k849 a875
 )
def Z8u (a741:List Int) (k849:(List Int)→OL):Nat→(Int)→(List Int)→OL
  | 0,_,_=>none
  | n+1,i874,a875=>Zjw a741 k849 (Z8u a741 k849 n) i874 a875
def Z1p (p0:List Int) (p1:List Int):OL :=
 jn (fun (a343:List Int)=>jn (fun (a741:List Int)=>jn (fun (a848:List Int)=>opt (Z7i a848) fun y893 =>
 some y893) fun k849=>Z8u a741 k849 big 0 (List.replicate 10 0)) fun k742=>Z6g k742 big 0 a343) fun k344=>Z7j p0 p1 k344 big 0 (List.replicate 20 0)
theorem Z04 {W:World} {r:(List Int)} {p0:List Int} {p1:List Int} (h:Z1p p0 p1=some r)  :
    Calls Tryz.prog 104 [agg [.ints .u64 10 (p0)],agg [.ints .u64 10 (p1)]].toArray W (Z2s W (agg [.ints .u64 10 (r)])):=by
 unfold Z1p at h
 refine Zc mo Z0xp rfl ?_
 refine Z0<|Z2<|Zd (Z0e (s:=[.ints .u64 10 (p0)]) rfl fun b2 hb2=>Zd (Z0e (s:=[.ints .u64 10 (p1)]) rfl fun b3 hb3=>Zd (Zr fun b4 hb4=>Z1<|Z0<|Z2<|Zd (Zr fun b6 hb6=>Z1<|Z0<|Z0<|Z2<|Z7 rfl<|Z1<|jH h fun k344 qk344 h=>Zh (G:=fun t m=>∃ (a343:List Int),k344 a343=some r∧Fit [(4,.pointer (some ⟨b4,0,none⟩)),(5,.pointer (some ⟨b6,0,none⟩))] (ck b6 205 [.ints .u64 20 (a343)]::(ck b4 88 [.ints .u64 10 ((List.replicate 10 0))]::(ck b3 88 [.ints .u64 10 (p1)]::(ck b2 88 [.ints .u64 10 (p0)] :: [])))) t m) ?_ ?_))))
 ·refine Za<|Zo (fun n564 t m=>∃ (i561:Int) (a562:List Int),Z7j p0 p1 k344 n564 i561 a562=some r∧Fit [(2,.pointer (some ⟨b2,0,none⟩)),(3,.pointer (some ⟨b3,0,none⟩)),(4,.pointer (some ⟨b4,0,none⟩)),(5,.pointer (some ⟨b6,0,none⟩)),(6,.int .i64 (i561))] (ck b6 205 [.ints .u64 20 (a562)]::(ck b4 88 [.ints .u64 10 ((List.replicate 10 0))]::(ck b3 88 [.ints .u64 10 (p1)]::(ck b2 88 [.ints .u64 10 (p0)] :: [])))) t m) big ?_ ?_
  ·exact ⟨0,(List.replicate 20 0),h,⟨⟨rfl,rfl,rfl,rfl,rfl,trivial⟩,(.one .here (.one .here (.one .here (.one .here .nil))))⟩⟩
  ·rintro n564 t m ⟨i561,a562,h,hF⟩
   refine Zg hF ?_
   clear hF
   rcases n564 with _ | n564
   · exact Z05 h
   have h:Zdt p0 p1 k344 (Z7j p0 p1 k344 n564) i561 a562=some r:=h
   unfold Zdt at h
   obtain ⟨k563,qk563⟩ : ∃ k,k=Z7j p0 p1 k344 n564:=⟨_,rfl⟩
   try rw [← qk563] at h
   refine Z0<|Z0<|Z2<|Z7 rfl<|Z6 _ (Z9 rfl rfl rfl)<|Z1<|Z07 h rfl (fun h=>?_) (fun h=>?_)
   ·refine Zk<|Z0<|Za<|Z0<|Z2<|Z7 rfl<|Z1<|jH h fun k623 qk623 h=>Zh (G:=fun t m=>∃ (a622:List Int),k623 a622=some r∧Fit [(2,.pointer (some ⟨b2,0,none⟩)),(3,.pointer (some ⟨b3,0,none⟩)),(4,.pointer (some ⟨b4,0,none⟩)),(5,.pointer (some ⟨b6,0,none⟩)),(6,.int .i64 (i561))] (ck b6 205 [.ints .u64 20 (a622)]::(ck b4 88 [.ints .u64 10 ((List.replicate 10 0))]::(ck b3 88 [.ints .u64 10 (p1)]::(ck b2 88 [.ints .u64 10 (p0)] :: [])))) t m) ?_ ?_
    ·refine Za<|Zo (fun n660 t m=>∃ (i657:Int) (a658:List Int),Z8t p0 p1 i561 k623 n660 i657 a658=some r∧Fit [(2,.pointer (some ⟨b2,0,none⟩)),(3,.pointer (some ⟨b3,0,none⟩)),(4,.pointer (some ⟨b4,0,none⟩)),(5,.pointer (some ⟨b6,0,none⟩)),(6,.int .i64 (i561)),(7,.int .i64 (i657))] (ck b6 205 [.ints .u64 20 (a658)]::(ck b4 88 [.ints .u64 10 ((List.replicate 10 0))]::(ck b3 88 [.ints .u64 10 (p1)]::(ck b2 88 [.ints .u64 10 (p0)] :: [])))) t m) big ?_ ?_
     ·exact ⟨0,a562,h,⟨⟨rfl,rfl,rfl,rfl,rfl,rfl,trivial⟩,(.one .here (.one .here (.one .here (.one .here .nil))))⟩⟩
     ·rintro n660 t m ⟨i657,a658,h,hF⟩
      refine Zg hF ?_
      clear hF
      rcases n660 with _ | n660
      · exact Z05 h
      have h:Zdu p0 p1 i561 k623 (Z8t p0 p1 i561 k623 n660) i657 a658=some r:=h
      unfold Zdu at h
      obtain ⟨k659,qk659⟩ : ∃ k,k=Z8t p0 p1 i561 k623 n660:=⟨_,rfl⟩
      try rw [← qk659] at h
      refine Z0<|Z0<|Z2<|Z7 rfl<|Z6 _ (Z9 rfl rfl rfl)<|Z1<|Z07 h rfl (fun h=>?_) (fun h=>?_)
      ·refine Zk<|Z0<|Za<|bH h fun z664 ez664 h=>bH h fun z665 ez665 h=>cH h fun c666 h=>cH h fun c667 h=>cH h fun c668 h=>bH h fun z669 ez669 h=>bH h fun z670 ez670 h=>bH h fun z671 ez671 h=>bH h fun z672 ez672 h=>bH h fun z673 ez673 h=>cH h fun c674 h=>bH h fun l675 el675 h=>Zu<|Z8 _ (Z0u rfl)<|Z8 _ (Z0u rfl)<|Z8 _ (iz ez664 (Z9 rfl rfl rfl))<|Z8 _ (Z0u rfl)<|Z8 _ (Z0u rfl)<|Z8 _ (iz ez665 (Z9 rfl rfl rfl))<|Z8 _ (Z0v rfl rfl (Z09 c666))<|Z8 _ (Z0u rfl)<|Z8 _ (Z0v rfl rfl (Z09 c667))<|Z8 _ (Z0u rfl)<|Z8 _ (Z0v rfl rfl (Z09 c668))<|Zq _ (iz ez669 (Z2e (base:=0) rfl .here rfl (Z01 c666)))<|Zq _ (iz ez670 (Z2e (base:=0) rfl (.there (.there (.there .here))) rfl (Z01 c667)))<|Zq _ (iz ez671 (Z2e (base:=0) rfl (.there (.there .here)) rfl (Z01 c668)))<|Z8 _ (iz ez672 (Z9 rfl rfl rfl))<|Z8 _ (iz ez673 (Z9 rfl rfl rfl))<|Z8 _ (Z0v rfl rfl (Z09 c674))<|Z1b rfl (Z1e (q:=[.ints .u64 20 (l675)]) (base:=0) el675 rfl rfl rfl (Z01 c674) rfl .here<|Z03<|bH h fun z677 ez677 h=>Z2<|Z7 rfl<|Z6 _ (iz ez677 (Z9 rfl rfl rfl))<|Z7 rfl<|Z1 ?_)
       rw [qk659] at h
       exact ⟨n660,Nat.lt_succ_self _,z677,l675,h,⟨⟨rfl,rfl,rfl,rfl,rfl,rfl,trivial⟩,(.one .here (.one .here (.one .here (.one .here .nil))))⟩⟩
      ·exact Zv _ rfl<|⟨a658,h,⟨⟨rfl,rfl,rfl,rfl,rfl,trivial⟩,(.one .here (.one .here (.one .here (.one .here .nil))))⟩⟩
    ·rintro t m ⟨a622,h,hF⟩
     refine Zg hF ?_
     clear hF
     subst qk623
     refine bH h fun z679 ez679 h=>Z2<|Z7 rfl<|Z6 _ (iz ez679 (Z9 rfl rfl rfl))<|Z7 rfl<|Z1 ?_
     rw [qk563] at h
     exact ⟨n564,Nat.lt_succ_self _,z679,a622,h,⟨⟨rfl,rfl,rfl,rfl,rfl,trivial⟩,(.one .here (.one .here (.one .here (.one .here .nil))))⟩⟩
   ·exact Zv _ rfl<|⟨a562,h,⟨⟨rfl,rfl,trivial⟩,(.one .here (.one .here (.one .here (.one .here .nil))))⟩⟩
 ·rintro t m ⟨a343,h,hF⟩
  refine Zg hF ?_
  clear hF
  subst qk344
  refine Z0<|Z0<|Z2<|Z7 rfl<|Z1<|jH h fun k742 qk742 h=>Zh (G:=fun t m=>∃ (a741:List Int),k742 a741=some r∧Fit [(4,.pointer (some ⟨b4,0,none⟩)),(5,.pointer (some ⟨b6,0,none⟩))] (ck b6 205 [.ints .u64 20 (a741)]::(ck b4 88 [.ints .u64 10 ((List.replicate 10 0))]::(ck b3 88 [.ints .u64 10 (p1)]::(ck b2 88 [.ints .u64 10 (p0)] :: [])))) t m) ?_ ?_
  ·refine Za<|Zo (fun n781 t m=>∃ (i778:Int) (a779:List Int),Z6g k742 n781 i778 a779=some r∧Fit [(4,.pointer (some ⟨b4,0,none⟩)),(5,.pointer (some ⟨b6,0,none⟩)),(8,.int .i64 (i778))] (ck b6 205 [.ints .u64 20 (a779)]::(ck b4 88 [.ints .u64 10 ((List.replicate 10 0))]::(ck b3 88 [.ints .u64 10 (p1)]::(ck b2 88 [.ints .u64 10 (p0)] :: [])))) t m) big ?_ ?_
   ·exact ⟨0,a343,h,⟨⟨rfl,rfl,rfl,trivial⟩,(.one .here (.one .here (.one .here (.one .here .nil))))⟩⟩
   ·rintro n781 t m ⟨i778,a779,h,hF⟩
    refine Zg hF ?_
    clear hF
    rcases n781 with _ | n781
    · exact Z05 h
    have h:Zdv k742 (Z6g k742 n781) i778 a779=some r:=h
    unfold Zdv at h
    obtain ⟨k780,qk780⟩ : ∃ k,k=Z6g k742 n781:=⟨_,rfl⟩
    try rw [← qk780] at h
    refine Z0<|Z0<|Z2<|Z7 rfl<|Z6 _ (Z9 rfl rfl rfl)<|Z1<|Z07 h rfl (fun h=>?_) (fun h=>?_)
    ·refine Zk<|Z0<|Za<|Z0<|bH h fun z785 ez785 h=>bH h fun z786 ez786 h=>cH h fun c787 h=>cH h fun c788 h=>bH h fun z789 ez789 h=>bH h fun z790 ez790 h=>bH h fun z791 ez791 h=>bH h fun z792 ez792 h=>cH h fun c793 h=>bH h fun l794 el794 h=>Zu<|Z8 _ (Z0u rfl)<|Z8 _ (iz ez785 (Z9 rfl rfl rfl))<|Z8 _ (Z0u rfl)<|Z8 _ (iz ez786 (Z9 rfl rfl rfl))<|Z8 _ (Z0v rfl rfl (Z09 c787))<|Z8 _ (Z0u rfl)<|Z8 _ (Z0v rfl rfl (Z09 c788))<|Zq _ (iz ez789 (Z2e (base:=0) rfl .here rfl (Z01 c787)))<|Zq _ (iz ez790 (Z2e (base:=0) rfl .here rfl (Z01 c788)))<|Z8 _ (iz ez791 (Z4i rfl rfl (by decide)))<|Z8 _ (iz ez792 (Z9 rfl rfl rfl))<|Z8 _ (Z0v rfl rfl (Z09 c793))<|Z1b rfl (Z1e (q:=[.ints .u64 20 (l794)]) (base:=0) el794 rfl rfl rfl (Z01 c793) rfl .here<|Z03<|cH h fun c796 h=>bH h fun z797 ez797 h=>bH h fun z798 ez798 h=>cH h fun c799 h=>bH h fun l800 el800 h=>Z2<|Z7 rfl<|Z7 rfl<|Z6 _ (Z0v rfl rfl (Z09 c796))<|Z6 _ (iz ez797 (Z2e (base:=0) rfl .here rfl (Z01 c796)))<|Z6 _ (iz ez798 (Z9 rfl rfl rfl))<|Z6 _ (Z0v rfl rfl (Z09 c799))<|Zd (Z1e (q:=[.ints .u64 20 (l800)]) (base:=0) el800 rfl rfl rfl (Z01 c799) rfl .here<|Z1<|bH h fun z802 ez802 h=>Z2<|Z7 rfl<|Z6 _ (iz ez802 (Z9 rfl rfl rfl))<|Z7 rfl<|Z1 ?_))
     rw [qk780] at h
     exact ⟨n781,Nat.lt_succ_self _,z802,l800,h,⟨⟨rfl,rfl,rfl,trivial⟩,(.one .here (.one .here (.one .here (.one .here .nil))))⟩⟩
    ·exact Zv _ rfl<|⟨a779,h,⟨⟨rfl,rfl,trivial⟩,(.one .here (.one .here (.one .here (.one .here .nil))))⟩⟩
  ·rintro t m ⟨a741,h,hF⟩
   refine Zg hF ?_
   clear hF
   subst qk742
   refine Z0<|Z2<|Zd (Zr fun b804 hb804=>Z1<|Z0<|Z0<|Z2<|Z7 rfl<|Z1<|jH h fun k849 qk849 h=>Zh (G:=fun t m=>∃ (a848:List Int),k849 a848=some r∧Fit [(4,.pointer (some ⟨b4,0,none⟩)),(9,.pointer (some ⟨b804,0,none⟩))] (ck b804 88 [.ints .u64 10 (a848)]::(ck b6 205 [.ints .u64 20 (a741)]::(ck b4 88 [.ints .u64 10 ((List.replicate 10 0))]::(ck b3 88 [.ints .u64 10 (p1)]::(ck b2 88 [.ints .u64 10 (p0)] :: []))))) t m) ?_ ?_)
   ·refine Za<|Zo (fun n877 t m=>∃ (i874:Int) (a875:List Int),Z8u a741 k849 n877 i874 a875=some r∧Fit [(4,.pointer (some ⟨b4,0,none⟩)),(5,.pointer (some ⟨b6,0,none⟩)),(9,.pointer (some ⟨b804,0,none⟩)),(10,.int .i64 (i874))] (ck b804 88 [.ints .u64 10 (a875)]::(ck b6 205 [.ints .u64 20 (a741)]::(ck b4 88 [.ints .u64 10 ((List.replicate 10 0))]::(ck b3 88 [.ints .u64 10 (p1)]::(ck b2 88 [.ints .u64 10 (p0)] :: []))))) t m) big ?_ ?_
    ·exact ⟨0,(List.replicate 10 0),h,⟨⟨rfl,rfl,rfl,rfl,trivial⟩,(.one .here (.one .here (.one .here (.one .here (.one .here .nil)))))⟩⟩
    ·rintro n877 t m ⟨i874,a875,h,hF⟩
     refine Zg hF ?_
     clear hF
     rcases n877 with _ | n877
     · exact Z05 h
     have h:Zjw a741 k849 (Z8u a741 k849 n877) i874 a875=some r:=h
     unfold Zjw at h
     obtain ⟨k876,qk876⟩ : ∃ k,k=Z8u a741 k849 n877:=⟨_,rfl⟩
     try rw [← qk876] at h
     refine Z0<|Z0<|Z2<|Z7 rfl<|Z6 _ (Z9 rfl rfl rfl)<|Z1<|Z07 h rfl (fun h=>?_) (fun h=>?_)
     ·refine Zk<|Z0<|Za<|cH h fun c881 h=>bH h fun z882 ez882 h=>cH h fun c883 h=>bH h fun z884 ez884 h=>bH h fun z885 ez885 h=>bH h fun z886 ez886 h=>bH h fun z887 ez887 h=>cH h fun c888 h=>bH h fun l889 el889 h=>Zu<|Z8 _ (Z0u rfl)<|Z8 _ (Z0u rfl)<|Z8 _ (Z0v rfl rfl (Z09 c881))<|Z8 _ (Z0u rfl)<|Z8 _ (iz ez882 (Z9 rfl rfl rfl))<|Z8 _ (Z0v rfl rfl (Z09 c883))<|Zq _ (iz ez884 (Z2e (base:=0) rfl (.there .here) rfl (Z01 c881)))<|Zq _ (iz ez885 (Z2e (base:=0) rfl (.there .here) rfl (Z01 c883)))<|Z8 _ (iz ez886 (Z9 rfl rfl rfl))<|Z8 _ (iz ez887 (Z9 rfl rfl rfl))<|Z8 _ (Z0v rfl rfl (Z09 c888))<|Z1b rfl (Z1e (q:=[.ints .u64 10 (l889)]) (base:=0) el889 rfl rfl rfl (Z01 c888) rfl .here<|Z03<|bH h fun z891 ez891 h=>Z2<|Z7 rfl<|Z6 _ (iz ez891 (Z9 rfl rfl rfl))<|Z7 rfl<|Z1 ?_)
      rw [qk876] at h
      exact ⟨n877,Nat.lt_succ_self _,z891,l889,h,⟨⟨rfl,rfl,rfl,rfl,trivial⟩,(.one .here (.one .here (.one .here (.one .here (.one .here .nil)))))⟩⟩
     ·exact Zv _ rfl<|⟨a875,h,⟨⟨rfl,rfl,trivial⟩,(.one .here (.one .here (.one .here (.one .here (.one .here .nil)))))⟩⟩
   ·rintro t m ⟨a848,h,hF⟩
    refine Zg hF ?_
    clear hF
    subst qk849
    refine Z0<|oH h fun y893 ey893 h=>Z2<|Z6 _ (Z00 (p:=[.ints .u64 10 (a848)]) rfl .here rfl)<|Z6 _ (Z0g rfl (Z9h ey893))<|Zd (Zp (q:=[.ints .u64 10 (y893)]) rfl rfl rfl rfl rfl (.there (.there .here))<|Z1<|Zm ?_)
    revert h; refine Zw fun h=>?_
    subst h
    exact ⟨_,(.cons (.agg rfl (.there (.there .here)) rfl) .nil),rfl⟩
def Z5c (p0:Int):OL :=
 bnd (Z4 .and .u64 p0 67108863) fun z4 =>
 bnd (Zn .u64 p0 26) fun z5 =>
 bnd (Z4 .and .u64 z5 67108863) fun z6 =>
 bnd (Zn .u64 p0 52) fun z7 =>
 bnd (([z4,z6,z7,0,0,0,0,0,0,0]:List Int)) fun z8 =>
 some z8
theorem Z2r {W:World} {r:(List Int)} {p0:Int} (h:Z5c p0=some r)  :
    Calls Tryz.prog 176 [.int .u64 (p0)].toArray W (Z2s W (agg [.ints .u64 10 (r)])):=by
 unfold Z5c at h
 refine Zc mo Z0ze rfl ?_
 refine Z0<|Z2<|Zd (Zr fun b2 hb2=>Z1<|Z0<|bH h fun z4 ez4 h=>bH h fun z5 ez5 h=>bH h fun z6 ez6 h=>bH h fun z7 ez7 h=>bH h fun z8 ez8 h=>Z2<|Z7 rfl<|Z6 _ (iz ez4 (Z9 rfl rfl rfl))<|Z7 rfl<|Z6 _ (iz ez5 (Z4i rfl rfl (by decide)))<|Z6 _ (iz ez6 (Z9 rfl rfl rfl))<|Z7 rfl<|Z6 _ (iz ez7 (Z4i rfl rfl (by decide)))<|Z6 _ (az (fun z=>agg [.ints .u64 10 z]) ez8 (Zgu (.one rfl rfl rfl (.one rfl rfl rfl (.one rfl rfl rfl BdR.nil)))))<|Zd (Zp (q:=[.ints .u64 10 (z8)]) rfl rfl rfl rfl rfl .here<|Z1<|Zm ?_))
 revert h; refine Zw fun h=>?_
 subst h
 exact ⟨_,(.cons (.agg rfl .here rfl) .nil),rfl⟩
def Zbq (p0:List Int) (p1:List Int) (k102:(List Int)→OL) (k161:(Int)→(List Int)→OL) (i159:Int) (a160:List Int):OL :=
 br ((decide (i159≥0))) (
 jn (fun (a178:List Int)=>bnd (IntKind.wrap .i64 (i159-1)) fun z194 =>
 k161 z194 a178) fun k179=>opt (Z1p a160 a160) fun y181 =>
 bnd (IntKind.wrap .i64 (Int.tdiv i159 8)) fun z183 =>
 chk (inB z183 32) <|
 bnd (p1.getD (z183).toNat 0) fun z185 =>
 bnd (Int.tmod i159 8) fun z186 =>
 chk (decide (0≤z186)) <|
 bnd (Zn .u8 z185 z186) fun z188 =>
 bnd (Z4 .and .u8 z188 1) fun z189 =>
 br ((z189==1)) (
 opt (Z1p y181 p0) fun y192 =>
 k179 y192
 ) (
 k179 y181
 )
 ) (
 k102 a160
 )
def Z7k (p0:List Int) (p1:List Int) (k102:(List Int)→OL):Nat→(Int)→(List Int)→OL
  | 0,_,_=>none
  | n+1,i159,a160=>Zbq p0 p1 k102 (Z7k p0 p1 k102 n) i159 a160
def Zjy (p0:List Int) (p1:List Int):OL :=
 opt (Z5c 1) fun y6 =>
 jn (fun (a101:List Int)=>some a101) fun k102=>Z7k p0 p1 k102 big 255 y6
theorem Zfo {W:World} {r:(List Int)} {p0:List Int} {p1:List Int} (h:Zjy p0 p1=some r)  :
    Calls Tryz.prog 170 [agg [.ints .u64 10 (p0)],agg [.ints .u8 32 (p1)]].toArray W (Z2s W (agg [.ints .u64 10 (r)])):=by
 unfold Zjy at h
 refine Zc mo Z0z8 rfl ?_
 refine Z0<|Z2<|Zd (Z0e (s:=[.ints .u64 10 (p0)]) rfl fun b2 hb2=>Zd (Z0e (s:=[.ints .u8 32 (p1)]) rfl fun b3 hb3=>Zd (Zr fun b4 hb4=>Z1<|Z0<|oH h fun y6 ey6 h=>Z2<|Z6 _ (Z0g rfl (Z2r ey6))<|Zd (Zr fun b7 hb7=>Zd (Zp (q:=[.ints .u64 10 (y6)]) rfl rfl rfl rfl rfl .here<|Z1<|Z0<|Z0<|Z2<|Z7 rfl<|Z1<|jH h fun k102 qk102 h=>Zh (G:=fun t m=>∃ (a101:List Int),k102 a101=some r∧Fit [(4,.pointer (some ⟨b4,0,none⟩)),(5,.pointer (some ⟨b7,0,none⟩))] (ck b7 88 [.ints .u64 10 (a101)]::(ck b4 88 [.ints .u64 10 ((List.replicate 10 0))]::(ck b3 22 [.ints .u8 32 (p1)]::(ck b2 88 [.ints .u64 10 (p0)] :: [])))) t m) ?_ ?_)))))
 ·refine Za<|Zo (fun n162 t m=>∃ (i159:Int) (a160:List Int),Z7k p0 p1 k102 n162 i159 a160=some r∧Fit [(2,.pointer (some ⟨b2,0,none⟩)),(3,.pointer (some ⟨b3,0,none⟩)),(4,.pointer (some ⟨b4,0,none⟩)),(5,.pointer (some ⟨b7,0,none⟩)),(6,.int .i64 (i159))] (ck b7 88 [.ints .u64 10 (a160)]::(ck b4 88 [.ints .u64 10 ((List.replicate 10 0))]::(ck b3 22 [.ints .u8 32 (p1)]::(ck b2 88 [.ints .u64 10 (p0)] :: [])))) t m) big ?_ ?_
  ·exact ⟨255,y6,h,⟨⟨rfl,rfl,rfl,rfl,rfl,trivial⟩,(.one .here (.one .here (.one .here (.one .here .nil))))⟩⟩
  ·rintro n162 t m ⟨i159,a160,h,hF⟩
   refine Zg hF ?_
   clear hF
   rcases n162 with _ | n162
   · exact Z05 h
   have h:Zbq p0 p1 k102 (Z7k p0 p1 k102 n162) i159 a160=some r:=h
   unfold Zbq at h
   obtain ⟨k161,qk161⟩ : ∃ k,k=Z7k p0 p1 k102 n162:=⟨_,rfl⟩
   try rw [← qk161] at h
   refine Z0<|Z0<|Z2<|Z7 rfl<|Z6 _ (Z9 rfl rfl rfl)<|Z1<|Z07 h rfl (fun h=>?_) (fun h=>?_)
   ·refine Zk<|Z0<|jH h fun k179 qk179 h=>Zh (G:=fun t m=>∃ (a178:List Int),k179 a178=some r∧Fit [(2,.pointer (some ⟨b2,0,none⟩)),(3,.pointer (some ⟨b3,0,none⟩)),(4,.pointer (some ⟨b4,0,none⟩)),(5,.pointer (some ⟨b7,0,none⟩)),(6,.int .i64 (i159))] (ck b7 88 [.ints .u64 10 (a178)]::(ck b4 88 [.ints .u64 10 ((List.replicate 10 0))]::(ck b3 22 [.ints .u8 32 (p1)]::(ck b2 88 [.ints .u64 10 (p0)] :: [])))) t m) ?_ ?_
    ·refine Za<|Z0<|oH h fun y181 ey181 h=>Z2<|Z6 _ (Z00 (p:=[.ints .u64 10 (a160)]) rfl .here rfl)<|Z6 _ (Z00 (p:=[.ints .u64 10 (a160)]) rfl .here rfl)<|Z6 _ (Z0g rfl (Z04 ey181))<|Zd (Zp (q:=[.ints .u64 10 (y181)]) rfl rfl rfl rfl rfl .here<|Z1<|Z0<|bH h fun z183 ez183 h=>cH h fun c184 h=>bH h fun z185 ez185 h=>bH h fun z186 ez186 h=>cH h fun c187 h=>bH h fun z188 ez188 h=>bH h fun z189 ez189 h=>Z2<|Z7 rfl<|Z6 _ (iz ez183 (Z98 rfl rfl (by decide)))<|Z6 _ (Z0v rfl rfl (Z09 c184))<|Z6 _ (iz ez185 (Z2e (base:=0) rfl (.there (.there .here)) rfl (Z01 c184)))<|Z7 rfl<|Z6 _ (iz ez186 (Zah rfl rfl (by decide)))<|Z6 _ (iz ez188 (Z4i rfl rfl (of_decide_eq_true c187)))<|Z6 _ (iz ez189 (Z9 rfl rfl rfl))<|Z6 _ (Z9 rfl rfl rfl)<|Z1<|Z07 h rfl (fun h=>?_) (fun h=>?_))
     ·exact oH h fun y192 ey192 h=>Z2<|Z6 _ (Z00 (p:=[.ints .u64 10 (y181)]) rfl .here rfl)<|Z6 _ (Z00 (p:=[.ints .u64 10 (p0)]) rfl (.there (.there (.there .here))) rfl)<|Z6 _ (Z0g rfl (Z04 ey192))<|Zd (Zp (q:=[.ints .u64 10 (y192)]) rfl rfl rfl rfl rfl .here<|Z1<|⟨y192,h,⟨⟨rfl,rfl,rfl,rfl,rfl,trivial⟩,(.one .here (.one .here (.one .here (.one .here .nil))))⟩⟩)
     ·exact Zk<|⟨y181,h,⟨⟨rfl,rfl,rfl,rfl,rfl,trivial⟩,(.one .here (.one .here (.one .here (.one .here .nil))))⟩⟩
    ·rintro t m ⟨a178,h,hF⟩
     refine Zg hF ?_
     clear hF
     subst qk179
     refine bH h fun z194 ez194 h=>Z2<|Z7 rfl<|Z6 _ (iz ez194 (Z9 rfl rfl rfl))<|Z7 rfl<|Z1 ?_
     rw [qk161] at h
     exact ⟨n162,Nat.lt_succ_self _,z194,a178,h,⟨⟨rfl,rfl,rfl,rfl,rfl,trivial⟩,(.one .here (.one .here (.one .here (.one .here .nil))))⟩⟩
   ·exact Zv _ rfl<|⟨a160,h,⟨⟨rfl,rfl,trivial⟩,(.one .here (.one .here (.one .here (.one .here .nil))))⟩⟩
 ·rintro t m ⟨a101,h,hF⟩
  refine Zg hF ?_
  clear hF
  subst qk102
  refine Z0<|Z2<|Z6 _ (Z00 (p:=[.ints .u64 10 (a101)]) rfl .here rfl)<|Zd (Zp (q:=[.ints .u64 10 (a101)]) rfl rfl rfl rfl rfl (.there .here)<|Z1<|Zm ?_)
  revert h; refine Zw fun h=>?_
  subst h
  exact ⟨_,(.cons (.agg rfl (.there .here) rfl) .nil),rfl⟩
def Zfp (k31:(List Int)→OL) (k47:(Int)→(List Int)→OL) (i45:Int) (a46:List Int):OL :=
 br ((decide (i45<32))) (
 chk (inB i45 32) <|
 bnd (Z21 a46 (i45).toNat 255) fun l53 =>
 bnd (IntKind.wrap .i64 (i45+1)) fun z55 =>
 k47 z55 l53
 ) (
 k31 a46
 )
def Zab (k31:(List Int)→OL):Nat→(Int)→(List Int)→OL
  | 0,_,_=>none
  | n+1,i45,a46=>Zfp k31 (Zab k31 n) i45 a46
def Zav (p0:Int) (p1:Int):OL :=
 jn (fun (a30:List Int)=>bnd (Z21 a30 0 p0) fun l57 =>
 bnd (Z21 l57 31 p1) fun l59 =>
 some l59) fun k31=>Zab k31 big 0 (List.replicate 32 0)
theorem Zcj {W:World} {r:(List Int)} {p0:Int} {p1:Int} (h:Zav p0 p1=some r)  :
    Calls Tryz.prog 171 [.int .u8 (p0),.int .u8 (p1)].toArray W (Z2s W (agg [.ints .u8 32 (r)])):=by
 unfold Zav at h
 refine Zc mo Z0z9 rfl ?_
 refine Z0<|Z2<|Zd (Zr fun b2 hb2=>Z1<|Z0<|Z2<|Zd (Zr fun b4 hb4=>Z1<|Z0<|Z0<|Z2<|Z7 rfl<|Z1<|jH h fun k31 qk31 h=>Zh (G:=fun t m=>∃ (a30:List Int),k31 a30=some r∧Fit [(0,.int .u8 (p0)),(1,.int .u8 (p1)),(4,.pointer (some ⟨b2,0,none⟩)),(5,.pointer (some ⟨b4,0,none⟩))] (ck b4 22 [.ints .u8 32 (a30)]::(ck b2 22 [.ints .u8 32 ((List.replicate 32 0))] :: [])) t m) ?_ ?_))
 ·refine Za<|Zo (fun n48 t m=>∃ (i45:Int) (a46:List Int),Zab k31 n48 i45 a46=some r∧Fit [(0,.int .u8 (p0)),(1,.int .u8 (p1)),(4,.pointer (some ⟨b2,0,none⟩)),(5,.pointer (some ⟨b4,0,none⟩)),(6,.int .i64 (i45))] (ck b4 22 [.ints .u8 32 (a46)]::(ck b2 22 [.ints .u8 32 ((List.replicate 32 0))] :: [])) t m) big ?_ ?_
  ·exact ⟨0,(List.replicate 32 0),h,⟨⟨rfl,rfl,rfl,rfl,rfl,trivial⟩,(.one .here (.one .here .nil))⟩⟩
  ·rintro n48 t m ⟨i45,a46,h,hF⟩
   refine Zg hF ?_
   clear hF
   rcases n48 with _ | n48
   · exact Z05 h
   have h:Zfp k31 (Zab k31 n48) i45 a46=some r:=h
   unfold Zfp at h
   obtain ⟨k47,qk47⟩ : ∃ k,k=Zab k31 n48:=⟨_,rfl⟩
   try rw [← qk47] at h
   refine Z0<|Z0<|Z2<|Z7 rfl<|Z6 _ (Z9 rfl rfl rfl)<|Z1<|Z07 h rfl (fun h=>?_) (fun h=>?_)
   ·refine Zk<|Z0<|Za<|cH h fun c52 h=>bH h fun l53 el53 h=>Z2<|Z7 rfl<|Z6 _ (Z0v rfl rfl (Z09 c52))<|Zd (Z1e (q:=[.ints .u8 32 (l53)]) (base:=0) el53 rfl rfl rfl (Z01 c52) rfl .here<|Z1<|bH h fun z55 ez55 h=>Z2<|Z7 rfl<|Z6 _ (iz ez55 (Z9 rfl rfl rfl))<|Z7 rfl<|Z1 ?_)
    rw [qk47] at h
    exact ⟨n48,Nat.lt_succ_self _,z55,l53,h,⟨⟨rfl,rfl,rfl,rfl,rfl,trivial⟩,(.one .here (.one .here .nil))⟩⟩
   ·exact Zv _ rfl<|⟨a46,h,⟨⟨rfl,rfl,rfl,rfl,trivial⟩,(.one .here (.one .here .nil))⟩⟩
 ·rintro t m ⟨a30,h,hF⟩
  refine Zg hF ?_
  clear hF
  subst qk31
  refine Z0<|bH h fun l57 el57 h=>Z2<|Z7 rfl<|Z6 _ (Z0v rfl rfl (by decide))<|Zd (Z5i (q:=[.ints .u8 32 (l57)]) (congrArg (fun z=>([.ints .u8 32 (z)]:List Seg)) el57.symm) rfl rfl rfl rfl .here<|Z1<|Z0<|bH h fun l59 el59 h=>Z2<|Z7 rfl<|Z6 _ (Z0v rfl rfl (by decide))<|Zd (Z5i (q:=[.ints .u8 32 (l59)]) (congrArg (fun z=>([.ints .u8 32 (z)]:List Seg)) el59.symm) rfl rfl rfl rfl .here<|Z1<|Z0<|Z2<|Z6 _ (Z00 (p:=[.ints .u8 32 (l59)]) rfl .here rfl)<|Zd (Zp (q:=[.ints .u8 32 (l59)]) rfl rfl rfl rfl rfl (.there .here)<|Z1<|Zm ?_)))
  revert h; refine Zw fun h=>?_
  subst h
  exact ⟨_,(.cons (.agg rfl (.there .here) rfl) .nil),rfl⟩
def Z8s (p0:List Int):OL :=
 opt (Zav 235 127) fun y5 =>
 opt (Zjy p0 y5) fun y6 =>
 some y6
theorem Zb5 {W:World} {r:(List Int)} {p0:List Int} (h:Z8s p0=some r)  :
    Calls Tryz.prog 102 [agg [.ints .u64 10 (p0)]].toArray W (Z2s W (agg [.ints .u64 10 (r)])):=by
 unfold Z8s at h
 refine Zc mo Z0xn rfl ?_
 refine Z0<|Z2<|Zd (Z0e (s:=[.ints .u64 10 (p0)]) rfl fun b2 hb2=>Zd (Zr fun b3 hb3=>Z1<|Z0<|oH h fun y5 ey5 h=>oH h fun y6 ey6 h=>Zu<|Z8 _ (Z0g rfl (Zcj ey5))<|Zq _ (Z00 (p:=[.ints .u64 10 (p0)]) rfl (.there .here) rfl)<|Z8 _ (Z0g rfl (Zfo ey6))<|Z1b rfl (Zp (q:=[.ints .u64 10 (y6)]) rfl rfl rfl rfl rfl .here<|Z03<|Zm ?_)))
 revert h; refine Zw fun h=>?_
 subst h
 exact ⟨_,(.cons (.agg rfl .here rfl) .nil),rfl⟩
def Za9 (p0:List Int) (k74:(List Int)→OL) (k115:(Int)→(List Int)→OL) (i113:Int) (a114:List Int):OL :=
 br ((decide (i113<255))) (
 bnd (IntKind.wrap .i64 (Int.tdiv i113 26)) fun z120 =>
 chk (inB z120 10) <|
 bnd (p0.getD (z120).toNat 0) fun z122 =>
 bnd (Int.tmod i113 26) fun z123 =>
 chk (decide (0≤z123)) <|
 bnd (Zn .u64 z122 z123) fun z125 =>
 bnd (Z4 .and .u64 z125 1) fun z126 =>
 bnd (IntKind.wrap .u8 z126) fun z127 =>
 bnd (IntKind.wrap .i64 (Int.tdiv i113 8)) fun z129 =>
 bnd (IntKind.wrap .i64 (Int.tdiv i113 8)) fun z130 =>
 chk (inB z130 32) <|
 bnd (Int.tmod i113 8) fun z132 =>
 chk (decide (0≤z132)) <|
 bnd (Zj .u8 z127 z132) fun z134 =>
 bnd (a114.getD (z130).toNat 0) fun z135 =>
 bnd (IntKind.wrap .u8 (z135+z134)) fun z136 =>
 chk (inB z129 32) <|
 bnd (Z21 a114 (z129).toNat z136) fun l138 =>
 bnd (IntKind.wrap .i64 (i113+1)) fun z140 =>
 k115 z140 l138
 ) (
 k74 a114
 )
def Z5o (p0:List Int) (k74:(List Int)→OL):Nat→(Int)→(List Int)→OL
  | 0,_,_=>none
  | n+1,i113,a114=>Za9 p0 k74 (Z5o p0 k74 n) i113 a114
def Zgf (p0:List Int):OL :=
 jn (fun (a73:List Int)=>some a73) fun k74=>Z5o p0 k74 big 0 (List.replicate 32 0)
theorem Zn1 {W:World} {r:(List Int)} {p0:List Int} (h:Zgf p0=some r)  :
    Calls Tryz.prog 103 [agg [.ints .u64 10 (p0)]].toArray W (Z2s W (agg [.ints .u8 32 (r)])):=by
 unfold Zgf at h
 refine Zc mo Z0xo rfl ?_
 refine Z0<|Z2<|Zd (Z0e (s:=[.ints .u64 10 (p0)]) rfl fun b2 hb2=>Zd (Zr fun b3 hb3=>Z1<|Z0<|Z2<|Zd (Zr fun b5 hb5=>Z1<|Z0<|Z0<|Z2<|Z7 rfl<|Z1<|jH h fun k74 qk74 h=>Zh (G:=fun t m=>∃ (a73:List Int),k74 a73=some r∧Fit [(2,.pointer (some ⟨b3,0,none⟩)),(3,.pointer (some ⟨b5,0,none⟩))] (ck b5 22 [.ints .u8 32 (a73)]::(ck b3 22 [.ints .u8 32 ((List.replicate 32 0))]::(ck b2 88 [.ints .u64 10 (p0)] :: []))) t m) ?_ ?_)))
 ·refine Za<|Zo (fun n116 t m=>∃ (i113:Int) (a114:List Int),Z5o p0 k74 n116 i113 a114=some r∧Fit [(1,.pointer (some ⟨b2,0,none⟩)),(2,.pointer (some ⟨b3,0,none⟩)),(3,.pointer (some ⟨b5,0,none⟩)),(4,.int .i64 (i113))] (ck b5 22 [.ints .u8 32 (a114)]::(ck b3 22 [.ints .u8 32 ((List.replicate 32 0))]::(ck b2 88 [.ints .u64 10 (p0)] :: []))) t m) big ?_ ?_
  ·exact ⟨0,(List.replicate 32 0),h,⟨⟨rfl,rfl,rfl,rfl,trivial⟩,(.one .here (.one .here (.one .here .nil)))⟩⟩
  ·rintro n116 t m ⟨i113,a114,h,hF⟩
   refine Zg hF ?_
   clear hF
   rcases n116 with _ | n116
   · exact Z05 h
   have h:Za9 p0 k74 (Z5o p0 k74 n116) i113 a114=some r:=h
   unfold Za9 at h
   obtain ⟨k115,qk115⟩ : ∃ k,k=Z5o p0 k74 n116:=⟨_,rfl⟩
   try rw [← qk115] at h
   refine Z0<|Z0<|Z2<|Z7 rfl<|Z6 _ (Z9 rfl rfl rfl)<|Z1<|Z07 h rfl (fun h=>?_) (fun h=>?_)
   ·refine Zk<|Z0<|Za<|Z0<|bH h fun z120 ez120 h=>cH h fun c121 h=>bH h fun z122 ez122 h=>bH h fun z123 ez123 h=>cH h fun c124 h=>bH h fun z125 ez125 h=>bH h fun z126 ez126 h=>bH h fun z127 ez127 h=>Z2<|Z7 rfl<|Z6 _ (iz ez120 (Z98 rfl rfl (by decide)))<|Z6 _ (Z0v rfl rfl (Z09 c121))<|Z6 _ (iz ez122 (Z2e (base:=0) rfl (.there (.there .here)) rfl (Z01 c121)))<|Z7 rfl<|Z6 _ (iz ez123 (Zah rfl rfl (by decide)))<|Z6 _ (iz ez125 (Z4i rfl rfl (of_decide_eq_true c124)))<|Z6 _ (iz ez126 (Z9 rfl rfl rfl))<|Z6 _ (iz ez127 (Z3k rfl))<|Z7 rfl<|Z1<|bH h fun z129 ez129 h=>bH h fun z130 ez130 h=>cH h fun c131 h=>bH h fun z132 ez132 h=>cH h fun c133 h=>bH h fun z134 ez134 h=>bH h fun z135 ez135 h=>bH h fun z136 ez136 h=>cH h fun c137 h=>bH h fun l138 el138 h=>Zu<|Z8 _ (Z0u rfl)<|Z8 _ (iz ez129 (Z98 rfl rfl (by decide)))<|Z8 _ (Z0u rfl)<|Z8 _ (iz ez130 (Z98 rfl rfl (by decide)))<|Z8 _ (Z0v rfl rfl (Z09 c131))<|Z8 _ (Z0u rfl)<|Z8 _ (Z0u rfl)<|Z8 _ (iz ez132 (Zah rfl rfl (by decide)))<|Z8 _ (iz ez134 (Zid rfl rfl (of_decide_eq_true c133)))<|Zq _ (iz ez135 (Z2e (base:=0) rfl .here rfl (Z01 c131)))<|Z8 _ (iz ez136 (Z9 rfl rfl rfl))<|Z8 _ (Z0v rfl rfl (Z09 c137))<|Z1b rfl (Z1e (q:=[.ints .u8 32 (l138)]) (base:=0) el138 rfl rfl rfl (Z01 c137) rfl .here<|Z03<|bH h fun z140 ez140 h=>Z2<|Z7 rfl<|Z6 _ (iz ez140 (Z9 rfl rfl rfl))<|Z7 rfl<|Z1 ?_)
    rw [qk115] at h
    exact ⟨n116,Nat.lt_succ_self _,z140,l138,h,⟨⟨rfl,rfl,rfl,rfl,trivial⟩,(.one .here (.one .here (.one .here .nil)))⟩⟩
   ·exact Zv _ rfl<|⟨a114,h,⟨⟨rfl,rfl,trivial⟩,(.one .here (.one .here (.one .here .nil)))⟩⟩
 ·rintro t m ⟨a73,h,hF⟩
  refine Zg hF ?_
  clear hF
  subst qk74
  refine Z0<|Z2<|Z6 _ (Z00 (p:=[.ints .u8 32 (a73)]) rfl .here rfl)<|Zd (Zp (q:=[.ints .u8 32 (a73)]) rfl rfl rfl rfl rfl (.there .here)<|Z1<|Zm ?_)
  revert h; refine Zw fun h=>?_
  subst h
  exact ⟨_,(.cons (.agg rfl (.there .here) rfl) .nil),rfl⟩
def Zer (p0:List Int):Option (Bool) :=
 bnd (p0.getD 0 0) fun z4 =>
 bnd (Z4 .and .u64 z4 1) fun z5 =>
 some (z5==1)
theorem Zgg {W:World} {r:Bool} {p0:List Int} (h:Zer p0=some r)  :
    Calls Tryz.prog 105 [agg [.ints .u64 10 (p0)]].toArray W (Z2s W (.bool (r))):=by
 unfold Zer at h
 refine Zc mo Z0xq rfl ?_
 refine Z0<|Z2<|Zd (Z0e (s:=[.ints .u64 10 (p0)]) rfl fun b2 hb2=>Z7 rfl<|Z1<|Z0<|bH h fun z4 ez4 h=>bH h fun z5 ez5 h=>Z2<|Z6 _ (Z0v rfl rfl (by decide))<|Z6 _ (iz ez4 (Z1a rfl .here rfl))<|Z6 _ (iz ez5 (Z9 rfl rfl rfl))<|Z6 _ (Z9 rfl rfl rfl)<|Z7 rfl<|Z1<|Zm ?_)
 revert h; refine Zw fun h=>?_
 subst h
 exact ⟨_,(.cons (.tmp rfl) .nil),rfl⟩
structure Z1s where
  gX:List Int
  gY:List Int
  gZ:List Int
def Z5s:Z1s:=⟨(List.replicate 10 0),(List.replicate 10 0),(List.replicate 10 0)⟩
def Zbw (p0:Z1s):OL :=
 opt (Z8s p0.gZ) fun y5 =>
 opt (Z1p p0.gY y5) fun y8 =>
 opt (Zgf y8) fun y9 =>
 opt (Z1p p0.gX y5) fun y12 =>
 opt (Zer y12) fun y13 =>
 jn (fun (a19:List Int)=>some a19) fun k20=>br (y13) (
 bnd (y9.getD 31 0) fun z23 =>
 bnd (IntKind.wrap .u8 (z23+128)) fun z24 =>
 bnd (Z21 y9 31 z24) fun l25 =>
 k20 l25
 ) (
 k20 y9
 )
theorem Zfd {W:World} {r:(List Int)} {p0:Z1s} (h:Zbw p0=some r)  :
    Calls Tryz.prog 54 [agg [.ints .u64 10 (p0.gX),.ints .u64 10 (p0.gY),.ints .u64 10 (p0.gZ)]].toArray W (Z2s W (agg [.ints .u8 32 (r)])):=by
 unfold Zbw at h
 refine Zc mo ok54 rfl ?_
 refine Z0<|Z2<|Zd (Z0e (s:=[.ints .u64 10 (p0.gX),.ints .u64 10 (p0.gY),.ints .u64 10 (p0.gZ)]) rfl fun b2 hb2=>Zd (Zr fun b3 hb3=>Z1<|Z0<|oH h fun y5 ey5 h=>Z2<|Z6 _ (Z4g rfl)<|Z6 _ (Z00 (p:=[.ints .u64 10 (p0.gZ)]) rfl (.there .here) rfl)<|Z6 _ (Z0g rfl (Zb5 ey5))<|Zd (Zr fun b6 hb6=>Zd (Zp (q:=[.ints .u64 10 (y5)]) rfl rfl rfl rfl rfl .here<|Z1<|Z0<|oH h fun y8 ey8 h=>oH h fun y9 ey9 h=>Z2<|Z6 _ (Z4g rfl)<|Z6 _ (Z00 (p:=[.ints .u64 10 (p0.gY)]) rfl (.there (.there .here)) rfl)<|Z6 _ (Z00 (p:=[.ints .u64 10 (y5)]) rfl .here rfl)<|Z6 _ (Z0g rfl (Z04 ey8))<|Z6 _ (Z0g rfl (Zn1 ey9))<|Zd (Zr fun b10 hb10=>Zd (Zp (q:=[.ints .u8 32 (y9)]) rfl rfl rfl rfl rfl .here<|Z1<|Z0<|Z0<|oH h fun y12 ey12 h=>oH h fun y13 ey13 h=>Z2<|Z6 _ (Z4g rfl)<|Z6 _ (Z00 (p:=[.ints .u64 10 (p0.gX)]) rfl (.there (.there (.there .here))) rfl)<|Z6 _ (Z00 (p:=[.ints .u64 10 (y5)]) rfl (.there .here) rfl)<|Z6 _ (Z0g rfl (Z04 ey12))<|Z6 _ (Z0g rfl (Zgg ey13))<|Z1<|jH h fun k20 qk20 h=>Zh (G:=fun t m=>∃ (a19:List Int),k20 a19=some r∧Fit [(2,.pointer (some ⟨b3,0,none⟩)),(4,.pointer (some ⟨b10,0,none⟩))] (ck b10 22 [.ints .u8 32 (a19)]::(ck b6 88 [.ints .u64 10 (y5)]::(ck b3 29 [.ints .u8 32 ((List.replicate 32 0))]::(ck b2 90 [.ints .u64 10 (p0.gX),.ints .u64 10 (p0.gY),.ints .u64 10 (p0.gZ)] :: [])))) t m) ?_ ?_))))))
 ·refine Z07 h rfl (fun h=>?_) (fun h=>?_)
  ·exact bH h fun z23 ez23 h=>bH h fun z24 ez24 h=>bH h fun l25 el25 h=>Z2<|Z6 _ (Z0v rfl rfl (by decide))<|Z6 _ (iz ez23 (Z1a rfl .here rfl))<|Z6 _ (iz ez24 (Z9 rfl rfl rfl))<|Z6 _ (Z0v rfl rfl (by decide))<|Zd (Z5i (q:=[.ints .u8 32 (l25)]) (congrArg (fun z=>([.ints .u8 32 (z)]:List Seg)) el25.symm) rfl rfl rfl rfl .here<|Z1<|⟨l25,h,⟨⟨rfl,rfl,trivial⟩,(.one .here (.one .here (.one .here (.one .here .nil))))⟩⟩)
  ·exact Zk<|⟨y9,h,⟨⟨rfl,rfl,trivial⟩,(.one .here (.one .here (.one .here (.one .here .nil))))⟩⟩
 ·rintro t m ⟨a19,h,hF⟩
  refine Zg hF ?_
  clear hF
  subst qk20
  refine Z0<|Z2<|Z6 _ (Z00 (p:=[.ints .u8 32 (a19)]) rfl .here rfl)<|Zd (Zp (q:=[.ints .u8 32 (a19)]) rfl rfl rfl rfl rfl (.there (.there .here))<|Z1<|Zm ?_)
  revert h; refine Zw fun h=>?_
  subst h
  exact ⟨_,(.cons (.agg rfl (.there (.there .here)) rfl) .nil),rfl⟩
def Zlo (p0:List Int):OL :=
 opt (Zcl) fun y5 =>
 opt (Z6t y5 p0) fun y6 =>
 opt (Z7i y6) fun y7 =>
 some y7
theorem Zjx {W:World} {r:(List Int)} {p0:List Int} (h:Zlo p0=some r)  :
    Calls Tryz.prog 142 [agg [.ints .u64 10 (p0)]].toArray W (Z2s W (agg [.ints .u64 10 (r)])):=by
 unfold Zlo at h
 refine Zc mo Z0yj rfl ?_
 refine Z0<|Z2<|Zd (Z0e (s:=[.ints .u64 10 (p0)]) rfl fun b2 hb2=>Zd (Zr fun b3 hb3=>Z1<|Z0<|oH h fun y5 ey5 h=>oH h fun y6 ey6 h=>oH h fun y7 ey7 h=>Zu<|Z8 _ (Z0g rfl (Zgh ey5))<|Zq _ (Z00 (p:=[.ints .u64 10 (p0)]) rfl (.there .here) rfl)<|Z8 _ (Z0g rfl (Zcy ey6))<|Z8 _ (Z0g rfl (Z9h ey7))<|Z1b rfl (Zp (q:=[.ints .u64 10 (y7)]) rfl rfl rfl rfl rfl .here<|Z03<|Zm ?_)))
 revert h; refine Zw fun h=>?_
 subst h
 exact ⟨_,(.cons (.agg rfl .here rfl) .nil),rfl⟩
def Zjv (p1:List Int) (k44:(List Int)→OL) (k68:(Int)→(List Int)→OL) (i66:Int) (a67:List Int):OL :=
 br ((decide (i66<10))) (
 chk (inB i66 10) <|
 chk (inB i66 10) <|
 bnd (a67.getD (i66).toNat 0) fun z75 =>
 bnd (p1.getD (i66).toNat 0) fun z76 =>
 bnd (IntKind.wrap .u64 (z75+z76)) fun z77 =>
 chk (inB i66 10) <|
 bnd (Z21 a67 (i66).toNat z77) fun l79 =>
 bnd (IntKind.wrap .i64 (i66+1)) fun z81 =>
 k68 z81 l79
 ) (
 k44 a67
 )
def Zbo (p1:List Int) (k44:(List Int)→OL):Nat→(Int)→(List Int)→OL
  | 0,_,_=>none
  | n+1,i66,a67=>Zjv p1 k44 (Zbo p1 k44 n) i66 a67
def Zcx (p0:List Int) (p1:List Int):OL :=
 jn (fun (a43:List Int)=>opt (Z7i a43) fun y83 =>
 some y83) fun k44=>Zbo p1 k44 big 0 p0
theorem Z5n {W:World} {r:(List Int)} {p0:List Int} {p1:List Int} (h:Zcx p0 p1=some r)  :
    Calls Tryz.prog 194 [agg [.ints .u64 10 (p0)],agg [.ints .u64 10 (p1)]].toArray W (Z2s W (agg [.ints .u64 10 (r)])):=by
 unfold Zcx at h
 refine Zc mo Z0zq rfl ?_
 refine Z0<|Z2<|Zd (Z0e (s:=[.ints .u64 10 (p0)]) rfl fun b2 hb2=>Zd (Z0e (s:=[.ints .u64 10 (p1)]) rfl fun b3 hb3=>Zd (Zr fun b4 hb4=>Z1<|Z0<|Z0<|Z2<|Z7 rfl<|Z1<|jH h fun k44 qk44 h=>Zh (G:=fun t m=>∃ (a43:List Int),k44 a43=some r∧Fit [(2,.pointer (some ⟨b2,0,none⟩)),(4,.pointer (some ⟨b4,0,none⟩))] (ck b4 88 [.ints .u64 10 ((List.replicate 10 0))]::(ck b3 88 [.ints .u64 10 (p1)]::(ck b2 88 [.ints .u64 10 (a43)] :: []))) t m) ?_ ?_)))
 ·refine Za<|Zo (fun n69 t m=>∃ (i66:Int) (a67:List Int),Zbo p1 k44 n69 i66 a67=some r∧Fit [(2,.pointer (some ⟨b2,0,none⟩)),(3,.pointer (some ⟨b3,0,none⟩)),(4,.pointer (some ⟨b4,0,none⟩)),(5,.int .i64 (i66))] (ck b4 88 [.ints .u64 10 ((List.replicate 10 0))]::(ck b3 88 [.ints .u64 10 (p1)]::(ck b2 88 [.ints .u64 10 (a67)] :: []))) t m) big ?_ ?_
  ·exact ⟨0,p0,h,⟨⟨rfl,rfl,rfl,rfl,trivial⟩,(.one .here (.one .here (.one .here .nil)))⟩⟩
  ·rintro n69 t m ⟨i66,a67,h,hF⟩
   refine Zg hF ?_
   clear hF
   rcases n69 with _ | n69
   · exact Z05 h
   have h:Zjv p1 k44 (Zbo p1 k44 n69) i66 a67=some r:=h
   unfold Zjv at h
   obtain ⟨k68,qk68⟩ : ∃ k,k=Zbo p1 k44 n69:=⟨_,rfl⟩
   try rw [← qk68] at h
   refine Z0<|Z0<|Z2<|Z7 rfl<|Z6 _ (Z9 rfl rfl rfl)<|Z1<|Z07 h rfl (fun h=>?_) (fun h=>?_)
   ·refine Zk<|Z0<|Za<|cH h fun c73 h=>cH h fun c74 h=>bH h fun z75 ez75 h=>bH h fun z76 ez76 h=>bH h fun z77 ez77 h=>cH h fun c78 h=>bH h fun l79 el79 h=>Zu<|Z8 _ (Z0u rfl)<|Z8 _ (Z0u rfl)<|Z8 _ (Z0v rfl rfl (Z09 c73))<|Z8 _ (Z0u rfl)<|Z8 _ (Z0v rfl rfl (Z09 c74))<|Zq _ (iz ez75 (Z2e (base:=0) rfl (.there (.there .here)) rfl (Z01 c73)))<|Zq _ (iz ez76 (Z2e (base:=0) rfl (.there .here) rfl (Z01 c74)))<|Z8 _ (iz ez77 (Z9 rfl rfl rfl))<|Z8 _ (Z0v rfl rfl (Z09 c78))<|Z1b rfl (Z1e (q:=[.ints .u64 10 (l79)]) (base:=0) el79 rfl rfl rfl (Z01 c78) rfl (.there (.there .here))<|Z03<|bH h fun z81 ez81 h=>Z2<|Z7 rfl<|Z6 _ (iz ez81 (Z9 rfl rfl rfl))<|Z7 rfl<|Z1 ?_)
    rw [qk68] at h
    exact ⟨n69,Nat.lt_succ_self _,z81,l79,h,⟨⟨rfl,rfl,rfl,rfl,trivial⟩,(.one .here (.one .here (.one .here .nil)))⟩⟩
   ·exact Zv _ rfl<|⟨a67,h,⟨⟨rfl,rfl,trivial⟩,(.one .here (.one .here (.one .here .nil)))⟩⟩
 ·rintro t m ⟨a43,h,hF⟩
  refine Zg hF ?_
  clear hF
  subst qk44
  refine Z0<|oH h fun y83 ey83 h=>Z2<|Z6 _ (Z00 (p:=[.ints .u64 10 (a43)]) rfl (.there (.there .here)) rfl)<|Z6 _ (Z0g rfl (Z9h ey83))<|Zd (Zp (q:=[.ints .u64 10 (y83)]) rfl rfl rfl rfl rfl .here<|Z1<|Zm ?_)
  revert h; refine Zw fun h=>?_
  subst h
  exact ⟨_,(.cons (.agg rfl .here rfl) .nil),rfl⟩
def Zhv (p0:List Int) (p1:List Int):OL :=
 opt (Zlo p1) fun y6 =>
 opt (Zcx p0 y6) fun y7 =>
 some y7
theorem Zck {W:World} {r:(List Int)} {p0:List Int} {p1:List Int} (h:Zhv p0 p1=some r)  :
    Calls Tryz.prog 193 [agg [.ints .u64 10 (p0)],agg [.ints .u64 10 (p1)]].toArray W (Z2s W (agg [.ints .u64 10 (r)])):=by
 unfold Zhv at h
 refine Zc mo Z0zp rfl ?_
 refine Z0<|Z2<|Zd (Z0e (s:=[.ints .u64 10 (p0)]) rfl fun b2 hb2=>Zd (Z0e (s:=[.ints .u64 10 (p1)]) rfl fun b3 hb3=>Zd (Zr fun b4 hb4=>Z1<|Z0<|oH h fun y6 ey6 h=>oH h fun y7 ey7 h=>Zu<|Zq _ (Z00 (p:=[.ints .u64 10 (p0)]) rfl (.there (.there .here)) rfl)<|Zq _ (Z00 (p:=[.ints .u64 10 (p1)]) rfl (.there .here) rfl)<|Z8 _ (Z0g rfl (Zjx ey6))<|Z8 _ (Z0g rfl (Z5n ey7))<|Z1b rfl (Zp (q:=[.ints .u64 10 (y7)]) rfl rfl rfl rfl rfl .here<|Z03<|Zm ?_))))
 revert h; refine Zw fun h=>?_
 subst h
 exact ⟨_,(.cons (.agg rfl .here rfl) .nil),rfl⟩
def Z5p (p0:List Int) (k74:(List Int)→OL) (k115:(Int)→(List Int)→OL) (i113:Int) (a114:List Int):OL :=
 br ((decide (i113<255))) (
 bnd (IntKind.wrap .i64 (Int.tdiv i113 8)) fun z120 =>
 chk (inB z120 32) <|
 bnd (p0.getD (z120).toNat 0) fun z122 =>
 bnd (Int.tmod i113 8) fun z123 =>
 chk (decide (0≤z123)) <|
 bnd (Zn .u8 z122 z123) fun z125 =>
 bnd (Z4 .and .u8 z125 1) fun z126 =>
 bnd (IntKind.wrap .u64 z126) fun z127 =>
 bnd (IntKind.wrap .i64 (Int.tdiv i113 26)) fun z129 =>
 bnd (IntKind.wrap .i64 (Int.tdiv i113 26)) fun z130 =>
 chk (inB z130 10) <|
 bnd (Int.tmod i113 26) fun z132 =>
 chk (decide (0≤z132)) <|
 bnd (Zj .u64 z127 z132) fun z134 =>
 bnd (a114.getD (z130).toNat 0) fun z135 =>
 bnd (IntKind.wrap .u64 (z135+z134)) fun z136 =>
 chk (inB z129 10) <|
 bnd (Z21 a114 (z129).toNat z136) fun l138 =>
 bnd (IntKind.wrap .i64 (i113+1)) fun z140 =>
 k115 z140 l138
 ) (
 k74 a114
 )
def Z31 (p0:List Int) (k74:(List Int)→OL):Nat→(Int)→(List Int)→OL
  | 0,_,_=>none
  | n+1,i113,a114=>Z5p p0 k74 (Z31 p0 k74 n) i113 a114
def Z8r (p0:List Int):OL :=
 jn (fun (a73:List Int)=>opt (Z7i a73) fun y142 =>
 some y142) fun k74=>Z31 p0 k74 big 0 (List.replicate 10 0)
theorem Zh9 {W:World} {r:(List Int)} {p0:List Int} (h:Z8r p0=some r)  :
    Calls Tryz.prog 139 [agg [.ints .u8 32 (p0)]].toArray W (Z2s W (agg [.ints .u64 10 (r)])):=by
 unfold Z8r at h
 refine Zc mo Z0yg rfl ?_
 refine Z0<|Z2<|Zd (Z0e (s:=[.ints .u8 32 (p0)]) rfl fun b2 hb2=>Zd (Zr fun b3 hb3=>Z1<|Z0<|Z2<|Zd (Zr fun b5 hb5=>Z1<|Z0<|Z0<|Z2<|Z7 rfl<|Z1<|jH h fun k74 qk74 h=>Zh (G:=fun t m=>∃ (a73:List Int),k74 a73=some r∧Fit [(2,.pointer (some ⟨b3,0,none⟩)),(3,.pointer (some ⟨b5,0,none⟩))] (ck b5 88 [.ints .u64 10 (a73)]::(ck b3 88 [.ints .u64 10 ((List.replicate 10 0))]::(ck b2 22 [.ints .u8 32 (p0)] :: []))) t m) ?_ ?_)))
 ·refine Za<|Zo (fun n116 t m=>∃ (i113:Int) (a114:List Int),Z31 p0 k74 n116 i113 a114=some r∧Fit [(1,.pointer (some ⟨b2,0,none⟩)),(2,.pointer (some ⟨b3,0,none⟩)),(3,.pointer (some ⟨b5,0,none⟩)),(4,.int .i64 (i113))] (ck b5 88 [.ints .u64 10 (a114)]::(ck b3 88 [.ints .u64 10 ((List.replicate 10 0))]::(ck b2 22 [.ints .u8 32 (p0)] :: []))) t m) big ?_ ?_
  ·exact ⟨0,(List.replicate 10 0),h,⟨⟨rfl,rfl,rfl,rfl,trivial⟩,(.one .here (.one .here (.one .here .nil)))⟩⟩
  ·rintro n116 t m ⟨i113,a114,h,hF⟩
   refine Zg hF ?_
   clear hF
   rcases n116 with _ | n116
   · exact Z05 h
   have h:Z5p p0 k74 (Z31 p0 k74 n116) i113 a114=some r:=h
   unfold Z5p at h
   obtain ⟨k115,qk115⟩ : ∃ k,k=Z31 p0 k74 n116:=⟨_,rfl⟩
   try rw [← qk115] at h
   refine Z0<|Z0<|Z2<|Z7 rfl<|Z6 _ (Z9 rfl rfl rfl)<|Z1<|Z07 h rfl (fun h=>?_) (fun h=>?_)
   ·refine Zk<|Z0<|Za<|Z0<|bH h fun z120 ez120 h=>cH h fun c121 h=>bH h fun z122 ez122 h=>bH h fun z123 ez123 h=>cH h fun c124 h=>bH h fun z125 ez125 h=>bH h fun z126 ez126 h=>bH h fun z127 ez127 h=>Z2<|Z7 rfl<|Z6 _ (iz ez120 (Z98 rfl rfl (by decide)))<|Z6 _ (Z0v rfl rfl (Z09 c121))<|Z6 _ (iz ez122 (Z2e (base:=0) rfl (.there (.there .here)) rfl (Z01 c121)))<|Z7 rfl<|Z6 _ (iz ez123 (Zah rfl rfl (by decide)))<|Z6 _ (iz ez125 (Z4i rfl rfl (of_decide_eq_true c124)))<|Z6 _ (iz ez126 (Z9 rfl rfl rfl))<|Z6 _ (iz ez127 (Z3k rfl))<|Z7 rfl<|Z1<|bH h fun z129 ez129 h=>bH h fun z130 ez130 h=>cH h fun c131 h=>bH h fun z132 ez132 h=>cH h fun c133 h=>bH h fun z134 ez134 h=>bH h fun z135 ez135 h=>bH h fun z136 ez136 h=>cH h fun c137 h=>bH h fun l138 el138 h=>Zu<|Z8 _ (Z0u rfl)<|Z8 _ (iz ez129 (Z98 rfl rfl (by decide)))<|Z8 _ (Z0u rfl)<|Z8 _ (iz ez130 (Z98 rfl rfl (by decide)))<|Z8 _ (Z0v rfl rfl (Z09 c131))<|Z8 _ (Z0u rfl)<|Z8 _ (Z0u rfl)<|Z8 _ (iz ez132 (Zah rfl rfl (by decide)))<|Z8 _ (iz ez134 (Zid rfl rfl (of_decide_eq_true c133)))<|Zq _ (iz ez135 (Z2e (base:=0) rfl .here rfl (Z01 c131)))<|Z8 _ (iz ez136 (Z9 rfl rfl rfl))<|Z8 _ (Z0v rfl rfl (Z09 c137))<|Z1b rfl (Z1e (q:=[.ints .u64 10 (l138)]) (base:=0) el138 rfl rfl rfl (Z01 c137) rfl .here<|Z03<|bH h fun z140 ez140 h=>Z2<|Z7 rfl<|Z6 _ (iz ez140 (Z9 rfl rfl rfl))<|Z7 rfl<|Z1 ?_)
    rw [qk115] at h
    exact ⟨n116,Nat.lt_succ_self _,z140,l138,h,⟨⟨rfl,rfl,rfl,rfl,trivial⟩,(.one .here (.one .here (.one .here .nil)))⟩⟩
   ·exact Zv _ rfl<|⟨a114,h,⟨⟨rfl,rfl,trivial⟩,(.one .here (.one .here (.one .here .nil)))⟩⟩
 ·rintro t m ⟨a73,h,hF⟩
  refine Zg hF ?_
  clear hF
  subst qk74
  refine Z0<|oH h fun y142 ey142 h=>Z2<|Z6 _ (Z00 (p:=[.ints .u64 10 (a73)]) rfl .here rfl)<|Z6 _ (Z0g rfl (Z9h ey142))<|Zd (Zp (q:=[.ints .u64 10 (y142)]) rfl rfl rfl rfl rfl (.there .here)<|Z1<|Zm ?_)
  revert h; refine Zw fun h=>?_
  subst h
  exact ⟨_,(.cons (.agg rfl (.there .here) rfl) .nil),rfl⟩
def q7_D:OL :=
 bnd (([163,120,89,19,202,77,235,117,171,216,65,65,77,10,112,0,152,232,121,119,121,64,199,140,115,254,111,43,238,108,3,82]:List Int)) fun z4 =>
 opt (Z8r z4) fun y5 =>
 some y5
theorem Zoo {W:World} {r:(List Int)} (h:q7_D=some r)  :
    Calls Tryz.prog 195 [].toArray W (Z2s W (agg [.ints .u64 10 (r)])):=by
 unfold q7_D at h
 refine Zc mo Z0zr rfl ?_
 refine Z0<|Z2<|Zd (Zr fun b2 hb2=>Z1<|Z0<|bH h fun z4 ez4 h=>oH h fun y5 ey5 h=>Z2<|Z6 _ (az (fun z=>agg [.ints .u8 32 z]) ez4 (Zgu (.one rfl rfl rfl (.one rfl rfl rfl (.one rfl rfl rfl (.one rfl rfl rfl (.one rfl rfl rfl (.one rfl rfl rfl (.one rfl rfl rfl (.one rfl rfl rfl (.one rfl rfl rfl (.one rfl rfl rfl (.one rfl rfl rfl (.one rfl rfl rfl (.one rfl rfl rfl (.one rfl rfl rfl (.one rfl rfl rfl (.one rfl rfl rfl (.one rfl rfl rfl (.one rfl rfl rfl (.one rfl rfl rfl (.one rfl rfl rfl (.one rfl rfl rfl (.one rfl rfl rfl (.one rfl rfl rfl (.one rfl rfl rfl (.one rfl rfl rfl (.one rfl rfl rfl (.one rfl rfl rfl (.one rfl rfl rfl (.one rfl rfl rfl (.one rfl rfl rfl (.one rfl rfl rfl (.one rfl rfl rfl BdR.nil))))))))))))))))))))))))))))))))))<|Z6 _ (Z0g rfl (Zh9 ey5))<|Zd (Zp (q:=[.ints .u64 10 (y5)]) rfl rfl rfl rfl rfl .here<|Z1<|Zm ?_))
 revert h; refine Zw fun h=>?_
 subst h
 exact ⟨_,(.cons (.agg rfl .here rfl) .nil),rfl⟩
def Zk1 (p0:Z1s) (p1:Z1s):Option (Z1s) :=
 opt (Z1p p0.gZ p1.gZ) fun y6 =>
 opt (Z1p y6 y6) fun y9 =>
 opt (Z1p p0.gX p1.gX) fun y12 =>
 opt (Z1p p0.gY p1.gY) fun y15 =>
 opt (q7_D) fun y18 =>
 opt (Z1p y12 y15) fun y19 =>
 opt (Z1p y18 y19) fun y20 =>
 opt (Zhv y9 y20) fun y23 =>
 opt (Zcx y9 y20) fun y26 =>
 opt (Z1p p0.gX p1.gY) fun y29 =>
 opt (Z1p p0.gY p1.gX) fun y30 =>
 opt (Zcx y29 y30) fun y31 =>
 opt (Z1p y6 y23) fun y34 =>
 opt (Z1p y34 y31) fun y35 =>
 opt (Z1p y6 y26) fun y38 =>
 opt (Zcx y15 y12) fun y39 =>
 opt (Z1p y38 y39) fun y40 =>
 opt (Z1p y23 y26) fun y43 =>
 some (⟨y35,y40,y43⟩:Z1s)
theorem Zfr {W:World} {r:Z1s} {p0:Z1s} {p1:Z1s} (h:Zk1 p0 p1=some r)  :
    Calls Tryz.prog 146 [agg [.ints .u64 10 (p0.gX),.ints .u64 10 (p0.gY),.ints .u64 10 (p0.gZ)],agg [.ints .u64 10 (p1.gX),.ints .u64 10 (p1.gY),.ints .u64 10 (p1.gZ)]].toArray W (Z2s W (agg [.ints .u64 10 (r.gX),.ints .u64 10 (r.gY),.ints .u64 10 (r.gZ)])):=by
 unfold Zk1 at h
 refine Zc mo Z0yn rfl ?_
 refine Z0<|Z2<|Zd (Z0e (s:=[.ints .u64 10 (p0.gX),.ints .u64 10 (p0.gY),.ints .u64 10 (p0.gZ)]) rfl fun b2 hb2=>Zd (Z0e (s:=[.ints .u64 10 (p1.gX),.ints .u64 10 (p1.gY),.ints .u64 10 (p1.gZ)]) rfl fun b3 hb3=>Zd (Zr fun b4 hb4=>Z1<|Z0<|oH h fun y6 ey6 h=>Z2<|Z6 _ (Z4g rfl)<|Z6 _ (Z00 (p:=[.ints .u64 10 (p0.gZ)]) rfl (.there (.there .here)) rfl)<|Z6 _ (Z4g rfl)<|Z6 _ (Z00 (p:=[.ints .u64 10 (p1.gZ)]) rfl (.there .here) rfl)<|Z6 _ (Z0g rfl (Z04 ey6))<|Zd (Zr fun b7 hb7=>Zd (Zp (q:=[.ints .u64 10 (y6)]) rfl rfl rfl rfl rfl .here<|Z1<|Z0<|oH h fun y9 ey9 h=>Z2<|Z6 _ (Z00 (p:=[.ints .u64 10 (y6)]) rfl .here rfl)<|Z6 _ (Z00 (p:=[.ints .u64 10 (y6)]) rfl .here rfl)<|Z6 _ (Z0g rfl (Z04 ey9))<|Zd (Zr fun b10 hb10=>Zd (Zp (q:=[.ints .u64 10 (y9)]) rfl rfl rfl rfl rfl .here<|Z1<|Z0<|oH h fun y12 ey12 h=>Z2<|Z6 _ (Z4g rfl)<|Z6 _ (Z00 (p:=[.ints .u64 10 (p0.gX)]) rfl (.there (.there (.there (.there .here)))) rfl)<|Z6 _ (Z4g rfl)<|Z6 _ (Z00 (p:=[.ints .u64 10 (p1.gX)]) rfl (.there (.there (.there .here))) rfl)<|Z6 _ (Z0g rfl (Z04 ey12))<|Zd (Zr fun b13 hb13=>Zd (Zp (q:=[.ints .u64 10 (y12)]) rfl rfl rfl rfl rfl .here<|Z1<|Z0<|oH h fun y15 ey15 h=>Z2<|Z6 _ (Z4g rfl)<|Z6 _ (Z00 (p:=[.ints .u64 10 (p0.gY)]) rfl (.there (.there (.there (.there (.there .here))))) rfl)<|Z6 _ (Z4g rfl)<|Z6 _ (Z00 (p:=[.ints .u64 10 (p1.gY)]) rfl (.there (.there (.there (.there .here)))) rfl)<|Z6 _ (Z0g rfl (Z04 ey15))<|Zd (Zr fun b16 hb16=>Zd (Zp (q:=[.ints .u64 10 (y15)]) rfl rfl rfl rfl rfl .here<|Z1<|Z0<|oH h fun y18 ey18 h=>oH h fun y19 ey19 h=>oH h fun y20 ey20 h=>Zu<|Z8 _ (Z0g rfl (Zoo ey18))<|Zq _ (Z00 (p:=[.ints .u64 10 (y12)]) rfl (.there .here) rfl)<|Zq _ (Z00 (p:=[.ints .u64 10 (y15)]) rfl .here rfl)<|Z8 _ (Z0g rfl (Z04 ey19))<|Z8 _ (Z0g rfl (Z04 ey20))<|Z5d (Zr fun b21 hb21=>⟨(by repeat (first | exact Sup.refl _ | apply Sup.cons | apply Sup.app)),Z1b rfl (Zp (q:=[.ints .u64 10 (y20)]) rfl rfl rfl rfl rfl .here (Z03 (Z0 (oH h fun y23 ey23 h=>Z2 (Z6 _ (Z00 (p:=[.ints .u64 10 (y9)]) rfl (.there (.there (.there .here))) rfl) (Z6 _ (Z00 (p:=[.ints .u64 10 (y20)]) rfl .here rfl) (Z6 _ (Z0g rfl (Zck ey23)) (Zd (Zr fun b24 hb24=>Zd (Zp (q:=[.ints .u64 10 (y23)]) rfl rfl rfl rfl rfl .here (Z1 (Z0 (oH h fun y26 ey26 h=>Z2 (Z6 _ (Z00 (p:=[.ints .u64 10 (y9)]) rfl (.there (.there (.there (.there .here)))) rfl) (Z6 _ (Z00 (p:=[.ints .u64 10 (y20)]) rfl (.there .here) rfl) (Z6 _ (Z0g rfl (Z5n ey26)) (Zd (Zr fun b27 hb27=>Zd (Zp (q:=[.ints .u64 10 (y26)]) rfl rfl rfl rfl rfl .here (Z1 (Z0 (oH h fun y29 ey29 h=>oH h fun y30 ey30 h=>oH h fun y31 ey31 h=>Zu (Z8 _ (Z4g rfl) (Z8 _ (Z4g rfl) (Z8 _ (Z4g rfl) (Z8 _ (Z4g rfl) (Zq _ (Z00 (p:=[.ints .u64 10 (p0.gX)]) rfl (.there (.there (.there (.there (.there (.there (.there (.there (.there .here))))))))) rfl) (Zq _ (Z00 (p:=[.ints .u64 10 (p1.gY)]) rfl (.there (.there (.there (.there (.there (.there (.there (.there .here)))))))) rfl) (Z8 _ (Z0g rfl (Z04 ey29)) (Zq _ (Z00 (p:=[.ints .u64 10 (p0.gY)]) rfl (.there (.there (.there (.there (.there (.there (.there (.there (.there .here))))))))) rfl) (Zq _ (Z00 (p:=[.ints .u64 10 (p1.gX)]) rfl (.there (.there (.there (.there (.there (.there (.there (.there .here)))))))) rfl) (Z8 _ (Z0g rfl (Z04 ey30)) (Z8 _ (Z0g rfl (Z5n ey31)) (Z5d (Zr fun b32 hb32=>⟨(by repeat (first | exact Sup.refl _ | apply Sup.cons | apply Sup.app)),Z1b rfl (Zp (q:=[.ints .u64 10 (y31)]) rfl rfl rfl rfl rfl .here (Z03 (Z0 (oH h fun y34 ey34 h=>oH h fun y35 ey35 h=>Zu (Zq _ (Z00 (p:=[.ints .u64 10 (y6)]) rfl (.there (.there (.there (.there (.there (.there (.there .here))))))) rfl) (Zq _ (Z00 (p:=[.ints .u64 10 (y23)]) rfl (.there (.there .here)) rfl) (Z8 _ (Z0g rfl (Z04 ey34)) (Zq _ (Z00 (p:=[.ints .u64 10 (y31)]) rfl .here rfl) (Z8 _ (Z0g rfl (Z04 ey35)) (Z5d (Zr fun b36 hb36=>⟨(by repeat (first | exact Sup.refl _ | apply Sup.cons | apply Sup.app)),Z1b rfl (Zp (q:=[.ints .u64 10 (y35)]) rfl rfl rfl rfl rfl .here (Z03 (Z0 (oH h fun y38 ey38 h=>oH h fun y39 ey39 h=>oH h fun y40 ey40 h=>Zu (Zq _ (Z00 (p:=[.ints .u64 10 (y6)]) rfl (.there (.there (.there (.there (.there (.there (.there (.there .here)))))))) rfl) (Zq _ (Z00 (p:=[.ints .u64 10 (y26)]) rfl (.there (.there .here)) rfl) (Z8 _ (Z0g rfl (Z04 ey38)) (Zq _ (Z00 (p:=[.ints .u64 10 (y15)]) rfl (.there (.there (.there (.there (.there .here))))) rfl) (Zq _ (Z00 (p:=[.ints .u64 10 (y12)]) rfl (.there (.there (.there (.there (.there (.there .here)))))) rfl) (Z8 _ (Z0g rfl (Z5n ey39)) (Z8 _ (Z0g rfl (Z04 ey40)) (Z5d (Zr fun b41 hb41=>⟨(by repeat (first | exact Sup.refl _ | apply Sup.cons | apply Sup.app)),Z1b rfl (Zp (q:=[.ints .u64 10 (y40)]) rfl rfl rfl rfl rfl .here (Z03 (Z0 (oH h fun y43 ey43 h=>Zu (Zq _ (Z00 (p:=[.ints .u64 10 (y35)]) rfl (.there .here) rfl) (Zq _ (Z00 (p:=[.ints .u64 10 (y40)]) rfl .here rfl) (Zq _ (Z00 (p:=[.ints .u64 10 (y23)]) rfl (.there (.there (.there (.there .here)))) rfl) (Zq _ (Z00 (p:=[.ints .u64 10 (y26)]) rfl (.there (.there (.there .here))) rfl) (Z8 _ (Z0g rfl (Z04 ey43)) (Z8 _ (Zgu (q:=[.ints .u64 10 (y35),.ints .u64 10 (y40),.ints .u64 10 (y43)]) (.agg rfl rfl rfl (.agg rfl rfl rfl (.agg rfl rfl rfl BdR.nil)))) (Z1b rfl (Zp (q:=[.ints .u64 10 (y35),.ints .u64 10 (y40),.ints .u64 10 (y43)]) rfl rfl rfl rfl rfl (.there (.there (.there (.there (.there (.there (.there (.there (.there (.there .here)))))))))) (Z03 (Zm ?_))))))))))))))⟩)))))))))))))⟩)))))))))))⟩)))))))))))))))))))))))))))))))))))⟩))))))))))))
 revert h; refine Zw fun h=>?_
 subst h
 exact ⟨_,(.cons (.agg rfl (.there (.there (.there (.there (.there (.there (.there (.there (.there (.there .here)))))))))) rfl) .nil),rfl⟩
def Zhf:Option (Z1s) :=
 opt (Z5c 0) fun y4 =>
 opt (Z5c 1) fun y5 =>
 opt (Z5c 1) fun y6 =>
 some (⟨y4,y5,y6⟩:Z1s)
theorem Zhy {W:World} {r:Z1s} (h:Zhf=some r)  :
    Calls Tryz.prog 174 [].toArray W (Z2s W (agg [.ints .u64 10 (r.gX),.ints .u64 10 (r.gY),.ints .u64 10 (r.gZ)])):=by
 unfold Zhf at h
 refine Zc mo Z0zc rfl ?_
 refine Z0<|Z2<|Zd (Zr fun b2 hb2=>Z1<|Z0<|oH h fun y4 ey4 h=>oH h fun y5 ey5 h=>oH h fun y6 ey6 h=>Z2<|Z6 _ (Z0g rfl (Z2r ey4))<|Z6 _ (Z0g rfl (Z2r ey5))<|Z6 _ (Z0g rfl (Z2r ey6))<|Z6 _ (Zgu (q:=[.ints .u64 10 (y4),.ints .u64 10 (y5),.ints .u64 10 (y6)]) (.agg rfl rfl rfl (.agg rfl rfl rfl (.agg rfl rfl rfl BdR.nil))))<|Zd (Zp (q:=[.ints .u64 10 (y4),.ints .u64 10 (y5),.ints .u64 10 (y6)]) rfl rfl rfl rfl rfl .here<|Z1<|Zm ?_))
 revert h; refine Zw fun h=>?_
 subst h
 exact ⟨_,(.cons (.agg rfl .here rfl) .nil),rfl⟩
abbrev Zx:El (Z1s):=⟨30,fun x=>cells [.ints .u64 10 (x.gX),.ints .u64 10 (x.gY),.ints .u64 10 (x.gZ)],fun x=>by rw [cells_length]; rfl,fun x=>(Z4z Z8o (Z4z Z8o (Z4z Z8o Zci))),by decide,Z5s⟩
def Z8z (p0:Z1s) (k45:(List (Z1s))→Option ((List (Z1s)))) (k67:(Int)→(List (Z1s))→Option ((List (Z1s)))) (i65:Int) (a66:List (Z1s)):Option ((List (Z1s))) :=
 br ((decide (i65<16))) (
 bnd (IntKind.wrap .i64 (i65-1)) fun z72 =>
 chk (inB z72 16) <|
 bnd (a66.getD (z72).toNat Z5s) fun x74 =>
 opt (Zk1 x74 p0) fun y75 =>
 chk (inB i65 16) <|
 bnd (Zcp Z5s a66 (i65).toNat y75) fun l77 =>
 bnd (IntKind.wrap .i64 (i65+1)) fun z79 =>
 k67 z79 l77
 ) (
 k45 a66
 )
def Z4p (p0:Z1s) (k45:(List (Z1s))→Option ((List (Z1s)))):Nat→(Int)→(List (Z1s))→Option ((List (Z1s)))
  | 0,_,_=>none
  | n+1,i65,a66=>Z8z p0 k45 (Z4p p0 k45 n) i65 a66
def Ze4 (p0:Z1s):Option ((List (Z1s))) :=
 opt (Zhf) fun y7 =>
 bnd (Zcp Z5s (List.replicate 16 Z5s) 0 y7) fun l8 =>
 jn (fun (a44:List (Z1s))=>some a44) fun k45=>Z4p p0 k45 big 1 l8
theorem Zl1 {W:World} {r:(List (Z1s))} {p0:Z1s} (h:Ze4 p0=some r)  :
    Calls Tryz.prog 173 [agg [.ints .u64 10 (p0.gX),.ints .u64 10 (p0.gY),.ints .u64 10 (p0.gZ)]].toArray W (Z2s W (agg [.rows 30 16 (Z9j Zx (r))])):=by
 unfold Ze4 at h
 refine Zc mo Z0zb rfl ?_
 refine Z0<|Z2<|Zd (Z0e (s:=[.ints .u64 10 (p0.gX),.ints .u64 10 (p0.gY),.ints .u64 10 (p0.gZ)]) rfl fun b2 hb2=>Zd (Zja (z':=[.rows 30 16 (Z9j Zx ((List.replicate 16 Z5s)))]) (Zcd (E:=Zx) rfl rfl) fun b3 hb3=>Z1<|Z0<|Z2<|Zd (Zja (z':=[.rows 30 16 (Z9j Zx ((List.replicate 16 Z5s)))]) (Zcd (E:=Zx) rfl rfl) fun b5 hb5=>Z1<|Z0<|oH h fun y7 ey7 h=>bH h fun l8 el8 h=>Z2<|Z6 _ (Z08 (vs:=[]) (v:=agg [.ints .u64 10 (y7.gX),.ints .u64 10 (y7.gY),.ints .u64 10 (y7.gZ)]) rfl (fun w hw=>Zhy (r:=y7) ey7 ))<|Z6 _ (Z0v rfl rfl (by decide))<|Zd (Zjb (q:=[.rows 30 16 (Z9j Zx (l8))]) (E:=Zx) (base:=0) (i:=0) (len:=16) el8 rfl rfl rfl rfl (by decide) rfl .here<|Z1<|Z0<|Z0<|Z2<|Z7 rfl<|Z1<|jH h fun k45 qk45 h=>Zh (G:=fun t m=>∃ (a44:List (Z1s)),k45 a44=some r∧Fit [(2,.pointer (some ⟨b3,0,none⟩)),(3,.pointer (some ⟨b5,0,none⟩))] (ck b5 206 [.rows 30 16 (Z9j Zx (a44))]::(ck b3 206 [.rows 30 16 (Z9j Zx ((List.replicate 16 Z5s)))]::(ck b2 90 [.ints .u64 10 (p0.gX),.ints .u64 10 (p0.gY),.ints .u64 10 (p0.gZ)] :: []))) t m) ?_ ?_))))
 ·refine Za<|Zo (fun n68 t m=>∃ (i65:Int) (a66:List (Z1s)),Z4p p0 k45 n68 i65 a66=some r∧Fit [(1,.pointer (some ⟨b2,0,none⟩)),(2,.pointer (some ⟨b3,0,none⟩)),(3,.pointer (some ⟨b5,0,none⟩)),(4,.int .i64 (i65))] (ck b5 206 [.rows 30 16 (Z9j Zx (a66))]::(ck b3 206 [.rows 30 16 (Z9j Zx ((List.replicate 16 Z5s)))]::(ck b2 90 [.ints .u64 10 (p0.gX),.ints .u64 10 (p0.gY),.ints .u64 10 (p0.gZ)] :: []))) t m) big ?_ ?_
  ·exact ⟨1,l8,h,⟨⟨rfl,rfl,rfl,rfl,trivial⟩,(.one .here (.one .here (.one .here .nil)))⟩⟩
  ·rintro n68 t m ⟨i65,a66,h,hF⟩
   refine Zg hF ?_
   clear hF
   rcases n68 with _ | n68
   · exact Z05 h
   have h:Z8z p0 k45 (Z4p p0 k45 n68) i65 a66=some r:=h
   unfold Z8z at h
   obtain ⟨k67,qk67⟩ : ∃ k,k=Z4p p0 k45 n68:=⟨_,rfl⟩
   try rw [← qk67] at h
   refine Z0<|Z0<|Z2<|Z7 rfl<|Z6 _ (Z9 rfl rfl rfl)<|Z1<|Z07 h rfl (fun h=>?_) (fun h=>?_)
   ·refine Zk<|Z0<|Za<|bH h fun z72 ez72 h=>cH h fun c73 h=>bH h fun x74 ex74 h=>oH h fun y75 ey75 h=>cH h fun c76 h=>bH h fun l77 el77 h=>Zu<|Z8 _ (Z0u rfl)<|Z8 _ (Z0u rfl)<|Z8 _ (iz ez72 (Z9 rfl rfl rfl))<|Z8 _ (Z0v rfl rfl (Z09 c73))<|Zq _ (az (fun x74=>agg [.ints .u64 10 (x74.gX),.ints .u64 10 (x74.gY),.ints .u64 10 (x74.gZ)]) ex74 (Zlq (base:=0) (w:=30) rfl .here rfl (Z01 c73) rfl rfl rfl))<|Zq _ (Z00 (p:=[.ints .u64 10 (p0.gX),.ints .u64 10 (p0.gY),.ints .u64 10 (p0.gZ)]) rfl (.there (.there .here)) rfl)<|Z8 _ (Z08 (vs:=[agg [.ints .u64 10 (x74.gX),.ints .u64 10 (x74.gY),.ints .u64 10 (x74.gZ)],agg [.ints .u64 10 (p0.gX),.ints .u64 10 (p0.gY),.ints .u64 10 (p0.gZ)]]) (v:=agg [.ints .u64 10 (y75.gX),.ints .u64 10 (y75.gY),.ints .u64 10 (y75.gZ)]) rfl (fun w hw=>Zfr (r:=y75) (p0:=x74) (p1:=p0) ey75 ))<|Z8 _ (Z0v rfl rfl (Z09 c76))<|Z1b rfl (Zjb (q:=[.rows 30 16 (Z9j Zx (l77))]) (E:=Zx) (base:=0) el77 rfl rfl rfl rfl (Z01 c76) rfl .here<|Z03<|bH h fun z79 ez79 h=>Z2<|Z7 rfl<|Z6 _ (iz ez79 (Z9 rfl rfl rfl))<|Z7 rfl<|Z1 ?_)
    rw [qk67] at h
    exact ⟨n68,Nat.lt_succ_self _,z79,l77,h,⟨⟨rfl,rfl,rfl,rfl,trivial⟩,(.one .here (.one .here (.one .here .nil)))⟩⟩
   ·exact Zv _ rfl<|⟨a66,h,⟨⟨rfl,rfl,trivial⟩,(.one .here (.one .here (.one .here .nil)))⟩⟩
 ·rintro t m ⟨a44,h,hF⟩
  refine Zg hF ?_
  clear hF
  subst qk45
  refine Z0<|Z2<|Z6 _ (Z00 (p:=[.rows 30 16 (Z9j Zx (a44))]) rfl .here rfl)<|Zd (Zr6 (q:=[.rows 30 16 (Z9j Zx (a44))]) rfl rfl rfl rfl (Z4z (Zga (E:=Zx)) Zci) (.there .here)<|Z1<|Zm ?_)
  revert h; refine Zw fun h=>?_
  subst h
  exact ⟨_,(.cons (.agg rfl (.there .here) rfl) .nil),rfl⟩
def Z50 (p0:Z1s):Option (Z1s) :=
 opt (Z1p p0.gX p0.gX) fun y5 =>
 opt (Z1p p0.gY p0.gY) fun y8 =>
 opt (Z1p p0.gZ p0.gZ) fun y11 =>
 opt (Zhv y8 y5) fun y14 =>
 opt (Zcx y11 y11) fun y17 =>
 opt (Zhv y17 y14) fun y18 =>
 opt (Z1p p0.gX p0.gY) fun y21 =>
 opt (Zcx y21 y21) fun y24 =>
 opt (Z1p y24 y18) fun y25 =>
 opt (Zcx y5 y8) fun y28 =>
 opt (Z1p y28 y14) fun y29 =>
 opt (Z1p y14 y18) fun y32 =>
 some (⟨y25,y29,y32⟩:Z1s)
theorem Z3j {W:World} {r:Z1s} {p0:Z1s} (h:Z50 p0=some r)  :
    Calls Tryz.prog 175 [agg [.ints .u64 10 (p0.gX),.ints .u64 10 (p0.gY),.ints .u64 10 (p0.gZ)]].toArray W (Z2s W (agg [.ints .u64 10 (r.gX),.ints .u64 10 (r.gY),.ints .u64 10 (r.gZ)])):=by
 unfold Z50 at h
 refine Zc mo Z0zd rfl ?_
 refine Z0<|Z2<|Zd (Z0e (s:=[.ints .u64 10 (p0.gX),.ints .u64 10 (p0.gY),.ints .u64 10 (p0.gZ)]) rfl fun b2 hb2=>Zd (Zr fun b3 hb3=>Z1<|Z0<|oH h fun y5 ey5 h=>Z2<|Z6 _ (Z4g rfl)<|Z6 _ (Z00 (p:=[.ints .u64 10 (p0.gX)]) rfl (.there .here) rfl)<|Z6 _ (Z4g rfl)<|Z6 _ (Z00 (p:=[.ints .u64 10 (p0.gX)]) rfl (.there .here) rfl)<|Z6 _ (Z0g rfl (Z04 ey5))<|Zd (Zr fun b6 hb6=>Zd (Zp (q:=[.ints .u64 10 (y5)]) rfl rfl rfl rfl rfl .here<|Z1<|Z0<|oH h fun y8 ey8 h=>Z2<|Z6 _ (Z4g rfl)<|Z6 _ (Z00 (p:=[.ints .u64 10 (p0.gY)]) rfl (.there (.there .here)) rfl)<|Z6 _ (Z4g rfl)<|Z6 _ (Z00 (p:=[.ints .u64 10 (p0.gY)]) rfl (.there (.there .here)) rfl)<|Z6 _ (Z0g rfl (Z04 ey8))<|Zd (Zr fun b9 hb9=>Zd (Zp (q:=[.ints .u64 10 (y8)]) rfl rfl rfl rfl rfl .here<|Z1<|Z0<|oH h fun y11 ey11 h=>Z2<|Z6 _ (Z4g rfl)<|Z6 _ (Z00 (p:=[.ints .u64 10 (p0.gZ)]) rfl (.there (.there (.there .here))) rfl)<|Z6 _ (Z4g rfl)<|Z6 _ (Z00 (p:=[.ints .u64 10 (p0.gZ)]) rfl (.there (.there (.there .here))) rfl)<|Z6 _ (Z0g rfl (Z04 ey11))<|Zd (Zr fun b12 hb12=>Zd (Zp (q:=[.ints .u64 10 (y11)]) rfl rfl rfl rfl rfl .here<|Z1<|Z0<|oH h fun y14 ey14 h=>Z2<|Z6 _ (Z00 (p:=[.ints .u64 10 (y8)]) rfl (.there .here) rfl)<|Z6 _ (Z00 (p:=[.ints .u64 10 (y5)]) rfl (.there (.there .here)) rfl)<|Z6 _ (Z0g rfl (Zck ey14))<|Zd (Zr fun b15 hb15=>Zd (Zp (q:=[.ints .u64 10 (y14)]) rfl rfl rfl rfl rfl .here<|Z1<|Z0<|oH h fun y17 ey17 h=>oH h fun y18 ey18 h=>Zu<|Zq _ (Z00 (p:=[.ints .u64 10 (y11)]) rfl (.there .here) rfl)<|Zq _ (Z00 (p:=[.ints .u64 10 (y11)]) rfl (.there .here) rfl)<|Z8 _ (Z0g rfl (Z5n ey17))<|Zq _ (Z00 (p:=[.ints .u64 10 (y14)]) rfl .here rfl)<|Z8 _ (Z0g rfl (Zck ey18))<|Z5d (Zr fun b19 hb19=>⟨(by repeat (first | exact Sup.refl _ | apply Sup.cons | apply Sup.app)),Z1b rfl (Zp (q:=[.ints .u64 10 (y18)]) rfl rfl rfl rfl rfl .here (Z03 (Z0 (oH h fun y21 ey21 h=>Z2 (Z6 _ (Z4g rfl) (Z6 _ (Z00 (p:=[.ints .u64 10 (p0.gX)]) rfl (.there (.there (.there (.there (.there (.there .here)))))) rfl) (Z6 _ (Z4g rfl) (Z6 _ (Z00 (p:=[.ints .u64 10 (p0.gY)]) rfl (.there (.there (.there (.there (.there (.there .here)))))) rfl) (Z6 _ (Z0g rfl (Z04 ey21)) (Zd (Zr fun b22 hb22=>Zd (Zp (q:=[.ints .u64 10 (y21)]) rfl rfl rfl rfl rfl .here (Z1 (Z0 (oH h fun y24 ey24 h=>oH h fun y25 ey25 h=>Zu (Zq _ (Z00 (p:=[.ints .u64 10 (y21)]) rfl .here rfl) (Zq _ (Z00 (p:=[.ints .u64 10 (y21)]) rfl .here rfl) (Z8 _ (Z0g rfl (Z5n ey24)) (Zq _ (Z00 (p:=[.ints .u64 10 (y18)]) rfl (.there .here) rfl) (Z8 _ (Z0g rfl (Z04 ey25)) (Z5d (Zr fun b26 hb26=>⟨(by repeat (first | exact Sup.refl _ | apply Sup.cons | apply Sup.app)),Z1b rfl (Zp (q:=[.ints .u64 10 (y25)]) rfl rfl rfl rfl rfl .here (Z03 (Z0 (oH h fun y28 ey28 h=>oH h fun y29 ey29 h=>Zu (Zq _ (Z00 (p:=[.ints .u64 10 (y5)]) rfl (.there (.there (.there (.there (.there (.there .here)))))) rfl) (Zq _ (Z00 (p:=[.ints .u64 10 (y8)]) rfl (.there (.there (.there (.there (.there .here))))) rfl) (Z8 _ (Z0g rfl (Z5n ey28)) (Zq _ (Z00 (p:=[.ints .u64 10 (y14)]) rfl (.there (.there (.there .here))) rfl) (Z8 _ (Z0g rfl (Z04 ey29)) (Z5d (Zr fun b30 hb30=>⟨(by repeat (first | exact Sup.refl _ | apply Sup.cons | apply Sup.app)),Z1b rfl (Zp (q:=[.ints .u64 10 (y29)]) rfl rfl rfl rfl rfl .here (Z03 (Z0 (oH h fun y32 ey32 h=>Zu (Zq _ (Z00 (p:=[.ints .u64 10 (y25)]) rfl (.there .here) rfl) (Zq _ (Z00 (p:=[.ints .u64 10 (y29)]) rfl .here rfl) (Zq _ (Z00 (p:=[.ints .u64 10 (y14)]) rfl (.there (.there (.there (.there .here)))) rfl) (Zq _ (Z00 (p:=[.ints .u64 10 (y18)]) rfl (.there (.there (.there .here))) rfl) (Z8 _ (Z0g rfl (Z04 ey32)) (Z8 _ (Zgu (q:=[.ints .u64 10 (y25),.ints .u64 10 (y29),.ints .u64 10 (y32)]) (.agg rfl rfl rfl (.agg rfl rfl rfl (.agg rfl rfl rfl BdR.nil)))) (Z1b rfl (Zp (q:=[.ints .u64 10 (y25),.ints .u64 10 (y29),.ints .u64 10 (y32)]) rfl rfl rfl rfl rfl (.there (.there (.there (.there (.there (.there (.there (.there .here)))))))) (Z03 (Zm ?_))))))))))))))⟩)))))))))))⟩))))))))))))))))))))))⟩)))))))))))
 revert h; refine Zw fun h=>?_
 subst h
 exact ⟨_,(.cons (.agg rfl (.there (.there (.there (.there (.there (.there (.there (.there .here)))))))) rfl) .nil),rfl⟩
def Ze2 (p0:List Int) (y6:(List (Z1s))) (k99:(List Int)→(List Int)→(List Int)→Option (Z1s)) (k156:(Int)→(List Int)→(List Int)→(List Int)→Option (Z1s)) (i152:Int) (a153:List Int) (a154:List Int) (a155:List Int):Option (Z1s) :=
 br ((decide (i152≥0))) (
 chk (inB i152 32) <|
 opt (Z50 (⟨a153,a154,a155⟩:Z1s)) fun y162 =>
 opt (Z50 y162) fun y163 =>
 opt (Z50 y163) fun y164 =>
 opt (Z50 y164) fun y165 =>
 bnd (p0.getD (i152).toNat 0) fun z166 =>
 bnd (IntKind.wrap .u8 (Int.tdiv z166 16)) fun z167 =>
 chk (inB z167 16) <|
 bnd (y6.getD (z167).toNat Z5s) fun x169 =>
 opt (Zk1 y165 x169) fun y170 =>
 chk (inB i152 32) <|
 opt (Z50 y170) fun y173 =>
 opt (Z50 y173) fun y174 =>
 opt (Z50 y174) fun y175 =>
 opt (Z50 y175) fun y176 =>
 bnd (p0.getD (i152).toNat 0) fun z177 =>
 bnd (Int.tmod z177 16) fun z178 =>
 chk (inB z178 16) <|
 bnd (y6.getD (z178).toNat Z5s) fun x180 =>
 opt (Zk1 y176 x180) fun y181 =>
 bnd (IntKind.wrap .i64 (i152-1)) fun z183 =>
 k156 z183 y181.gX y181.gY y181.gZ
 ) (
 k99 a153 a154 a155
 )
def Z8y (p0:List Int) (y6:(List (Z1s))) (k99:(List Int)→(List Int)→(List Int)→Option (Z1s)):Nat→(Int)→(List Int)→(List Int)→(List Int)→Option (Z1s)
  | 0,_,_,_,_=>none
  | n+1,i152,a153,a154,a155=>Ze2 p0 y6 k99 (Z8y p0 y6 k99 n) i152 a153 a154 a155
def Zop (p0:List Int) (p1:Z1s):Option (Z1s) :=
 opt (Ze4 p1) fun y6 =>
 opt (Zhf) fun y9 =>
 jn (fun (a96:List Int) (a97:List Int) (a98:List Int)=>some (⟨a96,a97,a98⟩:Z1s)) fun k99=>Z8y p0 y6 k99 big 31 y9.gX y9.gY y9.gZ
theorem Zqa {W:World} {r:Z1s} {p0:List Int} {p1:Z1s} (h:Zop p0 p1=some r)  :
    Calls Tryz.prog 106 [agg [.ints .u8 32 (p0)],agg [.ints .u64 10 (p1.gX),.ints .u64 10 (p1.gY),.ints .u64 10 (p1.gZ)]].toArray W (Z2s W (agg [.ints .u64 10 (r.gX),.ints .u64 10 (r.gY),.ints .u64 10 (r.gZ)])):=by
 unfold Zop at h
 refine Zc mo Z0xr rfl ?_
 refine Z0<|Z2<|Zd (Z0e (s:=[.ints .u8 32 (p0)]) rfl fun b2 hb2=>Zd (Z0e (s:=[.ints .u64 10 (p1.gX),.ints .u64 10 (p1.gY),.ints .u64 10 (p1.gZ)]) rfl fun b3 hb3=>Zd (Zr fun b4 hb4=>Z1<|Z0<|oH h fun y6 ey6 h=>Z2<|Z6 _ (Z00 (p:=[.ints .u64 10 (p1.gX),.ints .u64 10 (p1.gY),.ints .u64 10 (p1.gZ)]) rfl (.there .here) rfl)<|Z6 _ (Z0g rfl (Zl1 ey6))<|Zd (Zja (z':=[.rows 30 16 (Z9j Zx ((List.replicate 16 Z5s)))]) (Zcd (E:=Zx) rfl rfl) fun b7 hb7=>Zd (Zr6 (q:=[.rows 30 16 (Z9j Zx (y6))]) rfl rfl rfl rfl (Z4z (Zga (E:=Zx)) Zci) .here<|Z1<|Z0<|oH h fun y9 ey9 h=>Z2<|Z6 _ (Z08 (vs:=[]) (v:=agg [.ints .u64 10 (y9.gX),.ints .u64 10 (y9.gY),.ints .u64 10 (y9.gZ)]) rfl (fun w hw=>Zhy (r:=y9) ey9 ))<|Zd (Zr fun b10 hb10=>Zd (Zp (q:=[.ints .u64 10 (y9.gX),.ints .u64 10 (y9.gY),.ints .u64 10 (y9.gZ)]) rfl rfl rfl rfl rfl .here<|Z1<|Z0<|Z0<|Z2<|Z7 rfl<|Z1<|jH h fun k99 qk99 h=>Zh (G:=fun t m=>∃ (a96:List Int) (a97:List Int) (a98:List Int),k99 a96 a97 a98=some r∧Fit [(4,.pointer (some ⟨b4,0,none⟩)),(6,.pointer (some ⟨b10,0,none⟩))] (ck b10 90 [.ints .u64 10 (a96),.ints .u64 10 (a97),.ints .u64 10 (a98)]::(ck b7 206 [.rows 30 16 (Z9j Zx (y6))]::(ck b4 90 [.ints .u64 10 ((List.replicate 10 0)),.ints .u64 10 ((List.replicate 10 0)),.ints .u64 10 ((List.replicate 10 0))]::(ck b3 90 [.ints .u64 10 (p1.gX),.ints .u64 10 (p1.gY),.ints .u64 10 (p1.gZ)]::(ck b2 74 [.ints .u8 32 (p0)] :: []))))) t m) ?_ ?_)))))))
 ·refine Za<|Zo (fun n157 t m=>∃ (i152:Int) (a153:List Int) (a154:List Int) (a155:List Int),Z8y p0 y6 k99 n157 i152 a153 a154 a155=some r∧Fit [(2,.pointer (some ⟨b2,0,none⟩)),(4,.pointer (some ⟨b4,0,none⟩)),(5,.pointer (some ⟨b7,0,none⟩)),(6,.pointer (some ⟨b10,0,none⟩)),(7,.int .i64 (i152))] (ck b10 90 [.ints .u64 10 (a153),.ints .u64 10 (a154),.ints .u64 10 (a155)]::(ck b7 206 [.rows 30 16 (Z9j Zx (y6))]::(ck b4 90 [.ints .u64 10 ((List.replicate 10 0)),.ints .u64 10 ((List.replicate 10 0)),.ints .u64 10 ((List.replicate 10 0))]::(ck b3 90 [.ints .u64 10 (p1.gX),.ints .u64 10 (p1.gY),.ints .u64 10 (p1.gZ)]::(ck b2 74 [.ints .u8 32 (p0)] :: []))))) t m) big ?_ ?_
  ·exact ⟨31,y9.gX,y9.gY,y9.gZ,h,⟨⟨rfl,rfl,rfl,rfl,rfl,trivial⟩,(.one .here (.one .here (.one .here (.one .here (.one .here .nil)))))⟩⟩
  ·rintro n157 t m ⟨i152,a153,a154,a155,h,hF⟩
   refine Zg hF ?_
   clear hF
   rcases n157 with _ | n157
   · exact Z05 h
   have h:Ze2 p0 y6 k99 (Z8y p0 y6 k99 n157) i152 a153 a154 a155=some r:=h
   unfold Ze2 at h
   obtain ⟨k156,qk156⟩ : ∃ k,k=Z8y p0 y6 k99 n157:=⟨_,rfl⟩
   try rw [← qk156] at h
   refine Z0<|Z0<|Z2<|Z7 rfl<|Z6 _ (Z9 rfl rfl rfl)<|Z1<|Z07 h rfl (fun h=>?_) (fun h=>?_)
   ·refine Zk<|Z0<|Za<|Z0<|cH h fun c161 h=>oH h fun y162 ey162 h=>oH h fun y163 ey163 h=>oH h fun y164 ey164 h=>oH h fun y165 ey165 h=>bH h fun z166 ez166 h=>bH h fun z167 ez167 h=>cH h fun c168 h=>bH h fun x169 ex169 h=>oH h fun y170 ey170 h=>Zu<|Z8 _ (Z0u rfl)<|Z8 _ (Z0v rfl rfl (Z09 c161))<|Zq _ (Z00 (p:=[.ints .u64 10 (a153),.ints .u64 10 (a154),.ints .u64 10 (a155)]) rfl .here rfl)<|Z8 _ (Z08 (vs:=[agg [.ints .u64 10 (a153),.ints .u64 10 (a154),.ints .u64 10 (a155)]]) (v:=agg [.ints .u64 10 (y162.gX),.ints .u64 10 (y162.gY),.ints .u64 10 (y162.gZ)]) rfl (fun w hw=>Z3j (r:=y162) (p0:=(⟨a153,a154,a155⟩:Z1s)) ey162 ))<|Z8 _ (Z08 (vs:=[agg [.ints .u64 10 (y162.gX),.ints .u64 10 (y162.gY),.ints .u64 10 (y162.gZ)]]) (v:=agg [.ints .u64 10 (y163.gX),.ints .u64 10 (y163.gY),.ints .u64 10 (y163.gZ)]) rfl (fun w hw=>Z3j (r:=y163) (p0:=y162) ey163 ))<|Z8 _ (Z08 (vs:=[agg [.ints .u64 10 (y163.gX),.ints .u64 10 (y163.gY),.ints .u64 10 (y163.gZ)]]) (v:=agg [.ints .u64 10 (y164.gX),.ints .u64 10 (y164.gY),.ints .u64 10 (y164.gZ)]) rfl (fun w hw=>Z3j (r:=y164) (p0:=y163) ey164 ))<|Z8 _ (Z08 (vs:=[agg [.ints .u64 10 (y164.gX),.ints .u64 10 (y164.gY),.ints .u64 10 (y164.gZ)]]) (v:=agg [.ints .u64 10 (y165.gX),.ints .u64 10 (y165.gY),.ints .u64 10 (y165.gZ)]) rfl (fun w hw=>Z3j (r:=y165) (p0:=y164) ey165 ))<|Zq _ (iz ez166 (Z2e (base:=0) rfl (.there (.there (.there (.there .here)))) rfl (Z01 c161)))<|Z8 _ (iz ez167 (Z98 rfl rfl (by decide)))<|Z8 _ (Z0v rfl rfl (Z09 c168))<|Zq _ (az (fun x169=>agg [.ints .u64 10 (x169.gX),.ints .u64 10 (x169.gY),.ints .u64 10 (x169.gZ)]) ex169 (Zlq (base:=0) (w:=30) rfl (.there .here) rfl (Z01 c168) rfl rfl rfl))<|Z8 _ (Z08 (vs:=[agg [.ints .u64 10 (y165.gX),.ints .u64 10 (y165.gY),.ints .u64 10 (y165.gZ)],agg [.ints .u64 10 (x169.gX),.ints .u64 10 (x169.gY),.ints .u64 10 (x169.gZ)]]) (v:=agg [.ints .u64 10 (y170.gX),.ints .u64 10 (y170.gY),.ints .u64 10 (y170.gZ)]) rfl (fun w hw=>Zfr (r:=y170) (p0:=y165) (p1:=x169) ey170 ))<|Z1b rfl (Zp (q:=[.ints .u64 10 (y170.gX),.ints .u64 10 (y170.gY),.ints .u64 10 (y170.gZ)]) rfl rfl rfl rfl rfl .here<|Z03<|cH h fun c172 h=>oH h fun y173 ey173 h=>oH h fun y174 ey174 h=>oH h fun y175 ey175 h=>oH h fun y176 ey176 h=>bH h fun z177 ez177 h=>bH h fun z178 ez178 h=>cH h fun c179 h=>bH h fun x180 ex180 h=>oH h fun y181 ey181 h=>Zu<|Z8 _ (Z0u rfl)<|Z8 _ (Z0v rfl rfl (Z09 c172))<|Zq _ (Z00 (p:=[.ints .u64 10 (y170.gX),.ints .u64 10 (y170.gY),.ints .u64 10 (y170.gZ)]) rfl .here rfl)<|Z8 _ (Z08 (vs:=[agg [.ints .u64 10 (y170.gX),.ints .u64 10 (y170.gY),.ints .u64 10 (y170.gZ)]]) (v:=agg [.ints .u64 10 (y173.gX),.ints .u64 10 (y173.gY),.ints .u64 10 (y173.gZ)]) rfl (fun w hw=>Z3j (r:=y173) (p0:=y170) ey173 ))<|Z8 _ (Z08 (vs:=[agg [.ints .u64 10 (y173.gX),.ints .u64 10 (y173.gY),.ints .u64 10 (y173.gZ)]]) (v:=agg [.ints .u64 10 (y174.gX),.ints .u64 10 (y174.gY),.ints .u64 10 (y174.gZ)]) rfl (fun w hw=>Z3j (r:=y174) (p0:=y173) ey174 ))<|Z8 _ (Z08 (vs:=[agg [.ints .u64 10 (y174.gX),.ints .u64 10 (y174.gY),.ints .u64 10 (y174.gZ)]]) (v:=agg [.ints .u64 10 (y175.gX),.ints .u64 10 (y175.gY),.ints .u64 10 (y175.gZ)]) rfl (fun w hw=>Z3j (r:=y175) (p0:=y174) ey175 ))<|Z8 _ (Z08 (vs:=[agg [.ints .u64 10 (y175.gX),.ints .u64 10 (y175.gY),.ints .u64 10 (y175.gZ)]]) (v:=agg [.ints .u64 10 (y176.gX),.ints .u64 10 (y176.gY),.ints .u64 10 (y176.gZ)]) rfl (fun w hw=>Z3j (r:=y176) (p0:=y175) ey176 ))<|Zq _ (iz ez177 (Z2e (base:=0) rfl (.there (.there (.there (.there .here)))) rfl (Z01 c172)))<|Z8 _ (iz ez178 (Zah rfl rfl (by decide)))<|Z8 _ (Z0v rfl rfl (Z09 c179))<|Zq _ (az (fun x180=>agg [.ints .u64 10 (x180.gX),.ints .u64 10 (x180.gY),.ints .u64 10 (x180.gZ)]) ex180 (Zlq (base:=0) (w:=30) rfl (.there .here) rfl (Z01 c179) rfl rfl rfl))<|Z8 _ (Z08 (vs:=[agg [.ints .u64 10 (y176.gX),.ints .u64 10 (y176.gY),.ints .u64 10 (y176.gZ)],agg [.ints .u64 10 (x180.gX),.ints .u64 10 (x180.gY),.ints .u64 10 (x180.gZ)]]) (v:=agg [.ints .u64 10 (y181.gX),.ints .u64 10 (y181.gY),.ints .u64 10 (y181.gZ)]) rfl (fun w hw=>Zfr (r:=y181) (p0:=y176) (p1:=x180) ey181 ))<|Z1b rfl (Zp (q:=[.ints .u64 10 (y181.gX),.ints .u64 10 (y181.gY),.ints .u64 10 (y181.gZ)]) rfl rfl rfl rfl rfl .here<|Z03<|bH h fun z183 ez183 h=>Z2<|Z7 rfl<|Z6 _ (iz ez183 (Z9 rfl rfl rfl))<|Z7 rfl<|Z1 ?_))
    rw [qk156] at h
    exact ⟨n157,Nat.lt_succ_self _,z183,y181.gX,y181.gY,y181.gZ,h,⟨⟨rfl,rfl,rfl,rfl,rfl,trivial⟩,(.one .here (.one .here (.one .here (.one .here (.one .here .nil)))))⟩⟩
   ·exact Zv _ rfl<|⟨a153,a154,a155,h,⟨⟨rfl,rfl,trivial⟩,(.one .here (.one .here (.one .here (.one .here (.one .here .nil)))))⟩⟩
 ·rintro t m ⟨a96,a97,a98,h,hF⟩
  refine Zg hF ?_
  clear hF
  subst qk99
  refine Z0<|Z2<|Z6 _ (Z00 (p:=[.ints .u64 10 (a96),.ints .u64 10 (a97),.ints .u64 10 (a98)]) rfl .here rfl)<|Zd (Zp (q:=[.ints .u64 10 (a96),.ints .u64 10 (a97),.ints .u64 10 (a98)]) rfl rfl rfl rfl rfl (.there (.there .here))<|Z1<|Zm ?_)
  revert h; refine Zw fun h=>?_
  subst h
  exact ⟨_,(.cons (.agg rfl (.there (.there .here)) rfl) .nil),rfl⟩
def Zbp (p0:List Int):Option (Bool) :=
 bnd (([0,0,0,0,0,0,0,0,0,0]:List Int)) fun z4 =>
 some (ieq 10 p0 z4)
theorem Zfb {W:World} {r:Bool} {p0:List Int} (h:Zbp p0=some r)  :
    Calls Tryz.prog 141 [agg [.ints .u64 10 (p0)]].toArray W (Z2s W (.bool (r))):=by
 unfold Zbp at h
 refine Zc mo Z0yi rfl ?_
 refine Z0<|Z2<|Zd (Z0e (s:=[.ints .u64 10 (p0)]) rfl fun b2 hb2=>Z7 rfl<|Z1<|Z0<|bH h fun z4 ez4 h=>Z2<|Z6 _ (Z00 (p:=[.ints .u64 10 (p0)]) rfl .here rfl)<|Z6 _ (az (fun z=>agg [.ints .u64 10 z]) ez4 (Zgu BdR.nil))<|Z6 _ (Zyp rfl rfl rfl rfl _ (Zil Zg2))<|Z7 rfl<|Z1<|Zm ?_)
 revert h; refine Zw fun h=>?_
 subst h
 exact ⟨_,(.cons (.tmp rfl) .nil),rfl⟩
def Zhb (p0:List Int):OL :=
 opt (Zer p0) fun y5 =>
 br (y5) (
 opt (Zlo p0) fun y8 =>
 some y8
 ) (
 some p0
 )
theorem Zhw {W:World} {r:(List Int)} {p0:List Int} (h:Zhb p0=some r)  :
    Calls Tryz.prog 217 [agg [.ints .u64 10 (p0)]].toArray W (Z2s W (agg [.ints .u64 10 (r)])):=by
 unfold Zhb at h
 refine Zc mo Z109 rfl ?_
 refine Z0<|Z2<|Zd (Z0e (s:=[.ints .u64 10 (p0)]) rfl fun b2 hb2=>Zd (Zr fun b3 hb3=>Z1<|Z0<|Z0<|oH h fun y5 ey5 h=>Z2<|Z6 _ (Z00 (p:=[.ints .u64 10 (p0)]) rfl (.there .here) rfl)<|Z6 _ (Z0g rfl (Zgg ey5))<|Z1<|Z07 h rfl (fun h=>?_) (fun h=>?_)))
 ·refine Z0<|oH h fun y8 ey8 h=>Z2<|Z6 _ (Z00 (p:=[.ints .u64 10 (p0)]) rfl (.there .here) rfl)<|Z6 _ (Z0g rfl (Zjx ey8))<|Zd (Zp (q:=[.ints .u64 10 (y8)]) rfl rfl rfl rfl rfl .here<|Z1<|Zm ?_)
  revert h; refine Zw fun h=>?_
  subst h
  exact ⟨_,(.cons (.agg rfl .here rfl) .nil),rfl⟩
 ·refine Zk<|Z0<|Z2<|Z6 _ (Z00 (p:=[.ints .u64 10 (p0)]) rfl (.there .here) rfl)<|Zd (Zp (q:=[.ints .u64 10 (p0)]) rfl rfl rfl rfl rfl .here<|Z1<|Zm ?_)
  revert h; refine Zw fun h=>?_
  subst h
  exact ⟨_,(.cons (.agg rfl .here rfl) .nil),rfl⟩
def Z8v (p0:List Int) (p1:List Int):Option ((List Int)×Bool) :=
 opt (Zbp p1) fun y6 =>
 br (y6) (
 bnd (([0,0,0,0,0,0,0,0,0,0]:List Int)) fun z9 =>
 opt (Zbp p0) fun y10 =>
 some (z9,y10)
 ) (
 opt (Z8s p1) fun y12 =>
 opt (Z1p p0 y12) fun y13 =>
 opt (Zav 254 15) fun y16 =>
 opt (Zjy y13 y16) fun y17 =>
 opt (Z1p y17 y17) fun y20 =>
 br ((ieq 10 y20 y13)) (
 opt (Zhb y17) fun y23 =>
 some (y23,true)
 ) (
 opt (Z5c 2) fun y25 =>
 opt (Zav 251 31) fun y26 =>
 opt (Zjy y25 y26) fun y27 =>
 opt (Z1p y17 y27) fun y28 =>
 opt (Z1p y28 y28) fun y30 =>
 br ((ieq 10 y30 y13)) (
 opt (Zhb y28) fun y33 =>
 some (y33,true)
 ) (
 bnd (([0,0,0,0,0,0,0,0,0,0]:List Int)) fun z35 =>
 some (z35,false)
 )
 )
 )
theorem Zha {W:World} {r:(List Int)×Bool} {p0:List Int} {p1:List Int} (h:Z8v p0 p1=some r)  :
    Calls Tryz.prog 196 [agg [.ints .u64 10 (p0)],agg [.ints .u64 10 (p1)]].toArray W (Z2s W (.tuple #[agg [.ints .u64 10 (r.1)],.bool (r.2)])):=by
 unfold Z8v at h
 refine Zc mo Z0zs rfl ?_
 refine Z0<|Z2<|Zd (Z0e (s:=[.ints .u64 10 (p0)]) rfl fun b2 hb2=>Zd (Z0e (s:=[.ints .u64 10 (p1)]) rfl fun b3 hb3=>Zd (Zr fun b4 hb4=>Z7 rfl<|Z1<|Z0<|Z0<|oH h fun y6 ey6 h=>Z2<|Z6 _ (Z00 (p:=[.ints .u64 10 (p1)]) rfl (.there .here) rfl)<|Z6 _ (Z0g rfl (Zfb ey6))<|Z1<|Z07 h rfl (fun h=>?_) (fun h=>?_))))
 ·refine Z0<|bH h fun z9 ez9 h=>oH h fun y10 ey10 h=>Z2<|Z6 _ (az (fun z=>agg [.ints .u64 10 z]) ez9 (Zgu BdR.nil))<|Z6 _ (Z00 (p:=[.ints .u64 10 (p0)]) rfl (.there (.there .here)) rfl)<|Z6 _ (Z0g rfl (Zfb ey10))<|Zd (Zp (q:=[.ints .u64 10 (z9)]) rfl rfl rfl rfl rfl .here<|Z7 rfl<|Z1<|Zm ?_)
  revert h; refine Zw fun h=>?_
  subst h
  exact ⟨_,(.cons (.agg rfl .here rfl) (.cons (.tmp rfl) .nil)),rfl⟩
 ·refine Zk<|Z0<|oH h fun y12 ey12 h=>oH h fun y13 ey13 h=>Zu<|Zq _ (Z00 (p:=[.ints .u64 10 (p0)]) rfl (.there (.there .here)) rfl)<|Zq _ (Z00 (p:=[.ints .u64 10 (p1)]) rfl (.there .here) rfl)<|Z8 _ (Z0g rfl (Zb5 ey12))<|Z8 _ (Z0g rfl (Z04 ey13))<|Z5d (Zr fun b14 hb14=>⟨(by repeat (first | exact Sup.refl _ | apply Sup.cons | apply Sup.app)),Z1b rfl (Zp (q:=[.ints .u64 10 (y13)]) rfl rfl rfl rfl rfl .here (Z03 (Z0 (oH h fun y16 ey16 h=>oH h fun y17 ey17 h=>Zu (Z8 _ (Z0g rfl (Zcj ey16)) (Zq _ (Z00 (p:=[.ints .u64 10 (y13)]) rfl .here rfl) (Z8 _ (Z0g rfl (Zfo ey17)) (Z5d (Zr fun b18 hb18=>⟨(by repeat (first | exact Sup.refl _ | apply Sup.cons | apply Sup.app)),Z1b rfl (Zp (q:=[.ints .u64 10 (y17)]) rfl rfl rfl rfl rfl .here (Z03 (Z0 (Z0 (oH h fun y20 ey20 h=>Zu (Zq _ (Z00 (p:=[.ints .u64 10 (y17)]) rfl .here rfl) (Zq _ (Z00 (p:=[.ints .u64 10 (y17)]) rfl .here rfl) (Z8 _ (Z0g rfl (Z04 ey20)) (Zq _ (Z00 (p:=[.ints .u64 10 (y13)]) rfl (.there .here) rfl) (Z8 _ (Zyp rfl rfl rfl rfl _ (Zil Zg2)) (Z03 (Z07 h rfl (fun h=>?_) (fun h=>?_)))))))))))))⟩)))))))))⟩)
  ·refine Z0<|oH h fun y23 ey23 h=>Z2<|Z6 _ (Z00 (p:=[.ints .u64 10 (y17)]) rfl .here rfl)<|Z6 _ (Z0g rfl (Zhw ey23))<|Zd (Zp (q:=[.ints .u64 10 (y23)]) rfl rfl rfl rfl rfl (.there (.there .here))<|Z7 rfl<|Z1<|Zm ?_)
   revert h; refine Zw fun h=>?_
   subst h
   exact ⟨_,(.cons (.agg rfl (.there (.there .here)) rfl) (.cons (.tmp rfl) .nil)),rfl⟩
  ·refine Zk<|Z0<|oH h fun y25 ey25 h=>oH h fun y26 ey26 h=>oH h fun y27 ey27 h=>oH h fun y28 ey28 h=>Zu<|Z8 _ (Z0g rfl (Z2r ey25))<|Z8 _ (Z0g rfl (Zcj ey26))<|Z8 _ (Z0g rfl (Zfo ey27))<|Zq _ (Z00 (p:=[.ints .u64 10 (y17)]) rfl .here rfl)<|Z8 _ (Z0g rfl (Z04 ey28))<|Z1b rfl (Zp (q:=[.ints .u64 10 (y28)]) rfl rfl rfl rfl rfl .here<|Z03<|Z0<|Z0<|oH h fun y30 ey30 h=>Zu<|Zq _ (Z00 (p:=[.ints .u64 10 (y28)]) rfl .here rfl)<|Zq _ (Z00 (p:=[.ints .u64 10 (y28)]) rfl .here rfl)<|Z8 _ (Z0g rfl (Z04 ey30))<|Zq _ (Z00 (p:=[.ints .u64 10 (y13)]) rfl (.there .here) rfl)<|Z8 _ (Zyp rfl rfl rfl rfl _ (Zil Zg2))<|Z03<|Z07 h rfl (fun h=>?_) (fun h=>?_))
   ·refine Z0<|oH h fun y33 ey33 h=>Z2<|Z6 _ (Z00 (p:=[.ints .u64 10 (y28)]) rfl .here rfl)<|Z6 _ (Z0g rfl (Zhw ey33))<|Zd (Zp (q:=[.ints .u64 10 (y33)]) rfl rfl rfl rfl rfl (.there (.there .here))<|Z7 rfl<|Z1<|Zm ?_)
    revert h; refine Zw fun h=>?_
    subst h
    exact ⟨_,(.cons (.agg rfl (.there (.there .here)) rfl) (.cons (.tmp rfl) .nil)),rfl⟩
   ·refine Zk<|Z0<|bH h fun z35 ez35 h=>Z2<|Z6 _ (az (fun z=>agg [.ints .u64 10 z]) ez35 (Zgu BdR.nil))<|Zd (Zp (q:=[.ints .u64 10 (z35)]) rfl rfl rfl rfl rfl (.there (.there .here))<|Z7 rfl<|Z1<|Zm ?_)
    revert h; refine Zw fun h=>?_
    subst h
    exact ⟨_,(.cons (.agg rfl (.there (.there .here)) rfl) (.cons (.tmp rfl) .nil)),rfl⟩
def Ze3 (p0:List Int):Option ((List Int)×Bool) :=
 opt (Z1p p0 p0) fun y5 =>
 opt (Z5c 1) fun y8 =>
 opt (Zhv y5 y8) fun y9 =>
 opt (q7_D) fun y12 =>
 opt (Z1p y12 y5) fun y13 =>
 opt (Z5c 1) fun y14 =>
 opt (Zcx y13 y14) fun y15 =>
 opt (Z8v y9 y15) fun y18 =>
 some (y18.1,y18.2)
theorem Zkz {W:World} {r:(List Int)×Bool} {p0:List Int} (h:Ze3 p0=some r)  :
    Calls Tryz.prog 140 [agg [.ints .u64 10 (p0)]].toArray W (Z2s W (.tuple #[agg [.ints .u64 10 (r.1)],.bool (r.2)])):=by
 unfold Ze3 at h
 refine Zc mo Z0yh rfl ?_
 refine Z0<|Z2<|Zd (Z0e (s:=[.ints .u64 10 (p0)]) rfl fun b2 hb2=>Zd (Zr fun b3 hb3=>Z7 rfl<|Z1<|Z0<|oH h fun y5 ey5 h=>Z2<|Z6 _ (Z00 (p:=[.ints .u64 10 (p0)]) rfl (.there .here) rfl)<|Z6 _ (Z00 (p:=[.ints .u64 10 (p0)]) rfl (.there .here) rfl)<|Z6 _ (Z0g rfl (Z04 ey5))<|Zd (Zr fun b6 hb6=>Zd (Zp (q:=[.ints .u64 10 (y5)]) rfl rfl rfl rfl rfl .here<|Z1<|Z0<|oH h fun y8 ey8 h=>oH h fun y9 ey9 h=>Zu<|Z8 _ (Z0g rfl (Z2r ey8))<|Zq _ (Z00 (p:=[.ints .u64 10 (y5)]) rfl .here rfl)<|Z8 _ (Z0g rfl (Zck ey9))<|Z5d (Zr fun b10 hb10=>⟨(by repeat (first | exact Sup.refl _ | apply Sup.cons | apply Sup.app)),Z1b rfl (Zp (q:=[.ints .u64 10 (y9)]) rfl rfl rfl rfl rfl .here (Z03 (Z0 (oH h fun y12 ey12 h=>oH h fun y13 ey13 h=>oH h fun y14 ey14 h=>oH h fun y15 ey15 h=>Zu (Z8 _ (Z0g rfl (Zoo ey12)) (Zq _ (Z00 (p:=[.ints .u64 10 (y5)]) rfl (.there .here) rfl) (Z8 _ (Z0g rfl (Z04 ey13)) (Z8 _ (Z0g rfl (Z2r ey14)) (Z8 _ (Z0g rfl (Z5n ey15)) (Z5d (Zr fun b16 hb16=>⟨(by repeat (first | exact Sup.refl _ | apply Sup.cons | apply Sup.app)),Z1b rfl (Zp (q:=[.ints .u64 10 (y15)]) rfl rfl rfl rfl rfl .here (Z03 (Z0 (oH h fun y18 ey18 h=>Z2 (Z6 _ (Z00 (p:=[.ints .u64 10 (y9)]) rfl (.there .here) rfl) (Z6 _ (Z00 (p:=[.ints .u64 10 (y15)]) rfl .here rfl) (Z6 _ (Z0g rfl (Zha ey18)) (Z6 _ (Z37 rfl rfl) (Z6 _ (Z37 rfl rfl) (Zd (Zp (q:=[.ints .u64 10 (y18.1)]) rfl rfl rfl rfl rfl (.there (.there (.there .here))) (Z7 rfl (Z1 (Zm ?_))))))))))))))⟩)))))))))))⟩)))))
 revert h; refine Zw fun h=>?_
 subst h
 exact ⟨_,(.cons (.agg rfl (.there (.there (.there .here))) rfl) (.cons (.tmp rfl) .nil)),rfl⟩
def Zbx (p0:List Int) (p1:List Int):Option (Z1s) :=
 opt (Z5c 1) fun y6 =>
 some (⟨p0,p1,y6⟩:Z1s)
theorem Zl0 {W:World} {r:Z1s} {p0:List Int} {p1:List Int} (h:Zbx p0 p1=some r)  :
    Calls Tryz.prog 143 [agg [.ints .u64 10 (p0)],agg [.ints .u64 10 (p1)]].toArray W (Z2s W (agg [.ints .u64 10 (r.gX),.ints .u64 10 (r.gY),.ints .u64 10 (r.gZ)])):=by
 unfold Zbx at h
 refine Zc mo Z0yk rfl ?_
 refine Z0<|Z2<|Zd (Z0e (s:=[.ints .u64 10 (p0)]) rfl fun b2 hb2=>Zd (Z0e (s:=[.ints .u64 10 (p1)]) rfl fun b3 hb3=>Zd (Zr fun b4 hb4=>Z1<|Z0<|oH h fun y6 ey6 h=>Zu<|Z8 _ (Z0g rfl (Z2r ey6))<|Zq _ (Z00 (p:=[.ints .u64 10 (p0)]) rfl (.there (.there .here)) rfl)<|Zq _ (Z00 (p:=[.ints .u64 10 (p1)]) rfl (.there .here) rfl)<|Z8 _ (Zgu (q:=[.ints .u64 10 (p0),.ints .u64 10 (p1),.ints .u64 10 (y6)]) (.agg rfl rfl rfl (.agg rfl rfl rfl (.agg rfl rfl rfl BdR.nil))))<|Z1b rfl (Zp (q:=[.ints .u64 10 (p0),.ints .u64 10 (p1),.ints .u64 10 (y6)]) rfl rfl rfl rfl rfl .here<|Z03<|Zm ?_))))
 revert h; refine Zw fun h=>?_
 subst h
 exact ⟨_,(.cons (.agg rfl .here rfl) .nil),rfl⟩
def Zk2:Option (Z1s) :=
 opt (Z5c 4) fun y4 =>
 opt (Z5c 5) fun y5 =>
 opt (Z8s y5) fun y6 =>
 opt (Z1p y4 y6) fun y7 =>
 opt (Ze3 y7) fun y10 =>
 opt (Zbx y10.1 y7) fun y13 =>
 some y13
theorem Zon {W:World} {r:Z1s} (h:Zk2=some r)  :
    Calls Tryz.prog 107 [].toArray W (Z2s W (agg [.ints .u64 10 (r.gX),.ints .u64 10 (r.gY),.ints .u64 10 (r.gZ)])):=by
 unfold Zk2 at h
 refine Zc mo Z0xs rfl ?_
 refine Z0<|Z2<|Zd (Zr fun b2 hb2=>Z1<|Z0<|oH h fun y4 ey4 h=>oH h fun y5 ey5 h=>oH h fun y6 ey6 h=>oH h fun y7 ey7 h=>Z2<|Z6 _ (Z0g rfl (Z2r ey4))<|Z6 _ (Z0g rfl (Z2r ey5))<|Z6 _ (Z0g rfl (Zb5 ey6))<|Z6 _ (Z0g rfl (Z04 ey7))<|Zd (Zr fun b8 hb8=>Zd (Zp (q:=[.ints .u64 10 (y7)]) rfl rfl rfl rfl rfl .here<|Z1<|Z0<|oH h fun y10 ey10 h=>Z2<|Z6 _ (Z00 (p:=[.ints .u64 10 (y7)]) rfl .here rfl)<|Z6 _ (Z0g rfl (Zkz ey10))<|Z7 rfl<|Z6 _ (Z37 rfl rfl)<|Z6 _ (Z37 rfl rfl)<|Zd (Zr fun b11 hb11=>Zd (Zp (q:=[.ints .u64 10 (y10.1)]) rfl rfl rfl rfl rfl .here<|Z7 rfl<|Z1<|Z0<|oH h fun y13 ey13 h=>Z2<|Z6 _ (Z00 (p:=[.ints .u64 10 (y10.1)]) rfl .here rfl)<|Z6 _ (Z00 (p:=[.ints .u64 10 (y7)]) rfl (.there .here) rfl)<|Z6 _ (Z0g rfl (Zl0 ey13))<|Zd (Zp (q:=[.ints .u64 10 (y13.gX),.ints .u64 10 (y13.gY),.ints .u64 10 (y13.gZ)]) rfl rfl rfl rfl rfl (.there (.there .here))<|Z1<|Zm ?_))))))
 revert h; refine Zw fun h=>?_
 subst h
 exact ⟨_,(.cons (.agg rfl (.there (.there .here)) rfl) .nil),rfl⟩
def Z9o (p0:List Int):Option (Z1s) :=
 opt (Zk2) fun y5 =>
 opt (Zop p0 y5) fun y6 =>
 some y6
theorem Ze1 {W:World} {r:Z1s} {p0:List Int} (h:Z9o p0=some r)  :
    Calls Tryz.prog 55 [agg [.ints .u8 32 (p0)]].toArray W (Z2s W (agg [.ints .u64 10 (r.gX),.ints .u64 10 (r.gY),.ints .u64 10 (r.gZ)])):=by
 unfold Z9o at h
 refine Zc mo ok55 rfl ?_
 refine Z0<|Z2<|Zd (Z0e (s:=[.ints .u8 32 (p0)]) rfl fun b2 hb2=>Zd (Zr fun b3 hb3=>Z1<|Z0<|oH h fun y5 ey5 h=>oH h fun y6 ey6 h=>Zu<|Z8 _ (Z0g rfl (Zon ey5))<|Zq _ (Z00 (p:=[.ints .u8 32 (p0)]) rfl (.there .here) rfl)<|Z8 _ (Z0g rfl (Zqa ey6))<|Z1b rfl (Zp (q:=[.ints .u64 10 (y6.gX),.ints .u64 10 (y6.gY),.ints .u64 10 (y6.gZ)]) rfl rfl rfl rfl rfl .here<|Z03<|Zm ?_)))
 revert h; refine Zw fun h=>?_
 subst h
 exact ⟨_,(.cons (.agg rfl .here rfl) .nil),rfl⟩
def Zhi (p0:List Int) (p1:Bool) (k98:(List Int)→OL) (k155:(Int)→(List Int)→OL) (i153:Int) (a154:List Int):OL :=
 br ((decide (i153<32))) (
 jn (fun (a172:List Int)=>bnd (IntKind.wrap .i64 (i153+1)) fun z188 =>
 k155 z188 a172) fun k173=>chk (inB i153 64) <|
 bnd (p0.getD (i153).toNat 0) fun z176 =>
 chk (inB i153 32) <|
 bnd (Z21 a154 (i153).toNat z176) fun l178 =>
 br (p1) (
 bnd (IntKind.wrap .i64 (32+i153)) fun z182 =>
 chk (inB z182 64) <|
 bnd (p0.getD (z182).toNat 0) fun z184 =>
 chk (inB i153 32) <|
 bnd (Z21 l178 (i153).toNat z184) fun l186 =>
 k173 l186
 ) (
 k173 l178
 )
 ) (
 k98 a154
 )
def Zby (p0:List Int) (p1:Bool) (k98:(List Int)→OL):Nat→(Int)→(List Int)→OL
  | 0,_,_=>none
  | n+1,i153,a154=>Zhi p0 p1 k98 (Zby p0 p1 k98 n) i153 a154
def Zhh (p0:List Int) (p1:Bool):OL :=
 jn (fun (a97:List Int)=>some a97) fun k98=>Zby p0 p1 k98 big 0 (List.replicate 32 0)
theorem Zhz {W:World} {r:(List Int)} {p0:List Int} {p1:Bool} (h:Zhh p0 p1=some r)  :
    Calls Tryz.prog 57 [agg [.ints .u8 64 (p0)],.bool (p1)].toArray W (Z2s W (agg [.ints .u8 32 (r)])):=by
 unfold Zhh at h
 refine Zc mo ok57 rfl ?_
 refine Z0<|Z2<|Zd (Z0e (s:=[.ints .u8 64 (p0)]) rfl fun b2 hb2=>Zd (Zr fun b3 hb3=>Z1<|Z0<|Z2<|Zd (Zr fun b5 hb5=>Z1<|Z0<|Z0<|Z2<|Z7 rfl<|Z1<|jH h fun k98 qk98 h=>Zh (G:=fun t m=>∃ (a97:List Int),k98 a97=some r∧Fit [(4,.pointer (some ⟨b3,0,none⟩)),(5,.pointer (some ⟨b5,0,none⟩))] (ck b5 22 [.ints .u8 32 (a97)]::(ck b3 22 [.ints .u8 32 ((List.replicate 32 0))]::(ck b2 94 [.ints .u8 64 (p0)] :: []))) t m) ?_ ?_)))
 ·refine Za<|Zo (fun n156 t m=>∃ (i153:Int) (a154:List Int),Zby p0 p1 k98 n156 i153 a154=some r∧Fit [(1,.bool (p1)),(2,.pointer (some ⟨b2,0,none⟩)),(4,.pointer (some ⟨b3,0,none⟩)),(5,.pointer (some ⟨b5,0,none⟩)),(6,.int .i64 (i153))] (ck b5 22 [.ints .u8 32 (a154)]::(ck b3 22 [.ints .u8 32 ((List.replicate 32 0))]::(ck b2 94 [.ints .u8 64 (p0)] :: []))) t m) big ?_ ?_
  ·exact ⟨0,(List.replicate 32 0),h,⟨⟨rfl,rfl,rfl,rfl,rfl,trivial⟩,(.one .here (.one .here (.one .here .nil)))⟩⟩
  ·rintro n156 t m ⟨i153,a154,h,hF⟩
   refine Zg hF ?_
   clear hF
   rcases n156 with _ | n156
   · exact Z05 h
   have h:Zhi p0 p1 k98 (Zby p0 p1 k98 n156) i153 a154=some r:=h
   unfold Zhi at h
   obtain ⟨k155,qk155⟩ : ∃ k,k=Zby p0 p1 k98 n156:=⟨_,rfl⟩
   try rw [← qk155] at h
   refine Z0<|Z0<|Z2<|Z7 rfl<|Z6 _ (Z9 rfl rfl rfl)<|Z1<|Z07 h rfl (fun h=>?_) (fun h=>?_)
   ·refine Zk<|Z0<|jH h fun k173 qk173 h=>Zh (G:=fun t m=>∃ (a172:List Int),k173 a172=some r∧Fit [(1,.bool (p1)),(2,.pointer (some ⟨b2,0,none⟩)),(4,.pointer (some ⟨b3,0,none⟩)),(5,.pointer (some ⟨b5,0,none⟩)),(6,.int .i64 (i153))] (ck b5 22 [.ints .u8 32 (a172)]::(ck b3 22 [.ints .u8 32 ((List.replicate 32 0))]::(ck b2 94 [.ints .u8 64 (p0)] :: []))) t m) ?_ ?_
    ·refine Za<|Z0<|cH h fun c175 h=>bH h fun z176 ez176 h=>cH h fun c177 h=>bH h fun l178 el178 h=>Z2<|Z7 rfl<|Z7 rfl<|Z6 _ (Z0v rfl rfl (Z09 c175))<|Z6 _ (iz ez176 (Z2e (base:=0) rfl (.there (.there .here)) rfl (Z01 c175)))<|Z6 _ (Z0v rfl rfl (Z09 c177))<|Zd (Z1e (q:=[.ints .u8 32 (l178)]) (base:=0) el178 rfl rfl rfl (Z01 c177) rfl .here<|Z1<|Z0<|Z2<|Z7 rfl<|Z1<|Z07 h rfl (fun h=>?_) (fun h=>?_))
     ·exact bH h fun z182 ez182 h=>cH h fun c183 h=>bH h fun z184 ez184 h=>cH h fun c185 h=>bH h fun l186 el186 h=>Z2<|Z7 rfl<|Z7 rfl<|Z6 _ (iz ez182 (Z9 rfl rfl rfl))<|Z6 _ (Z0v rfl rfl (Z09 c183))<|Z6 _ (iz ez184 (Z2e (base:=0) rfl (.there (.there .here)) rfl (Z01 c183)))<|Z6 _ (Z0v rfl rfl (Z09 c185))<|Zd (Z1e (q:=[.ints .u8 32 (l186)]) (base:=0) el186 rfl rfl rfl (Z01 c185) rfl .here<|Z1<|⟨l186,h,⟨⟨rfl,rfl,rfl,rfl,rfl,trivial⟩,(.one .here (.one .here (.one .here .nil)))⟩⟩)
     ·exact Zk<|⟨l178,h,⟨⟨rfl,rfl,rfl,rfl,rfl,trivial⟩,(.one .here (.one .here (.one .here .nil)))⟩⟩
    ·rintro t m ⟨a172,h,hF⟩
     refine Zg hF ?_
     clear hF
     subst qk173
     refine bH h fun z188 ez188 h=>Z2<|Z7 rfl<|Z6 _ (iz ez188 (Z9 rfl rfl rfl))<|Z7 rfl<|Z1 ?_
     rw [qk155] at h
     exact ⟨n156,Nat.lt_succ_self _,z188,a172,h,⟨⟨rfl,rfl,rfl,rfl,rfl,trivial⟩,(.one .here (.one .here (.one .here .nil)))⟩⟩
   ·exact Zv _ rfl<|⟨a154,h,⟨⟨rfl,rfl,trivial⟩,(.one .here (.one .here (.one .here .nil)))⟩⟩
 ·rintro t m ⟨a97,h,hF⟩
  refine Zg hF ?_
  clear hF
  subst qk98
  refine Z0<|Z2<|Z6 _ (Z00 (p:=[.ints .u8 32 (a97)]) rfl .here rfl)<|Zd (Zp (q:=[.ints .u8 32 (a97)]) rfl rfl rfl rfl rfl (.there .here)<|Z1<|Zm ?_)
  revert h; refine Zw fun h=>?_
  subst h
  exact ⟨_,(.cons (.agg rfl (.there .here) rfl) .nil),rfl⟩
def Zh8 (p0:Int) (k74:(List (Int))→OL) (k119:(List (Int))→(Int)→OL) (l116:List (Int)) (i118:Int):OL :=
 br ((decide (i118<8))) (
 bnd (IntKind.wrap .i64 (8*i118)) fun z124 =>
 bnd (IntKind.wrap .i64 (56-z124)) fun z125 =>
 bnd (IntKind.wrap .u64 z125) fun z126 =>
 chk (decide (0≤z126)) <|
 bnd (Zn .u64 p0 z126) fun z129 =>
 bnd (IntKind.wrap .u8 z129) fun z130 =>
 chk (decide ((l116.length+([z130]:List (Int)).length)*1≤140737488355328)) <|
 bnd (l116++([z130]:List (Int))) fun l135 =>
 bnd (IntKind.wrap .i64 (i118+1)) fun z140 =>
 k119 l135 z140
 ) (
 k74 l116
 )
def Zbm (p0:Int) (k74:(List (Int))→OL):Nat→(List (Int))→(Int)→OL
  | 0,_,_=>none
  | n+1,l116,i118=>Zh8 p0 k74 (Zbm p0 k74 n) l116 i118
def Zfn (p0:Int):OL :=
 jn (fun (l72:List (Int))=>some l72) fun k74=>Zbm p0 k74 big [] 0
theorem Zds {W:World} {r:(List Int)} {p0:Int} (h:Zfn p0=some r)  :
    Calls Tryz.prog 111 [.int .u64 (p0)].toArray W (Zc0 W [] (fun v Ms=>∃ (u0:Value) (M0:List Zf),v=u0∧Ms = [.all M0]∧Z0b (El.int .u8) u0 M0 r)):=by
 unfold Zfn at h
 refine Z02 mo Z0xw rfl (Zgo _) ?_
 refine Z0<|Z2<|Z7 rfl<|Z1<|Z0<|Z2<|Z7 rfl<|Z1<|Z0<|Z0<|Z2<|Z7 rfl<|Z1<|jH h fun k74 qk74 h=>Zh (G:=fun t m=>∃ (l72:List (Int)) (v70:Value) (ms71:List Zf),k74 l72=some r∧Z0b (El.int .u8) v70 ms71 l72∧Fit [(3,v70)] (ms71 ++ []) t m) ?_ ?_
 ·refine Za<|Zo (fun n120 t m=>∃ (l116:List (Int)) (i118:Int) (v114:Value) (ms115:List Zf),Zbm p0 k74 n120 l116 i118=some r∧Z0b (El.int .u8) v114 ms115 l116∧Fit [(0,.int .u64 (p0)),(3,v114),(4,.int .i64 (i118))] (ms115 ++ []) t m) big ?_ ?_
  ·exact ⟨[],0,(.slice none 0 0),[],h,Z59,⟨⟨rfl,rfl,rfl,trivial⟩,(.no .nil)⟩⟩
  ·rintro n120 t m ⟨l116,i118,v114,ms115,h,O117,hF⟩
   refine Zg hF ?_
   clear hF
   rcases n120 with _ | n120
   · exact Z05 h
   have h:Zh8 p0 k74 (Zbm p0 k74 n120) l116 i118=some r:=h
   unfold Zh8 at h
   obtain ⟨k119,qk119⟩ : ∃ k,k=Zbm p0 k74 n120:=⟨_,rfl⟩
   try rw [← qk119] at h
   refine Z0<|Z0<|Z2<|Z7 rfl<|Z6 _ (Z9 rfl rfl rfl)<|Z1<|Z07 h rfl (fun h=>?_) (fun h=>?_)
   ·refine Zk<|Z0<|Za<|Z0<|bH h fun z124 ez124 h=>bH h fun z125 ez125 h=>bH h fun z126 ez126 h=>Z2<|Z7 rfl<|Z6 _ (iz ez124 (Z9 rfl rfl rfl))<|Z6 _ (iz ez125 (Z9 rfl rfl rfl))<|Z6 _ (iz ez126 (Z3k rfl))<|Z7 rfl<|Z1<|cH h fun c128 h=>bH h fun z129 ez129 h=>bH h fun z130 ez130 h=>cH h fun c134 h=>bH h fun l135 el135 h=>Z2<|Z7 rfl<|Z7 rfl<|Z7 rfl<|Z6 _ (iz ez129 (Z4i rfl rfl (of_decide_eq_true c128)))<|Z6 _ (iz ez130 (Z3k rfl))<|Zd (Z5h (E:=(El.int .u8)) (xs:=[z130]) (.one rfl rfl rfl BdR.nil) (.cons (p:=[.one (.int .u8 (z130))]) rfl .nil) rfl fun v131 ms132 O133=>Zd (Z3f (E:=(El.int .u8)) el135 rfl O117 (.app .here) rfl (Z0a O133 .here) c134 fun v136 ms137 O138=>Z7 rfl<|Z1<|bH h fun z140 ez140 h=>Z2<|Z7 rfl<|Z6 _ (iz ez140 (Z9 rfl rfl rfl))<|Z7 rfl<|Z1 ?_))
    rw [qk119] at h
    exact ⟨n120,Nat.lt_succ_self _,l135,z140,v136,ms137,h,O138,⟨⟨rfl,rfl,rfl,trivial⟩,(.all .here .nil)⟩⟩
   ·exact Zv _ rfl<|⟨l116,v114,ms115,h,O117,⟨⟨rfl,trivial⟩,(.all .here .nil)⟩⟩
 ·rintro t m ⟨l72,v70,ms71,h,O73,hF⟩
  refine Zg hF ?_
  clear hF
  subst qk74
  refine Z0<|Z2<|Z7 rfl<|Z7 rfl<|Z1<|Zm ?_
  revert h; refine Zw fun h=>?_
  subst h
  exact ⟨_,_,(.cons (.tmp rfl) .nil),(.all .here .nil),⟨_,rfl,⟨v70,ms71,rfl,rfl,O73⟩⟩⟩
def Zdp (z8:Int) (k65:(List (Int))→OL) (k102:(List (Int))→OL) (l100:List (Int)):OL :=
 bnd (IntKind.wrap .i64 (z8+(l100.length:Int))) fun z105 =>
 bnd (IntKind.wrap .i64 (z105+16)) fun z106 =>
 bnd (Int.tmod z106 128) fun z107 =>
 br ((z107 != 0)) (
 chk (decide ((l100.length+([0]:List (Int)).length)*1≤140737488355328)) <|
 bnd (l100++([0]:List (Int))) fun l114 =>
 k102 l114
 ) (
 k65 l100
 )
def Z8q (z8:Int) (k65:(List (Int))→OL):Nat→(List (Int))→OL
  | 0,_=>none
  | n+1,l100=>Zdp z8 k65 (Z8q z8 k65 n) l100
def Zog (p0:Int):OL :=
 bnd (Int.tmod p0 128) fun z7 =>
 bnd (IntKind.wrap .i64 z7) fun z8 =>
 jn (fun (l63:List (Int))=>bnd (IntKind.wrap .u64 (Int.tdiv p0 2305843009213693952)) fun z119 =>
 opt (Zfn z119) fun y120 =>
 chk (decide ((l63.length+y120.length)*1≤140737488355328)) <|
 bnd (l63++y120) fun l127 =>
 bnd (IntKind.wrap .u64 (p0*8)) fun z132 =>
 opt (Zfn z132) fun y133 =>
 chk (decide ((l127.length+y133.length)*1≤140737488355328)) <|
 bnd (l127++y133) fun l140 =>
 some l140) fun k65=>Z8q z8 k65 big ([128]:List (Int))
theorem Zq7 {W:World} {r:(List Int)} {p0:Int} (h:Zog p0=some r)  :
    Calls Tryz.prog 109 [.int .u64 (p0)].toArray W (Zc0 W [] (fun v Ms=>∃ (u0:Value) (M0:List Zf),v=u0∧Ms = [.all M0]∧Z0b (El.int .u8) u0 M0 r)):=by
 unfold Zog at h
 refine Z02 mo Z0xu rfl (Zgo _) ?_
 refine Z0<|Z2<|Z7 rfl<|Z1<|Z0<|Z2<|Zd (Z5h (E:=(El.int .u8)) (xs:=[128]) (.one rfl rfl rfl BdR.nil) (.cons (p:=[.one (.int .u8 (128))]) rfl .nil) rfl fun v3 ms4 O5=>Z7 rfl<|Z1<|Z0<|bH h fun z7 ez7 h=>bH h fun z8 ez8 h=>Z2<|Z7 rfl<|Z6 _ (iz ez7 (Zah rfl rfl (by decide)))<|Z6 _ (iz ez8 (Z3k rfl))<|Z7 rfl<|Z1<|Z0<|jH h fun k65 qk65 h=>Zh (G:=fun t m=>∃ (l63:List (Int)) (v61:Value) (ms62:List Zf),k65 l63=some r∧Z0b (El.int .u8) v61 ms62 l63∧Fit [(0,.int .u64 (p0)),(3,v61)] (ms62 ++ []) t m) ?_ ?_)
 ·refine Za<|Zo (fun n103 t m=>∃ (l100:List (Int)) (v98:Value) (ms99:List Zf),Z8q z8 k65 n103 l100=some r∧Z0b (El.int .u8) v98 ms99 l100∧Fit [(0,.int .u64 (p0)),(3,v98),(4,.int .i64 (z8))] (ms99 ++ []) t m) big ?_ ?_
  ·exact ⟨([128]:List (Int)),v3,ms4,h,O5,⟨⟨rfl,rfl,rfl,trivial⟩,(.all .here .nil)⟩⟩
  ·rintro n103 t m ⟨l100,v98,ms99,h,O101,hF⟩
   refine Zg hF ?_
   clear hF
   rcases n103 with _ | n103
   · exact Z05 h
   have h:Zdp z8 k65 (Z8q z8 k65 n103) l100=some r:=h
   unfold Zdp at h
   obtain ⟨k102,qk102⟩ : ∃ k,k=Z8q z8 k65 n103:=⟨_,rfl⟩
   try rw [← qk102] at h
   refine Z0<|Z0<|bH h fun z105 ez105 h=>bH h fun z106 ez106 h=>bH h fun z107 ez107 h=>Z2<|Z7 rfl<|Z7 rfl<|Z6 _ (Z25 rfl (Shp.own O101))<|Z6 _ (iz ez105 (Z9 rfl rfl rfl))<|Z6 _ (iz ez106 (Z9 rfl rfl rfl))<|Z6 _ (iz ez107 (Zah rfl rfl (by decide)))<|Z6 _ (Z9 rfl rfl rfl)<|Z1<|Z07 h rfl (fun h=>?_) (fun h=>?_)
   ·refine Zk<|Za<|cH h fun c113 h=>bH h fun l114 el114 h=>Z2<|Z7 rfl<|Zd (Z5h (E:=(El.int .u8)) (xs:=[0]) (.one rfl rfl rfl BdR.nil) (.cons (p:=[.one (.int .u8 (0))]) rfl .nil) rfl fun v110 ms111 O112=>Zd (Z3f (E:=(El.int .u8)) el114 rfl O101 (.app .here) rfl (Z0a O112 .here) c113 fun v115 ms116 O117=>Z7 rfl<|Z1 ?_))
    rw [qk102] at h
    exact ⟨n103,Nat.lt_succ_self _,l114,v115,ms116,h,O117,⟨⟨rfl,rfl,rfl,trivial⟩,(.all .here .nil)⟩⟩
   ·exact Zv _ rfl<|⟨l100,v98,ms99,h,O101,⟨⟨rfl,rfl,trivial⟩,(.all .here .nil)⟩⟩
 ·rintro t m ⟨l63,v61,ms62,h,O64,hF⟩
  refine Zg hF ?_
  clear hF
  subst qk65
  refine Z0<|bH h fun z119 ez119 h=>oH h fun y120 ey120 h=>cH h fun c126 h=>bH h fun l127 el127 h=>Z2<|Z7 rfl<|Z7 rfl<|Z6 _ (iz ez119 (Z98 rfl rfl (by decide)))<|Zd (Zz rfl (fun w hw=>Zds  ey120 ) fun v121 Msv121 R122=>?_)
  obtain ⟨_,ms124,rfl,rfl,O125⟩:=R122
  refine Zd (Z3f (E:=(El.int .u8)) el127 rfl O64 (.app .here) rfl (Z0a O125 .here) c126 fun v128 ms129 O130=>Z7 rfl<|Z1<|Z0<|bH h fun z132 ez132 h=>oH h fun y133 ey133 h=>cH h fun c139 h=>bH h fun l140 el140 h=>Z2<|Z7 rfl<|Z7 rfl<|Z6 _ (iz ez132 (Z9 rfl rfl rfl))<|Zd (Zz rfl (fun w hw=>Zds  ey133 ) fun v134 Msv134 R135=>?_))
  obtain ⟨_,ms137,rfl,rfl,O138⟩:=R135
  refine Zd (Z3f (E:=(El.int .u8)) el140 rfl O130 (.app .here) rfl (Z0a O138 .here) c139 fun v141 ms142 O143=>Z7 rfl<|Z1<|Zm ?_)
  revert h; refine Zw fun h=>?_
  subst h
  exact ⟨_,_,(.cons (.tmp rfl) .nil),(.all .here .nil),⟨_,rfl,⟨v141,ms142,rfl,rfl,O143⟩⟩⟩
def Zbn (p0:List Int) (k38:(Int)→Option (Int)) (k60:(Int)→(Int)→Option (Int)) (i58:Int) (i59:Int):Option (Int) :=
 br ((decide (i59<8))) (
 bnd (IntKind.wrap .u64 (i58*256)) fun z65 =>
 chk (inB i59 p0.length) <|
 bnd (p0.getD (i59).toNat 0) fun z67 =>
 bnd (IntKind.wrap .u64 z67) fun z68 =>
 bnd (IntKind.wrap .u64 (z65+z68)) fun z69 =>
 bnd (IntKind.wrap .i64 (i59+1)) fun z71 =>
 k60 z69 z71
 ) (
 k38 i58
 )
def Z66 (p0:List Int) (k38:(Int)→Option (Int)):Nat→(Int)→(Int)→Option (Int)
  | 0,_,_=>none
  | n+1,i58,i59=>Zbn p0 k38 (Z66 p0 k38 n) i58 i59
def Zju (p0:List Int):Option (Int) :=
 jn (fun (i37:Int)=>some i37) fun k38=>Z66 p0 k38 big 0 0
theorem Zoi {W:World} {r:Int} {p0:List Int} {v0:Value} (h:Zju p0=some r) (A0:Z4y (El.int .u8) W v0 p0) :
    Calls Tryz.prog 209 [v0].toArray W (Z2s W (.int .u64 (r))):=by
 unfold Zju at h
 refine Zc mo Z105 rfl ?_
 refine Z0<|Z2<|Z7 rfl<|Z1<|Z0<|Z2<|Z7 rfl<|Z1<|Z0<|Z0<|Z2<|Z7 rfl<|Z1<|jH h fun k38 qk38 h=>Zh (G:=fun t m=>∃ (i37:Int),k38 i37=some r∧Fit [(3,.int .u64 (i37))] [] t m) ?_ ?_
 ·refine Za<|Zo (fun n61 t m=>∃ (i58:Int) (i59:Int),Z66 p0 k38 n61 i58 i59=some r∧Fit [(0,v0),(3,.int .u64 (i58)),(4,.int .i64 (i59))] [] t m) big ?_ ?_
  ·exact ⟨0,0,h,⟨⟨rfl,rfl,rfl,trivial⟩,.nil⟩⟩
  ·rintro n61 t m ⟨i58,i59,h,hF⟩
   refine Zg hF ?_
   clear hF
   rcases n61 with _ | n61
   · exact Z05 h
   have h:Zbn p0 k38 (Z66 p0 k38 n61) i58 i59=some r:=h
   unfold Zbn at h
   obtain ⟨k60,qk60⟩ : ∃ k,k=Z66 p0 k38 n61:=⟨_,rfl⟩
   try rw [← qk60] at h
   refine Z0<|Z0<|Z2<|Z7 rfl<|Z6 _ (Z9 rfl rfl rfl)<|Z1<|Z07 h rfl (fun h=>?_) (fun h=>?_)
   ·refine Zk<|Z0<|Za<|bH h fun z65 ez65 h=>cH h fun c66 h=>bH h fun z67 ez67 h=>bH h fun z68 ez68 h=>bH h fun z69 ez69 h=>Z2<|Z7 rfl<|Z6 _ (iz ez65 (Z9 rfl rfl rfl))<|Z7 rfl<|Z7 rfl<|Z6 _ (Z32 rfl rfl (Shp.rd A0) c66)<|Z6 _ (iz ez67 (Z33 (E:=(El.int .u8)) (s:=[.one (.int .u8 (p0.getD (i59).toNat 0))]) rfl (Z16 A0 Z1f) (Z01 c66) rfl rfl))<|Z6 _ (iz ez68 (Z3k rfl))<|Z6 _ (iz ez69 (Z9 rfl rfl rfl))<|Z7 rfl<|Z1<|bH h fun z71 ez71 h=>Z2<|Z7 rfl<|Z6 _ (iz ez71 (Z9 rfl rfl rfl))<|Z7 rfl<|Z1 ?_
    rw [qk60] at h
    exact ⟨n61,Nat.lt_succ_self _,z69,z71,h,⟨⟨rfl,rfl,rfl,trivial⟩,.nil⟩⟩
   ·exact Zv _ rfl<|⟨i58,h,⟨⟨rfl,trivial⟩,.nil⟩⟩
 ·rintro t m ⟨i37,h,hF⟩
  refine Zg hF ?_
  clear hF
  subst qk38
  refine Z0<|Z2<|Z7 rfl<|Z7 rfl<|Z1<|Zm ?_
  revert h; refine Zw fun h=>?_
  subst h
  exact ⟨_,(.cons (.tmp rfl) .nil),rfl⟩
def Zu3 (p0:Int) (p1:Int):Option (Int) :=
 chk (decide (0≤p1)) <|
 bnd (Zn .u64 p0 p1) fun z4 =>
 bnd (IntKind.wrap .u64 (64-p1)) fun z5 =>
 chk (decide (0≤z5)) <|
 bnd (Zj .u64 p0 z5) fun z7 =>
 bnd (Z4 .or .u64 z4 z7) fun z8 =>
 some z8
theorem Z6e {W:World} {r:Int} {p0:Int} {p1:Int} (h:Zu3 p0 p1=some r)  :
    Calls Tryz.prog 212 [.int .u64 (p0),.int .u64 (p1)].toArray W (Z2s W (.int .u64 (r))):=by
 unfold Zu3 at h
 refine Zc mo Z108 rfl ?_
 refine Z0<|Z2<|Z7 rfl<|Z1<|Z0<|cH h fun c3 h=>bH h fun z4 ez4 h=>bH h fun z5 ez5 h=>cH h fun c6 h=>bH h fun z7 ez7 h=>bH h fun z8 ez8 h=>Z2<|Z7 rfl<|Z7 rfl<|Z6 _ (iz ez4 (Z4i rfl rfl (of_decide_eq_true c3)))<|Z7 rfl<|Z7 rfl<|Z6 _ (iz ez5 (Z9 rfl rfl rfl))<|Z6 _ (iz ez7 (Zid rfl rfl (of_decide_eq_true c6)))<|Z6 _ (iz ez8 (Z9 rfl rfl rfl))<|Z7 rfl<|Z1<|Zm ?_
 revert h; refine Zw fun h=>?_
 subst h
 exact ⟨_,(.cons (.tmp rfl) .nil),rfl⟩
def Zyo (p0:Int):Option (Int) :=
 opt (Zu3 p0 19) fun y3 =>
 opt (Zu3 p0 61) fun y4 =>
 bnd (Z4 .xor .u64 y3 y4) fun z5 =>
 bnd (Zn .u64 p0 6) fun z6 =>
 bnd (Z4 .xor .u64 z5 z6) fun z7 =>
 some z7
theorem Zth {W:World} {r:Int} {p0:Int} (h:Zyo p0=some r)  :
    Calls Tryz.prog 210 [.int .u64 (p0)].toArray W (Z2s W (.int .u64 (r))):=by
 unfold Zyo at h
 refine Zc mo Z106 rfl ?_
 refine Z0<|Z2<|Z7 rfl<|Z1<|Z0<|oH h fun y3 ey3 h=>oH h fun y4 ey4 h=>bH h fun z5 ez5 h=>bH h fun z6 ez6 h=>bH h fun z7 ez7 h=>Z2<|Z7 rfl<|Z6 _ (Z0g rfl (Z6e ey3))<|Z7 rfl<|Z6 _ (Z0g rfl (Z6e ey4))<|Z6 _ (iz ez5 (Z9 rfl rfl rfl))<|Z7 rfl<|Z6 _ (iz ez6 (Z4i rfl rfl (by decide)))<|Z6 _ (iz ez7 (Z9 rfl rfl rfl))<|Z7 rfl<|Z1<|Zm ?_
 revert h; refine Zw fun h=>?_
 subst h
 exact ⟨_,(.cons (.tmp rfl) .nil),rfl⟩
def Zyn (p0:Int):Option (Int) :=
 opt (Zu3 p0 1) fun y3 =>
 opt (Zu3 p0 8) fun y4 =>
 bnd (Z4 .xor .u64 y3 y4) fun z5 =>
 bnd (Zn .u64 p0 7) fun z6 =>
 bnd (Z4 .xor .u64 z5 z6) fun z7 =>
 some z7
theorem Ztg {W:World} {r:Int} {p0:Int} (h:Zyn p0=some r)  :
    Calls Tryz.prog 211 [.int .u64 (p0)].toArray W (Z2s W (.int .u64 (r))):=by
 unfold Zyn at h
 refine Zc mo Z107 rfl ?_
 refine Z0<|Z2<|Z7 rfl<|Z1<|Z0<|oH h fun y3 ey3 h=>oH h fun y4 ey4 h=>bH h fun z5 ez5 h=>bH h fun z6 ez6 h=>bH h fun z7 ez7 h=>Z2<|Z7 rfl<|Z6 _ (Z0g rfl (Z6e ey3))<|Z7 rfl<|Z6 _ (Z0g rfl (Z6e ey4))<|Z6 _ (iz ez5 (Z9 rfl rfl rfl))<|Z7 rfl<|Z6 _ (iz ez6 (Z4i rfl rfl (by decide)))<|Z6 _ (iz ez7 (Z9 rfl rfl rfl))<|Z7 rfl<|Z1<|Zm ?_
 revert h; refine Zw fun h=>?_
 subst h
 exact ⟨_,(.cons (.tmp rfl) .nil),rfl⟩
def Za7 (p0:List Int) (k69:(List (Int))→OL) (k111:(List (Int))→(Int)→OL) (l108:List (Int)) (i110:Int):OL :=
 br ((decide (i110<16))) (
 bnd (IntKind.wrap .i64 (8*i110)) fun z116 =>
 bnd (IntKind.wrap .i64 (8*i110)) fun z117 =>
 bnd (IntKind.wrap .i64 (z117+8)) fun z118 =>
 chk (Zks z116 z118 p0.length) <|
 opt (Zju ((p0.drop (z116).toNat).take ((z118).toNat-(z116).toNat))) fun y120 =>
 chk (decide ((l108.length+([y120]:List (Int)).length)*8≤140737488355328)) <|
 bnd (l108++([y120]:List (Int))) fun l125 =>
 bnd (IntKind.wrap .i64 (i110+1)) fun z130 =>
 k111 l125 z130
 ) (
 k69 l108
 )
def Z4s (p0:List Int) (k69:(List (Int))→OL):Nat→(List (Int))→(Int)→OL
  | 0,_,_=>none
  | n+1,l108,i110=>Za7 p0 k69 (Z4s p0 k69 n) l108 i110
def Za8 (k232:(List (Int))→OL) (k297:(List (Int))→(Int)→OL) (l294:List (Int)) (i296:Int):OL :=
 br ((decide (i296<80))) (
 bnd (IntKind.wrap .i64 (i296-2)) fun z302 =>
 chk (inB z302 l294.length) <|
 bnd (IntKind.wrap .i64 (i296-7)) fun z304 =>
 chk (inB z304 l294.length) <|
 bnd (IntKind.wrap .i64 (i296-15)) fun z306 =>
 chk (inB z306 l294.length) <|
 bnd (IntKind.wrap .i64 (i296-16)) fun z308 =>
 chk (inB z308 l294.length) <|
 bnd (l294.getD (z302).toNat 0) fun z310 =>
 opt (Zyo z310) fun y311 =>
 bnd (l294.getD (z304).toNat 0) fun z312 =>
 bnd (IntKind.wrap .u64 (y311+z312)) fun z313 =>
 bnd (l294.getD (z306).toNat 0) fun z314 =>
 opt (Zyn z314) fun y315 =>
 bnd (IntKind.wrap .u64 (z313+y315)) fun z316 =>
 bnd (l294.getD (z308).toNat 0) fun z317 =>
 bnd (IntKind.wrap .u64 (z316+z317)) fun z318 =>
 chk (decide ((l294.length+([z318]:List (Int)).length)*8≤140737488355328)) <|
 bnd (l294++([z318]:List (Int))) fun l323 =>
 bnd (IntKind.wrap .i64 (i296+1)) fun z328 =>
 k297 l323 z328
 ) (
 k232 l294
 )
def Z4t (k232:(List (Int))→OL):Nat→(List (Int))→(Int)→OL
  | 0,_,_=>none
  | n+1,l294,i296=>Za8 k232 (Z4t k232 n) l294 i296
def Zge (p0:List Int):OL :=
 jn (fun (l67:List (Int))=>jn (fun (l230:List (Int))=>some l230) fun k232=>Z4t k232 big l67 16) fun k69=>Z4s p0 k69 big [] 0
theorem Zn0 {W:World} {r:(List Int)} {p0:List Int} {v0:Value} (h:Zge p0=some r) (A0:Z4y (El.int .u8) W v0 p0) :
    Calls Tryz.prog 177 [v0].toArray W (Zc0 W [] (fun v Ms=>∃ (u0:Value) (M0:List Zf),v=u0∧Ms = [.all M0]∧Z0b (El.int .u64) u0 M0 r)):=by
 unfold Zge at h
 refine Z02 mo Z0zf rfl (Zgo _) ?_
 refine Z0<|Z2<|Z7 rfl<|Z1<|Z0<|Z2<|Z7 rfl<|Z1<|Z0<|Z0<|Z2<|Z7 rfl<|Z1<|jH h fun k69 qk69 h=>Zh (G:=fun t m=>∃ (l67:List (Int)) (v65:Value) (ms66:List Zf),k69 l67=some r∧Z0b (El.int .u64) v65 ms66 l67∧Fit [(3,v65)] (ms66 ++ []) t m) ?_ ?_
 ·refine Za<|Zo (fun n112 t m=>∃ (l108:List (Int)) (i110:Int) (v106:Value) (ms107:List Zf),Z4s p0 k69 n112 l108 i110=some r∧Z0b (El.int .u64) v106 ms107 l108∧Fit [(0,v0),(3,v106),(4,.int .i64 (i110))] (ms107 ++ []) t m) big ?_ ?_
  ·exact ⟨[],0,(.slice none 0 0),[],h,Z59,⟨⟨rfl,rfl,rfl,trivial⟩,(.no .nil)⟩⟩
  ·rintro n112 t m ⟨l108,i110,v106,ms107,h,O109,hF⟩
   refine Zg hF ?_
   clear hF
   rcases n112 with _ | n112
   · exact Z05 h
   have h:Za7 p0 k69 (Z4s p0 k69 n112) l108 i110=some r:=h
   unfold Za7 at h
   obtain ⟨k111,qk111⟩ : ∃ k,k=Z4s p0 k69 n112:=⟨_,rfl⟩
   try rw [← qk111] at h
   refine Z0<|Z0<|Z2<|Z7 rfl<|Z6 _ (Z9 rfl rfl rfl)<|Z1<|Z07 h rfl (fun h=>?_) (fun h=>?_)
   ·refine Zk<|Z0<|Za<|bH h fun z116 ez116 h=>bH h fun z117 ez117 h=>bH h fun z118 ez118 h=>cH h fun c119 h=>oH h fun y120 ey120 h=>cH h fun c124 h=>bH h fun l125 el125 h=>Z2<|Z7 rfl<|Z7 rfl<|Z7 rfl<|Z6 _ (iz ez116 (Z9 rfl rfl rfl))<|Z7 rfl<|Z6 _ (iz ez117 (Z9 rfl rfl rfl))<|Z6 _ (iz ez118 (Z9 rfl rfl rfl))<|Z6 _ (Zrx (lz:=z116) (hz:=z118) rfl (Shp.rd A0) (.yes rfl) (.yes rfl) c119)<|Z6 _ (Z08 rfl (fun w hw=>Zoi ey120 ((Zw7 (Z16 A0 Z1f) (lz:=z116) (hz:=z118) c119) w hw)))<|Zd (Z5h (E:=(El.int .u64)) (xs:=[y120]) (.one rfl rfl rfl BdR.nil) (.cons (p:=[.one (.int .u64 (y120))]) rfl .nil) rfl fun v121 ms122 O123=>Zd (Z3f (E:=(El.int .u64)) el125 rfl O109 (.app .here) rfl (Z0a O123 .here) c124 fun v126 ms127 O128=>Z7 rfl<|Z1<|bH h fun z130 ez130 h=>Z2<|Z7 rfl<|Z6 _ (iz ez130 (Z9 rfl rfl rfl))<|Z7 rfl<|Z1 ?_))
    rw [qk111] at h
    exact ⟨n112,Nat.lt_succ_self _,l125,z130,v126,ms127,h,O128,⟨⟨rfl,rfl,rfl,trivial⟩,(.all .here .nil)⟩⟩
   ·exact Zv _ rfl<|⟨l108,v106,ms107,h,O109,⟨⟨rfl,trivial⟩,(.all .here .nil)⟩⟩
 ·rintro t m ⟨l67,v65,ms66,h,O68,hF⟩
  refine Zg hF ?_
  clear hF
  subst qk69
  refine Z0<|Z0<|Z2<|Z7 rfl<|Z1<|jH h fun k232 qk232 h=>Zh (G:=fun t m=>∃ (l230:List (Int)) (v228:Value) (ms229:List Zf),k232 l230=some r∧Z0b (El.int .u64) v228 ms229 l230∧Fit [(3,v228)] (ms229 ++ []) t m) ?_ ?_
  ·refine Za<|Zo (fun n298 t m=>∃ (l294:List (Int)) (i296:Int) (v292:Value) (ms293:List Zf),Z4t k232 n298 l294 i296=some r∧Z0b (El.int .u64) v292 ms293 l294∧Fit [(3,v292),(5,.int .i64 (i296))] (ms293 ++ []) t m) big ?_ ?_
   ·exact ⟨l67,16,v65,ms66,h,O68,⟨⟨rfl,rfl,trivial⟩,(.all .here .nil)⟩⟩
   ·rintro n298 t m ⟨l294,i296,v292,ms293,h,O295,hF⟩
    refine Zg hF ?_
    clear hF
    rcases n298 with _ | n298
    · exact Z05 h
    have h:Za8 k232 (Z4t k232 n298) l294 i296=some r:=h
    unfold Za8 at h
    obtain ⟨k297,qk297⟩ : ∃ k,k=Z4t k232 n298:=⟨_,rfl⟩
    try rw [← qk297] at h
    refine Z0<|Z0<|Z2<|Z7 rfl<|Z6 _ (Z9 rfl rfl rfl)<|Z1<|Z07 h rfl (fun h=>?_) (fun h=>?_)
    ·refine Zk<|Z0<|Za<|bH h fun z302 ez302 h=>cH h fun c303 h=>bH h fun z304 ez304 h=>cH h fun c305 h=>bH h fun z306 ez306 h=>cH h fun c307 h=>bH h fun z308 ez308 h=>cH h fun c309 h=>bH h fun z310 ez310 h=>oH h fun y311 ey311 h=>bH h fun z312 ez312 h=>bH h fun z313 ez313 h=>bH h fun z314 ez314 h=>oH h fun y315 ey315 h=>bH h fun z316 ez316 h=>bH h fun z317 ez317 h=>bH h fun z318 ez318 h=>cH h fun c322 h=>bH h fun l323 el323 h=>Zu<|Z8 _ (Z0u rfl)<|Z8 _ (Z0u rfl)<|Z8 _ (Z0u rfl)<|Z8 _ (iz ez302 (Z9 rfl rfl rfl))<|Z8 _ (Z32 rfl rfl (Shp.own O295) c303)<|Z8 _ (Z0u rfl)<|Z8 _ (Z0u rfl)<|Z8 _ (iz ez304 (Z9 rfl rfl rfl))<|Z8 _ (Z32 rfl rfl (Shp.own O295) c305)<|Z8 _ (Z0u rfl)<|Z8 _ (Z0u rfl)<|Z8 _ (iz ez306 (Z9 rfl rfl rfl))<|Z8 _ (Z32 rfl rfl (Shp.own O295) c307)<|Z8 _ (Z0u rfl)<|Z8 _ (Z0u rfl)<|Z8 _ (iz ez308 (Z9 rfl rfl rfl))<|Z8 _ (Z32 rfl rfl (Shp.own O295) c309)<|Zq _ (iz ez310 (Z33 (E:=(El.int .u64)) (s:=[.one (.int .u64 (l294.getD (z302).toNat 0))]) rfl (Z0a O295 .here) (Z01 c303) rfl rfl))<|Z8 _ (Z0g rfl (Zth ey311))<|Zq _ (iz ez312 (Z33 (E:=(El.int .u64)) (s:=[.one (.int .u64 (l294.getD (z304).toNat 0))]) rfl (Z0a O295 .here) (Z01 c305) rfl rfl))<|Z8 _ (iz ez313 (Z9 rfl rfl rfl))<|Zq _ (iz ez314 (Z33 (E:=(El.int .u64)) (s:=[.one (.int .u64 (l294.getD (z306).toNat 0))]) rfl (Z0a O295 .here) (Z01 c307) rfl rfl))<|Z8 _ (Z0g rfl (Ztg ey315))<|Z8 _ (iz ez316 (Z9 rfl rfl rfl))<|Zq _ (iz ez317 (Z33 (E:=(El.int .u64)) (s:=[.one (.int .u64 (l294.getD (z308).toNat 0))]) rfl (Z0a O295 .here) (Z01 c309) rfl rfl))<|Z8 _ (iz ez318 (Z9 rfl rfl rfl))<|Z5d (Z5h (E:=(El.int .u64)) (xs:=[z318]) (.one rfl rfl rfl BdR.nil) (.cons (p:=[.one (.int .u64 (z318))]) rfl .nil) rfl fun v319 ms320 O321=>⟨(by repeat (first | exact Sup.refl _ | apply Sup.cons | apply Sup.app)),Z1b rfl (Z3f (E:=(El.int .u64)) el323 rfl O295 (.app .here) rfl (Z0a O321 .here) c322 fun v324 ms325 O326=>Z8 _ (Z0u rfl) (Z03 (bH h fun z328 ez328 h=>Z2 (Z7 rfl (Z6 _ (iz ez328 (Z9 rfl rfl rfl)) (Z7 rfl (Z1 ?_)))))))⟩)
     rw [qk297] at h
     exact ⟨n298,Nat.lt_succ_self _,l323,z328,v324,ms325,h,O326,⟨⟨rfl,rfl,trivial⟩,(.all .here .nil)⟩⟩
    ·exact Zv _ rfl<|⟨l294,v292,ms293,h,O295,⟨⟨rfl,trivial⟩,(.all .here .nil)⟩⟩
  ·rintro t m ⟨l230,v228,ms229,h,O231,hF⟩
   refine Zg hF ?_
   clear hF
   subst qk232
   refine Z0<|Z2<|Z7 rfl<|Z7 rfl<|Z1<|Zm ?_
   revert h; refine Zw fun h=>?_
   subst h
   exact ⟨_,_,(.cons (.tmp rfl) .nil),(.all .here .nil),⟨_,rfl,⟨v228,ms229,rfl,rfl,O231⟩⟩⟩
def Zir (p0:List Int) (p1:Int) (p2:Int):OL :=
 bnd (p0.getD 4 0) fun z5 =>
 bnd (p0.getD 0 0) fun z7 =>
 bnd (p0.getD 5 0) fun z9 =>
 bnd (Z4 .and .u64 z5 z9) fun z10 =>
 bnd (Z4 .xor .u64 18446744073709551615 z5) fun z11 =>
 bnd (p0.getD 6 0) fun z12 =>
 bnd (Z4 .and .u64 z11 z12) fun z13 =>
 bnd (Z4 .xor .u64 z10 z13) fun z14 =>
 bnd (p0.getD 1 0) fun z16 =>
 bnd (Z4 .and .u64 z7 z16) fun z17 =>
 bnd (p0.getD 2 0) fun z18 =>
 bnd (Z4 .and .u64 z7 z18) fun z19 =>
 bnd (Z4 .xor .u64 z17 z19) fun z20 =>
 bnd (p0.getD 1 0) fun z21 =>
 bnd (p0.getD 2 0) fun z22 =>
 bnd (Z4 .and .u64 z21 z22) fun z23 =>
 bnd (Z4 .xor .u64 z20 z23) fun z24 =>
 opt (Zu3 z5 14) fun y26 =>
 opt (Zu3 z5 18) fun y27 =>
 bnd (Z4 .xor .u64 y26 y27) fun z28 =>
 opt (Zu3 z5 41) fun y29 =>
 bnd (Z4 .xor .u64 z28 y29) fun z30 =>
 bnd (p0.getD 7 0) fun z31 =>
 bnd (IntKind.wrap .u64 (z31+z30)) fun z32 =>
 bnd (IntKind.wrap .u64 (z32+z14)) fun z33 =>
 bnd (IntKind.wrap .u64 (z33+p1)) fun z34 =>
 bnd (IntKind.wrap .u64 (z34+p2)) fun z35 =>
 opt (Zu3 z7 28) fun y37 =>
 opt (Zu3 z7 34) fun y38 =>
 bnd (Z4 .xor .u64 y37 y38) fun z39 =>
 opt (Zu3 z7 39) fun y40 =>
 bnd (Z4 .xor .u64 z39 y40) fun z41 =>
 bnd (IntKind.wrap .u64 (z41+z24)) fun z42 =>
 bnd (IntKind.wrap .u64 (z35+z42)) fun z44 =>
 bnd (p0.getD 0 0) fun z45 =>
 bnd (p0.getD 1 0) fun z46 =>
 bnd (p0.getD 2 0) fun z47 =>
 bnd (p0.getD 3 0) fun z48 =>
 bnd (IntKind.wrap .u64 (z48+z35)) fun z49 =>
 bnd (p0.getD 4 0) fun z50 =>
 bnd (p0.getD 5 0) fun z51 =>
 bnd (p0.getD 6 0) fun z52 =>
 bnd (([z44,z45,z46,z47,z49,z50,z51,z52]:List Int)) fun z53 =>
 some z53
theorem Zmz {W:World} {r:(List Int)} {p0:List Int} {p1:Int} {p2:Int} (h:Zir p0 p1 p2=some r)  :
    Calls Tryz.prog 178 [agg [.ints .u64 8 (p0)],.int .u64 (p1),.int .u64 (p2)].toArray W (Z2s W (agg [.ints .u64 8 (r)])):=by
 unfold Zir at h
 refine Zc mo Z0zg rfl ?_
 refine Z0<|Z2<|Zd (Z0e (s:=[.ints .u64 8 (p0)]) rfl fun b2 hb2=>Zd (Zr fun b3 hb3=>Z1<|Z0<|bH h fun z5 ez5 h=>Z2<|Z6 _ (Z0v rfl rfl (by decide))<|Z6 _ (iz ez5 (Z1a rfl (.there .here) rfl))<|Z7 rfl<|Z1<|Z0<|bH h fun z7 ez7 h=>Z2<|Z6 _ (Z0v rfl rfl (by decide))<|Z6 _ (iz ez7 (Z1a rfl (.there .here) rfl))<|Z7 rfl<|Z1<|Z0<|bH h fun z9 ez9 h=>bH h fun z10 ez10 h=>bH h fun z11 ez11 h=>bH h fun z12 ez12 h=>bH h fun z13 ez13 h=>bH h fun z14 ez14 h=>Z2<|Z7 rfl<|Z6 _ (Z0v rfl rfl (by decide))<|Z6 _ (iz ez9 (Z1a rfl (.there .here) rfl))<|Z6 _ (iz ez10 (Z9 rfl rfl rfl))<|Z7 rfl<|Z6 _ (iz ez11 (Zyr rfl rfl))<|Z6 _ (Z0v rfl rfl (by decide))<|Z6 _ (iz ez12 (Z1a rfl (.there .here) rfl))<|Z6 _ (iz ez13 (Z9 rfl rfl rfl))<|Z6 _ (iz ez14 (Z9 rfl rfl rfl))<|Z7 rfl<|Z1<|Z0<|bH h fun z16 ez16 h=>bH h fun z17 ez17 h=>bH h fun z18 ez18 h=>bH h fun z19 ez19 h=>bH h fun z20 ez20 h=>bH h fun z21 ez21 h=>bH h fun z22 ez22 h=>bH h fun z23 ez23 h=>bH h fun z24 ez24 h=>Z2<|Z7 rfl<|Z6 _ (Z0v rfl rfl (by decide))<|Z6 _ (iz ez16 (Z1a rfl (.there .here) rfl))<|Z6 _ (iz ez17 (Z9 rfl rfl rfl))<|Z7 rfl<|Z6 _ (Z0v rfl rfl (by decide))<|Z6 _ (iz ez18 (Z1a rfl (.there .here) rfl))<|Z6 _ (iz ez19 (Z9 rfl rfl rfl))<|Z6 _ (iz ez20 (Z9 rfl rfl rfl))<|Z6 _ (Z0v rfl rfl (by decide))<|Z6 _ (iz ez21 (Z1a rfl (.there .here) rfl))<|Z6 _ (Z0v rfl rfl (by decide))<|Z6 _ (iz ez22 (Z1a rfl (.there .here) rfl))<|Z6 _ (iz ez23 (Z9 rfl rfl rfl))<|Z6 _ (iz ez24 (Z9 rfl rfl rfl))<|Z7 rfl<|Z1<|Z0<|oH h fun y26 ey26 h=>oH h fun y27 ey27 h=>bH h fun z28 ez28 h=>oH h fun y29 ey29 h=>bH h fun z30 ez30 h=>bH h fun z31 ez31 h=>bH h fun z32 ez32 h=>bH h fun z33 ez33 h=>bH h fun z34 ez34 h=>bH h fun z35 ez35 h=>Zu<|Z8 _ (Z0v rfl rfl (by decide))<|Z8 _ (Z0u rfl)<|Z8 _ (Z0g rfl (Z6e ey26))<|Z8 _ (Z0u rfl)<|Z8 _ (Z0g rfl (Z6e ey27))<|Z8 _ (iz ez28 (Z9 rfl rfl rfl))<|Z8 _ (Z0u rfl)<|Z8 _ (Z0g rfl (Z6e ey29))<|Z8 _ (iz ez30 (Z9 rfl rfl rfl))<|Z8 _ (Z0u rfl)<|Z8 _ (Z0u rfl)<|Z8 _ (Z0u rfl)<|Zq _ (iz ez31 (Z1a rfl (.there .here) rfl))<|Z8 _ (iz ez32 (Z9 rfl rfl rfl))<|Z8 _ (iz ez33 (Z9 rfl rfl rfl))<|Z8 _ (iz ez34 (Z9 rfl rfl rfl))<|Z8 _ (iz ez35 (Z9 rfl rfl rfl))<|Z8 _ (Z0u rfl)<|Z03<|Z0<|oH h fun y37 ey37 h=>oH h fun y38 ey38 h=>bH h fun z39 ez39 h=>oH h fun y40 ey40 h=>bH h fun z41 ez41 h=>bH h fun z42 ez42 h=>Z2<|Z7 rfl<|Z6 _ (Z0g rfl (Z6e ey37))<|Z7 rfl<|Z6 _ (Z0g rfl (Z6e ey38))<|Z6 _ (iz ez39 (Z9 rfl rfl rfl))<|Z7 rfl<|Z6 _ (Z0g rfl (Z6e ey40))<|Z6 _ (iz ez41 (Z9 rfl rfl rfl))<|Z7 rfl<|Z6 _ (iz ez42 (Z9 rfl rfl rfl))<|Z7 rfl<|Z1<|Z0<|bH h fun z44 ez44 h=>bH h fun z45 ez45 h=>bH h fun z46 ez46 h=>bH h fun z47 ez47 h=>bH h fun z48 ez48 h=>bH h fun z49 ez49 h=>bH h fun z50 ez50 h=>bH h fun z51 ez51 h=>bH h fun z52 ez52 h=>bH h fun z53 ez53 h=>Z2<|Z7 rfl<|Z7 rfl<|Z6 _ (iz ez44 (Z9 rfl rfl rfl))<|Z6 _ (Z0v rfl rfl (by decide))<|Z6 _ (iz ez45 (Z1a rfl (.there .here) rfl))<|Z6 _ (Z0v rfl rfl (by decide))<|Z6 _ (iz ez46 (Z1a rfl (.there .here) rfl))<|Z6 _ (Z0v rfl rfl (by decide))<|Z6 _ (iz ez47 (Z1a rfl (.there .here) rfl))<|Z6 _ (Z0v rfl rfl (by decide))<|Z6 _ (iz ez48 (Z1a rfl (.there .here) rfl))<|Z7 rfl<|Z6 _ (iz ez49 (Z9 rfl rfl rfl))<|Z6 _ (Z0v rfl rfl (by decide))<|Z6 _ (iz ez50 (Z1a rfl (.there .here) rfl))<|Z6 _ (Z0v rfl rfl (by decide))<|Z6 _ (iz ez51 (Z1a rfl (.there .here) rfl))<|Z6 _ (Z0v rfl rfl (by decide))<|Z6 _ (iz ez52 (Z1a rfl (.there .here) rfl))<|Z6 _ (az (fun z=>agg [.ints .u64 8 z]) ez53 (Zgu (.one rfl rfl rfl (.one rfl rfl rfl (.one rfl rfl rfl (.one rfl rfl rfl (.one rfl rfl rfl (.one rfl rfl rfl (.one rfl rfl rfl (.one rfl rfl rfl BdR.nil))))))))))<|Zd (Zp (q:=[.ints .u64 8 (z53)]) rfl rfl rfl rfl rfl .here<|Z1<|Zm ?_)))
 revert h; refine Zw fun h=>?_
 subst h
 exact ⟨_,(.cons (.agg rfl .here rfl) .nil),rfl⟩
def Zbl (y5:(List Int)) (k48:(List Int)→OL) (k70:(Int)→(List Int)→OL) (i68:Int) (a69:List Int):OL :=
 br ((decide (i68<80))) (
 chk (inB i68 80) <|
 chk (inB i68 y5.length) <|
 bnd (G_rtable.getD (i68).toNat 0) fun z77 =>
 bnd (y5.getD (i68).toNat 0) fun z78 =>
 opt (Zir a69 z77 z78) fun y79 =>
 bnd (IntKind.wrap .i64 (i68+1)) fun z81 =>
 k70 z81 y79
 ) (
 k48 a69
 )
def Z65 (y5:(List Int)) (k48:(List Int)→OL):Nat→(Int)→(List Int)→OL
  | 0,_,_=>none
  | n+1,i68,a69=>Zbl y5 k48 (Z65 y5 k48 n) i68 a69
def Zh7 (p0:List Int) (k121:(List Int)→OL) (k145:(Int)→(List Int)→OL) (i143:Int) (a144:List Int):OL :=
 br ((decide (i143<8))) (
 chk (inB i143 8) <|
 chk (inB i143 8) <|
 bnd (a144.getD (i143).toNat 0) fun z152 =>
 bnd (p0.getD (i143).toNat 0) fun z153 =>
 bnd (IntKind.wrap .u64 (z152+z153)) fun z154 =>
 chk (inB i143 8) <|
 bnd (Z21 a144 (i143).toNat z154) fun l156 =>
 bnd (IntKind.wrap .i64 (i143+1)) fun z158 =>
 k145 z158 l156
 ) (
 k121 a144
 )
def Z9m (p0:List Int) (k121:(List Int)→OL):Nat→(Int)→(List Int)→OL
  | 0,_,_=>none
  | n+1,i143,a144=>Zh7 p0 k121 (Z9m p0 k121 n) i143 a144
def Zjt (p0:List Int) (p1:List Int):OL :=
 opt (Zge p1) fun y5 =>
 jn (fun (a47:List Int)=>jn (fun (a120:List Int)=>some a120) fun k121=>Z9m p0 k121 big 0 a47) fun k48=>Z65 y5 k48 big 0 p0
theorem Zoh {W:World} {r:(List Int)} {p0:List Int} {p1:List Int} {v1:Value} (h:Zjt p0 p1=some r) (hG:Globs W) (A1:Z4y (El.int .u8) W v1 p1) :
    Calls Tryz.prog 110 [agg [.ints .u64 8 (p0)],v1].toArray W (Z2s W (agg [.ints .u64 8 (r)])):=by
 unfold Zjt at h
 refine Zc mo Z0xv rfl ?_
 refine Z0<|Z2<|Zd (Z0e (s:=[.ints .u64 8 (p0)]) rfl fun b2 hb2=>Zd (Zr fun b3 hb3=>Z1<|Z0<|oH h fun y5 ey5 h=>Z2<|Z7 rfl<|Zd (Zz rfl (fun w hw=>Zn0  ey5 ((Z16 A1 Z1f) w hw)) fun v6 Msv6 R7=>?_)))
 obtain ⟨_,ms9,rfl,rfl,O10⟩:=R7
 refine Z7 rfl<|Z1<|Z0<|Z2<|Z6 _ (Z00 (p:=[.ints .u64 8 (p0)]) rfl (.app (.there .here)) rfl)<|Zd (Zr fun b12 hb12=>Zd (Zp (q:=[.ints .u64 8 (p0)]) rfl rfl rfl rfl rfl .here<|Z1<|Z0<|Z0<|Z2<|Z7 rfl<|Z1<|jH h fun k48 qk48 h=>Zh (G:=fun t m=>∃ (a47:List Int),k48 a47=some r∧Fit [(2,.pointer (some ⟨b2,0,none⟩)),(4,.pointer (some ⟨b3,0,none⟩)),(6,.pointer (some ⟨b12,0,none⟩))] (ck b12 144 [.ints .u64 8 (a47)]::(ck b3 144 [.ints .u64 8 ((List.replicate 8 0))]::(ck b2 144 [.ints .u64 8 (p0)] :: []))) t m) ?_ ?_))
 ·refine Za<|Zo (fun n71 t m=>∃ (i68:Int) (a69:List Int),Z65 y5 k48 n71 i68 a69=some r∧Fit [(2,.pointer (some ⟨b2,0,none⟩)),(4,.pointer (some ⟨b3,0,none⟩)),(5,v6),(6,.pointer (some ⟨b12,0,none⟩)),(7,.int .i64 (i68))] (ck b12 144 [.ints .u64 8 (a69)]::(ms9++(ck b3 144 [.ints .u64 8 ((List.replicate 8 0))]::(ck b2 144 [.ints .u64 8 (p0)] :: [])))) t m) big ?_ ?_
  ·exact ⟨0,p0,h,⟨⟨rfl,rfl,rfl,rfl,rfl,trivial⟩,(.one .here (.all .here (.one .here (.one .here .nil))))⟩⟩
  ·rintro n71 t m ⟨i68,a69,h,hF⟩
   refine Zg hF ?_
   clear hF
   rcases n71 with _ | n71
   · exact Z05 h
   have h:Zbl y5 k48 (Z65 y5 k48 n71) i68 a69=some r:=h
   unfold Zbl at h
   obtain ⟨k70,qk70⟩ : ∃ k,k=Z65 y5 k48 n71:=⟨_,rfl⟩
   try rw [← qk70] at h
   refine Z0<|Z0<|Z2<|Z7 rfl<|Z6 _ (Z9 rfl rfl rfl)<|Z1<|Z07 h rfl (fun h=>?_) (fun h=>?_)
   ·refine Zk<|Z0<|Za<|cH h fun c75 h=>cH h fun c76 h=>bH h fun z77 ez77 h=>bH h fun z78 ez78 h=>oH h fun y79 ey79 h=>Zu<|Z8 _ (Z0u rfl)<|Z8 _ (Z0v rfl rfl (Z09 c75))<|Z8 _ (Z0u rfl)<|Z8 _ (Z0u rfl)<|Z8 _ (Z32 rfl rfl (Shp.own O10) c76)<|Zq _ (Z00 (p:=[.ints .u64 8 (a69)]) rfl .here rfl)<|Zq _ (iz ez77 (Zw0 rfl (hG.g3) (by simp) (Z01 c75)))<|Zq _ (iz ez78 (Z33 (E:=(El.int .u64)) (s:=[.one (.int .u64 (y5.getD (i68).toNat 0))]) rfl (Z0a O10 (.there .here)) (Z01 c76) rfl rfl))<|Z8 _ (Z0g rfl (Zmz ey79))<|Z1b rfl (Zp (q:=[.ints .u64 8 (y79)]) rfl rfl rfl rfl rfl .here<|Z03<|bH h fun z81 ez81 h=>Z2<|Z7 rfl<|Z6 _ (iz ez81 (Z9 rfl rfl rfl))<|Z7 rfl<|Z1 ?_)
    rw [qk70] at h
    exact ⟨n71,Nat.lt_succ_self _,z81,y79,h,⟨⟨rfl,rfl,rfl,rfl,rfl,trivial⟩,(.one .here (.all .here (.one .here (.one .here .nil))))⟩⟩
   ·exact Zv _ rfl<|⟨a69,h,⟨⟨rfl,rfl,rfl,trivial⟩,(.one .here (.one (.app .here) (.one (.app .here) .nil)))⟩⟩
 ·rintro t m ⟨a47,h,hF⟩
  refine Zg hF ?_
  clear hF
  subst qk48
  refine Z0<|Z0<|Z2<|Z7 rfl<|Z1<|jH h fun k121 qk121 h=>Zh (G:=fun t m=>∃ (a120:List Int),k121 a120=some r∧Fit [(4,.pointer (some ⟨b3,0,none⟩)),(6,.pointer (some ⟨b12,0,none⟩))] (ck b12 144 [.ints .u64 8 (a120)]::(ck b3 144 [.ints .u64 8 ((List.replicate 8 0))]::(ck b2 144 [.ints .u64 8 (p0)] :: []))) t m) ?_ ?_
  ·refine Za<|Zo (fun n146 t m=>∃ (i143:Int) (a144:List Int),Z9m p0 k121 n146 i143 a144=some r∧Fit [(2,.pointer (some ⟨b2,0,none⟩)),(4,.pointer (some ⟨b3,0,none⟩)),(6,.pointer (some ⟨b12,0,none⟩)),(8,.int .i64 (i143))] (ck b12 144 [.ints .u64 8 (a144)]::(ck b3 144 [.ints .u64 8 ((List.replicate 8 0))]::(ck b2 144 [.ints .u64 8 (p0)] :: []))) t m) big ?_ ?_
   ·exact ⟨0,a47,h,⟨⟨rfl,rfl,rfl,rfl,trivial⟩,(.one .here (.one .here (.one .here .nil)))⟩⟩
   ·rintro n146 t m ⟨i143,a144,h,hF⟩
    refine Zg hF ?_
    clear hF
    rcases n146 with _ | n146
    · exact Z05 h
    have h:Zh7 p0 k121 (Z9m p0 k121 n146) i143 a144=some r:=h
    unfold Zh7 at h
    obtain ⟨k145,qk145⟩ : ∃ k,k=Z9m p0 k121 n146:=⟨_,rfl⟩
    try rw [← qk145] at h
    refine Z0<|Z0<|Z2<|Z7 rfl<|Z6 _ (Z9 rfl rfl rfl)<|Z1<|Z07 h rfl (fun h=>?_) (fun h=>?_)
    ·refine Zk<|Z0<|Za<|cH h fun c150 h=>cH h fun c151 h=>bH h fun z152 ez152 h=>bH h fun z153 ez153 h=>bH h fun z154 ez154 h=>cH h fun c155 h=>bH h fun l156 el156 h=>Zu<|Z8 _ (Z0u rfl)<|Z8 _ (Z0u rfl)<|Z8 _ (Z0v rfl rfl (Z09 c150))<|Z8 _ (Z0u rfl)<|Z8 _ (Z0v rfl rfl (Z09 c151))<|Zq _ (iz ez152 (Z2e (base:=0) rfl .here rfl (Z01 c150)))<|Zq _ (iz ez153 (Z2e (base:=0) rfl (.there (.there .here)) rfl (Z01 c151)))<|Z8 _ (iz ez154 (Z9 rfl rfl rfl))<|Z8 _ (Z0v rfl rfl (Z09 c155))<|Z1b rfl (Z1e (q:=[.ints .u64 8 (l156)]) (base:=0) el156 rfl rfl rfl (Z01 c155) rfl .here<|Z03<|bH h fun z158 ez158 h=>Z2<|Z7 rfl<|Z6 _ (iz ez158 (Z9 rfl rfl rfl))<|Z7 rfl<|Z1 ?_)
     rw [qk145] at h
     exact ⟨n146,Nat.lt_succ_self _,z158,l156,h,⟨⟨rfl,rfl,rfl,rfl,trivial⟩,(.one .here (.one .here (.one .here .nil)))⟩⟩
    ·exact Zv _ rfl<|⟨a144,h,⟨⟨rfl,rfl,trivial⟩,(.one .here (.one .here (.one .here .nil)))⟩⟩
  ·rintro t m ⟨a120,h,hF⟩
   refine Zg hF ?_
   clear hF
   subst qk121
   refine Z0<|Z2<|Z6 _ (Z00 (p:=[.ints .u64 8 (a120)]) rfl .here rfl)<|Zd (Zp (q:=[.ints .u64 8 (a120)]) rfl rfl rfl rfl rfl (.there .here)<|Z1<|Zm ?_)
   revert h; refine Zw fun h=>?_
   subst h
   exact ⟨_,(.cons (.agg rfl (.there .here) rfl) .nil),rfl⟩
def Zdq (l19:List (Int)) (k55:(List Int)→OL) (k74:(Int)→(List Int)→OL) (i72:Int) (a73:List Int):OL :=
 br ((decide (i72<(l19.length:Int)))) (
 bnd (IntKind.wrap .i64 (i72+128)) fun z79 =>
 chk (Zks i72 z79 l19.length) <|
 opt (Zjt a73 ((l19.drop (i72).toNat).take ((z79).toNat-(i72).toNat))) fun y81 =>
 bnd (IntKind.wrap .i64 (i72+128)) fun z83 =>
 k74 z83 y81
 ) (
 k55 a73
 )
def Z6f (l19:List (Int)) (k55:(List Int)→OL):Nat→(Int)→(List Int)→OL
  | 0,_,_=>none
  | n+1,i72,a73=>Zdq l19 k55 (Z6f l19 k55 n) i72 a73
def Zjs (i521:Int) (y530:(List Int)) (k575:(List Int)→OL) (k600:(Int)→(List Int)→OL) (i598:Int) (a599:List Int):OL :=
 br ((decide (i598<8))) (
 bnd (IntKind.wrap .i64 (8*i521)) fun z605 =>
 bnd (IntKind.wrap .i64 (z605+i598)) fun z606 =>
 chk (inB i598 y530.length) <|
 bnd (y530.getD (i598).toNat 0) fun z608 =>
 chk (inB z606 64) <|
 bnd (Z21 a599 (z606).toNat z608) fun l610 =>
 bnd (IntKind.wrap .i64 (i598+1)) fun z612 =>
 k600 z612 l610
 ) (
 k575 a599
 )
def Zdr (i521:Int) (y530:(List Int)) (k575:(List Int)→OL):Nat→(Int)→(List Int)→OL
  | 0,_,_=>none
  | n+1,i598,a599=>Zjs i521 y530 k575 (Zdr i521 y530 k575 n) i598 a599
def Zjr (a54:List Int) (k351:(List Int)→OL) (k523:(Int)→(List Int)→OL) (i521:Int) (a522:List Int):OL :=
 br ((decide (i521<8))) (
 chk (inB i521 8) <|
 bnd (a54.getD (i521).toNat 0) fun z529 =>
 opt (Zfn z529) fun y530 =>
 jn (fun (a574:List Int)=>bnd (IntKind.wrap .i64 (i521+1)) fun z614 =>
 k523 z614 a574) fun k575=>Zdr i521 y530 k575 big 0 a522
 ) (
 k351 a522
 )
def Zbk (a54:List Int) (k351:(List Int)→OL):Nat→(Int)→(List Int)→OL
  | 0,_,_=>none
  | n+1,i521,a522=>Zjr a54 k351 (Zbk a54 k351 n) i521 a522
def Zhu (p0:List Int):OL :=
 chk (decide ((([]:List (Int)).length+p0.length)*1≤140737488355328)) <|
 bnd (([]:List (Int))++p0) fun l6 =>
 bnd (IntKind.wrap .u64 (p0.length:Int)) fun z11 =>
 opt (Zog z11) fun y12 =>
 chk (decide ((l6.length+y12.length)*1≤140737488355328)) <|
 bnd (l6++y12) fun l19 =>
 jn (fun (a54:List Int)=>jn (fun (a350:List Int)=>some a350) fun k351=>Zbk a54 k351 big 0 (List.replicate 64 0)) fun k55=>Z6f l19 k55 big 0 G_rfirst
theorem Z83 {W:World} {r:(List Int)} {p0:List Int} {v0:Value} (h:Zhu p0=some r) (hG:Globs W) (A0:Z4y (El.int .u8) W v0 p0) :
    Calls Tryz.prog 58 [v0].toArray W (Z2s W (agg [.ints .u8 64 (r)])):=by
 unfold Zhu at h
 refine Zc mo ok58 rfl ?_
 refine Z0<|Z2<|Zd (Zr fun b2 hb2=>Z1<|Z0<|Z2<|Z7 rfl<|Z1<|Z0<|cH h fun c5 h=>bH h fun l6 el6 h=>Z2<|Z7 rfl<|Z7 rfl<|Zd (Z3f (E:=(El.int .u8)) el6 rfl Z59 .here rfl (Z16 A0 Z1f) c5 fun v7 ms8 O9=>Z7 rfl<|Z1<|Z0<|bH h fun z11 ez11 h=>oH h fun y12 ey12 h=>cH h fun c18 h=>bH h fun l19 el19 h=>Z2<|Z7 rfl<|Z7 rfl<|Z6 _ (Z25 rfl (Shp.rd A0))<|Z6 _ (iz ez11 (Z3k rfl))<|Zd (Zz rfl (fun w hw=>Zq7  ey12 ) fun v13 Msv13 R14=>?_)))
 obtain ⟨_,ms16,rfl,rfl,O17⟩:=R14
 refine Zd (Z3f (E:=(El.int .u8)) el19 rfl O9 (.app .here) rfl (Z0a O17 .here) c18 fun v20 ms21 O22=>Z7 rfl<|Z1<|Z0<|Z2<|Z6 _ (Zti (o0:=0) (off:=0) rfl (hG.g0) (by simp) rfl)<|Zd (Zr fun b24 hb24=>Zd (Zp (q:=[.ints .u64 8 (G_rfirst)]) rfl rfl rfl rfl rfl .here<|Z1<|Z0<|Z0<|Z2<|Z7 rfl<|Z1<|jH h fun k55 qk55 h=>Zh (G:=fun t m=>∃ (a54:List Int),k55 a54=some r∧Fit [(2,.pointer (some ⟨b2,0,none⟩)),(4,.pointer (some ⟨b24,0,none⟩))] (ck b24 144 [.ints .u64 8 (a54)]::(ck b2 94 [.ints .u8 64 ((List.replicate 64 0))] :: [])) t m) ?_ ?_)))
 ·refine Za<|Zo (fun n75 t m=>∃ (i72:Int) (a73:List Int),Z6f l19 k55 n75 i72 a73=some r∧Fit [(2,.pointer (some ⟨b2,0,none⟩)),(3,v20),(4,.pointer (some ⟨b24,0,none⟩)),(5,.int .i64 (i72))] (ck b24 144 [.ints .u64 8 (a73)]::(ms21++(ck b2 94 [.ints .u8 64 ((List.replicate 64 0))] :: []))) t m) big ?_ ?_
  ·exact ⟨0,G_rfirst,h,⟨⟨rfl,rfl,rfl,rfl,trivial⟩,(.one .here (.all .here (.one (.app .here) .nil)))⟩⟩
  ·rintro n75 t m ⟨i72,a73,h,hF⟩
   refine Zg hF ?_
   clear hF
   rcases n75 with _ | n75
   · exact Z05 h
   have h:Zdq l19 k55 (Z6f l19 k55 n75) i72 a73=some r:=h
   unfold Zdq at h
   obtain ⟨k74,qk74⟩ : ∃ k,k=Z6f l19 k55 n75:=⟨_,rfl⟩
   try rw [← qk74] at h
   refine Z0<|Z0<|Z2<|Z7 rfl<|Z7 rfl<|Z6 _ (Z25 rfl (Shp.own O22))<|Z6 _ (Z9 rfl rfl rfl)<|Z1<|Z07 h rfl (fun h=>?_) (fun h=>?_)
   ·refine Zk<|Z0<|Za<|bH h fun z79 ez79 h=>cH h fun c80 h=>oH h fun y81 ey81 h=>Zu<|Z8 _ (Z0u rfl)<|Z8 _ (Z0u rfl)<|Z8 _ (Z0u rfl)<|Z8 _ (iz ez79 (Z9 rfl rfl rfl))<|Z8 _ (Zrx (lz:=i72) (hz:=z79) rfl (Shp.own O22) (.yes rfl) (.yes rfl) c80)<|Zq _ (Z00 (p:=[.ints .u64 8 (a73)]) rfl .here rfl)<|Zq _ (Z08 rfl (fun w hw=>Zoh ey81 (hG.at hw (by simp)) ((Zw7 (Z0a O22 (.there .here)) (lz:=i72) (hz:=z79) c80) w hw)))<|Z1b rfl (Zp (q:=[.ints .u64 8 (y81)]) rfl rfl rfl rfl rfl .here<|Z03<|bH h fun z83 ez83 h=>Z2<|Z7 rfl<|Z6 _ (iz ez83 (Z9 rfl rfl rfl))<|Z7 rfl<|Z1 ?_)
    rw [qk74] at h
    exact ⟨n75,Nat.lt_succ_self _,z83,y81,h,⟨⟨rfl,rfl,rfl,rfl,trivial⟩,(.one .here (.all .here (.one .here .nil)))⟩⟩
   ·exact Zv _ rfl<|⟨a73,h,⟨⟨rfl,rfl,trivial⟩,(.one .here (.one (.app .here) .nil))⟩⟩
 ·rintro t m ⟨a54,h,hF⟩
  refine Zg hF ?_
  clear hF
  subst qk55
  refine Z0<|Z2<|Zd (Zr fun b85 hb85=>Z1<|Z0<|Z0<|Z2<|Z7 rfl<|Z1<|jH h fun k351 qk351 h=>Zh (G:=fun t m=>∃ (a350:List Int),k351 a350=some r∧Fit [(2,.pointer (some ⟨b2,0,none⟩)),(6,.pointer (some ⟨b85,0,none⟩))] (ck b85 94 [.ints .u8 64 (a350)]::(ck b24 144 [.ints .u64 8 (a54)]::(ck b2 94 [.ints .u8 64 ((List.replicate 64 0))] :: []))) t m) ?_ ?_)
  ·refine Za<|Zo (fun n524 t m=>∃ (i521:Int) (a522:List Int),Zbk a54 k351 n524 i521 a522=some r∧Fit [(2,.pointer (some ⟨b2,0,none⟩)),(4,.pointer (some ⟨b24,0,none⟩)),(6,.pointer (some ⟨b85,0,none⟩)),(7,.int .i64 (i521))] (ck b85 94 [.ints .u8 64 (a522)]::(ck b24 144 [.ints .u64 8 (a54)]::(ck b2 94 [.ints .u8 64 ((List.replicate 64 0))] :: []))) t m) big ?_ ?_
   ·exact ⟨0,(List.replicate 64 0),h,⟨⟨rfl,rfl,rfl,rfl,trivial⟩,(.one .here (.one .here (.one .here .nil)))⟩⟩
   ·rintro n524 t m ⟨i521,a522,h,hF⟩
    refine Zg hF ?_
    clear hF
    rcases n524 with _ | n524
    · exact Z05 h
    have h:Zjr a54 k351 (Zbk a54 k351 n524) i521 a522=some r:=h
    unfold Zjr at h
    obtain ⟨k523,qk523⟩ : ∃ k,k=Zbk a54 k351 n524:=⟨_,rfl⟩
    try rw [← qk523] at h
    refine Z0<|Z0<|Z2<|Z7 rfl<|Z6 _ (Z9 rfl rfl rfl)<|Z1<|Z07 h rfl (fun h=>?_) (fun h=>?_)
    ·refine Zk<|Z0<|Za<|Z0<|cH h fun c528 h=>bH h fun z529 ez529 h=>oH h fun y530 ey530 h=>Z2<|Z7 rfl<|Z6 _ (Z0v rfl rfl (Z09 c528))<|Z6 _ (iz ez529 (Z2e (base:=0) rfl (.there .here) rfl (Z01 c528)))<|Zd (Zz rfl (fun w hw=>Zds  ey530 ) fun v531 Msv531 R532=>?_)
     obtain ⟨_,ms534,rfl,rfl,O535⟩:=R532
     refine Z7 rfl<|Z1<|Z0<|Z2<|Z7 rfl<|Z1<|jH h fun k575 qk575 h=>Zh (G:=fun t m=>∃ (a574:List Int),k575 a574=some r∧Fit [(2,.pointer (some ⟨b2,0,none⟩)),(4,.pointer (some ⟨b24,0,none⟩)),(6,.pointer (some ⟨b85,0,none⟩)),(7,.int .i64 (i521))] (ck b85 94 [.ints .u8 64 (a574)]::(ck b24 144 [.ints .u64 8 (a54)]::(ck b2 94 [.ints .u8 64 ((List.replicate 64 0))] :: []))) t m) ?_ ?_
     ·refine Za<|Zo (fun n601 t m=>∃ (i598:Int) (a599:List Int),Zdr i521 y530 k575 n601 i598 a599=some r∧Fit [(2,.pointer (some ⟨b2,0,none⟩)),(4,.pointer (some ⟨b24,0,none⟩)),(6,.pointer (some ⟨b85,0,none⟩)),(7,.int .i64 (i521)),(8,v531),(9,.int .i64 (i598))] (ms534++(ck b85 94 [.ints .u8 64 (a599)]::(ck b24 144 [.ints .u64 8 (a54)]::(ck b2 94 [.ints .u8 64 ((List.replicate 64 0))] :: [])))) t m) big ?_ ?_
      ·exact ⟨0,a522,h,⟨⟨rfl,rfl,rfl,rfl,rfl,rfl,trivial⟩,(.all .here (.one .here (.one .here (.one .here .nil))))⟩⟩
      ·rintro n601 t m ⟨i598,a599,h,hF⟩
       refine Zg hF ?_
       clear hF
       rcases n601 with _ | n601
       · exact Z05 h
       have h:Zjs i521 y530 k575 (Zdr i521 y530 k575 n601) i598 a599=some r:=h
       unfold Zjs at h
       obtain ⟨k600,qk600⟩ : ∃ k,k=Zdr i521 y530 k575 n601:=⟨_,rfl⟩
       try rw [← qk600] at h
       refine Z0<|Z0<|Z2<|Z7 rfl<|Z6 _ (Z9 rfl rfl rfl)<|Z1<|Z07 h rfl (fun h=>?_) (fun h=>?_)
       ·refine Zk<|Z0<|Za<|bH h fun z605 ez605 h=>bH h fun z606 ez606 h=>cH h fun c607 h=>bH h fun z608 ez608 h=>cH h fun c609 h=>bH h fun l610 el610 h=>Z2<|Z7 rfl<|Z6 _ (iz ez605 (Z9 rfl rfl rfl))<|Z7 rfl<|Z6 _ (iz ez606 (Z9 rfl rfl rfl))<|Z7 rfl<|Z7 rfl<|Z6 _ (Z32 rfl rfl (Shp.own O535) c607)<|Z6 _ (iz ez608 (Z33 (E:=(El.int .u8)) (s:=[.one (.int .u8 (y530.getD (i598).toNat 0))]) rfl (Z0a O535 .here) (Z01 c607) rfl rfl))<|Z6 _ (Z0v rfl rfl (Z09 c609))<|Zd (Z1e (q:=[.ints .u8 64 (l610)]) (base:=0) el610 rfl rfl rfl (Z01 c609) rfl (.app .here)<|Z1<|bH h fun z612 ez612 h=>Z2<|Z7 rfl<|Z6 _ (iz ez612 (Z9 rfl rfl rfl))<|Z7 rfl<|Z1 ?_)
        rw [qk600] at h
        exact ⟨n601,Nat.lt_succ_self _,z612,l610,h,⟨⟨rfl,rfl,rfl,rfl,rfl,rfl,trivial⟩,(.all .here (.one .here (.one .here (.one .here .nil))))⟩⟩
       ·exact Zv _ rfl<|⟨a599,h,⟨⟨rfl,rfl,rfl,rfl,trivial⟩,(.one (.app .here) (.one (.app .here) (.one (.app .here) .nil)))⟩⟩
     ·rintro t m ⟨a574,h,hF⟩
      refine Zg hF ?_
      clear hF
      subst qk575
      refine bH h fun z614 ez614 h=>Z2<|Z7 rfl<|Z6 _ (iz ez614 (Z9 rfl rfl rfl))<|Z7 rfl<|Z1 ?_
      rw [qk523] at h
      exact ⟨n524,Nat.lt_succ_self _,z614,a574,h,⟨⟨rfl,rfl,rfl,rfl,trivial⟩,(.one .here (.one .here (.one .here .nil)))⟩⟩
    ·exact Zv _ rfl<|⟨a522,h,⟨⟨rfl,rfl,trivial⟩,(.one .here (.one .here (.one .here .nil)))⟩⟩
  ·rintro t m ⟨a350,h,hF⟩
   refine Zg hF ?_
   clear hF
   subst qk351
   refine Z0<|Z2<|Z6 _ (Z00 (p:=[.ints .u8 64 (a350)]) rfl .here rfl)<|Zd (Zp (q:=[.ints .u8 64 (a350)]) rfl rfl rfl rfl rfl (.there (.there .here))<|Z1<|Zm ?_)
   revert h; refine Zw fun h=>?_
   subst h
   exact ⟨_,(.cons (.agg rfl (.there (.there .here)) rfl) .nil),rfl⟩
def Zfq (p0:List Int) (k37:(List Int)→OL) (k56:(Int)→(List Int)→OL) (i54:Int) (a55:List Int):OL :=
 br ((decide (i54<32))) (
 chk (inB i54 32) <|
 bnd (p0.getD (i54).toNat 0) fun z62 =>
 chk (inB i54 32) <|
 bnd (Z21 a55 (i54).toNat z62) fun l64 =>
 bnd (IntKind.wrap .i64 (i54+1)) fun z66 =>
 k56 z66 l64
 ) (
 k37 a55
 )
def Z84 (p0:List Int) (k37:(List Int)→OL):Nat→(Int)→(List Int)→OL
  | 0,_,_=>none
  | n+1,i54,a55=>Zfq p0 k37 (Z84 p0 k37 n) i54 a55
def Zgi (p0:List Int):OL :=
 jn (fun (a36:List Int)=>bnd (a36.getD 0 0) fun z68 =>
 bnd (a36.getD 0 0) fun z69 =>
 bnd (Int.tmod z69 8) fun z70 =>
 bnd (IntKind.wrap .u8 (z68-z70)) fun z71 =>
 bnd (Z21 a36 0 z71) fun l72 =>
 bnd (l72.getD 31 0) fun z74 =>
 bnd (Int.tmod z74 64) fun z75 =>
 bnd (IntKind.wrap .u8 (z75+64)) fun z76 =>
 bnd (Z21 l72 31 z76) fun l77 =>
 some l77) fun k37=>Z84 p0 k37 big 0 (List.replicate 32 0)
theorem Zn3 {W:World} {r:(List Int)} {p0:List Int} (h:Zgi p0=some r)  :
    Calls Tryz.prog 108 [agg [.ints .u8 32 (p0)]].toArray W (Z2s W (agg [.ints .u8 32 (r)])):=by
 unfold Zgi at h
 refine Zc mo Z0xt rfl ?_
 refine Z0<|Z2<|Zd (Z0e (s:=[.ints .u8 32 (p0)]) rfl fun b2 hb2=>Zd (Zr fun b3 hb3=>Z1<|Z0<|Z2<|Zd (Zr fun b5 hb5=>Z1<|Z0<|Z0<|Z2<|Z7 rfl<|Z1<|jH h fun k37 qk37 h=>Zh (G:=fun t m=>∃ (a36:List Int),k37 a36=some r∧Fit [(2,.pointer (some ⟨b3,0,none⟩)),(3,.pointer (some ⟨b5,0,none⟩))] (ck b5 74 [.ints .u8 32 (a36)]::(ck b3 74 [.ints .u8 32 ((List.replicate 32 0))]::(ck b2 22 [.ints .u8 32 (p0)] :: []))) t m) ?_ ?_)))
 ·refine Za<|Zo (fun n57 t m=>∃ (i54:Int) (a55:List Int),Z84 p0 k37 n57 i54 a55=some r∧Fit [(1,.pointer (some ⟨b2,0,none⟩)),(2,.pointer (some ⟨b3,0,none⟩)),(3,.pointer (some ⟨b5,0,none⟩)),(4,.int .i64 (i54))] (ck b5 74 [.ints .u8 32 (a55)]::(ck b3 74 [.ints .u8 32 ((List.replicate 32 0))]::(ck b2 22 [.ints .u8 32 (p0)] :: []))) t m) big ?_ ?_
  ·exact ⟨0,(List.replicate 32 0),h,⟨⟨rfl,rfl,rfl,rfl,trivial⟩,(.one .here (.one .here (.one .here .nil)))⟩⟩
  ·rintro n57 t m ⟨i54,a55,h,hF⟩
   refine Zg hF ?_
   clear hF
   rcases n57 with _ | n57
   · exact Z05 h
   have h:Zfq p0 k37 (Z84 p0 k37 n57) i54 a55=some r:=h
   unfold Zfq at h
   obtain ⟨k56,qk56⟩ : ∃ k,k=Z84 p0 k37 n57:=⟨_,rfl⟩
   try rw [← qk56] at h
   refine Z0<|Z0<|Z2<|Z7 rfl<|Z6 _ (Z9 rfl rfl rfl)<|Z1<|Z07 h rfl (fun h=>?_) (fun h=>?_)
   ·refine Zk<|Z0<|Za<|cH h fun c61 h=>bH h fun z62 ez62 h=>cH h fun c63 h=>bH h fun l64 el64 h=>Z2<|Z7 rfl<|Z7 rfl<|Z6 _ (Z0v rfl rfl (Z09 c61))<|Z6 _ (iz ez62 (Z2e (base:=0) rfl (.there (.there .here)) rfl (Z01 c61)))<|Z6 _ (Z0v rfl rfl (Z09 c63))<|Zd (Z1e (q:=[.ints .u8 32 (l64)]) (base:=0) el64 rfl rfl rfl (Z01 c63) rfl .here<|Z1<|bH h fun z66 ez66 h=>Z2<|Z7 rfl<|Z6 _ (iz ez66 (Z9 rfl rfl rfl))<|Z7 rfl<|Z1 ?_)
    rw [qk56] at h
    exact ⟨n57,Nat.lt_succ_self _,z66,l64,h,⟨⟨rfl,rfl,rfl,rfl,trivial⟩,(.one .here (.one .here (.one .here .nil)))⟩⟩
   ·exact Zv _ rfl<|⟨a55,h,⟨⟨rfl,rfl,trivial⟩,(.one .here (.one .here (.one .here .nil)))⟩⟩
 ·rintro t m ⟨a36,h,hF⟩
  refine Zg hF ?_
  clear hF
  subst qk37
  refine Z0<|bH h fun z68 ez68 h=>bH h fun z69 ez69 h=>bH h fun z70 ez70 h=>bH h fun z71 ez71 h=>bH h fun l72 el72 h=>Z2<|Z6 _ (Z0v rfl rfl (by decide))<|Z6 _ (iz ez68 (Z1a rfl .here rfl))<|Z6 _ (Z0v rfl rfl (by decide))<|Z6 _ (iz ez69 (Z1a rfl .here rfl))<|Z6 _ (iz ez70 (Zah rfl rfl (by decide)))<|Z6 _ (iz ez71 (Z9 rfl rfl rfl))<|Z6 _ (Z0v rfl rfl (by decide))<|Zd (Z5i (q:=[.ints .u8 32 (l72)]) (congrArg (fun z=>([.ints .u8 32 (z)]:List Seg)) el72.symm) rfl rfl rfl rfl .here<|Z1<|Z0<|bH h fun z74 ez74 h=>bH h fun z75 ez75 h=>bH h fun z76 ez76 h=>bH h fun l77 el77 h=>Z2<|Z6 _ (Z0v rfl rfl (by decide))<|Z6 _ (iz ez74 (Z1a rfl .here rfl))<|Z6 _ (iz ez75 (Zah rfl rfl (by decide)))<|Z6 _ (iz ez76 (Z9 rfl rfl rfl))<|Z6 _ (Z0v rfl rfl (by decide))<|Zd (Z5i (q:=[.ints .u8 32 (l77)]) (congrArg (fun z=>([.ints .u8 32 (z)]:List Seg)) el77.symm) rfl rfl rfl rfl .here<|Z1<|Z0<|Z2<|Z6 _ (Z00 (p:=[.ints .u8 32 (l77)]) rfl .here rfl)<|Zd (Zp (q:=[.ints .u8 32 (l77)]) rfl rfl rfl rfl rfl (.there .here)<|Z1<|Zm ?_)))
  revert h; refine Zw fun h=>?_
  subst h
  exact ⟨_,(.cons (.agg rfl (.there .here) rfl) .nil),rfl⟩
def Z68 (p0:List Int):OL :=
 opt (Zhu (tk p0 0 32)) fun y5 =>
 opt (Zhh y5 false) fun y8 =>
 opt (Zgi y8) fun y9 =>
 some y9
theorem Zax {W:World} {r:(List Int)} {p0:List Int} (h:Z68 p0=some r) (hG:Globs W) :
    Calls Tryz.prog 56 [agg [.ints .u8 32 (p0)]].toArray W (Z2s W (agg [.ints .u8 32 (r)])):=by
 unfold Z68 at h
 refine Zc mo ok56 rfl ?_
 refine Z0<|Z2<|Zd (Z0e (s:=[.ints .u8 32 (p0)]) rfl fun b2 hb2=>Zd (Zr fun b3 hb3=>Z1<|Z0<|oH h fun y5 ey5 h=>Z2<|Z6 _ (Z7c rfl .no .no .no (by simp) (by decide))<|Z6 _ (Z08 rfl (fun w hw=>Z83 ey5 (hG.at hw (by simp)) ((Z1g (s:=[.ints .u8 32 (p0)]) (N:=32) (k:=.u8) (base:=0) (lo:=0) (hi:=32) (mz:=32) (.there .here) rfl (by decide)) w hw)))<|Zd (Zr fun b6 hb6=>Zd (Zp (q:=[.ints .u8 64 (y5)]) rfl rfl rfl rfl rfl .here<|Z1<|Z0<|oH h fun y8 ey8 h=>oH h fun y9 ey9 h=>Z2<|Z6 _ (Z00 (p:=[.ints .u8 64 (y5)]) rfl .here rfl)<|Z6 _ (Z0g rfl (Zhz ey8))<|Z6 _ (Z0g rfl (Zn3 ey9))<|Zd (Zp (q:=[.ints .u8 32 (y9)]) rfl rfl rfl rfl rfl (.there .here)<|Z1<|Zm ?_)))))
 revert h; refine Zw fun h=>?_
 subst h
 exact ⟨_,(.cons (.agg rfl (.there .here) rfl) .nil),rfl⟩
def Ze5 (p0:List Int):OL :=
 opt (Z68 p0) fun y5 =>
 opt (Z9o y5) fun y6 =>
 opt (Zbw y6) fun y7 =>
 some y7
theorem Zl2 {W:World} {r:(List Int)} {p0:List Int} (h:Ze5 p0=some r) (hG:Globs W) :
    Calls Tryz.prog 13 [agg [.ints .u8 32 (p0)]].toArray W (Z2s W (agg [.ints .u8 32 (r)])):=by
 unfold Ze5 at h
 refine Zc mo ok13 rfl ?_
 refine Z0<|Z2<|Zd (Z0e (s:=[.ints .u8 32 (p0)]) rfl fun b2 hb2=>Zd (Zr fun b3 hb3=>Z1<|Z0<|oH h fun y5 ey5 h=>oH h fun y6 ey6 h=>oH h fun y7 ey7 h=>Z2<|Z6 _ (Z00 (p:=[.ints .u8 32 (p0)]) rfl (.there .here) rfl)<|Z6 _ (Z08 rfl (fun w hw=>Zax ey5 (hG.at hw (by simp))))<|Z6 _ (Z0g rfl (Ze1 ey6))<|Z6 _ (Z0g rfl (Zfd ey7))<|Zd (Zp (q:=[.ints .u8 32 (y7)]) rfl rfl rfl rfl rfl .here<|Z1<|Zm ?_)))
 revert h; refine Zw fun h=>?_
 subst h
 exact ⟨_,(.cons (.agg rfl .here rfl) .nil),rfl⟩
def Zhe (p0:List Int) (p1:Int):Option (Int) :=
 br ((decide (p1<(p0.length:Int)))) (
 chk (inB p1 p0.length) <|
 bnd (p0.getD (p1).toNat 0) fun z6 =>
 some z6
 ) (
 some 0
 )
theorem Z67 {W:World} {r:Int} {p0:List Int} {p1:Int} {v0:Value} (h:Zhe p0 p1=some r) (A0:Z4y (El.int .i64) W v0 p0) :
    Calls Tryz.prog 179 [v0,.int .i64 (p1)].toArray W (Z2s W (.int .i64 (r))):=by
 unfold Zhe at h
 refine Zc mo Z0zh rfl ?_
 refine Z0<|Z2<|Z7 rfl<|Z1<|Z0<|Z0<|Z2<|Z7 rfl<|Z7 rfl<|Z6 _ (Z25 rfl (Shp.rd A0))<|Z6 _ (Z9 rfl rfl rfl)<|Z1<|Z07 h rfl (fun h=>?_) (fun h=>?_)
 ·refine Z0<|cH h fun c5 h=>bH h fun z6 ez6 h=>Z2<|Z7 rfl<|Z7 rfl<|Z6 _ (Z32 rfl rfl (Shp.rd A0) c5)<|Z6 _ (iz ez6 (Z33 (E:=(El.int .i64)) (s:=[.one (.int .i64 (p0.getD (p1).toNat 0))]) rfl (Z16 A0 Z1f) (Z01 c5) rfl rfl))<|Z7 rfl<|Z1<|Zm ?_
  revert h; refine Zw fun h=>?_
  subst h
  exact ⟨_,(.cons (.tmp rfl) .nil),rfl⟩
 ·refine Zk<|Z0<|Z2<|Z7 rfl<|Z1<|Zm ?_
  revert h; refine Zw fun h=>?_
  subst h
  exact ⟨_,(.cons (.tmp rfl) .nil),rfl⟩
def Zbu (p0:List Int) (k37:(List Int)→OL) (k57:(Int)→(List Int)→OL) (i55:Int) (a56:List Int):OL :=
 br ((decide (i55<32))) (
 opt (Zhe p0 i55) fun y62 =>
 bnd (IntKind.wrap .u8 y62) fun z63 =>
 chk (inB i55 32) <|
 bnd (Z21 a56 (i55).toNat z63) fun l65 =>
 bnd (IntKind.wrap .i64 (i55+1)) fun z67 =>
 k57 z67 l65
 ) (
 k37 a56
 )
def Z75 (p0:List Int) (k37:(List Int)→OL):Nat→(Int)→(List Int)→OL
  | 0,_,_=>none
  | n+1,i55,a56=>Zbu p0 k37 (Z75 p0 k37 n) i55 a56
def Zhd (p0:List Int):OL :=
 jn (fun (a36:List Int)=>some a36) fun k37=>Z75 p0 k37 big 0 (List.replicate 32 0)
theorem Zhx {W:World} {r:(List Int)} {p0:List Int} {v0:Value} (h:Zhd p0=some r) (A0:Z4y (El.int .i64) W v0 p0) :
    Calls Tryz.prog 112 [v0].toArray W (Z2s W (agg [.ints .u8 32 (r)])):=by
 unfold Zhd at h
 refine Zc mo Z0xx rfl ?_
 refine Z0<|Z2<|Zd (Zr fun b2 hb2=>Z1<|Z0<|Z2<|Zd (Zr fun b4 hb4=>Z1<|Z0<|Z0<|Z2<|Z7 rfl<|Z1<|jH h fun k37 qk37 h=>Zh (G:=fun t m=>∃ (a36:List Int),k37 a36=some r∧Fit [(2,.pointer (some ⟨b2,0,none⟩)),(3,.pointer (some ⟨b4,0,none⟩))] (ck b4 74 [.ints .u8 32 (a36)]::(ck b2 74 [.ints .u8 32 ((List.replicate 32 0))] :: [])) t m) ?_ ?_))
 ·refine Za<|Zo (fun n58 t m=>∃ (i55:Int) (a56:List Int),Z75 p0 k37 n58 i55 a56=some r∧Fit [(0,v0),(2,.pointer (some ⟨b2,0,none⟩)),(3,.pointer (some ⟨b4,0,none⟩)),(4,.int .i64 (i55))] (ck b4 74 [.ints .u8 32 (a56)]::(ck b2 74 [.ints .u8 32 ((List.replicate 32 0))] :: [])) t m) big ?_ ?_
  ·exact ⟨0,(List.replicate 32 0),h,⟨⟨rfl,rfl,rfl,rfl,trivial⟩,(.one .here (.one .here .nil))⟩⟩
  ·rintro n58 t m ⟨i55,a56,h,hF⟩
   refine Zg hF ?_
   clear hF
   rcases n58 with _ | n58
   · exact Z05 h
   have h:Zbu p0 k37 (Z75 p0 k37 n58) i55 a56=some r:=h
   unfold Zbu at h
   obtain ⟨k57,qk57⟩ : ∃ k,k=Z75 p0 k37 n58:=⟨_,rfl⟩
   try rw [← qk57] at h
   refine Z0<|Z0<|Z2<|Z7 rfl<|Z6 _ (Z9 rfl rfl rfl)<|Z1<|Z07 h rfl (fun h=>?_) (fun h=>?_)
   ·refine Zk<|Z0<|Za<|oH h fun y62 ey62 h=>bH h fun z63 ez63 h=>cH h fun c64 h=>bH h fun l65 el65 h=>Z2<|Z7 rfl<|Z7 rfl<|Z7 rfl<|Z6 _ (Z08 rfl (fun w hw=>Z67 ey62 ((Z16 A0 Z1f) w hw)))<|Z6 _ (iz ez63 (Z3k rfl))<|Z6 _ (Z0v rfl rfl (Z09 c64))<|Zd (Z1e (q:=[.ints .u8 32 (l65)]) (base:=0) el65 rfl rfl rfl (Z01 c64) rfl .here<|Z1<|bH h fun z67 ez67 h=>Z2<|Z7 rfl<|Z6 _ (iz ez67 (Z9 rfl rfl rfl))<|Z7 rfl<|Z1 ?_)
    rw [qk57] at h
    exact ⟨n58,Nat.lt_succ_self _,z67,l65,h,⟨⟨rfl,rfl,rfl,rfl,trivial⟩,(.one .here (.one .here .nil))⟩⟩
   ·exact Zv _ rfl<|⟨a56,h,⟨⟨rfl,rfl,trivial⟩,(.one .here (.one .here .nil))⟩⟩
 ·rintro t m ⟨a36,h,hF⟩
  refine Zg hF ?_
  clear hF
  subst qk37
  refine Z0<|Z2<|Z6 _ (Z00 (p:=[.ints .u8 32 (a36)]) rfl .here rfl)<|Zd (Zp (q:=[.ints .u8 32 (a36)]) rfl rfl rfl rfl rfl (.there .here)<|Z1<|Zm ?_)
  revert h; refine Zw fun h=>?_
  subst h
  exact ⟨_,(.cons (.agg rfl (.there .here) rfl) .nil),rfl⟩
def Zbv (p0:List Int) (p1:List Int):Option (Int) :=
 br ((decide ((p0.length:Int)<(p1.length:Int)))) (
 some (p1.length:Int)
 ) (
 some (p0.length:Int)
 )
theorem Zfc {W:World} {r:Int} {p0:List Int} {p1:List Int} {v0:Value} {v1:Value} (h:Zbv p0 p1=some r) (A0:Z4y (El.int .i64) W v0 p0) (A1:Z4y (El.int .i64) W v1 p1) :
    Calls Tryz.prog 182 [v0,v1].toArray W (Z2s W (.int .i64 (r))):=by
 unfold Zbv at h
 refine Zc mo Z0zk rfl ?_
 refine Z0<|Z2<|Z7 rfl<|Z1<|Z0<|Z0<|Z2<|Z7 rfl<|Z6 _ (Z25 rfl (Shp.rd A0))<|Z7 rfl<|Z6 _ (Z25 rfl (Shp.rd A1))<|Z6 _ (Z9 rfl rfl rfl)<|Z1<|Z07 h rfl (fun h=>?_) (fun h=>?_)
 ·refine Z0<|Z2<|Z7 rfl<|Z6 _ (Z25 rfl (Shp.rd A1))<|Z7 rfl<|Z1<|Zm ?_
  revert h; refine Zw fun h=>?_
  subst h
  exact ⟨_,(.cons (.tmp rfl) .nil),rfl⟩
 ·refine Zk<|Z0<|Z2<|Z7 rfl<|Z6 _ (Z25 rfl (Shp.rd A0))<|Z7 rfl<|Z1<|Zm ?_
  revert h; refine Zw fun h=>?_
  subst h
  exact ⟨_,(.cons (.tmp rfl) .nil),rfl⟩
def Zbr (p0:List Int) (p1:List Int) (k42:Unit→Option (Bool)) (k67:(Int)→Option (Bool)) (i66:Int):Option (Bool) :=
 br ((decide (i66≥0))) (
 opt (Zhe p0 i66) fun y72 =>
 opt (Zhe p1 i66) fun y73 =>
 br ((y72 != y73)) (
 opt (Zhe p0 i66) fun y76 =>
 opt (Zhe p1 i66) fun y77 =>
 some (decide (y76<y77))
 ) (
 bnd (IntKind.wrap .i64 (i66-1)) fun z79 =>
 k67 z79
 )
 ) (
 k42 ()
 )
def Z74 (p0:List Int) (p1:List Int) (k42:Unit→Option (Bool)):Nat→(Int)→Option (Bool)
  | 0,_=>none
  | n+1,i66=>Zbr p0 p1 k42 (Z74 p0 p1 k42 n) i66
def Zhc (p0:List Int) (p1:List Int):Option (Bool) :=
 opt (Zbv p0 p1) fun y3 =>
 bnd (IntKind.wrap .i64 (y3-1)) fun z4 =>
 jn (fun (_:Unit)=>some false) fun k42=>Z74 p0 p1 k42 big z4
theorem Zoj {W:World} {r:Bool} {p0:List Int} {p1:List Int} {v0:Value} {v1:Value} (h:Zhc p0 p1=some r) (A0:Z4y (El.int .i64) W v0 p0) (A1:Z4y (El.int .i64) W v1 p1) :
    Calls Tryz.prog 144 [v0,v1].toArray W (Z2s W (.bool (r))):=by
 unfold Zhc at h
 refine Zc mo Z0yl rfl ?_
 refine Z0<|Z2<|Z7 rfl<|Z1<|Z0<|Z0<|oH h fun y3 ey3 h=>bH h fun z4 ez4 h=>Z2<|Z7 rfl<|Z7 rfl<|Z6 _ (Z08 rfl (fun w hw=>Zfc ey3 ((Z16 A0 Z1f) w hw) ((Z16 A1 Z1f) w hw)))<|Z6 _ (iz ez4 (Z9 rfl rfl rfl))<|Z7 rfl<|Z1<|jH h fun k42 qk42 h=>Zh (G:=fun t m=>k42 ()=some r∧Fit [] [] t m) ?_ ?_
 ·refine Za<|Zo (fun n68 t m=>∃ (i66:Int),Z74 p0 p1 k42 n68 i66=some r∧Fit [(0,v0),(1,v1),(5,.int .i64 (i66))] [] t m) big ?_ ?_
  ·exact ⟨z4,h,⟨⟨rfl,rfl,rfl,trivial⟩,.nil⟩⟩
  ·rintro n68 t m ⟨i66,h,hF⟩
   refine Zg hF ?_
   clear hF
   rcases n68 with _ | n68
   · exact Z05 h
   have h:Zbr p0 p1 k42 (Z74 p0 p1 k42 n68) i66=some r:=h
   unfold Zbr at h
   obtain ⟨k67,qk67⟩ : ∃ k,k=Z74 p0 p1 k42 n68:=⟨_,rfl⟩
   try rw [← qk67] at h
   refine Z0<|Z0<|Z2<|Z7 rfl<|Z6 _ (Z9 rfl rfl rfl)<|Z1<|Z07 h rfl (fun h=>?_) (fun h=>?_)
   ·refine Zk<|Z0<|Za<|Z0<|oH h fun y72 ey72 h=>oH h fun y73 ey73 h=>Z2<|Z7 rfl<|Z7 rfl<|Z6 _ (Z08 rfl (fun w hw=>Z67 ey72 ((Z16 A0 Z1f) w hw)))<|Z7 rfl<|Z7 rfl<|Z6 _ (Z08 rfl (fun w hw=>Z67 ey73 ((Z16 A1 Z1f) w hw)))<|Z6 _ (Z9 rfl rfl rfl)<|Z1<|Z07 h rfl (fun h=>?_) (fun h=>?_)
    ·refine Z0<|oH h fun y76 ey76 h=>oH h fun y77 ey77 h=>Z2<|Z7 rfl<|Z7 rfl<|Z6 _ (Z08 rfl (fun w hw=>Z67 ey76 ((Z16 A0 Z1f) w hw)))<|Z7 rfl<|Z7 rfl<|Z6 _ (Z08 rfl (fun w hw=>Z67 ey77 ((Z16 A1 Z1f) w hw)))<|Z6 _ (Z9 rfl rfl rfl)<|Z7 rfl<|Z1<|Zm ?_
     revert h; refine Zw fun h=>?_
     subst h
     exact ⟨_,(.cons (.tmp rfl) .nil),rfl⟩
    ·refine Zk<|bH h fun z79 ez79 h=>Z2<|Z7 rfl<|Z6 _ (iz ez79 (Z9 rfl rfl rfl))<|Z7 rfl<|Z1 ?_
     rw [qk67] at h
     exact ⟨n68,Nat.lt_succ_self _,z79,h,⟨⟨rfl,rfl,rfl,trivial⟩,.nil⟩⟩
   ·exact Zv _ rfl<|⟨h,⟨trivial,.nil⟩⟩
 ·rintro t m ⟨h,hF⟩
  refine Zg hF ?_
  clear hF
  subst qk42
  refine Z0<|Z2<|Z7 rfl<|Z1<|Zm ?_
  revert h; refine Zw fun h=>?_
  subst h
  exact ⟨_,(.cons (.tmp rfl) .nil),rfl⟩
def Zis:OL :=
 some ([237,211,245,92,26,99,18,88,214,156,247,162,222,249,222,20,0,0,0,0,0,0,0,0,0,0,0,0,0,0,0,16]:List (Int))
theorem Zn5 {W:World} {r:(List Int)} (h:Zis=some r)  :
    Calls Tryz.prog 145 [].toArray W (Zc0 W [] (fun v Ms=>∃ (u0:Value) (M0:List Zf),v=u0∧Ms = [.all M0]∧Z0b (El.int .i64) u0 M0 r)):=by
 unfold Zis at h
 refine Z02 mo Z0ym rfl (Zgo _) ?_
 refine Z0<|Z2<|Z7 rfl<|Z1<|Z0<|Z2<|Zd (Z5h (E:=(El.int .i64)) (xs:=[237,211,245,92,26,99,18,88,214,156,247,162,222,249,222,20,0,0,0,0,0,0,0,0,0,0,0,0,0,0,0,16]) (.one rfl rfl rfl (.one rfl rfl rfl (.one rfl rfl rfl (.one rfl rfl rfl (.one rfl rfl rfl (.one rfl rfl rfl (.one rfl rfl rfl (.one rfl rfl rfl (.one rfl rfl rfl (.one rfl rfl rfl (.one rfl rfl rfl (.one rfl rfl rfl (.one rfl rfl rfl (.one rfl rfl rfl (.one rfl rfl rfl (.one rfl rfl rfl (.one rfl rfl rfl (.one rfl rfl rfl (.one rfl rfl rfl (.one rfl rfl rfl (.one rfl rfl rfl (.one rfl rfl rfl (.one rfl rfl rfl (.one rfl rfl rfl (.one rfl rfl rfl (.one rfl rfl rfl (.one rfl rfl rfl (.one rfl rfl rfl (.one rfl rfl rfl (.one rfl rfl rfl (.one rfl rfl rfl (.one rfl rfl rfl BdR.nil)))))))))))))))))))))))))))))))) (.cons (p:=[.one (.int .i64 (237))]) rfl (.cons (p:=[.one (.int .i64 (211))]) rfl (.cons (p:=[.one (.int .i64 (245))]) rfl (.cons (p:=[.one (.int .i64 (92))]) rfl (.cons (p:=[.one (.int .i64 (26))]) rfl (.cons (p:=[.one (.int .i64 (99))]) rfl (.cons (p:=[.one (.int .i64 (18))]) rfl (.cons (p:=[.one (.int .i64 (88))]) rfl (.cons (p:=[.one (.int .i64 (214))]) rfl (.cons (p:=[.one (.int .i64 (156))]) rfl (.cons (p:=[.one (.int .i64 (247))]) rfl (.cons (p:=[.one (.int .i64 (162))]) rfl (.cons (p:=[.one (.int .i64 (222))]) rfl (.cons (p:=[.one (.int .i64 (249))]) rfl (.cons (p:=[.one (.int .i64 (222))]) rfl (.cons (p:=[.one (.int .i64 (20))]) rfl (.cons (p:=[.one (.int .i64 (0))]) rfl (.cons (p:=[.one (.int .i64 (0))]) rfl (.cons (p:=[.one (.int .i64 (0))]) rfl (.cons (p:=[.one (.int .i64 (0))]) rfl (.cons (p:=[.one (.int .i64 (0))]) rfl (.cons (p:=[.one (.int .i64 (0))]) rfl (.cons (p:=[.one (.int .i64 (0))]) rfl (.cons (p:=[.one (.int .i64 (0))]) rfl (.cons (p:=[.one (.int .i64 (0))]) rfl (.cons (p:=[.one (.int .i64 (0))]) rfl (.cons (p:=[.one (.int .i64 (0))]) rfl (.cons (p:=[.one (.int .i64 (0))]) rfl (.cons (p:=[.one (.int .i64 (0))]) rfl (.cons (p:=[.one (.int .i64 (0))]) rfl (.cons (p:=[.one (.int .i64 (0))]) rfl (.cons (p:=[.one (.int .i64 (16))]) rfl .nil)))))))))))))))))))))))))))))))) rfl fun v3 ms4 O5=>Z7 rfl<|Z1<|Zm ?_)
 revert h; refine Zw fun h=>?_
 subst h
 exact ⟨_,_,(.cons (.tmp rfl) .nil),(.all .here .nil),⟨_,rfl,⟨v3,ms4,rfl,rfl,O5⟩⟩⟩
def Ze0 (p1:Int) (k33:(Int)→Option (Int)) (k51:(Int)→(Int)→Option (Int)) (i49:Int) (i50:Int):Option (Int) :=
 bnd (Int.tmod p1 8) fun z54 =>
 br ((decide (i50<z54))) (
 bnd (IntKind.wrap .i64 (Int.tdiv i49 2)) fun z57 =>
 bnd (IntKind.wrap .i64 (i50+1)) fun z59 =>
 k51 z57 z59
 ) (
 k33 i49
 )
def Z8x (p1:Int) (k33:(Int)→Option (Int)):Nat→(Int)→(Int)→Option (Int)
  | 0,_,_=>none
  | n+1,i49,i50=>Ze0 p1 k33 (Z8x p1 k33 n) i49 i50
def Zom (p0:List Int) (p1:Int):Option (Int) :=
 bnd (IntKind.wrap .i64 (Int.tdiv p1 8)) fun z3 =>
 opt (Zhe p0 z3) fun y4 =>
 jn (fun (i32:Int)=>bnd (Int.tmod i32 2) fun z61 =>
 some z61) fun k33=>Z8x p1 k33 big y4 0
theorem Zq9 {W:World} {r:Int} {p0:List Int} {p1:Int} {v0:Value} (h:Zom p0 p1=some r) (A0:Z4y (El.int .i64) W v0 p0) :
    Calls Tryz.prog 180 [v0,.int .i64 (p1)].toArray W (Z2s W (.int .i64 (r))):=by
 unfold Zom at h
 refine Zc mo Z0zi rfl ?_
 refine Z0<|Z2<|Z7 rfl<|Z1<|Z0<|bH h fun z3 ez3 h=>oH h fun y4 ey4 h=>Z2<|Z7 rfl<|Z7 rfl<|Z6 _ (iz ez3 (Z98 rfl rfl (by decide)))<|Z6 _ (Z08 rfl (fun w hw=>Z67 ey4 ((Z16 A0 Z1f) w hw)))<|Z7 rfl<|Z1<|Z0<|Z0<|Z2<|Z7 rfl<|Z1<|jH h fun k33 qk33 h=>Zh (G:=fun t m=>∃ (i32:Int),k33 i32=some r∧Fit [(5,.int .i64 (i32))] [] t m) ?_ ?_
 ·refine Za<|Zo (fun n52 t m=>∃ (i49:Int) (i50:Int),Z8x p1 k33 n52 i49 i50=some r∧Fit [(1,.int .i64 (p1)),(5,.int .i64 (i49)),(6,.int .i64 (i50))] [] t m) big ?_ ?_
  ·exact ⟨y4,0,h,⟨⟨rfl,rfl,rfl,trivial⟩,.nil⟩⟩
  ·rintro n52 t m ⟨i49,i50,h,hF⟩
   refine Zg hF ?_
   clear hF
   rcases n52 with _ | n52
   · exact Z05 h
   have h:Ze0 p1 k33 (Z8x p1 k33 n52) i49 i50=some r:=h
   unfold Ze0 at h
   obtain ⟨k51,qk51⟩ : ∃ k,k=Z8x p1 k33 n52:=⟨_,rfl⟩
   try rw [← qk51] at h
   refine Z0<|Z0<|bH h fun z54 ez54 h=>Z2<|Z7 rfl<|Z7 rfl<|Z6 _ (iz ez54 (Zah rfl rfl (by decide)))<|Z6 _ (Z9 rfl rfl rfl)<|Z1<|Z07 h rfl (fun h=>?_) (fun h=>?_)
   ·refine Zk<|Z0<|Za<|bH h fun z57 ez57 h=>Z2<|Z7 rfl<|Z6 _ (iz ez57 (Z98 rfl rfl (by decide)))<|Z7 rfl<|Z1<|bH h fun z59 ez59 h=>Z2<|Z7 rfl<|Z6 _ (iz ez59 (Z9 rfl rfl rfl))<|Z7 rfl<|Z1 ?_
    rw [qk51] at h
    exact ⟨n52,Nat.lt_succ_self _,z57,z59,h,⟨⟨rfl,rfl,rfl,trivial⟩,.nil⟩⟩
   ·exact Zv _ rfl<|⟨i49,h,⟨⟨rfl,trivial⟩,.nil⟩⟩
 ·rintro t m ⟨i32,h,hF⟩
  refine Zg hF ?_
  clear hF
  subst qk33
  refine Z0<|bH h fun z61 ez61 h=>Z2<|Z7 rfl<|Z6 _ (iz ez61 (Zah rfl rfl (by decide)))<|Z7 rfl<|Z1<|Zm ?_
  revert h; refine Zw fun h=>?_
  subst h
  exact ⟨_,(.cons (.tmp rfl) .nil),rfl⟩
def Zae (p0:List Int) (p1:List Int) (k118:(List (Int))→OL) (k194:(List (Int))→(Int)→(Int)→OL) (l190:List (Int)) (i192:Int) (i193:Int):OL :=
 br ((decide (i193<(p0.length:Int)))) (
 chk (inB i193 p0.length) <|
 bnd (p0.getD (i193).toNat 0) fun z200 =>
 opt (Zhe p1 i193) fun y201 =>
 bnd (IntKind.wrap .i64 (z200-y201)) fun z202 =>
 bnd (IntKind.wrap .i64 (z202-i192)) fun z203 =>
 jn (fun (i210:Int) (i211:Int)=>chk (decide ((l190.length+([i211]:List (Int)).length)*8≤140737488355328)) <|
 bnd (l190++([i211]:List (Int))) fun l222 =>
 bnd (IntKind.wrap .i64 (i193+1)) fun z227 =>
 k194 l222 i210 z227) fun k212=>br ((decide (z203<0))) (
 bnd (IntKind.wrap .i64 (z203+256)) fun z215 =>
 k212 1 z215
 ) (
 k212 0 z203
 )
 ) (
 k118 l190
 )
def Z5r (p0:List Int) (p1:List Int) (k118:(List (Int))→OL):Nat→(List (Int))→(Int)→(Int)→OL
  | 0,_,_,_=>none
  | n+1,l190,i192,i193=>Zae p0 p1 k118 (Z5r p0 p1 k118 n) l190 i192 i193
def Zeu (p0:List Int) (p1:List Int):OL :=
 jn (fun (l116:List (Int))=>some l116) fun k118=>Z5r p0 p1 k118 big [] 0 0
theorem Zn4 {W:World} {r:(List Int)} {p0:List Int} {p1:List Int} {v0:Value} {v1:Value} (h:Zeu p0 p1=some r) (A0:Z4y (El.int .i64) W v0 p0) (A1:Z4y (El.int .i64) W v1 p1) :
    Calls Tryz.prog 181 [v0,v1].toArray W (Zc0 W [] (fun v Ms=>∃ (u0:Value) (M0:List Zf),v=u0∧Ms = [.all M0]∧Z0b (El.int .i64) u0 M0 r)):=by
 unfold Zeu at h
 refine Z02 mo Z0zj rfl (Zgo _) ?_
 refine Z0<|Z2<|Z7 rfl<|Z1<|Z0<|Z2<|Z7 rfl<|Z1<|Z0<|Z2<|Z7 rfl<|Z1<|Z0<|Z0<|Z2<|Z7 rfl<|Z1<|jH h fun k118 qk118 h=>Zh (G:=fun t m=>∃ (l116:List (Int)) (v114:Value) (ms115:List Zf),k118 l116=some r∧Z0b (El.int .i64) v114 ms115 l116∧Fit [(5,v114)] (ms115 ++ []) t m) ?_ ?_
 ·refine Za<|Zo (fun n195 t m=>∃ (l190:List (Int)) (i192:Int) (i193:Int) (v188:Value) (ms189:List Zf),Z5r p0 p1 k118 n195 l190 i192 i193=some r∧Z0b (El.int .i64) v188 ms189 l190∧Fit [(0,v0),(1,v1),(5,v188),(6,.int .i64 (i192)),(7,.int .i64 (i193))] (ms189 ++ []) t m) big ?_ ?_
  ·exact ⟨[],0,0,(.slice none 0 0),[],h,Z59,⟨⟨rfl,rfl,rfl,rfl,rfl,trivial⟩,(.no .nil)⟩⟩
  ·rintro n195 t m ⟨l190,i192,i193,v188,ms189,h,O191,hF⟩
   refine Zg hF ?_
   clear hF
   rcases n195 with _ | n195
   · exact Z05 h
   have h:Zae p0 p1 k118 (Z5r p0 p1 k118 n195) l190 i192 i193=some r:=h
   unfold Zae at h
   obtain ⟨k194,qk194⟩ : ∃ k,k=Z5r p0 p1 k118 n195:=⟨_,rfl⟩
   try rw [← qk194] at h
   refine Z0<|Z0<|Z2<|Z7 rfl<|Z7 rfl<|Z6 _ (Z25 rfl (Shp.rd A0))<|Z6 _ (Z9 rfl rfl rfl)<|Z1<|Z07 h rfl (fun h=>?_) (fun h=>?_)
   ·refine Zk<|Z0<|Za<|Z0<|cH h fun c199 h=>bH h fun z200 ez200 h=>oH h fun y201 ey201 h=>bH h fun z202 ez202 h=>bH h fun z203 ez203 h=>Zu<|Z8 _ (Z0u rfl)<|Z8 _ (Z0u rfl)<|Z8 _ (Z32 rfl rfl (Shp.rd A0) c199)<|Z8 _ (Z0u rfl)<|Z8 _ (Z0u rfl)<|Z8 _ (Z0u rfl)<|Zq _ (iz ez200 (Z33 (E:=(El.int .i64)) (s:=[.one (.int .i64 (p0.getD (i193).toNat 0))]) rfl (Z16 A0 Z1f) (Z01 c199) rfl rfl))<|Zq _ (Z08 rfl (fun w hw=>Z67 ey201 ((Z16 A1 Z1f) w hw)))<|Z8 _ (iz ez202 (Z9 rfl rfl rfl))<|Z8 _ (iz ez203 (Z9 rfl rfl rfl))<|Z8 _ (Z0u rfl)<|Z03<|Z0<|Z2<|Z7 rfl<|Z1<|Z0<|Z0<|Z2<|Z7 rfl<|Z6 _ (Z9 rfl rfl rfl)<|Z1<|jH h fun k212 qk212 h=>Zh (G:=fun t m=>∃ (i210:Int) (i211:Int),k212 i210 i211=some r∧Fit [(0,v0),(1,v1),(5,v188),(6,.int .i64 (i210)),(7,.int .i64 (i193)),(8,.int .i64 (i211))] (ms189 ++ []) t m) ?_ ?_
    ·refine Z07 h rfl (fun h=>?_) (fun h=>?_)
     ·exact Z0<|bH h fun z215 ez215 h=>Z2<|Z7 rfl<|Z6 _ (iz ez215 (Z9 rfl rfl rfl))<|Z7 rfl<|Z1<|Z2<|Z7 rfl<|Z1<|⟨1,z215,h,⟨⟨rfl,rfl,rfl,rfl,rfl,rfl,trivial⟩,(.all .here .nil)⟩⟩
     ·exact Zk<|⟨0,z203,h,⟨⟨rfl,rfl,rfl,rfl,rfl,rfl,trivial⟩,(.all .here .nil)⟩⟩
    ·rintro t m ⟨i210,i211,h,hF⟩
     refine Zg hF ?_
     clear hF
     subst qk212
     refine cH h fun c221 h=>bH h fun l222 el222 h=>Z2<|Z7 rfl<|Z7 rfl<|Zd (Z5h (E:=(El.int .i64)) (xs:=[i211]) (.one rfl rfl rfl BdR.nil) (.cons (p:=[.one (.int .i64 (i211))]) rfl .nil) rfl fun v218 ms219 O220=>Zd (Z3f (E:=(El.int .i64)) el222 rfl O191 (.app .here) rfl (Z0a O220 .here) c221 fun v223 ms224 O225=>Z7 rfl<|Z1<|bH h fun z227 ez227 h=>Z2<|Z7 rfl<|Z6 _ (iz ez227 (Z9 rfl rfl rfl))<|Z7 rfl<|Z1 ?_))
     rw [qk194] at h
     exact ⟨n195,Nat.lt_succ_self _,l222,i210,z227,v223,ms224,h,O225,⟨⟨rfl,rfl,rfl,rfl,rfl,trivial⟩,(.all .here .nil)⟩⟩
   ·exact Zv _ rfl<|⟨l190,v188,ms189,h,O191,⟨⟨rfl,trivial⟩,(.all .here .nil)⟩⟩
 ·rintro t m ⟨l116,v114,ms115,h,O117,hF⟩
  refine Zg hF ?_
  clear hF
  subst qk118
  refine Z0<|Z2<|Z7 rfl<|Z7 rfl<|Z1<|Zm ?_
  revert h; refine Zw fun h=>?_
  subst h
  exact ⟨_,_,(.cons (.tmp rfl) .nil),(.all .here .nil),⟨_,rfl,⟨v114,ms115,rfl,rfl,O117⟩⟩⟩
def Zdy (k1752:(List (Int))→OL) (k1797:(List (Int))→(Int)→(Int)→OL) (l1793:List (Int)) (i1795:Int) (i1796:Int):OL :=
 br ((decide (i1796<33))) (
 chk (inB i1796 l1793.length) <|
 bnd (l1793.getD (i1796).toNat 0) fun z1803 =>
 bnd (IntKind.wrap .i64 (2*z1803)) fun z1804 =>
 bnd (IntKind.wrap .i64 (z1804+i1795)) fun z1805 =>
 bnd (Int.tmod z1805 256) fun z1807 =>
 chk (inB i1796 l1793.length) <|
 bnd (Zcp 0 l1793 (i1796).toNat z1807) fun l1809 =>
 bnd (IntKind.wrap .i64 (Int.tdiv z1805 256)) fun z1813 =>
 bnd (IntKind.wrap .i64 (i1796+1)) fun z1815 =>
 k1797 l1809 z1813 z1815
 ) (
 k1752 l1793
 )
def Z7m (k1752:(List (Int))→OL):Nat→(List (Int))→(Int)→(Int)→OL
  | 0,_,_,_=>none
  | n+1,l1793,i1795,i1796=>Zdy k1752 (Z7m k1752 n) l1793 i1795 i1796
def Zdx (p0:List Int) (y3:(List Int)) (k924:(List (Int))→OL) (k1529:(List (Int))→(Int)→OL) (l1526:List (Int)) (i1528:Int):OL :=
 br ((decide (i1528≥0))) (
 jn (fun (l1679:List (Int))=>bnd (IntKind.wrap .i64 (i1528-1)) fun z1827 =>
 k1529 l1679 z1827) fun k1681=>opt (Zom p0 i1528) fun y1683 =>
 jn (fun (l1750:List (Int))=>opt (Zhc l1750 y3) fun y1817 =>
 br ((!y1817)) (
 opt (Zeu l1750 y3) fun y1820 =>
 k1681 y1820
 ) (
 k1681 l1750
 )) fun k1752=>Z7m k1752 big l1526 y1683 0
 ) (
 k924 l1526
 )
def Z6i (p0:List Int) (y3:(List Int)) (k924:(List (Int))→OL):Nat→(List (Int))→(Int)→OL
  | 0,_,_=>none
  | n+1,l1526,i1528=>Zdx p0 y3 k924 (Z6i p0 y3 k924 n) l1526 i1528
def Zlp (p0:List Int):OL :=
 opt (Zis ) fun y3 =>
 chk (mkB 8 33 33) <|
 bnd (IntKind.wrap .i64 (8*(p0.length:Int))) fun z15 =>
 bnd (IntKind.wrap .i64 (z15-1)) fun z16 =>
 jn (fun (l922:List (Int))=>some l922) fun k924=>Z6i p0 y3 k924 big (List.replicate 33 0:List (Int)) z16
theorem Zjz {W:World} {r:(List Int)} {p0:List Int} {v0:Value} (h:Zlp p0=some r) (A0:Z4y (El.int .i64) W v0 p0) :
    Calls Tryz.prog 113 [v0].toArray W (Zc0 W [] (fun v Ms=>∃ (u0:Value) (M0:List Zf),v=u0∧Ms = [.all M0]∧Z0b (El.int .i64) u0 M0 r)):=by
 unfold Zlp at h
 refine Z02 mo Z0xy rfl (Zgo _) ?_
 refine Z0<|Z2<|Z7 rfl<|Z1<|Z0<|oH h fun y3 ey3 h=>Z2<|Zd (Zz rfl (fun w hw=>Zn5  ey3 ) fun v4 Msv4 R5=>?_)
 obtain ⟨_,ms7,rfl,rfl,O8⟩:=R5
 refine Z7 rfl<|Z1<|Z0<|cH h fun c10 h=>Z2<|Zd (Zfj (E:=(El.int .i64)) rfl rfl rfl c10 fun v11 ms12 O13=>Z7 rfl<|Z1<|Z0<|Z0<|bH h fun z15 ez15 h=>bH h fun z16 ez16 h=>Z2<|Z7 rfl<|Z6 _ (Z25 rfl (Shp.rd A0))<|Z6 _ (iz ez15 (Z9 rfl rfl rfl))<|Z6 _ (iz ez16 (Z9 rfl rfl rfl))<|Z7 rfl<|Z1<|jH h fun k924 qk924 h=>Zh (G:=fun t m=>∃ (l922:List (Int)) (v920:Value) (ms921:List Zf),k924 l922=some r∧Z0b (El.int .i64) v920 ms921 l922∧Fit [(4,v920)] (ms921 ++ []) t m) ?_ ?_)
 ·refine Za<|Zo (fun n1530 t m=>∃ (l1526:List (Int)) (i1528:Int) (v1524:Value) (ms1525:List Zf),Z6i p0 y3 k924 n1530 l1526 i1528=some r∧Z0b (El.int .i64) v1524 ms1525 l1526∧Fit [(0,v0),(3,v4),(4,v1524),(5,.int .i64 (i1528))] (ms7++(ms1525 ++ [])) t m) big ?_ ?_
  ·exact ⟨(List.replicate 33 0:List (Int)),z16,v11,ms12,h,O13,⟨⟨rfl,rfl,rfl,rfl,trivial⟩,(.all (.app .here) (.all .here .nil))⟩⟩
  ·rintro n1530 t m ⟨l1526,i1528,v1524,ms1525,h,O1527,hF⟩
   refine Zg hF ?_
   clear hF
   rcases n1530 with _ | n1530
   · exact Z05 h
   have h:Zdx p0 y3 k924 (Z6i p0 y3 k924 n1530) l1526 i1528=some r:=h
   unfold Zdx at h
   obtain ⟨k1529,qk1529⟩ : ∃ k,k=Z6i p0 y3 k924 n1530:=⟨_,rfl⟩
   try rw [← qk1529] at h
   refine Z0<|Z0<|Z2<|Z7 rfl<|Z6 _ (Z9 rfl rfl rfl)<|Z1<|Z07 h rfl (fun h=>?_) (fun h=>?_)
   ·refine Zk<|Z0<|jH h fun k1681 qk1681 h=>Zh (G:=fun t m=>∃ (l1679:List (Int)) (v1677:Value) (ms1678:List Zf),k1681 l1679=some r∧Z0b (El.int .i64) v1677 ms1678 l1679∧Fit [(0,v0),(3,v4),(4,v1677),(5,.int .i64 (i1528))] (ms7++(ms1678 ++ [])) t m) ?_ ?_
    ·refine Za<|Z0<|oH h fun y1683 ey1683 h=>Z2<|Z7 rfl<|Z7 rfl<|Z6 _ (Z08 rfl (fun w hw=>Zq9 ey1683 ((Z16 A0 Z1f) w hw)))<|Z7 rfl<|Z1<|Z0<|Z0<|Z2<|Z7 rfl<|Z1<|jH h fun k1752 qk1752 h=>Zh (G:=fun t m=>∃ (l1750:List (Int)) (v1748:Value) (ms1749:List Zf),k1752 l1750=some r∧Z0b (El.int .i64) v1748 ms1749 l1750∧Fit [(0,v0),(3,v4),(4,v1748),(5,.int .i64 (i1528))] (ms7++(ms1749 ++ [])) t m) ?_ ?_
     ·refine Za<|Zo (fun n1798 t m=>∃ (l1793:List (Int)) (i1795:Int) (i1796:Int) (v1791:Value) (ms1792:List Zf),Z7m k1752 n1798 l1793 i1795 i1796=some r∧Z0b (El.int .i64) v1791 ms1792 l1793∧Fit [(0,v0),(3,v4),(4,v1791),(5,.int .i64 (i1528)),(6,.int .i64 (i1795)),(7,.int .i64 (i1796))] (ms7++(ms1792 ++ [])) t m) big ?_ ?_
      ·exact ⟨l1526,y1683,0,v1524,ms1525,h,O1527,⟨⟨rfl,rfl,rfl,rfl,rfl,rfl,trivial⟩,(.all .here (.all .here .nil))⟩⟩
      ·rintro n1798 t m ⟨l1793,i1795,i1796,v1791,ms1792,h,O1794,hF⟩
       refine Zg hF ?_
       clear hF
       rcases n1798 with _ | n1798
       · exact Z05 h
       have h:Zdy k1752 (Z7m k1752 n1798) l1793 i1795 i1796=some r:=h
       unfold Zdy at h
       obtain ⟨k1797,qk1797⟩ : ∃ k,k=Z7m k1752 n1798:=⟨_,rfl⟩
       try rw [← qk1797] at h
       refine Z0<|Z0<|Z2<|Z7 rfl<|Z6 _ (Z9 rfl rfl rfl)<|Z1<|Z07 h rfl (fun h=>?_) (fun h=>?_)
       ·refine Zk<|Z0<|Za<|Z0<|cH h fun c1802 h=>bH h fun z1803 ez1803 h=>bH h fun z1804 ez1804 h=>bH h fun z1805 ez1805 h=>Z2<|Z7 rfl<|Z7 rfl<|Z6 _ (Z32 rfl rfl (Shp.own O1794) c1802)<|Z6 _ (iz ez1803 (Z33 (E:=(El.int .i64)) (s:=[.one (.int .i64 (l1793.getD (i1796).toNat 0))]) rfl (Z0a O1794 (.app .here)) (Z01 c1802) rfl rfl))<|Z6 _ (iz ez1804 (Z9 rfl rfl rfl))<|Z7 rfl<|Z6 _ (iz ez1805 (Z9 rfl rfl rfl))<|Z7 rfl<|Z1<|Z0<|bH h fun z1807 ez1807 h=>cH h fun c1808 h=>bH h fun l1809 el1809 h=>Z2<|Z7 rfl<|Z7 rfl<|Z7 rfl<|Z6 _ (iz ez1807 (Zah rfl rfl (by decide)))<|Z6 _ (Z32 rfl rfl (Shp.own O1794) c1808)<|Zd (Zg1 (E:=(El.int .i64)) el1809 O1794 (.app .here) rfl rfl rfl (Z01 c1808) fun ms1810 O1811=>Z1<|bH h fun z1813 ez1813 h=>Z2<|Z7 rfl<|Z6 _ (iz ez1813 (Z98 rfl rfl (by decide)))<|Z7 rfl<|Z1<|bH h fun z1815 ez1815 h=>Z2<|Z7 rfl<|Z6 _ (iz ez1815 (Z9 rfl rfl rfl))<|Z7 rfl<|Z1 ?_)
        rw [qk1797] at h
        exact ⟨n1798,Nat.lt_succ_self _,l1809,z1813,z1815,v1791,ms1810,h,O1811,⟨⟨rfl,rfl,rfl,rfl,rfl,rfl,trivial⟩,(.all (.app .here) (.all .here .nil))⟩⟩
       ·exact Zv _ rfl<|⟨l1793,v1791,ms1792,h,O1794,⟨⟨rfl,rfl,rfl,rfl,trivial⟩,(.all .here (.all .here .nil))⟩⟩
     ·rintro t m ⟨l1750,v1748,ms1749,h,O1751,hF⟩
      refine Zg hF ?_
      clear hF
      subst qk1752
      refine Z0<|oH h fun y1817 ey1817 h=>Z2<|Z7 rfl<|Z7 rfl<|Z6 _ (Z08 rfl (fun w hw=>Zoj ey1817 ((Z0a O1751 (.app .here)) w hw) ((Z0a O8 .here) w hw)))<|Z6 _ (Zyr rfl rfl)<|Z1<|Z07 h rfl (fun h=>?_) (fun h=>?_)
      ·refine oH h fun y1820 ey1820 h=>Z2<|Z7 rfl<|Z7 rfl<|Zd (Zz rfl (fun w hw=>Zn4  ey1820 ((Z0a O1751 (.app .here)) w hw) ((Z0a O8 .here) w hw)) fun v1821 Msv1821 R1822=>?_)
       obtain ⟨_,ms1824,rfl,rfl,O1825⟩:=R1822
       exact Z7 rfl<|Z1<|⟨y1820,v1821,ms1824,h,O1825,⟨⟨rfl,rfl,rfl,rfl,trivial⟩,(.all (.app .here) (.all .here .nil))⟩⟩
      ·exact Zk<|⟨l1750,v1748,ms1749,h,O1751,⟨⟨rfl,rfl,rfl,rfl,trivial⟩,(.all .here (.all .here .nil))⟩⟩
    ·rintro t m ⟨l1679,v1677,ms1678,h,O1680,hF⟩
     refine Zg hF ?_
     clear hF
     subst qk1681
     refine bH h fun z1827 ez1827 h=>Z2<|Z7 rfl<|Z6 _ (iz ez1827 (Z9 rfl rfl rfl))<|Z7 rfl<|Z1 ?_
     rw [qk1529] at h
     exact ⟨n1530,Nat.lt_succ_self _,l1679,z1827,v1677,ms1678,h,O1680,⟨⟨rfl,rfl,rfl,rfl,trivial⟩,(.all .here (.all .here .nil))⟩⟩
   ·exact Zv _ rfl<|⟨l1526,v1524,ms1525,h,O1527,⟨⟨rfl,trivial⟩,(.all (.app .here) .nil)⟩⟩
 ·rintro t m ⟨l922,v920,ms921,h,O923,hF⟩
  refine Zg hF ?_
  clear hF
  subst qk924
  refine Z0<|Z2<|Z7 rfl<|Z7 rfl<|Z1<|Zm ?_
  revert h; refine Zw fun h=>?_
  subst h
  exact ⟨_,_,(.cons (.tmp rfl) .nil),(.all .here .nil),⟨_,rfl,⟨v920,ms921,rfl,rfl,O923⟩⟩⟩
def Zgj (p0:List Int) (k67:(List (Int))→OL) (k109:(List (Int))→(Int)→OL) (l106:List (Int)) (i108:Int):OL :=
 br ((decide (i108<(p0.length:Int)))) (
 chk (inB i108 p0.length) <|
 bnd (p0.getD (i108).toNat 0) fun z115 =>
 bnd (IntKind.wrap .i64 z115) fun z116 =>
 chk (decide ((l106.length+([z116]:List (Int)).length)*8≤140737488355328)) <|
 bnd (l106++([z116]:List (Int))) fun l121 =>
 bnd (IntKind.wrap .i64 (i108+1)) fun z126 =>
 k109 l121 z126
 ) (
 k67 l106
 )
def Zaw (p0:List Int) (k67:(List (Int))→OL):Nat→(List (Int))→(Int)→OL
  | 0,_,_=>none
  | n+1,l106,i108=>Zgj p0 k67 (Zaw p0 k67 n) l106 i108
def Zok (p0:List Int):OL :=
 jn (fun (l65:List (Int))=>some l65) fun k67=>Zaw p0 k67 big [] 0
theorem Zet {W:World} {r:(List Int)} {p0:List Int} {v0:Value} (h:Zok p0=some r) (A0:Z4y (El.int .u8) W v0 p0) :
    Calls Tryz.prog 114 [v0].toArray W (Zc0 W [] (fun v Ms=>∃ (u0:Value) (M0:List Zf),v=u0∧Ms = [.all M0]∧Z0b (El.int .i64) u0 M0 r)):=by
 unfold Zok at h
 refine Z02 mo Z0xz rfl (Zgo _) ?_
 refine Z0<|Z2<|Z7 rfl<|Z1<|Z0<|Z2<|Z7 rfl<|Z1<|Z0<|Z0<|Z2<|Z7 rfl<|Z1<|jH h fun k67 qk67 h=>Zh (G:=fun t m=>∃ (l65:List (Int)) (v63:Value) (ms64:List Zf),k67 l65=some r∧Z0b (El.int .i64) v63 ms64 l65∧Fit [(3,v63)] (ms64 ++ []) t m) ?_ ?_
 ·refine Za<|Zo (fun n110 t m=>∃ (l106:List (Int)) (i108:Int) (v104:Value) (ms105:List Zf),Zaw p0 k67 n110 l106 i108=some r∧Z0b (El.int .i64) v104 ms105 l106∧Fit [(0,v0),(3,v104),(4,.int .i64 (i108))] (ms105 ++ []) t m) big ?_ ?_
  ·exact ⟨[],0,(.slice none 0 0),[],h,Z59,⟨⟨rfl,rfl,rfl,trivial⟩,(.no .nil)⟩⟩
  ·rintro n110 t m ⟨l106,i108,v104,ms105,h,O107,hF⟩
   refine Zg hF ?_
   clear hF
   rcases n110 with _ | n110
   · exact Z05 h
   have h:Zgj p0 k67 (Zaw p0 k67 n110) l106 i108=some r:=h
   unfold Zgj at h
   obtain ⟨k109,qk109⟩ : ∃ k,k=Zaw p0 k67 n110:=⟨_,rfl⟩
   try rw [← qk109] at h
   refine Z0<|Z0<|Z2<|Z7 rfl<|Z7 rfl<|Z6 _ (Z25 rfl (Shp.rd A0))<|Z6 _ (Z9 rfl rfl rfl)<|Z1<|Z07 h rfl (fun h=>?_) (fun h=>?_)
   ·refine Zk<|Z0<|Za<|cH h fun c114 h=>bH h fun z115 ez115 h=>bH h fun z116 ez116 h=>cH h fun c120 h=>bH h fun l121 el121 h=>Z2<|Z7 rfl<|Z7 rfl<|Z7 rfl<|Z6 _ (Z32 rfl rfl (Shp.rd A0) c114)<|Z6 _ (iz ez115 (Z33 (E:=(El.int .u8)) (s:=[.one (.int .u8 (p0.getD (i108).toNat 0))]) rfl (Z16 A0 Z1f) (Z01 c114) rfl rfl))<|Z6 _ (iz ez116 (Z3k rfl))<|Zd (Z5h (E:=(El.int .i64)) (xs:=[z116]) (.one rfl rfl rfl BdR.nil) (.cons (p:=[.one (.int .i64 (z116))]) rfl .nil) rfl fun v117 ms118 O119=>Zd (Z3f (E:=(El.int .i64)) el121 rfl O107 (.app .here) rfl (Z0a O119 .here) c120 fun v122 ms123 O124=>Z7 rfl<|Z1<|bH h fun z126 ez126 h=>Z2<|Z7 rfl<|Z6 _ (iz ez126 (Z9 rfl rfl rfl))<|Z7 rfl<|Z1 ?_))
    rw [qk109] at h
    exact ⟨n110,Nat.lt_succ_self _,l121,z126,v122,ms123,h,O124,⟨⟨rfl,rfl,rfl,trivial⟩,(.all .here .nil)⟩⟩
   ·exact Zv _ rfl<|⟨l106,v104,ms105,h,O107,⟨⟨rfl,trivial⟩,(.all .here .nil)⟩⟩
 ·rintro t m ⟨l65,v63,ms64,h,O66,hF⟩
  refine Zg hF ?_
  clear hF
  subst qk67
  refine Z0<|Z2<|Z7 rfl<|Z7 rfl<|Z1<|Zm ?_
  revert h; refine Zw fun h=>?_
  subst h
  exact ⟨_,_,(.cons (.tmp rfl) .nil),(.all .here .nil),⟨_,rfl,⟨v63,ms64,rfl,rfl,O66⟩⟩⟩
def Zad (p0:List Int):OL :=
 opt (Zok (tk p0 0 64)) fun y5 =>
 opt (Zlp y5) fun y11 =>
 opt (Zhd y11) fun y17 =>
 some y17
theorem Z8c {W:World} {r:(List Int)} {p0:List Int} (h:Zad p0=some r)  :
    Calls Tryz.prog 59 [agg [.ints .u8 64 (p0)]].toArray W (Z2s W (agg [.ints .u8 32 (r)])):=by
 unfold Zad at h
 refine Zc mo ok59 rfl ?_
 refine Z0<|Z2<|Zd (Z0e (s:=[.ints .u8 64 (p0)]) rfl fun b2 hb2=>Zd (Zr fun b3 hb3=>Z1<|Z0<|oH h fun y5 ey5 h=>oH h fun y11 ey11 h=>oH h fun y17 ey17 h=>Z2<|Z6 _ (Z7c rfl .no .no .no (by simp) (by decide))<|Zd (Zz rfl (fun w hw=>Zet  ey5 ((Z1g (s:=[.ints .u8 64 (p0)]) (N:=64) (k:=.u8) (base:=0) (lo:=0) (hi:=64) (mz:=64) (.there .here) rfl (by decide)) w hw)) fun v6 Msv6 R7=>?_)))
 obtain ⟨_,ms9,rfl,rfl,O10⟩:=R7
 refine Zd (Zz rfl (fun w hw=>Zjz  ey11 ((Z0a O10 .here) w hw)) fun v12 Msv12 R13=>?_)
 obtain ⟨_,ms15,rfl,rfl,O16⟩:=R13
 refine Z6 _ (Z08 rfl (fun w hw=>Zhx ey17 ((Z0a O16 .here) w hw)))<|Zd (Zp (q:=[.ints .u8 32 (y17)]) rfl rfl rfl rfl rfl (.app (.app .here))<|Z1<|Zm ?_)
 revert h; refine Zw fun h=>?_
 subst h
 exact ⟨_,(.cons (.agg rfl (.app (.app .here)) rfl) .nil),rfl⟩
def Zaf (p0:List Int) (p1:List Int) (p2:List Int):OL :=
 chk (decide ((([]:List (Int)).length+p0.length)*1≤140737488355328)) <|
 bnd (([]:List (Int))++p0) fun l5 =>
 chk (decide ((l5.length+p1.length)*1≤140737488355328)) <|
 bnd (l5++p1) fun l11 =>
 chk (decide ((l11.length+p2.length)*1≤140737488355328)) <|
 bnd (l11++p2) fun l17 =>
 some l17
theorem Zb6 {W:World} {r:(List Int)} {p0:List Int} {p1:List Int} {p2:List Int} {v0:Value} {v1:Value} {v2:Value} (h:Zaf p0 p1 p2=some r) (A0:Z4y (El.int .u8) W v0 p0) (A1:Z4y (El.int .u8) W v1 p1) (A2:Z4y (El.int .u8) W v2 p2) :
    Calls Tryz.prog 60 [v0,v1,v2].toArray W (Zc0 W [] (fun v Ms=>∃ (u0:Value) (M0:List Zf),v=u0∧Ms = [.all M0]∧Z0b (El.int .u8) u0 M0 r)):=by
 unfold Zaf at h
 refine Z02 mo ok60 rfl (Zgo _) ?_
 refine Z0<|Z2<|Z7 rfl<|Z1<|Z0<|Z2<|Z7 rfl<|Z1<|Z0<|cH h fun c4 h=>bH h fun l5 el5 h=>Z2<|Z7 rfl<|Z7 rfl<|Zd (Z3f (E:=(El.int .u8)) el5 rfl Z59 .here rfl (Z16 A0 Z1f) c4 fun v6 ms7 O8=>Z7 rfl<|Z1<|Z0<|cH h fun c10 h=>bH h fun l11 el11 h=>Z2<|Z7 rfl<|Z7 rfl<|Zd (Z3f (E:=(El.int .u8)) el11 rfl O8 .here rfl (Z16 A1 Z1f) c10 fun v12 ms13 O14=>Z7 rfl<|Z1<|Z0<|cH h fun c16 h=>bH h fun l17 el17 h=>Z2<|Z7 rfl<|Z7 rfl<|Zd (Z3f (E:=(El.int .u8)) el17 rfl O14 .here rfl (Z16 A2 Z1f) c16 fun v18 ms19 O20=>Z7 rfl<|Z1<|Z0<|Z2<|Z7 rfl<|Z7 rfl<|Z1<|Zm ?_)))
 revert h; refine Zw fun h=>?_
 subst h
 exact ⟨_,_,(.cons (.tmp rfl) .nil),(.all .here .nil),⟨_,rfl,⟨v18,ms19,rfl,rfl,O20⟩⟩⟩
def Zdz (p0:List Int) (p1:List Int) (k89:(List (Int))→(Int)→OL) (k145:(List (Int))→(Int)→(Int)→OL) (l141:List (Int)) (i143:Int) (i144:Int):OL :=
 opt (Zbv p0 p1) fun y148 =>
 br ((decide (i144<y148))) (
 opt (Zhe p0 i144) fun y151 =>
 opt (Zhe p1 i144) fun y152 =>
 bnd (IntKind.wrap .i64 (y151+y152)) fun z153 =>
 bnd (IntKind.wrap .i64 (z153+i143)) fun z154 =>
 bnd (Int.tmod z154 256) fun z156 =>
 chk (decide ((l141.length+([z156]:List (Int)).length)*8≤140737488355328)) <|
 bnd (l141++([z156]:List (Int))) fun l161 =>
 bnd (IntKind.wrap .i64 (Int.tdiv z154 256)) fun z166 =>
 bnd (IntKind.wrap .i64 (i144+1)) fun z168 =>
 k145 l161 z166 z168
 ) (
 k89 l141 i143
 )
def Z8w (p0:List Int) (p1:List Int) (k89:(List (Int))→(Int)→OL):Nat→(List (Int))→(Int)→(Int)→OL
  | 0,_,_,_=>none
  | n+1,l141,i143,i144=>Zdz p0 p1 k89 (Z8w p0 p1 k89 n) l141 i143 i144
def Zol (p0:List Int) (p1:List Int):OL :=
 jn (fun (l86:List (Int)) (i88:Int)=>chk (decide ((l86.length+([i88]:List (Int)).length)*8≤140737488355328)) <|
 bnd (l86++([i88]:List (Int))) fun l174 =>
 some l174) fun k89=>Z8w p0 p1 k89 big [] 0 0
theorem Zq8 {W:World} {r:(List Int)} {p0:List Int} {p1:List Int} {v0:Value} {v1:Value} (h:Zol p0 p1=some r) (A0:Z4y (El.int .i64) W v0 p0) (A1:Z4y (El.int .i64) W v1 p1) :
    Calls Tryz.prog 115 [v0,v1].toArray W (Zc0 W [] (fun v Ms=>∃ (u0:Value) (M0:List Zf),v=u0∧Ms = [.all M0]∧Z0b (El.int .i64) u0 M0 r)):=by
 unfold Zol at h
 refine Z02 mo Z0y0 rfl (Zgo _) ?_
 refine Z0<|Z2<|Z7 rfl<|Z1<|Z0<|Z2<|Z7 rfl<|Z1<|Z0<|Z2<|Z7 rfl<|Z1<|Z0<|Z0<|Z2<|Z7 rfl<|Z1<|jH h fun k89 qk89 h=>Zh (G:=fun t m=>∃ (l86:List (Int)) (i88:Int) (v84:Value) (ms85:List Zf),k89 l86 i88=some r∧Z0b (El.int .i64) v84 ms85 l86∧Fit [(5,v84),(6,.int .i64 (i88))] (ms85 ++ []) t m) ?_ ?_
 ·refine Za<|Zo (fun n146 t m=>∃ (l141:List (Int)) (i143:Int) (i144:Int) (v139:Value) (ms140:List Zf),Z8w p0 p1 k89 n146 l141 i143 i144=some r∧Z0b (El.int .i64) v139 ms140 l141∧Fit [(0,v0),(1,v1),(5,v139),(6,.int .i64 (i143)),(7,.int .i64 (i144))] (ms140 ++ []) t m) big ?_ ?_
  ·exact ⟨[],0,0,(.slice none 0 0),[],h,Z59,⟨⟨rfl,rfl,rfl,rfl,rfl,trivial⟩,(.no .nil)⟩⟩
  ·rintro n146 t m ⟨l141,i143,i144,v139,ms140,h,O142,hF⟩
   refine Zg hF ?_
   clear hF
   rcases n146 with _ | n146
   · exact Z05 h
   have h:Zdz p0 p1 k89 (Z8w p0 p1 k89 n146) l141 i143 i144=some r:=h
   unfold Zdz at h
   obtain ⟨k145,qk145⟩ : ∃ k,k=Z8w p0 p1 k89 n146:=⟨_,rfl⟩
   try rw [← qk145] at h
   refine Z0<|Z0<|oH h fun y148 ey148 h=>Z2<|Z7 rfl<|Z7 rfl<|Z7 rfl<|Z6 _ (Z08 rfl (fun w hw=>Zfc ey148 ((Z16 A0 Z1f) w hw) ((Z16 A1 Z1f) w hw)))<|Z6 _ (Z9 rfl rfl rfl)<|Z1<|Z07 h rfl (fun h=>?_) (fun h=>?_)
   ·refine Zk<|Z0<|Za<|Z0<|oH h fun y151 ey151 h=>oH h fun y152 ey152 h=>bH h fun z153 ez153 h=>bH h fun z154 ez154 h=>Z2<|Z7 rfl<|Z7 rfl<|Z6 _ (Z08 rfl (fun w hw=>Z67 ey151 ((Z16 A0 Z1f) w hw)))<|Z7 rfl<|Z7 rfl<|Z6 _ (Z08 rfl (fun w hw=>Z67 ey152 ((Z16 A1 Z1f) w hw)))<|Z6 _ (iz ez153 (Z9 rfl rfl rfl))<|Z7 rfl<|Z6 _ (iz ez154 (Z9 rfl rfl rfl))<|Z7 rfl<|Z1<|Z0<|bH h fun z156 ez156 h=>cH h fun c160 h=>bH h fun l161 el161 h=>Z2<|Z7 rfl<|Z7 rfl<|Z6 _ (iz ez156 (Zah rfl rfl (by decide)))<|Zd (Z5h (E:=(El.int .i64)) (xs:=[z156]) (.one rfl rfl rfl BdR.nil) (.cons (p:=[.one (.int .i64 (z156))]) rfl .nil) rfl fun v157 ms158 O159=>Zd (Z3f (E:=(El.int .i64)) el161 rfl O142 (.app .here) rfl (Z0a O159 .here) c160 fun v162 ms163 O164=>Z7 rfl<|Z1<|bH h fun z166 ez166 h=>Z2<|Z7 rfl<|Z6 _ (iz ez166 (Z98 rfl rfl (by decide)))<|Z7 rfl<|Z1<|bH h fun z168 ez168 h=>Z2<|Z7 rfl<|Z6 _ (iz ez168 (Z9 rfl rfl rfl))<|Z7 rfl<|Z1 ?_))
    rw [qk145] at h
    exact ⟨n146,Nat.lt_succ_self _,l161,z166,z168,v162,ms163,h,O164,⟨⟨rfl,rfl,rfl,rfl,rfl,trivial⟩,(.all .here .nil)⟩⟩
   ·exact Zv _ rfl<|⟨l141,i143,v139,ms140,h,O142,⟨⟨rfl,rfl,trivial⟩,(.all .here .nil)⟩⟩
 ·rintro t m ⟨l86,i88,v84,ms85,h,O87,hF⟩
  refine Zg hF ?_
  clear hF
  subst qk89
  refine Z0<|cH h fun c173 h=>bH h fun l174 el174 h=>Z2<|Z7 rfl<|Z7 rfl<|Zd (Z5h (E:=(El.int .i64)) (xs:=[i88]) (.one rfl rfl rfl BdR.nil) (.cons (p:=[.one (.int .i64 (i88))]) rfl .nil) rfl fun v170 ms171 O172=>Zd (Z3f (E:=(El.int .i64)) el174 rfl O87 (.app .here) rfl (Z0a O172 .here) c173 fun v175 ms176 O177=>Z7 rfl<|Z1<|Zm ?_))
  revert h; refine Zw fun h=>?_
  subst h
  exact ⟨_,_,(.cons (.tmp rfl) .nil),(.all .here .nil),⟨_,rfl,⟨v175,ms176,rfl,rfl,O177⟩⟩⟩
def Z7o (p0:List Int) (p1:List Int) (i965:Int) (k1062:(List (Int))→(Int)→OL) (k1122:(List (Int))→(Int)→(Int)→OL) (l1118:List (Int)) (i1120:Int) (i1121:Int):OL :=
 br ((decide (i1121<(p1.length:Int)))) (
 bnd (IntKind.wrap .i64 (i965+i1121)) fun z1127 =>
 chk (inB z1127 l1118.length) <|
 chk (inB i965 p0.length) <|
 chk (inB i1121 p1.length) <|
 bnd (l1118.getD (z1127).toNat 0) fun z1131 =>
 bnd (p0.getD (i965).toNat 0) fun z1132 =>
 bnd (p1.getD (i1121).toNat 0) fun z1133 =>
 bnd (IntKind.wrap .i64 (z1132*z1133)) fun z1134 =>
 bnd (IntKind.wrap .i64 (z1131+z1134)) fun z1135 =>
 bnd (IntKind.wrap .i64 (z1135+i1120)) fun z1136 =>
 bnd (IntKind.wrap .i64 (i965+i1121)) fun z1138 =>
 bnd (Int.tmod z1136 256) fun z1139 =>
 chk (inB z1138 l1118.length) <|
 bnd (Zcp 0 l1118 (z1138).toNat z1139) fun l1141 =>
 bnd (IntKind.wrap .i64 (Int.tdiv z1136 256)) fun z1145 =>
 bnd (IntKind.wrap .i64 (i1121+1)) fun z1147 =>
 k1122 l1141 z1145 z1147
 ) (
 k1062 l1118 i1120
 )
def Z41 (p0:List Int) (p1:List Int) (i965:Int) (k1062:(List (Int))→(Int)→OL):Nat→(List (Int))→(Int)→(Int)→OL
  | 0,_,_,_=>none
  | n+1,l1118,i1120,i1121=>Z7o p0 p1 i965 k1062 (Z41 p0 p1 i965 k1062 n) l1118 i1120 i1121
def Z7n (p0:List Int) (p1:List Int) (k584:(List (Int))→OL) (k966:(List (Int))→(Int)→OL) (l963:List (Int)) (i965:Int):OL :=
 br ((decide (i965<(p0.length:Int)))) (
 jn (fun (l1059:List (Int)) (i1061:Int)=>bnd (IntKind.wrap .i64 (i965+(p1.length:Int))) fun z1149 =>
 chk (inB z1149 l1059.length) <|
 bnd (Zcp 0 l1059 (z1149).toNat i1061) fun l1151 =>
 bnd (IntKind.wrap .i64 (i965+1)) fun z1155 =>
 k966 l1151 z1155) fun k1062=>Z41 p0 p1 i965 k1062 big l963 0 0
 ) (
 k584 l963
 )
def Z40 (p0:List Int) (p1:List Int) (k584:(List (Int))→OL):Nat→(List (Int))→(Int)→OL
  | 0,_,_=>none
  | n+1,l963,i965=>Z7n p0 p1 k584 (Z40 p0 p1 k584 n) l963 i965
def Zbt (p0:List Int) (p1:List Int):OL :=
 bnd (IntKind.wrap .i64 ((p0.length:Int)+(p1.length:Int))) fun z3 =>
 chk (mkB 8 z3 z3) <|
 jn (fun (l582:List (Int))=>some l582) fun k584=>Z40 p0 p1 k584 big (List.replicate (z3).toNat 0:List (Int)) 0
theorem Zk0 {W:World} {r:(List Int)} {p0:List Int} {p1:List Int} {v0:Value} {v1:Value} (h:Zbt p0 p1=some r) (A0:Z4y (El.int .i64) W v0 p0) (A1:Z4y (El.int .i64) W v1 p1) :
    Calls Tryz.prog 116 [v0,v1].toArray W (Zc0 W [] (fun v Ms=>∃ (u0:Value) (M0:List Zf),v=u0∧Ms = [.all M0]∧Z0b (El.int .i64) u0 M0 r)):=by
 unfold Zbt at h
 refine Z02 mo Z0y1 rfl (Zgo _) ?_
 refine Z0<|Z2<|Z7 rfl<|Z1<|Z0<|bH h fun z3 ez3 h=>cH h fun c4 h=>Z2<|Z7 rfl<|Z6 _ (Z25 rfl (Shp.rd A0))<|Z7 rfl<|Z6 _ (Z25 rfl (Shp.rd A1))<|Z6 _ (iz ez3 (Z9 rfl rfl rfl))<|Zd (Zfj (E:=(El.int .i64)) rfl rfl rfl c4 fun v5 ms6 O7=>Z7 rfl<|Z1<|Z0<|Z0<|Z2<|Z7 rfl<|Z1<|jH h fun k584 qk584 h=>Zh (G:=fun t m=>∃ (l582:List (Int)) (v580:Value) (ms581:List Zf),k584 l582=some r∧Z0b (El.int .i64) v580 ms581 l582∧Fit [(5,v580)] (ms581 ++ []) t m) ?_ ?_)
 ·refine Za<|Zo (fun n967 t m=>∃ (l963:List (Int)) (i965:Int) (v961:Value) (ms962:List Zf),Z40 p0 p1 k584 n967 l963 i965=some r∧Z0b (El.int .i64) v961 ms962 l963∧Fit [(0,v0),(1,v1),(5,v961),(6,.int .i64 (i965))] (ms962 ++ []) t m) big ?_ ?_
  ·exact ⟨(List.replicate (z3).toNat 0:List (Int)),0,v5,ms6,h,O7,⟨⟨rfl,rfl,rfl,rfl,trivial⟩,(.all .here .nil)⟩⟩
  ·rintro n967 t m ⟨l963,i965,v961,ms962,h,O964,hF⟩
   refine Zg hF ?_
   clear hF
   rcases n967 with _ | n967
   · exact Z05 h
   have h:Z7n p0 p1 k584 (Z40 p0 p1 k584 n967) l963 i965=some r:=h
   unfold Z7n at h
   obtain ⟨k966,qk966⟩ : ∃ k,k=Z40 p0 p1 k584 n967:=⟨_,rfl⟩
   try rw [← qk966] at h
   refine Z0<|Z0<|Z2<|Z7 rfl<|Z7 rfl<|Z6 _ (Z25 rfl (Shp.rd A0))<|Z6 _ (Z9 rfl rfl rfl)<|Z1<|Z07 h rfl (fun h=>?_) (fun h=>?_)
   ·refine Zk<|Z0<|Za<|Z0<|Z2<|Z7 rfl<|Z1<|Z0<|Z0<|Z2<|Z7 rfl<|Z1<|jH h fun k1062 qk1062 h=>Zh (G:=fun t m=>∃ (l1059:List (Int)) (i1061:Int) (v1057:Value) (ms1058:List Zf),k1062 l1059 i1061=some r∧Z0b (El.int .i64) v1057 ms1058 l1059∧Fit [(0,v0),(1,v1),(5,v1057),(6,.int .i64 (i965)),(7,.int .i64 (i1061))] (ms1058 ++ []) t m) ?_ ?_
    ·refine Za<|Zo (fun n1123 t m=>∃ (l1118:List (Int)) (i1120:Int) (i1121:Int) (v1116:Value) (ms1117:List Zf),Z41 p0 p1 i965 k1062 n1123 l1118 i1120 i1121=some r∧Z0b (El.int .i64) v1116 ms1117 l1118∧Fit [(0,v0),(1,v1),(5,v1116),(6,.int .i64 (i965)),(7,.int .i64 (i1120)),(8,.int .i64 (i1121))] (ms1117 ++ []) t m) big ?_ ?_
     ·exact ⟨l963,0,0,v961,ms962,h,O964,⟨⟨rfl,rfl,rfl,rfl,rfl,rfl,trivial⟩,(.all .here .nil)⟩⟩
     ·rintro n1123 t m ⟨l1118,i1120,i1121,v1116,ms1117,h,O1119,hF⟩
      refine Zg hF ?_
      clear hF
      rcases n1123 with _ | n1123
      · exact Z05 h
      have h:Z7o p0 p1 i965 k1062 (Z41 p0 p1 i965 k1062 n1123) l1118 i1120 i1121=some r:=h
      unfold Z7o at h
      obtain ⟨k1122,qk1122⟩ : ∃ k,k=Z41 p0 p1 i965 k1062 n1123:=⟨_,rfl⟩
      try rw [← qk1122] at h
      refine Z0<|Z0<|Z2<|Z7 rfl<|Z7 rfl<|Z6 _ (Z25 rfl (Shp.rd A1))<|Z6 _ (Z9 rfl rfl rfl)<|Z1<|Z07 h rfl (fun h=>?_) (fun h=>?_)
      ·refine Zk<|Z0<|Za<|Z0<|bH h fun z1127 ez1127 h=>cH h fun c1128 h=>cH h fun c1129 h=>cH h fun c1130 h=>bH h fun z1131 ez1131 h=>bH h fun z1132 ez1132 h=>bH h fun z1133 ez1133 h=>bH h fun z1134 ez1134 h=>bH h fun z1135 ez1135 h=>bH h fun z1136 ez1136 h=>Zu<|Z8 _ (Z0u rfl)<|Z8 _ (Z0u rfl)<|Z8 _ (Z0u rfl)<|Z8 _ (iz ez1127 (Z9 rfl rfl rfl))<|Z8 _ (Z32 rfl rfl (Shp.own O1119) c1128)<|Z8 _ (Z0u rfl)<|Z8 _ (Z0u rfl)<|Z8 _ (Z32 rfl rfl (Shp.rd A0) c1129)<|Z8 _ (Z0u rfl)<|Z8 _ (Z0u rfl)<|Z8 _ (Z32 rfl rfl (Shp.rd A1) c1130)<|Z8 _ (Z0u rfl)<|Zq _ (iz ez1131 (Z33 (E:=(El.int .i64)) (s:=[.one (.int .i64 (l1118.getD (z1127).toNat 0))]) rfl (Z0a O1119 .here) (Z01 c1128) rfl rfl))<|Zq _ (iz ez1132 (Z33 (E:=(El.int .i64)) (s:=[.one (.int .i64 (p0.getD (i965).toNat 0))]) rfl (Z16 A0 Z1f) (Z01 c1129) rfl rfl))<|Zq _ (iz ez1133 (Z33 (E:=(El.int .i64)) (s:=[.one (.int .i64 (p1.getD (i1121).toNat 0))]) rfl (Z16 A1 Z1f) (Z01 c1130) rfl rfl))<|Z8 _ (iz ez1134 (Z9 rfl rfl rfl))<|Z8 _ (iz ez1135 (Z9 rfl rfl rfl))<|Z8 _ (iz ez1136 (Z9 rfl rfl rfl))<|Z8 _ (Z0u rfl)<|Z03<|Z0<|bH h fun z1138 ez1138 h=>bH h fun z1139 ez1139 h=>cH h fun c1140 h=>bH h fun l1141 el1141 h=>Z2<|Z7 rfl<|Z7 rfl<|Z7 rfl<|Z6 _ (iz ez1138 (Z9 rfl rfl rfl))<|Z7 rfl<|Z6 _ (iz ez1139 (Zah rfl rfl (by decide)))<|Z6 _ (Z32 rfl rfl (Shp.own O1119) c1140)<|Zd (Zg1 (E:=(El.int .i64)) el1141 O1119 .here rfl rfl rfl (Z01 c1140) fun ms1142 O1143=>Z1<|bH h fun z1145 ez1145 h=>Z2<|Z7 rfl<|Z6 _ (iz ez1145 (Z98 rfl rfl (by decide)))<|Z7 rfl<|Z1<|bH h fun z1147 ez1147 h=>Z2<|Z7 rfl<|Z6 _ (iz ez1147 (Z9 rfl rfl rfl))<|Z7 rfl<|Z1 ?_)
       rw [qk1122] at h
       exact ⟨n1123,Nat.lt_succ_self _,l1141,z1145,z1147,v1116,ms1142,h,O1143,⟨⟨rfl,rfl,rfl,rfl,rfl,rfl,trivial⟩,(.all .here .nil)⟩⟩
      ·exact Zv _ rfl<|⟨l1118,i1120,v1116,ms1117,h,O1119,⟨⟨rfl,rfl,rfl,rfl,rfl,trivial⟩,(.all .here .nil)⟩⟩
    ·rintro t m ⟨l1059,i1061,v1057,ms1058,h,O1060,hF⟩
     refine Zg hF ?_
     clear hF
     subst qk1062
     refine bH h fun z1149 ez1149 h=>cH h fun c1150 h=>bH h fun l1151 el1151 h=>Z2<|Z7 rfl<|Z7 rfl<|Z7 rfl<|Z6 _ (Z25 rfl (Shp.rd A1))<|Z6 _ (iz ez1149 (Z9 rfl rfl rfl))<|Z7 rfl<|Z6 _ (Z32 rfl rfl (Shp.own O1060) c1150)<|Zd (Zg1 (E:=(El.int .i64)) el1151 O1060 .here rfl rfl rfl (Z01 c1150) fun ms1152 O1153=>Z1<|bH h fun z1155 ez1155 h=>Z2<|Z7 rfl<|Z6 _ (iz ez1155 (Z9 rfl rfl rfl))<|Z7 rfl<|Z1 ?_)
     rw [qk966] at h
     exact ⟨n967,Nat.lt_succ_self _,l1151,z1155,v1057,ms1152,h,O1153,⟨⟨rfl,rfl,rfl,rfl,trivial⟩,(.all .here .nil)⟩⟩
   ·exact Zv _ rfl<|⟨l963,v961,ms962,h,O964,⟨⟨rfl,trivial⟩,(.all .here .nil)⟩⟩
 ·rintro t m ⟨l582,v580,ms581,h,O583,hF⟩
  refine Zg hF ?_
  clear hF
  subst qk584
  refine Z0<|Z2<|Z7 rfl<|Z7 rfl<|Z1<|Zm ?_
  revert h; refine Zw fun h=>?_
  subst h
  exact ⟨_,_,(.cons (.tmp rfl) .nil),(.all .here .nil),⟨_,rfl,⟨v580,ms581,rfl,rfl,O583⟩⟩⟩
def Zbs (p0:List Int) (p1:List Int) (p2:List Int):OL :=
 opt (Zok (tk p0 0 32)) fun y7 =>
 opt (Zok (tk p1 0 32)) fun y13 =>
 opt (Zbt y7 y13) fun y19 =>
 opt (Zok (tk p2 0 32)) fun y25 =>
 opt (Zol y19 y25) fun y31 =>
 opt (Zlp y31) fun y37 =>
 opt (Zhd y37) fun y43 =>
 some y43
theorem Zky {W:World} {r:(List Int)} {p0:List Int} {p1:List Int} {p2:List Int} (h:Zbs p0 p1 p2=some r)  :
    Calls Tryz.prog 61 [agg [.ints .u8 32 (p0)],agg [.ints .u8 32 (p1)],agg [.ints .u8 32 (p2)]].toArray W (Z2s W (agg [.ints .u8 32 (r)])):=by
 unfold Zbs at h
 refine Zc mo ok61 rfl ?_
 refine Z0<|Z2<|Zd (Z0e (s:=[.ints .u8 32 (p0)]) rfl fun b2 hb2=>Zd (Z0e (s:=[.ints .u8 32 (p1)]) rfl fun b3 hb3=>Zd (Z0e (s:=[.ints .u8 32 (p2)]) rfl fun b4 hb4=>Zd (Zr fun b5 hb5=>Z1<|Z0<|oH h fun y7 ey7 h=>oH h fun y13 ey13 h=>oH h fun y19 ey19 h=>oH h fun y25 ey25 h=>oH h fun y31 ey31 h=>oH h fun y37 ey37 h=>oH h fun y43 ey43 h=>Zu<|Z8 _ (Z7c rfl .no .no .no (by simp) (by decide))<|Z8 _ (Z7c rfl .no .no .no (by simp) (by decide))<|Z8 _ (Z7c rfl .no .no .no (by simp) (by decide))<|Z5d (Zz rfl (fun w hw=>Zet  ey7 ((Z1g (s:=[.ints .u8 32 (p0)]) (N:=32) (k:=.u8) (base:=0) (lo:=0) (hi:=32) (mz:=32) (.there (.there (.there .here))) rfl (by decide)) w hw)) fun v8 Msv8 R9=>?_)))))
 obtain ⟨_,ms11,rfl,rfl,O12⟩:=R9
 refine ⟨(by repeat (first | exact Sup.refl _ | apply Sup.cons | apply Sup.app)),Z5d (Zz rfl (fun w hw=>Zet  ey13 ((Z1g (s:=[.ints .u8 32 (p1)]) (N:=32) (k:=.u8) (base:=0) (lo:=0) (hi:=32) (mz:=32) (.app (.there (.there .here))) rfl (by decide)) w hw)) fun v14 Msv14 R15=>?_)⟩
 obtain ⟨_,ms17,rfl,rfl,O18⟩:=R15
 refine ⟨(by repeat (first | exact Sup.refl _ | apply Sup.cons | apply Sup.app)),Z5d (Zz rfl (fun w hw=>Zk0  ey19 ((Z0a O12 (.app .here)) w hw) ((Z0a O18 .here) w hw)) fun v20 Msv20 R21=>?_)⟩
 obtain ⟨_,ms23,rfl,rfl,O24⟩:=R21
 refine ⟨(by repeat (first | exact Sup.refl _ | apply Sup.cons | apply Sup.app)),Z5d (Zz rfl (fun w hw=>Zet  ey25 ((Z1g (s:=[.ints .u8 32 (p2)]) (N:=32) (k:=.u8) (base:=0) (lo:=0) (hi:=32) (mz:=32) (.app (.app (.app (.there .here)))) rfl (by decide)) w hw)) fun v26 Msv26 R27=>?_)⟩
 obtain ⟨_,ms29,rfl,rfl,O30⟩:=R27
 refine ⟨(by repeat (first | exact Sup.refl _ | apply Sup.cons | apply Sup.app)),Z5d (Zz rfl (fun w hw=>Zq8  ey31 ((Z0a O24 (.app .here)) w hw) ((Z0a O30 .here) w hw)) fun v32 Msv32 R33=>?_)⟩
 obtain ⟨_,ms35,rfl,rfl,O36⟩:=R33
 refine ⟨(by repeat (first | exact Sup.refl _ | apply Sup.cons | apply Sup.app)),Z5d (Zz rfl (fun w hw=>Zjz  ey37 ((Z0a O36 .here) w hw)) fun v38 Msv38 R39=>?_)⟩
 obtain ⟨_,ms41,rfl,rfl,O42⟩:=R39
 refine ⟨(by repeat (first | exact Sup.refl _ | apply Sup.cons | apply Sup.app)),Zqp _ (Z08 rfl (fun w hw=>Zhx ey43 ((Z0a O42 .here) w hw))) (Z1b rfl (Zp (q:=[.ints .u8 32 (y43)]) rfl rfl rfl rfl rfl (.app (.app (.app (.app (.app (.app .here)))))) (Z03 (Zm ?_)))) (by repeat (first | exact Sup.refl _ | apply Sup.cons | apply Sup.app))⟩
 revert h; refine Zw fun h=>?_
 subst h
 exact ⟨_,(.cons (.agg rfl (.app (.app (.app (.app (.app (.app .here)))))) rfl) .nil),rfl⟩
def Zhg (y26:(List Int)) (y52:(List Int)) (k102:(List Int)→OL) (k130:(Int)→(List Int)→OL) (i128:Int) (a129:List Int):OL :=
 br ((decide (i128<32))) (
 chk (inB i128 32) <|
 bnd (y26.getD (i128).toNat 0) fun z136 =>
 chk (inB i128 64) <|
 bnd (Z21 a129 (i128).toNat z136) fun l138 =>
 bnd (IntKind.wrap .i64 (32+i128)) fun z140 =>
 chk (inB i128 32) <|
 bnd (y52.getD (i128).toNat 0) fun z142 =>
 chk (inB z140 64) <|
 bnd (Z21 l138 (z140).toNat z142) fun l144 =>
 bnd (IntKind.wrap .i64 (i128+1)) fun z146 =>
 k130 z146 l144
 ) (
 k102 a129
 )
def Z9p (y26:(List Int)) (y52:(List Int)) (k102:(List Int)→OL):Nat→(Int)→(List Int)→OL
  | 0,_,_=>none
  | n+1,i128,a129=>Zhg y26 y52 k102 (Z9p y26 y52 k102 n) i128 a129
def Zk3 (p0:List Int) (p1:List Int):OL :=
 opt (Z68 p0) fun y5 =>
 opt (Ze5 p0) fun y8 =>
 opt (Zhu (tk p0 0 32)) fun y11 =>
 opt (Zhh y11 true) fun y12 =>
 opt (Zaf (tk y12 0 32) p1 []) fun y15 =>
 opt (Zhu y15) fun y21 =>
 opt (Zad y21) fun y22 =>
 opt (Z9o y22) fun y25 =>
 opt (Zbw y25) fun y26 =>
 jn (fun (a39:List Int)=>opt (Zbs a39 y5 y22) fun y52 =>
 jn (fun (a101:List Int)=>some a101) fun k102=>Z9p y26 y52 k102 big 0 (List.replicate 64 0)) fun k40=>opt (Zaf (tk y26 0 32) (tk y8 0 32) p1) fun y42 =>
 opt (Zhu y42) fun y48 =>
 opt (Zad y48) fun y49 =>
 k40 y49
theorem Zoq {W:World} {r:(List Int)} {p0:List Int} {p1:List Int} {v1:Value} (h:Zk3 p0 p1=some r) (hG:Globs W) (A1:Z4y (El.int .u8) W v1 p1) :
    Calls Tryz.prog 14 [agg [.ints .u8 32 (p0)],v1].toArray W (Z2s W (agg [.ints .u8 64 (r)])):=by
 unfold Zk3 at h
 refine Zc mo ok14 rfl ?_
 refine Z0<|Z2<|Zd (Z0e (s:=[.ints .u8 32 (p0)]) rfl fun b2 hb2=>Zd (Zr fun b3 hb3=>Z1<|Z0<|oH h fun y5 ey5 h=>Z2<|Z6 _ (Z00 (p:=[.ints .u8 32 (p0)]) rfl (.there .here) rfl)<|Z6 _ (Z08 rfl (fun w hw=>Zax ey5 (hG.at hw (by simp))))<|Zd (Zr fun b6 hb6=>Zd (Zp (q:=[.ints .u8 32 (y5)]) rfl rfl rfl rfl rfl .here<|Z1<|Z0<|oH h fun y8 ey8 h=>Z2<|Z6 _ (Z00 (p:=[.ints .u8 32 (p0)]) rfl (.there (.there .here)) rfl)<|Z6 _ (Z08 rfl (fun w hw=>Zl2 ey8 (hG.at hw (by simp))))<|Zd (Zr fun b9 hb9=>Zd (Zp (q:=[.ints .u8 32 (y8)]) rfl rfl rfl rfl rfl .here<|Z1<|Z0<|oH h fun y11 ey11 h=>oH h fun y12 ey12 h=>Z2<|Z6 _ (Z7c rfl .no .no .no (by simp) (by decide))<|Z6 _ (Z08 rfl (fun w hw=>Z83 ey11 (hG.at hw (by simp)) ((Z1g (s:=[.ints .u8 32 (p0)]) (N:=32) (k:=.u8) (base:=0) (lo:=0) (hi:=32) (mz:=32) (.there (.there (.there .here))) rfl (by decide)) w hw)))<|Z6 _ (Z0g rfl (Zhz ey12))<|Zd (Zr fun b13 hb13=>Zd (Zp (q:=[.ints .u8 32 (y12)]) rfl rfl rfl rfl rfl .here<|Z1<|Z0<|oH h fun y15 ey15 h=>oH h fun y21 ey21 h=>oH h fun y22 ey22 h=>Z2<|Z6 _ (Z7c rfl .no .no .no (by simp) (by decide))<|Z7 rfl<|Zd (Zz rfl (fun w hw=>Zb6  ey15 ((Z1g (s:=[.ints .u8 32 (y12)]) (N:=32) (k:=.u8) (base:=0) (lo:=0) (hi:=32) (mz:=32) .here rfl (by decide)) w hw) ((Z16 A1 Z1f) w hw) (Z04s w hw)) fun v16 Msv16 R17=>?_)))))))))
 obtain ⟨_,ms19,rfl,rfl,O20⟩:=R17
 refine Z6 _ (Z08 rfl (fun w hw=>Z83 ey21 (hG.at hw (by simp)) ((Z0a O20 .here) w hw)))<|Z6 _ (Z0g rfl (Z8c ey22))<|Zd (Zr fun b23 hb23=>Zd (Zp (q:=[.ints .u8 32 (y22)]) rfl rfl rfl rfl rfl .here<|Z1<|Z0<|oH h fun y25 ey25 h=>oH h fun y26 ey26 h=>Z2<|Z6 _ (Z00 (p:=[.ints .u8 32 (y22)]) rfl .here rfl)<|Z6 _ (Z0g rfl (Ze1 ey25))<|Z6 _ (Z0g rfl (Zfd ey26))<|Zd (Zr fun b27 hb27=>Zd (Zp (q:=[.ints .u8 32 (y26)]) rfl rfl rfl rfl rfl .here<|Z1<|Z0<|jH h fun k40 qk40 h=>Zh (G:=fun t m=>∃ (a39:List Int) (b38:Nat),k40 a39=some r∧Fit [(4,.pointer (some ⟨b3,0,none⟩)),(5,.pointer (some ⟨b6,0,none⟩)),(8,.pointer (some ⟨b23,0,none⟩)),(9,.pointer (some ⟨b27,0,none⟩)),(10,.pointer (some ⟨b38,0,none⟩))] (ck b38 74 [.ints .u8 32 (a39)]::(ck b27 29 [.ints .u8 32 (y26)]::(ck b23 74 [.ints .u8 32 (y22)]::(ck b13 22 [.ints .u8 32 (y12)]::(ck b9 29 [.ints .u8 32 (y8)]::(ck b6 74 [.ints .u8 32 (y5)]::(ck b3 27 [.ints .u8 64 ((List.replicate 64 0))]::(ck b2 23 [.ints .u8 32 (p0)] :: [])))))))) t m) ?_ ?_))))
 ·refine oH h fun y42 ey42 h=>oH h fun y48 ey48 h=>oH h fun y49 ey49 h=>Zu<|Z8 _ (Z7c rfl .no .no .no (by simp) (by decide))<|Z8 _ (Z7c rfl .no .no .no (by simp) (by decide))<|Z8 _ (Z0u rfl)<|Zsp (Zz rfl (fun w hw=>Zb6  ey42 ((Z1g (s:=[.ints .u8 32 (y26)]) (N:=32) (k:=.u8) (base:=0) (lo:=0) (hi:=32) (mz:=32) .here rfl (by decide)) w hw) ((Z1g (s:=[.ints .u8 32 (y8)]) (N:=32) (k:=.u8) (base:=0) (lo:=0) (hi:=32) (mz:=32) (.there (.there (.app (.there .here)))) rfl (by decide)) w hw) ((Z16 A1 Z1f) w hw)) fun v43 Msv43 R44=>?_) (Zr fun b50 hb50=>?_)
  ·obtain ⟨_,ms46,rfl,rfl,O47⟩:=R44
   refine ⟨(by repeat (first | exact Sup.refl _ | apply Sup.cons | apply Sup.app)),Zsp (ef_q _ (Z08 rfl (fun w hw=>Z83 ey48 (hG.at hw (by simp)) ((Z0a O47 .here) w hw))) ⟨(by repeat (first | exact Sup.refl _ | apply Sup.cons | apply Sup.app)),?_⟩) (Zr fun b50 hb50=>⟨(by repeat (first | exact Sup.refl _ | apply Sup.cons | apply Sup.app)),?_⟩)⟩
   ·exact Z8 _ (Z0g rfl (Z8c ey49))<|Z5d (Zr fun b50 hb50=>⟨(by repeat (first | exact Sup.refl _ | apply Sup.cons | apply Sup.app)),Z1b rfl (Zp (q:=[.ints .u8 32 (y49)]) rfl rfl rfl rfl rfl .here (Z03 (⟨y49,b50,h,⟨⟨rfl,rfl,rfl,rfl,rfl,trivial⟩,(.one .here (.one (.app .here) (.one (.app .here) (.one (.app (.app .here)) (.one (.app (.app .here)) (.one (.app (.app .here)) (.one (.app (.app .here)) (.one (.app (.app .here)) .nil))))))))⟩⟩)))⟩)
   ·exact Zqp _ (Z08 rfl (fun w hw=>Z83 ey48 (hG.at hw (by simp)) ((Z0a O47 (.there .here)) w hw))) (Z8 _ (Z0g rfl (Z8c ey49)) (Z1b rfl (Zp (q:=[.ints .u8 32 (y49)]) rfl rfl rfl rfl rfl .here (Z03 (⟨y49,b50,h,⟨⟨rfl,rfl,rfl,rfl,rfl,trivial⟩,(.one .here (.one (.app .here) (.one (.app .here) (.one (.app (.app .here)) (.one (.app (.app .here)) (.one (.app (.app .here)) (.one (.app (.app .here)) (.one (.app (.app .here)) .nil))))))))⟩⟩))))) (by repeat (first | exact Sup.refl _ | apply Sup.cons | apply Sup.app))
  ·refine ⟨(by repeat (first | exact Sup.refl _ | apply Sup.cons | apply Sup.app)),Z5d (Zz rfl (fun w hw=>Zb6  ey42 ((Z1g (s:=[.ints .u8 32 (y26)]) (N:=32) (k:=.u8) (base:=0) (lo:=0) (hi:=32) (mz:=32) (.there .here) rfl (by decide)) w hw) ((Z1g (s:=[.ints .u8 32 (y8)]) (N:=32) (k:=.u8) (base:=0) (lo:=0) (hi:=32) (mz:=32) (.there (.there (.there (.app (.there .here))))) rfl (by decide)) w hw) ((Z16 A1 Z1f) w hw)) fun v43 Msv43 R44=>?_)⟩
   obtain ⟨_,ms46,rfl,rfl,O47⟩:=R44
   exact ⟨(by repeat (first | exact Sup.refl _ | apply Sup.cons | apply Sup.app)),Zqp _ (Z08 rfl (fun w hw=>Z83 ey48 (hG.at hw (by simp)) ((Z0a O47 .here) w hw))) (Z8 _ (Z0g rfl (Z8c ey49)) (Z1b rfl (Zp (q:=[.ints .u8 32 (y49)]) rfl rfl rfl rfl rfl (.app .here) (Z03 (⟨y49,b50,h,⟨⟨rfl,rfl,rfl,rfl,rfl,trivial⟩,(.one (.app .here) (.one (.app .here) (.one (.app .here) (.one (.app (.app .here)) (.one (.app (.app .here)) (.one (.app (.app .here)) (.one (.app (.app .here)) (.one (.app (.app .here)) .nil))))))))⟩⟩))))) (by repeat (first | exact Sup.refl _ | apply Sup.cons | apply Sup.app))⟩
 ·rintro t m ⟨a39,b38,h,hF⟩
  refine Zg hF ?_
  clear hF
  subst qk40
  refine Z0<|oH h fun y52 ey52 h=>Z2<|Z6 _ (Z00 (p:=[.ints .u8 32 (a39)]) rfl .here rfl)<|Z6 _ (Z00 (p:=[.ints .u8 32 (y5)]) rfl (.there (.there (.there (.there (.there .here))))) rfl)<|Z6 _ (Z00 (p:=[.ints .u8 32 (y22)]) rfl (.there (.there .here)) rfl)<|Z6 _ (Z0g rfl (Zky ey52))<|Zd (Zr fun b53 hb53=>Zd (Zp (q:=[.ints .u8 32 (y52)]) rfl rfl rfl rfl rfl .here<|Z1<|Z0<|Z2<|Zd (Zr fun b55 hb55=>Z1<|Z0<|Z0<|Z2<|Z7 rfl<|Z1<|jH h fun k102 qk102 h=>Zh (G:=fun t m=>∃ (a101:List Int),k102 a101=some r∧Fit [(4,.pointer (some ⟨b3,0,none⟩)),(12,.pointer (some ⟨b55,0,none⟩))] (ck b55 27 [.ints .u8 64 (a101)]::(ck b53 74 [.ints .u8 32 (y52)]::(ck b38 74 [.ints .u8 32 (a39)]::(ck b27 29 [.ints .u8 32 (y26)]::(ck b23 74 [.ints .u8 32 (y22)]::(ck b13 22 [.ints .u8 32 (y12)]::(ck b9 29 [.ints .u8 32 (y8)]::(ck b6 74 [.ints .u8 32 (y5)]::(ck b3 27 [.ints .u8 64 ((List.replicate 64 0))]::(ck b2 23 [.ints .u8 32 (p0)] :: [])))))))))) t m) ?_ ?_)))
  ·refine Za<|Zo (fun n131 t m=>∃ (i128:Int) (a129:List Int),Z9p y26 y52 k102 n131 i128 a129=some r∧Fit [(4,.pointer (some ⟨b3,0,none⟩)),(9,.pointer (some ⟨b27,0,none⟩)),(11,.pointer (some ⟨b53,0,none⟩)),(12,.pointer (some ⟨b55,0,none⟩)),(13,.int .i64 (i128))] (ck b55 27 [.ints .u8 64 (a129)]::(ck b53 74 [.ints .u8 32 (y52)]::(ck b38 74 [.ints .u8 32 (a39)]::(ck b27 29 [.ints .u8 32 (y26)]::(ck b23 74 [.ints .u8 32 (y22)]::(ck b13 22 [.ints .u8 32 (y12)]::(ck b9 29 [.ints .u8 32 (y8)]::(ck b6 74 [.ints .u8 32 (y5)]::(ck b3 27 [.ints .u8 64 ((List.replicate 64 0))]::(ck b2 23 [.ints .u8 32 (p0)] :: [])))))))))) t m) big ?_ ?_
   ·exact ⟨0,(List.replicate 64 0),h,⟨⟨rfl,rfl,rfl,rfl,rfl,trivial⟩,(.one .here (.one .here (.one .here (.one .here (.one .here (.one .here (.one .here (.one .here (.one .here (.one .here .nil))))))))))⟩⟩
   ·rintro n131 t m ⟨i128,a129,h,hF⟩
    refine Zg hF ?_
    clear hF
    rcases n131 with _ | n131
    · exact Z05 h
    have h:Zhg y26 y52 k102 (Z9p y26 y52 k102 n131) i128 a129=some r:=h
    unfold Zhg at h
    obtain ⟨k130,qk130⟩ : ∃ k,k=Z9p y26 y52 k102 n131:=⟨_,rfl⟩
    try rw [← qk130] at h
    refine Z0<|Z0<|Z2<|Z7 rfl<|Z6 _ (Z9 rfl rfl rfl)<|Z1<|Z07 h rfl (fun h=>?_) (fun h=>?_)
    ·refine Zk<|Z0<|Za<|Z0<|cH h fun c135 h=>bH h fun z136 ez136 h=>cH h fun c137 h=>bH h fun l138 el138 h=>Z2<|Z7 rfl<|Z7 rfl<|Z6 _ (Z0v rfl rfl (Z09 c135))<|Z6 _ (iz ez136 (Z2e (base:=0) rfl (.there (.there (.there .here))) rfl (Z01 c135)))<|Z6 _ (Z0v rfl rfl (Z09 c137))<|Zd (Z1e (q:=[.ints .u8 64 (l138)]) (base:=0) el138 rfl rfl rfl (Z01 c137) rfl .here<|Z1<|bH h fun z140 ez140 h=>cH h fun c141 h=>bH h fun z142 ez142 h=>cH h fun c143 h=>bH h fun l144 el144 h=>Z2<|Z7 rfl<|Z6 _ (iz ez140 (Z9 rfl rfl rfl))<|Z7 rfl<|Z6 _ (Z0v rfl rfl (Z09 c141))<|Z6 _ (iz ez142 (Z2e (base:=0) rfl (.there .here) rfl (Z01 c141)))<|Z6 _ (Z0v rfl rfl (Z09 c143))<|Zd (Z1e (q:=[.ints .u8 64 (l144)]) (base:=0) el144 rfl rfl rfl (Z01 c143) rfl .here<|Z1<|bH h fun z146 ez146 h=>Z2<|Z7 rfl<|Z6 _ (iz ez146 (Z9 rfl rfl rfl))<|Z7 rfl<|Z1 ?_))
     rw [qk130] at h
     exact ⟨n131,Nat.lt_succ_self _,z146,l144,h,⟨⟨rfl,rfl,rfl,rfl,rfl,trivial⟩,(.one .here (.one .here (.one .here (.one .here (.one .here (.one .here (.one .here (.one .here (.one .here (.one .here .nil))))))))))⟩⟩
    ·exact Zv _ rfl<|⟨a129,h,⟨⟨rfl,rfl,trivial⟩,(.one .here (.one .here (.one .here (.one .here (.one .here (.one .here (.one .here (.one .here (.one .here (.one .here .nil))))))))))⟩⟩
  ·rintro t m ⟨a101,h,hF⟩
   refine Zg hF ?_
   clear hF
   subst qk102
   refine Z0<|Z2<|Z6 _ (Z00 (p:=[.ints .u8 64 (a101)]) rfl .here rfl)<|Zd (Zp (q:=[.ints .u8 64 (a101)]) rfl rfl rfl rfl rfl (.there (.there (.there (.there (.there (.there (.there (.there .here))))))))<|Z1<|Zm ?_)
   revert h; refine Zw fun h=>?_
   subst h
   exact ⟨_,(.cons (.agg rfl (.there (.there (.there (.there (.there (.there (.there (.there .here)))))))) rfl) .nil),rfl⟩
structure Z11 where
  gbytes:List Int
  gfault:Int
def Z8e:Option (Z11) :=
 some (⟨[],0⟩:Z11)
theorem Zfv {W:World} {r:Z11} (h:Z8e=some r)  :
    Calls Tryz.prog 74 [].toArray W (Zc0 W [] (fun v Ms=>∃ (b0:Nat) (T0:TypeId) (u0:Value) (M0:List Zf),v = .pointer (some ⟨b0,0,none⟩)∧Ms = [.one (ck b0 T0 [.one (u0),.one (.int .i64 (r.gfault))]),.all M0]∧Z0b (El.int .u8) u0 M0 r.gbytes)):=by
 unfold Z8e at h
 refine Z02 mo ok74 rfl (Zgo _) ?_
 refine Z0<|Z2<|Z7 rfl<|Z1<|Z0<|Z2<|Z6 _ (Zgu (q:=[.one (.slice none 0 0),.one (.int .i64 (0))]) BdR.nil)<|Zd (Z0e (s:=[.one (.slice none 0 0),.one (.int .i64 (0))]) rfl fun b3 hb3=>Z7 rfl<|Z1<|Zm ?_)
 revert h; refine Zw fun h=>?_
 subst h
 exact ⟨_,_,(.cons (.tmp rfl) .nil),(.one .here (.no .nil)),⟨_,rfl,⟨b3,178,(.slice none 0 0),[],rfl,rfl,Z59⟩⟩⟩
def Z4l (p0:Z11) (p1:List Int):Option (Z11) :=
 br ((p0.gfault==0)) (
 chk (decide ((p0.gbytes.length+p1.length)*1≤140737488355328)) <|
 bnd (p0.gbytes++p1) fun l5 =>
 some (⟨l5,p0.gfault⟩:Z11)
 ) (
 some p0
 )
theorem Z9d {W:World} {r:Z11} {p0:Z11} {p1:List Int} {v0:Value} {M0:List Zf} {v1:Value} {b:Nat} {T:TypeId} (h:Z4l p0 p1=some r) (h0:Sat W (b::M0.map (·.b)) (ck b T [.one (v0),.one (.int .i64 (p0.gfault))]::(M0 ++ [])) W) (O0:Z0b (El.int .u8) v0 M0 p0.gbytes) (A1:Z4y (El.int .u8) W v1 p1∧Z8f v1 p1 (b::M0.map (·.b))) :
    Calls Tryz.prog 147 [.pointer (some ⟨b,0,none⟩),v1].toArray W (Zc0 W (b::M0.map (·.b)) (fun v Ms=>∃ (uw:Value) (Mw:List Zf),v = .tuple #[]∧Ms = [.one (ck b T [.one (uw),.one (.int .i64 (r.gfault))]),.all Mw]∧Z0b (El.int .u8) uw Mw r.gbytes)):=by
 unfold Z4l at h
 refine Z02 mo Z0yo rfl h0 ?_
 refine Z0<|Z2<|Z7 rfl<|Z6 _ (Z4h rfl)<|Z6 _ (Z4g rfl)<|Z6 _ (Z1a rfl .here rfl)<|Z6 _ (Z9 rfl rfl rfl)<|Z1<|Z07 h rfl (fun h=>?_) (fun h=>?_)
 ·refine cH h fun c4 h=>bH h fun l5 el5 h=>Z2<|Z7 rfl<|Z7 rfl<|Z6 _ (Z4h rfl)<|Z6 _ (Z4g rfl)<|Z6 _ (Z1a rfl .here rfl)<|Z7 rfl<|Zd (Z3f (E:=(El.int .u8)) el5 rfl O0 (.there .here) rfl (Z16 A1.1 A1.2) c4 fun v6 ms7 O8=>Z6 _ (Z4h rfl)<|Z6 _ (Z4g rfl)<|Zd (Zlf (q:=[.one (v6),.one (.int .i64 (p0.gfault))]) rfl rfl (Zmf.one1 (Z0b.isSl O8)) rfl (.app .here)<|Z1 ?_))
  revert h; refine Zw fun h=>?_
  subst h
  exact ⟨_,_,.nil,(.one (.app .here) (.all .here .nil)),⟨_,rfl,⟨v6,ms7,rfl,rfl,O8⟩⟩⟩
 ·refine Zk ?_
  revert h; refine Zw fun h=>?_
  subst h
  exact ⟨_,_,.nil,(.one .here (.all .here .nil)),⟨_,rfl,⟨v0,M0,rfl,rfl,O0⟩⟩⟩
def Z3n (p0:Z11) (p1:List Int):Option (Z11) :=
 opt (Z4l p0 p1) fun y2 =>
 some y2
theorem Z7x {W:World} {r:Z11} {p0:Z11} {p1:List Int} {v0:Value} {M0:List Zf} {v1:Value} {b:Nat} {T:TypeId} (h:Z3n p0 p1=some r) (h0:Sat W (b::M0.map (·.b)) (ck b T [.one (v0),.one (.int .i64 (p0.gfault))]::(M0 ++ [])) W) (O0:Z0b (El.int .u8) v0 M0 p0.gbytes) (A1:Z4y (El.int .u8) W v1 p1∧Z8f v1 p1 (b::M0.map (·.b))) :
    Calls Tryz.prog 75 [.pointer (some ⟨b,0,none⟩),v1].toArray W (Zc0 W (b::M0.map (·.b)) (fun v Ms=>∃ (uw:Value) (Mw:List Zf),v = .tuple #[]∧Ms = [.one (ck b T [.one (uw),.one (.int .i64 (r.gfault))]),.all Mw]∧Z0b (El.int .u8) uw Mw r.gbytes)):=by
 unfold Z3n at h
 refine Z02 mo ok75 rfl h0 ?_
 refine oH h fun y2 ey2 h=>Z2<|Z7 rfl<|Z7 rfl<|Zd (Z2i (mS:=_::M0) rfl (Zbj .here .here) (fun w hw=>Z9d  ey2 (Z7r hw (Zbj .here .here)) O0 ⟨(Z16 A1.1 A1.2) w hw,(Zhq (Zl9 (E:=(El.int .u8)) A1.1 A1.2 .here hw) (Zla (E:=(El.int .u8)) A1.1 A1.2 (.there .here) hw))⟩) fun v3 Msv3 R4=>?_)
 obtain ⟨v5,ms6,rfl,rfl,O7⟩:=R4
 refine Z1 ?_
 revert h; refine Zw fun h=>?_
 subst h
 exact ⟨_,_,.nil,(.one .here (.all .here .nil)),⟨_,rfl,⟨v5,ms6,rfl,rfl,O7⟩⟩⟩
end Go.Proofs.YtiflckckekjbnaaGreatDoor
