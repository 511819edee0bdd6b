/- Texts of a proof, one behind the other: L4 L5 L6 L7 L8 L9. -/
import Derived.Test.YtiflckckekjbnaaGreatDoorOM3
namespace Go.Proofs.YtiflckckekjbnaaGreatDoor
open Go Go.Sx Go.RowKit
set_option linter.all false
set_option maxHeartbeats 400000
set_option maxRecDepth 100000
def Z6k (p0:List Int):Option (Bool) :=
 opt (Z0y p0) fun y4 =>
 bnd (y4.getD 0 0) fun z5 =>
 bnd (Z4 .and .u64 z5 1) fun z6 =>
 some (z6==1)
theorem Zb2 {W:World} {r:Bool} {p0:List Int} (h:Z6k p0=some r)  :
    Calls Tryz.prog 93 [agg [.ints .u64 5 (p0)]].toArray W (Z51 W (.bool (r))):=by
 unfold Z6k at h
 refine Zd mo ok93 rfl ?_
 refine Z0<|Z2<|Zg (Z16 (s:=[.ints .u64 5 (p0)]) rfl fun b2 hb2=>Z7 rfl<|Z1<|Z0<|oH h fun y4 ey4 h=>bH h fun z5 ez5 h=>bH h fun z6 ez6 h=>Z2<|Z6 _ (Z03 (p:=[.ints .u64 5 (p0)]) rfl .here rfl)<|Z6 _ (Z1a rfl (Z0f ey4))<|Z6 _ (iz ez5 (Zel (len:=5) (z:=0) rfl rfl (by decide)))<|Z6 _ (iz ez6 (Za rfl rfl rfl))<|Z6 _ (Za rfl rfl rfl)<|Z7 rfl<|Z1<|Zk ?_)
 revert h; refine Zy fun h=>?_
 subst h
 exact ⟨_,(.cons (.tmp rfl) .nil),rfl⟩
structure Z9 where
  gX:List Int
  gY:List Int
  gZ:List Int
  gT:List Int
def Z0j:Z9:=⟨(List.replicate 5 0),(List.replicate 5 0),(List.replicate 5 0),(List.replicate 5 0)⟩
def Z3t (p0:Z9):OL :=
 opt (Z6u p0.gZ) fun y5 =>
 opt (Z09 p0.gY y5) fun y8 =>
 opt (Z7u y8) fun y9 =>
 opt (Z09 p0.gX y5) fun y12 =>
 opt (Z6k y12) fun y13 =>
 jn (fun (a19:List Int)=>some a19) fun k20=>br (y13) (
 bnd (y9.getD 31 0) fun z23 =>
 bnd (Z4 .or .u8 z23 128) fun z24 =>
 bnd (Z4q y9 31 z24) fun l25 =>
 k20 l25
 ) (
 k20 y9
 )
theorem Z7q {W:World} {r:(List Int)} {p0:Z9} (h:Z3t p0=some r)  :
    Calls Tryz.prog 50 [agg [.ints .u64 5 (p0.gX),.ints .u64 5 (p0.gY),.ints .u64 5 (p0.gZ),.ints .u64 5 (p0.gT)]].toArray W (Z51 W (agg [.ints .u8 32 (r)])):=by
 unfold Z3t at h
 refine Zd mo ok50 rfl ?_
 refine Z0<|Z2<|Zg (Z16 (s:=[.ints .u64 5 (p0.gX),.ints .u64 5 (p0.gY),.ints .u64 5 (p0.gZ),.ints .u64 5 (p0.gT)]) rfl fun b2 hb2=>Zg (Zx fun b3 hb3=>Z1<|Z0<|oH h fun y5 ey5 h=>Z2<|Z6 _ (Z64 rfl)<|Z6 _ (Z03 (p:=[.ints .u64 5 (p0.gZ)]) rfl (.there .here) rfl)<|Z6 _ (Z1a rfl (Ze3 ey5))<|Zg (Zx fun b6 hb6=>Zg (Zu (q:=[.ints .u64 5 (y5)]) rfl rfl rfl rfl rfl .here<|Z1<|Z0<|oH h fun y8 ey8 h=>oH h fun y9 ey9 h=>Z2<|Z6 _ (Z64 rfl)<|Z6 _ (Z03 (p:=[.ints .u64 5 (p0.gY)]) rfl (.there (.there .here)) rfl)<|Z6 _ (Z03 (p:=[.ints .u64 5 (y5)]) rfl .here rfl)<|Z6 _ (Z1a rfl (Zw ey8))<|Z6 _ (Z1a rfl (Zb0 ey9))<|Zg (Zx fun b10 hb10=>Zg (Zu (q:=[.ints .u8 32 (y9)]) rfl rfl rfl rfl rfl .here<|Z1<|Z0<|Z0<|oH h fun y12 ey12 h=>oH h fun y13 ey13 h=>Z2<|Z6 _ (Z64 rfl)<|Z6 _ (Z03 (p:=[.ints .u64 5 (p0.gX)]) rfl (.there (.there (.there .here))) rfl)<|Z6 _ (Z03 (p:=[.ints .u64 5 (y5)]) rfl (.there .here) rfl)<|Z6 _ (Z1a rfl (Zw ey12))<|Z6 _ (Z1a rfl (Zb2 ey13))<|Z1<|jH h fun k20 qk20 h=>Zo (G:=fun t m=>∃ (a19:List Int),k20 a19=some r∧Fit [(2,.pointer (some ⟨b3,0,none⟩)),(4,.pointer (some ⟨b10,0,none⟩))] (ck b10 29 [.ints .u8 32 (a19)]::(ck b6 80 [.ints .u64 5 (y5)]::(ck b3 29 [.ints .u8 32 ((List.replicate 32 0))]::(ck b2 82 [.ints .u64 5 (p0.gX),.ints .u64 5 (p0.gY),.ints .u64 5 (p0.gZ),.ints .u64 5 (p0.gT)] :: [])))) t m) ?_ ?_))))))
 ·refine Z0s h rfl (fun h=>?_) (fun h=>?_)
  ·exact bH h fun z23 ez23 h=>bH h fun z24 ez24 h=>bH h fun l25 el25 h=>Z2<|Z6 _ (Z3d rfl rfl (by decide))<|Z6 _ (iz ez23 (Z2g rfl .here rfl))<|Z6 _ (iz ez24 (Za rfl rfl rfl))<|Z6 _ (Z3d rfl rfl (by decide))<|Zg (Z98 (q:=[.ints .u8 32 (l25)]) (congrArg (fun z=>([.ints .u8 32 (z)]:List Seg)) el25.symm) rfl rfl rfl rfl .here<|Z1<|⟨l25,h,⟨⟨rfl,rfl,trivial⟩,(.one .here (.one .here (.one .here (.one .here .nil))))⟩⟩)
  ·exact Zm<|⟨y9,h,⟨⟨rfl,rfl,trivial⟩,(.one .here (.one .here (.one .here (.one .here .nil))))⟩⟩
 ·rintro t m ⟨a19,h,hF⟩
  refine Zn hF ?_
  clear hF
  subst qk20
  refine Z0<|Z2<|Z6 _ (Z03 (p:=[.ints .u8 32 (a19)]) rfl .here rfl)<|Zg (Zu (q:=[.ints .u8 32 (a19)]) rfl rfl rfl rfl rfl (.there (.there .here))<|Z1<|Zk ?_)
  revert h; refine Zy fun h=>?_
  subst h
  exact ⟨_,(.cons (.agg rfl (.there (.there .here)) rfl) .nil),rfl⟩
def Z6r:OL :=
 bnd (([1,0,0,0,0]:List Int)) fun z4 =>
 some z4
theorem Z76 {W:World} {r:(List Int)} (h:Z6r=some r)  :
    Calls Tryz.prog 124 [].toArray W (Z51 W (agg [.ints .u64 5 (r)])):=by
 unfold Z6r at h
 refine Zd mo Z0d6 rfl ?_
 refine Z0<|Z2<|Zg (Zx fun b2 hb2=>Z1<|Z0<|bH h fun z4 ez4 h=>Z2<|Z6 _ (az (fun z=>agg [.ints .u64 5 z]) ez4 (Zdv (.one rfl rfl rfl BdR.nil)))<|Zg (Zu (q:=[.ints .u64 5 (z4)]) rfl rfl rfl rfl rfl .here<|Z1<|Zk ?_))
 revert h; refine Zy fun h=>?_
 subst h
 exact ⟨_,(.cons (.agg rfl .here rfl) .nil),rfl⟩
def Z7r:Option (Z9) :=
 opt (Z6r) fun y4 =>
 opt (Z6r) fun y5 =>
 some (⟨(List.replicate 5 0),y4,y5,(List.replicate 5 0)⟩:Z9)
theorem Z95 {W:World} {r:Z9} (h:Z7r=some r)  :
    Calls Tryz.prog 134 [].toArray W (Z51 W (agg [.ints .u64 5 (r.gX),.ints .u64 5 (r.gY),.ints .u64 5 (r.gZ),.ints .u64 5 (r.gT)])):=by
 unfold Z7r at h
 refine Zd mo Z0dg rfl ?_
 refine Z0<|Z2<|Zg (Zx fun b2 hb2=>Z1<|Z0<|oH h fun y4 ey4 h=>oH h fun y5 ey5 h=>Z2<|Z6 _ (Z1a rfl (Z76 ey4))<|Z6 _ (Z1a rfl (Z76 ey5))<|Z6 _ (Zdv (q:=[.ints .u64 5 ((List.replicate 5 0)),.ints .u64 5 (y4),.ints .u64 5 (y5),.ints .u64 5 ((List.replicate 5 0))]) (.agg rfl rfl rfl (.agg rfl rfl rfl BdR.nil)))<|Zg (Zu (q:=[.ints .u64 5 ((List.replicate 5 0)),.ints .u64 5 (y4),.ints .u64 5 (y5),.ints .u64 5 ((List.replicate 5 0))]) rfl rfl rfl rfl rfl .here<|Z1<|Zk ?_))
 revert h; refine Zy fun h=>?_
 subst h
 exact ⟨_,(.cons (.agg rfl .here rfl) .nil),rfl⟩
def Zbi (y7:(List Int)) (k50:(List Int)→OL) (k76:(Int)→(List Int)→OL) (i74:Int) (a75:List Int):OL :=
 br ((decide (i74<5))) (
 chk (inB i74 5) <|
 chk (inB i74 5) <|
 bnd (a75.getD (i74).toNat 0) fun z84 =>
 bnd (y7.getD (i74).toNat 0) fun z85 =>
 bnd (IntKind.wrap .u64 (z84+z85)) fun z86 =>
 chk (inB i74 5) <|
 bnd (Z4q a75 (i74).toNat z86) fun l88 =>
 bnd (IntKind.wrap .i64 (i74+1)) fun z90 =>
 k76 z90 l88
 ) (
 k50 a75
 )
def Z6t (y7:(List Int)) (k50:(List Int)→OL):Nat→(Int)→(List Int)→OL
  | 0,_,_=>none
  | n+1,i74,a75=>Zbi y7 k50 (Z6t y7 k50 n) i74 a75
def Z1s (p0:List Int) (p1:List Int):OL :=
 opt (Z41 p0) fun y6 =>
 opt (Z41 p1) fun y7 =>
 jn (fun (a49:List Int)=>opt (Z0y a49) fun y92 =>
 some y92) fun k50=>Z6t y7 k50 big 0 y6
theorem Z1m {W:World} {r:(List Int)} {p0:List Int} {p1:List Int} (h:Z1s p0 p1=some r)  :
    Calls Tryz.prog 127 [agg [.ints .u64 5 (p0)],agg [.ints .u64 5 (p1)]].toArray W (Z51 W (agg [.ints .u64 5 (r)])):=by
 unfold Z1s at h
 refine Zd mo Z0d9 rfl ?_
 refine Z0<|Z2<|Zg (Z16 (s:=[.ints .u64 5 (p0)]) rfl fun b2 hb2=>Zg (Z16 (s:=[.ints .u64 5 (p1)]) rfl fun b3 hb3=>Zg (Zx fun b4 hb4=>Z1<|Z0<|oH h fun y6 ey6 h=>oH h fun y7 ey7 h=>Zv<|Zp _ (Z03 (p:=[.ints .u64 5 (p0)]) rfl (.there (.there .here)) rfl)<|Z8 _ (Z1a rfl (Z3o ey6))<|Zp _ (Z03 (p:=[.ints .u64 5 (p1)]) rfl (.there .here) rfl)<|Z8 _ (Z1a rfl (Z3o ey7))<|Z2j rfl (Zu (q:=[.ints .u64 5 (y6)]) rfl rfl rfl rfl rfl (.there (.there .here))<|Zr3 rfl (Zu (q:=[.ints .u64 5 (y7)]) rfl rfl rfl rfl rfl (.there .here)<|Z05<|Z0<|Z0<|Z2<|Z7 rfl<|Z1<|jH h fun k50 qk50 h=>Zo (G:=fun t m=>∃ (a49:List Int),k50 a49=some r∧Fit [(2,.pointer (some ⟨b2,0,none⟩)),(4,.pointer (some ⟨b4,0,none⟩))] (ck b4 80 [.ints .u64 5 ((List.replicate 5 0))]::(ck b3 80 [.ints .u64 5 (y7)]::(ck b2 80 [.ints .u64 5 (a49)] :: []))) t m) ?_ ?_)))))
 ·refine Zb<|Z01 (fun n77 t m=>∃ (i74:Int) (a75:List Int),Z6t y7 k50 n77 i74 a75=some r∧Fit [(2,.pointer (some ⟨b2,0,none⟩)),(3,.pointer (some ⟨b3,0,none⟩)),(4,.pointer (some ⟨b4,0,none⟩)),(10,.int .i64 (i74))] (ck b4 80 [.ints .u64 5 ((List.replicate 5 0))]::(ck b3 80 [.ints .u64 5 (y7)]::(ck b2 80 [.ints .u64 5 (a75)] :: []))) t m) big ?_ ?_
  ·exact ⟨0,y6,h,⟨⟨rfl,rfl,rfl,rfl,trivial⟩,(.one .here (.one .here (.one .here .nil)))⟩⟩
  ·rintro n77 t m ⟨i74,a75,h,hF⟩
   refine Zn hF ?_
   clear hF
   rcases n77 with _ | n77
   · exact Z1d h
   have h:Zbi y7 k50 (Z6t y7 k50 n77) i74 a75=some r:=h
   unfold Zbi at h
   obtain ⟨k76,qk76⟩ : ∃ k,k=Z6t y7 k50 n77:=⟨_,rfl⟩
   try rw [← qk76] at h
   refine Z0<|Z2<|Z6 _ (Za rfl rfl rfl)<|Z1<|Z0<|Z0s h rfl (fun h=>?_) (fun h=>?_)
   ·refine Zm<|Z0<|Zb<|Z0<|Z2<|Z7 rfl<|Z7 rfl<|Z1<|cH h fun c82 h=>cH h fun c83 h=>bH h fun z84 ez84 h=>bH h fun z85 ez85 h=>bH h fun z86 ez86 h=>cH h fun c87 h=>bH h fun l88 el88 h=>Zv<|Z8 _ (Z15 rfl)<|Z8 _ (Z3d rfl rfl (Z1t c82))<|Z8 _ (Z15 rfl)<|Z8 _ (Z3d rfl rfl (Z1t c83))<|Zp _ (iz ez84 (Z8r (base:=0) rfl (.there (.there .here)) rfl (Z0w c82)))<|Zp _ (iz ez85 (Z8r (base:=0) rfl (.there .here) rfl (Z0w c83)))<|Z8 _ (iz ez86 (Za rfl rfl rfl))<|Z8 _ (Z3d rfl rfl (Z1t c87))<|Z2j rfl (Z5g (q:=[.ints .u64 5 (l88)]) (base:=0) el88 rfl rfl rfl (Z0w c87) rfl (.there (.there .here))<|Z05<|bH h fun z90 ez90 h=>Z2<|Z6 _ (iz ez90 (Za rfl rfl rfl))<|Z7 rfl<|Z1 ?_)
    rw [qk76] at h
    exact ⟨n77,Nat.lt_succ_self _,z90,l88,h,⟨⟨rfl,rfl,rfl,rfl,trivial⟩,(.one .here (.one .here (.one .here .nil)))⟩⟩
   ·exact Z0e _ rfl<|⟨a75,h,⟨⟨rfl,rfl,trivial⟩,(.one .here (.one .here (.one .here .nil)))⟩⟩
 ·rintro t m ⟨a49,h,hF⟩
  refine Zn hF ?_
  clear hF
  subst qk50
  refine Z0<|oH h fun y92 ey92 h=>Z2<|Z6 _ (Z03 (p:=[.ints .u64 5 (a49)]) rfl (.there (.there .here)) rfl)<|Z6 _ (Z1a rfl (Z0f ey92))<|Zg (Zu (q:=[.ints .u64 5 (y92)]) rfl rfl rfl rfl rfl .here<|Z1<|Zk ?_)
  revert h; refine Zy fun h=>?_
  subst h
  exact ⟨_,(.cons (.agg rfl .here rfl) .nil),rfl⟩
def Zbj (y5:(List Int)) (k45:(List Int)→OL) (k66:(Int)→(List Int)→OL) (i64:Int) (a65:List Int):OL :=
 br ((decide (i64<5))) (
 chk (inB i64 5) <|
 bnd (y5.getD (i64).toNat 0) fun z72 =>
 bnd (IntKind.wrap .u64 (4503599627370494-z72)) fun z73 =>
 chk (inB i64 5) <|
 bnd (Z4q a65 (i64).toNat z73) fun l75 =>
 bnd (IntKind.wrap .i64 (i64+1)) fun z77 =>
 k66 z77 l75
 ) (
 k45 a65
 )
def Z6w (y5:(List Int)) (k45:(List Int)→OL):Nat→(Int)→(List Int)→OL
  | 0,_,_=>none
  | n+1,i64,a65=>Zbj y5 k45 (Z6w y5 k45 n) i64 a65
def Z49 (p0:List Int):OL :=
 opt (Z0y p0) fun y5 =>
 bnd (y5.getD 0 0) fun z7 =>
 bnd (IntKind.wrap .u64 (4503599627370458-z7)) fun z8 =>
 bnd (([z8,0,0,0,0]:List Int)) fun z9 =>
 jn (fun (a44:List Int)=>opt (Z0y a44) fun y79 =>
 some y79) fun k45=>Z6w y5 k45 big 1 z9
theorem Z50 {W:World} {r:(List Int)} {p0:List Int} (h:Z49 p0=some r)  :
    Calls Tryz.prog 130 [agg [.ints .u64 5 (p0)]].toArray W (Z51 W (agg [.ints .u64 5 (r)])):=by
 unfold Z49 at h
 refine Zd mo Z0dc rfl ?_
 refine Z0<|Z2<|Zg (Z16 (s:=[.ints .u64 5 (p0)]) rfl fun b2 hb2=>Zg (Zx fun b3 hb3=>Z1<|Z0<|oH h fun y5 ey5 h=>Z2<|Z6 _ (Z03 (p:=[.ints .u64 5 (p0)]) rfl (.there .here) rfl)<|Z6 _ (Z1a rfl (Z0f ey5))<|Zg (Zu (q:=[.ints .u64 5 (y5)]) rfl rfl rfl rfl rfl (.there .here)<|Z1<|Z0<|bH h fun z7 ez7 h=>bH h fun z8 ez8 h=>bH h fun z9 ez9 h=>Z2<|Z6 _ (Z3d rfl rfl (by decide))<|Z6 _ (iz ez7 (Z2g rfl (.there .here) rfl))<|Z6 _ (iz ez8 (Za rfl rfl rfl))<|Z6 _ (az (fun z=>agg [.ints .u64 5 z]) ez9 (Zdv (.one rfl rfl rfl BdR.nil)))<|Zg (Zx fun b10 hb10=>Zg (Zu (q:=[.ints .u64 5 (z9)]) rfl rfl rfl rfl rfl .here<|Z1<|Z0<|Z0<|Z2<|Z7 rfl<|Z1<|jH h fun k45 qk45 h=>Zo (G:=fun t m=>∃ (a44:List Int),k45 a44=some r∧Fit [(2,.pointer (some ⟨b3,0,none⟩)),(3,.pointer (some ⟨b10,0,none⟩))] (ck b10 80 [.ints .u64 5 (a44)]::(ck b3 80 [.ints .u64 5 ((List.replicate 5 0))]::(ck b2 80 [.ints .u64 5 (y5)] :: []))) t m) ?_ ?_)))))
 ·refine Zb<|Z01 (fun n67 t m=>∃ (i64:Int) (a65:List Int),Z6w y5 k45 n67 i64 a65=some r∧Fit [(1,.pointer (some ⟨b2,0,none⟩)),(2,.pointer (some ⟨b3,0,none⟩)),(3,.pointer (some ⟨b10,0,none⟩)),(4,.int .i64 (i64))] (ck b10 80 [.ints .u64 5 (a65)]::(ck b3 80 [.ints .u64 5 ((List.replicate 5 0))]::(ck b2 80 [.ints .u64 5 (y5)] :: []))) t m) big ?_ ?_
  ·exact ⟨1,z9,h,⟨⟨rfl,rfl,rfl,rfl,trivial⟩,(.one .here (.one .here (.one .here .nil)))⟩⟩
  ·rintro n67 t m ⟨i64,a65,h,hF⟩
   refine Zn hF ?_
   clear hF
   rcases n67 with _ | n67
   · exact Z1d h
   have h:Zbj y5 k45 (Z6w y5 k45 n67) i64 a65=some r:=h
   unfold Zbj at h
   obtain ⟨k66,qk66⟩ : ∃ k,k=Z6w y5 k45 n67:=⟨_,rfl⟩
   try rw [← qk66] at h
   refine Z0<|Z0<|Z2<|Z7 rfl<|Z6 _ (Za rfl rfl rfl)<|Z1<|Z0s h rfl (fun h=>?_) (fun h=>?_)
   ·refine Zm<|Z0<|Zb<|cH h fun c71 h=>bH h fun z72 ez72 h=>bH h fun z73 ez73 h=>cH h fun c74 h=>bH h fun l75 el75 h=>Z2<|Z7 rfl<|Z7 rfl<|Z6 _ (Z3d rfl rfl (Z1t c71))<|Z6 _ (iz ez72 (Z8r (base:=0) rfl (.there (.there .here)) rfl (Z0w c71)))<|Z6 _ (iz ez73 (Za rfl rfl rfl))<|Z6 _ (Z3d rfl rfl (Z1t c74))<|Zg (Z5g (q:=[.ints .u64 5 (l75)]) (base:=0) el75 rfl rfl rfl (Z0w c74) rfl .here<|Z1<|bH h fun z77 ez77 h=>Z2<|Z7 rfl<|Z6 _ (iz ez77 (Za rfl rfl rfl))<|Z7 rfl<|Z1 ?_)
    rw [qk66] at h
    exact ⟨n67,Nat.lt_succ_self _,z77,l75,h,⟨⟨rfl,rfl,rfl,rfl,trivial⟩,(.one .here (.one .here (.one .here .nil)))⟩⟩
   ·exact Z0e _ rfl<|⟨a65,h,⟨⟨rfl,rfl,trivial⟩,(.one .here (.one .here (.one .here .nil)))⟩⟩
 ·rintro t m ⟨a44,h,hF⟩
  refine Zn hF ?_
  clear hF
  subst qk45
  refine Z0<|oH h fun y79 ey79 h=>Z2<|Z6 _ (Z03 (p:=[.ints .u64 5 (a44)]) rfl .here rfl)<|Z6 _ (Z1a rfl (Z0f ey79))<|Zg (Zu (q:=[.ints .u64 5 (y79)]) rfl rfl rfl rfl rfl (.there .here)<|Z1<|Zk ?_)
  revert h; refine Zy fun h=>?_
  subst h
  exact ⟨_,(.cons (.agg rfl (.there .here) rfl) .nil),rfl⟩
def Z3x (p0:List Int) (p1:List Int):OL :=
 opt (Z49 p1) fun y6 =>
 opt (Z1s p0 y6) fun y7 =>
 some y7
theorem Z40 {W:World} {r:(List Int)} {p0:List Int} {p1:List Int} (h:Z3x p0 p1=some r)  :
    Calls Tryz.prog 126 [agg [.ints .u64 5 (p0)],agg [.ints .u64 5 (p1)]].toArray W (Z51 W (agg [.ints .u64 5 (r)])):=by
 unfold Z3x at h
 refine Zd mo Z0d8 rfl ?_
 refine Z0<|Z2<|Zg (Z16 (s:=[.ints .u64 5 (p0)]) rfl fun b2 hb2=>Zg (Z16 (s:=[.ints .u64 5 (p1)]) rfl fun b3 hb3=>Zg (Zx fun b4 hb4=>Z1<|Z0<|oH h fun y6 ey6 h=>oH h fun y7 ey7 h=>Zv<|Zp _ (Z03 (p:=[.ints .u64 5 (p0)]) rfl (.there (.there .here)) rfl)<|Zp _ (Z03 (p:=[.ints .u64 5 (p1)]) rfl (.there .here) rfl)<|Z8 _ (Z1a rfl (Z50 ey6))<|Z8 _ (Z1a rfl (Z1m ey7))<|Z2j rfl (Zu (q:=[.ints .u64 5 (y7)]) rfl rfl rfl rfl rfl .here<|Z05<|Zk ?_))))
 revert h; refine Zy fun h=>?_
 subst h
 exact ⟨_,(.cons (.agg rfl .here rfl) .nil),rfl⟩
def Z6q (p0:List Int) (p1:List Int) (p2:List Int) (p3:List Int):Option (Z9) :=
 opt (Z09 p0 p1) fun y8 =>
 opt (Z09 p2 p3) fun y9 =>
 opt (Z09 p1 p2) fun y10 =>
 opt (Z09 p0 p3) fun y11 =>
 some (⟨y8,y9,y10,y11⟩:Z9)
theorem Zaa {W:World} {r:Z9} {p0:List Int} {p1:List Int} {p2:List Int} {p3:List Int} (h:Z6q p0 p1 p2 p3=some r)  :
    Calls Tryz.prog 191 [agg [.ints .u64 5 (p0)],agg [.ints .u64 5 (p1)],agg [.ints .u64 5 (p2)],agg [.ints .u64 5 (p3)]].toArray W (Z51 W (agg [.ints .u64 5 (r.gX),.ints .u64 5 (r.gY),.ints .u64 5 (r.gZ),.ints .u64 5 (r.gT)])):=by
 unfold Z6q at h
 refine Zd mo Z0e8 rfl ?_
 refine Z0<|Z2<|Zg (Z16 (s:=[.ints .u64 5 (p0)]) rfl fun b2 hb2=>Zg (Z16 (s:=[.ints .u64 5 (p1)]) rfl fun b3 hb3=>Zg (Z16 (s:=[.ints .u64 5 (p2)]) rfl fun b4 hb4=>Zg (Z16 (s:=[.ints .u64 5 (p3)]) rfl fun b5 hb5=>Zg (Zx fun b6 hb6=>Z1<|Z0<|oH h fun y8 ey8 h=>oH h fun y9 ey9 h=>oH h fun y10 ey10 h=>oH h fun y11 ey11 h=>Zv<|Zp _ (Z03 (p:=[.ints .u64 5 (p0)]) rfl (.there (.there (.there (.there .here)))) rfl)<|Zp _ (Z03 (p:=[.ints .u64 5 (p1)]) rfl (.there (.there (.there .here))) rfl)<|Z8 _ (Z1a rfl (Zw ey8))<|Zp _ (Z03 (p:=[.ints .u64 5 (p2)]) rfl (.there (.there .here)) rfl)<|Zp _ (Z03 (p:=[.ints .u64 5 (p3)]) rfl (.there .here) rfl)<|Z8 _ (Z1a rfl (Zw ey9))<|Zp _ (Z03 (p:=[.ints .u64 5 (p1)]) rfl (.there (.there (.there .here))) rfl)<|Zp _ (Z03 (p:=[.ints .u64 5 (p2)]) rfl (.there (.there .here)) rfl)<|Z8 _ (Z1a rfl (Zw ey10))<|Zp _ (Z03 (p:=[.ints .u64 5 (p0)]) rfl (.there (.there (.there (.there .here)))) rfl)<|Zp _ (Z03 (p:=[.ints .u64 5 (p3)]) rfl (.there .here) rfl)<|Z8 _ (Z1a rfl (Zw ey11))<|Z8 _ (Zdv (q:=[.ints .u64 5 (y8),.ints .u64 5 (y9),.ints .u64 5 (y10),.ints .u64 5 (y11)]) (.agg rfl rfl rfl (.agg rfl rfl rfl (.agg rfl rfl rfl (.agg rfl rfl rfl BdR.nil)))))<|Z2j rfl (Zu (q:=[.ints .u64 5 (y8),.ints .u64 5 (y9),.ints .u64 5 (y10),.ints .u64 5 (y11)]) rfl rfl rfl rfl rfl .here<|Z05<|Zk ?_))))))
 revert h; refine Zy fun h=>?_
 subst h
 exact ⟨_,(.cons (.agg rfl .here rfl) .nil),rfl⟩
def Z75:OL :=
 bnd (([1859910466990425,932731440258426,1072319116312658,1815898335770999,633789495995903]:List Int)) fun z4 =>
 some z4
theorem Zda {W:World} {r:(List Int)} (h:Z75=some r)  :
    Calls Tryz.prog 192 [].toArray W (Z51 W (agg [.ints .u64 5 (r)])):=by
 unfold Z75 at h
 refine Zd mo Z0e9 rfl ?_
 refine Z0<|Z2<|Zg (Zx fun b2 hb2=>Z1<|Z0<|bH h fun z4 ez4 h=>Z2<|Z6 _ (az (fun z=>agg [.ints .u64 5 z]) ez4 (Zdv (.one rfl rfl rfl (.one rfl rfl rfl (.one rfl rfl rfl (.one rfl rfl rfl (.one rfl rfl rfl BdR.nil)))))))<|Zg (Zu (q:=[.ints .u64 5 (z4)]) rfl rfl rfl rfl rfl .here<|Z1<|Zk ?_))
 revert h; refine Zy fun h=>?_
 subst h
 exact ⟨_,(.cons (.agg rfl .here rfl) .nil),rfl⟩
def Z73 (p0:Z9) (p1:Z9):Option (Z9) :=
 opt (Z3x p0.gY p0.gX) fun y6 =>
 opt (Z3x p1.gY p1.gX) fun y7 =>
 opt (Z09 y6 y7) fun y8 =>
 opt (Z1s p0.gY p0.gX) fun y11 =>
 opt (Z1s p1.gY p1.gX) fun y12 =>
 opt (Z09 y11 y12) fun y13 =>
 opt (Z75) fun y16 =>
 opt (Z09 p0.gT y16) fun y19 =>
 opt (Z09 y19 p1.gT) fun y20 =>
 opt (Z1s p0.gZ p0.gZ) fun y23 =>
 opt (Z09 y23 p1.gZ) fun y24 =>
 opt (Z3x y13 y8) fun y27 =>
 opt (Z3x y24 y20) fun y28 =>
 opt (Z1s y24 y20) fun y29 =>
 opt (Z1s y13 y8) fun y30 =>
 opt (Z6q y27 y28 y29 y30) fun y31 =>
 some y31
theorem Z86 {W:World} {r:Z9} {p0:Z9} {p1:Z9} (h:Z73 p0 p1=some r)  :
    Calls Tryz.prog 136 [agg [.ints .u64 5 (p0.gX),.ints .u64 5 (p0.gY),.ints .u64 5 (p0.gZ),.ints .u64 5 (p0.gT)],agg [.ints .u64 5 (p1.gX),.ints .u64 5 (p1.gY),.ints .u64 5 (p1.gZ),.ints .u64 5 (p1.gT)]].toArray W (Z51 W (agg [.ints .u64 5 (r.gX),.ints .u64 5 (r.gY),.ints .u64 5 (r.gZ),.ints .u64 5 (r.gT)])):=by
 unfold Z73 at h
 refine Zd mo Z0di rfl ?_
 refine Z0<|Z2<|Zg (Z16 (s:=[.ints .u64 5 (p0.gX),.ints .u64 5 (p0.gY),.ints .u64 5 (p0.gZ),.ints .u64 5 (p0.gT)]) rfl fun b2 hb2=>Zg (Z16 (s:=[.ints .u64 5 (p1.gX),.ints .u64 5 (p1.gY),.ints .u64 5 (p1.gZ),.ints .u64 5 (p1.gT)]) rfl fun b3 hb3=>Zg (Zx fun b4 hb4=>Z1<|Z0<|oH h fun y6 ey6 h=>oH h fun y7 ey7 h=>oH h fun y8 ey8 h=>Zv<|Z8 _ (Z64 rfl)<|Z8 _ (Z64 rfl)<|Z8 _ (Z64 rfl)<|Z8 _ (Z64 rfl)<|Zp _ (Z03 (p:=[.ints .u64 5 (p0.gY)]) rfl (.there (.there .here)) rfl)<|Zp _ (Z03 (p:=[.ints .u64 5 (p0.gX)]) rfl (.there (.there .here)) rfl)<|Z8 _ (Z1a rfl (Z40 ey6))<|Zp _ (Z03 (p:=[.ints .u64 5 (p1.gY)]) rfl (.there .here) rfl)<|Zp _ (Z03 (p:=[.ints .u64 5 (p1.gX)]) rfl (.there .here) rfl)<|Z8 _ (Z1a rfl (Z40 ey7))<|Z8 _ (Z1a rfl (Zw ey8))<|Z7j (Zx fun b9 hb9=>⟨(by repeat (first | exact Sup.refl _ | apply Sup.cons | apply Sup.app)),Z2j rfl (Zu (q:=[.ints .u64 5 (y8)]) rfl rfl rfl rfl rfl .here (Z05 (Z0 (oH h fun y11 ey11 h=>oH h fun y12 ey12 h=>oH h fun y13 ey13 h=>Zv (Z8 _ (Z64 rfl) (Z8 _ (Z64 rfl) (Z8 _ (Z64 rfl) (Z8 _ (Z64 rfl) (Zp _ (Z03 (p:=[.ints .u64 5 (p0.gY)]) rfl (.there (.there (.there .here))) rfl) (Zp _ (Z03 (p:=[.ints .u64 5 (p0.gX)]) rfl (.there (.there (.there .here))) rfl) (Z8 _ (Z1a rfl (Z1m ey11)) (Zp _ (Z03 (p:=[.ints .u64 5 (p1.gY)]) rfl (.there (.there .here)) rfl) (Zp _ (Z03 (p:=[.ints .u64 5 (p1.gX)]) rfl (.there (.there .here)) rfl) (Z8 _ (Z1a rfl (Z1m ey12)) (Z8 _ (Z1a rfl (Zw ey13)) (Z7j (Zx fun b14 hb14=>⟨(by repeat (first | exact Sup.refl _ | apply Sup.cons | apply Sup.app)),Z2j rfl (Zu (q:=[.ints .u64 5 (y13)]) rfl rfl rfl rfl rfl .here (Z05 (Z0 (oH h fun y16 ey16 h=>Z2 (Z6 _ (Z1a rfl (Zda ey16)) (Zg (Zx fun b17 hb17=>Zg (Zu (q:=[.ints .u64 5 (y16)]) rfl rfl rfl rfl rfl .here (Z1 (Z0 (oH h fun y19 ey19 h=>oH h fun y20 ey20 h=>Zv (Z8 _ (Z64 rfl) (Z8 _ (Z64 rfl) (Zp _ (Z03 (p:=[.ints .u64 5 (p0.gT)]) rfl (.there (.there (.there (.there (.there .here))))) rfl) (Zp _ (Z03 (p:=[.ints .u64 5 (y16)]) rfl .here rfl) (Z8 _ (Z1a rfl (Zw ey19)) (Zp _ (Z03 (p:=[.ints .u64 5 (p1.gT)]) rfl (.there (.there (.there (.there .here)))) rfl) (Z8 _ (Z1a rfl (Zw ey20)) (Z7j (Zx fun b21 hb21=>⟨(by repeat (first | exact Sup.refl _ | apply Sup.cons | apply Sup.app)),Z2j rfl (Zu (q:=[.ints .u64 5 (y20)]) rfl rfl rfl rfl rfl .here (Z05 (Z0 (oH h fun y23 ey23 h=>oH h fun y24 ey24 h=>Zv (Z8 _ (Z64 rfl) (Z8 _ (Z64 rfl) (Z8 _ (Z64 rfl) (Zp _ (Z03 (p:=[.ints .u64 5 (p0.gZ)]) rfl (.there (.there (.there (.there (.there (.there .here)))))) rfl) (Zp _ (Z03 (p:=[.ints .u64 5 (p0.gZ)]) rfl (.there (.there (.there (.there (.there (.there .here)))))) rfl) (Z8 _ (Z1a rfl (Z1m ey23)) (Zp _ (Z03 (p:=[.ints .u64 5 (p1.gZ)]) rfl (.there (.there (.there (.there (.there .here))))) rfl) (Z8 _ (Z1a rfl (Zw ey24)) (Z7j (Zx fun b25 hb25=>⟨(by repeat (first | exact Sup.refl _ | apply Sup.cons | apply Sup.app)),Z2j rfl (Zu (q:=[.ints .u64 5 (y24)]) rfl rfl rfl rfl rfl .here (Z05 (Z0 (oH h fun y27 ey27 h=>oH h fun y28 ey28 h=>oH h fun y29 ey29 h=>oH h fun y30 ey30 h=>oH h fun y31 ey31 h=>Zv (Zp _ (Z03 (p:=[.ints .u64 5 (y13)]) rfl (.there (.there (.there .here))) rfl) (Zp _ (Z03 (p:=[.ints .u64 5 (y8)]) rfl (.there (.there (.there (.there .here)))) rfl) (Z8 _ (Z1a rfl (Z40 ey27)) (Zp _ (Z03 (p:=[.ints .u64 5 (y24)]) rfl .here rfl) (Zp _ (Z03 (p:=[.ints .u64 5 (y20)]) rfl (.there .here) rfl) (Z8 _ (Z1a rfl (Z40 ey28)) (Zp _ (Z03 (p:=[.ints .u64 5 (y24)]) rfl .here rfl) (Zp _ (Z03 (p:=[.ints .u64 5 (y20)]) rfl (.there .here) rfl) (Z8 _ (Z1a rfl (Z1m ey29)) (Zp _ (Z03 (p:=[.ints .u64 5 (y13)]) rfl (.there (.there (.there .here))) rfl) (Zp _ (Z03 (p:=[.ints .u64 5 (y8)]) rfl (.there (.there (.there (.there .here)))) rfl) (Z8 _ (Z1a rfl (Z1m ey30)) (Z8 _ (Z1a rfl (Zaa ey31)) (Z2j rfl (Zu (q:=[.ints .u64 5 (y31.gX),.ints .u64 5 (y31.gY),.ints .u64 5 (y31.gZ),.ints .u64 5 (y31.gT)]) rfl rfl rfl rfl rfl (.there (.there (.there (.there (.there .here))))) (Z05 (Zk ?_)))))))))))))))))))))⟩))))))))))))))⟩))))))))))))))))))))⟩)))))))))))))))))⟩))))
 revert h; refine Zy fun h=>?_
 subst h
 exact ⟨_,(.cons (.agg rfl (.there (.there (.there (.there (.there .here))))) rfl) .nil),rfl⟩
abbrev Ze:El (Z9):=⟨20,fun x=>cells [.ints .u64 5 (x.gX),.ints .u64 5 (x.gY),.ints .u64 5 (x.gZ),.ints .u64 5 (x.gT)],fun x=>by rw [cells_length]; rfl,fun x=>(Z3h Z8j (Z3h Z8j (Z3h Z8j (Z3h Z8j Z88)))),by decide,Z0j⟩
def Z2w (p0:Z9) (k48:(List (Z9))→Option ((List (Z9)))) (k72:(Int)→(List (Z9))→Option ((List (Z9)))) (i70:Int) (a71:List (Z9)):Option ((List (Z9))) :=
 br ((decide (i70<15))) (
 bnd (IntKind.wrap .i64 (i70+1)) fun z78 =>
 chk (inB i70 16) <|
 bnd (a71.getD (i70).toNat Z0j) fun x80 =>
 opt (Z73 x80 p0) fun y81 =>
 chk (inB z78 16) <|
 bnd (Zew Z0j a71 (z78).toNat y81) fun l83 =>
 bnd (IntKind.wrap .i64 (i70+1)) fun z85 =>
 k72 z85 l83
 ) (
 k48 a71
 )
def Z1k (p0:Z9) (k48:(List (Z9))→Option ((List (Z9)))):Nat→(Int)→(List (Z9))→Option ((List (Z9)))
  | 0,_,_=>none
  | n+1,i70,a71=>Z2w p0 k48 (Z1k p0 k48 n) i70 a71
def Z3f (p0:Z9):Option ((List (Z9))) :=
 opt (Z7r) fun y7 =>
 bnd (Zew Z0j (List.replicate 16 Z0j) 0 y7) fun l8 =>
 jn (fun (a47:List (Z9))=>some a47) fun k48=>Z1k p0 k48 big 0 l8
theorem Z67 {W:World} {r:(List (Z9))} {p0:Z9} (h:Z3f p0=some r)  :
    Calls Tryz.prog 133 [agg [.ints .u64 5 (p0.gX),.ints .u64 5 (p0.gY),.ints .u64 5 (p0.gZ),.ints .u64 5 (p0.gT)]].toArray W (Z51 W (agg [.rows 20 16 (Z8p Ze (r))])):=by
 unfold Z3f at h
 refine Zd mo Z0df rfl ?_
 refine Z0<|Z2<|Zg (Z16 (s:=[.ints .u64 5 (p0.gX),.ints .u64 5 (p0.gY),.ints .u64 5 (p0.gZ),.ints .u64 5 (p0.gT)]) rfl fun b2 hb2=>Zg (Zef (z':=[.rows 20 16 (Z8p Ze ((List.replicate 16 Z0j)))]) (Z9l (E:=Ze) rfl rfl) fun b3 hb3=>Z1<|Z0<|Z2<|Zg (Zef (z':=[.rows 20 16 (Z8p Ze ((List.replicate 16 Z0j)))]) (Z9l (E:=Ze) rfl rfl) fun b5 hb5=>Z1<|Z0<|oH h fun y7 ey7 h=>bH h fun l8 el8 h=>Z2<|Z6 _ (Z0n (vs:=[]) (v:=agg [.ints .u64 5 (y7.gX),.ints .u64 5 (y7.gY),.ints .u64 5 (y7.gZ),.ints .u64 5 (y7.gT)]) rfl (fun w hw=>Z95 (r:=y7) ey7 ))<|Z6 _ (Z3d rfl rfl (by decide))<|Zg (Zjr (q:=[.rows 20 16 (Z8p Ze (l8))]) (E:=Ze) (base:=0) (i:=0) (len:=16) el8 rfl rfl rfl rfl (by decide) rfl .here<|Z1<|Z0<|Z0<|Z2<|Z7 rfl<|Z1<|jH h fun k48 qk48 h=>Zo (G:=fun t m=>∃ (a47:List (Z9)),k48 a47=some r∧Fit [(2,.pointer (some ⟨b3,0,none⟩)),(3,.pointer (some ⟨b5,0,none⟩))] (ck b5 166 [.rows 20 16 (Z8p Ze (a47))]::(ck b3 166 [.rows 20 16 (Z8p Ze ((List.replicate 16 Z0j)))]::(ck b2 82 [.ints .u64 5 (p0.gX),.ints .u64 5 (p0.gY),.ints .u64 5 (p0.gZ),.ints .u64 5 (p0.gT)] :: []))) t m) ?_ ?_))))
 ·refine Zb<|Z01 (fun n73 t m=>∃ (i70:Int) (a71:List (Z9)),Z1k p0 k48 n73 i70 a71=some r∧Fit [(1,.pointer (some ⟨b2,0,none⟩)),(2,.pointer (some ⟨b3,0,none⟩)),(3,.pointer (some ⟨b5,0,none⟩)),(7,.int .i64 (i70))] (ck b5 166 [.rows 20 16 (Z8p Ze (a71))]::(ck b3 166 [.rows 20 16 (Z8p Ze ((List.replicate 16 Z0j)))]::(ck b2 82 [.ints .u64 5 (p0.gX),.ints .u64 5 (p0.gY),.ints .u64 5 (p0.gZ),.ints .u64 5 (p0.gT)] :: []))) t m) big ?_ ?_
  ·exact ⟨0,l8,h,⟨⟨rfl,rfl,rfl,rfl,trivial⟩,(.one .here (.one .here (.one .here .nil)))⟩⟩
  ·rintro n73 t m ⟨i70,a71,h,hF⟩
   refine Zn hF ?_
   clear hF
   rcases n73 with _ | n73
   · exact Z1d h
   have h:Z2w p0 k48 (Z1k p0 k48 n73) i70 a71=some r:=h
   unfold Z2w at h
   obtain ⟨k72,qk72⟩ : ∃ k,k=Z1k p0 k48 n73:=⟨_,rfl⟩
   try rw [← qk72] at h
   refine Z0<|Z2<|Z6 _ (Za rfl rfl rfl)<|Z1<|Z0<|Z0s h rfl (fun h=>?_) (fun h=>?_)
   ·refine Zm<|Z0<|Zb<|Z0<|Z2<|Z7 rfl<|Z7 rfl<|Z1<|bH h fun z78 ez78 h=>cH h fun c79 h=>bH h fun x80 ex80 h=>oH h fun y81 ey81 h=>cH h fun c82 h=>bH h fun l83 el83 h=>Zv<|Z8 _ (Z15 rfl)<|Z8 _ (iz ez78 (Za rfl rfl rfl))<|Z8 _ (Z15 rfl)<|Z8 _ (Z3d rfl rfl (Z1t c79))<|Zp _ (az (fun x80=>agg [.ints .u64 5 (x80.gX),.ints .u64 5 (x80.gY),.ints .u64 5 (x80.gZ),.ints .u64 5 (x80.gT)]) ex80 (Ziu (base:=0) (w:=20) rfl .here rfl (Z0w c79) rfl rfl rfl))<|Zp _ (Z03 (p:=[.ints .u64 5 (p0.gX),.ints .u64 5 (p0.gY),.ints .u64 5 (p0.gZ),.ints .u64 5 (p0.gT)]) rfl (.there (.there .here)) rfl)<|Z8 _ (Z0n (vs:=[agg [.ints .u64 5 (x80.gX),.ints .u64 5 (x80.gY),.ints .u64 5 (x80.gZ),.ints .u64 5 (x80.gT)],agg [.ints .u64 5 (p0.gX),.ints .u64 5 (p0.gY),.ints .u64 5 (p0.gZ),.ints .u64 5 (p0.gT)]]) (v:=agg [.ints .u64 5 (y81.gX),.ints .u64 5 (y81.gY),.ints .u64 5 (y81.gZ),.ints .u64 5 (y81.gT)]) rfl (fun w hw=>Z86 (r:=y81) (p0:=x80) (p1:=p0) ey81 ))<|Z8 _ (Z3d rfl rfl (Z1t c82))<|Z2j rfl (Zjr (q:=[.rows 20 16 (Z8p Ze (l83))]) (E:=Ze) (base:=0) el83 rfl rfl rfl rfl (Z0w c82) rfl .here<|Z05<|bH h fun z85 ez85 h=>Z2<|Z6 _ (iz ez85 (Za rfl rfl rfl))<|Z7 rfl<|Z1 ?_)
    rw [qk72] at h
    exact ⟨n73,Nat.lt_succ_self _,z85,l83,h,⟨⟨rfl,rfl,rfl,rfl,trivial⟩,(.one .here (.one .here (.one .here .nil)))⟩⟩
   ·exact Z0e _ rfl<|⟨a71,h,⟨⟨rfl,rfl,trivial⟩,(.one .here (.one .here (.one .here .nil)))⟩⟩
 ·rintro t m ⟨a47,h,hF⟩
  refine Zn hF ?_
  clear hF
  subst qk48
  refine Z0<|Z2<|Z6 _ (Z03 (p:=[.rows 20 16 (Z8p Ze (a47))]) rfl .here rfl)<|Zg (Zgt (q:=[.rows 20 16 (Z8p Ze (a47))]) rfl rfl rfl rfl (Z3h (Zad (E:=Ze)) Z88) (.there .here)<|Z1<|Zk ?_)
  revert h; refine Zy fun h=>?_
  subst h
  exact ⟨_,(.cons (.agg rfl (.there .here) rfl) .nil),rfl⟩
def Z5e (p0:Z9):Option (Z9) :=
 opt (Z0x p0.gX) fun y5 =>
 opt (Z0x p0.gY) fun y8 =>
 opt (Z0x p0.gZ) fun y11 =>
 opt (Z1s y5 y8) fun y14 =>
 opt (Z1s p0.gX p0.gY) fun y17 =>
 opt (Z0x y17) fun y18 =>
 opt (Z3x y14 y18) fun y19 =>
 opt (Z3x y5 y8) fun y22 =>
 opt (Z1s y11 y11) fun y25 =>
 opt (Z1s y25 y22) fun y26 =>
 opt (Z6q y19 y26 y22 y14) fun y29 =>
 some y29
theorem Za8 {W:World} {r:Z9} {p0:Z9} (h:Z5e p0=some r)  :
    Calls Tryz.prog 135 [agg [.ints .u64 5 (p0.gX),.ints .u64 5 (p0.gY),.ints .u64 5 (p0.gZ),.ints .u64 5 (p0.gT)]].toArray W (Z51 W (agg [.ints .u64 5 (r.gX),.ints .u64 5 (r.gY),.ints .u64 5 (r.gZ),.ints .u64 5 (r.gT)])):=by
 unfold Z5e at h
 refine Zd mo Z0dh rfl ?_
 refine Z0<|Z2<|Zg (Z16 (s:=[.ints .u64 5 (p0.gX),.ints .u64 5 (p0.gY),.ints .u64 5 (p0.gZ),.ints .u64 5 (p0.gT)]) rfl fun b2 hb2=>Zg (Zx fun b3 hb3=>Z1<|Z0<|oH h fun y5 ey5 h=>Z2<|Z6 _ (Z64 rfl)<|Z6 _ (Z03 (p:=[.ints .u64 5 (p0.gX)]) rfl (.there .here) rfl)<|Z6 _ (Z1a rfl (Z1i ey5))<|Zg (Zx fun b6 hb6=>Zg (Zu (q:=[.ints .u64 5 (y5)]) rfl rfl rfl rfl rfl .here<|Z1<|Z0<|oH h fun y8 ey8 h=>Z2<|Z6 _ (Z64 rfl)<|Z6 _ (Z03 (p:=[.ints .u64 5 (p0.gY)]) rfl (.there (.there .here)) rfl)<|Z6 _ (Z1a rfl (Z1i ey8))<|Zg (Zx fun b9 hb9=>Zg (Zu (q:=[.ints .u64 5 (y8)]) rfl rfl rfl rfl rfl .here<|Z1<|Z0<|oH h fun y11 ey11 h=>Z2<|Z6 _ (Z64 rfl)<|Z6 _ (Z03 (p:=[.ints .u64 5 (p0.gZ)]) rfl (.there (.there (.there .here))) rfl)<|Z6 _ (Z1a rfl (Z1i ey11))<|Zg (Zx fun b12 hb12=>Zg (Zu (q:=[.ints .u64 5 (y11)]) rfl rfl rfl rfl rfl .here<|Z1<|Z0<|oH h fun y14 ey14 h=>Z2<|Z6 _ (Z03 (p:=[.ints .u64 5 (y5)]) rfl (.there (.there .here)) rfl)<|Z6 _ (Z03 (p:=[.ints .u64 5 (y8)]) rfl (.there .here) rfl)<|Z6 _ (Z1a rfl (Z1m ey14))<|Zg (Zx fun b15 hb15=>Zg (Zu (q:=[.ints .u64 5 (y14)]) rfl rfl rfl rfl rfl .here<|Z1<|Z0<|oH h fun y17 ey17 h=>oH h fun y18 ey18 h=>oH h fun y19 ey19 h=>Zv<|Z8 _ (Z64 rfl)<|Z8 _ (Z64 rfl)<|Zp _ (Z03 (p:=[.ints .u64 5 (y14)]) rfl .here rfl)<|Zp _ (Z03 (p:=[.ints .u64 5 (p0.gX)]) rfl (.there (.there (.there (.there (.there .here))))) rfl)<|Zp _ (Z03 (p:=[.ints .u64 5 (p0.gY)]) rfl (.there (.there (.there (.there (.there .here))))) rfl)<|Z8 _ (Z1a rfl (Z1m ey17))<|Z8 _ (Z1a rfl (Z1i ey18))<|Z8 _ (Z1a rfl (Z40 ey19))<|Z7j (Zx fun b20 hb20=>⟨(by repeat (first | exact Sup.refl _ | apply Sup.cons | apply Sup.app)),Z2j rfl (Zu (q:=[.ints .u64 5 (y19)]) rfl rfl rfl rfl rfl .here (Z05 (Z0 (oH h fun y22 ey22 h=>Z2 (Z6 _ (Z03 (p:=[.ints .u64 5 (y5)]) rfl (.there (.there (.there (.there .here)))) rfl) (Z6 _ (Z03 (p:=[.ints .u64 5 (y8)]) rfl (.there (.there (.there .here))) rfl) (Z6 _ (Z1a rfl (Z40 ey22)) (Zg (Zx fun b23 hb23=>Zg (Zu (q:=[.ints .u64 5 (y22)]) rfl rfl rfl rfl rfl .here (Z1 (Z0 (oH h fun y25 ey25 h=>oH h fun y26 ey26 h=>Zv (Zp _ (Z03 (p:=[.ints .u64 5 (y11)]) rfl (.there (.there (.there .here))) rfl) (Zp _ (Z03 (p:=[.ints .u64 5 (y11)]) rfl (.there (.there (.there .here))) rfl) (Z8 _ (Z1a rfl (Z1m ey25)) (Zp _ (Z03 (p:=[.ints .u64 5 (y22)]) rfl .here rfl) (Z8 _ (Z1a rfl (Z1m ey26)) (Z7j (Zx fun b27 hb27=>⟨(by repeat (first | exact Sup.refl _ | apply Sup.cons | apply Sup.app)),Z2j rfl (Zu (q:=[.ints .u64 5 (y26)]) rfl rfl rfl rfl rfl .here (Z05 (Z0 (oH h fun y29 ey29 h=>Z2 (Z6 _ (Z03 (p:=[.ints .u64 5 (y19)]) rfl (.there (.there .here)) rfl) (Z6 _ (Z03 (p:=[.ints .u64 5 (y26)]) rfl .here rfl) (Z6 _ (Z03 (p:=[.ints .u64 5 (y22)]) rfl (.there .here) rfl) (Z6 _ (Z03 (p:=[.ints .u64 5 (y14)]) rfl (.there (.there (.there .here))) rfl) (Z6 _ (Z1a rfl (Zaa ey29)) (Zg (Zu (q:=[.ints .u64 5 (y29.gX),.ints .u64 5 (y29.gY),.ints .u64 5 (y29.gZ),.ints .u64 5 (y29.gT)]) rfl rfl rfl rfl rfl (.there (.there (.there (.there (.there (.there (.there .here))))))) (Z1 (Zk ?_)))))))))))))⟩))))))))))))))))))))⟩)))))))))))
 revert h; refine Zy fun h=>?_
 subst h
 exact ⟨_,(.cons (.agg rfl (.there (.there (.there (.there (.there (.there (.there .here))))))) rfl) .nil),rfl⟩
def Z5f (p0:List Int) (p1:Int):Option (Int) :=
 bnd (IntKind.wrap .i64 (Int.tdiv p1 2)) fun z4 =>
 bnd (IntKind.wrap .i64 (31-z4)) fun z5 =>
 chk (inB z5 32) <|
 bnd (p0.getD (z5).toNat 0) fun z7 =>
 bnd (Int.tmod p1 2) fun z8 =>
 bnd (IntKind.wrap .i64 (1-z8)) fun z9 =>
 bnd (IntKind.wrap .i64 (4*z9)) fun z10 =>
 chk (decide (0≤z10)) <|
 bnd (Zi .u8 z7 z10) fun z12 =>
 bnd (Z4 .and .u8 z12 15) fun z13 =>
 some z13
theorem Z7s {W:World} {r:Int} {p0:List Int} {p1:Int} (h:Z5f p0 p1=some r)  :
    Calls Tryz.prog 137 [agg [.ints .u8 32 (p0)],.int .i64 (p1)].toArray W (Z51 W (.int .u8 (r))):=by
 unfold Z5f at h
 refine Zd mo Z0dj rfl ?_
 refine Z0<|Z2<|Zg (Z16 (s:=[.ints .u8 32 (p0)]) rfl fun b2 hb2=>Z7 rfl<|Z1<|Z0<|bH h fun z4 ez4 h=>bH h fun z5 ez5 h=>cH h fun c6 h=>bH h fun z7 ez7 h=>bH h fun z8 ez8 h=>bH h fun z9 ez9 h=>bH h fun z10 ez10 h=>cH h fun c11 h=>bH h fun z12 ez12 h=>bH h fun z13 ez13 h=>Z2<|Z7 rfl<|Z6 _ (iz ez4 (Ziv rfl rfl (by decide)))<|Z6 _ (iz ez5 (Za rfl rfl rfl))<|Z6 _ (Z3d rfl rfl (Z1t c6))<|Z6 _ (iz ez7 (Z8r (base:=0) rfl .here rfl (Z0w c6)))<|Z7 rfl<|Z6 _ (iz ez8 (Ziw rfl rfl (by decide)))<|Z6 _ (iz ez9 (Za rfl rfl rfl))<|Z6 _ (iz ez10 (Za rfl rfl rfl))<|Z6 _ (iz ez12 (Z7a rfl rfl (of_decide_eq_true c11)))<|Z6 _ (iz ez13 (Za rfl rfl rfl))<|Z7 rfl<|Z1<|Zk ?_)
 revert h; refine Zy fun h=>?_
 subst h
 exact ⟨_,(.cons (.tmp rfl) .nil),rfl⟩
def Z8d (k433:(List Int)→(List Int)→(List Int)→(List Int)→Option (Z9)) (k454:(Int)→(List Int)→(List Int)→(List Int)→(List Int)→Option (Z9)) (i449:Int) (a450:List Int) (a451:List Int) (a452:List Int) (a453:List Int):Option (Z9) :=
 br ((decide (i449<4))) (
 opt (Z5e (⟨a450,a451,a452,a453⟩:Z9)) fun y459 =>
 bnd (IntKind.wrap .i64 (i449+1)) fun z461 =>
 k454 z461 y459.gX y459.gY y459.gZ y459.gT
 ) (
 k433 a450 a451 a452 a453
 )
def Z38 (k433:(List Int)→(List Int)→(List Int)→(List Int)→Option (Z9)):Nat→(Int)→(List Int)→(List Int)→(List Int)→(List Int)→Option (Z9)
  | 0,_,_,_,_,_=>none
  | n+1,i449,a450,a451,a452,a453=>Z8d k433 (Z38 k433 n) i449 a450 a451 a452 a453
def Z8c (p0:List Int) (y6:(List (Z9))) (k242:(List Int)→(List Int)→(List Int)→(List Int)→Option (Z9)) (k395:(Int)→(List Int)→(List Int)→(List Int)→(List Int)→Option (Z9)) (i390:Int) (a391:List Int) (a392:List Int) (a393:List Int) (a394:List Int):Option (Z9) :=
 br ((decide (i390<64))) (
 jn (fun (a429:List Int) (a430:List Int) (a431:List Int) (a432:List Int)=>opt (Z5f p0 i390) fun y463 =>
 chk (inB y463 16) <|
 bnd (y6.getD (y463).toNat Z0j) fun x465 =>
 opt (Z73 (⟨a429,a430,a431,a432⟩:Z9) x465) fun y466 =>
 bnd (IntKind.wrap .i64 (i390+1)) fun z468 =>
 k395 z468 y466.gX y466.gY y466.gZ y466.gT) fun k433=>Z38 k433 big 0 a391 a392 a393 a394
 ) (
 k242 a391 a392 a393 a394
 )
def Z4j (p0:List Int) (y6:(List (Z9))) (k242:(List Int)→(List Int)→(List Int)→(List Int)→Option (Z9)):Nat→(Int)→(List Int)→(List Int)→(List Int)→(List Int)→Option (Z9)
  | 0,_,_,_,_,_=>none
  | n+1,i390,a391,a392,a393,a394=>Z8c p0 y6 k242 (Z4j p0 y6 k242 n) i390 a391 a392 a393 a394
def Zbd (p0:List Int) (p1:Z9):Option (Z9) :=
 opt (Z3f p1) fun y6 =>
 opt (Z7r) fun y9 =>
 jn (fun (a238:List Int) (a239:List Int) (a240:List Int) (a241:List Int)=>some (⟨a238,a239,a240,a241⟩:Z9)) fun k242=>Z4j p0 y6 k242 big 0 y9.gX y9.gY y9.gZ y9.gT
theorem Zgd {W:World} {r:Z9} {p0:List Int} {p1:Z9} (h:Zbd p0 p1=some r)  :
    Calls Tryz.prog 94 [agg [.ints .u8 32 (p0)],agg [.ints .u64 5 (p1.gX),.ints .u64 5 (p1.gY),.ints .u64 5 (p1.gZ),.ints .u64 5 (p1.gT)]].toArray W (Z51 W (agg [.ints .u64 5 (r.gX),.ints .u64 5 (r.gY),.ints .u64 5 (r.gZ),.ints .u64 5 (r.gT)])):=by
 unfold Zbd at h
 refine Zd mo ok94 rfl ?_
 refine Z0<|Z2<|Zg (Z16 (s:=[.ints .u8 32 (p0)]) rfl fun b2 hb2=>Zg (Z16 (s:=[.ints .u64 5 (p1.gX),.ints .u64 5 (p1.gY),.ints .u64 5 (p1.gZ),.ints .u64 5 (p1.gT)]) rfl fun b3 hb3=>Zg (Zx fun b4 hb4=>Z1<|Z0<|oH h fun y6 ey6 h=>Z2<|Z6 _ (Z03 (p:=[.ints .u64 5 (p1.gX),.ints .u64 5 (p1.gY),.ints .u64 5 (p1.gZ),.ints .u64 5 (p1.gT)]) rfl (.there .here) rfl)<|Z6 _ (Z1a rfl (Z67 ey6))<|Zg (Zef (z':=[.rows 20 16 (Z8p Ze ((List.replicate 16 Z0j)))]) (Z9l (E:=Ze) rfl rfl) fun b7 hb7=>Zg (Zgt (q:=[.rows 20 16 (Z8p Ze (y6))]) rfl rfl rfl rfl (Z3h (Zad (E:=Ze)) Z88) .here<|Z1<|Z0<|oH h fun y9 ey9 h=>Z2<|Z6 _ (Z0n (vs:=[]) (v:=agg [.ints .u64 5 (y9.gX),.ints .u64 5 (y9.gY),.ints .u64 5 (y9.gZ),.ints .u64 5 (y9.gT)]) rfl (fun w hw=>Z95 (r:=y9) ey9 ))<|Zg (Zx fun b10 hb10=>Zg (Zu (q:=[.ints .u64 5 (y9.gX),.ints .u64 5 (y9.gY),.ints .u64 5 (y9.gZ),.ints .u64 5 (y9.gT)]) rfl rfl rfl rfl rfl .here<|Z1<|Z0<|Z0<|Z2<|Z7 rfl<|Z1<|jH h fun k242 qk242 h=>Zo (G:=fun t m=>∃ (a238:List Int) (a239:List Int) (a240:List Int) (a241:List Int),k242 a238 a239 a240 a241=some r∧Fit [(4,.pointer (some ⟨b4,0,none⟩)),(6,.pointer (some ⟨b10,0,none⟩))] (ck b10 82 [.ints .u64 5 (a238),.ints .u64 5 (a239),.ints .u64 5 (a240),.ints .u64 5 (a241)]::(ck b7 166 [.rows 20 16 (Z8p Ze (y6))]::(ck b4 82 [.ints .u64 5 ((List.replicate 5 0)),.ints .u64 5 ((List.replicate 5 0)),.ints .u64 5 ((List.replicate 5 0)),.ints .u64 5 ((List.replicate 5 0))]::(ck b3 82 [.ints .u64 5 (p1.gX),.ints .u64 5 (p1.gY),.ints .u64 5 (p1.gZ),.ints .u64 5 (p1.gT)]::(ck b2 74 [.ints .u8 32 (p0)] :: []))))) t m) ?_ ?_)))))))
 ·refine Zb<|Z01 (fun n396 t m=>∃ (i390:Int) (a391:List Int) (a392:List Int) (a393:List Int) (a394:List Int),Z4j p0 y6 k242 n396 i390 a391 a392 a393 a394=some r∧Fit [(2,.pointer (some ⟨b2,0,none⟩)),(4,.pointer (some ⟨b4,0,none⟩)),(5,.pointer (some ⟨b7,0,none⟩)),(6,.pointer (some ⟨b10,0,none⟩)),(11,.int .i64 (i390))] (ck b10 82 [.ints .u64 5 (a391),.ints .u64 5 (a392),.ints .u64 5 (a393),.ints .u64 5 (a394)]::(ck b7 166 [.rows 20 16 (Z8p Ze (y6))]::(ck b4 82 [.ints .u64 5 ((List.replicate 5 0)),.ints .u64 5 ((List.replicate 5 0)),.ints .u64 5 ((List.replicate 5 0)),.ints .u64 5 ((List.replicate 5 0))]::(ck b3 82 [.ints .u64 5 (p1.gX),.ints .u64 5 (p1.gY),.ints .u64 5 (p1.gZ),.ints .u64 5 (p1.gT)]::(ck b2 74 [.ints .u8 32 (p0)] :: []))))) t m) big ?_ ?_
  ·exact ⟨0,y9.gX,y9.gY,y9.gZ,y9.gT,h,⟨⟨rfl,rfl,rfl,rfl,rfl,trivial⟩,(.one .here (.one .here (.one .here (.one .here (.one .here .nil)))))⟩⟩
  ·rintro n396 t m ⟨i390,a391,a392,a393,a394,h,hF⟩
   refine Zn hF ?_
   clear hF
   rcases n396 with _ | n396
   · exact Z1d h
   have h:Z8c p0 y6 k242 (Z4j p0 y6 k242 n396) i390 a391 a392 a393 a394=some r:=h
   unfold Z8c at h
   obtain ⟨k395,qk395⟩ : ∃ k,k=Z4j p0 y6 k242 n396:=⟨_,rfl⟩
   try rw [← qk395] at h
   refine Z0<|Z2<|Z6 _ (Za rfl rfl rfl)<|Z1<|Z0<|Z0s h rfl (fun h=>?_) (fun h=>?_)
   ·refine Zm<|Z0<|Zb<|Z0<|Z2<|Z7 rfl<|Z7 rfl<|Z1<|Z0<|Z0<|Z2<|Z7 rfl<|Z1<|jH h fun k433 qk433 h=>Zo (G:=fun t m=>∃ (a429:List Int) (a430:List Int) (a431:List Int) (a432:List Int),k433 a429 a430 a431 a432=some r∧Fit [(2,.pointer (some ⟨b2,0,none⟩)),(4,.pointer (some ⟨b4,0,none⟩)),(5,.pointer (some ⟨b7,0,none⟩)),(6,.pointer (some ⟨b10,0,none⟩)),(7,.int .i64 (i390)),(11,.int .i64 (i390))] (ck b10 82 [.ints .u64 5 (a429),.ints .u64 5 (a430),.ints .u64 5 (a431),.ints .u64 5 (a432)]::(ck b7 166 [.rows 20 16 (Z8p Ze (y6))]::(ck b4 82 [.ints .u64 5 ((List.replicate 5 0)),.ints .u64 5 ((List.replicate 5 0)),.ints .u64 5 ((List.replicate 5 0)),.ints .u64 5 ((List.replicate 5 0))]::(ck b3 82 [.ints .u64 5 (p1.gX),.ints .u64 5 (p1.gY),.ints .u64 5 (p1.gZ),.ints .u64 5 (p1.gT)]::(ck b2 74 [.ints .u8 32 (p0)] :: []))))) t m) ?_ ?_
    ·refine Zb<|Z01 (fun n455 t m=>∃ (i449:Int) (a450:List Int) (a451:List Int) (a452:List Int) (a453:List Int),Z38 k433 n455 i449 a450 a451 a452 a453=some r∧Fit [(2,.pointer (some ⟨b2,0,none⟩)),(4,.pointer (some ⟨b4,0,none⟩)),(5,.pointer (some ⟨b7,0,none⟩)),(6,.pointer (some ⟨b10,0,none⟩)),(7,.int .i64 (i390)),(11,.int .i64 (i390)),(14,.int .i64 (i449))] (ck b10 82 [.ints .u64 5 (a450),.ints .u64 5 (a451),.ints .u64 5 (a452),.ints .u64 5 (a453)]::(ck b7 166 [.rows 20 16 (Z8p Ze (y6))]::(ck b4 82 [.ints .u64 5 ((List.replicate 5 0)),.ints .u64 5 ((List.replicate 5 0)),.ints .u64 5 ((List.replicate 5 0)),.ints .u64 5 ((List.replicate 5 0))]::(ck b3 82 [.ints .u64 5 (p1.gX),.ints .u64 5 (p1.gY),.ints .u64 5 (p1.gZ),.ints .u64 5 (p1.gT)]::(ck b2 74 [.ints .u8 32 (p0)] :: []))))) t m) big ?_ ?_
     ·exact ⟨0,a391,a392,a393,a394,h,⟨⟨rfl,rfl,rfl,rfl,rfl,rfl,rfl,trivial⟩,(.one .here (.one .here (.one .here (.one .here (.one .here .nil)))))⟩⟩
     ·rintro n455 t m ⟨i449,a450,a451,a452,a453,h,hF⟩
      refine Zn hF ?_
      clear hF
      rcases n455 with _ | n455
      · exact Z1d h
      have h:Z8d k433 (Z38 k433 n455) i449 a450 a451 a452 a453=some r:=h
      unfold Z8d at h
      obtain ⟨k454,qk454⟩ : ∃ k,k=Z38 k433 n455:=⟨_,rfl⟩
      try rw [← qk454] at h
      refine Z0<|Z2<|Z6 _ (Za rfl rfl rfl)<|Z1<|Z0<|Z0s h rfl (fun h=>?_) (fun h=>?_)
      ·refine Zm<|Z0<|Zb<|oH h fun y459 ey459 h=>Z2<|Z6 _ (Z03 (p:=[.ints .u64 5 (a450),.ints .u64 5 (a451),.ints .u64 5 (a452),.ints .u64 5 (a453)]) rfl .here rfl)<|Z6 _ (Z0n (vs:=[agg [.ints .u64 5 (a450),.ints .u64 5 (a451),.ints .u64 5 (a452),.ints .u64 5 (a453)]]) (v:=agg [.ints .u64 5 (y459.gX),.ints .u64 5 (y459.gY),.ints .u64 5 (y459.gZ),.ints .u64 5 (y459.gT)]) rfl (fun w hw=>Za8 (r:=y459) (p0:=(⟨a450,a451,a452,a453⟩:Z9)) ey459 ))<|Zg (Zu (q:=[.ints .u64 5 (y459.gX),.ints .u64 5 (y459.gY),.ints .u64 5 (y459.gZ),.ints .u64 5 (y459.gT)]) rfl rfl rfl rfl rfl .here<|Z1<|bH h fun z461 ez461 h=>Z2<|Z6 _ (iz ez461 (Za rfl rfl rfl))<|Z7 rfl<|Z1 ?_)
       rw [qk454] at h
       exact ⟨n455,Nat.lt_succ_self _,z461,y459.gX,y459.gY,y459.gZ,y459.gT,h,⟨⟨rfl,rfl,rfl,rfl,rfl,rfl,rfl,trivial⟩,(.one .here (.one .here (.one .here (.one .here (.one .here .nil)))))⟩⟩
      ·exact Z0e _ rfl<|⟨a450,a451,a452,a453,h,⟨⟨rfl,rfl,rfl,rfl,rfl,rfl,trivial⟩,(.one .here (.one .here (.one .here (.one .here (.one .here .nil)))))⟩⟩
    ·rintro t m ⟨a429,a430,a431,a432,h,hF⟩
     refine Zn hF ?_
     clear hF
     subst qk433
     refine oH h fun y463 ey463 h=>cH h fun c464 h=>bH h fun x465 ex465 h=>oH h fun y466 ey466 h=>Zv<|Z8 _ (Z15 rfl)<|Zp _ (Z03 (p:=[.ints .u64 5 (a429),.ints .u64 5 (a430),.ints .u64 5 (a431),.ints .u64 5 (a432)]) rfl .here rfl)<|Zp _ (Z03 (p:=[.ints .u8 32 (p0)]) rfl (.there (.there (.there (.there .here)))) rfl)<|Z8 _ (Z0n (vs:=[agg [.ints .u8 32 (p0)],.int .i64 (i390)]) (v:=.int .u8 (y463)) rfl (fun w hw=>Z7s (r:=y463) (p0:=p0) (p1:=i390) ey463 ))<|Z8 _ (Z3d rfl rfl (Z1t c464))<|Zp _ (az (fun x465=>agg [.ints .u64 5 (x465.gX),.ints .u64 5 (x465.gY),.ints .u64 5 (x465.gZ),.ints .u64 5 (x465.gT)]) ex465 (Ziu (base:=0) (w:=20) rfl (.there .here) rfl (Z0w c464) rfl rfl rfl))<|Z8 _ (Z0n (vs:=[agg [.ints .u64 5 (a429),.ints .u64 5 (a430),.ints .u64 5 (a431),.ints .u64 5 (a432)],agg [.ints .u64 5 (x465.gX),.ints .u64 5 (x465.gY),.ints .u64 5 (x465.gZ),.ints .u64 5 (x465.gT)]]) (v:=agg [.ints .u64 5 (y466.gX),.ints .u64 5 (y466.gY),.ints .u64 5 (y466.gZ),.ints .u64 5 (y466.gT)]) rfl (fun w hw=>Z86 (r:=y466) (p0:=(⟨a429,a430,a431,a432⟩:Z9)) (p1:=x465) ey466 ))<|Z2j rfl (Zu (q:=[.ints .u64 5 (y466.gX),.ints .u64 5 (y466.gY),.ints .u64 5 (y466.gZ),.ints .u64 5 (y466.gT)]) rfl rfl rfl rfl rfl .here<|Z05<|bH h fun z468 ez468 h=>Z2<|Z6 _ (iz ez468 (Za rfl rfl rfl))<|Z7 rfl<|Z1 ?_)
     rw [qk395] at h
     exact ⟨n396,Nat.lt_succ_self _,z468,y466.gX,y466.gY,y466.gZ,y466.gT,h,⟨⟨rfl,rfl,rfl,rfl,rfl,trivial⟩,(.one .here (.one .here (.one .here (.one .here (.one .here .nil)))))⟩⟩
   ·exact Z0e _ rfl<|⟨a391,a392,a393,a394,h,⟨⟨rfl,rfl,trivial⟩,(.one .here (.one .here (.one .here (.one .here (.one .here .nil)))))⟩⟩
 ·rintro t m ⟨a238,a239,a240,a241,h,hF⟩
  refine Zn hF ?_
  clear hF
  subst qk242
  refine Z0<|Z2<|Z6 _ (Z03 (p:=[.ints .u64 5 (a238),.ints .u64 5 (a239),.ints .u64 5 (a240),.ints .u64 5 (a241)]) rfl .here rfl)<|Zg (Zu (q:=[.ints .u64 5 (a238),.ints .u64 5 (a239),.ints .u64 5 (a240),.ints .u64 5 (a241)]) rfl rfl rfl rfl rfl (.there (.there .here))<|Z1<|Zk ?_)
  revert h; refine Zy fun h=>?_
  subst h
  exact ⟨_,(.cons (.agg rfl (.there (.there .here)) rfl) .nil),rfl⟩
def Z77 (p0:List Int) (k214:(List Int)→OL) (k333:(Int)→(List Int)→OL) (i331:Int) (a332:List Int):OL :=
 br ((decide (i331<32))) (
 jn (fun (a377:List Int)=>bnd (IntKind.wrap .i64 (i331+1)) fun z420 =>
 k333 z420 a377) fun k378=>chk (inB i331 32) <|
 bnd (p0.getD (i331).toNat 0) fun z381 =>
 jn (fun (i386:Int)=>bnd (IntKind.wrap .i64 (8*i331)) fun z392 =>
 bnd (IntKind.wrap .i64 (Int.tdiv z392 51)) fun z393 =>
 bnd (IntKind.wrap .i64 (8*i331)) fun z394 =>
 bnd (Int.tmod z394 51) fun z395 =>
 chk (inB z393 5) <|
 bnd (IntKind.wrap .u64 i386) fun z398 =>
 chk (decide (0≤z395)) <|
 bnd (Zq .u64 z398 z395) fun z400 =>
 bnd (Z4 .and .u64 z400 2251799813685247) fun z401 =>
 bnd (a332.getD (z393).toNat 0) fun z402 =>
 bnd (Z4 .or .u64 z402 z401) fun z403 =>
 chk (inB z393 5) <|
 bnd (Z4q a332 (z393).toNat z403) fun l405 =>
 br (((decide (z395>43))&&(decide (z393<4)))) (
 bnd (IntKind.wrap .i64 (z393+1)) fun z409 =>
 chk (inB z409 5) <|
 bnd (IntKind.wrap .u64 i386) fun z411 =>
 bnd (IntKind.wrap .i64 (51-z395)) fun z412 =>
 chk (decide (0≤z412)) <|
 bnd (Zi .u64 z411 z412) fun z414 =>
 bnd (l405.getD (z409).toNat 0) fun z415 =>
 bnd (Z4 .or .u64 z415 z414) fun z416 =>
 chk (inB z409 5) <|
 bnd (Z4q l405 (z409).toNat z416) fun l418 =>
 k378 l418
 ) (
 k378 l405
 )) fun k387=>br ((i331==31)) (
 bnd (Z4 .and .u8 z381 127) fun z390 =>
 k387 z390
 ) (
 k387 z381
 )
 ) (
 k214 a332
 )
def Z2x (p0:List Int) (k214:(List Int)→OL):Nat→(Int)→(List Int)→OL
  | 0,_,_=>none
  | n+1,i331,a332=>Z77 p0 k214 (Z2x p0 k214 n) i331 a332
def Z23 (p0:List Int):OL :=
 jn (fun (a213:List Int)=>opt (Z0y a213) fun y422 =>
 some y422) fun k214=>Z2x p0 k214 big 0 (List.replicate 5 0)
theorem Z45 {W:World} {r:(List Int)} {p0:List Int} (h:Z23 p0=some r)  :
    Calls Tryz.prog 122 [agg [.ints .u8 32 (p0)]].toArray W (Z51 W (agg [.ints .u64 5 (r)])):=by
 unfold Z23 at h
 refine Zd mo Z0d4 rfl ?_
 refine Z0<|Z2<|Zg (Z16 (s:=[.ints .u8 32 (p0)]) rfl fun b2 hb2=>Zg (Zx fun b3 hb3=>Z1<|Z0<|Z2<|Zg (Zx fun b5 hb5=>Z1<|Z0<|Z0<|Z2<|Z6 _ (Z03 (p:=[.ints .u8 32 (p0)]) rfl (.there (.there .here)) rfl)<|Z7 rfl<|Z1<|jH h fun k214 qk214 h=>Zo (G:=fun t m=>∃ (a213:List Int),k214 a213=some r∧Fit [(2,.pointer (some ⟨b3,0,none⟩)),(3,.pointer (some ⟨b5,0,none⟩))] (ck b5 80 [.ints .u64 5 (a213)]::(ck b3 80 [.ints .u64 5 ((List.replicate 5 0))]::(ck b2 22 [.ints .u8 32 (p0)] :: []))) t m) ?_ ?_)))
 ·refine Zb<|Z01 (fun n334 t m=>∃ (i331:Int) (a332:List Int),Z2x p0 k214 n334 i331 a332=some r∧Fit [(2,.pointer (some ⟨b3,0,none⟩)),(3,.pointer (some ⟨b5,0,none⟩)),(8,agg [.ints .u8 32 (p0)]),(9,.int .i64 (i331))] (ck b5 80 [.ints .u64 5 (a332)]::(ck b3 80 [.ints .u64 5 ((List.replicate 5 0))]::(ck b2 22 [.ints .u8 32 (p0)] :: []))) t m) big ?_ ?_
  ·exact ⟨0,(List.replicate 5 0),h,⟨⟨rfl,rfl,rfl,rfl,trivial⟩,(.one .here (.one .here (.one .here .nil)))⟩⟩
  ·rintro n334 t m ⟨i331,a332,h,hF⟩
   refine Zn hF ?_
   clear hF
   rcases n334 with _ | n334
   · exact Z1d h
   have h:Z77 p0 k214 (Z2x p0 k214 n334) i331 a332=some r:=h
   unfold Z77 at h
   obtain ⟨k333,qk333⟩ : ∃ k,k=Z2x p0 k214 n334:=⟨_,rfl⟩
   try rw [← qk333] at h
   refine Z0<|Z2<|Z6 _ (Za rfl rfl rfl)<|Z1<|Z0<|Z0s h rfl (fun h=>?_) (fun h=>?_)
   ·refine Zm<|Z0<|jH h fun k378 qk378 h=>Zo (G:=fun t m=>∃ (a377:List Int),k378 a377=some r∧Fit [(2,.pointer (some ⟨b3,0,none⟩)),(3,.pointer (some ⟨b5,0,none⟩)),(8,agg [.ints .u8 32 (p0)]),(9,.int .i64 (i331))] (ck b5 80 [.ints .u64 5 (a377)]::(ck b3 80 [.ints .u64 5 ((List.replicate 5 0))]::(ck b2 22 [.ints .u8 32 (p0)] :: []))) t m) ?_ ?_
    ·refine Zb<|Z0<|cH h fun c380 h=>bH h fun z381 ez381 h=>Z2<|Z7 rfl<|Z6 _ (iz ez381 (Zel (len:=32) rfl rfl (Z1t c380)))<|Z7 rfl<|Z7 rfl<|Z1<|Z0<|Z0<|Z2<|Z7 rfl<|Z6 _ (Za rfl rfl rfl)<|Z1<|jH h fun k387 qk387 h=>Zo (G:=fun t m=>∃ (i386:Int),k387 i386=some r∧Fit [(2,.pointer (some ⟨b3,0,none⟩)),(3,.pointer (some ⟨b5,0,none⟩)),(4,.int .i64 (i331)),(5,.int .u8 (i386)),(8,agg [.ints .u8 32 (p0)]),(9,.int .i64 (i331))] (ck b5 80 [.ints .u64 5 (a332)]::(ck b3 80 [.ints .u64 5 ((List.replicate 5 0))]::(ck b2 22 [.ints .u8 32 (p0)] :: []))) t m) ?_ ?_
     ·refine Z0s h rfl (fun h=>?_) (fun h=>?_)
      ·exact bH h fun z390 ez390 h=>Z2<|Z7 rfl<|Z6 _ (iz ez390 (Za rfl rfl rfl))<|Z7 rfl<|Z1<|⟨z390,h,⟨⟨rfl,rfl,rfl,rfl,rfl,rfl,trivial⟩,(.one .here (.one .here (.one .here .nil)))⟩⟩
      ·exact Zm<|⟨z381,h,⟨⟨rfl,rfl,rfl,rfl,rfl,rfl,trivial⟩,(.one .here (.one .here (.one .here .nil)))⟩⟩
     ·rintro t m ⟨i386,h,hF⟩
      refine Zn hF ?_
      clear hF
      subst qk387
      refine Z0<|bH h fun z392 ez392 h=>bH h fun z393 ez393 h=>bH h fun z394 ez394 h=>bH h fun z395 ez395 h=>Z2<|Z7 rfl<|Z6 _ (iz ez392 (Za rfl rfl rfl))<|Z6 _ (iz ez393 (Ziv rfl rfl (by decide)))<|Z7 rfl<|Z6 _ (iz ez394 (Za rfl rfl rfl))<|Z6 _ (iz ez395 (Ziw rfl rfl (by decide)))<|Z7 rfl<|Z7 rfl<|Z1<|Z0<|cH h fun c397 h=>bH h fun z398 ez398 h=>cH h fun c399 h=>bH h fun z400 ez400 h=>bH h fun z401 ez401 h=>bH h fun z402 ez402 h=>bH h fun z403 ez403 h=>cH h fun c404 h=>bH h fun l405 el405 h=>Zv<|Z8 _ (Z15 rfl)<|Z8 _ (Z3d rfl rfl (Z1t c397))<|Z8 _ (Z15 rfl)<|Z8 _ (iz ez398 (Z8l rfl))<|Z8 _ (Z15 rfl)<|Z8 _ (iz ez400 (Zhv rfl rfl (of_decide_eq_true c399)))<|Z8 _ (iz ez401 (Za rfl rfl rfl))<|Zp _ (iz ez402 (Z8r (base:=0) rfl .here rfl (Z0w c397)))<|Z8 _ (iz ez403 (Za rfl rfl rfl))<|Z8 _ (Z3d rfl rfl (Z1t c404))<|Z2j rfl (Z5g (q:=[.ints .u64 5 (l405)]) (base:=0) el405 rfl rfl rfl (Z0w c404) rfl .here<|Z05<|Z0<|Z2<|Z7 rfl<|Z6 _ (Za rfl rfl rfl)<|Z7 rfl<|Z7o rfl rfl rfl (fun hg1=>Z2s rfl _ (Z15 rfl) (Z2s rfl _ (Za rfl rfl rfl) (Z1u))) (fun hg1=>rfl) rfl<|Z1<|Z0s h rfl (fun h=>?_) (fun h=>?_))
      ·exact bH h fun z409 ez409 h=>cH h fun c410 h=>bH h fun z411 ez411 h=>bH h fun z412 ez412 h=>cH h fun c413 h=>bH h fun z414 ez414 h=>bH h fun z415 ez415 h=>bH h fun z416 ez416 h=>cH h fun c417 h=>bH h fun l418 el418 h=>Zv<|Z8 _ (Z15 rfl)<|Z8 _ (iz ez409 (Za rfl rfl rfl))<|Z8 _ (Z3d rfl rfl (Z1t c410))<|Z8 _ (Z15 rfl)<|Z8 _ (iz ez411 (Z8l rfl))<|Z8 _ (Z15 rfl)<|Z8 _ (iz ez412 (Za rfl rfl rfl))<|Z8 _ (iz ez414 (Z7a rfl rfl (of_decide_eq_true c413)))<|Zp _ (iz ez415 (Z8r (base:=0) rfl .here rfl (Z0w c410)))<|Z8 _ (iz ez416 (Za rfl rfl rfl))<|Z8 _ (Z3d rfl rfl (Z1t c417))<|Z2j rfl (Z5g (q:=[.ints .u64 5 (l418)]) (base:=0) el418 rfl rfl rfl (Z0w c417) rfl .here<|Z05<|⟨l418,h,⟨⟨rfl,rfl,rfl,rfl,trivial⟩,(.one .here (.one .here (.one .here .nil)))⟩⟩)
      ·exact Zm<|⟨l405,h,⟨⟨rfl,rfl,rfl,rfl,trivial⟩,(.one .here (.one .here (.one .here .nil)))⟩⟩
    ·rintro t m ⟨a377,h,hF⟩
     refine Zn hF ?_
     clear hF
     subst qk378
     refine bH h fun z420 ez420 h=>Z2<|Z6 _ (iz ez420 (Za rfl rfl rfl))<|Z7 rfl<|Z1 ?_
     rw [qk333] at h
     exact ⟨n334,Nat.lt_succ_self _,z420,a377,h,⟨⟨rfl,rfl,rfl,rfl,trivial⟩,(.one .here (.one .here (.one .here .nil)))⟩⟩
   ·exact Z0e _ rfl<|⟨a332,h,⟨⟨rfl,rfl,trivial⟩,(.one .here (.one .here (.one .here .nil)))⟩⟩
 ·rintro t m ⟨a213,h,hF⟩
  refine Zn hF ?_
  clear hF
  subst qk214
  refine Z0<|oH h fun y422 ey422 h=>Z2<|Z6 _ (Z03 (p:=[.ints .u64 5 (a213)]) rfl .here rfl)<|Z6 _ (Z1a rfl (Z0f ey422))<|Zg (Zu (q:=[.ints .u64 5 (y422)]) rfl rfl rfl rfl rfl (.there .here)<|Z1<|Zk ?_)
  revert h; refine Zy fun h=>?_
  subst h
  exact ⟨_,(.cons (.agg rfl (.there .here) rfl) .nil),rfl⟩
def Z9t (k41:(List Int)→Option (Z9)) (k60:(Int)→(List Int)→Option (Z9)) (i58:Int) (a59:List Int):Option (Z9) :=
 br ((decide (i58<31))) (
 bnd (IntKind.wrap .i64 (i58+1)) fun z66 =>
 chk (inB z66 32) <|
 bnd (Z4q a59 (z66).toNat 102) fun l68 =>
 bnd (IntKind.wrap .i64 (i58+1)) fun z70 =>
 k60 z70 l68
 ) (
 k41 a59
 )
def Z4y (k41:(List Int)→Option (Z9)):Nat→(Int)→(List Int)→Option (Z9)
  | 0,_,_=>none
  | n+1,i58,a59=>Z9t k41 (Z4y k41 n) i58 a59
def Z7t:Option (Z9) :=
 bnd (([26,213,37,143,96,45,86,201,178,167,37,149,96,199,44,105,92,220,214,253,49,226,164,192,254,83,110,205,211,54,105,33]:List Int)) fun z4 =>
 opt (Z23 z4) fun y5 =>
 bnd (([88,0,0,0,0,0,0,0,0,0,0,0,0,0,0,0,0,0,0,0,0,0,0,0,0,0,0,0,0,0,0,0]:List Int)) fun z8 =>
 jn (fun (a40:List Int)=>opt (Z23 a40) fun y72 =>
 opt (Z6r) fun y75 =>
 opt (Z09 y5 y72) fun y76 =>
 some (⟨y5,y72,y75,y76⟩:Z9)) fun k41=>Z4y k41 big 0 z8
theorem Zaz {W:World} {r:Z9} (h:Z7t=some r)  :
    Calls Tryz.prog 95 [].toArray W (Z51 W (agg [.ints .u64 5 (r.gX),.ints .u64 5 (r.gY),.ints .u64 5 (r.gZ),.ints .u64 5 (r.gT)])):=by
 unfold Z7t at h
 refine Zd mo ok95 rfl ?_
 refine Z0<|Z2<|Zg (Zx fun b2 hb2=>Z1<|Z0<|bH h fun z4 ez4 h=>oH h fun y5 ey5 h=>Z2<|Z6 _ (az (fun z=>agg [.ints .u8 32 z]) ez4 (Zdv (.one rfl rfl rfl (.one rfl rfl rfl (.one rfl rfl rfl (.one rfl rfl rfl (.one rfl rfl rfl (.one rfl rfl rfl (.one rfl rfl rfl (.one rfl rfl rfl (.one rfl rfl rfl (.one rfl rfl rfl (.one rfl rfl rfl (.one rfl rfl rfl (.one rfl rfl rfl (.one rfl rfl rfl (.one rfl rfl rfl (.one rfl rfl rfl (.one rfl rfl rfl (.one rfl rfl rfl (.one rfl rfl rfl (.one rfl rfl rfl (.one rfl rfl rfl (.one rfl rfl rfl (.one rfl rfl rfl (.one rfl rfl rfl (.one rfl rfl rfl (.one rfl rfl rfl (.one rfl rfl rfl (.one rfl rfl rfl (.one rfl rfl rfl (.one rfl rfl rfl (.one rfl rfl rfl (.one rfl rfl rfl BdR.nil))))))))))))))))))))))))))))))))))<|Z6 _ (Z1a rfl (Z45 ey5))<|Zg (Zx fun b6 hb6=>Zg (Zu (q:=[.ints .u64 5 (y5)]) rfl rfl rfl rfl rfl .here<|Z1<|Z0<|bH h fun z8 ez8 h=>Z2<|Z6 _ (az (fun z=>agg [.ints .u8 32 z]) ez8 (Zdv (.one rfl rfl rfl BdR.nil)))<|Zg (Zx fun b9 hb9=>Zg (Zu (q:=[.ints .u8 32 (z8)]) rfl rfl rfl rfl rfl .here<|Z1<|Z0<|Z0<|Z2<|Z7 rfl<|Z1<|jH h fun k41 qk41 h=>Zo (G:=fun t m=>∃ (a40:List Int),k41 a40=some r∧Fit [(0,.pointer (some ⟨b2,0,none⟩)),(1,.pointer (some ⟨b6,0,none⟩)),(2,.pointer (some ⟨b9,0,none⟩))] (ck b9 22 [.ints .u8 32 (a40)]::(ck b6 80 [.ints .u64 5 (y5)]::(ck b2 82 [.ints .u64 5 ((List.replicate 5 0)),.ints .u64 5 ((List.replicate 5 0)),.ints .u64 5 ((List.replicate 5 0)),.ints .u64 5 ((List.replicate 5 0))] :: []))) t m) ?_ ?_)))))
 ·refine Zb<|Z01 (fun n61 t m=>∃ (i58:Int) (a59:List Int),Z4y k41 n61 i58 a59=some r∧Fit [(0,.pointer (some ⟨b2,0,none⟩)),(1,.pointer (some ⟨b6,0,none⟩)),(2,.pointer (some ⟨b9,0,none⟩)),(8,.int .i64 (i58))] (ck b9 22 [.ints .u8 32 (a59)]::(ck b6 80 [.ints .u64 5 (y5)]::(ck b2 82 [.ints .u64 5 ((List.replicate 5 0)),.ints .u64 5 ((List.replicate 5 0)),.ints .u64 5 ((List.replicate 5 0)),.ints .u64 5 ((List.replicate 5 0))] :: []))) t m) big ?_ ?_
  ·exact ⟨0,z8,h,⟨⟨rfl,rfl,rfl,rfl,trivial⟩,(.one .here (.one .here (.one .here .nil)))⟩⟩
  ·rintro n61 t m ⟨i58,a59,h,hF⟩
   refine Zn hF ?_
   clear hF
   rcases n61 with _ | n61
   · exact Z1d h
   have h:Z9t k41 (Z4y k41 n61) i58 a59=some r:=h
   unfold Z9t at h
   obtain ⟨k60,qk60⟩ : ∃ k,k=Z4y k41 n61:=⟨_,rfl⟩
   try rw [← qk60] at h
   refine Z0<|Z2<|Z6 _ (Za rfl rfl rfl)<|Z1<|Z0<|Z0s h rfl (fun h=>?_) (fun h=>?_)
   ·refine Zm<|Z0<|Zb<|Z0<|Z2<|Z7 rfl<|Z7 rfl<|Z1<|bH h fun z66 ez66 h=>cH h fun c67 h=>bH h fun l68 el68 h=>Z2<|Z7 rfl<|Z6 _ (iz ez66 (Za rfl rfl rfl))<|Z6 _ (Z3d rfl rfl (Z1t c67))<|Zg (Z5g (q:=[.ints .u8 32 (l68)]) (base:=0) el68 rfl rfl rfl (Z0w c67) rfl .here<|Z1<|bH h fun z70 ez70 h=>Z2<|Z6 _ (iz ez70 (Za rfl rfl rfl))<|Z7 rfl<|Z1 ?_)
    rw [qk60] at h
    exact ⟨n61,Nat.lt_succ_self _,z70,l68,h,⟨⟨rfl,rfl,rfl,rfl,trivial⟩,(.one .here (.one .here (.one .here .nil)))⟩⟩
   ·exact Z0e _ rfl<|⟨a59,h,⟨⟨rfl,rfl,rfl,trivial⟩,(.one .here (.one .here (.one .here .nil)))⟩⟩
 ·rintro t m ⟨a40,h,hF⟩
  refine Zn hF ?_
  clear hF
  subst qk41
  refine Z0<|oH h fun y72 ey72 h=>Z2<|Z6 _ (Z03 (p:=[.ints .u8 32 (a40)]) rfl .here rfl)<|Z6 _ (Z1a rfl (Z45 ey72))<|Zg (Zx fun b73 hb73=>Zg (Zu (q:=[.ints .u64 5 (y72)]) rfl rfl rfl rfl rfl .here<|Z1<|Z0<|oH h fun y75 ey75 h=>oH h fun y76 ey76 h=>Zv<|Z8 _ (Z1a rfl (Z76 ey75))<|Zp _ (Z03 (p:=[.ints .u64 5 (y5)]) rfl (.there (.there .here)) rfl)<|Zp _ (Z03 (p:=[.ints .u64 5 (y72)]) rfl .here rfl)<|Zp _ (Z03 (p:=[.ints .u64 5 (y5)]) rfl (.there (.there .here)) rfl)<|Zp _ (Z03 (p:=[.ints .u64 5 (y72)]) rfl .here rfl)<|Z8 _ (Z1a rfl (Zw ey76))<|Z8 _ (Zdv (q:=[.ints .u64 5 (y5),.ints .u64 5 (y72),.ints .u64 5 (y75),.ints .u64 5 (y76)]) (.agg rfl rfl rfl (.agg rfl rfl rfl (.agg rfl rfl rfl (.agg rfl rfl rfl BdR.nil)))))<|Z2j rfl (Zu (q:=[.ints .u64 5 (y5),.ints .u64 5 (y72),.ints .u64 5 (y75),.ints .u64 5 (y76)]) rfl rfl rfl rfl rfl (.there (.there (.there .here)))<|Z05<|Zk ?_)))
  revert h; refine Zy fun h=>?_
  subst h
  exact ⟨_,(.cons (.agg rfl (.there (.there (.there .here))) rfl) .nil),rfl⟩
def Z3u (p0:List Int):Option (Z9) :=
 opt (Z7t) fun y5 =>
 opt (Zbd p0 y5) fun y6 =>
 some y6
theorem Z9m {W:World} {r:Z9} {p0:List Int} (h:Z3u p0=some r)  :
    Calls Tryz.prog 51 [agg [.ints .u8 32 (p0)]].toArray W (Z51 W (agg [.ints .u64 5 (r.gX),.ints .u64 5 (r.gY),.ints .u64 5 (r.gZ),.ints .u64 5 (r.gT)])):=by
 unfold Z3u at h
 refine Zd mo ok51 rfl ?_
 refine Z0<|Z2<|Zg (Z16 (s:=[.ints .u8 32 (p0)]) rfl fun b2 hb2=>Zg (Zx fun b3 hb3=>Z1<|Z0<|oH h fun y5 ey5 h=>oH h fun y6 ey6 h=>Zv<|Z8 _ (Z1a rfl (Zaz ey5))<|Zp _ (Z03 (p:=[.ints .u8 32 (p0)]) rfl (.there .here) rfl)<|Z8 _ (Z1a rfl (Zgd ey6))<|Z2j rfl (Zu (q:=[.ints .u64 5 (y6.gX),.ints .u64 5 (y6.gY),.ints .u64 5 (y6.gZ),.ints .u64 5 (y6.gT)]) rfl rfl rfl rfl rfl .here<|Z05<|Zk ?_)))
 revert h; refine Zy fun h=>?_
 subst h
 exact ⟨_,(.cons (.agg rfl .here rfl) .nil),rfl⟩
def Zg1 (p0:List Int):OL :=
 opt (Z84 p0) fun y5 =>
 opt (Z3u y5.1) fun y13 =>
 opt (Z3t y13) fun y14 =>
 some y14
def Z5c (y4:(Bool×List Int)) (k55:(Int)→Option (Int×Bool)) (k83:(Int)→(Int)→Option (Int×Bool)) (i81:Int) (i82:Int):Option (Int×Bool) :=
 br ((decide (i82<(y4.2.length:Int)))) (
 chk (inB i82 y4.2.length) <|
 bnd (y4.2.getD (i82).toNat 0) fun z89 =>
 bnd (IntKind.wrap .u64 z89) fun z91 =>
 bnd (IntKind.wrap .i64 (8*i82)) fun z92 =>
 chk (decide (0≤z92)) <|
 bnd (Zq .u64 z91 z92) fun z94 =>
 bnd (Z4 .or .u64 i81 z94) fun z95 =>
 bnd (IntKind.wrap .i64 (i82+1)) fun z97 =>
 k83 z95 z97
 ) (
 k55 i81
 )
def Z2l (y4:(Bool×List Int)) (k55:(Int)→Option (Int×Bool)):Nat→(Int)→(Int)→Option (Int×Bool)
  | 0,_,_=>none
  | n+1,i81,i82=>Z5c y4 k55 (Z2l y4 k55 n) i81 i82
def Z56 (p0:List Int) (p1:Int):Option (Int×Bool) :=
 opt (Z5y p0 p1) fun y4 =>
 jn (fun (i54:Int)=>some (i54,(!y4.1))) fun k55=>Z2l y4 k55 big 0 0
theorem Z72 {W:World} {r:Int×Bool} {p0:List Int} {p1:Int} {v0:Value} (h:Z56 p0 p1=some r) (A0:RdSl (El.int .u8) W v0 p0) :
    Calls Tryz.prog 160 [v0,.int .i64 (p1)].toArray W (Z51 W (.tuple #[.int .u64 (r.1),.bool (r.2)])):=by
 unfold Z56 at h
 refine Zd mo Z0du rfl ?_
 refine Z0<|Z2<|Z7 rfl<|Z7 rfl<|Z1<|Z0<|Z2<|Z7 rfl<|Z1<|Z0<|oH h fun y4 ey4 h=>Z2<|Z7 rfl<|Z7 rfl<|Zg (Z00 rfl (fun w hw=>Z7k  ey4 ((Z0a A0 Z0h) w hw)) fun v5 Msv5 R6=>?_)
 obtain ⟨_,rfl,rfl,P10,N8,H9⟩:=R6
 refine Z7 rfl<|Z1<|Z0<|Z0<|Z2<|Z7 rfl<|Z6 _ (Z2r rfl P10)<|Z7 rfl<|Z1<|jH h fun k55 qk55 h=>Zo (G:=fun t m=>∃ (i54:Int),k55 i54=some r∧Fit [(6,.int .u64 (i54)),(7,v5)] [] t m) ?_ ?_
 ·refine Zb<|Z01 (fun n84 t m=>∃ (i81:Int) (i82:Int),Z2l y4 k55 n84 i81 i82=some r∧Fit [(6,.int .u64 (i81)),(7,v5),(13,v5),(14,.int .i64 ((y4.2.length:Int))),(15,.int .i64 (i82))] [] t m) big ?_ ?_
  ·exact ⟨0,0,h,⟨⟨rfl,rfl,rfl,rfl,rfl,trivial⟩,.nil⟩⟩
  ·rintro n84 t m ⟨i81,i82,h,hF⟩
   refine Zn hF ?_
   clear hF
   rcases n84 with _ | n84
   · exact Z1d h
   have h:Z5c y4 k55 (Z2l y4 k55 n84) i81 i82=some r:=h
   unfold Z5c at h
   obtain ⟨k83,qk83⟩ : ∃ k,k=Z2l y4 k55 n84:=⟨_,rfl⟩
   try rw [← qk83] at h
   refine Z0<|Z2<|Z6 _ (Za rfl rfl rfl)<|Z1<|Z0<|Z0s h rfl (fun h=>?_) (fun h=>?_)
   ·refine Zm<|Z0<|Zb<|Z0<|cH h fun c88 h=>bH h fun z89 ez89 h=>Z2<|Z7 rfl<|Z6 _ (Z3a rfl rfl P10 c88)<|Z6 _ (iz ez89 (Z9y (E:=(El.int .u8)) (s:=[.one (.int .u8 (y4.2.getD (i82).toNat 0))]) rfl (Zo8 H9 (Z0a A0 Z0h)) (Z0w c88) rfl rfl))<|Z7 rfl<|Z7 rfl<|Z1<|bH h fun z91 ez91 h=>bH h fun z92 ez92 h=>cH h fun c93 h=>bH h fun z94 ez94 h=>bH h fun z95 ez95 h=>Z2<|Z7 rfl<|Z7 rfl<|Z6 _ (iz ez91 (Z8l rfl))<|Z7 rfl<|Z6 _ (iz ez92 (Za rfl rfl rfl))<|Z6 _ (iz ez94 (Zhv rfl rfl (of_decide_eq_true c93)))<|Z6 _ (iz ez95 (Za rfl rfl rfl))<|Z7 rfl<|Z1<|bH h fun z97 ez97 h=>Z2<|Z6 _ (iz ez97 (Za rfl rfl rfl))<|Z7 rfl<|Z1 ?_
    rw [qk83] at h
    exact ⟨n84,Nat.lt_succ_self _,z95,z97,h,⟨⟨rfl,rfl,rfl,rfl,rfl,trivial⟩,.nil⟩⟩
   ·exact Z0e _ rfl<|⟨i81,h,⟨⟨rfl,rfl,trivial⟩,.nil⟩⟩
 ·rintro t m ⟨i54,h,hF⟩
  refine Zn hF ?_
  clear hF
  subst qk55
  refine Z0<|Z2<|Z7 rfl<|Z7 rfl<|Z6 _ (Zl9 rfl P10 N8)<|Z7 rfl<|Z7 rfl<|Z1<|Zk ?_
  revert h; refine Zy fun h=>?_
  subst h
  exact ⟨_,(.cons (.tmp rfl) (.cons (.tmp rfl) .nil)),rfl⟩
def Z55 (z4:Int) (k66:(List (Int))→OL) (k104:(Int)→(List (Int))→(Int)→OL) (i98:Int) (l101:List (Int)) (i103:Int):OL :=
 br ((decide (i103<((List.replicate (z4).toNat 0:List (Int)).length:Int)))) (
 bnd (IntKind.wrap .u8 i98) fun z110 =>
 chk (inB i103 l101.length) <|
 bnd (Zew 0 l101 (i103).toNat z110) fun l112 =>
 bnd (Zi .u64 i98 8) fun z116 =>
 bnd (IntKind.wrap .i64 (i103+1)) fun z118 =>
 k104 z116 l112 z118
 ) (
 k66 l101
 )
def Z2b (z4:Int) (k66:(List (Int))→OL):Nat→(Int)→(List (Int))→(Int)→OL
  | 0,_,_,_=>none
  | n+1,i98,l101,i103=>Z55 z4 k66 (Z2b z4 k66 n) i98 l101 i103
def Z6i (p0:Int):OL :=
 opt (Z3b) fun y3 =>
 bnd (IntKind.wrap .i64 (Int.tdiv y3 8)) fun z4 =>
 chk (mkB 1 z4 z4) <|
 jn (fun (l64:List (Int))=>some l64) fun k66=>Z2b z4 k66 big p0 (List.replicate (z4).toNat 0:List (Int)) 0
theorem Za4 {W:World} {r:(List Int)} {p0:Int} (h:Z6i p0=some r)  :
    Calls Tryz.prog 204 [.int .u64 (p0)].toArray W (Zdw W [] (fun v Ms=>∃ (u0:Value) (M0:List Zc),v=u0∧Ms = [.all M0]∧Z1z (El.int .u8) u0 M0 r)):=by
 unfold Z6i at h
 refine Z0o mo Z0ef rfl (Zh8 _) ?_
 refine Z0<|Z2<|Z7 rfl<|Z1<|Z0<|oH h fun y3 ey3 h=>bH h fun z4 ez4 h=>cH h fun c5 h=>Z2<|Z6 _ (Z1a rfl (Z3m ey3))<|Z6 _ (iz ez4 (Ziv rfl rfl (by decide)))<|Zg (Zfi (E:=(El.int .u8)) rfl rfl rfl c5 fun v6 ms7 O8=>Z7 rfl<|Z1<|Z0<|Z0<|Z2<|Z7 rfl<|Z6 _ (Z2r rfl (Shp.own O8))<|Z7 rfl<|Z1<|jH h fun k66 qk66 h=>Zo (G:=fun t m=>∃ (l64:List (Int)) (v62:Value) (ms63:List Zc),k66 l64=some r∧Z1z (El.int .u8) v62 ms63 l64∧Fit [(3,v62)] (ms63 ++ []) t m) ?_ ?_)
 ·refine Zb<|Z01 (fun n105 t m=>∃ (i98:Int) (l101:List (Int)) (i103:Int) (v99:Value) (ms100:List Zc),Z2b z4 k66 n105 i98 l101 i103=some r∧Z1z (El.int .u8) v99 ms100 l101∧Fit [(0,.int .u64 (i98)),(3,v99),(9,.int .i64 (((List.replicate (z4).toNat 0:List (Int)).length:Int))),(10,.int .i64 (i103))] (ms100 ++ []) t m) big ?_ ?_
  ·exact ⟨p0,(List.replicate (z4).toNat 0:List (Int)),0,v6,ms7,h,O8,⟨⟨rfl,rfl,rfl,rfl,trivial⟩,(.all .here .nil)⟩⟩
  ·rintro n105 t m ⟨i98,l101,i103,v99,ms100,h,O102,hF⟩
   refine Zn hF ?_
   clear hF
   rcases n105 with _ | n105
   · exact Z1d h
   have h:Z55 z4 k66 (Z2b z4 k66 n105) i98 l101 i103=some r:=h
   unfold Z55 at h
   obtain ⟨k104,qk104⟩ : ∃ k,k=Z2b z4 k66 n105:=⟨_,rfl⟩
   try rw [← qk104] at h
   refine Z0<|Z2<|Z6 _ (Za rfl rfl rfl)<|Z1<|Z0<|Z0s h rfl (fun h=>?_) (fun h=>?_)
   ·refine Zm<|Z0<|Zb<|Z0<|Z2<|Z7 rfl<|Z7 rfl<|Z1<|Z0<|bH h fun z110 ez110 h=>cH h fun c111 h=>bH h fun l112 el112 h=>Z2<|Z7 rfl<|Z7 rfl<|Z7 rfl<|Z6 _ (iz ez110 (Z8l rfl))<|Z6 _ (Z3a rfl rfl (Shp.own O102) c111)<|Zg (Zid (E:=(El.int .u8)) el112 O102 .here rfl rfl rfl (Z0w c111) fun ms113 O114=>Z1<|bH h fun z116 ez116 h=>Z2<|Z7 rfl<|Z6 _ (iz ez116 (Z7a rfl rfl (by decide)))<|Z7 rfl<|Z1<|bH h fun z118 ez118 h=>Z2<|Z6 _ (iz ez118 (Za rfl rfl rfl))<|Z7 rfl<|Z1 ?_)
    rw [qk104] at h
    exact ⟨n105,Nat.lt_succ_self _,z116,l112,z118,v99,ms113,h,O114,⟨⟨rfl,rfl,rfl,rfl,trivial⟩,(.all .here .nil)⟩⟩
   ·exact Z0e _ rfl<|⟨l101,v99,ms100,h,O102,⟨⟨rfl,trivial⟩,(.all .here .nil)⟩⟩
 ·rintro t m ⟨l64,v62,ms63,h,O65,hF⟩
  refine Zn hF ?_
  clear hF
  subst qk66
  refine Z0<|Z2<|Z7 rfl<|Z7 rfl<|Z1<|Zk ?_
  revert h; refine Zy fun h=>?_
  subst h
  exact ⟨_,_,(.cons (.tmp rfl) .nil),(.all .here .nil),⟨_,rfl,⟨v62,ms63,rfl,rfl,O65⟩⟩⟩
def Z9e (p0:List Int) (k60:(List Int)→OL) (k94:(Int)→(List Int)→OL) (i92:Int) (a93:List Int):OL :=
 br ((decide (i92<4))) (
 chk (inB i92 4) <|
 bnd (p0.getD (i92).toNat 0) fun z100 =>
 bnd (IntKind.wrap .i64 (8*i92)) fun z102 =>
 chk (Zjj z102 32 32) <|
 opt (Z6i z100) fun y104 =>
 bnd (wr a93 (z102).toNat (y104.take (32-(z102).toNat))) fun l110 =>
 bnd (IntKind.wrap .i64 (i92+1)) fun z112 =>
 k94 z112 l110
 ) (
 k60 a93
 )
def Z5t (p0:List Int) (k60:(List Int)→OL):Nat→(Int)→(List Int)→OL
  | 0,_,_=>none
  | n+1,i92,a93=>Z9e p0 k60 (Z5t p0 k60 n) i92 a93
def Z4o (p0:List Int):OL :=
 jn (fun (a59:List Int)=>some a59) fun k60=>Z5t p0 k60 big 0 (List.replicate 32 0)
theorem Z81 {W:World} {r:(List Int)} {p0:List Int} (h:Z4o p0=some r)  :
    Calls Tryz.prog 161 [agg [.ints .u64 4 (p0)]].toArray W (Z51 W (agg [.ints .u8 32 (r)])):=by
 unfold Z4o at h
 refine Zd mo Z0dv rfl ?_
 refine Z0<|Z2<|Zg (Z16 (s:=[.ints .u64 4 (p0)]) rfl fun b2 hb2=>Zg (Zx fun b3 hb3=>Z1<|Z0<|Z2<|Zg (Zx fun b5 hb5=>Z1<|Z0<|Z0<|Z2<|Z6 _ (Z03 (p:=[.ints .u64 4 (p0)]) rfl (.there (.there .here)) rfl)<|Z7 rfl<|Z1<|jH h fun k60 qk60 h=>Zo (G:=fun t m=>∃ (a59:List Int),k60 a59=some r∧Fit [(2,.pointer (some ⟨b3,0,none⟩)),(3,.pointer (some ⟨b5,0,none⟩))] (ck b5 74 [.ints .u8 32 (a59)]::(ck b3 74 [.ints .u8 32 ((List.replicate 32 0))]::(ck b2 162 [.ints .u64 4 (p0)] :: []))) t m) ?_ ?_)))
 ·refine Zb<|Z01 (fun n95 t m=>∃ (i92:Int) (a93:List Int),Z5t p0 k60 n95 i92 a93=some r∧Fit [(2,.pointer (some ⟨b3,0,none⟩)),(3,.pointer (some ⟨b5,0,none⟩)),(6,agg [.ints .u64 4 (p0)]),(7,.int .i64 (i92))] (ck b5 74 [.ints .u8 32 (a93)]::(ck b3 74 [.ints .u8 32 ((List.replicate 32 0))]::(ck b2 162 [.ints .u64 4 (p0)] :: []))) t m) big ?_ ?_
  ·exact ⟨0,(List.replicate 32 0),h,⟨⟨rfl,rfl,rfl,rfl,trivial⟩,(.one .here (.one .here (.one .here .nil)))⟩⟩
  ·rintro n95 t m ⟨i92,a93,h,hF⟩
   refine Zn hF ?_
   clear hF
   rcases n95 with _ | n95
   · exact Z1d h
   have h:Z9e p0 k60 (Z5t p0 k60 n95) i92 a93=some r:=h
   unfold Z9e at h
   obtain ⟨k94,qk94⟩ : ∃ k,k=Z5t p0 k60 n95:=⟨_,rfl⟩
   try rw [← qk94] at h
   refine Z0<|Z2<|Z6 _ (Za rfl rfl rfl)<|Z1<|Z0<|Z0s h rfl (fun h=>?_) (fun h=>?_)
   ·refine Zm<|Z0<|Zb<|Z0<|cH h fun c99 h=>bH h fun z100 ez100 h=>Z2<|Z7 rfl<|Z6 _ (iz ez100 (Zel (len:=4) rfl rfl (Z1t c99)))<|Z7 rfl<|Z7 rfl<|Z1<|bH h fun z102 ez102 h=>cH h fun c103 h=>oH h fun y104 ey104 h=>bH h fun l110 el110 h=>Zv<|Z8 _ (Z15 rfl)<|Z8 _ (iz ez102 (Za rfl rfl rfl))<|Z8 _ (Z8w rfl (.yes rfl) .no .no (by simp) (cut4 c103))<|Z8 _ (Z15 rfl)<|Z7j (Z00 rfl (fun w hw=>Za4  ey104 ) fun v105 Msv105 R106=>?_)
    obtain ⟨_,ms108,rfl,rfl,O109⟩:=R106
    refine ⟨(by repeat (first | exact Sup.refl _ | apply Sup.cons | apply Sup.app)),Z2j rfl (Zdz (q:=[.ints .u8 32 (l110)]) (lo:=(z102).toNat) (hi:=32) (mz:=32) (base:=0) el110 rfl rfl (Z1v O109 .here) rfl (cutn c103) rfl (.app .here) (Z05 (bH h fun z112 ez112 h=>Z2 (Z6 _ (iz ez112 (Za rfl rfl rfl)) (Z7 rfl (Z1 ?_))))))⟩
    rw [qk94] at h
    exact ⟨n95,Nat.lt_succ_self _,z112,l110,h,⟨⟨rfl,rfl,rfl,rfl,trivial⟩,(.one (.app .here) (.one (.app .here) (.one (.app .here) .nil)))⟩⟩
   ·exact Z0e _ rfl<|⟨a93,h,⟨⟨rfl,rfl,trivial⟩,(.one .here (.one .here (.one .here .nil)))⟩⟩
 ·rintro t m ⟨a59,h,hF⟩
  refine Zn hF ?_
  clear hF
  subst qk60
  refine Z0<|Z2<|Z6 _ (Z03 (p:=[.ints .u8 32 (a59)]) rfl .here rfl)<|Zg (Zu (q:=[.ints .u8 32 (a59)]) rfl rfl rfl rfl rfl (.there .here)<|Z1<|Zk ?_)
  revert h; refine Zy fun h=>?_
  subst h
  exact ⟨_,(.cons (.agg rfl (.there .here) rfl) .nil),rfl⟩
def Z5s (p1:List Int) (k57:(Int)→(List Int)→Option ((List Int)×Int)) (k89:(Int)→(Int)→(List Int)→Option ((List Int)×Int)) (i86:Int) (i87:Int) (a88:List Int):Option ((List Int)×Int) :=
 br ((decide (i87<4))) (
 chk (inB i87 4) <|
 chk (inB i87 4) <|
 bnd (a88.getD (i87).toNat 0) fun z97 =>
 bnd (p1.getD (i87).toNat 0) fun z98 =>
 chk (Zoo z97 z98 i86) <|
 bnd (Zqr z97 z98 i86) fun z100 =>
 bnd (Zqq z97 z98 i86) fun z101 =>
 chk (inB i87 4) <|
 bnd (Z4q a88 (i87).toNat z100) fun l103 =>
 bnd (IntKind.wrap .i64 (i87+1)) fun z105 =>
 k89 z101 z105 l103
 ) (
 k57 i86 a88
 )
def Z26 (p1:List Int) (k57:(Int)→(List Int)→Option ((List Int)×Int)):Nat→(Int)→(Int)→(List Int)→Option ((List Int)×Int)
  | 0,_,_,_=>none
  | n+1,i86,i87,a88=>Z5s p1 k57 (Z26 p1 k57 n) i86 i87 a88
def Z4m (p0:List Int) (p1:List Int):Option ((List Int)×Int) :=
 jn (fun (i55:Int) (a56:List Int)=>some (a56,i55)) fun k57=>Z26 p1 k57 big 0 0 p0
theorem Z80 {W:World} {r:(List Int)×Int} {p0:List Int} {p1:List Int} (h:Z4m p0 p1=some r)  :
    Calls Tryz.prog 131 [agg [.ints .u64 4 (p0)],agg [.ints .u64 4 (p1)]].toArray W (Z51 W (.tuple #[agg [.ints .u64 4 (r.1)],.int .u64 (r.2)])):=by
 unfold Z4m at h
 refine Zd mo Z0dd rfl ?_
 refine Z0<|Z2<|Zg (Z16 (s:=[.ints .u64 4 (p0)]) rfl fun b2 hb2=>Zg (Z16 (s:=[.ints .u64 4 (p1)]) rfl fun b3 hb3=>Zg (Zx fun b4 hb4=>Z7 rfl<|Z1<|Z0<|Z2<|Z7 rfl<|Z1<|Z0<|Z0<|Z2<|Z7 rfl<|Z1<|jH h fun k57 qk57 h=>Zo (G:=fun t m=>∃ (i55:Int) (a56:List Int),k57 i55 a56=some r∧Fit [(2,.pointer (some ⟨b2,0,none⟩)),(4,.pointer (some ⟨b4,0,none⟩)),(6,.int .u64 (i55))] (ck b4 162 [.ints .u64 4 ((List.replicate 4 0))]::(ck b3 162 [.ints .u64 4 (p1)]::(ck b2 162 [.ints .u64 4 (a56)] :: []))) t m) ?_ ?_)))
 ·refine Zb<|Z01 (fun n90 t m=>∃ (i86:Int) (i87:Int) (a88:List Int),Z26 p1 k57 n90 i86 i87 a88=some r∧Fit [(2,.pointer (some ⟨b2,0,none⟩)),(3,.pointer (some ⟨b3,0,none⟩)),(4,.pointer (some ⟨b4,0,none⟩)),(6,.int .u64 (i86)),(8,.int .i64 (i87))] (ck b4 162 [.ints .u64 4 ((List.replicate 4 0))]::(ck b3 162 [.ints .u64 4 (p1)]::(ck b2 162 [.ints .u64 4 (a88)] :: []))) t m) big ?_ ?_
  ·exact ⟨0,0,p0,h,⟨⟨rfl,rfl,rfl,rfl,rfl,trivial⟩,(.one .here (.one .here (.one .here .nil)))⟩⟩
  ·rintro n90 t m ⟨i86,i87,a88,h,hF⟩
   refine Zn hF ?_
   clear hF
   rcases n90 with _ | n90
   · exact Z1d h
   have h:Z5s p1 k57 (Z26 p1 k57 n90) i86 i87 a88=some r:=h
   unfold Z5s at h
   obtain ⟨k89,qk89⟩ : ∃ k,k=Z26 p1 k57 n90:=⟨_,rfl⟩
   try rw [← qk89] at h
   refine Z0<|Z2<|Z6 _ (Za rfl rfl rfl)<|Z1<|Z0<|Z0s h rfl (fun h=>?_) (fun h=>?_)
   ·refine Zm<|Z0<|Zb<|Z0<|Z2<|Z7 rfl<|Z7 rfl<|Z1<|cH h fun c95 h=>cH h fun c96 h=>bH h fun z97 ez97 h=>bH h fun z98 ez98 h=>cH h fun c99 h=>bH h fun z100 ez100 h=>bH h fun z101 ez101 h=>cH h fun c102 h=>bH h fun l103 el103 h=>Zv<|Z8 _ (Z15 rfl)<|Z8 _ (Z15 rfl)<|Z8 _ (Z3d rfl rfl (Z1t c95))<|Z8 _ (Z15 rfl)<|Z8 _ (Z3d rfl rfl (Z1t c96))<|Z8 _ (Z15 rfl)<|Zp _ (iz ez97 (Z8r (base:=0) rfl (.there (.there .here)) rfl (Z0w c95)))<|Zp _ (iz ez98 (Z8r (base:=0) rfl (.there .here) rfl (Z0w c96)))<|Z8 _ (Zbs rfl Ztf (xsub ez100 ez101 c99))<|Z8 _ (Z15 rfl)<|Z8 _ (Z19 rfl rfl)<|Z8 _ (Z19 rfl rfl)<|Z8 _ (Z3d rfl rfl (Z1t c102))<|Z2j rfl (Z5g (q:=[.ints .u64 4 (l103)]) (base:=0) el103 rfl rfl rfl (Z0w c102) rfl (.there (.there .here))<|Z8 _ (Z15 rfl)<|Z05<|bH h fun z105 ez105 h=>Z2<|Z6 _ (iz ez105 (Za rfl rfl rfl))<|Z7 rfl<|Z1 ?_)
    rw [qk89] at h
    exact ⟨n90,Nat.lt_succ_self _,z101,z105,l103,h,⟨⟨rfl,rfl,rfl,rfl,rfl,trivial⟩,(.one .here (.one .here (.one .here .nil)))⟩⟩
   ·exact Z0e _ rfl<|⟨i86,a88,h,⟨⟨rfl,rfl,rfl,trivial⟩,(.one .here (.one .here (.one .here .nil)))⟩⟩
 ·rintro t m ⟨i55,a56,h,hF⟩
  refine Zn hF ?_
  clear hF
  subst qk57
  refine Z0<|Z2<|Z6 _ (Z03 (p:=[.ints .u64 4 (a56)]) rfl (.there (.there .here)) rfl)<|Z7 rfl<|Zg (Zu (q:=[.ints .u64 4 (a56)]) rfl rfl rfl rfl rfl .here<|Z7 rfl<|Z1<|Zk ?_)
  revert h; refine Zy fun h=>?_
  subst h
  exact ⟨_,(.cons (.agg rfl .here rfl) (.cons (.tmp rfl) .nil)),rfl⟩
def Z6d (p1:List Int) (k57:(Int)→(List Int)→Option ((List Int)×Int)) (k89:(Int)→(Int)→(List Int)→Option ((List Int)×Int)) (i86:Int) (i87:Int) (a88:List Int):Option ((List Int)×Int) :=
 br ((decide (i87<4))) (
 chk (inB i87 4) <|
 chk (inB i87 4) <|
 bnd (a88.getD (i87).toNat 0) fun z97 =>
 bnd (p1.getD (i87).toNat 0) fun z98 =>
 chk (Zb7 z97 z98 i86) <|
 bnd (Z8a z97 z98 i86) fun z100 =>
 bnd (Zbb z97 z98 i86) fun z101 =>
 chk (inB i87 4) <|
 bnd (Z4q a88 (i87).toNat z100) fun l103 =>
 bnd (IntKind.wrap .i64 (i87+1)) fun z105 =>
 k89 z101 z105 l103
 ) (
 k57 i86 a88
 )
def Z2i (p1:List Int) (k57:(Int)→(List Int)→Option ((List Int)×Int)):Nat→(Int)→(Int)→(List Int)→Option ((List Int)×Int)
  | 0,_,_,_=>none
  | n+1,i86,i87,a88=>Z6d p1 k57 (Z2i p1 k57 n) i86 i87 a88
def Z42 (p0:List Int) (p1:List Int):Option ((List Int)×Int) :=
 jn (fun (i55:Int) (a56:List Int)=>some (a56,i55)) fun k57=>Z2i p1 k57 big 0 0 p0
theorem Z6g {W:World} {r:(List Int)×Int} {p0:List Int} {p1:List Int} (h:Z42 p0 p1=some r)  :
    Calls Tryz.prog 165 [agg [.ints .u64 4 (p0)],agg [.ints .u64 4 (p1)]].toArray W (Z51 W (.tuple #[agg [.ints .u64 4 (r.1)],.int .u64 (r.2)])):=by
 unfold Z42 at h
 refine Zd mo Z0dz rfl ?_
 refine Z0<|Z2<|Zg (Z16 (s:=[.ints .u64 4 (p0)]) rfl fun b2 hb2=>Zg (Z16 (s:=[.ints .u64 4 (p1)]) rfl fun b3 hb3=>Zg (Zx fun b4 hb4=>Z7 rfl<|Z1<|Z0<|Z2<|Z7 rfl<|Z1<|Z0<|Z0<|Z2<|Z7 rfl<|Z1<|jH h fun k57 qk57 h=>Zo (G:=fun t m=>∃ (i55:Int) (a56:List Int),k57 i55 a56=some r∧Fit [(2,.pointer (some ⟨b2,0,none⟩)),(4,.pointer (some ⟨b4,0,none⟩)),(6,.int .u64 (i55))] (ck b4 162 [.ints .u64 4 ((List.replicate 4 0))]::(ck b3 162 [.ints .u64 4 (p1)]::(ck b2 162 [.ints .u64 4 (a56)] :: []))) t m) ?_ ?_)))
 ·refine Zb<|Z01 (fun n90 t m=>∃ (i86:Int) (i87:Int) (a88:List Int),Z2i p1 k57 n90 i86 i87 a88=some r∧Fit [(2,.pointer (some ⟨b2,0,none⟩)),(3,.pointer (some ⟨b3,0,none⟩)),(4,.pointer (some ⟨b4,0,none⟩)),(6,.int .u64 (i86)),(8,.int .i64 (i87))] (ck b4 162 [.ints .u64 4 ((List.replicate 4 0))]::(ck b3 162 [.ints .u64 4 (p1)]::(ck b2 162 [.ints .u64 4 (a88)] :: []))) t m) big ?_ ?_
  ·exact ⟨0,0,p0,h,⟨⟨rfl,rfl,rfl,rfl,rfl,trivial⟩,(.one .here (.one .here (.one .here .nil)))⟩⟩
  ·rintro n90 t m ⟨i86,i87,a88,h,hF⟩
   refine Zn hF ?_
   clear hF
   rcases n90 with _ | n90
   · exact Z1d h
   have h:Z6d p1 k57 (Z2i p1 k57 n90) i86 i87 a88=some r:=h
   unfold Z6d at h
   obtain ⟨k89,qk89⟩ : ∃ k,k=Z2i p1 k57 n90:=⟨_,rfl⟩
   try rw [← qk89] at h
   refine Z0<|Z2<|Z6 _ (Za rfl rfl rfl)<|Z1<|Z0<|Z0s h rfl (fun h=>?_) (fun h=>?_)
   ·refine Zm<|Z0<|Zb<|Z0<|Z2<|Z7 rfl<|Z7 rfl<|Z1<|cH h fun c95 h=>cH h fun c96 h=>bH h fun z97 ez97 h=>bH h fun z98 ez98 h=>cH h fun c99 h=>bH h fun z100 ez100 h=>bH h fun z101 ez101 h=>cH h fun c102 h=>bH h fun l103 el103 h=>Zv<|Z8 _ (Z15 rfl)<|Z8 _ (Z15 rfl)<|Z8 _ (Z3d rfl rfl (Z1t c95))<|Z8 _ (Z15 rfl)<|Z8 _ (Z3d rfl rfl (Z1t c96))<|Z8 _ (Z15 rfl)<|Zp _ (iz ez97 (Z8r (base:=0) rfl (.there (.there .here)) rfl (Z0w c95)))<|Zp _ (iz ez98 (Z8r (base:=0) rfl (.there .here) rfl (Z0w c96)))<|Z8 _ (Zbs rfl Zcw (Zvu ez100 ez101 c99))<|Z8 _ (Z15 rfl)<|Z8 _ (Z19 rfl rfl)<|Z8 _ (Z19 rfl rfl)<|Z8 _ (Z3d rfl rfl (Z1t c102))<|Z2j rfl (Z5g (q:=[.ints .u64 4 (l103)]) (base:=0) el103 rfl rfl rfl (Z0w c102) rfl (.there (.there .here))<|Z8 _ (Z15 rfl)<|Z05<|bH h fun z105 ez105 h=>Z2<|Z6 _ (iz ez105 (Za rfl rfl rfl))<|Z7 rfl<|Z1 ?_)
    rw [qk89] at h
    exact ⟨n90,Nat.lt_succ_self _,z101,z105,l103,h,⟨⟨rfl,rfl,rfl,rfl,rfl,trivial⟩,(.one .here (.one .here (.one .here .nil)))⟩⟩
   ·exact Z0e _ rfl<|⟨i86,a88,h,⟨⟨rfl,rfl,rfl,trivial⟩,(.one .here (.one .here (.one .here .nil)))⟩⟩
 ·rintro t m ⟨i55,a56,h,hF⟩
  refine Zn hF ?_
  clear hF
  subst qk57
  refine Z0<|Z2<|Z6 _ (Z03 (p:=[.ints .u64 4 (a56)]) rfl (.there (.there .here)) rfl)<|Z7 rfl<|Zg (Zu (q:=[.ints .u64 4 (a56)]) rfl rfl rfl rfl rfl .here<|Z7 rfl<|Z1<|Zk ?_)
  revert h; refine Zy fun h=>?_
  subst h
  exact ⟨_,(.cons (.agg rfl .here rfl) (.cons (.tmp rfl) .nil)),rfl⟩
def Z5r (k297:(List Int)→OL) (a491:List Int) (k541:Unit→OL) (k570:(Int)→OL) (i569:Int):OL :=
 br ((decide (i569≥0))) (
 chk (inB i569 4) <|
 chk (inB i569 4) <|
 bnd (a491.getD (i569).toNat 0) fun z577 =>
 bnd (G_order.getD (i569).toNat 0) fun z578 =>
 br ((decide (z577<z578))) (
 k297 a491
 ) (
 chk (inB i569 4) <|
 chk (inB i569 4) <|
 bnd (a491.getD (i569).toNat 0) fun z583 =>
 bnd (G_order.getD (i569).toNat 0) fun z584 =>
 br ((decide (z583>z584))) (
 k541 ()
 ) (
 bnd (IntKind.wrap .i64 (i569-1)) fun z587 =>
 k570 z587
 )
 )
 ) (
 k541 ()
 )
def Z0b (k297:(List Int)→OL) (a491:List Int) (k541:Unit→OL):Nat→(Int)→OL
  | 0,_=>none
  | n+1,i569=>Z5r k297 a491 k541 (Z0b k297 a491 k541 n) i569
def Z5q (k297:(List Int)→OL) (k492:(List Int)→OL) (a491:List Int):OL :=
 jn (fun (_:Unit)=>opt (Z4m a491 G_order) fun y589 =>
 k492 y589.1) fun k541=>Z0b k297 a491 k541 big 3
def Z2v (k297:(List Int)→OL):Nat→(List Int)→OL
  | 0,_=>none
  | n+1,a491=>Z5q k297 (Z2v k297 n) a491
def Z5p (p0:List Int):OL :=
 jn (fun (a296:List Int)=>some a296) fun k297=>Z2v k297 big p0
theorem Zaj {W:World} {r:(List Int)} {p0:List Int} (h:Z5p p0=some r) (hG:Globs W) :
    Calls Tryz.prog 167 [agg [.ints .u64 4 (p0)]].toArray W (Z51 W (agg [.ints .u64 4 (r)])):=by
 unfold Z5p at h
 refine Zd mo Z0e1 rfl ?_
 refine Z0<|Z2<|Zg (Z16 (s:=[.ints .u64 4 (p0)]) rfl fun b2 hb2=>Zg (Zx fun b3 hb3=>Z1<|Zqx<|Z0<|Z0ag<|Z0<|jH h fun k297 qk297 h=>Zo (G:=fun t m=>∃ (a296:List Int),k297 a296=some r∧Fit [(1,.pointer (some ⟨b2,0,none⟩)),(2,.pointer (some ⟨b3,0,none⟩))] (ck b3 162 [.ints .u64 4 ((List.replicate 4 0))]::(ck b2 162 [.ints .u64 4 (a296)] :: [])) t m) ?_ ?_))
 ·refine Zb<|Z01 (fun n493 t m=>∃ (a491:List Int),Z2v k297 n493 a491=some r∧Fit [(1,.pointer (some ⟨b2,0,none⟩)),(2,.pointer (some ⟨b3,0,none⟩))] (ck b3 162 [.ints .u64 4 ((List.replicate 4 0))]::(ck b2 162 [.ints .u64 4 (a491)] :: [])) t m) big ?_ ?_
  ·exact ⟨p0,h,⟨⟨rfl,rfl,trivial⟩,(.one .here (.one .here .nil))⟩⟩
  ·rintro n493 t m ⟨a491,h,hF⟩
   refine Zn hF ?_
   clear hF
   rcases n493 with _ | n493
   · exact Z1d h
   have h:Z5q k297 (Z2v k297 n493) a491=some r:=h
   unfold Z5q at h
   obtain ⟨k492,qk492⟩ : ∃ k,k=Z2v k297 n493:=⟨_,rfl⟩
   try rw [← qk492] at h
   refine Zb<|Z0<|Z0<|Z2<|Z7 rfl<|Z1<|jH h fun k541 qk541 h=>Zo (G:=fun t m=>k541 ()=some r∧Fit [(1,.pointer (some ⟨b2,0,none⟩)),(2,.pointer (some ⟨b3,0,none⟩))] (ck b3 162 [.ints .u64 4 ((List.replicate 4 0))]::(ck b2 162 [.ints .u64 4 (a491)] :: [])) t m) ?_ ?_
   ·refine Zb<|Z01 (fun n571 t m=>∃ (i569:Int),Z0b k297 a491 k541 n571 i569=some r∧Fit [(1,.pointer (some ⟨b2,0,none⟩)),(2,.pointer (some ⟨b3,0,none⟩)),(3,.int .i64 (i569))] (ck b3 162 [.ints .u64 4 ((List.replicate 4 0))]::(ck b2 162 [.ints .u64 4 (a491)] :: [])) t m) big ?_ ?_
    ·exact ⟨3,h,⟨⟨rfl,rfl,rfl,trivial⟩,(.one .here (.one .here .nil))⟩⟩
    ·rintro n571 t m ⟨i569,h,hF⟩
     refine Zn hF ?_
     clear hF
     rcases n571 with _ | n571
     · exact Z1d h
     have h:Z5r k297 a491 k541 (Z0b k297 a491 k541 n571) i569=some r:=h
     unfold Z5r at h
     obtain ⟨k570,qk570⟩ : ∃ k,k=Z0b k297 a491 k541 n571:=⟨_,rfl⟩
     try rw [← qk570] at h
     refine Z0<|Z0<|Z2<|Z7 rfl<|Z6 _ (Za rfl rfl rfl)<|Z1<|Z0s h rfl (fun h=>?_) (fun h=>?_)
     ·refine Zm<|Z0<|Zb<|Z0<|Z0<|cH h fun c575 h=>cH h fun c576 h=>bH h fun z577 ez577 h=>bH h fun z578 ez578 h=>Zv<|Z8 _ (Z15 rfl)<|Z8 _ (Z3d rfl rfl (Z1t c575))<|Z8 _ (Z15 rfl)<|Z8 _ (Z3d rfl rfl (Z1t c576))<|Zp _ (iz ez577 (Z8r (base:=0) rfl (.there .here) rfl (Z0w c575)))<|Zp _ (iz ez578 (Zrx rfl (hG.g1) (by simp) (Z0w c576)))<|Z8 _ (Za rfl rfl rfl)<|Z05<|Z0s h rfl (fun h=>?_) (fun h=>?_)
      ·exact Z0e _ rfl<|⟨a491,h,⟨⟨rfl,rfl,trivial⟩,(.one .here (.one .here .nil))⟩⟩
      ·refine Zm<|Z0<|cH h fun c581 h=>cH h fun c582 h=>bH h fun z583 ez583 h=>bH h fun z584 ez584 h=>Zv<|Z8 _ (Z15 rfl)<|Z8 _ (Z3d rfl rfl (Z1t c581))<|Z8 _ (Z15 rfl)<|Z8 _ (Z3d rfl rfl (Z1t c582))<|Zp _ (iz ez583 (Z8r (base:=0) rfl (.there .here) rfl (Z0w c581)))<|Zp _ (iz ez584 (Zrx rfl (hG.g1) (by simp) (Z0w c582)))<|Z8 _ (Za rfl rfl rfl)<|Z05<|Z0s h rfl (fun h=>?_) (fun h=>?_)
       ·exact Z0e _ rfl<|⟨h,⟨⟨rfl,rfl,trivial⟩,(.one .here (.one .here .nil))⟩⟩
       ·refine Zm<|bH h fun z587 ez587 h=>Z2<|Z7 rfl<|Z6 _ (iz ez587 (Za rfl rfl rfl))<|Z7 rfl<|Z1 ?_
        rw [qk570] at h
        exact ⟨n571,Nat.lt_succ_self _,z587,h,⟨⟨rfl,rfl,rfl,trivial⟩,(.one .here (.one .here .nil))⟩⟩
     ·exact Z0e _ rfl<|⟨h,⟨⟨rfl,rfl,trivial⟩,(.one .here (.one .here .nil))⟩⟩
   ·rintro t m ⟨h,hF⟩
    refine Zn hF ?_
    clear hF
    subst qk541
    refine oH h fun y589 ey589 h=>Z2<|Z6 _ (Z03 (p:=[.ints .u64 4 (a491)]) rfl (.there .here) rfl)<|Z6 _ (Zm8 (o0:=0) (off:=0) rfl (hG.g1) (by simp) rfl)<|Z6 _ (Z1a rfl (Z80 ey589))<|Z7 rfl<|Z6 _ (Z19 rfl rfl)<|Z6 _ (Z19 rfl rfl)<|Zg (Zu (q:=[.ints .u64 4 (y589.1)]) rfl rfl rfl rfl rfl (.there .here)<|Z1 ?_)
    rw [qk492] at h
    exact ⟨n493,Nat.lt_succ_self _,y589.1,h,⟨⟨rfl,rfl,trivial⟩,(.one .here (.one .here .nil))⟩⟩
 ·rintro t m ⟨a296,h,hF⟩
  refine Zn hF ?_
  clear hF
  subst qk297
  refine Z0<|Z2<|Z6 _ (Z03 (p:=[.ints .u64 4 (a296)]) rfl (.there .here) rfl)<|Zg (Zu (q:=[.ints .u64 4 (a296)]) rfl rfl rfl rfl rfl .here<|Z1<|Zk ?_)
  revert h; refine Zy fun h=>?_
  subst h
  exact ⟨_,(.cons (.agg rfl .here rfl) .nil),rfl⟩
def Z3j (p1:List Int) (i1130:Int) (z1137:Int) (k1245:(List (Int))→(Int)→OL) (k1315:(List (Int))→(Int)→(Int)→OL) (l1311:List (Int)) (i1313:Int) (i1314:Int):OL :=
 br ((decide (i1314<(p1.length:Int)))) (
 chk (inB i1314 p1.length) <|
 bnd (p1.getD (i1314).toNat 0) fun z1321 =>
 opt (Z4d z1137 z1321) fun y1323 =>
 bnd (IntKind.wrap .i64 (i1130+i1314)) fun z1325 =>
 chk (inB z1325 l1311.length) <|
 bnd (l1311.getD (z1325).toNat 0) fun z1327 =>
 chk (Zb7 y1323.2 z1327 0) <|
 bnd (Z8a y1323.2 z1327 0) fun z1329 =>
 bnd (Zbb y1323.2 z1327 0) fun z1330 =>
 bnd (IntKind.wrap .u64 (y1323.1+z1330)) fun z1332 =>
 chk (Zb7 z1329 i1313 0) <|
 bnd (Z8a z1329 i1313 0) fun z1335 =>
 bnd (Zbb z1329 i1313 0) fun z1336 =>
 bnd (IntKind.wrap .i64 (i1130+i1314)) fun z1338 =>
 bnd (IntKind.wrap .u64 (z1332+z1336)) fun z1339 =>
 chk (inB z1338 l1311.length) <|
 bnd (Zew 0 l1311 (z1338).toNat z1335) fun l1341 =>
 bnd (IntKind.wrap .i64 (i1314+1)) fun z1345 =>
 k1315 l1341 z1339 z1345
 ) (
 k1245 l1311 i1313
 )
def Z1g (p1:List Int) (i1130:Int) (z1137:Int) (k1245:(List (Int))→(Int)→OL):Nat→(List (Int))→(Int)→(Int)→OL
  | 0,_,_,_=>none
  | n+1,l1311,i1313,i1314=>Z3j p1 i1130 z1137 k1245 (Z1g p1 i1130 z1137 k1245 n) l1311 i1313 i1314
def Z3i (p0:List Int) (p1:List Int) (k683:(List (Int))→OL) (k1131:(List (Int))→(Int)→OL) (l1128:List (Int)) (i1130:Int):OL :=
 br ((decide (i1130<(p0.length:Int)))) (
 chk (inB i1130 p0.length) <|
 bnd (p0.getD (i1130).toNat 0) fun z1137 =>
 jn (fun (l1242:List (Int)) (i1244:Int)=>bnd (IntKind.wrap .i64 (i1130+(p1.length:Int))) fun z1347 =>
 chk (inB z1347 l1242.length) <|
 bnd (Zew 0 l1242 (z1347).toNat i1244) fun l1349 =>
 bnd (IntKind.wrap .i64 (i1130+1)) fun z1353 =>
 k1131 l1349 z1353) fun k1245=>Z1g p1 i1130 z1137 k1245 big l1128 0 0
 ) (
 k683 l1128
 )
def Z1f (p0:List Int) (p1:List Int) (k683:(List (Int))→OL):Nat→(List (Int))→(Int)→OL
  | 0,_,_=>none
  | n+1,l1128,i1130=>Z3i p0 p1 k683 (Z1f p0 p1 k683 n) l1128 i1130
def Z4p (p0:List Int) (p1:List Int):OL :=
 bnd (IntKind.wrap .i64 ((p0.length:Int)+(p1.length:Int))) fun z3 =>
 chk (mkB 8 z3 z3) <|
 jn (fun (l681:List (Int))=>some l681) fun k683=>Z1f p0 p1 k683 big (List.replicate (z3).toNat 0:List (Int)) 0
theorem Zak {W:World} {r:(List Int)} {p0:List Int} {p1:List Int} {v0:Value} {v1:Value} (h:Z4p p0 p1=some r) (A0:RdSl (El.int .u64) W v0 p0) (A1:RdSl (El.int .u64) W v1 p1) :
    Calls Tryz.prog 168 [v0,v1].toArray W (Zdw W [] (fun v Ms=>∃ (u0:Value) (M0:List Zc),v=u0∧Ms = [.all M0]∧Z1z (El.int .u64) u0 M0 r)):=by
 unfold Z4p at h
 refine Z0o mo Z0e2 rfl (Zh8 _) ?_
 refine Z0<|Z2<|Z7 rfl<|Z1<|Z0<|bH h fun z3 ez3 h=>cH h fun c4 h=>Z2<|Z7 rfl<|Z6 _ (Z2r rfl (Shp.rd A0))<|Z7 rfl<|Z6 _ (Z2r rfl (Shp.rd A1))<|Z6 _ (iz ez3 (Za rfl rfl rfl))<|Zg (Zfi (E:=(El.int .u64)) rfl rfl rfl c4 fun v5 ms6 O7=>Z7 rfl<|Z1<|Z0<|Z0<|Z2<|Z7 rfl<|Z6 _ (Z2r rfl (Shp.rd A0))<|Z7 rfl<|Z1<|jH h fun k683 qk683 h=>Zo (G:=fun t m=>∃ (l681:List (Int)) (v679:Value) (ms680:List Zc),k683 l681=some r∧Z1z (El.int .u64) v679 ms680 l681∧Fit [(5,v679)] (ms680 ++ []) t m) ?_ ?_)
 ·refine Zb<|Z01 (fun n1132 t m=>∃ (l1128:List (Int)) (i1130:Int) (v1126:Value) (ms1127:List Zc),Z1f p0 p1 k683 n1132 l1128 i1130=some r∧Z1z (El.int .u64) v1126 ms1127 l1128∧Fit [(1,v1),(5,v1126),(20,v0),(21,.int .i64 ((p0.length:Int))),(22,.int .i64 (i1130))] (ms1127 ++ []) t m) big ?_ ?_
  ·exact ⟨(List.replicate (z3).toNat 0:List (Int)),0,v5,ms6,h,O7,⟨⟨rfl,rfl,rfl,rfl,rfl,trivial⟩,(.all .here .nil)⟩⟩
  ·rintro n1132 t m ⟨l1128,i1130,v1126,ms1127,h,O1129,hF⟩
   refine Zn hF ?_
   clear hF
   rcases n1132 with _ | n1132
   · exact Z1d h
   have h:Z3i p0 p1 k683 (Z1f p0 p1 k683 n1132) l1128 i1130=some r:=h
   unfold Z3i at h
   obtain ⟨k1131,qk1131⟩ : ∃ k,k=Z1f p0 p1 k683 n1132:=⟨_,rfl⟩
   try rw [← qk1131] at h
   refine Z0<|Z2<|Z6 _ (Za rfl rfl rfl)<|Z1<|Z0<|Z0s h rfl (fun h=>?_) (fun h=>?_)
   ·refine Zm<|Z0<|Zb<|Z0<|cH h fun c1136 h=>bH h fun z1137 ez1137 h=>Z2<|Z7 rfl<|Z6 _ (Z3a rfl rfl (Shp.rd A0) c1136)<|Z6 _ (iz ez1137 (Z9y (E:=(El.int .u64)) (s:=[.one (.int .u64 (p0.getD (i1130).toNat 0))]) rfl (Z0a A0 Z0h) (Z0w c1136) rfl rfl))<|Z7 rfl<|Z7 rfl<|Z1<|Z0<|Z2<|Z7 rfl<|Z1<|Z0<|Z0<|Z2<|Z7 rfl<|Z6 _ (Z2r rfl (Shp.rd A1))<|Z7 rfl<|Z1<|jH h fun k1245 qk1245 h=>Zo (G:=fun t m=>∃ (l1242:List (Int)) (i1244:Int) (v1240:Value) (ms1241:List Zc),k1245 l1242 i1244=some r∧Z1z (El.int .u64) v1240 ms1241 l1242∧Fit [(1,v1),(5,v1240),(6,.int .i64 (i1130)),(8,.int .u64 (i1244)),(20,v0),(21,.int .i64 ((p0.length:Int))),(22,.int .i64 (i1130))] (ms1241 ++ []) t m) ?_ ?_
    ·refine Zb<|Z01 (fun n1316 t m=>∃ (l1311:List (Int)) (i1313:Int) (i1314:Int) (v1309:Value) (ms1310:List Zc),Z1g p1 i1130 z1137 k1245 n1316 l1311 i1313 i1314=some r∧Z1z (El.int .u64) v1309 ms1310 l1311∧Fit [(1,v1),(5,v1309),(6,.int .i64 (i1130)),(7,.int .u64 (z1137)),(8,.int .u64 (i1313)),(20,v0),(21,.int .i64 ((p0.length:Int))),(22,.int .i64 (i1130)),(27,v1),(28,.int .i64 ((p1.length:Int))),(29,.int .i64 (i1314))] (ms1310 ++ []) t m) big ?_ ?_
     ·exact ⟨l1128,0,0,v1126,ms1127,h,O1129,⟨⟨rfl,rfl,rfl,rfl,rfl,rfl,rfl,rfl,rfl,rfl,rfl,trivial⟩,(.all .here .nil)⟩⟩
     ·rintro n1316 t m ⟨l1311,i1313,i1314,v1309,ms1310,h,O1312,hF⟩
      refine Zn hF ?_
      clear hF
      rcases n1316 with _ | n1316
      · exact Z1d h
      have h:Z3j p1 i1130 z1137 k1245 (Z1g p1 i1130 z1137 k1245 n1316) l1311 i1313 i1314=some r:=h
      unfold Z3j at h
      obtain ⟨k1315,qk1315⟩ : ∃ k,k=Z1g p1 i1130 z1137 k1245 n1316:=⟨_,rfl⟩
      try rw [← qk1315] at h
      refine Z0<|Z2<|Z6 _ (Za rfl rfl rfl)<|Z1<|Z0<|Z0s h rfl (fun h=>?_) (fun h=>?_)
      ·refine Zm<|Z0<|Zb<|Z0<|cH h fun c1320 h=>bH h fun z1321 ez1321 h=>Z2<|Z7 rfl<|Z6 _ (Z3a rfl rfl (Shp.rd A1) c1320)<|Z6 _ (iz ez1321 (Z9y (E:=(El.int .u64)) (s:=[.one (.int .u64 (p1.getD (i1314).toNat 0))]) rfl (Z0a A1 Z0h) (Z0w c1320) rfl rfl))<|Z7 rfl<|Z7 rfl<|Z1<|Z0<|oH h fun y1323 ey1323 h=>Z2<|Z7 rfl<|Z7 rfl<|Z6 _ (Z1a rfl (Z8u ey1323))<|Z7 rfl<|Z6 _ (Z19 rfl rfl)<|Z6 _ (Z19 rfl rfl)<|Z7 rfl<|Z7 rfl<|Z1<|Z0<|bH h fun z1325 ez1325 h=>cH h fun c1326 h=>bH h fun z1327 ez1327 h=>cH h fun c1328 h=>bH h fun z1329 ez1329 h=>bH h fun z1330 ez1330 h=>Z2<|Z7 rfl<|Z7 rfl<|Z7 rfl<|Z7 rfl<|Z6 _ (iz ez1325 (Za rfl rfl rfl))<|Z6 _ (Z3a rfl rfl (Shp.own O1312) c1326)<|Z6 _ (iz ez1327 (Z9y (E:=(El.int .u64)) (s:=[.one (.int .u64 (l1311.getD (z1325).toNat 0))]) rfl (Z1v O1312 .here) (Z0w c1326) rfl rfl))<|Z6 _ (Zbs rfl Zcw (Zvu ez1329 ez1330 c1328))<|Z7 rfl<|Z6 _ (Z19 rfl rfl)<|Z6 _ (Z19 rfl rfl)<|Z7 rfl<|Z7 rfl<|Z1<|Z0<|bH h fun z1332 ez1332 h=>Z2<|Z7 rfl<|Z7 rfl<|Z6 _ (iz ez1332 (Za rfl rfl rfl))<|Z7 rfl<|Z1<|Z0<|cH h fun c1334 h=>bH h fun z1335 ez1335 h=>bH h fun z1336 ez1336 h=>Z2<|Z7 rfl<|Z7 rfl<|Z6 _ (Zbs rfl Zcw (Zvu ez1335 ez1336 c1334))<|Z7 rfl<|Z6 _ (Z19 rfl rfl)<|Z6 _ (Z19 rfl rfl)<|Z7 rfl<|Z7 rfl<|Z1<|bH h fun z1338 ez1338 h=>bH h fun z1339 ez1339 h=>cH h fun c1340 h=>bH h fun l1341 el1341 h=>Z2<|Z7 rfl<|Z7 rfl<|Z7 rfl<|Z6 _ (iz ez1338 (Za rfl rfl rfl))<|Z7 rfl<|Z7 rfl<|Z7 rfl<|Z6 _ (iz ez1339 (Za rfl rfl rfl))<|Z6 _ (Z3a rfl rfl (Shp.own O1312) c1340)<|Zg (Zid (E:=(El.int .u64)) el1341 O1312 .here rfl rfl rfl (Z0w c1340) fun ms1342 O1343=>Z7 rfl<|Z1<|bH h fun z1345 ez1345 h=>Z2<|Z6 _ (iz ez1345 (Za rfl rfl rfl))<|Z7 rfl<|Z1 ?_)
       rw [qk1315] at h
       exact ⟨n1316,Nat.lt_succ_self _,l1341,z1339,z1345,v1309,ms1342,h,O1343,⟨⟨rfl,rfl,rfl,rfl,rfl,rfl,rfl,rfl,rfl,rfl,rfl,trivial⟩,(.all .here .nil)⟩⟩
      ·exact Z0e _ rfl<|⟨l1311,i1313,v1309,ms1310,h,O1312,⟨⟨rfl,rfl,rfl,rfl,rfl,rfl,rfl,trivial⟩,(.all .here .nil)⟩⟩
    ·rintro t m ⟨l1242,i1244,v1240,ms1241,h,O1243,hF⟩
     refine Zn hF ?_
     clear hF
     subst qk1245
     refine bH h fun z1347 ez1347 h=>cH h fun c1348 h=>bH h fun l1349 el1349 h=>Z2<|Z7 rfl<|Z7 rfl<|Z7 rfl<|Z6 _ (Z2r rfl (Shp.rd A1))<|Z6 _ (iz ez1347 (Za rfl rfl rfl))<|Z7 rfl<|Z6 _ (Z3a rfl rfl (Shp.own O1243) c1348)<|Zg (Zid (E:=(El.int .u64)) el1349 O1243 .here rfl rfl rfl (Z0w c1348) fun ms1350 O1351=>Z1<|bH h fun z1353 ez1353 h=>Z2<|Z6 _ (iz ez1353 (Za rfl rfl rfl))<|Z7 rfl<|Z1 ?_)
     rw [qk1131] at h
     exact ⟨n1132,Nat.lt_succ_self _,l1349,z1353,v1240,ms1350,h,O1351,⟨⟨rfl,rfl,rfl,rfl,rfl,trivial⟩,(.all .here .nil)⟩⟩
   ·exact Z0e _ rfl<|⟨l1128,v1126,ms1127,h,O1129,⟨⟨rfl,trivial⟩,(.all .here .nil)⟩⟩
 ·rintro t m ⟨l681,v679,ms680,h,O682,hF⟩
  refine Zn hF ?_
  clear hF
  subst qk683
  refine Z0<|Z2<|Z7 rfl<|Z7 rfl<|Z1<|Zk ?_
  revert h; refine Zy fun h=>?_
  subst h
  exact ⟨_,_,(.cons (.tmp rfl) .nil),(.all .here .nil),⟨_,rfl,⟨v679,ms680,rfl,rfl,O682⟩⟩⟩
def Z1n (p0:List Int) (k130:(List (Int))→Option ((List Int)×(List Int))) (k207:(List (Int))→(Int)→Option ((List Int)×(List Int))) (l204:List (Int)) (i206:Int):Option ((List Int)×(List Int)) :=
 br ((decide (i206<(p0.length:Int)))) (
 chk (inB i206 p0.length) <|
 bnd (p0.getD (i206).toNat 0) fun z213 =>
 bnd (Zi .u64 z213 60) fun z214 =>
 bnd (IntKind.wrap .i64 (i206+1)) fun z216 =>
 jn (fun (i224:Int)=>chk (decide ((l204.length+([i224]:List (Int)).length)*8≤140737488355328)) <|
 bnd (l204++([i224]:List (Int))) fun l238 =>
 bnd (IntKind.wrap .i64 (i206+1)) fun z243 =>
 k207 l238 z243) fun k225=>br ((decide (z216<(p0.length:Int)))) (
 bnd (IntKind.wrap .i64 (i206+1)) fun z228 =>
 chk (inB z228 p0.length) <|
 bnd (p0.getD (z228).toNat 0) fun z230 =>
 bnd (Zq .u64 z230 4) fun z231 =>
 bnd (Z4 .or .u64 z214 z231) fun z232 =>
 k225 z232
 ) (
 k225 z214
 )
 ) (
 k130 l204
 )
def Z0r (p0:List Int) (k130:(List (Int))→Option ((List Int)×(List Int))):Nat→(List (Int))→(Int)→Option ((List Int)×(List Int))
  | 0,_,_=>none
  | n+1,l204,i206=>Z1n p0 k130 (Z0r p0 k130 n) l204 i206
def Z4n (p0:List Int):Option ((List Int)×(List Int)) :=
 bnd (wr (List.replicate 4 0) 0 (p0.take 4)) fun l6 =>
 bnd (l6.getD 3 0) fun z8 =>
 bnd (Z4 .and .u64 z8 1152921504606846975) fun z9 =>
 bnd (Z4q l6 3 z9) fun l10 =>
 jn (fun (l128:List (Int))=>some (l10,l128)) fun k130=>Z0r p0 k130 big [] 3
theorem Zec {W:World} {r:(List Int)×(List Int)} {p0:List Int} {v0:Value} (h:Z4n p0=some r) (A0:RdSl (El.int .u64) W v0 p0) :
    Calls Tryz.prog 205 [v0].toArray W (Zdw W [] (fun v Ms=>∃ (u1:Value) (M1:List Zc),v = .tuple #[agg [.ints .u64 4 (r.1)],u1]∧Ms = [.all M1]∧Z1z (El.int .u64) u1 M1 r.2)):=by
 unfold Z4n at h
 refine Z0o mo Z0eg rfl (Zh8 _) ?_
 refine Z0<|Z2<|Zg (Zx fun b2 hb2=>Z7 rfl<|Z1<|Z0<|Z2<|Zg (Zx fun b4 hb4=>Z1<|Z0<|bH h fun l6 el6 h=>Z2<|Z6 _ (Z8w rfl .no .no .no (by simp) (by decide))<|Z7 rfl<|Zg (Zdz (q:=[.ints .u64 4 (l6)]) (lo:=0) (hi:=4) (mz:=4) (base:=0) (cpy0 el6) rfl rfl (Z0a A0 Z0h) rfl (by decide) rfl .here<|Z1<|Z0<|bH h fun z8 ez8 h=>bH h fun z9 ez9 h=>bH h fun l10 el10 h=>Z2<|Z6 _ (Z3d rfl rfl (by decide))<|Z6 _ (iz ez8 (Z2g rfl .here rfl))<|Z6 _ (iz ez9 (Za rfl rfl rfl))<|Z6 _ (Z3d rfl rfl (by decide))<|Zg (Z98 (q:=[.ints .u64 4 (l10)]) (congrArg (fun z=>([.ints .u64 4 (z)]:List Seg)) el10.symm) rfl rfl rfl rfl .here<|Z1<|Z0<|Z2<|Z7 rfl<|Z1<|Z0<|Z0<|Z2<|Z7 rfl<|Z1<|jH h fun k130 qk130 h=>Zo (G:=fun t m=>∃ (l128:List (Int)) (v126:Value) (ms127:List Zc),k130 l128=some r∧Z1z (El.int .u64) v126 ms127 l128∧Fit [(2,.pointer (some ⟨b2,0,none⟩)),(4,.pointer (some ⟨b4,0,none⟩)),(5,v126)] (ck b4 162 [.ints .u64 4 (l10)]::(ck b2 162 [.ints .u64 4 ((List.replicate 4 0))]::(ms127 ++ []))) t m) ?_ ?_))))
 ·refine Zb<|Z01 (fun n208 t m=>∃ (l204:List (Int)) (i206:Int) (v202:Value) (ms203:List Zc),Z0r p0 k130 n208 l204 i206=some r∧Z1z (El.int .u64) v202 ms203 l204∧Fit [(0,v0),(2,.pointer (some ⟨b2,0,none⟩)),(4,.pointer (some ⟨b4,0,none⟩)),(5,v202),(6,.int .i64 (i206))] (ck b4 162 [.ints .u64 4 (l10)]::(ck b2 162 [.ints .u64 4 ((List.replicate 4 0))]::(ms203 ++ []))) t m) big ?_ ?_
  ·exact ⟨[],3,(.slice none 0 0),[],h,Z7x,⟨⟨rfl,rfl,rfl,rfl,rfl,trivial⟩,(.one .here (.one .here (.no .nil)))⟩⟩
  ·rintro n208 t m ⟨l204,i206,v202,ms203,h,O205,hF⟩
   refine Zn hF ?_
   clear hF
   rcases n208 with _ | n208
   · exact Z1d h
   have h:Z1n p0 k130 (Z0r p0 k130 n208) l204 i206=some r:=h
   unfold Z1n at h
   obtain ⟨k207,qk207⟩ : ∃ k,k=Z0r p0 k130 n208:=⟨_,rfl⟩
   try rw [← qk207] at h
   refine Z0<|Z0<|Z2<|Z7 rfl<|Z7 rfl<|Z6 _ (Z2r rfl (Shp.rd A0))<|Z6 _ (Za rfl rfl rfl)<|Z1<|Z0s h rfl (fun h=>?_) (fun h=>?_)
   ·refine Zm<|Z0<|Zb<|Z0<|cH h fun c212 h=>bH h fun z213 ez213 h=>bH h fun z214 ez214 h=>Z2<|Z7 rfl<|Z7 rfl<|Z6 _ (Z3a rfl rfl (Shp.rd A0) c212)<|Z6 _ (iz ez213 (Z9y (E:=(El.int .u64)) (s:=[.one (.int .u64 (p0.getD (i206).toNat 0))]) rfl (Z0a A0 Z0h) (Z0w c212) rfl rfl))<|Z6 _ (iz ez214 (Z7a rfl rfl (by decide)))<|Z7 rfl<|Z1<|Z0<|Z0<|bH h fun z216 ez216 h=>Z2<|Z7 rfl<|Z6 _ (iz ez216 (Za rfl rfl rfl))<|Z7 rfl<|Z6 _ (Z2r rfl (Shp.rd A0))<|Z6 _ (Za rfl rfl rfl)<|Z1<|jH h fun k225 qk225 h=>Zo (G:=fun t m=>∃ (i224:Int),k225 i224=some r∧Fit [(0,v0),(2,.pointer (some ⟨b2,0,none⟩)),(4,.pointer (some ⟨b4,0,none⟩)),(5,v202),(6,.int .i64 (i206)),(7,.int .u64 (i224))] (ck b4 162 [.ints .u64 4 (l10)]::(ck b2 162 [.ints .u64 4 ((List.replicate 4 0))]::(ms203 ++ []))) t m) ?_ ?_
    ·refine Z0s h rfl (fun h=>?_) (fun h=>?_)
     ·exact bH h fun z228 ez228 h=>cH h fun c229 h=>bH h fun z230 ez230 h=>bH h fun z231 ez231 h=>bH h fun z232 ez232 h=>Z2<|Z7 rfl<|Z7 rfl<|Z7 rfl<|Z6 _ (iz ez228 (Za rfl rfl rfl))<|Z6 _ (Z3a rfl rfl (Shp.rd A0) c229)<|Z6 _ (iz ez230 (Z9y (E:=(El.int .u64)) (s:=[.one (.int .u64 (p0.getD (z228).toNat 0))]) rfl (Z0a A0 Z0h) (Z0w c229) rfl rfl))<|Z6 _ (iz ez231 (Zhv rfl rfl (by decide)))<|Z6 _ (iz ez232 (Za rfl rfl rfl))<|Z7 rfl<|Z1<|⟨z232,h,⟨⟨rfl,rfl,rfl,rfl,rfl,rfl,trivial⟩,(.one .here (.one .here (.all .here .nil)))⟩⟩
     ·exact Zm<|⟨z214,h,⟨⟨rfl,rfl,rfl,rfl,rfl,rfl,trivial⟩,(.one .here (.one .here (.all .here .nil)))⟩⟩
    ·rintro t m ⟨i224,h,hF⟩
     refine Zn hF ?_
     clear hF
     subst qk225
     refine cH h fun c237 h=>bH h fun l238 el238 h=>Z2<|Z7 rfl<|Z7 rfl<|Zg (Z9n (E:=(El.int .u64)) (xs:=[i224]) (.one rfl rfl rfl BdR.nil) (.cons (p:=[.one (.int .u64 (i224))]) rfl .nil) rfl fun v234 ms235 O236=>Zg (Zbf (E:=(El.int .u64)) el238 rfl O205 (.app (.there (.there .here))) rfl (Z1v O236 .here) c237 fun v239 ms240 O241=>Z7 rfl<|Z1<|bH h fun z243 ez243 h=>Z2<|Z7 rfl<|Z6 _ (iz ez243 (Za rfl rfl rfl))<|Z7 rfl<|Z1 ?_))
     rw [qk207] at h
     exact ⟨n208,Nat.lt_succ_self _,l238,z243,v239,ms240,h,O241,⟨⟨rfl,rfl,rfl,rfl,rfl,trivial⟩,(.one (.app (.app .here)) (.one (.app (.app .here)) (.all .here .nil)))⟩⟩
   ·exact Z0e _ rfl<|⟨l204,v202,ms203,h,O205,⟨⟨rfl,rfl,rfl,trivial⟩,(.one .here (.one .here (.all .here .nil)))⟩⟩
 ·rintro t m ⟨l128,v126,ms127,h,O129,hF⟩
  refine Zn hF ?_
  clear hF
  subst qk130
  refine Z0<|Z2<|Z6 _ (Z03 (p:=[.ints .u64 4 (l10)]) rfl .here rfl)<|Z7 rfl<|Zg (Zu (q:=[.ints .u64 4 (l10)]) rfl rfl rfl rfl rfl (.there .here)<|Z7 rfl<|Z1<|Zk ?_)
  revert h; refine Zy fun h=>?_
  subst h
  exact ⟨_,_,(.cons (.agg rfl (.there .here) rfl) (.cons (.tmp rfl) .nil)),(.all (.there (.there .here)) .nil),⟨_,rfl,⟨v126,ms127,rfl,rfl,O129⟩⟩⟩
def Z9d:OL :=
 some ([6346243789798364141,1503914060200516822]:List (Int))
theorem Zev {W:World} {r:(List Int)} (h:Z9d=some r)  :
    Calls Tryz.prog 206 [].toArray W (Zdw W [] (fun v Ms=>∃ (u0:Value) (M0:List Zc),v=u0∧Ms = [.all M0]∧Z1z (El.int .u64) u0 M0 r)):=by
 unfold Z9d at h
 refine Z0o mo Z0eh rfl (Zh8 _) ?_
 refine Z0<|Z2<|Z7 rfl<|Z1<|Z0<|Z2<|Zg (Z9n (E:=(El.int .u64)) (xs:=[6346243789798364141,1503914060200516822]) (.one rfl rfl rfl (.one rfl rfl rfl BdR.nil)) (.cons (p:=[.one (.int .u64 (6346243789798364141))]) rfl (.cons (p:=[.one (.int .u64 (1503914060200516822))]) rfl .nil)) rfl fun v3 ms4 O5=>Z7 rfl<|Z1<|Zk ?_)
 revert h; refine Zy fun h=>?_
 subst h
 exact ⟨_,_,(.cons (.tmp rfl) .nil),(.all .here .nil),⟨_,rfl,⟨v3,ms4,rfl,rfl,O5⟩⟩⟩
abbrev Z46:El (List Int):=⟨4,fun x=>cells [.ints .u64 4 (x)],fun x=>by rw [cells_length]; rfl,fun x=>(Z3h Z8j Z88),by decide,(List.replicate 4 0)⟩
def Z33 (k122:(List (List Int))→OL) (k201:(List (Int))→(Int)→(List (List Int))→OL) (l196:List (Int)) (i199:Int) (a200:List (List Int)):OL :=
 br ((decide (i199<4))) (
 opt (Z4n l196) fun y209 =>
 bnd (Int.tmod i199 2) fun z216 =>
 bnd (Int.tmod i199 2) fun z217 =>
 chk (inB z217 2) <|
 bnd (a200.getD (z217).toNat (List.replicate 4 0)) fun x219 =>
 opt (Z42 x219 y209.1) fun y220 =>
 chk (inB z216 2) <|
 bnd (Zew (List.replicate 4 0) a200 (z216).toNat y220.1) fun l222 =>
 opt (Z9d ) fun y224 =>
 opt (Z4p y209.2 y224) fun y230 =>
 bnd (IntKind.wrap .i64 (i199+1)) fun z237 =>
 k201 y230 z237 l222
 ) (
 k122 a200
 )
def Z0q (k122:(List (List Int))→OL):Nat→(List (Int))→(Int)→(List (List Int))→OL
  | 0,_,_,_=>none
  | n+1,l196,i199,a200=>Z33 k122 (Z0q k122 n) l196 i199 a200
def Z37 (p0:List Int):OL :=
 jn (fun (a121:List (List Int))=>opt (Z42 G_order G_order) fun y239 =>
 bnd (a121.getD 0 (List.replicate 4 0)) fun x242 =>
 opt (Z42 x242 y239.1) fun y243 =>
 bnd (a121.getD 1 (List.replicate 4 0)) fun x246 =>
 opt (Z4m y243.1 x246) fun y247 =>
 opt (Z5p y247.1) fun y249 =>
 some y249) fun k122=>Z0q k122 big p0 0 (List.replicate 2 (List.replicate 4 0))
theorem Z7e {W:World} {r:(List Int)} {p0:List Int} {v0:Value} (h:Z37 p0=some r) (hG:Globs W) (A0:RdSl (El.int .u64) W v0 p0) :
    Calls Tryz.prog 162 [v0].toArray W (Z51 W (agg [.ints .u64 4 (r)])):=by
 unfold Z37 at h
 refine Zd mo Z0dw rfl ?_
 refine Z0<|Z2<|Zg (Zx fun b2 hb2=>Z1<|Z0<|Z2<|Zg (Zef (z':=[.rows 4 2 (Z8p Z46 ((List.replicate 2 (List.replicate 4 0))))]) (Z9l (E:=Z46) rfl rfl) fun b4 hb4=>Z1<|Z0<|Z0<|Z2<|Z7 rfl<|Z1<|jH h fun k122 qk122 h=>Zo (G:=fun t m=>∃ (a121:List (List Int)),k122 a121=some r∧Fit [(2,.pointer (some ⟨b2,0,none⟩)),(3,.pointer (some ⟨b4,0,none⟩))] (ck b4 229 [.rows 4 2 (Z8p Z46 (a121))]::(ck b2 162 [.ints .u64 4 ((List.replicate 4 0))] :: [])) t m) ?_ ?_))
 ·refine Zb<|Z01 (fun n202 t m=>∃ (l196:List (Int)) (i199:Int) (a200:List (List Int)) (v194:Value) (ms195:List Zc),Z0q k122 n202 l196 i199 a200=some r∧Zgo (⟨Tryz.prog,d162.n,W,[]⟩:Cfg) ms195 (El.int .u64) v194 l196∧Shp v194 l196.length∧Fit [(0,v194),(2,.pointer (some ⟨b2,0,none⟩)),(3,.pointer (some ⟨b4,0,none⟩)),(10,.int .i64 (i199))] (ck b4 229 [.rows 4 2 (Z8p Z46 (a200))]::(ck b2 162 [.ints .u64 4 ((List.replicate 4 0))]::(ms195 ++ []))) t m) big ?_ ?_
  ·exact ⟨p0,0,(List.replicate 2 (List.replicate 4 0)),v0,[],h,(Z0a A0 Z0h),(Shp.rd A0),⟨⟨rfl,rfl,rfl,rfl,trivial⟩,(.one .here (.one .here (.no .nil)))⟩⟩
  ·rintro n202 t m ⟨l196,i199,a200,v194,ms195,h,H197,Z198,hF⟩
   refine Zn hF ?_
   clear hF
   rcases n202 with _ | n202
   · exact Z1d h
   have h:Z33 k122 (Z0q k122 n202) l196 i199 a200=some r:=h
   unfold Z33 at h
   obtain ⟨k201,qk201⟩ : ∃ k,k=Z0q k122 n202:=⟨_,rfl⟩
   try rw [← qk201] at h
   refine Z0<|Z2<|Z6 _ (Za rfl rfl rfl)<|Z1<|Z0<|Z0s h rfl (fun h=>?_) (fun h=>?_)
   ·refine Zm<|Z0<|Zb<|Z0<|Z2<|Z7 rfl<|Z7 rfl<|Z1<|Z0<|Z2<|Zg (Zx fun b207 hb207=>Z1<|Z0<|oH h fun y209 ey209 h=>Z2<|Z7 rfl<|Zg (Z00 rfl (fun w hw=>Zec (r:=y209) (p0:=l196) ey209 ((Z0lr H197 (.there (.there (.there .here)))) w hw)) fun v210 Msv210 R211=>?_))
    obtain ⟨v212,ms213,rfl,rfl,O214⟩:=R211
    refine Z7 rfl<|Z6 _ (Z19 rfl rfl)<|Z6 _ (Z19 rfl rfl)<|Zg (Zu (q:=[.ints .u64 4 (y209.1)]) rfl rfl rfl rfl rfl (.app .here)<|Z7 rfl<|Z1<|Z0<|bH h fun z216 ez216 h=>bH h fun z217 ez217 h=>cH h fun c218 h=>bH h fun x219 ex219 h=>oH h fun y220 ey220 h=>cH h fun c221 h=>bH h fun l222 el222 h=>Zv<|Z8 _ (Z15 rfl)<|Z8 _ (iz ez216 (Ziw rfl rfl (by decide)))<|Z8 _ (Z15 rfl)<|Z8 _ (iz ez217 (Ziw rfl rfl (by decide)))<|Z8 _ (Z3d rfl rfl (Z1t c218))<|Zp _ (az (fun x219=>agg [.ints .u64 4 (x219)]) ex219 (Ziu (base:=0) (w:=4) rfl (.app (.there .here)) rfl (Z0w c218) rfl rfl rfl))<|Zp _ (Z03 (p:=[.ints .u64 4 (y209.1)]) rfl (.app .here) rfl)<|Z8 _ (Z0n (vs:=[agg [.ints .u64 4 (x219)],agg [.ints .u64 4 (y209.1)]]) (v:=.tuple #[agg [.ints .u64 4 (y220.1)],.int .u64 (y220.2)]) rfl (fun w hw=>Z6g (r:=y220) (p0:=x219) (p1:=y209.1) ey220 ))<|Z8 _ (Z15 rfl)<|Z8 _ (Z19 rfl rfl)<|Z8 _ (Z19 rfl rfl)<|Z8 _ (Z3d rfl rfl (Z1t c221))<|Z2j rfl (Zjr (q:=[.rows 4 2 (Z8p Z46 (l222))]) (E:=Z46) (base:=0) el222 rfl rfl rfl rfl (Z0w c221) rfl (.app (.there .here))<|Z05<|oH h fun y224 ey224 h=>oH h fun y230 ey230 h=>Z2<|Z7 rfl<|Zg (Z00 rfl (fun w hw=>Zev (r:=y224) ey224 ) fun v225 Msv225 R226=>?_)))
    obtain ⟨_,ms228,rfl,rfl,O229⟩:=R226
    refine Zg (Z00 rfl (fun w hw=>Zak (r:=y230) (p0:=y209.2) (p1:=y224) ey230 ((Z1v O214 (.app .here)) w hw) ((Z1v O229 .here) w hw)) fun v231 Msv231 R232=>?_)
    obtain ⟨_,ms234,rfl,rfl,O235⟩:=R232
    refine Z7 rfl<|Z1<|bH h fun z237 ez237 h=>Z2<|Z6 _ (iz ez237 (Za rfl rfl rfl))<|Z7 rfl<|Z1 ?_
    rw [qk201] at h
    exact ⟨n202,Nat.lt_succ_self _,y230,z237,l222,v231,ms234,h,(Zva O235),(Shp.own O235),⟨⟨rfl,rfl,rfl,rfl,trivial⟩,(.one (.app (.app (.app (.there .here)))) (.one (.app (.app (.app (.there .here)))) (.all .here .nil)))⟩⟩
   ·exact Z0e _ rfl<|⟨a200,h,⟨⟨rfl,rfl,trivial⟩,(.one .here (.one .here .nil))⟩⟩
 ·rintro t m ⟨a121,h,hF⟩
  refine Zn hF ?_
  clear hF
  subst qk122
  refine Z0<|oH h fun y239 ey239 h=>Z2<|Z6 _ (Zm8 (o0:=0) (off:=0) rfl (hG.g1) (by simp) rfl)<|Z6 _ (Zm8 (o0:=0) (off:=0) rfl (hG.g1) (by simp) rfl)<|Z6 _ (Z0n (vs:=[agg [.ints .u64 4 (G_order)],agg [.ints .u64 4 (G_order)]]) (v:=.tuple #[agg [.ints .u64 4 (y239.1)],.int .u64 (y239.2)]) rfl (fun w hw=>Z6g (r:=y239) (p0:=G_order) (p1:=G_order) ey239 ))<|Z7 rfl<|Z6 _ (Z19 rfl rfl)<|Z6 _ (Z19 rfl rfl)<|Zg (Zx fun b240 hb240=>Zg (Zu (q:=[.ints .u64 4 (y239.1)]) rfl rfl rfl rfl rfl .here<|Z7 rfl<|Z1<|Z0<|bH h fun x242 ex242 h=>oH h fun y243 ey243 h=>Z2<|Z6 _ (Z3d rfl rfl (by decide))<|Z6 _ (az (fun x242=>agg [.ints .u64 4 (x242)]) ex242 (Zu8 (base:=0) (i:=0) (c:=0) (w:=4) (len:=2) rfl (.there .here) rfl (by decide) rfl rfl rfl))<|Z6 _ (Z03 (p:=[.ints .u64 4 (y239.1)]) rfl .here rfl)<|Z6 _ (Z0n (vs:=[agg [.ints .u64 4 (x242)],agg [.ints .u64 4 (y239.1)]]) (v:=.tuple #[agg [.ints .u64 4 (y243.1)],.int .u64 (y243.2)]) rfl (fun w hw=>Z6g (r:=y243) (p0:=x242) (p1:=y239.1) ey243 ))<|Z7 rfl<|Z6 _ (Z19 rfl rfl)<|Z6 _ (Z19 rfl rfl)<|Zg (Zx fun b244 hb244=>Zg (Zu (q:=[.ints .u64 4 (y243.1)]) rfl rfl rfl rfl rfl .here<|Z7 rfl<|Z1<|Z0<|bH h fun x246 ex246 h=>oH h fun y247 ey247 h=>Z2<|Z6 _ (Z03 (p:=[.ints .u64 4 (y243.1)]) rfl .here rfl)<|Z6 _ (Z3d rfl rfl (by decide))<|Z6 _ (az (fun x246=>agg [.ints .u64 4 (x246)]) ex246 (Zu8 (base:=0) (i:=1) (c:=0) (w:=4) (len:=2) rfl (.there (.there .here)) rfl (by decide) rfl rfl rfl))<|Z6 _ (Z0n (vs:=[agg [.ints .u64 4 (y243.1)],agg [.ints .u64 4 (x246)]]) (v:=.tuple #[agg [.ints .u64 4 (y247.1)],.int .u64 (y247.2)]) rfl (fun w hw=>Z80 (r:=y247) (p0:=y243.1) (p1:=x246) ey247 ))<|Z7 rfl<|Z6 _ (Z19 rfl rfl)<|Z6 _ (Z19 rfl rfl)<|Zg (Zu (q:=[.ints .u64 4 (y247.1)]) rfl rfl rfl rfl rfl .here<|Z1<|Z0<|oH h fun y249 ey249 h=>Z2<|Z6 _ (Z03 (p:=[.ints .u64 4 (y247.1)]) rfl .here rfl)<|Z6 _ (Z0n (vs:=[agg [.ints .u64 4 (y247.1)]]) (v:=agg [.ints .u64 4 (y249)]) rfl (fun w hw=>Zaj (r:=y249) (p0:=y247.1) ey249 (hG.at hw (by simp))))<|Zg (Zu (q:=[.ints .u64 4 (y249)]) rfl rfl rfl rfl rfl (.there (.there (.there .here)))<|Z1<|Zk ?_))))))
  revert h; refine Zy fun h=>?_
  subst h
  exact ⟨_,(.cons (.agg rfl (.there (.there (.there .here))) rfl) .nil),rfl⟩
def Z8s (p0:List Int) (k40:(List Int)→OL) (k61:(Int)→(List Int)→OL) (i59:Int) (a60:List Int):OL :=
 br ((decide (i59<8))) (
 bnd (IntKind.wrap .i64 (8*i59)) fun z67 =>
 opt (Z56 (tk p0 0 64) z67) fun y68 =>
 chk (inB i59 8) <|
 bnd (Z4q a60 (i59).toNat y68.1) fun l70 =>
 bnd (IntKind.wrap .i64 (i59+1)) fun z72 =>
 k61 z72 l70
 ) (
 k40 a60
 )
def Z3r (p0:List Int) (k40:(List Int)→OL):Nat→(Int)→(List Int)→OL
  | 0,_,_=>none
  | n+1,i59,a60=>Z8s p0 k40 (Z3r p0 k40 n) i59 a60
def Z7d (p0:List Int):OL :=
 jn (fun (a39:List Int)=>opt (Z37 (tk a39 0 8)) fun y74 =>
 opt (Z4o y74) fun y75 =>
 some y75) fun k40=>Z3r p0 k40 big 0 (List.replicate 8 0)
theorem Zdq {W:World} {r:(List Int)} {p0:List Int} (h:Z7d p0=some r) (hG:Globs W) :
    Calls Tryz.prog 98 [agg [.ints .u8 64 (p0)]].toArray W (Z51 W (agg [.ints .u8 32 (r)])):=by
 unfold Z7d at h
 refine Zd mo ok98 rfl ?_
 refine Z0<|Z2<|Zg (Z16 (s:=[.ints .u8 64 (p0)]) rfl fun b2 hb2=>Zg (Zx fun b3 hb3=>Z1<|Z0<|Z2<|Zg (Zx fun b5 hb5=>Z1<|Z0<|Z0<|Z2<|Z7 rfl<|Z1<|jH h fun k40 qk40 h=>Zo (G:=fun t m=>∃ (a39:List Int),k40 a39=some r∧Fit [(2,.pointer (some ⟨b3,0,none⟩)),(3,.pointer (some ⟨b5,0,none⟩))] (ck b5 144 [.ints .u64 8 (a39)]::(ck b3 74 [.ints .u8 32 ((List.replicate 32 0))]::(ck b2 94 [.ints .u8 64 (p0)] :: []))) t m) ?_ ?_)))
 ·refine Zb<|Z01 (fun n62 t m=>∃ (i59:Int) (a60:List Int),Z3r p0 k40 n62 i59 a60=some r∧Fit [(1,.pointer (some ⟨b2,0,none⟩)),(2,.pointer (some ⟨b3,0,none⟩)),(3,.pointer (some ⟨b5,0,none⟩)),(5,.int .i64 (i59))] (ck b5 144 [.ints .u64 8 (a60)]::(ck b3 74 [.ints .u8 32 ((List.replicate 32 0))]::(ck b2 94 [.ints .u8 64 (p0)] :: []))) t m) big ?_ ?_
  ·exact ⟨0,(List.replicate 8 0),h,⟨⟨rfl,rfl,rfl,rfl,trivial⟩,(.one .here (.one .here (.one .here .nil)))⟩⟩
  ·rintro n62 t m ⟨i59,a60,h,hF⟩
   refine Zn hF ?_
   clear hF
   rcases n62 with _ | n62
   · exact Z1d h
   have h:Z8s p0 k40 (Z3r p0 k40 n62) i59 a60=some r:=h
   unfold Z8s at h
   obtain ⟨k61,qk61⟩ : ∃ k,k=Z3r p0 k40 n62:=⟨_,rfl⟩
   try rw [← qk61] at h
   refine Z0<|Z2<|Z6 _ (Za rfl rfl rfl)<|Z1<|Z0<|Z0s h rfl (fun h=>?_) (fun h=>?_)
   ·refine Zm<|Z0<|Zb<|Z0<|Z2<|Z7 rfl<|Z7 rfl<|Z1<|bH h fun z67 ez67 h=>oH h fun y68 ey68 h=>cH h fun c69 h=>bH h fun l70 el70 h=>Z2<|Z7 rfl<|Z6 _ (Z8w rfl .no .no .no (by simp) (by decide))<|Z7 rfl<|Z6 _ (iz ez67 (Za rfl rfl rfl))<|Z6 _ (Z0n rfl (fun w hw=>Z72 ey68 ((Z1x (s:=[.ints .u8 64 (p0)]) (N:=64) (k:=.u8) (base:=0) (lo:=0) (hi:=64) (mz:=64) (.there (.there .here)) rfl (by decide)) w hw)))<|Z7 rfl<|Z6 _ (Z19 rfl rfl)<|Z6 _ (Z19 rfl rfl)<|Z6 _ (Z3d rfl rfl (Z1t c69))<|Zg (Z5g (q:=[.ints .u64 8 (l70)]) (base:=0) el70 rfl rfl rfl (Z0w c69) rfl .here<|Z1<|bH h fun z72 ez72 h=>Z2<|Z6 _ (iz ez72 (Za rfl rfl rfl))<|Z7 rfl<|Z1 ?_)
    rw [qk61] at h
    exact ⟨n62,Nat.lt_succ_self _,z72,l70,h,⟨⟨rfl,rfl,rfl,rfl,trivial⟩,(.one .here (.one .here (.one .here .nil)))⟩⟩
   ·exact Z0e _ rfl<|⟨a60,h,⟨⟨rfl,rfl,trivial⟩,(.one .here (.one .here (.one .here .nil)))⟩⟩
 ·rintro t m ⟨a39,h,hF⟩
  refine Zn hF ?_
  clear hF
  subst qk40
  refine Z0<|oH h fun y74 ey74 h=>oH h fun y75 ey75 h=>Z2<|Z6 _ (Z8w rfl .no .no .no (by simp) (by decide))<|Z6 _ (Z0n rfl (fun w hw=>Z7e ey74 (hG.at hw (by simp)) ((Z1x (s:=[.ints .u64 8 (a39)]) (N:=8) (k:=.u64) (base:=0) (lo:=0) (hi:=8) (mz:=8) .here rfl (by decide)) w hw)))<|Z6 _ (Z1a rfl (Z81 ey75))<|Zg (Zu (q:=[.ints .u8 32 (y75)]) rfl rfl rfl rfl rfl (.there .here)<|Z1<|Zk ?_)
  revert h; refine Zy fun h=>?_
  subst h
  exact ⟨_,(.cons (.agg rfl (.there .here) rfl) .nil),rfl⟩
def Z8o (p0:List (List Int)) (k55:(List Int)→(List Int)→(Int)→(Int)→OL) (k85:(Int)→(List Int)→(List Int)→(Int)→(Int)→OL) (i80:Int) (a81:List Int) (a82:List Int) (i83:Int) (i84:Int):OL :=
 br ((decide (i80<(p0.length:Int)))) (
 chk (inB i80 p0.length) <|
 opt (Z0v (⟨a81,a82,i83,i84⟩:Zj) (p0.getD (i80).toNat [])) fun y92 =>
 bnd (IntKind.wrap .i64 (i80+1)) fun z96 =>
 k85 z96 y92.gstate y92.gheld y92.ghave y92.glength
 ) (
 k55 a81 a82 i83 i84
 )
def Z4r (p0:List (List Int)) (k55:(List Int)→(List Int)→(Int)→(Int)→OL):Nat→(Int)→(List Int)→(List Int)→(Int)→(Int)→OL
  | 0,_,_,_,_,_=>none
  | n+1,i80,a81,a82,i83,i84=>Z8o p0 k55 (Z4r p0 k55 n) i80 a81 a82 i83 i84
def Z8n (p0:List (List Int)):OL :=
 opt (Z90 ) fun y4 =>
 jn (fun (a51:List Int) (a52:List Int) (i53:Int) (i54:Int)=>opt (Z1w (⟨a51,a52,i53,i54⟩:Zj)) fun y98 =>
 opt (Z7d y98.1) fun y101 =>
 some y101) fun k55=>Z4r p0 k55 big 0 y4.gstate y4.gheld y4.ghave y4.glength
theorem Z43 {W:World} {r:(List Int)} {p0:List (List Int)} {v0:Value} {us0:List SlT} (h:Z8n p0=some r) (hG:Globs W) (A0:RdSl El.sl W v0 us0) (B0:Zd2 (El.int .u8) W us0 p0) :
    Calls Tryz.prog 52 [v0].toArray W (Z51 W (agg [.ints .u8 32 (r)])):=by
 unfold Z8n at h
 refine Zd mo ok52 rfl ?_
 refine Z0<|Z2<|Zg (Zx fun b2 hb2=>Z1<|Z0<|oH h fun y4 ey4 h=>Z2<|Zg (Z00 rfl (fun w hw=>Zbw  ey4 (hG.at hw (by simp))) fun v5 Msv5 R6=>?_))
 obtain ⟨b7,T8,rfl,rfl⟩:=R6
 refine Z7 rfl<|Z1<|Z0<|Z0<|Z2<|Z7 rfl<|Z6 _ ((Zni (Z2r rfl (Shp.rd A0)) (Zd2.len B0)))<|Z7 rfl<|Z1<|jH h fun k55 qk55 h=>Zo (G:=fun t m=>∃ (a51:List Int) (a52:List Int) (i53:Int) (i54:Int),k55 a51 a52 i53 i54=some r∧Fit [(2,.pointer (some ⟨b2,0,none⟩)),(3,.pointer (some ⟨b7,0,none⟩))] (ck b7 T8 [.ints .u64 8 (a51),.ints .u8 128 (a52),.one (.int .i64 (i53)),.one (.int .u64 (i54))]::(ck b2 74 [.ints .u8 32 ((List.replicate 32 0))] :: [])) t m) ?_ ?_
 ·refine Zb<|Z01 (fun n86 t m=>∃ (i80:Int) (a81:List Int) (a82:List Int) (i83:Int) (i84:Int),Z4r p0 k55 n86 i80 a81 a82 i83 i84=some r∧Fit [(2,.pointer (some ⟨b2,0,none⟩)),(3,.pointer (some ⟨b7,0,none⟩)),(7,v0),(8,.int .i64 ((p0.length:Int))),(9,.int .i64 (i80))] (ck b7 T8 [.ints .u64 8 (a81),.ints .u8 128 (a82),.one (.int .i64 (i83)),.one (.int .u64 (i84))]::(ck b2 74 [.ints .u8 32 ((List.replicate 32 0))] :: [])) t m) big ?_ ?_
  ·exact ⟨0,y4.gstate,y4.gheld,y4.ghave,y4.glength,h,⟨⟨rfl,rfl,rfl,rfl,rfl,trivial⟩,(.one .here (.one .here .nil))⟩⟩
  ·rintro n86 t m ⟨i80,a81,a82,i83,i84,h,hF⟩
   refine Zn hF ?_
   clear hF
   rcases n86 with _ | n86
   · exact Z1d h
   have h:Z8o p0 k55 (Z4r p0 k55 n86) i80 a81 a82 i83 i84=some r:=h
   unfold Z8o at h
   obtain ⟨k85,qk85⟩ : ∃ k,k=Z4r p0 k55 n86:=⟨_,rfl⟩
   try rw [← qk85] at h
   refine Z0<|Z2<|Z6 _ (Za rfl rfl rfl)<|Z1<|Z0<|Z0s h rfl (fun h=>?_) (fun h=>?_)
   ·refine Zm<|Z0<|Zb<|Z0<|cH h fun c90 h=>Z2<|Z6 _ (Z3a rfl rfl (Shp.rd A0) (Zhg B0 c90))<|Z6 _ (Z9y (E:=El.sl) (s:=[.one (slV (us0.getD (i80).toNat (none,0,0)))]) rfl (Z0a A0 Z0h) (Z0w (Zhg B0 c90)) rfl rfl)<|Z7 rfl<|Z1<|oH h fun y92 ey92 h=>Z2<|Z7 rfl<|Z7 rfl<|Zg (Z4s (mS:=[_]) rfl (Z3z.perm .here) (fun w hw=>Z4f (p0:=(⟨a81,a82,i83,i84⟩:Zj)) ey92 (Za0 hw (mS:=[_]) (Z3z.perm .here)) (hG.at hw (by simp)) (hG.ap (by simp) .here hw) ⟨(Z0a (Zd2.get B0 _ (Z0w c90)) Z0h) w hw,(Zi6 (E:=(El.int .u8)) (Zd2.get B0 _ (Z0w c90)) .here hw)⟩) fun v93 Msv93 R94=>?_)
    obtain ⟨rfl,rfl⟩:=R94
    refine Z1<|bH h fun z96 ez96 h=>Z2<|Z6 _ (iz ez96 (Za rfl rfl rfl))<|Z7 rfl<|Z1 ?_
    rw [qk85] at h
    exact ⟨n86,Nat.lt_succ_self _,z96,y92.gstate,y92.gheld,y92.ghave,y92.glength,h,⟨⟨rfl,rfl,rfl,rfl,rfl,trivial⟩,(.one .here (.one .here .nil))⟩⟩
   ·exact Z0e _ rfl<|⟨a81,a82,i83,i84,h,⟨⟨rfl,rfl,trivial⟩,(.one .here (.one .here .nil))⟩⟩
 ·rintro t m ⟨a51,a52,i53,i54,h,hF⟩
  refine Zn hF ?_
  clear hF
  subst qk55
  refine Z0<|oH h fun y98 ey98 h=>oH h fun y101 ey101 h=>Z2<|Z7 rfl<|Zg (Z4s (mS:=[_]) rfl (Z3z.perm .here) (fun w hw=>Z7l (p0:=(⟨a51,a52,i53,i54⟩:Zj)) ey98 (Za0 hw (mS:=[_]) (Z3z.perm .here)) (hG.at hw (by simp)) (hG.ap (by simp) .here hw)) fun v99 Msv99 R100=>?_)
  obtain ⟨rfl,rfl⟩:=R100
  refine Z6 _ (Z0n rfl (fun w hw=>Zdq ey101 (hG.at hw (by simp))))<|Zg (Zu (q:=[.ints .u8 32 (y101)]) rfl rfl rfl rfl rfl (.there .here)<|Z1<|Zk ?_)
  revert h; refine Zy fun h=>?_
  subst h
  exact ⟨_,(.cons (.agg rfl (.there .here) rfl) .nil),rfl⟩
def Z48 (p0:List Int):Option (Bool) :=
 opt (Z23 p0) fun y4 =>
 opt (Z7u y4) fun y5 =>
 some (ieq 32 y5 p0)
theorem Zck {W:World} {r:Bool} {p0:List Int} (h:Z48 p0=some r)  :
    Calls Tryz.prog 121 [agg [.ints .u8 32 (p0)]].toArray W (Z51 W (.bool (r))):=by
 unfold Z48 at h
 refine Zd mo Z0d3 rfl ?_
 refine Z0<|Z2<|Zg (Z16 (s:=[.ints .u8 32 (p0)]) rfl fun b2 hb2=>Z7 rfl<|Z1<|Z0<|oH h fun y4 ey4 h=>oH h fun y5 ey5 h=>Zv<|Zp _ (Z03 (p:=[.ints .u8 32 (p0)]) rfl .here rfl)<|Z8 _ (Z1a rfl (Z45 ey4))<|Z8 _ (Z1a rfl (Zb0 ey5))<|Zp _ (Z03 (p:=[.ints .u8 32 (p0)]) rfl .here rfl)<|Z8 _ (Zgj rfl rfl rfl rfl _ (Z87 Z5z))<|Z8 _ (Z15 rfl)<|Z05<|Zk ?_)
 revert h; refine Zy fun h=>?_
 subst h
 exact ⟨_,(.cons (.tmp rfl) .nil),rfl⟩
def Z3v (p0:List Int):Option (Bool) :=
 opt (Z0y p0) fun y4 =>
 bnd (([0,0,0,0,0]:List Int)) fun z5 =>
 some (ieq 5 y4 z5)
theorem Z7v {W:World} {r:Bool} {p0:List Int} (h:Z3v p0=some r)  :
    Calls Tryz.prog 129 [agg [.ints .u64 5 (p0)]].toArray W (Z51 W (.bool (r))):=by
 unfold Z3v at h
 refine Zd mo Z0db rfl ?_
 refine Z0<|Z2<|Zg (Z16 (s:=[.ints .u64 5 (p0)]) rfl fun b2 hb2=>Z7 rfl<|Z1<|Z0<|oH h fun y4 ey4 h=>bH h fun z5 ez5 h=>Z2<|Z6 _ (Z03 (p:=[.ints .u64 5 (p0)]) rfl .here rfl)<|Z6 _ (Z1a rfl (Z0f ey4))<|Z6 _ (az (fun z=>agg [.ints .u64 5 z]) ez5 (Zdv BdR.nil))<|Z6 _ (Zgj rfl rfl rfl rfl _ (Z87 Z5z))<|Z7 rfl<|Z1<|Zk ?_)
 revert h; refine Zy fun h=>?_
 subst h
 exact ⟨_,(.cons (.tmp rfl) .nil),rfl⟩
def Z6j (p0:List Int) (p1:List Int):Option (Bool) :=
 opt (Z0y p0) fun y5 =>
 opt (Z0y p1) fun y6 =>
 some (ieq 5 y5 y6)
theorem Zb1 {W:World} {r:Bool} {p0:List Int} {p1:List Int} (h:Z6j p0 p1=some r)  :
    Calls Tryz.prog 187 [agg [.ints .u64 5 (p0)],agg [.ints .u64 5 (p1)]].toArray W (Z51 W (.bool (r))):=by
 unfold Z6j at h
 refine Zd mo Z0e5 rfl ?_
 refine Z0<|Z2<|Zg (Z16 (s:=[.ints .u64 5 (p0)]) rfl fun b2 hb2=>Zg (Z16 (s:=[.ints .u64 5 (p1)]) rfl fun b3 hb3=>Z7 rfl<|Z1<|Z0<|oH h fun y5 ey5 h=>oH h fun y6 ey6 h=>Zv<|Zp _ (Z03 (p:=[.ints .u64 5 (p0)]) rfl (.there .here) rfl)<|Z8 _ (Z1a rfl (Z0f ey5))<|Zp _ (Z03 (p:=[.ints .u64 5 (p1)]) rfl .here rfl)<|Z8 _ (Z1a rfl (Z0f ey6))<|Z8 _ (Zgj rfl rfl rfl rfl _ (Z87 Z5z))<|Z8 _ (Z15 rfl)<|Z05<|Zk ?_))
 revert h; refine Zy fun h=>?_
 subst h
 exact ⟨_,(.cons (.tmp rfl) .nil),rfl⟩
def Z6y (p0:Bool) (p1:List Int) (p2:List Int):OL :=
 br (p0) (
 opt (Z0y p1) fun y8 =>
 some y8
 ) (
 opt (Z0y p2) fun y10 =>
 some y10
 )
theorem Ze4 {W:World} {r:(List Int)} {p0:Bool} {p1:List Int} {p2:List Int} (h:Z6y p0 p1 p2=some r)  :
    Calls Tryz.prog 189 [.bool (p0),agg [.ints .u64 5 (p1)],agg [.ints .u64 5 (p2)]].toArray W (Z51 W (agg [.ints .u64 5 (r)])):=by
 unfold Z6y at h
 refine Zd mo Z0e7 rfl ?_
 refine Z0<|Z2<|Zg (Z16 (s:=[.ints .u64 5 (p1)]) rfl fun b2 hb2=>Zg (Z16 (s:=[.ints .u64 5 (p2)]) rfl fun b3 hb3=>Zg (Zx fun b4 hb4=>Z1<|Z0<|Z0<|Z2<|Z7 rfl<|Z1<|Z0s h rfl (fun h=>?_) (fun h=>?_))))
 ·refine Z0<|oH h fun y8 ey8 h=>Z2<|Z6 _ (Z03 (p:=[.ints .u64 5 (p1)]) rfl (.there (.there .here)) rfl)<|Z6 _ (Z1a rfl (Z0f ey8))<|Zg (Zu (q:=[.ints .u64 5 (y8)]) rfl rfl rfl rfl rfl .here<|Z1<|Zk ?_)
  revert h; refine Zy fun h=>?_
  subst h
  exact ⟨_,(.cons (.agg rfl .here rfl) .nil),rfl⟩
 ·refine Zm<|Z0<|oH h fun y10 ey10 h=>Z2<|Z6 _ (Z03 (p:=[.ints .u64 5 (p2)]) rfl (.there .here) rfl)<|Z6 _ (Z1a rfl (Z0f ey10))<|Zg (Zu (q:=[.ints .u64 5 (y10)]) rfl rfl rfl rfl rfl .here<|Z1<|Zk ?_)
  revert h; refine Zy fun h=>?_
  subst h
  exact ⟨_,(.cons (.agg rfl .here rfl) .nil),rfl⟩
def Z5i (p0:List Int) (p1:List Int):Option ((List Int)×Bool) :=
 opt (Z3v p1) fun y6 =>
 br (y6) (
 bnd (([0,0,0,0,0]:List Int)) fun z9 =>
 opt (Z3v p0) fun y10 =>
 some (z9,y10)
 ) (
 opt (Z0x p1) fun y12 =>
 opt (Z09 y12 p1) fun y13 =>
 opt (Z0x y13) fun y16 =>
 opt (Z09 p0 y16) fun y17 =>
 opt (Z09 y17 p1) fun y18 =>
 opt (Z09 p0 y13) fun y21 =>
 opt (Z5j 253 15) fun y22 =>
 opt (Z8g y18 y22) fun y23 =>
 opt (Z09 y21 y23) fun y24 =>
 opt (Z0x y24) fun y27 =>
 opt (Z09 p1 y27) fun y28 =>
 jn (fun (a44:List Int)=>opt (Z6k a44) fun y61 =>
 opt (Z49 a44) fun y62 =>
 opt (Z6y y61 y62 a44) fun y63 =>
 some (y63,true)) fun k45=>opt (Z6j y28 p0) fun y47 =>
 br (y47) (
 k45 y24
 ) (
 opt (Z49 p0) fun y50 =>
 opt (Z6j y28 y50) fun y51 =>
 br (y51) (
 opt (Z7w 2) fun y54 =>
 opt (Z5j 251 31) fun y55 =>
 opt (Z8g y54 y55) fun y56 =>
 opt (Z09 y24 y56) fun y57 =>
 k45 y57
 ) (
 bnd (([0,0,0,0,0]:List Int)) fun z59 =>
 some (z59,false)
 )
 )
 )
theorem Zcl {W:World} {r:(List Int)×Bool} {p0:List Int} {p1:List Int} (h:Z5i p0 p1=some r)  :
    Calls Tryz.prog 125 [agg [.ints .u64 5 (p0)],agg [.ints .u64 5 (p1)]].toArray W (Z51 W (.tuple #[agg [.ints .u64 5 (r.1)],.bool (r.2)])):=by
 unfold Z5i at h
 refine Zd mo Z0d7 rfl ?_
 refine Z0<|Z2<|Zg (Z16 (s:=[.ints .u64 5 (p0)]) rfl fun b2 hb2=>Zg (Z16 (s:=[.ints .u64 5 (p1)]) rfl fun b3 hb3=>Zg (Zx fun b4 hb4=>Z7 rfl<|Z1<|Z0<|Z0<|oH h fun y6 ey6 h=>Z2<|Z6 _ (Z03 (p:=[.ints .u64 5 (p1)]) rfl (.there .here) rfl)<|Z6 _ (Z1a rfl (Z7v ey6))<|Z1<|Z0s h rfl (fun h=>?_) (fun h=>?_))))
 ·refine Z0<|bH h fun z9 ez9 h=>oH h fun y10 ey10 h=>Z2<|Z6 _ (az (fun z=>agg [.ints .u64 5 z]) ez9 (Zdv BdR.nil))<|Z6 _ (Z03 (p:=[.ints .u64 5 (p0)]) rfl (.there (.there .here)) rfl)<|Z6 _ (Z1a rfl (Z7v ey10))<|Zg (Zu (q:=[.ints .u64 5 (z9)]) rfl rfl rfl rfl rfl .here<|Z7 rfl<|Z1<|Zk ?_)
  revert h; refine Zy fun h=>?_
  subst h
  exact ⟨_,(.cons (.agg rfl .here rfl) (.cons (.tmp rfl) .nil)),rfl⟩
 ·refine Zm<|Z0<|oH h fun y12 ey12 h=>oH h fun y13 ey13 h=>Zv<|Zp _ (Z03 (p:=[.ints .u64 5 (p1)]) rfl (.there .here) rfl)<|Z8 _ (Z1a rfl (Z1i ey12))<|Zp _ (Z03 (p:=[.ints .u64 5 (p1)]) rfl (.there .here) rfl)<|Z8 _ (Z1a rfl (Zw ey13))<|Z7j (Zx fun b14 hb14=>⟨(by repeat (first | exact Sup.refl _ | apply Sup.cons | apply Sup.app)),Z2j rfl (Zu (q:=[.ints .u64 5 (y13)]) rfl rfl rfl rfl rfl .here (Z05 (Z0 (oH h fun y16 ey16 h=>oH h fun y17 ey17 h=>oH h fun y18 ey18 h=>Zv (Zp _ (Z03 (p:=[.ints .u64 5 (p0)]) rfl (.there (.there (.there .here))) rfl) (Zp _ (Z03 (p:=[.ints .u64 5 (y13)]) rfl .here rfl) (Z8 _ (Z1a rfl (Z1i ey16)) (Z8 _ (Z1a rfl (Zw ey17)) (Zp _ (Z03 (p:=[.ints .u64 5 (p1)]) rfl (.there (.there .here)) rfl) (Z8 _ (Z1a rfl (Zw ey18)) (Z7j (Zx fun b19 hb19=>⟨(by repeat (first | exact Sup.refl _ | apply Sup.cons | apply Sup.app)),Z2j rfl (Zu (q:=[.ints .u64 5 (y18)]) rfl rfl rfl rfl rfl .here (Z05 (Z0 (oH h fun y21 ey21 h=>oH h fun y22 ey22 h=>oH h fun y23 ey23 h=>oH h fun y24 ey24 h=>Zv (Zp _ (Z03 (p:=[.ints .u64 5 (p0)]) rfl (.there (.there (.there (.there .here)))) rfl) (Zp _ (Z03 (p:=[.ints .u64 5 (y13)]) rfl (.there .here) rfl) (Z8 _ (Z1a rfl (Zw ey21)) (Z8 _ (Z1a rfl (Z8q ey22)) (Zp _ (Z03 (p:=[.ints .u64 5 (y18)]) rfl .here rfl) (Z8 _ (Z1a rfl (Z9v ey23)) (Z8 _ (Z1a rfl (Zw ey24)) (Z7j (Zx fun b25 hb25=>⟨(by repeat (first | exact Sup.refl _ | apply Sup.cons | apply Sup.app)),Z2j rfl (Zu (q:=[.ints .u64 5 (y24)]) rfl rfl rfl rfl rfl .here (Z05 (Z0 (Z0 (oH h fun y27 ey27 h=>oH h fun y28 ey28 h=>Zv (Zp _ (Z03 (p:=[.ints .u64 5 (p1)]) rfl (.there (.there (.there (.there .here)))) rfl) (Zp _ (Z03 (p:=[.ints .u64 5 (y24)]) rfl .here rfl) (Z8 _ (Z1a rfl (Z1i ey27)) (Z8 _ (Z1a rfl (Zw ey28)) (Z7j (Zx fun b29 hb29=>⟨(by repeat (first | exact Sup.refl _ | apply Sup.cons | apply Sup.app)),Z2j rfl (Zu (q:=[.ints .u64 5 (y28)]) rfl rfl rfl rfl rfl .here (Z05 (jH h fun k45 qk45 h=>Zo (G:=fun t m=>∃ (a44:List Int),k45 a44=some r∧Fit [(4,.pointer (some ⟨b4,0,none⟩)),(8,.pointer (some ⟨b25,0,none⟩))] (ck b29 80 [.ints .u64 5 (y28)]::(ck b25 80 [.ints .u64 5 (a44)]::(ck b19 80 [.ints .u64 5 (y18)]::(ck b14 80 [.ints .u64 5 (y13)]::(ck b4 80 [.ints .u64 5 ((List.replicate 5 0))]::(ck b3 80 [.ints .u64 5 (p1)]::(ck b2 80 [.ints .u64 5 (p0)] :: []))))))) t m) ?_ ?_)))⟩)))))))))))⟩)))))))))))))⟩))))))))))))⟩)
  ·refine Zb<|Z0<|oH h fun y47 ey47 h=>Z2<|Z6 _ (Z03 (p:=[.ints .u64 5 (y28)]) rfl .here rfl)<|Z6 _ (Z03 (p:=[.ints .u64 5 (p0)]) rfl (.there (.there (.there (.there (.there (.there .here)))))) rfl)<|Z6 _ (Z1a rfl (Zb1 ey47))<|Z7 rfl<|Z1<|Z0s h rfl (fun h=>?_) (fun h=>?_)
   ·exact Zm<|⟨y24,h,⟨⟨rfl,rfl,trivial⟩,(.one .here (.one .here (.one .here (.one .here (.one .here (.one .here (.one .here .nil)))))))⟩⟩
   ·refine Z0<|oH h fun y50 ey50 h=>oH h fun y51 ey51 h=>Zv<|Zp _ (Z03 (p:=[.ints .u64 5 (y28)]) rfl .here rfl)<|Zp _ (Z03 (p:=[.ints .u64 5 (p0)]) rfl (.there (.there (.there (.there (.there (.there .here)))))) rfl)<|Z8 _ (Z1a rfl (Z50 ey50))<|Z8 _ (Z1a rfl (Zb1 ey51))<|Z8 _ (Z15 rfl)<|Z05<|Z0s h rfl (fun h=>?_) (fun h=>?_)
    ·exact oH h fun y54 ey54 h=>oH h fun y55 ey55 h=>oH h fun y56 ey56 h=>oH h fun y57 ey57 h=>Zv<|Z8 _ (Z1a rfl (Zb3 ey54))<|Z8 _ (Z1a rfl (Z8q ey55))<|Z8 _ (Z1a rfl (Z9v ey56))<|Zp _ (Z03 (p:=[.ints .u64 5 (y24)]) rfl (.there .here) rfl)<|Z8 _ (Z1a rfl (Zw ey57))<|Z2j rfl (Zu (q:=[.ints .u64 5 (y57)]) rfl rfl rfl rfl rfl (.there .here)<|Z05<|⟨y57,h,⟨⟨rfl,rfl,trivial⟩,(.one .here (.one .here (.one .here (.one .here (.one .here (.one .here (.one .here .nil)))))))⟩⟩)
    ·refine Z0<|bH h fun z59 ez59 h=>Z2<|Z6 _ (az (fun z=>agg [.ints .u64 5 z]) ez59 (Zdv BdR.nil))<|Zg (Zu (q:=[.ints .u64 5 (z59)]) rfl rfl rfl rfl rfl (.there (.there (.there (.there .here))))<|Z7 rfl<|Z1<|Zk ?_)
     revert h; refine Zy fun h=>?_
     subst h
     exact ⟨_,(.cons (.agg rfl (.there (.there (.there (.there .here)))) rfl) (.cons (.tmp rfl) .nil)),rfl⟩
  ·rintro t m ⟨a44,h,hF⟩
   refine Zn hF ?_
   clear hF
   subst qk45
   refine Z0<|oH h fun y61 ey61 h=>oH h fun y62 ey62 h=>oH h fun y63 ey63 h=>Zv<|Zp _ (Z03 (p:=[.ints .u64 5 (a44)]) rfl (.there .here) rfl)<|Z8 _ (Z1a rfl (Zb2 ey61))<|Zp _ (Z03 (p:=[.ints .u64 5 (a44)]) rfl (.there .here) rfl)<|Z8 _ (Z1a rfl (Z50 ey62))<|Zp _ (Z03 (p:=[.ints .u64 5 (a44)]) rfl (.there .here) rfl)<|Z8 _ (Z1a rfl (Ze4 ey63))<|Z2j rfl (Zu (q:=[.ints .u64 5 (y63)]) rfl rfl rfl rfl rfl (.there (.there (.there (.there .here))))<|Z8 _ (Z15 rfl)<|Z05<|Zk ?_)
   revert h; refine Zy fun h=>?_
   subst h
   exact ⟨_,(.cons (.agg rfl (.there (.there (.there (.there .here)))) rfl) (.cons (.tmp rfl) .nil)),rfl⟩
def Z96:OL :=
 bnd (([929955233495203,466365720129213,1662059464998953,2033849074728123,1442794654840575]:List Int)) fun z4 =>
 some z4
theorem Zeq {W:World} {r:(List Int)} (h:Z96=some r)  :
    Calls Tryz.prog 128 [].toArray W (Z51 W (agg [.ints .u64 5 (r)])):=by
 unfold Z96 at h
 refine Zd mo Z0da rfl ?_
 refine Z0<|Z2<|Zg (Zx fun b2 hb2=>Z1<|Z0<|bH h fun z4 ez4 h=>Z2<|Z6 _ (az (fun z=>agg [.ints .u64 5 z]) ez4 (Zdv (.one rfl rfl rfl (.one rfl rfl rfl (.one rfl rfl rfl (.one rfl rfl rfl (.one rfl rfl rfl BdR.nil)))))))<|Zg (Zu (q:=[.ints .u64 5 (z4)]) rfl rfl rfl rfl rfl .here<|Z1<|Zk ?_))
 revert h; refine Zy fun h=>?_
 subst h
 exact ⟨_,(.cons (.agg rfl .here rfl) .nil),rfl⟩
def Z8b (p0:List Int):Option (Z9×Bool) :=
 bnd (p0.getD 31 0) fun z5 =>
 bnd (Zi .u8 z5 7) fun z6 =>
 bnd (p0.getD 31 0) fun z8 =>
 bnd (Z4 .and .u8 z8 127) fun z9 =>
 bnd (Z4q p0 31 z9) fun l10 =>
 opt (Z48 l10) fun y12 =>
 br ((!y12)) (
 some ((⟨(List.replicate 5 0),(List.replicate 5 0),(List.replicate 5 0),(List.replicate 5 0)⟩:Z9),false)
 ) (
 opt (Z23 l10) fun y16 =>
 opt (Z0x y16) fun y19 =>
 opt (Z6r) fun y22 =>
 opt (Z3x y19 y22) fun y25 =>
 opt (Z96) fun y26 =>
 opt (Z09 y26 y19) fun y27 =>
 opt (Z1s y27 y22) fun y28 =>
 opt (Z5i y25 y28) fun y29 =>
 chk (imp (!(!y29.2)) (imp (z6==1) ((Z3v y29.1).isSome))) <|
 br (((!y29.2)||((z6==1)&&((Z3v y29.1).getD false)))) (
 some ((⟨(List.replicate 5 0),(List.replicate 5 0),(List.replicate 5 0),(List.replicate 5 0)⟩:Z9),false)
 ) (
 jn (fun (a39:List Int)=>opt (Z09 a39 y16) fun y45 =>
 some ((⟨a39,y16,y22,y45⟩:Z9),true)) fun k40=>br ((z6==1)) (
 opt (Z49 y29.1) fun y43 =>
 k40 y43
 ) (
 k40 y29.1
 )
 )
 )
theorem Zdy {W:World} {r:Z9×Bool} {p0:List Int} (h:Z8b p0=some r)  :
    Calls Tryz.prog 66 [agg [.ints .u8 32 (p0)]].toArray W (Z51 W (.tuple #[agg [.ints .u64 5 (r.1.gX),.ints .u64 5 (r.1.gY),.ints .u64 5 (r.1.gZ),.ints .u64 5 (r.1.gT)],.bool (r.2)])):=by
 unfold Z8b at h
 refine Zd mo ok66 rfl ?_
 refine Z0<|Z2<|Zg (Z16 (s:=[.ints .u8 32 (p0)]) rfl fun b2 hb2=>Zg (Zx fun b3 hb3=>Z7 rfl<|Z1<|Z0<|bH h fun z5 ez5 h=>bH h fun z6 ez6 h=>Z2<|Z6 _ (Z3d rfl rfl (by decide))<|Z6 _ (iz ez5 (Z2g rfl (.there .here) rfl))<|Z6 _ (iz ez6 (Z7a rfl rfl (by decide)))<|Z6 _ (Za rfl rfl rfl)<|Z7 rfl<|Z1<|Z0<|bH h fun z8 ez8 h=>bH h fun z9 ez9 h=>bH h fun l10 el10 h=>Z2<|Z6 _ (Z3d rfl rfl (by decide))<|Z6 _ (iz ez8 (Z2g rfl (.there .here) rfl))<|Z6 _ (iz ez9 (Za rfl rfl rfl))<|Z6 _ (Z3d rfl rfl (by decide))<|Zg (Z98 (q:=[.ints .u8 32 (l10)]) (congrArg (fun z=>([.ints .u8 32 (z)]:List Seg)) el10.symm) rfl rfl rfl rfl (.there .here)<|Z1<|Z0<|Z0<|oH h fun y12 ey12 h=>Z2<|Z6 _ (Z03 (p:=[.ints .u8 32 (l10)]) rfl (.there .here) rfl)<|Z6 _ (Z1a rfl (Zck ey12))<|Z6 _ (Zmo rfl rfl)<|Z1<|Z0s h rfl (fun h=>?_) (fun h=>?_))))
 ·refine Z0<|Z2<|Z6 _ (Zdv (q:=[.ints .u64 5 ((List.replicate 5 0)),.ints .u64 5 ((List.replicate 5 0)),.ints .u64 5 ((List.replicate 5 0)),.ints .u64 5 ((List.replicate 5 0))]) BdR.nil)<|Zg (Zu (q:=[.ints .u64 5 ((List.replicate 5 0)),.ints .u64 5 ((List.replicate 5 0)),.ints .u64 5 ((List.replicate 5 0)),.ints .u64 5 ((List.replicate 5 0))]) rfl rfl rfl rfl rfl .here<|Z7 rfl<|Z1<|Zk ?_)
  revert h; refine Zy fun h=>?_
  subst h
  exact ⟨_,(.cons (.agg rfl .here rfl) (.cons (.tmp rfl) .nil)),rfl⟩
 ·refine Zm<|Z0<|oH h fun y16 ey16 h=>Z2<|Z6 _ (Z03 (p:=[.ints .u8 32 (l10)]) rfl (.there .here) rfl)<|Z6 _ (Z1a rfl (Z45 ey16))<|Zg (Zx fun b17 hb17=>Zg (Zu (q:=[.ints .u64 5 (y16)]) rfl rfl rfl rfl rfl .here<|Z1<|Z0<|oH h fun y19 ey19 h=>Z2<|Z6 _ (Z03 (p:=[.ints .u64 5 (y16)]) rfl .here rfl)<|Z6 _ (Z1a rfl (Z1i ey19))<|Zg (Zx fun b20 hb20=>Zg (Zu (q:=[.ints .u64 5 (y19)]) rfl rfl rfl rfl rfl .here<|Z1<|Z0<|oH h fun y22 ey22 h=>Z2<|Z6 _ (Z1a rfl (Z76 ey22))<|Zg (Zx fun b23 hb23=>Zg (Zu (q:=[.ints .u64 5 (y22)]) rfl rfl rfl rfl rfl .here<|Z1<|Z0<|oH h fun y25 ey25 h=>oH h fun y26 ey26 h=>oH h fun y27 ey27 h=>oH h fun y28 ey28 h=>oH h fun y29 ey29 h=>Zv<|Zp _ (Z03 (p:=[.ints .u64 5 (y19)]) rfl (.there .here) rfl)<|Zp _ (Z03 (p:=[.ints .u64 5 (y22)]) rfl .here rfl)<|Z8 _ (Z1a rfl (Z40 ey25))<|Z8 _ (Z1a rfl (Zeq ey26))<|Zp _ (Z03 (p:=[.ints .u64 5 (y19)]) rfl (.there .here) rfl)<|Z8 _ (Z1a rfl (Zw ey27))<|Zp _ (Z03 (p:=[.ints .u64 5 (y22)]) rfl .here rfl)<|Z8 _ (Z1a rfl (Z1m ey28))<|Z8 _ (Z1a rfl (Zcl ey29))<|Z8 _ (Z15 rfl)<|Z8 _ (Z19 rfl rfl)<|Z8 _ (Z19 rfl rfl)<|Z7j (Zx fun b30 hb30=>⟨(by repeat (first | exact Sup.refl _ | apply Sup.cons | apply Sup.app)),Z2j rfl (Zu (q:=[.ints .u64 5 (y29.1)]) rfl rfl rfl rfl rfl .here (Z8 _ (Z15 rfl) (Z05 (Z0 (Z0 (cH h fun c32 h=>Z2 (Z7 rfl (Z6 _ (Zmo rfl rfl) (Z7 rfl (Zee rfl rfl rfl (fun hg1=>Z2s rfl _ (Z15 rfl) (Z2s rfl _ (Z15 rfl) (Zrz rfl (fun _ h=>by cases h; rfl) rfl rfl (fun hg2=>Z2s rfl _ (Z03 (p:=[.ints .u64 5 (y29.1)]) rfl .here rfl) (Z2s rfl _ (Z0n rfl (fun _ _=>Z7v (getD_some (z:=false) (Zgh (Zhr c32 hg1) hg2)))) (Z1u))) (fun hg2=>rfl) rfl (Z1u)))) (fun hg1=>rfl) rfl (Z1 (Z0s h rfl (fun h=>?_) (fun h=>?_)))))))))))))⟩)))))))
  ·refine Z0<|Z2<|Z6 _ (Zdv (q:=[.ints .u64 5 ((List.replicate 5 0)),.ints .u64 5 ((List.replicate 5 0)),.ints .u64 5 ((List.replicate 5 0)),.ints .u64 5 ((List.replicate 5 0))]) BdR.nil)<|Zg (Zu (q:=[.ints .u64 5 ((List.replicate 5 0)),.ints .u64 5 ((List.replicate 5 0)),.ints .u64 5 ((List.replicate 5 0)),.ints .u64 5 ((List.replicate 5 0))]) rfl rfl rfl rfl rfl (.there (.there (.there (.there .here))))<|Z7 rfl<|Z1<|Zk ?_)
   revert h; refine Zy fun h=>?_
   subst h
   exact ⟨_,(.cons (.agg rfl (.there (.there (.there (.there .here)))) rfl) (.cons (.tmp rfl) .nil)),rfl⟩
  ·refine Zm<|Z0<|Z0<|Z2<|Z7 rfl<|Z1<|jH h fun k40 qk40 h=>Zo (G:=fun t m=>∃ (a39:List Int),k40 a39=some r∧Fit [(2,.pointer (some ⟨b3,0,none⟩)),(5,.pointer (some ⟨b17,0,none⟩)),(7,.pointer (some ⟨b23,0,none⟩)),(8,.pointer (some ⟨b30,0,none⟩))] (ck b30 80 [.ints .u64 5 (a39)]::(ck b23 80 [.ints .u64 5 (y22)]::(ck b20 80 [.ints .u64 5 (y19)]::(ck b17 80 [.ints .u64 5 (y16)]::(ck b3 82 [.ints .u64 5 ((List.replicate 5 0)),.ints .u64 5 ((List.replicate 5 0)),.ints .u64 5 ((List.replicate 5 0)),.ints .u64 5 ((List.replicate 5 0))]::(ck b2 29 [.ints .u8 32 (l10)] :: [])))))) t m) ?_ ?_
   ·refine Z0s h rfl (fun h=>?_) (fun h=>?_)
    ·exact oH h fun y43 ey43 h=>Z2<|Z6 _ (Z03 (p:=[.ints .u64 5 (y29.1)]) rfl .here rfl)<|Z6 _ (Z1a rfl (Z50 ey43))<|Zg (Zu (q:=[.ints .u64 5 (y43)]) rfl rfl rfl rfl rfl .here<|Z1<|⟨y43,h,⟨⟨rfl,rfl,rfl,rfl,trivial⟩,(.one .here (.one .here (.one .here (.one .here (.one .here (.one .here .nil))))))⟩⟩)
    ·exact Zm<|⟨y29.1,h,⟨⟨rfl,rfl,rfl,rfl,trivial⟩,(.one .here (.one .here (.one .here (.one .here (.one .here (.one .here .nil))))))⟩⟩
   ·rintro t m ⟨a39,h,hF⟩
    refine Zn hF ?_
    clear hF
    subst qk40
    refine Z0<|oH h fun y45 ey45 h=>Zv<|Zp _ (Z03 (p:=[.ints .u64 5 (a39)]) rfl .here rfl)<|Zp _ (Z03 (p:=[.ints .u64 5 (y16)]) rfl (.there (.there (.there .here))) rfl)<|Zp _ (Z03 (p:=[.ints .u64 5 (y22)]) rfl (.there .here) rfl)<|Zp _ (Z03 (p:=[.ints .u64 5 (a39)]) rfl .here rfl)<|Zp _ (Z03 (p:=[.ints .u64 5 (y16)]) rfl (.there (.there (.there .here))) rfl)<|Z8 _ (Z1a rfl (Zw ey45))<|Z8 _ (Zdv (q:=[.ints .u64 5 (a39),.ints .u64 5 (y16),.ints .u64 5 (y22),.ints .u64 5 (y45)]) (.agg rfl rfl rfl (.agg rfl rfl rfl (.agg rfl rfl rfl (.agg rfl rfl rfl BdR.nil)))))<|Z2j rfl (Zu (q:=[.ints .u64 5 (a39),.ints .u64 5 (y16),.ints .u64 5 (y22),.ints .u64 5 (y45)]) rfl rfl rfl rfl rfl (.there (.there (.there (.there .here))))<|Z8 _ (Z15 rfl)<|Z05<|Zk ?_)
    revert h; refine Zy fun h=>?_
    subst h
    exact ⟨_,(.cons (.agg rfl (.there (.there (.there (.there .here)))) rfl) (.cons (.tmp rfl) .nil)),rfl⟩
def Za1 (p0:List Int) (k40:(List Int)→OL) (k61:(Int)→(List Int)→OL) (i59:Int) (a60:List Int):OL :=
 br ((decide (i59<4))) (
 bnd (IntKind.wrap .i64 (8*i59)) fun z67 =>
 opt (Z56 (tk p0 0 32) z67) fun y68 =>
 chk (inB i59 4) <|
 bnd (Z4q a60 (i59).toNat y68.1) fun l70 =>
 bnd (IntKind.wrap .i64 (i59+1)) fun z72 =>
 k61 z72 l70
 ) (
 k40 a60
 )
def Z6c (p0:List Int) (k40:(List Int)→OL):Nat→(Int)→(List Int)→OL
  | 0,_,_=>none
  | n+1,i59,a60=>Za1 p0 k40 (Z6c p0 k40 n) i59 a60
def Z6n (p0:List Int):OL :=
 jn (fun (a39:List Int)=>some a39) fun k40=>Z6c p0 k40 big 0 (List.replicate 4 0)
theorem Zb4 {W:World} {r:(List Int)} {p0:List Int} (h:Z6n p0=some r)  :
    Calls Tryz.prog 132 [agg [.ints .u8 32 (p0)]].toArray W (Z51 W (agg [.ints .u64 4 (r)])):=by
 unfold Z6n at h
 refine Zd mo Z0de rfl ?_
 refine Z0<|Z2<|Zg (Z16 (s:=[.ints .u8 32 (p0)]) rfl fun b2 hb2=>Zg (Zx fun b3 hb3=>Z1<|Z0<|Z2<|Zg (Zx fun b5 hb5=>Z1<|Z0<|Z0<|Z2<|Z7 rfl<|Z1<|jH h fun k40 qk40 h=>Zo (G:=fun t m=>∃ (a39:List Int),k40 a39=some r∧Fit [(2,.pointer (some ⟨b3,0,none⟩)),(3,.pointer (some ⟨b5,0,none⟩))] (ck b5 162 [.ints .u64 4 (a39)]::(ck b3 162 [.ints .u64 4 ((List.replicate 4 0))]::(ck b2 74 [.ints .u8 32 (p0)] :: []))) t m) ?_ ?_)))
 ·refine Zb<|Z01 (fun n62 t m=>∃ (i59:Int) (a60:List Int),Z6c p0 k40 n62 i59 a60=some r∧Fit [(1,.pointer (some ⟨b2,0,none⟩)),(2,.pointer (some ⟨b3,0,none⟩)),(3,.pointer (some ⟨b5,0,none⟩)),(5,.int .i64 (i59))] (ck b5 162 [.ints .u64 4 (a60)]::(ck b3 162 [.ints .u64 4 ((List.replicate 4 0))]::(ck b2 74 [.ints .u8 32 (p0)] :: []))) t m) big ?_ ?_
  ·exact ⟨0,(List.replicate 4 0),h,⟨⟨rfl,rfl,rfl,rfl,trivial⟩,(.one .here (.one .here (.one .here .nil)))⟩⟩
  ·rintro n62 t m ⟨i59,a60,h,hF⟩
   refine Zn hF ?_
   clear hF
   rcases n62 with _ | n62
   · exact Z1d h
   have h:Za1 p0 k40 (Z6c p0 k40 n62) i59 a60=some r:=h
   unfold Za1 at h
   obtain ⟨k61,qk61⟩ : ∃ k,k=Z6c p0 k40 n62:=⟨_,rfl⟩
   try rw [← qk61] at h
   refine Z0<|Z2<|Z6 _ (Za rfl rfl rfl)<|Z1<|Z0<|Z0s h rfl (fun h=>?_) (fun h=>?_)
   ·refine Zm<|Z0<|Zb<|Z0<|Z2<|Z7 rfl<|Z7 rfl<|Z1<|bH h fun z67 ez67 h=>oH h fun y68 ey68 h=>cH h fun c69 h=>bH h fun l70 el70 h=>Z2<|Z7 rfl<|Z6 _ (Z8w rfl .no .no .no (by simp) (by decide))<|Z7 rfl<|Z6 _ (iz ez67 (Za rfl rfl rfl))<|Z6 _ (Z0n rfl (fun w hw=>Z72 ey68 ((Z1x (s:=[.ints .u8 32 (p0)]) (N:=32) (k:=.u8) (base:=0) (lo:=0) (hi:=32) (mz:=32) (.there (.there .here)) rfl (by decide)) w hw)))<|Z7 rfl<|Z6 _ (Z19 rfl rfl)<|Z6 _ (Z19 rfl rfl)<|Z6 _ (Z3d rfl rfl (Z1t c69))<|Zg (Z5g (q:=[.ints .u64 4 (l70)]) (base:=0) el70 rfl rfl rfl (Z0w c69) rfl .here<|Z1<|bH h fun z72 ez72 h=>Z2<|Z6 _ (iz ez72 (Za rfl rfl rfl))<|Z7 rfl<|Z1 ?_)
    rw [qk61] at h
    exact ⟨n62,Nat.lt_succ_self _,z72,l70,h,⟨⟨rfl,rfl,rfl,rfl,trivial⟩,(.one .here (.one .here (.one .here .nil)))⟩⟩
   ·exact Z0e _ rfl<|⟨a60,h,⟨⟨rfl,rfl,trivial⟩,(.one .here (.one .here (.one .here .nil)))⟩⟩
 ·rintro t m ⟨a39,h,hF⟩
  refine Zn hF ?_
  clear hF
  subst qk40
  refine Z0<|Z2<|Z6 _ (Z03 (p:=[.ints .u64 4 (a39)]) rfl .here rfl)<|Zg (Zu (q:=[.ints .u64 4 (a39)]) rfl rfl rfl rfl rfl (.there .here)<|Z1<|Zk ?_)
  revert h; refine Zy fun h=>?_
  subst h
  exact ⟨_,(.cons (.agg rfl (.there .here) rfl) .nil),rfl⟩
def Z3q (p0:List Int):Option (Bool) :=
 opt (Z6n p0) fun y4 =>
 opt (Z4m y4 G_order) fun y5 =>
 some (y5.2==1)
theorem Zbt {W:World} {r:Bool} {p0:List Int} (h:Z3q p0=some r) (hG:Globs W) :
    Calls Tryz.prog 67 [agg [.ints .u8 32 (p0)]].toArray W (Z51 W (.bool (r))):=by
 unfold Z3q at h
 refine Zd mo ok67 rfl ?_
 refine Z0<|Z2<|Zg (Z16 (s:=[.ints .u8 32 (p0)]) rfl fun b2 hb2=>Z7 rfl<|Z1<|Z0<|oH h fun y4 ey4 h=>oH h fun y5 ey5 h=>Zv<|Zp _ (Z03 (p:=[.ints .u8 32 (p0)]) rfl .here rfl)<|Z8 _ (Z1a rfl (Zb4 ey4))<|Zp _ (Zm8 (o0:=0) (off:=0) rfl (hG.g1) (by simp) rfl)<|Z8 _ (Z1a rfl (Z80 ey5))<|Z8 _ (Z15 rfl)<|Z8 _ (Z19 rfl rfl)<|Z8 _ (Z19 rfl rfl)<|Z7j (Zx fun b6 hb6=>⟨(by repeat (first | exact Sup.refl _ | apply Sup.cons | apply Sup.app)),Z2j rfl (Zu (q:=[.ints .u64 4 (y5.1)]) rfl rfl rfl rfl rfl .here (Z8 _ (Z15 rfl) (Z05 (Z0 (Z2 (Z7 rfl (Z6 _ (Za rfl rfl rfl) (Z7 rfl (Z1 (Zk ?_))))))))))⟩))
 revert h; refine Zy fun h=>?_
 subst h
 exact ⟨_,(.cons (.tmp rfl) .nil),rfl⟩
def Z4x (k469:(List Int)→(List Int)→(List Int)→(List Int)→Option (Z9)) (k490:(Int)→(List Int)→(List Int)→(List Int)→(List Int)→Option (Z9)) (i485:Int) (a486:List Int) (a487:List Int) (a488:List Int) (a489:List Int):Option (Z9) :=
 br ((decide (i485<4))) (
 opt (Z5e (⟨a486,a487,a488,a489⟩:Z9)) fun y495 =>
 bnd (IntKind.wrap .i64 (i485+1)) fun z497 =>
 k490 z497 y495.gX y495.gY y495.gZ y495.gT
 ) (
 k469 a486 a487 a488 a489
 )
def Z1h (k469:(List Int)→(List Int)→(List Int)→(List Int)→Option (Z9)):Nat→(Int)→(List Int)→(List Int)→(List Int)→(List Int)→Option (Z9)
  | 0,_,_,_,_,_=>none
  | n+1,i485,a486,a487,a488,a489=>Z4x k469 (Z1h k469 n) i485 a486 a487 a488 a489
def Z4w (p0:List Int) (p2:List Int) (a15:List (Z9)) (a17:List (Z9)) (k270:(List Int)→(List Int)→(List Int)→(List Int)→Option (Z9)) (k431:(Int)→(List Int)→(List Int)→(List Int)→(List Int)→Option (Z9)) (i426:Int) (a427:List Int) (a428:List Int) (a429:List Int) (a430:List Int):Option (Z9) :=
 br ((decide (i426<64))) (
 jn (fun (a465:List Int) (a466:List Int) (a467:List Int) (a468:List Int)=>opt (Z5f p0 i426) fun y499 =>
 chk (inB y499 16) <|
 bnd (a15.getD (y499).toNat Z0j) fun x501 =>
 opt (Z73 (⟨a465,a466,a467,a468⟩:Z9) x501) fun y502 =>
 opt (Z5f p2 i426) fun y503 =>
 chk (inB y503 16) <|
 bnd (a17.getD (y503).toNat Z0j) fun x505 =>
 opt (Z73 y502 x505) fun y506 =>
 bnd (IntKind.wrap .i64 (i426+1)) fun z508 =>
 k431 z508 y506.gX y506.gY y506.gZ y506.gT) fun k469=>Z1h k469 big 0 a427 a428 a429 a430
 ) (
 k270 a427 a428 a429 a430
 )
def Z27 (p0:List Int) (p2:List Int) (a15:List (Z9)) (a17:List (Z9)) (k270:(List Int)→(List Int)→(List Int)→(List Int)→Option (Z9)):Nat→(Int)→(List Int)→(List Int)→(List Int)→(List Int)→Option (Z9)
  | 0,_,_,_,_,_=>none
  | n+1,i426,a427,a428,a429,a430=>Z4w p0 p2 a15 a17 k270 (Z27 p0 p2 a15 a17 k270 n) i426 a427 a428 a429 a430
def Z74 (p0:List Int) (p1:Z9) (p2:List Int):Option (Z9) :=
 opt (Z7t) fun y7 =>
 jn (fun (a15:List (Z9)) (a17:List (Z9))=>opt (Z7r) fun y25 =>
 jn (fun (a266:List Int) (a267:List Int) (a268:List Int) (a269:List Int)=>some (⟨a266,a267,a268,a269⟩:Z9)) fun k270=>Z27 p0 p2 a15 a17 k270 big 0 y25.gX y25.gY y25.gZ y25.gT) fun k18=>opt (Z3f p1) fun y20 =>
 opt (Z3f y7) fun y21 =>
 k18 y20 y21
theorem Zd9 {W:World} {r:Z9} {p0:List Int} {p1:Z9} {p2:List Int} (h:Z74 p0 p1 p2=some r)  :
    Calls Tryz.prog 68 [agg [.ints .u8 32 (p0)],agg [.ints .u64 5 (p1.gX),.ints .u64 5 (p1.gY),.ints .u64 5 (p1.gZ),.ints .u64 5 (p1.gT)],agg [.ints .u8 32 (p2)]].toArray W (Z51 W (agg [.ints .u64 5 (r.gX),.ints .u64 5 (r.gY),.ints .u64 5 (r.gZ),.ints .u64 5 (r.gT)])):=by
 unfold Z74 at h
 refine Zd mo ok68 rfl ?_
 refine Z0<|Z2<|Zg (Z16 (s:=[.ints .u8 32 (p0)]) rfl fun b2 hb2=>Zg (Z16 (s:=[.ints .u64 5 (p1.gX),.ints .u64 5 (p1.gY),.ints .u64 5 (p1.gZ),.ints .u64 5 (p1.gT)]) rfl fun b3 hb3=>Zg (Z16 (s:=[.ints .u8 32 (p2)]) rfl fun b4 hb4=>Zg (Zx fun b5 hb5=>Z1<|Z0<|oH h fun y7 ey7 h=>Z2<|Z6 _ (Z1a rfl (Zaz ey7))<|Zg (Zx fun b8 hb8=>Zg (Zu (q:=[.ints .u64 5 (y7.gX),.ints .u64 5 (y7.gY),.ints .u64 5 (y7.gZ),.ints .u64 5 (y7.gT)]) rfl rfl rfl rfl rfl .here<|Z1<|Z0<|jH h fun k18 qk18 h=>Zo (G:=fun t m=>∃ (a15:List (Z9)) (a17:List (Z9)) (b14:Nat) (b16:Nat),k18 a15 a17=some r∧Fit [(3,.pointer (some ⟨b2,0,none⟩)),(5,.pointer (some ⟨b4,0,none⟩)),(6,.pointer (some ⟨b5,0,none⟩)),(8,.pointer (some ⟨b14,0,none⟩)),(9,.pointer (some ⟨b16,0,none⟩))] (ck b16 166 [.rows 20 16 (Z8p Ze (a17))]::(ck b14 166 [.rows 20 16 (Z8p Ze (a15))]::(ck b8 82 [.ints .u64 5 (y7.gX),.ints .u64 5 (y7.gY),.ints .u64 5 (y7.gZ),.ints .u64 5 (y7.gT)]::(ck b5 82 [.ints .u64 5 ((List.replicate 5 0)),.ints .u64 5 ((List.replicate 5 0)),.ints .u64 5 ((List.replicate 5 0)),.ints .u64 5 ((List.replicate 5 0))]::(ck b4 74 [.ints .u8 32 (p2)]::(ck b3 82 [.ints .u64 5 (p1.gX),.ints .u64 5 (p1.gY),.ints .u64 5 (p1.gZ),.ints .u64 5 (p1.gT)]::(ck b2 74 [.ints .u8 32 (p0)] :: []))))))) t m) ?_ ?_))))))
 ·refine oH h fun y20 ey20 h=>oH h fun y21 ey21 h=>Zv<|Zp _ (Z03 (p:=[.ints .u64 5 (p1.gX),.ints .u64 5 (p1.gY),.ints .u64 5 (p1.gZ),.ints .u64 5 (p1.gT)]) rfl (.there (.there (.there .here))) rfl)<|Z8 _ (Z1a rfl (Z67 ey20))<|Zp _ (Z03 (p:=[.ints .u64 5 (y7.gX),.ints .u64 5 (y7.gY),.ints .u64 5 (y7.gZ),.ints .u64 5 (y7.gT)]) rfl .here rfl)<|Z8 _ (Z1a rfl (Z67 ey21))<|Zjh (Zef (z':=[.rows 20 16 (Z8p Ze ((List.replicate 16 Z0j)))]) (Z9l (E:=Ze) rfl rfl) fun b22 hb22=>⟨(by repeat (first | exact Sup.refl _ | apply Sup.cons | apply Sup.app)),?_⟩) (Zef (z':=[.rows 20 16 (Z8p Ze ((List.replicate 16 Z0j)))]) (Z9l (E:=Ze) rfl rfl) fun b23 hb23=>⟨(by repeat (first | exact Sup.refl _ | apply Sup.cons | apply Sup.app)),?_⟩)
  ·exact Z7j (Zef (z':=[.rows 20 16 (Z8p Ze ((List.replicate 16 Z0j)))]) (Z9l (E:=Ze) rfl rfl) fun b23 hb23=>⟨(by repeat (first | exact Sup.refl _ | apply Sup.cons | apply Sup.app)),Z2j rfl (Zgt (q:=[.rows 20 16 (Z8p Ze (y20))]) rfl rfl rfl rfl (Z3h (Zad (E:=Ze)) Z88) (.there .here) (Zr3 rfl (Zgt (q:=[.rows 20 16 (Z8p Ze (y21))]) rfl rfl rfl rfl (Z3h (Zad (E:=Ze)) Z88) .here (Z05 (⟨y20,y21,b22,b23,h,⟨⟨rfl,rfl,rfl,rfl,rfl,trivial⟩,(.one .here (.one .here (.one .here (.one .here (.one .here (.one .here (.one .here .nil)))))))⟩⟩)))))⟩)
  ·exact Z7j (Zef (z':=[.rows 20 16 (Z8p Ze ((List.replicate 16 Z0j)))]) (Z9l (E:=Ze) rfl rfl) fun b22 hb22=>⟨(by repeat (first | exact Sup.refl _ | apply Sup.cons | apply Sup.app)),Z2j rfl (Zgt (q:=[.rows 20 16 (Z8p Ze (y20))]) rfl rfl rfl rfl (Z3h (Zad (E:=Ze)) Z88) .here (Zr3 rfl (Zgt (q:=[.rows 20 16 (Z8p Ze (y21))]) rfl rfl rfl rfl (Z3h (Zad (E:=Ze)) Z88) (.there .here) (Z05 (⟨y20,y21,b22,b23,h,⟨⟨rfl,rfl,rfl,rfl,rfl,trivial⟩,(.one (.there .here) (.one .here (.one .here (.one .here (.one .here (.one .here (.one .here .nil)))))))⟩⟩)))))⟩)
 ·rintro t m ⟨a15,a17,b14,b16,h,hF⟩
  refine Zn hF ?_
  clear hF
  subst qk18
  refine Z0<|oH h fun y25 ey25 h=>Z2<|Z6 _ (Z0n (vs:=[]) (v:=agg [.ints .u64 5 (y25.gX),.ints .u64 5 (y25.gY),.ints .u64 5 (y25.gZ),.ints .u64 5 (y25.gT)]) rfl (fun w hw=>Z95 (r:=y25) ey25 ))<|Zg (Zx fun b26 hb26=>Zg (Zu (q:=[.ints .u64 5 (y25.gX),.ints .u64 5 (y25.gY),.ints .u64 5 (y25.gZ),.ints .u64 5 (y25.gT)]) rfl rfl rfl rfl rfl .here<|Z1<|Z0<|Z0<|Z2<|Z7 rfl<|Z1<|jH h fun k270 qk270 h=>Zo (G:=fun t m=>∃ (a266:List Int) (a267:List Int) (a268:List Int) (a269:List Int),k270 a266 a267 a268 a269=some r∧Fit [(6,.pointer (some ⟨b5,0,none⟩)),(10,.pointer (some ⟨b26,0,none⟩))] (ck b26 82 [.ints .u64 5 (a266),.ints .u64 5 (a267),.ints .u64 5 (a268),.ints .u64 5 (a269)]::(ck b16 166 [.rows 20 16 (Z8p Ze (a17))]::(ck b14 166 [.rows 20 16 (Z8p Ze (a15))]::(ck b8 82 [.ints .u64 5 (y7.gX),.ints .u64 5 (y7.gY),.ints .u64 5 (y7.gZ),.ints .u64 5 (y7.gT)]::(ck b5 82 [.ints .u64 5 ((List.replicate 5 0)),.ints .u64 5 ((List.replicate 5 0)),.ints .u64 5 ((List.replicate 5 0)),.ints .u64 5 ((List.replicate 5 0))]::(ck b4 74 [.ints .u8 32 (p2)]::(ck b3 82 [.ints .u64 5 (p1.gX),.ints .u64 5 (p1.gY),.ints .u64 5 (p1.gZ),.ints .u64 5 (p1.gT)]::(ck b2 74 [.ints .u8 32 (p0)] :: [])))))))) t m) ?_ ?_))
  ·refine Zb<|Z01 (fun n432 t m=>∃ (i426:Int) (a427:List Int) (a428:List Int) (a429:List Int) (a430:List Int),Z27 p0 p2 a15 a17 k270 n432 i426 a427 a428 a429 a430=some r∧Fit [(3,.pointer (some ⟨b2,0,none⟩)),(5,.pointer (some ⟨b4,0,none⟩)),(6,.pointer (some ⟨b5,0,none⟩)),(8,.pointer (some ⟨b14,0,none⟩)),(9,.pointer (some ⟨b16,0,none⟩)),(10,.pointer (some ⟨b26,0,none⟩)),(18,.int .i64 (i426))] (ck b26 82 [.ints .u64 5 (a427),.ints .u64 5 (a428),.ints .u64 5 (a429),.ints .u64 5 (a430)]::(ck b16 166 [.rows 20 16 (Z8p Ze (a17))]::(ck b14 166 [.rows 20 16 (Z8p Ze (a15))]::(ck b8 82 [.ints .u64 5 (y7.gX),.ints .u64 5 (y7.gY),.ints .u64 5 (y7.gZ),.ints .u64 5 (y7.gT)]::(ck b5 82 [.ints .u64 5 ((List.replicate 5 0)),.ints .u64 5 ((List.replicate 5 0)),.ints .u64 5 ((List.replicate 5 0)),.ints .u64 5 ((List.replicate 5 0))]::(ck b4 74 [.ints .u8 32 (p2)]::(ck b3 82 [.ints .u64 5 (p1.gX),.ints .u64 5 (p1.gY),.ints .u64 5 (p1.gZ),.ints .u64 5 (p1.gT)]::(ck b2 74 [.ints .u8 32 (p0)] :: [])))))))) t m) big ?_ ?_
   ·exact ⟨0,y25.gX,y25.gY,y25.gZ,y25.gT,h,⟨⟨rfl,rfl,rfl,rfl,rfl,rfl,rfl,trivial⟩,(.one .here (.one .here (.one .here (.one .here (.one .here (.one .here (.one .here (.one .here .nil))))))))⟩⟩
   ·rintro n432 t m ⟨i426,a427,a428,a429,a430,h,hF⟩
    refine Zn hF ?_
    clear hF
    rcases n432 with _ | n432
    · exact Z1d h
    have h:Z4w p0 p2 a15 a17 k270 (Z27 p0 p2 a15 a17 k270 n432) i426 a427 a428 a429 a430=some r:=h
    unfold Z4w at h
    obtain ⟨k431,qk431⟩ : ∃ k,k=Z27 p0 p2 a15 a17 k270 n432:=⟨_,rfl⟩
    try rw [← qk431] at h
    refine Z0<|Z2<|Z6 _ (Za rfl rfl rfl)<|Z1<|Z0<|Z0s h rfl (fun h=>?_) (fun h=>?_)
    ·refine Zm<|Z0<|Zb<|Z0<|Z2<|Z7 rfl<|Z7 rfl<|Z1<|Z0<|Z0<|Z2<|Z7 rfl<|Z1<|jH h fun k469 qk469 h=>Zo (G:=fun t m=>∃ (a465:List Int) (a466:List Int) (a467:List Int) (a468:List Int),k469 a465 a466 a467 a468=some r∧Fit [(3,.pointer (some ⟨b2,0,none⟩)),(5,.pointer (some ⟨b4,0,none⟩)),(6,.pointer (some ⟨b5,0,none⟩)),(8,.pointer (some ⟨b14,0,none⟩)),(9,.pointer (some ⟨b16,0,none⟩)),(10,.pointer (some ⟨b26,0,none⟩)),(11,.int .i64 (i426)),(18,.int .i64 (i426))] (ck b26 82 [.ints .u64 5 (a465),.ints .u64 5 (a466),.ints .u64 5 (a467),.ints .u64 5 (a468)]::(ck b16 166 [.rows 20 16 (Z8p Ze (a17))]::(ck b14 166 [.rows 20 16 (Z8p Ze (a15))]::(ck b8 82 [.ints .u64 5 (y7.gX),.ints .u64 5 (y7.gY),.ints .u64 5 (y7.gZ),.ints .u64 5 (y7.gT)]::(ck b5 82 [.ints .u64 5 ((List.replicate 5 0)),.ints .u64 5 ((List.replicate 5 0)),.ints .u64 5 ((List.replicate 5 0)),.ints .u64 5 ((List.replicate 5 0))]::(ck b4 74 [.ints .u8 32 (p2)]::(ck b3 82 [.ints .u64 5 (p1.gX),.ints .u64 5 (p1.gY),.ints .u64 5 (p1.gZ),.ints .u64 5 (p1.gT)]::(ck b2 74 [.ints .u8 32 (p0)] :: [])))))))) t m) ?_ ?_
     ·refine Zb<|Z01 (fun n491 t m=>∃ (i485:Int) (a486:List Int) (a487:List Int) (a488:List Int) (a489:List Int),Z1h k469 n491 i485 a486 a487 a488 a489=some r∧Fit [(3,.pointer (some ⟨b2,0,none⟩)),(5,.pointer (some ⟨b4,0,none⟩)),(6,.pointer (some ⟨b5,0,none⟩)),(8,.pointer (some ⟨b14,0,none⟩)),(9,.pointer (some ⟨b16,0,none⟩)),(10,.pointer (some ⟨b26,0,none⟩)),(11,.int .i64 (i426)),(18,.int .i64 (i426)),(21,.int .i64 (i485))] (ck b26 82 [.ints .u64 5 (a486),.ints .u64 5 (a487),.ints .u64 5 (a488),.ints .u64 5 (a489)]::(ck b16 166 [.rows 20 16 (Z8p Ze (a17))]::(ck b14 166 [.rows 20 16 (Z8p Ze (a15))]::(ck b8 82 [.ints .u64 5 (y7.gX),.ints .u64 5 (y7.gY),.ints .u64 5 (y7.gZ),.ints .u64 5 (y7.gT)]::(ck b5 82 [.ints .u64 5 ((List.replicate 5 0)),.ints .u64 5 ((List.replicate 5 0)),.ints .u64 5 ((List.replicate 5 0)),.ints .u64 5 ((List.replicate 5 0))]::(ck b4 74 [.ints .u8 32 (p2)]::(ck b3 82 [.ints .u64 5 (p1.gX),.ints .u64 5 (p1.gY),.ints .u64 5 (p1.gZ),.ints .u64 5 (p1.gT)]::(ck b2 74 [.ints .u8 32 (p0)] :: [])))))))) t m) big ?_ ?_
      ·exact ⟨0,a427,a428,a429,a430,h,⟨⟨rfl,rfl,rfl,rfl,rfl,rfl,rfl,rfl,rfl,trivial⟩,(.one .here (.one .here (.one .here (.one .here (.one .here (.one .here (.one .here (.one .here .nil))))))))⟩⟩
      ·rintro n491 t m ⟨i485,a486,a487,a488,a489,h,hF⟩
       refine Zn hF ?_
       clear hF
       rcases n491 with _ | n491
       · exact Z1d h
       have h:Z4x k469 (Z1h k469 n491) i485 a486 a487 a488 a489=some r:=h
       unfold Z4x at h
       obtain ⟨k490,qk490⟩ : ∃ k,k=Z1h k469 n491:=⟨_,rfl⟩
       try rw [← qk490] at h
       refine Z0<|Z2<|Z6 _ (Za rfl rfl rfl)<|Z1<|Z0<|Z0s h rfl (fun h=>?_) (fun h=>?_)
       ·refine Zm<|Z0<|Zb<|oH h fun y495 ey495 h=>Z2<|Z6 _ (Z03 (p:=[.ints .u64 5 (a486),.ints .u64 5 (a487),.ints .u64 5 (a488),.ints .u64 5 (a489)]) rfl .here rfl)<|Z6 _ (Z0n (vs:=[agg [.ints .u64 5 (a486),.ints .u64 5 (a487),.ints .u64 5 (a488),.ints .u64 5 (a489)]]) (v:=agg [.ints .u64 5 (y495.gX),.ints .u64 5 (y495.gY),.ints .u64 5 (y495.gZ),.ints .u64 5 (y495.gT)]) rfl (fun w hw=>Za8 (r:=y495) (p0:=(⟨a486,a487,a488,a489⟩:Z9)) ey495 ))<|Zg (Zu (q:=[.ints .u64 5 (y495.gX),.ints .u64 5 (y495.gY),.ints .u64 5 (y495.gZ),.ints .u64 5 (y495.gT)]) rfl rfl rfl rfl rfl .here<|Z1<|bH h fun z497 ez497 h=>Z2<|Z6 _ (iz ez497 (Za rfl rfl rfl))<|Z7 rfl<|Z1 ?_)
        rw [qk490] at h
        exact ⟨n491,Nat.lt_succ_self _,z497,y495.gX,y495.gY,y495.gZ,y495.gT,h,⟨⟨rfl,rfl,rfl,rfl,rfl,rfl,rfl,rfl,rfl,trivial⟩,(.one .here (.one .here (.one .here (.one .here (.one .here (.one .here (.one .here (.one .here .nil))))))))⟩⟩
       ·exact Z0e _ rfl<|⟨a486,a487,a488,a489,h,⟨⟨rfl,rfl,rfl,rfl,rfl,rfl,rfl,rfl,trivial⟩,(.one .here (.one .here (.one .here (.one .here (.one .here (.one .here (.one .here (.one .here .nil))))))))⟩⟩
     ·rintro t m ⟨a465,a466,a467,a468,h,hF⟩
      refine Zn hF ?_
      clear hF
      subst qk469
      refine oH h fun y499 ey499 h=>cH h fun c500 h=>bH h fun x501 ex501 h=>oH h fun y502 ey502 h=>oH h fun y503 ey503 h=>cH h fun c504 h=>bH h fun x505 ex505 h=>oH h fun y506 ey506 h=>Zv<|Z8 _ (Z15 rfl)<|Z8 _ (Z15 rfl)<|Zp _ (Z03 (p:=[.ints .u64 5 (a465),.ints .u64 5 (a466),.ints .u64 5 (a467),.ints .u64 5 (a468)]) rfl .here rfl)<|Zp _ (Z03 (p:=[.ints .u8 32 (p0)]) rfl (.there (.there (.there (.there (.there (.there (.there .here))))))) rfl)<|Z8 _ (Z0n (vs:=[agg [.ints .u8 32 (p0)],.int .i64 (i426)]) (v:=.int .u8 (y499)) rfl (fun w hw=>Z7s (r:=y499) (p0:=p0) (p1:=i426) ey499 ))<|Z8 _ (Z3d rfl rfl (Z1t c500))<|Zp _ (az (fun x501=>agg [.ints .u64 5 (x501.gX),.ints .u64 5 (x501.gY),.ints .u64 5 (x501.gZ),.ints .u64 5 (x501.gT)]) ex501 (Ziu (base:=0) (w:=20) rfl (.there (.there .here)) rfl (Z0w c500) rfl rfl rfl))<|Z8 _ (Z0n (vs:=[agg [.ints .u64 5 (a465),.ints .u64 5 (a466),.ints .u64 5 (a467),.ints .u64 5 (a468)],agg [.ints .u64 5 (x501.gX),.ints .u64 5 (x501.gY),.ints .u64 5 (x501.gZ),.ints .u64 5 (x501.gT)]]) (v:=agg [.ints .u64 5 (y502.gX),.ints .u64 5 (y502.gY),.ints .u64 5 (y502.gZ),.ints .u64 5 (y502.gT)]) rfl (fun w hw=>Z86 (r:=y502) (p0:=(⟨a465,a466,a467,a468⟩:Z9)) (p1:=x501) ey502 ))<|Zp _ (Z03 (p:=[.ints .u8 32 (p2)]) rfl (.there (.there (.there (.there (.there .here))))) rfl)<|Z8 _ (Z0n (vs:=[agg [.ints .u8 32 (p2)],.int .i64 (i426)]) (v:=.int .u8 (y503)) rfl (fun w hw=>Z7s (r:=y503) (p0:=p2) (p1:=i426) ey503 ))<|Z8 _ (Z3d rfl rfl (Z1t c504))<|Zp _ (az (fun x505=>agg [.ints .u64 5 (x505.gX),.ints .u64 5 (x505.gY),.ints .u64 5 (x505.gZ),.ints .u64 5 (x505.gT)]) ex505 (Ziu (base:=0) (w:=20) rfl (.there .here) rfl (Z0w c504) rfl rfl rfl))<|Z8 _ (Z0n (vs:=[agg [.ints .u64 5 (y502.gX),.ints .u64 5 (y502.gY),.ints .u64 5 (y502.gZ),.ints .u64 5 (y502.gT)],agg [.ints .u64 5 (x505.gX),.ints .u64 5 (x505.gY),.ints .u64 5 (x505.gZ),.ints .u64 5 (x505.gT)]]) (v:=agg [.ints .u64 5 (y506.gX),.ints .u64 5 (y506.gY),.ints .u64 5 (y506.gZ),.ints .u64 5 (y506.gT)]) rfl (fun w hw=>Z86 (r:=y506) (p0:=y502) (p1:=x505) ey506 ))<|Z2j rfl (Zu (q:=[.ints .u64 5 (y506.gX),.ints .u64 5 (y506.gY),.ints .u64 5 (y506.gZ),.ints .u64 5 (y506.gT)]) rfl rfl rfl rfl rfl .here<|Z05<|bH h fun z508 ez508 h=>Z2<|Z6 _ (iz ez508 (Za rfl rfl rfl))<|Z7 rfl<|Z1 ?_)
      rw [qk431] at h
      exact ⟨n432,Nat.lt_succ_self _,z508,y506.gX,y506.gY,y506.gZ,y506.gT,h,⟨⟨rfl,rfl,rfl,rfl,rfl,rfl,rfl,trivial⟩,(.one .here (.one .here (.one .here (.one .here (.one .here (.one .here (.one .here (.one .here .nil))))))))⟩⟩
    ·exact Z0e _ rfl<|⟨a427,a428,a429,a430,h,⟨⟨rfl,rfl,trivial⟩,(.one .here (.one .here (.one .here (.one .here (.one .here (.one .here (.one .here (.one .here .nil))))))))⟩⟩
  ·rintro t m ⟨a266,a267,a268,a269,h,hF⟩
   refine Zn hF ?_
   clear hF
   subst qk270
   refine Z0<|Z2<|Z6 _ (Z03 (p:=[.ints .u64 5 (a266),.ints .u64 5 (a267),.ints .u64 5 (a268),.ints .u64 5 (a269)]) rfl .here rfl)<|Zg (Zu (q:=[.ints .u64 5 (a266),.ints .u64 5 (a267),.ints .u64 5 (a268),.ints .u64 5 (a269)]) rfl rfl rfl rfl rfl (.there (.there (.there (.there .here))))<|Z1<|Zk ?_)
   revert h; refine Zy fun h=>?_
   subst h
   exact ⟨_,(.cons (.agg rfl (.there (.there (.there (.there .here)))) rfl) .nil),rfl⟩
def Za9 (p0:Z9):Option (Z9) :=
 opt (Z49 p0.gX) fun y5 =>
 opt (Z49 p0.gT) fun y6 =>
 some (⟨y5,p0.gY,p0.gZ,y6⟩:Z9)
theorem Zge {W:World} {r:Z9} {p0:Z9} (h:Za9 p0=some r)  :
    Calls Tryz.prog 69 [agg [.ints .u64 5 (p0.gX),.ints .u64 5 (p0.gY),.ints .u64 5 (p0.gZ),.ints .u64 5 (p0.gT)]].toArray W (Z51 W (agg [.ints .u64 5 (r.gX),.ints .u64 5 (r.gY),.ints .u64 5 (r.gZ),.ints .u64 5 (r.gT)])):=by
 unfold Za9 at h
 refine Zd mo ok69 rfl ?_
 refine Z0<|Z2<|Zg (Z16 (s:=[.ints .u64 5 (p0.gX),.ints .u64 5 (p0.gY),.ints .u64 5 (p0.gZ),.ints .u64 5 (p0.gT)]) rfl fun b2 hb2=>Zg (Zx fun b3 hb3=>Z1<|Z0<|oH h fun y5 ey5 h=>oH h fun y6 ey6 h=>Zv<|Z8 _ (Z64 rfl)<|Z8 _ (Z64 rfl)<|Z8 _ (Z64 rfl)<|Z8 _ (Z64 rfl)<|Zp _ (Z03 (p:=[.ints .u64 5 (p0.gX)]) rfl (.there .here) rfl)<|Z8 _ (Z1a rfl (Z50 ey5))<|Zp _ (Z03 (p:=[.ints .u64 5 (p0.gY)]) rfl (.there .here) rfl)<|Zp _ (Z03 (p:=[.ints .u64 5 (p0.gZ)]) rfl (.there .here) rfl)<|Zp _ (Z03 (p:=[.ints .u64 5 (p0.gT)]) rfl (.there .here) rfl)<|Z8 _ (Z1a rfl (Z50 ey6))<|Z8 _ (Zdv (q:=[.ints .u64 5 (y5),.ints .u64 5 (p0.gY),.ints .u64 5 (p0.gZ),.ints .u64 5 (y6)]) (.agg rfl rfl rfl (.agg rfl rfl rfl (.agg rfl rfl rfl (.agg rfl rfl rfl BdR.nil)))))<|Z2j rfl (Zu (q:=[.ints .u64 5 (y5),.ints .u64 5 (p0.gY),.ints .u64 5 (p0.gZ),.ints .u64 5 (y6)]) rfl rfl rfl rfl rfl .here<|Z05<|Zk ?_)))
 revert h; refine Zy fun h=>?_
 subst h
 exact ⟨_,(.cons (.agg rfl .here rfl) .nil),rfl⟩
def Z4v (p0:List Int) (p1:List Int) (p2:List Int):Option (Bool) :=
 opt (Z8b p0) fun y5 =>
 chk (decide (32≤(tk p2 32 (64-32)).length)) <|
 bnd (tk (tk p2 32 (64-32)) 0 32) fun z9 =>
 chk (imp (!(!y5.2)) ((Z3q z9).isSome)) <|
 br (((!y5.2)||(!((Z3q z9).getD false)))) (
 some false
 ) (
 jn (fun (a22:List Int)=>opt (Za9 y5.1) fun y31 =>
 opt (Z74 a22 y31 z9) fun y32 =>
 opt (Z3t y32) fun y33 =>
 chk (decide (32≤(tk p2 0 32).length)) <|
 bnd (tk (tk p2 0 32) 0 32) fun z37 =>
 some (ieq 32 y33 z37)) fun k23=>opt (Z8n [(tk p2 0 32),(tk p0 0 32),p1]) fun y28 =>
 k23 y28
 )
theorem Z8t {W:World} {r:Bool} {p0:List Int} {p1:List Int} {p2:List Int} {v1:Value} (h:Z4v p0 p1 p2=some r) (hG:Globs W) (A1:RdSl (El.int .u8) W v1 p1) :
    Calls Tryz.prog 25 [agg [.ints .u8 32 (p0)],v1,agg [.ints .u8 64 (p2)]].toArray W (Z51 W (.bool (r))):=by
 unfold Z4v at h
 refine Zd mo ok25 rfl ?_
 refine Z0<|Z2<|Zg (Z16 (s:=[.ints .u8 32 (p0)]) rfl fun b2 hb2=>Zg (Z16 (s:=[.ints .u8 64 (p2)]) rfl fun b3 hb3=>Z7 rfl<|Z1<|Z0<|oH h fun y5 ey5 h=>Z2<|Z6 _ (Z03 (p:=[.ints .u8 32 (p0)]) rfl (.there .here) rfl)<|Z6 _ (Z1a rfl (Zdy ey5))<|Z7 rfl<|Z6 _ (Z19 rfl rfl)<|Z6 _ (Z19 rfl rfl)<|Zg (Zx fun b6 hb6=>Zg (Zu (q:=[.ints .u64 5 (y5.1.gX),.ints .u64 5 (y5.1.gY),.ints .u64 5 (y5.1.gZ),.ints .u64 5 (y5.1.gT)]) rfl rfl rfl rfl rfl .here<|Z7 rfl<|Z1<|Z0<|cH h fun c8 h=>bH h fun z9 ez9 h=>Z2<|Z6 _ (Z8w rfl (.yes rfl) .no .no (by simp) (by decide))<|Z6 _ (Zo7 rfl (Shp.blk (lo:=32) (hi:=64) (mz:=64) (by decide) (by simp [Z08])) (by decide) c8)<|Z6 _ (az (fun z=>agg [.ints .u8 32 z]) ez9 (Zu7 rfl (Z1x (s:=[.ints .u8 64 (p2)]) (N:=64) (k:=.u8) (base:=0) (lo:=32) (hi:=64) (mz:=64) (.there .here) rfl (by decide)) (by decide) c8))<|Zg (Zx fun b10 hb10=>Zg (Zu (q:=[.ints .u8 32 (z9)]) rfl rfl rfl rfl rfl .here<|Z1<|Z0<|Z0<|cH h fun c12 h=>Z2<|Z7 rfl<|Z6 _ (Zmo rfl rfl)<|Z7 rfl<|Zee rfl rfl rfl (fun hg1=>Z2s rfl _ (Z03 (p:=[.ints .u8 32 (z9)]) rfl .here rfl) (Z2s rfl _ (Z0n rfl (fun w hw=>Zbt (getD_some (z:=false) (Zhr c12 hg1)) (hG.at hw (by simp)))) (Z2s rfl _ (Zmo rfl rfl) (Z1u)))) (fun hg1=>rfl) rfl<|Z1<|Z0s h rfl (fun h=>?_) (fun h=>?_)))))))
 ·refine Z0<|Z2<|Z7 rfl<|Z1<|Zk ?_
  revert h; refine Zy fun h=>?_
  subst h
  exact ⟨_,(.cons (.tmp rfl) .nil),rfl⟩
 ·refine Zm<|Z0<|jH h fun k23 qk23 h=>Zo (G:=fun t m=>∃ (a22:List Int) (b21:Nat),k23 a22=some r∧Fit [(5,.pointer (some ⟨b3,0,none⟩)),(7,.pointer (some ⟨b6,0,none⟩)),(9,.pointer (some ⟨b10,0,none⟩)),(10,.pointer (some ⟨b21,0,none⟩))] (ck b21 74 [.ints .u8 32 (a22)]::(ck b10 74 [.ints .u8 32 (z9)]::(ck b6 82 [.ints .u64 5 (y5.1.gX),.ints .u64 5 (y5.1.gY),.ints .u64 5 (y5.1.gZ),.ints .u64 5 (y5.1.gT)]::(ck b3 27 [.ints .u8 64 (p2)]::(ck b2 29 [.ints .u8 32 (p0)] :: []))))) t m) ?_ ?_
  ·refine oH h fun y28 ey28 h=>Zv<|Z8 _ (Z8w rfl .no (.yes rfl) .no (by simp) (by decide))<|Z8 _ (Z8w rfl .no .no .no (by simp) (by decide))<|Z8 _ (Z15 rfl)<|Zjh (Z9n (E:=El.sl) (xs:=[unS (.slice (some (Z20 b3 0 0 64 1)) (32-0) (64-0)),unS (.slice (some (Z20 b2 0 0 32 1)) (32-0) (32-0)),unS v1]) (.one rfl (Zcu.cells ⟨_,_,_,rfl⟩) rfl (.one rfl (Zcu.cells ⟨_,_,_,rfl⟩) rfl (.one rfl (Zcu.cells (Shp.isSl (Shp.rd A1))) rfl BdR.nil))) (.cons (p:=[.one (.slice (some (Z20 b3 0 0 64 1)) (32-0) (64-0))]) (Z69 ⟨_,_,_,rfl⟩) (.cons (p:=[.one (.slice (some (Z20 b2 0 0 32 1)) (32-0) (32-0))]) (Z69 ⟨_,_,_,rfl⟩) (.cons (p:=[.one v1]) (Z69 (Shp.isSl (Shp.rd A1))) .nil))) rfl fun v25 ms26 O27=>⟨(by repeat (first | exact Sup.refl _ | apply Sup.cons | apply Sup.app)),?_⟩) (Zx fun b29 hb29=>⟨(by repeat (first | exact Sup.refl _ | apply Sup.cons | apply Sup.app)),?_⟩)
   ·refine Zjh (ef_q _ (Z0n rfl (fun w hw=>Z43 ey28 (hG.at hw (by simp)) (Z1v O27 .here w hw) (.cons (Z44 ((Z1x (s:=[.ints .u8 64 (p2)]) (N:=64) (k:=.u8) (base:=0) (lo:=0) (hi:=32) (mz:=64) (.app (.there (.there .here))) rfl (by decide)) w hw)) (.cons (Z44 ((Z1x (s:=[.ints .u8 32 (p0)]) (N:=32) (k:=.u8) (base:=0) (lo:=0) (hi:=32) (mz:=32) (.app (.there (.there (.there .here)))) rfl (by decide)) w hw)) (.cons (Z44 ((Z0a A1 Z0h) w hw)) .nil))))) ⟨(by repeat (first | exact Sup.refl _ | apply Sup.cons | apply Sup.app)),?_⟩) (Zx fun b29 hb29=>⟨(by repeat (first | exact Sup.refl _ | apply Sup.cons | apply Sup.app)),?_⟩)
    ·exact Z7j (Zx fun b29 hb29=>⟨(by repeat (first | exact Sup.refl _ | apply Sup.cons | apply Sup.app)),Z2j rfl (Zu (q:=[.ints .u8 32 (y28)]) rfl rfl rfl rfl rfl .here (Z05 (⟨y28,b29,h,⟨⟨rfl,rfl,rfl,rfl,trivial⟩,(.one .here (.one (.app .here) (.one (.app .here) (.one (.app .here) (.one (.app .here) .nil)))))⟩⟩)))⟩)
    ·exact Zke _ (Z0n rfl (fun w hw=>Z43 ey28 (hG.at hw (by simp)) (Z1v O27 (.there .here) w hw) (.cons (Z44 ((Z1x (s:=[.ints .u8 64 (p2)]) (N:=64) (k:=.u8) (base:=0) (lo:=0) (hi:=32) (mz:=64) (.there (.app (.there (.there .here)))) rfl (by decide)) w hw)) (.cons (Z44 ((Z1x (s:=[.ints .u8 32 (p0)]) (N:=32) (k:=.u8) (base:=0) (lo:=0) (hi:=32) (mz:=32) (.there (.app (.there (.there (.there .here))))) rfl (by decide)) w hw)) (.cons (Z44 ((Z0a A1 Z0h) w hw)) .nil))))) (Z2j rfl (Zu (q:=[.ints .u8 32 (y28)]) rfl rfl rfl rfl rfl .here (Z05 (⟨y28,b29,h,⟨⟨rfl,rfl,rfl,rfl,trivial⟩,(.one .here (.one (.app .here) (.one (.app .here) (.one (.app .here) (.one (.app .here) .nil)))))⟩⟩)))) (by repeat (first | exact Sup.refl _ | apply Sup.cons | apply Sup.app))
   ·exact Z7j (Z9n (E:=El.sl) (xs:=[unS (.slice (some (Z20 b3 0 0 64 1)) (32-0) (64-0)),unS (.slice (some (Z20 b2 0 0 32 1)) (32-0) (32-0)),unS v1]) (.one rfl (Zcu.cells ⟨_,_,_,rfl⟩) rfl (.one rfl (Zcu.cells ⟨_,_,_,rfl⟩) rfl (.one rfl (Zcu.cells (Shp.isSl (Shp.rd A1))) rfl BdR.nil))) (.cons (p:=[.one (.slice (some (Z20 b3 0 0 64 1)) (32-0) (64-0))]) (Z69 ⟨_,_,_,rfl⟩) (.cons (p:=[.one (.slice (some (Z20 b2 0 0 32 1)) (32-0) (32-0))]) (Z69 ⟨_,_,_,rfl⟩) (.cons (p:=[.one v1]) (Z69 (Shp.isSl (Shp.rd A1))) .nil))) rfl fun v25 ms26 O27=>⟨(by repeat (first | exact Sup.refl _ | apply Sup.cons | apply Sup.app)),Zke _ (Z0n rfl (fun w hw=>Z43 ey28 (hG.at hw (by simp)) (Z1v O27 .here w hw) (.cons (Z44 ((Z1x (s:=[.ints .u8 64 (p2)]) (N:=64) (k:=.u8) (base:=0) (lo:=0) (hi:=32) (mz:=64) (.app (.there (.there (.there .here)))) rfl (by decide)) w hw)) (.cons (Z44 ((Z1x (s:=[.ints .u8 32 (p0)]) (N:=32) (k:=.u8) (base:=0) (lo:=0) (hi:=32) (mz:=32) (.app (.there (.there (.there (.there .here))))) rfl (by decide)) w hw)) (.cons (Z44 ((Z0a A1 Z0h) w hw)) .nil))))) (Z2j rfl (Zu (q:=[.ints .u8 32 (y28)]) rfl rfl rfl rfl rfl (.app .here) (Z05 (⟨y28,b29,h,⟨⟨rfl,rfl,rfl,rfl,trivial⟩,(.one (.app .here) (.one (.app .here) (.one (.app .here) (.one (.app .here) (.one (.app .here) .nil)))))⟩⟩)))) (by repeat (first | exact Sup.refl _ | apply Sup.cons | apply Sup.app))⟩)
  ·rintro t m ⟨a22,b21,h,hF⟩
   refine Zn hF ?_
   clear hF
   subst qk23
   refine Z0<|oH h fun y31 ey31 h=>oH h fun y32 ey32 h=>oH h fun y33 ey33 h=>Zv<|Zp _ (Z03 (p:=[.ints .u8 32 (a22)]) rfl .here rfl)<|Zp _ (Z03 (p:=[.ints .u64 5 (y5.1.gX),.ints .u64 5 (y5.1.gY),.ints .u64 5 (y5.1.gZ),.ints .u64 5 (y5.1.gT)]) rfl (.there (.there .here)) rfl)<|Z8 _ (Z1a rfl (Zge ey31))<|Zp _ (Z03 (p:=[.ints .u8 32 (z9)]) rfl (.there .here) rfl)<|Z8 _ (Z1a rfl (Zd9 ey32))<|Z8 _ (Z1a rfl (Z7q ey33))<|Z7j (Zx fun b34 hb34=>⟨(by repeat (first | exact Sup.refl _ | apply Sup.cons | apply Sup.app)),Z2j rfl (Zu (q:=[.ints .u8 32 (y33)]) rfl rfl rfl rfl rfl .here (Z05 (Z0 (cH h fun c36 h=>bH h fun z37 ez37 h=>Zv (Z8 _ (Z8w rfl .no (.yes rfl) .no (by simp) (by decide)) (Z8 _ (Zo7 rfl (Shp.blk (lo:=0) (hi:=32) (mz:=64) (by decide) (by simp [Z08])) (by decide) c36) (Zp _ (Z03 (p:=[.ints .u8 32 (y33)]) rfl .here rfl) (Zp _ (az (fun z=>agg [.ints .u8 32 z]) ez37 (Zu7 rfl (Z1x (s:=[.ints .u8 64 (p2)]) (N:=64) (k:=.u8) (base:=0) (lo:=0) (hi:=32) (mz:=64) (.there (.there (.there (.there .here)))) rfl (by decide)) (by decide) c36)) (Z8 _ (Zgj rfl rfl rfl rfl _ (Z87 Z5z)) (Z8 _ (Z15 rfl) (Z05 (Zk ?_))))))))))))⟩)
   revert h; refine Zy fun h=>?_
   subst h
   exact ⟨_,(.cons (.tmp rfl) .nil),rfl⟩
structure Z12 where
  gbytes:List Int
  gfault:Int
def Z89:Option (Z12) :=
 some (⟨[],0⟩:Z12)
theorem Zd1 {W:World} {r:Z12} (h:Z89=some r)  :
    Calls Tryz.prog 74 [].toArray W (Zdw W [] (fun v Ms=>∃ (b0:Nat) (T0:TypeId) (u0:Value) (M0:List Zc),v = .pointer (some ⟨b0,0,none⟩)∧Ms = [.one (ck b0 T0 [.one (u0),.one (.int .i64 (r.gfault))]),.all M0]∧Z1z (El.int .u8) u0 M0 r.gbytes)):=by
 unfold Z89 at h
 refine Z0o mo ok74 rfl (Zh8 _) ?_
 refine Z0<|Z2<|Z7 rfl<|Z1<|Z0<|Z2<|Z6 _ (Zdv (q:=[.one (.slice none 0 0),.one (.int .i64 (0))]) BdR.nil)<|Zg (Z16 (s:=[.one (.slice none 0 0),.one (.int .i64 (0))]) rfl fun b3 hb3=>Z7 rfl<|Z1<|Zk ?_)
 revert h; refine Zy fun h=>?_
 subst h
 exact ⟨_,_,(.cons (.tmp rfl) .nil),(.one .here (.no .nil)),⟨_,rfl,⟨b3,178,(.slice none 0 0),[],rfl,rfl,Z7x⟩⟩⟩
def Z4g (p0:Z12) (p1:List Int):Option (Z12) :=
 br ((p0.gfault==0)) (
 chk (decide ((p0.gbytes.length+p1.length)*1≤140737488355328)) <|
 bnd (p0.gbytes++p1) fun l5 =>
 some (⟨l5,p0.gfault⟩:Z12)
 ) (
 some p0
 )
theorem Z8v {W:World} {r:Z12} {p0:Z12} {p1:List Int} {v0:Value} {M0:List Zc} {v1:Value} {b:Nat} {T:TypeId} (h:Z4g p0 p1=some r) (h0:Sat W (b::M0.map (·.b)) (ck b T [.one (v0),.one (.int .i64 (p0.gfault))]::(M0 ++ [])) W) (O0:Z1z (El.int .u8) v0 M0 p0.gbytes) (A1:RdSl (El.int .u8) W v1 p1∧Z92 v1 p1 (b::M0.map (·.b))) :
    Calls Tryz.prog 147 [.pointer (some ⟨b,0,none⟩),v1].toArray W (Zdw W (b::M0.map (·.b)) (fun v Ms=>∃ (uw:Value) (Mw:List Zc),v = .tuple #[]∧Ms = [.one (ck b T [.one (uw),.one (.int .i64 (r.gfault))]),.all Mw]∧Z1z (El.int .u8) uw Mw r.gbytes)):=by
 unfold Z4g at h
 refine Z0o mo Z0dk rfl h0 ?_
 refine Z0<|Z2<|Z7 rfl<|Z6 _ (Z59 rfl)<|Z6 _ (Z64 rfl)<|Z6 _ (Z2g rfl .here rfl)<|Z6 _ (Za rfl rfl rfl)<|Z1<|Z0s h rfl (fun h=>?_) (fun h=>?_)
 ·refine cH h fun c4 h=>bH h fun l5 el5 h=>Z2<|Z7 rfl<|Z7 rfl<|Z6 _ (Z59 rfl)<|Z6 _ (Z64 rfl)<|Z6 _ (Z2g rfl .here rfl)<|Z7 rfl<|Zg (Zbf (E:=(El.int .u8)) el5 rfl O0 (.there .here) rfl (Z0a A1.1 A1.2) c4 fun v6 ms7 O8=>Z6 _ (Z59 rfl)<|Z6 _ (Z64 rfl)<|Zg (Z97 (q:=[.one (v6),.one (.int .i64 (p0.gfault))]) rfl rfl (Zcu.one1 (Z1z.isSl O8)) rfl (.app .here)<|Z1 ?_))
  revert h; refine Zy fun h=>?_
  subst h
  exact ⟨_,_,.nil,(.one (.app .here) (.all .here .nil)),⟨_,rfl,⟨v6,ms7,rfl,rfl,O8⟩⟩⟩
 ·refine Zm ?_
  revert h; refine Zy fun h=>?_
  subst h
  exact ⟨_,_,.nil,(.one .here (.all .here .nil)),⟨_,rfl,⟨v0,M0,rfl,rfl,O0⟩⟩⟩
def Z3c (p0:Z12) (p1:List Int):Option (Z12) :=
 opt (Z4g p0 p1) fun y2 =>
 some y2
theorem Z7n {W:World} {r:Z12} {p0:Z12} {p1:List Int} {v0:Value} {M0:List Zc} {v1:Value} {b:Nat} {T:TypeId} (h:Z3c p0 p1=some r) (h0:Sat W (b::M0.map (·.b)) (ck b T [.one (v0),.one (.int .i64 (p0.gfault))]::(M0 ++ [])) W) (O0:Z1z (El.int .u8) v0 M0 p0.gbytes) (A1:RdSl (El.int .u8) W v1 p1∧Z92 v1 p1 (b::M0.map (·.b))) :
    Calls Tryz.prog 75 [.pointer (some ⟨b,0,none⟩),v1].toArray W (Zdw W (b::M0.map (·.b)) (fun v Ms=>∃ (uw:Value) (Mw:List Zc),v = .tuple #[]∧Ms = [.one (ck b T [.one (uw),.one (.int .i64 (r.gfault))]),.all Mw]∧Z1z (El.int .u8) uw Mw r.gbytes)):=by
 unfold Z3c at h
 refine Z0o mo ok75 rfl h0 ?_
 refine oH h fun y2 ey2 h=>Z2<|Z7 rfl<|Z7 rfl<|Zg (Z4s (mS:=_::M0) rfl (Zes .here .here) (fun w hw=>Z8v  ey2 (Zce hw (Zes .here .here)) O0 ⟨(Z0a A1.1 A1.2) w hw,(Zkj (Zlr (E:=(El.int .u8)) A1.1 A1.2 .here hw) (Zls (E:=(El.int .u8)) A1.1 A1.2 (.there .here) hw))⟩) fun v3 Msv3 R4=>?_)
 obtain ⟨v5,ms6,rfl,rfl,O7⟩:=R4
 refine Z1 ?_
 revert h; refine Zy fun h=>?_
 subst h
 exact ⟨_,_,.nil,(.one .here (.all .here .nil)),⟨_,rfl,⟨v5,ms6,rfl,rfl,O7⟩⟩⟩
def Zds (p0:Int):Option ((Bool×List Int)) :=
 br (((decide (p0<1))||(decide (p0>255)))) (
 some (true,[])
 ) (
 bnd (IntKind.wrap .u8 p0) fun z6 =>
 chk (decide (0<([70,66,1,z6]:List (Int)).length)) <|
 some (false,([70,66,1,z6]:List (Int)))
 )
theorem Zgl {W:World} {r:(Bool×List Int)} {p0:Int} (h:Zds p0=some r)  :
    Calls Tryz.prog 76 [.int .i64 (p0)].toArray W (Zdw W [] (fun v Ms=>∃ (u0:Value) (M0:List Zc),v=u0∧Ms = [.all M0]∧Z1z (El.int .u8) u0 M0 r.2∧Zfk u0=r.1)):=by
 unfold Zds at h
 refine Z0o mo ok76 rfl (Zh8 _) ?_
 refine Z0<|Z2<|Z7 rfl<|Z1<|Z0<|Z0<|Z2<|Z7 rfl<|Z6 _ (Za rfl rfl rfl)<|Z7 rfl<|Zee rfl rfl rfl (fun hg1=>Z2s rfl _ (Z15 rfl) (Z2s rfl _ (Za rfl rfl rfl) (Z1u))) (fun hg1=>rfl) rfl<|Z1<|Z0s h rfl (fun h=>?_) (fun h=>?_)
 ·refine Z0<|Z2<|Z7 rfl<|Z1<|Zk ?_
  revert h; refine Zy fun h=>?_
  subst h
  exact ⟨_,_,(.cons (.tmp rfl) .nil),(.no .nil),⟨_,rfl,⟨(.slice none 0 0),[],rfl,rfl,Z7x,rfl⟩⟩⟩
 ·refine Zm<|Z0<|bH h fun z6 ez6 h=>Z2<|Z7 rfl<|Z6 _ (iz ez6 (Z8l rfl))<|Zg (Z9n (E:=(El.int .u8)) (xs:=[70,66,1,z6]) (.one rfl rfl rfl (.one rfl rfl rfl (.one rfl rfl rfl (.one rfl rfl rfl BdR.nil)))) (.cons (p:=[.one (.int .u8 (70))]) rfl (.cons (p:=[.one (.int .u8 (66))]) rfl (.cons (p:=[.one (.int .u8 (1))]) rfl (.cons (p:=[.one (.int .u8 (z6))]) rfl .nil)))) rfl fun v7 ms8 O9=>Z7 rfl<|Z1<|Zk<|cH h fun c10 h=>?_)
  revert h; refine Zy fun h=>?_
  subst h
  exact ⟨_,_,(.cons (.tmp rfl) .nil),(.all .here .nil),⟨_,rfl,⟨v7,ms8,rfl,rfl,O9,(Shp.notnil (Shp.own O9) c10)⟩⟩⟩
def Z65 (k29:(Int)→Option (Int)) (k45:(Int)→(Int)→Option (Int)) (i43:Int) (i44:Int):Option (Int) :=
 br ((i44 != 0)) (
 bnd (IntKind.wrap .i64 (i43+1)) fun z50 =>
 bnd (Zi .u32 i44 1) fun z52 =>
 k45 z50 z52
 ) (
 k29 i43
 )
def Z34 (k29:(Int)→Option (Int)):Nat→(Int)→(Int)→Option (Int)
  | 0,_,_=>none
  | n+1,i43,i44=>Z65 k29 (Z34 k29 n) i43 i44
def Z7p:Option (Int) :=
 bnd (Z4 .xor .u32 4294967295 0) fun z4 =>
 jn (fun (i28:Int)=>some i28) fun k29=>Z34 k29 big 0 z4
theorem Zb8 {W:World} {r:Int} (h:Z7p=some r)  :
    Calls Tryz.prog 199 [].toArray W (Z51 W (.int .i64 (r))):=by
 unfold Z7p at h
 refine Zd mo Z0ea rfl ?_
 refine Z0<|Z2<|Z7 rfl<|Z1<|Z0<|Z2<|Z7 rfl<|Z1<|Z0<|Z0<|bH h fun z4 ez4 h=>Z2<|Z6 _ (Z8l rfl)<|Z6 _ (iz ez4 (Zmo rfl rfl))<|Z7 rfl<|Z1<|jH h fun k29 qk29 h=>Zo (G:=fun t m=>∃ (i28:Int),k29 i28=some r∧Fit [(1,.int .i64 (i28))] [] t m) ?_ ?_
 ·refine Zb<|Z01 (fun n46 t m=>∃ (i43:Int) (i44:Int),Z34 k29 n46 i43 i44=some r∧Fit [(1,.int .i64 (i43)),(2,.int .u32 (i44))] [] t m) big ?_ ?_
  ·exact ⟨0,z4,h,⟨⟨rfl,rfl,trivial⟩,.nil⟩⟩
  ·rintro n46 t m ⟨i43,i44,h,hF⟩
   refine Zn hF ?_
   clear hF
   rcases n46 with _ | n46
   · exact Z1d h
   have h:Z65 k29 (Z34 k29 n46) i43 i44=some r:=h
   unfold Z65 at h
   obtain ⟨k45,qk45⟩ : ∃ k,k=Z34 k29 n46:=⟨_,rfl⟩
   try rw [← qk45] at h
   refine Z0<|Z0<|Z2<|Z7 rfl<|Z6 _ (Za rfl rfl rfl)<|Z1<|Z0s h rfl (fun h=>?_) (fun h=>?_)
   ·refine Zm<|Z0<|Zb<|bH h fun z50 ez50 h=>Z2<|Z7 rfl<|Z6 _ (iz ez50 (Za rfl rfl rfl))<|Z7 rfl<|Z1<|bH h fun z52 ez52 h=>Z2<|Z7 rfl<|Z6 _ (iz ez52 (Z7a rfl rfl (by decide)))<|Z7 rfl<|Z1 ?_
    rw [qk45] at h
    exact ⟨n46,Nat.lt_succ_self _,z50,z52,h,⟨⟨rfl,rfl,trivial⟩,.nil⟩⟩
   ·exact Z0e _ rfl<|⟨i43,h,⟨⟨rfl,trivial⟩,.nil⟩⟩
 ·rintro t m ⟨i28,h,hF⟩
  refine Zn hF ?_
  clear hF
  subst qk29
  refine Z0<|Z2<|Z7 rfl<|Z7 rfl<|Z1<|Zk ?_
  revert h; refine Zy fun h=>?_
  subst h
  exact ⟨_,(.cons (.tmp rfl) .nil),rfl⟩
def Z53 (k65:(List (Int))→OL) (k102:(Int)→(List (Int))→(Int)→OL) (i96:Int) (l99:List (Int)) (i101:Int):OL :=
 br ((decide (i101≥0))) (
 bnd (IntKind.wrap .u8 i96) fun z107 =>
 chk (inB i101 l99.length) <|
 bnd (Zew 0 l99 (i101).toNat z107) fun l109 =>
 bnd (Zi .u32 i96 8) fun z113 =>
 bnd (IntKind.wrap .i64 (i101-1)) fun z115 =>
 k102 z113 l109 z115
 ) (
 k65 l99
 )
def Z29 (k65:(List (Int))→OL):Nat→(Int)→(List (Int))→(Int)→OL
  | 0,_,_,_=>none
  | n+1,i96,l99,i101=>Z53 k65 (Z29 k65 n) i96 l99 i101
def Z3e (p0:Int):OL :=
 opt (Z7p) fun y3 =>
 bnd (IntKind.wrap .i64 (Int.tdiv y3 8)) fun z4 =>
 chk (mkB 1 z4 z4) <|
 bnd (IntKind.wrap .i64 (((List.replicate (z4).toNat 0:List (Int)).length:Int)-1)) fun z10 =>
 jn (fun (l63:List (Int))=>some l63) fun k65=>Z29 k65 big p0 (List.replicate (z4).toNat 0:List (Int)) z10
theorem Za3 {W:World} {r:(List Int)} {p0:Int} (h:Z3e p0=some r)  :
    Calls Tryz.prog 148 [.int .u32 (p0)].toArray W (Zdw W [] (fun v Ms=>∃ (u0:Value) (M0:List Zc),v=u0∧Ms = [.all M0]∧Z1z (El.int .u8) u0 M0 r)):=by
 unfold Z3e at h
 refine Z0o mo Z0dl rfl (Zh8 _) ?_
 refine Z0<|Z2<|Z7 rfl<|Z1<|Z0<|oH h fun y3 ey3 h=>bH h fun z4 ez4 h=>cH h fun c5 h=>Z2<|Z6 _ (Z1a rfl (Zb8 ey3))<|Z6 _ (iz ez4 (Ziv rfl rfl (by decide)))<|Zg (Zfi (E:=(El.int .u8)) rfl rfl rfl c5 fun v6 ms7 O8=>Z7 rfl<|Z1<|Z0<|Z0<|bH h fun z10 ez10 h=>Z2<|Z7 rfl<|Z6 _ (Z2r rfl (Shp.own O8))<|Z6 _ (iz ez10 (Za rfl rfl rfl))<|Z7 rfl<|Z1<|jH h fun k65 qk65 h=>Zo (G:=fun t m=>∃ (l63:List (Int)) (v61:Value) (ms62:List Zc),k65 l63=some r∧Z1z (El.int .u8) v61 ms62 l63∧Fit [(3,v61)] (ms62 ++ []) t m) ?_ ?_)
 ·refine Zb<|Z01 (fun n103 t m=>∃ (i96:Int) (l99:List (Int)) (i101:Int) (v97:Value) (ms98:List Zc),Z29 k65 n103 i96 l99 i101=some r∧Z1z (El.int .u8) v97 ms98 l99∧Fit [(0,.int .u32 (i96)),(3,v97),(4,.int .i64 (i101))] (ms98 ++ []) t m) big ?_ ?_
  ·exact ⟨p0,(List.replicate (z4).toNat 0:List (Int)),z10,v6,ms7,h,O8,⟨⟨rfl,rfl,rfl,trivial⟩,(.all .here .nil)⟩⟩
  ·rintro n103 t m ⟨i96,l99,i101,v97,ms98,h,O100,hF⟩
   refine Zn hF ?_
   clear hF
   rcases n103 with _ | n103
   · exact Z1d h
   have h:Z53 k65 (Z29 k65 n103) i96 l99 i101=some r:=h
   unfold Z53 at h
   obtain ⟨k102,qk102⟩ : ∃ k,k=Z29 k65 n103:=⟨_,rfl⟩
   try rw [← qk102] at h
   refine Z0<|Z0<|Z2<|Z7 rfl<|Z6 _ (Za rfl rfl rfl)<|Z1<|Z0s h rfl (fun h=>?_) (fun h=>?_)
   ·refine Zm<|Z0<|Zb<|Z0<|bH h fun z107 ez107 h=>cH h fun c108 h=>bH h fun l109 el109 h=>Z2<|Z7 rfl<|Z7 rfl<|Z7 rfl<|Z6 _ (iz ez107 (Z8l rfl))<|Z6 _ (Z3a rfl rfl (Shp.own O100) c108)<|Zg (Zid (E:=(El.int .u8)) el109 O100 .here rfl rfl rfl (Z0w c108) fun ms110 O111=>Z1<|bH h fun z113 ez113 h=>Z2<|Z7 rfl<|Z6 _ (iz ez113 (Z7a rfl rfl (by decide)))<|Z7 rfl<|Z1<|bH h fun z115 ez115 h=>Z2<|Z7 rfl<|Z6 _ (iz ez115 (Za rfl rfl rfl))<|Z7 rfl<|Z1 ?_)
    rw [qk102] at h
    exact ⟨n103,Nat.lt_succ_self _,z113,l109,z115,v97,ms110,h,O111,⟨⟨rfl,rfl,rfl,trivial⟩,(.all .here .nil)⟩⟩
   ·exact Z0e _ rfl<|⟨l99,v97,ms98,h,O100,⟨⟨rfl,trivial⟩,(.all .here .nil)⟩⟩
 ·rintro t m ⟨l63,v61,ms62,h,O64,hF⟩
  refine Zn hF ?_
  clear hF
  subst qk65
  refine Z0<|Z2<|Z7 rfl<|Z7 rfl<|Z1<|Zk ?_
  revert h; refine Zy fun h=>?_
  subst h
  exact ⟨_,_,(.cons (.tmp rfl) .nil),(.all .here .nil),⟨_,rfl,⟨v61,ms62,rfl,rfl,O64⟩⟩⟩
def Z7i (p0:Z12) (p1:Int):Option (Z12) :=
 opt (Z3e p1) fun y2 =>
 opt (Z4g p0 y2) fun y8 =>
 some y8
theorem Zco {W:World} {r:Z12} {p0:Z12} {p1:Int} {v0:Value} {M0:List Zc} {b:Nat} {T:TypeId} (h:Z7i p0 p1=some r) (h0:Sat W (b::M0.map (·.b)) (ck b T [.one (v0),.one (.int .i64 (p0.gfault))]::(M0 ++ [])) W) (O0:Z1z (El.int .u8) v0 M0 p0.gbytes) :
    Calls Tryz.prog 77 [.pointer (some ⟨b,0,none⟩),.int .u32 (p1)].toArray W (Zdw W (b::M0.map (·.b)) (fun v Ms=>∃ (uw:Value) (Mw:List Zc),v = .tuple #[]∧Ms = [.one (ck b T [.one (uw),.one (.int .i64 (r.gfault))]),.all Mw]∧Z1z (El.int .u8) uw Mw r.gbytes)):=by
 unfold Z7i at h
 refine Z0o mo ok77 rfl h0 ?_
 refine oH h fun y2 ey2 h=>oH h fun y8 ey8 h=>Z2<|Z7 rfl<|Z7 rfl<|Zg (Z00 rfl (fun w hw=>Za3  ey2 ) fun v3 Msv3 R4=>?_)
 obtain ⟨_,ms6,rfl,rfl,O7⟩:=R4
 refine Zg (Z4s (mS:=_::M0) rfl (Zes (.app .here) (.app .here)) (fun w hw=>Z8v  ey8 (Zce hw (Zes (.app .here) (.app .here))) O0 ⟨(Z1v O7 .here) w hw,(Zkj (Zfd (E:=(El.int .u8)) O7 .here .here hw) (Zgr (E:=(El.int .u8)) O7 .here (.there .here) hw))⟩) fun v9 Msv9 R10=>?_)
 obtain ⟨v11,ms12,rfl,rfl,O13⟩:=R10
 refine Z1 ?_
 revert h; refine Zy fun h=>?_
 subst h
 exact ⟨_,_,.nil,(.one .here (.all .here .nil)),⟨_,rfl,⟨v11,ms12,rfl,rfl,O13⟩⟩⟩
def Z6h (p0:Z12):Option ((List Int)×Int×Z12) :=
 br ((p0.gfault != 0)) (
 some ([],p0.gfault,p0)
 ) (
 chk (decide ((([]:List (Int)).length+p0.gbytes.length)*1≤140737488355328)) <|
 bnd (([]:List (Int))++p0.gbytes) fun l10 =>
 some (l10,0,p0)
 )
theorem Zc1 {W:World} {r:(List Int)×Int×Z12} {p0:Z12} {v0:Value} {M0:List Zc} {b:Nat} {T:TypeId} (h:Z6h p0=some r) (h0:Sat W (b::M0.map (·.b)) (ck b T [.one (v0),.one (.int .i64 (p0.gfault))]::(M0 ++ [])) W) (O0:Z1z (El.int .u8) v0 M0 p0.gbytes) :
    Calls Tryz.prog 78 [.pointer (some ⟨b,0,none⟩)].toArray W (Zdw W (b::M0.map (·.b)) (fun v Ms=>∃ (u0:Value) (M0:List Zc) (uw:Value) (Mw:List Zc),v = .tuple #[u0,.int .i64 (r.2.1)]∧Ms = [.all M0,.one (ck b T [.one (uw),.one (.int .i64 (r.2.2.gfault))]),.all Mw]∧Z1z (El.int .u8) u0 M0 r.1∧Z1z (El.int .u8) uw Mw r.2.2.gbytes)):=by
 unfold Z6h at h
 refine Z0o mo ok78 rfl h0 ?_
 refine Z0<|Z2<|Z7 rfl<|Z7 rfl<|Z1<|Z0<|Z0<|Z2<|Z7 rfl<|Z6 _ (Z59 rfl)<|Z6 _ (Z64 rfl)<|Z6 _ (Z2g rfl .here rfl)<|Z6 _ (Za rfl rfl rfl)<|Z1<|Z0s h rfl (fun h=>?_) (fun h=>?_)
 ·refine Z0<|Zv<|Z8 _ (Z15 rfl)<|Z8 _ (Z59 rfl)<|Z8 _ (Z64 rfl)<|Z8 _ (Z15 rfl)<|Zp _ (Z2g rfl .here rfl)<|Z8 _ (Z15 rfl)<|Z05<|Zk ?_
  revert h; refine Zy fun h=>?_
  subst h
  exact ⟨_,_,(.cons (.tmp rfl) (.cons (.tmp rfl) .nil)),(.no (.one .here (.all .here .nil))),⟨_,rfl,⟨(.slice none 0 0),[],v0,M0,rfl,rfl,Z7x,O0⟩⟩⟩
 ·refine Zm<|Z0<|cH h fun c9 h=>bH h fun l10 el10 h=>Z2<|Zg (Z9n (E:=(El.int .u8)) (xs:=[]) BdR.nil .nil rfl fun v6 ms7 O8=>Z7 rfl<|Z6 _ (Z59 rfl)<|Z6 _ (Z64 rfl)<|Z6 _ (Z2g rfl (.app .here) rfl)<|Zg (Zbf (E:=(El.int .u8)) el10 rfl O8 .here rfl (Z1v O0 (.app (.there .here))) c9 fun v11 ms12 O13=>Z7 rfl<|Z7 rfl<|Z1<|Zk ?_))
  revert h; refine Zy fun h=>?_
  subst h
  exact ⟨_,_,(.cons (.tmp rfl) (.cons (.tmp rfl) .nil)),(.all .here (.one .here (.all .here .nil))),⟨_,rfl,⟨v11,ms12,v0,M0,rfl,rfl,O13,O0⟩⟩⟩
structure api_Link where
  gEpoch:Int
  gKey:List Int
  gSig:List Int
def api_Link_z:api_Link:=⟨0,(List.replicate 32 0),(List.replicate 64 0)⟩
def Z61 (p0:api_Link):Option ((Bool×List Int)) :=
 br (((decide (p0.gEpoch<1))||(decide (p0.gEpoch>64)))) (
 some (true,[])
 ) (
 opt (Z89 ) fun y7 =>
 opt (Zds 11) fun y16 =>
 opt (Z3c y7 y16.2) fun y23 =>
 bnd (IntKind.wrap .u32 p0.gEpoch) fun z30 =>
 opt (Z7i y23 z30) fun y31 =>
 opt (Z3c y31 (tk p0.gKey 0 32)) fun y38 =>
 opt (Z6h y38) fun y45 =>
 chk (decide (0<y45.1.length)) <|
 some (false,y45.1)
 )
theorem Z5o {W:World} {r:(Bool×List Int)} {p0:api_Link} (h:Z61 p0=some r)  :
    Calls Tryz.prog 29 [agg [.one (.int .i64 (p0.gEpoch)),.ints .u8 32 (p0.gKey),.ints .u8 64 (p0.gSig)]].toArray W (Zdw W [] (fun v Ms=>∃ (u0:Value) (M0:List Zc),v=u0∧Ms = [.all M0]∧Z1z (El.int .u8) u0 M0 r.2∧Zfk u0=r.1)):=by
 unfold Z61 at h
 refine Z0o mo ok29 rfl (Zh8 _) ?_
 refine Z0<|Z2<|Zg (Z16 (s:=[.one (.int .i64 (p0.gEpoch)),.ints .u8 32 (p0.gKey),.ints .u8 64 (p0.gSig)]) rfl fun b2 hb2=>Z7 rfl<|Z1<|Z0<|Z0<|Z2<|Z6 _ (Z64 rfl)<|Z6 _ (Z2g rfl .here rfl)<|Z6 _ (Za rfl rfl rfl)<|Z7 rfl<|Zee rfl rfl rfl (fun hg1=>Z2s rfl _ (Z64 rfl) (Z2s rfl _ (Z2g rfl .here rfl) (Z2s rfl _ (Za rfl rfl rfl) (Z1u)))) (fun hg1=>rfl) rfl<|Z1<|Z0s h rfl (fun h=>?_) (fun h=>?_))
 ·refine Z0<|Z2<|Z7 rfl<|Z1<|Zk ?_
  revert h; refine Zy fun h=>?_
  subst h
  exact ⟨_,_,(.cons (.tmp rfl) .nil),(.no .nil),⟨_,rfl,⟨(.slice none 0 0),[],rfl,rfl,Z7x,rfl⟩⟩⟩
 ·refine Zm<|Z0<|oH h fun y7 ey7 h=>Z2<|Zg (Z00 rfl (fun w hw=>Zd1  ey7 ) fun v8 Msv8 R9=>?_)
  obtain ⟨b10,T11,v12,ms13,rfl,rfl,O14⟩:=R9
  refine Z7 rfl<|Z1<|Z0<|oH h fun y16 ey16 h=>oH h fun y23 ey23 h=>Z2<|Z7 rfl<|Zg (Z00 rfl (fun w hw=>Zgl  ey16 ) fun v17 Msv17 R18=>?_)
  obtain ⟨_,ms20,rfl,rfl,O21,N22⟩:=R18
  refine Zg (Z4s (mS:=_::ms13) rfl (Zes (.app .here) (.app .here)) (fun w hw=>Z7n  ey23 (Zce hw (Zes (.app .here) (.app .here))) O14 ⟨(Z1v O21 .here) w hw,(Zkj (Zfd (E:=(El.int .u8)) O21 .here .here hw) (Zgr (E:=(El.int .u8)) O21 .here (.there .here) hw))⟩) fun v24 Msv24 R25=>?_)
  obtain ⟨v26,ms27,rfl,rfl,O28⟩:=R25
  refine Z1<|Z0<|bH h fun z30 ez30 h=>oH h fun y31 ey31 h=>Z2<|Z7 rfl<|Z6 _ (Z64 rfl)<|Z6 _ (Z2g rfl (.there (.app (.app .here))) rfl)<|Z6 _ (iz ez30 (Z8l rfl))<|Zg (Z4s (mS:=_::ms27) rfl (Zes .here .here) (fun w hw=>Zco  ey31 (Zce hw (Zes .here .here)) O28) fun v32 Msv32 R33=>?_)
  obtain ⟨v34,ms35,rfl,rfl,O36⟩:=R33
  refine Z1<|Z0<|oH h fun y38 ey38 h=>Z2<|Z7 rfl<|Z6 _ (Z64 rfl)<|Z6 _ (Z8w rfl .no .no .no (by simp) (by decide))<|Zg (Z4s (mS:=_::ms35) rfl (Zes .here .here) (fun w hw=>Z7n  ey38 (Zce hw (Zes .here .here)) O36 ⟨(Z1x (s:=[.one (.int .i64 (p0.gEpoch)),.ints .u8 32 (p0.gKey),.ints .u8 64 (p0.gSig)]) (N:=32) (k:=.u8) (base:=1) (lo:=0) (hi:=32) (mz:=32) (.there (.app (.app .here))) rfl (by decide)) w hw,(Zkj (Zlt (.there (.app (.app .here))) .here hw Zc0) (Zlu (.there (.app (.app .here))) (.there .here) hw Zc0))⟩) fun v39 Msv39 R40=>?_)
  obtain ⟨v41,ms42,rfl,rfl,O43⟩:=R40
  refine Z1<|Z0<|oH h fun y45 ey45 h=>Z2<|Z7 rfl<|Zg (Z4s (mS:=_::ms42) rfl (Zes .here .here) (fun w hw=>Zc1  ey45 (Zce hw (Zes .here .here)) O43) fun v46 Msv46 R47=>?_)
  obtain ⟨v48,ms49,v51,ms52,rfl,rfl,O50,O53⟩:=R47
  refine Z7 rfl<|Z6 _ (Z19 rfl rfl)<|Z6 _ (Z19 rfl rfl)<|Z7 rfl<|Z7 rfl<|Z1<|Z0<|Z2<|Z7 rfl<|Z7 rfl<|Z1<|Zk<|cH h fun c55 h=>?_
  revert h; refine Zy fun h=>?_
  subst h
  exact ⟨_,_,(.cons (.tmp rfl) .nil),(.all .here .nil),⟨_,rfl,⟨v48,ms49,rfl,rfl,O50,(Shp.notnil (Shp.own O50) c55)⟩⟩⟩
abbrev Z1b:El (List Int):=⟨32,fun x=>cells [.ints .u8 32 (x)],fun x=>by rw [cells_length]; rfl,fun x=>(Z3h Z8j Z88),by decide,(List.replicate 32 0)⟩
def Z02 (p0:List (List Int)) (p1:List Int) (k37:Unit→Option (Int)) (k59:(Int)→Option (Int)) (i58:Int):Option (Int) :=
 br ((decide (i58<(p0.length:Int)))) (
 chk (inB i58 p0.length) <|
 bnd (p0.getD (i58).toNat (List.replicate 32 0)) fun x66 =>
 br ((ieq 32 p1 x66)) (
 some i58
 ) (
 bnd (IntKind.wrap .i64 (i58+1)) fun z70 =>
 k59 z70
 )
 ) (
 k37 ()
 )
def Zr (p0:List (List Int)) (p1:List Int) (k37:Unit→Option (Int)):Nat→(Int)→Option (Int)
  | 0,_=>none
  | n+1,i58=>Z02 p0 p1 k37 (Zr p0 p1 k37 n) i58
def Z1y (p0:List (List Int)) (p1:List Int):Option (Int) :=
 jn (fun (_:Unit)=>some (-1)) fun k37=>Zr p0 p1 k37 big 0
theorem Z7g {W:World} {r:Int} {p0:List (List Int)} {p1:List Int} {v0:Value} (h:Z1y p0 p1=some r) (A0:RdSl Z1b W v0 p0) :
    Calls Tryz.prog 152 [v0,agg [.ints .u8 32 (p1)]].toArray W (Z51 W (.int .i64 (r))):=by
 unfold Z1y at h
 refine Zd mo Z0dn rfl ?_
 refine Z0<|Z2<|Zg (Z16 (s:=[.ints .u8 32 (p1)]) rfl fun b2 hb2=>Z7 rfl<|Z1<|Z0<|Z0<|Z2<|Z7 rfl<|Z6 _ (Z2r rfl (Shp.rd A0))<|Z7 rfl<|Z1<|jH h fun k37 qk37 h=>Zo (G:=fun t m=>k37 ()=some r∧Fit [] (ck b2 29 [.ints .u8 32 (p1)] :: []) t m) ?_ ?_)
 ·refine Zb<|Z01 (fun n60 t m=>∃ (i58:Int),Zr p0 p1 k37 n60 i58=some r∧Fit [(0,v0),(3,.pointer (some ⟨b2,0,none⟩)),(7,.int .i64 ((p0.length:Int))),(8,.int .i64 (i58))] (ck b2 29 [.ints .u8 32 (p1)] :: []) t m) big ?_ ?_
  ·exact ⟨0,h,⟨⟨rfl,rfl,rfl,rfl,trivial⟩,(.one .here .nil)⟩⟩
  ·rintro n60 t m ⟨i58,h,hF⟩
   refine Zn hF ?_
   clear hF
   rcases n60 with _ | n60
   · exact Z1d h
   have h:Z02 p0 p1 k37 (Zr p0 p1 k37 n60) i58=some r:=h
   unfold Z02 at h
   obtain ⟨k59,qk59⟩ : ∃ k,k=Zr p0 p1 k37 n60:=⟨_,rfl⟩
   try rw [← qk59] at h
   refine Z0<|Z2<|Z6 _ (Za rfl rfl rfl)<|Z1<|Z0<|Z0s h rfl (fun h=>?_) (fun h=>?_)
   ·refine Zm<|Z0<|Zb<|Z0<|Z2<|Z7 rfl<|Z7 rfl<|Z1<|Z0<|cH h fun c65 h=>bH h fun x66 ex66 h=>Zv<|Z8 _ (Z15 rfl)<|Z8 _ (Z15 rfl)<|Z8 _ (Z3a rfl rfl (Shp.rd A0) c65)<|Zp _ (Z03 (p:=[.ints .u8 32 (p1)]) rfl .here rfl)<|Zp _ (az (fun (x66:List Int)=>agg [.ints .u8 32 (x66)]) ex66 (Zaf (E:=Z1b) (s:=[.ints .u8 32 ((p0.getD (i58).toNat (List.replicate 32 0)))]) rfl (Z0a A0 Z0h) (Z0w c65) rfl rfl))<|Z8 _ (Zgj rfl rfl rfl rfl _ (Z87 Z5z))<|Z05<|Z0s h rfl (fun h=>?_) (fun h=>?_)
    ·refine Z0<|Z2<|Z7 rfl<|Z7 rfl<|Z1<|Zk ?_
     revert h; refine Zy fun h=>?_
     subst h
     exact ⟨_,(.cons (.tmp rfl) .nil),rfl⟩
    ·refine Zm<|bH h fun z70 ez70 h=>Z2<|Z6 _ (iz ez70 (Za rfl rfl rfl))<|Z7 rfl<|Z1 ?_
     rw [qk59] at h
     exact ⟨n60,Nat.lt_succ_self _,z70,h,⟨⟨rfl,rfl,rfl,rfl,trivial⟩,(.one .here .nil)⟩⟩
   ·exact Z0e _ rfl<|⟨h,⟨trivial,(.one .here .nil)⟩⟩
 ·rintro t m ⟨h,hF⟩
  refine Zn hF ?_
  clear hF
  subst qk37
  refine Z0<|Z2<|Z7 rfl<|Z1<|Zk ?_
  revert h; refine Zy fun h=>?_
  subst h
  exact ⟨_,(.cons (.tmp rfl) .nil),rfl⟩
def Z0g (p0:List (List Int)) (p1:List Int):Option (Bool) :=
 opt (Z1y p0 p1) fun y4 =>
 some (decide (y4≥0))
theorem Z6e {W:World} {r:Bool} {p0:List (List Int)} {p1:List Int} {v0:Value} (h:Z0g p0 p1=some r) (A0:RdSl Z1b W v0 p0) :
    Calls Tryz.prog 83 [v0,agg [.ints .u8 32 (p1)]].toArray W (Z51 W (.bool (r))):=by
 unfold Z0g at h
 refine Zd mo ok83 rfl ?_
 refine Z0<|Z2<|Zg (Z16 (s:=[.ints .u8 32 (p1)]) rfl fun b2 hb2=>Z7 rfl<|Z1<|Z0<|oH h fun y4 ey4 h=>Z2<|Z7 rfl<|Z6 _ (Z03 (p:=[.ints .u8 32 (p1)]) rfl .here rfl)<|Z6 _ (Z0n rfl (fun w hw=>Z7g ey4 ((Z0a A0 Z0h) w hw)))<|Z6 _ (Za rfl rfl rfl)<|Z7 rfl<|Z1<|Zk ?_)
 revert h; refine Zy fun h=>?_
 subst h
 exact ⟨_,(.cons (.tmp rfl) .nil),rfl⟩
abbrev E_api_Link:El (api_Link):=⟨97,fun x=>cells [.one (.int .i64 (x.gEpoch)),.ints .u8 32 (x.gKey),.ints .u8 64 (x.gSig)],fun x=>by rw [cells_length]; rfl,fun x=>(Z3h (Zq7 rfl) (Z3h Z8j (Z3h Z8j Z88))),by decide,api_Link_z⟩
def Z2z (p1:List (api_Link)) (k119:(Int)→(List Int)→(List (List Int))→Option ((List (List Int))×Int)) (i113:Int) (a114:List Int) (l117:List (List Int)):Option ((List (List Int))×Int) :=
 br ((decide (i113<(p1.length:Int)))) (
 chk (inB i113 p1.length) <|
 bnd (p1.getD (i113).toNat api_Link_z) fun x125 =>
 chk (imp (!(x125.gEpoch != (l117.length:Int))) ((Z0g l117 x125.gKey).isSome)) <|
 br (((x125.gEpoch != (l117.length:Int))||((Z0g l117 x125.gKey).getD false))) (
 some ([],171)
 ) (
 opt (Z61 x125) fun y137 =>
 opt (Z4v a114 y137.2 x125.gSig) fun y144 =>
 br ((!y144)) (
 some ([],110)
 ) (
 chk (decide ((l117.length+([x125.gKey]:List (List Int)).length)*32≤140737488355328)) <|
 bnd (l117++([x125.gKey]:List (List Int))) fun l152 =>
 bnd (IntKind.wrap .i64 (i113+1)) fun z158 =>
 k119 z158 x125.gKey l152
 )
 )
 ) (
 some (l117,0)
 )
def Z30 (p1:List (api_Link)):Nat→(Int)→(List Int)→(List (List Int))→Option ((List (List Int))×Int)
  | 0,_,_,_=>none
  | n+1,i113,a114,l117=>Z2z p1 (Z30 p1 n) i113 a114 l117
def Z2h (p0:List Int) (p1:List (api_Link)):Option ((List (List Int))×Int) :=
 br ((decide ((p1.length:Int)>64))) (
 some ([],1)
 ) (
 Z30 p1 big 0 p0 ([p0]:List (List Int))
 )
theorem Z5a {W:World} {r:(List (List Int))×Int} {p0:List Int} {p1:List (api_Link)} {v1:Value} (h:Z2h p0 p1=some r) (hG:Globs W) (A1:RdSl E_api_Link W v1 p1) :
    Calls Tryz.prog 34 [agg [.ints .u8 32 (p0)],v1].toArray W (Zdw W [] (fun v Ms=>∃ (u0:Value) (M0:List Zc),v = .tuple #[u0,.int .i64 (r.2)]∧Ms = [.all M0]∧Z1z Z1b u0 M0 r.1)):=by
 unfold Z2h at h
 refine Zjn mo ok34 rfl (Zh8 _) ?_
 refine Zkb<|Z2<|Zg (Z16 (s:=[.ints .u8 32 (p0)]) rfl fun b2 hb2=>Zg (Zx fun b3 hb3=>Zg (Zx fun b4 hb4=>Z1<|Zkb<|Z0<|Z2<|Z7 rfl<|Z6 _ (Z2r rfl (Shp.rd A1))<|Z6 _ (Za rfl rfl rfl)<|Z1<|Z0s h rfl (fun h=>?_) (fun h=>?_))))
 ·refine Z0<|Z2<|Zg (Z97 (q:=[.one (.slice none 0 0)]) rfl rfl rfl rfl (.there .here)<|Zg (Z97 (q:=[.one (.int .i64 (1))]) rfl rfl rfl rfl .here<|Z1<|Zk<|Zqk ?_))
  revert h; refine Zy fun h=>?_
  subst h
  exact ⟨_,_,(.cons (.one rfl (.there .here) rfl) (.cons (.one rfl .here rfl) .nil)),(.no .nil),⟨_,rfl,⟨(.slice none 0 0),[],rfl,rfl,Z7x⟩⟩⟩
 ·refine Zm<|Zkb<|Z2<|Z6 _ (Z03 (p:=[.ints .u8 32 (p0)]) rfl (.there (.there .here)) rfl)<|Zg (Z9n (E:=Z1b) (xs:=[p0]) (.agg rfl rfl rfl BdR.nil) (.cons (p:=[.ints .u8 32 (p0)]) rfl .nil) rfl fun v9 ms10 O11=>Zg (Zx fun b12 hb12=>Zg (Z97 (q:=[.one (v9)]) rfl rfl (Zcu.one1 (Z1z.isSl O11)) rfl .here<|Z1<|Zvr (dg:=d151) Z0dm rfl (by kernel_rfl)<|Z2<|Z6 _ (Z03 (p:=[.ints .u8 32 (p0)]) rfl (.there (.app (.there (.there .here)))) rfl)<|Z7 rfl<|Zg (Z00 rfl (fun w hw=>Zdn (p0:=p0) (Shp.isSl (Shp.rd A1))) fun v14 Msv14 R15=>?_))))
  obtain ⟨b16,U17,bb18,UU19,rfl,rfl⟩:=R15
  refine Z1<|⟨[.pointer (some ⟨b16,0,none⟩),.pointer (some ⟨bb18,0,none⟩)],rfl,rfl,fun L20 D21 R22 hp23 ha24 hb25 hr26=>Z0 (Z2 (Z6 _ (Z03 (p:=[.ints .u8 32 (p0)]) rfl (.there (.there .here)) rfl) (Zg (Zx fun b28 hb28=>Zg (Zu (q:=[.ints .u8 32 (p0)]) rfl rfl rfl rfl rfl .here (Z1 (Z0 (Z2 (Z6 _ (Z2g rfl (.there (.there (.there (.there .here)))) rfl) (Z6 _ (Z2r rfl (Shp.rd A1)) (Z7 rfl (Z1 (Zb (Z01 (fun n120 t m=>∃ (i113:Int) (a114:List Int) (l117:List (List Int)) (v115:Value) (ms116:List Zc),Z30 p1 n120 i113 a114 l117=some r∧Z1z Z1b v115 ms116 l117∧Fit [(0,.func (.yield L20) #[] #[]),(4,.pointer (some ⟨b28,0,none⟩)),(8,v1),(9,.int .i64 ((p1.length:Int))),(10,.int .i64 (i113))] (ck b28 29 [.ints .u8 32 (a114)]::(lpc L20 (ra R22 .ready none)::(dfc D21::(ck b16 U17 [.ints .u8 32 (p0)]::(ck bb18 UU19 [.one (v1)]::(ck b12 40 [.one (v115)]::(ck b4 35 [.one (.int .i64 (0))]::(ck b3 40 [.one (.slice none 0 0)]::(ck b2 29 [.ints .u8 32 (p0)]::(ms116 ++ [])))))))))) t m) big ?_ ?_))))))))))))))⟩
  ·exact ⟨0,p0,([p0]:List (List Int)),v9,ms10,h,O11,⟨⟨rfl,rfl,rfl,rfl,rfl,trivial⟩,(.one .here (.one .here (.one .here (.one .here (.one .here (.one .here (.one (.app .here) (.one (.app .here) (.one (.app .here) (.all .here .nil))))))))))⟩⟩
  ·rintro n120 t m ⟨i113,a114,l117,v115,ms116,h,O118,hF⟩
   refine Zn hF ?_
   clear hF
   rcases n120 with _ | n120
   · exact Z1d h
   have h:Z2z p1 (Z30 p1 n120) i113 a114 l117=some r:=h
   unfold Z2z at h
   obtain ⟨k119,qk119⟩ : ∃ k,k=Z30 p1 n120:=⟨_,rfl⟩
   try rw [← qk119] at h
   refine Z0<|Z2<|Z6 _ (Za rfl rfl rfl)<|Z1<|Z0<|Z0s h rfl (fun h=>?_) (fun h=>?_)
   ·refine Zm<|Z0<|Zb<|Z0<|cH h fun c124 h=>bH h fun x125 ex125 h=>Z2<|Z6 _ (Z3a rfl rfl (Shp.rd A1) c124)<|Z6 _ (az (fun (x125:api_Link)=>agg [.one (.int .i64 (x125.gEpoch)),.ints .u8 32 (x125.gKey),.ints .u8 64 (x125.gSig)]) ex125 (Zaf (E:=E_api_Link) (s:=[.one (.int .i64 (((p1.getD (i113).toNat api_Link_z)).gEpoch)),.ints .u8 32 (((p1.getD (i113).toNat api_Link_z)).gKey),.ints .u8 64 (((p1.getD (i113).toNat api_Link_z)).gSig)]) rfl (Z0a A1 Z0h) (Z0w c124) rfl rfl))<|Zg (Zx fun b126 hb126=>Zg (Zu (q:=[.one (.int .i64 (x125.gEpoch)),.ints .u8 32 (x125.gKey),.ints .u8 64 (x125.gSig)]) rfl rfl rfl rfl rfl .here<|Z1<|Z0<|Z0<|Z2<|Z7 rfl<|Z6 _ (Z03 (p:=[.ints .u8 32 (a114)]) rfl (.there .here) rfl)<|Z6 _ (Z03 (p:=[.one (.int .i64 (x125.gEpoch)),.ints .u8 32 (x125.gKey),.ints .u8 64 (x125.gSig)]) rfl .here rfl)<|Zqz rfl rfl (.there (.there .here)) (by rw [← Array.length_toList,hp23]; rfl) (Zp4 hr26 hp23 rfl rfl) mo ha24 hb25<|Z0<|Z2<|Zg (Zx fun b129 hb129=>Zg (Zu (q:=[.ints .u8 32 (a114)]) rfl rfl rfl rfl rfl .here<|Z1<|Z2<|Zg (Zx fun b131 hb131=>Zg (Zu (q:=[.one (.int .i64 (x125.gEpoch)),.ints .u8 32 (x125.gKey),.ints .u8 64 (x125.gSig)]) rfl rfl rfl rfl rfl .here<|Z1<|⟨_,(.there (.there .here)),Zb (Z0 (Z0 (cH h fun c133 h=>Z2 (Z6 _ (Z64 rfl) (Z6 _ (Z2g rfl (.there .here) rfl) (Z6 _ (Z2g rfl (.there (.there (.there (.there (.there (.there (.there (.there .here)))))))) rfl) (Z6 _ (Z2r rfl (Shp.own O118)) (Z6 _ (Za rfl rfl rfl) (Z7 rfl (Zee rfl rfl rfl (fun hg1=>Z2s rfl _ (Z2g rfl (.there (.there (.there (.there (.there (.there (.there (.there .here)))))))) rfl) (Z2s rfl _ (Z64 rfl) (Z2s rfl _ (Z03 (p:=[.ints .u8 32 (x125.gKey)]) rfl (.there .here) rfl) (Z2s rfl _ (Z0n rfl (fun w hw=>Z6e (getD_some (z:=false) (Zhr c133 hg1)) ((Z1v O118 (.there (.there (.there (.there (.there (.there (.there (.there (.there (.there (.there (.there .here))))))))))))) w hw))) (Z1u))))) (fun hg1=>rfl) rfl (Z1 (Z0s h rfl (fun h=>?_) (fun h=>?_)))))))))))))⟩))))))
    ·refine Z0<|Z2<|Zg (Z97 (q:=[.one (.slice none 0 0)]) rfl rfl rfl rfl (.there (.there (.there (.there (.there (.there (.there (.there (.there (.there .here))))))))))<|Zg (Z97 (q:=[.one (.int .i64 (171))]) rfl rfl rfl rfl (.there (.there (.there (.there (.there (.there (.there (.there (.there .here)))))))))<|Z1<|Zk<|⟨_,.here,Z6 _ (Zmo rfl rfl) (Z1 (Zoz rfl (fun _=>Zk (.inr ⟨_,_,.here,(.there (.there (.there (.there .here)))),Zqk ?_⟩)) (fun h=>absurd h (by decide))))⟩))
     revert h; refine Zy fun h=>?_
     subst h
     exact ⟨_,_,(.cons (.one rfl (.there (.there (.there (.there (.there (.there (.there (.there .here)))))))) rfl) (.cons (.one rfl (.there (.there (.there (.there (.there (.there (.there .here))))))) rfl) .nil)),(.no .nil),⟨_,rfl,⟨(.slice none 0 0),[],rfl,rfl,Z7x⟩⟩⟩
    ·refine Zm<|Z0<|Z0<|oH h fun y137 ey137 h=>oH h fun y144 ey144 h=>Zv<|Z8 _ (Z64 rfl)<|Zp _ (Z03 (p:=[.ints .u8 32 (a114)]) rfl (.there (.there .here)) rfl)<|Zp _ (Z03 (p:=[.one (.int .i64 (x125.gEpoch)),.ints .u8 32 (x125.gKey),.ints .u8 64 (x125.gSig)]) rfl (.there .here) rfl)<|Zp _ (Z03 (p:=[.ints .u8 64 (x125.gSig)]) rfl (.there .here) rfl)<|Z7j (Z00 rfl (fun w hw=>Z5o  ey137 ) fun v138 Msv138 R139=>?_)
     obtain ⟨_,ms141,rfl,rfl,O142,N143⟩:=R139
     refine ⟨(by repeat (first | exact Sup.refl _ | apply Sup.cons | apply Sup.app)),Zke _ (Z0n rfl (fun w hw=>Z8t ey144 (hG.at hw (by simp)) ((Z1v O142 .here) w hw))) (Z8 _ (Zmo rfl rfl) (Z05 (Z0s h rfl (fun h=>?_) (fun h=>?_)))) (by repeat (first | exact Sup.refl _ | apply Sup.cons | apply Sup.app))⟩
     ·refine Z0<|Z2<|Zg (Z97 (q:=[.one (.slice none 0 0)]) rfl rfl rfl rfl (.app (.there (.there (.there (.there (.there (.there (.there (.there (.there (.there .here)))))))))))<|Zg (Z97 (q:=[.one (.int .i64 (110))]) rfl rfl rfl rfl (.app (.there (.there (.there (.there (.there (.there (.there (.there (.there .here))))))))))<|Z1<|Zk<|⟨_,(.app .here),Z6 _ (Zmo rfl rfl) (Z1 (Zoz rfl (fun _=>Zk (.inr ⟨_,_,.here,(.app (.there (.there (.there (.there .here))))),Zqk ?_⟩)) (fun h=>absurd h (by decide))))⟩))
      revert h; refine Zy fun h=>?_
      subst h
      exact ⟨_,_,(.cons (.one rfl (.app (.there (.there (.there (.there (.there (.there (.there (.there .here))))))))) rfl) (.cons (.one rfl (.app (.there (.there (.there (.there (.there (.there (.there .here)))))))) rfl) .nil)),(.no .nil),⟨_,rfl,⟨(.slice none 0 0),[],rfl,rfl,Z7x⟩⟩⟩
     ·refine Zm<|cH h fun c151 h=>bH h fun l152 el152 h=>Z2<|Z6 _ (Z2g rfl (.app (.there (.there (.there (.there (.there (.there (.there (.there .here))))))))) rfl)<|Z6 _ (Z64 rfl)<|Z6 _ (Z03 (p:=[.ints .u8 32 (x125.gKey)]) rfl (.app (.there .here)) rfl)<|Zg (Z9n (E:=Z1b) (xs:=[x125.gKey]) (.agg rfl rfl rfl BdR.nil) (.cons (p:=[.ints .u8 32 (x125.gKey)]) rfl .nil) rfl fun v148 ms149 O150=>Zg (Zbf (E:=Z1b) el152 rfl O118 (.app (.app (.there (.there (.there (.there (.there (.there (.there (.there (.there (.there (.there (.there .here)))))))))))))) rfl (Z1v O150 .here) c151 fun v153 ms154 O155=>Zg (Z97 (q:=[.one (v153)]) rfl rfl (Zcu.one1 (Z1z.isSl O155)) rfl (.app (.app (.app (.there (.there (.there (.there (.there (.there (.there (.there .here)))))))))))<|Z1<|⟨_,(.app (.app (.app .here))),Z6 _ (Zmo rfl rfl) (Z1 (Zoz rfl (fun h=>absurd h (by decide)) (fun _=>Zm (Z2 (Z6 _ (Z64 rfl) (Z6 _ (Z03 (p:=[.ints .u8 32 (x125.gKey)]) rfl (.there (.app (.app (.app (.there (.there .here)))))) rfl) (Zg (Zu (q:=[.ints .u8 32 (x125.gKey)]) rfl rfl rfl rfl rfl (.there (.app (.app (.app (.there (.there (.there .here))))))) (Z1 (bH h fun z158 ez158 h=>Z2 (Z6 _ (iz ez158 (Za rfl rfl rfl)) (Z7 rfl (Z1 ?_)))))))))))))⟩)))
      rw [qk119] at h
      exact ⟨n120,Nat.lt_succ_self _,z158,x125.gKey,l152,v153,ms154,h,O155,⟨⟨rfl,rfl,rfl,rfl,rfl,trivial⟩,(.one (.there (.app (.app (.app (.there (.there (.there .here))))))) (.one .here (.one (.app (.app (.app (.there (.there (.there .here)))))) (.one (.app (.app (.app (.there (.there (.there .here)))))) (.one (.app (.app (.app (.there (.there (.there .here)))))) (.one (.app (.app (.app (.there (.there (.there .here)))))) (.one (.app (.app (.app (.there (.there (.there .here)))))) (.one (.app (.app (.app (.there (.there (.there .here)))))) (.one (.app (.app (.app (.there (.there (.there .here)))))) (.all .here .nil))))))))))⟩⟩
   ·refine Z0e _ rfl<|.inl ⟨_,(.there .here),Z6 _ (Z2g rfl (.there (.there (.there (.there .here)))) rfl) (Zg (Z97 (q:=[.one (v115)]) rfl rfl (Zcu.one1 (Z1z.isSl O118)) rfl (.there (.there (.there (.there (.there (.there .here)))))) (Zg (Z97 (q:=[.one (.int .i64 (0))]) rfl rfl rfl rfl (.there (.there (.there (.there (.there .here))))) (Z1 (⟨_,(.there .here),Zqk ?_⟩))))))⟩
    revert h; refine Zy fun h=>?_
    subst h
    exact ⟨_,_,(.cons (.one rfl (.there (.there (.there (.there (.there .here))))) rfl) (.cons (.one rfl (.there (.there (.there (.there .here)))) rfl) .nil)),(.all (.there (.there (.there (.there (.there (.there (.there .here))))))) .nil),⟨_,rfl,⟨v115,ms116,rfl,rfl,O118⟩⟩⟩
def Z31 (p0:List (api_Link)) (p1:List (api_Link)) (k42:Unit→Option (Bool)) (k68:(Int)→Option (Bool)) (i67:Int):Option (Bool) :=
 br ((decide (i67<(p0.length:Int)))) (
 chk (inB i67 p0.length) <|
 bnd (p0.getD (i67).toNat api_Link_z) fun x74 =>
 chk (imp (!(decide (i67≥(p1.length:Int)))) (inB i67 p1.length)) <|
 br (((decide (i67≥(p1.length:Int)))||(!((x74.gEpoch==(p1.getD (i67).toNat api_Link_z).gEpoch)&&((ieq 32 x74.gKey ((p1.getD (i67).toNat api_Link_z).gKey))&&(ieq 64 x74.gSig ((p1.getD (i67).toNat api_Link_z).gSig))))))) (
 some false
 ) (
 bnd (IntKind.wrap .i64 (i67+1)) fun z81 =>
 k68 z81
 )
 ) (
 k42 ()
 )
def Z32 (p0:List (api_Link)) (p1:List (api_Link)) (k42:Unit→Option (Bool)):Nat→(Int)→Option (Bool)
  | 0,_=>none
  | n+1,i67=>Z31 p0 p1 k42 (Z32 p0 p1 k42 n) i67
def Z62 (p0:List (api_Link)) (p1:List (api_Link)):Option (Bool) :=
 jn (fun (_:Unit)=>some true) fun k42=>Z32 p0 p1 k42 big 0
theorem Z9q {W:World} {r:Bool} {p0:List (api_Link)} {p1:List (api_Link)} {v0:Value} {v1:Value} (h:Z62 p0 p1=some r) (A0:RdSl E_api_Link W v0 p0) (A1:RdSl E_api_Link W v1 p1) :
    Calls Tryz.prog 85 [v0,v1].toArray W (Z51 W (.bool (r))):=by
 unfold Z62 at h
 refine Zd mo ok85 rfl ?_
 refine Z0<|Z2<|Z7 rfl<|Z1<|Z0<|Z0<|Z2<|Z7 rfl<|Z6 _ (Z2r rfl (Shp.rd A0))<|Z7 rfl<|Z1<|jH h fun k42 qk42 h=>Zo (G:=fun t m=>k42 ()=some r∧Fit [] [] t m) ?_ ?_
 ·refine Zb<|Z01 (fun n69 t m=>∃ (i67:Int),Z32 p0 p1 k42 n69 i67=some r∧Fit [(1,v1),(7,v0),(8,.int .i64 ((p0.length:Int))),(9,.int .i64 (i67))] [] t m) big ?_ ?_
  ·exact ⟨0,h,⟨⟨rfl,rfl,rfl,rfl,trivial⟩,.nil⟩⟩
  ·rintro n69 t m ⟨i67,h,hF⟩
   refine Zn hF ?_
   clear hF
   rcases n69 with _ | n69
   · exact Z1d h
   have h:Z31 p0 p1 k42 (Z32 p0 p1 k42 n69) i67=some r:=h
   unfold Z31 at h
   obtain ⟨k68,qk68⟩ : ∃ k,k=Z32 p0 p1 k42 n69:=⟨_,rfl⟩
   try rw [← qk68] at h
   refine Z0<|Z2<|Z6 _ (Za rfl rfl rfl)<|Z1<|Z0<|Z0s h rfl (fun h=>?_) (fun h=>?_)
   ·refine Zm<|Z0<|Zb<|Z0<|cH h fun c73 h=>bH h fun x74 ex74 h=>Z2<|Z7 rfl<|Z6 _ (Z3a rfl rfl (Shp.rd A0) c73)<|Z6 _ (az (fun (x74:api_Link)=>agg [.one (.int .i64 (x74.gEpoch)),.ints .u8 32 (x74.gKey),.ints .u8 64 (x74.gSig)]) ex74 (Zaf (E:=E_api_Link) (s:=[.one (.int .i64 (((p0.getD (i67).toNat api_Link_z)).gEpoch)),.ints .u8 32 (((p0.getD (i67).toNat api_Link_z)).gKey),.ints .u8 64 (((p0.getD (i67).toNat api_Link_z)).gSig)]) rfl (Z0a A0 Z0h) (Z0w c73) rfl rfl))<|Zg (Zx fun b75 hb75=>Z7 rfl<|Zg (Zu (q:=[.one (.int .i64 (x74.gEpoch)),.ints .u8 32 (x74.gKey),.ints .u8 64 (x74.gSig)]) rfl rfl rfl rfl rfl .here<|Z1<|Z0<|cH h fun c77 h=>Zv<|Z8 _ (Z15 rfl)<|Z8 _ (Z15 rfl)<|Z8 _ (Z2r rfl (Shp.rd A1))<|Z8 _ (Za rfl rfl rfl)<|Z8 _ (Z15 rfl)<|Z0mq rfl rfl rfl (fun hg1=>Z2s rfl _ (Z03 (p:=[.one (.int .i64 (x74.gEpoch)),.ints .u8 32 (x74.gKey),.ints .u8 64 (x74.gSig)]) rfl .here rfl) (Z2s rfl _ (Z15 rfl) (Z2s rfl _ (Z15 rfl) (Z2s rfl _ (Z3a rfl rfl (Shp.rd A1) (Zhr c77 hg1)) (Z2s rfl _ (az (fun (zz:api_Link)=>agg [.one (.int .i64 (zz.gEpoch)),.ints .u8 32 (zz.gKey),.ints .u8 64 (zz.gSig)]) rfl (Zaf (E:=E_api_Link) (s:=[.one (.int .i64 (((p1.getD (i67).toNat api_Link_z)).gEpoch)),.ints .u8 32 (((p1.getD (i67).toNat api_Link_z)).gKey),.ints .u8 64 (((p1.getD (i67).toNat api_Link_z)).gSig)]) rfl (Z0a A1 Z0h) (Z0w (Zhr c77 hg1)) rfl rfl)) (Z2s rfl _ (Zgj (s:=[.one (.int .i64 (x74.gEpoch)),.ints .u8 32 (x74.gKey),.ints .u8 64 (x74.gSig)]) (s':=[.one (.int .i64 ((p1.getD (i67).toNat api_Link_z).gEpoch)),.ints .u8 32 ((p1.getD (i67).toNat api_Link_z).gKey),.ints .u8 64 ((p1.getD (i67).toNat api_Link_z).gSig)]) rfl rfl rfl rfl _ (Zc5 rfl Zjt (Zc5 rfl Z5z (Z87 Z5z)))) (Z1u))))))) (fun hg1=>rfl) rfl<|Z05<|Z0s h rfl (fun h=>?_) (fun h=>?_)))
    ·refine Z0<|Z2<|Z7 rfl<|Z1<|Zk ?_
     revert h; refine Zy fun h=>?_
     subst h
     exact ⟨_,(.cons (.tmp rfl) .nil),rfl⟩
    ·refine Zm<|bH h fun z81 ez81 h=>Z2<|Z6 _ (iz ez81 (Za rfl rfl rfl))<|Z7 rfl<|Z1 ?_
     rw [qk68] at h
     exact ⟨n69,Nat.lt_succ_self _,z81,h,⟨⟨rfl,rfl,rfl,rfl,trivial⟩,.nil⟩⟩
   ·exact Z0e _ rfl<|⟨h,⟨trivial,.nil⟩⟩
 ·rintro t m ⟨h,hF⟩
  refine Zn hF ?_
  clear hF
  subst qk42
  refine Z0<|Z2<|Z7 rfl<|Z1<|Zk ?_
  revert h; refine Zy fun h=>?_
  subst h
  exact ⟨_,(.cons (.tmp rfl) .nil),rfl⟩
def Z0l (p0:List (api_Link)):Option (List (api_Link)) :=
 chk (decide ((([]:List (api_Link)).length+p0.length)*104≤140737488355328))<|some p0
theorem Z3l {W:World} {r:List (api_Link)} {p0:List (api_Link)} {v0:Value} (h:Z0l p0=some r) (A0:RdSl E_api_Link W v0 p0) :
    Calls Tryz.prog 86 [v0].toArray W (Zdw W [] (fun v Ms=>∃ (u0:Value) (M0:List Zc),v=u0∧Ms = [.all M0]∧Z1z E_api_Link u0 M0 r)):=by
 unfold Z0l at h
 refine Z0o mo ok86 rfl (Zh8 _) ?_
 refine cH h fun c h=>Z0<|Z2<|Z7 rfl<|Z1<|Z0<|Z0<|Z2<|Z7 rfl<|Z6 _ (Zl9 rfl (Shp.rd A0) rfl)<|Z1<|Zoz rfl (fun hc=>?_) (fun hc=>?_)
 · obtain rfl:p0 = []:=Zq1 A0 hc
   refine Z0<|Z2<|Z7 rfl<|Z1<|Zk ?_
   revert h; refine Zy fun h=>?_
   subst h
   exact ⟨_,_,.cons (.tmp rfl) .nil,.no .nil,⟨_,rfl,⟨.slice none 0 0,[],rfl,rfl,Z7x⟩⟩⟩
 · refine Zm<|Z0<|Z2<|Zg (Z9n (E:=E_api_Link) (xs:=[]) BdR.nil .nil rfl fun v ms O=>Z7 rfl<|Zg (Zbf (E:=E_api_Link) (ys:=p0) (xs':=p0) rfl rfl O .here rfl (Z0a A0 Z0h) c fun v' ms' O'=>Z7 rfl<|Z1<|Zk ?_))
   revert h; refine Zy fun h=>?_
   subst h
   exact ⟨_,_,.cons (.tmp rfl) .nil,.all .here .nil,⟨_,rfl,⟨v',ms',rfl,rfl,O'⟩⟩⟩
def Z25 (p0:List Int) (p1:List (api_Link)) (p2:List (api_Link)) (k58:Unit→Option ((List (api_Link))×Int)) (k92:(Int)→Option ((List (api_Link))×Int)) (i91:Int):Option ((List (api_Link))×Int) :=
 br ((decide (i91<([p1,p2].length:Int)))) (
 chk (inB i91 [p1,p2].length) <|
 opt (Z2h p0 ([p1,p2].getD (i91).toNat [])) fun y99 =>
 br ((y99.2 != 0)) (
 some ([],y99.2)
 ) (
 bnd (IntKind.wrap .i64 (i91+1)) fun z109 =>
 k92 z109
 )
 ) (
 k58 ()
 )
def Z2u (p0:List Int) (p1:List (api_Link)) (p2:List (api_Link)) (k58:Unit→Option ((List (api_Link))×Int)):Nat→(Int)→Option ((List (api_Link))×Int)
  | 0,_=>none
  | n+1,i91=>Z25 p0 p1 p2 k58 (Z2u p0 p1 p2 k58 n) i91
def Z2t (p0:List Int) (p1:List (api_Link)) (p2:List (api_Link)):Option ((List (api_Link))×Int) :=
 jn (fun (_:Unit)=>opt (Z62 p1 p2) fun y111 =>
 br (y111) (
 opt (Z0l p2) fun y114 =>
 some (y114,0)
 ) (
 opt (Z62 p2 p1) fun y121 =>
 br (y121) (
 opt (Z0l p1) fun y124 =>
 some (y124,0)
 ) (
 some ([],171)
 )
 )) fun k58=>Z2u p0 p1 p2 k58 big 0
theorem Z2d {W:World} {r:(List (api_Link))×Int} {p0:List Int} {p1:List (api_Link)} {p2:List (api_Link)} {v1:Value} {v2:Value} (h:Z2t p0 p1 p2=some r) (hG:Globs W) (A1:RdSl E_api_Link W v1 p1) (A2:RdSl E_api_Link W v2 p2) :
    Calls Tryz.prog 41 [agg [.ints .u8 32 (p0)],v1,v2].toArray W (Zdw W [] (fun v Ms=>∃ (u0:Value) (M0:List Zc),v = .tuple #[u0,.int .i64 (r.2)]∧Ms = [.all M0]∧Z1z E_api_Link u0 M0 r.1)):=by
 unfold Z2t at h
 refine Z0o mo ok41 rfl (Zh8 _) ?_
 refine Z0<|Z2<|Zg (Z16 (s:=[.ints .u8 32 (p0)]) rfl fun b2 hb2=>Z7 rfl<|Z7 rfl<|Z1<|Z0<|Z0<|Z2<|Z7 rfl<|Z7 rfl<|Zg (Z9n (E:=El.sl) (xs:=[unS v1,unS v2]) (.one rfl (Zcu.cells (Shp.isSl (Shp.rd A1))) rfl (.one rfl (Zcu.cells (Shp.isSl (Shp.rd A2))) rfl BdR.nil)) (.cons (p:=[.one v1]) (Z69 (Shp.isSl (Shp.rd A1))) (.cons (p:=[.one v2]) (Z69 (Shp.isSl (Shp.rd A2))) .nil)) rfl fun v4 ms5 O6=>Z6 _ ((Zni (Z2r rfl (Shp.own O6)) (Zd2.len (.cons (Z44 A1) (.cons (Z44 A2) .nil)))))<|Z7 rfl<|Z1<|jH h fun k58 qk58 h=>Zo (G:=fun t m=>k58 ()=some r∧Fit [(1,v1),(2,v2)] (ck b2 29 [.ints .u8 32 (p0)] :: []) t m) ?_ ?_))
 ·refine Zb<|Z01 (fun n93 t m=>∃ (i91:Int),Z2u p0 p1 p2 k58 n93 i91=some r∧Fit [(1,v1),(2,v2),(3,.pointer (some ⟨b2,0,none⟩)),(14,v4),(15,.int .i64 (([p1,p2].length:Int))),(16,.int .i64 (i91))] (ms5++(ck b2 29 [.ints .u8 32 (p0)] :: [])) t m) big ?_ ?_
  ·exact ⟨0,h,⟨⟨rfl,rfl,rfl,rfl,rfl,rfl,trivial⟩,(.all .here (.one .here .nil))⟩⟩
  ·rintro n93 t m ⟨i91,h,hF⟩
   refine Zn hF ?_
   clear hF
   rcases n93 with _ | n93
   · exact Z1d h
   have h:Z25 p0 p1 p2 k58 (Z2u p0 p1 p2 k58 n93) i91=some r:=h
   unfold Z25 at h
   obtain ⟨k92,qk92⟩ : ∃ k,k=Z2u p0 p1 p2 k58 n93:=⟨_,rfl⟩
   try rw [← qk92] at h
   refine Z0<|Z2<|Z6 _ (Za rfl rfl rfl)<|Z1<|Z0<|Z0s h rfl (fun h=>?_) (fun h=>?_)
   ·refine Zm<|Z0<|Zb<|Z0<|cH h fun c97 h=>Z2<|Z6 _ (Z3a rfl rfl (Shp.own O6) (Zhg (.cons (Z44 A1) (.cons (Z44 A2) .nil)) c97))<|Z6 _ (Z9y (E:=El.sl) (s:=[.one (slV ([unS v1,unS v2].getD (i91).toNat (none,0,0)))]) rfl (Z1v O6 .here) (Z0w (Zhg (.cons (Z44 A1) (.cons (Z44 A2) .nil)) c97)) rfl rfl)<|Z7 rfl<|Z1<|Z0<|oH h fun y99 ey99 h=>Z2<|Z6 _ (Z03 (p:=[.ints .u8 32 (p0)]) rfl (.app .here) rfl)<|Z7 rfl<|Zg (Z00 rfl (fun w hw=>Z5a  ey99 (hG.at hw (by simp)) ((Z0a (Zd2.get (.cons (Z44 A1) (.cons (Z44 A2) .nil)) _ (Z0w c97)) Z0h) w hw)) fun v100 Msv100 R101=>?_)
    obtain ⟨v102,ms103,rfl,rfl,O104⟩:=R101
    refine Z7 rfl<|Z6 _ (Z19 rfl rfl)<|Z6 _ (Z19 rfl rfl)<|Z7 rfl<|Z7 rfl<|Z1<|Z0<|Z2<|Z7 rfl<|Z6 _ (Za rfl rfl rfl)<|Z1<|Z0s h rfl (fun h=>?_) (fun h=>?_)
    ·refine Z0<|Z2<|Z7 rfl<|Z7 rfl<|Z7 rfl<|Z1<|Zk ?_
     revert h; refine Zy fun h=>?_
     subst h
     exact ⟨_,_,(.cons (.tmp rfl) (.cons (.tmp rfl) .nil)),(.no .nil),⟨_,rfl,⟨(.slice none 0 0),[],rfl,rfl,Z7x⟩⟩⟩
    ·refine Zm<|bH h fun z109 ez109 h=>Z2<|Z6 _ (iz ez109 (Za rfl rfl rfl))<|Z7 rfl<|Z1 ?_
     rw [qk92] at h
     exact ⟨n93,Nat.lt_succ_self _,z109,h,⟨⟨rfl,rfl,rfl,rfl,rfl,rfl,trivial⟩,(.all (.app .here) (.one (.app .here) .nil))⟩⟩
   ·exact Z0e _ rfl<|⟨h,⟨⟨rfl,rfl,trivial⟩,(.one (.app .here) .nil)⟩⟩
 ·rintro t m ⟨h,hF⟩
  refine Zn hF ?_
  clear hF
  subst qk58
  refine Z0<|Zb<|Z0<|oH h fun y111 ey111 h=>Z2<|Z7 rfl<|Z7 rfl<|Z6 _ (Z0n rfl (fun w hw=>Z9q ey111 ((Z0a A1 Z0h) w hw) ((Z0a A2 Z0h) w hw)))<|Z7 rfl<|Z1<|Z0s h rfl (fun h=>?_) (fun h=>?_)
  ·refine Z0<|oH h fun y114 ey114 h=>Z2<|Z7 rfl<|Zg (Z00 rfl (fun w hw=>Z3l  ey114 ((Z0a A2 Z0h) w hw)) fun v115 Msv115 R116=>?_)
   obtain ⟨_,ms118,rfl,rfl,O119⟩:=R116
   refine Z7 rfl<|Z7 rfl<|Z1<|Zk ?_
   revert h; refine Zy fun h=>?_
   subst h
   exact ⟨_,_,(.cons (.tmp rfl) (.cons (.tmp rfl) .nil)),(.all .here .nil),⟨_,rfl,⟨v115,ms118,rfl,rfl,O119⟩⟩⟩
  ·refine Z0<|oH h fun y121 ey121 h=>Z2<|Z7 rfl<|Z7 rfl<|Z6 _ (Z0n rfl (fun w hw=>Z9q ey121 ((Z0a A2 Z0h) w hw) ((Z0a A1 Z0h) w hw)))<|Z7 rfl<|Z1<|Z0s h rfl (fun h=>?_) (fun h=>?_)
   ·refine Z0<|oH h fun y124 ey124 h=>Z2<|Z7 rfl<|Zg (Z00 rfl (fun w hw=>Z3l  ey124 ((Z0a A1 Z0h) w hw)) fun v125 Msv125 R126=>?_)
    obtain ⟨_,ms128,rfl,rfl,O129⟩:=R126
    refine Z7 rfl<|Z7 rfl<|Z1<|Zk ?_
    revert h; refine Zy fun h=>?_
    subst h
    exact ⟨_,_,(.cons (.tmp rfl) (.cons (.tmp rfl) .nil)),(.all .here .nil),⟨_,rfl,⟨v125,ms128,rfl,rfl,O129⟩⟩⟩
   ·refine Zm<|Z0<|Z2<|Z7 rfl<|Z7 rfl<|Z1<|Zk ?_
    revert h; refine Zy fun h=>?_
    subst h
    exact ⟨_,_,(.cons (.tmp rfl) (.cons (.tmp rfl) .nil)),(.no .nil),⟨_,rfl,⟨(.slice none 0 0),[],rfl,rfl,Z7x⟩⟩⟩
def Z0t (p0:List (api_Link)) (p1:List (api_Link)) (k42:Unit→Option (Bool)) (k66:(Int)→Option (Bool)) (i65:Int):Option (Bool) :=
 br ((decide (i65<(p0.length:Int)))) (
 chk (inB i65 p0.length) <|
 bnd (p0.getD (i65).toNat api_Link_z) fun x72 =>
 chk (inB i65 p1.length) <|
 bnd (p1.getD (i65).toNat api_Link_z) fun x74 =>
 br ((!((x72.gEpoch==x74.gEpoch)&&((ieq 32 x72.gKey x74.gKey)&&(ieq 64 x72.gSig x74.gSig))))) (
 some false
 ) (
 bnd (IntKind.wrap .i64 (i65+1)) fun z78 =>
 k66 z78
 )
 ) (
 k42 ()
 )
def Z0u (p0:List (api_Link)) (p1:List (api_Link)) (k42:Unit→Option (Bool)):Nat→(Int)→Option (Bool)
  | 0,_=>none
  | n+1,i65=>Z0t p0 p1 k42 (Z0u p0 p1 k42 n) i65
def Zh (p0:List (api_Link)) (p1:List (api_Link)):Option (Bool) :=
 br (((p0.length:Int) != (p1.length:Int))) (
 some false
 ) (
 jn (fun (_:Unit)=>some true) fun k42=>Z0u p0 p1 k42 big 0
 )
theorem Z3g {W:World} {r:Bool} {p0:List (api_Link)} {p1:List (api_Link)} {v0:Value} {v1:Value} (h:Zh p0 p1=some r) (A0:RdSl E_api_Link W v0 p0) (A1:RdSl E_api_Link W v1 p1) :
    Calls Tryz.prog 43 [v0,v1].toArray W (Z51 W (.bool (r))):=by
 unfold Zh at h
 refine Zd mo ok43 rfl ?_
 refine Z0<|Z2<|Z7 rfl<|Z1<|Z0<|Z0<|Z2<|Z7 rfl<|Z6 _ (Z2r rfl (Shp.rd A0))<|Z7 rfl<|Z6 _ (Z2r rfl (Shp.rd A1))<|Z6 _ (Za rfl rfl rfl)<|Z1<|Z0s h rfl (fun h=>?_) (fun h=>?_)
 ·refine Z0<|Z2<|Z7 rfl<|Z1<|Zk ?_
  revert h; refine Zy fun h=>?_
  subst h
  exact ⟨_,(.cons (.tmp rfl) .nil),rfl⟩
 ·refine Zm<|Z0<|Z0<|Z2<|Z7 rfl<|Z1<|jH h fun k42 qk42 h=>Zo (G:=fun t m=>k42 ()=some r∧Fit [] [] t m) ?_ ?_
  ·refine Zb<|Z01 (fun n67 t m=>∃ (i65:Int),Z0u p0 p1 k42 n67 i65=some r∧Fit [(0,v0),(1,v1),(5,.int .i64 (i65))] [] t m) big ?_ ?_
   ·exact ⟨0,h,⟨⟨rfl,rfl,rfl,trivial⟩,.nil⟩⟩
   ·rintro n67 t m ⟨i65,h,hF⟩
    refine Zn hF ?_
    clear hF
    rcases n67 with _ | n67
    · exact Z1d h
    have h:Z0t p0 p1 k42 (Z0u p0 p1 k42 n67) i65=some r:=h
    unfold Z0t at h
    obtain ⟨k66,qk66⟩ : ∃ k,k=Z0u p0 p1 k42 n67:=⟨_,rfl⟩
    try rw [← qk66] at h
    refine Z0<|Z0<|Z2<|Z7 rfl<|Z7 rfl<|Z6 _ (Z2r rfl (Shp.rd A0))<|Z6 _ (Za rfl rfl rfl)<|Z1<|Z0s h rfl (fun h=>?_) (fun h=>?_)
    ·refine Zm<|Z0<|Zb<|Z0<|cH h fun c71 h=>bH h fun x72 ex72 h=>cH h fun c73 h=>bH h fun x74 ex74 h=>Zv<|Z8 _ (Z15 rfl)<|Z8 _ (Z15 rfl)<|Z8 _ (Z3a rfl rfl (Shp.rd A0) c71)<|Z8 _ (Z15 rfl)<|Z8 _ (Z15 rfl)<|Z8 _ (Z3a rfl rfl (Shp.rd A1) c73)<|Zp _ (az (fun (x72:api_Link)=>agg [.one (.int .i64 (x72.gEpoch)),.ints .u8 32 (x72.gKey),.ints .u8 64 (x72.gSig)]) ex72 (Zaf (E:=E_api_Link) (s:=[.one (.int .i64 (((p0.getD (i65).toNat api_Link_z)).gEpoch)),.ints .u8 32 (((p0.getD (i65).toNat api_Link_z)).gKey),.ints .u8 64 (((p0.getD (i65).toNat api_Link_z)).gSig)]) rfl (Z0a A0 Z0h) (Z0w c71) rfl rfl))<|Zp _ (az (fun (x74:api_Link)=>agg [.one (.int .i64 (x74.gEpoch)),.ints .u8 32 (x74.gKey),.ints .u8 64 (x74.gSig)]) ex74 (Zaf (E:=E_api_Link) (s:=[.one (.int .i64 (((p1.getD (i65).toNat api_Link_z)).gEpoch)),.ints .u8 32 (((p1.getD (i65).toNat api_Link_z)).gKey),.ints .u8 64 (((p1.getD (i65).toNat api_Link_z)).gSig)]) rfl (Z0a A1 Z0h) (Z0w c73) rfl rfl))<|Z8 _ (Zgj (s:=[.one (.int .i64 (x72.gEpoch)),.ints .u8 32 (x72.gKey),.ints .u8 64 (x72.gSig)]) (s':=[.one (.int .i64 (x74.gEpoch)),.ints .u8 32 (x74.gKey),.ints .u8 64 (x74.gSig)]) rfl rfl rfl rfl _ (Zc5 rfl Zjt (Zc5 rfl Z5z (Z87 Z5z))))<|Z05<|Z0s h rfl (fun h=>?_) (fun h=>?_)
     ·refine Z0<|Z2<|Z7 rfl<|Z1<|Zk ?_
      revert h; refine Zy fun h=>?_
      subst h
      exact ⟨_,(.cons (.tmp rfl) .nil),rfl⟩
     ·refine Zm<|bH h fun z78 ez78 h=>Z2<|Z7 rfl<|Z6 _ (iz ez78 (Za rfl rfl rfl))<|Z7 rfl<|Z1 ?_
      rw [qk66] at h
      exact ⟨n67,Nat.lt_succ_self _,z78,h,⟨⟨rfl,rfl,rfl,trivial⟩,.nil⟩⟩
    ·exact Z0e _ rfl<|⟨h,⟨trivial,.nil⟩⟩
  ·rintro t m ⟨h,hF⟩
   refine Zn hF ?_
   clear hF
   subst qk42
   refine Z0<|Z2<|Z7 rfl<|Z1<|Zk ?_
   revert h; refine Zy fun h=>?_
   subst h
   exact ⟨_,(.cons (.tmp rfl) .nil),rfl⟩
def Z2n (p0:List Int) (p1:List (api_Link)) (p2:List (api_Link)) (p3:List (api_Link)):Option (Bool) :=
 opt (Z2t p0 p1 p2) fun y4 =>
 opt (Z2t p0 p2 p3) fun y11 =>
 opt (Z2t p0 p1 p3) fun y18 =>
 br ((((y4.2 != 0)||(y11.2 != 0))||(y18.2 != 0))) (
 some true
 ) (
 opt (Z2t p0 y4.1 p3) fun y28 =>
 opt (Z2t p0 p1 y11.1) fun y35 =>
 chk (imp ((y28.2==0)&&(y35.2==0)) ((Zh y28.1 y35.1).isSome)) <|
 some (((y28.2==0)&&(y35.2==0))&&((Zh y28.1 y35.1).getD false))
 )
theorem Z9k {W:World} {r:Bool} {p0:List Int} {p1:List (api_Link)} {p2:List (api_Link)} {p3:List (api_Link)} {v1:Value} {v2:Value} {v3:Value} (h:Z2n p0 p1 p2 p3=some r) (hG:Globs W) (A1:RdSl E_api_Link W v1 p1) (A2:RdSl E_api_Link W v2 p2) (A3:RdSl E_api_Link W v3 p3) :
    Calls Tryz.prog 46 [agg [.ints .u8 32 (p0)],v1,v2,v3].toArray W (Z51 W (.bool (r))):=by
 unfold Z2n at h
 refine Zd mo ok46 rfl ?_
 refine Z0<|Z2<|Zg (Z16 (s:=[.ints .u8 32 (p0)]) rfl fun b2 hb2=>Z7 rfl<|Z1<|Z0<|oH h fun y4 ey4 h=>Z2<|Z6 _ (Z03 (p:=[.ints .u8 32 (p0)]) rfl .here rfl)<|Z7 rfl<|Z7 rfl<|Zg (Z00 rfl (fun w hw=>Z2d  ey4 (hG.at hw (by simp)) ((Z0a A1 Z0h) w hw) ((Z0a A2 Z0h) w hw)) fun v5 Msv5 R6=>?_))
 obtain ⟨v7,ms8,rfl,rfl,O9⟩:=R6
 refine Z7 rfl<|Z6 _ (Z19 rfl rfl)<|Z6 _ (Z19 rfl rfl)<|Z7 rfl<|Z7 rfl<|Z1<|Z0<|oH h fun y11 ey11 h=>Z2<|Z6 _ (Z03 (p:=[.ints .u8 32 (p0)]) rfl (.app .here) rfl)<|Z7 rfl<|Z7 rfl<|Zg (Z00 rfl (fun w hw=>Z2d  ey11 (hG.at hw (by simp)) ((Z0a A2 Z0h) w hw) ((Z0a A3 Z0h) w hw)) fun v12 Msv12 R13=>?_)
 obtain ⟨v14,ms15,rfl,rfl,O16⟩:=R13
 refine Z7 rfl<|Z6 _ (Z19 rfl rfl)<|Z6 _ (Z19 rfl rfl)<|Z7 rfl<|Z7 rfl<|Z1<|Z0<|oH h fun y18 ey18 h=>Z2<|Z6 _ (Z03 (p:=[.ints .u8 32 (p0)]) rfl (.app (.app .here)) rfl)<|Z7 rfl<|Z7 rfl<|Zg (Z00 rfl (fun w hw=>Z2d  ey18 (hG.at hw (by simp)) ((Z0a A1 Z0h) w hw) ((Z0a A3 Z0h) w hw)) fun v19 Msv19 R20=>?_)
 obtain ⟨v21,ms22,rfl,rfl,O23⟩:=R20
 refine Z7 rfl<|Z6 _ (Z19 rfl rfl)<|Z6 _ (Z19 rfl rfl)<|Z7 rfl<|Z7 rfl<|Z1<|Z0<|Z0<|Z2<|Z7 rfl<|Z6 _ (Za rfl rfl rfl)<|Z7 rfl<|Zee rfl rfl rfl (fun hg1=>Z2s rfl _ (Z15 rfl) (Z2s rfl _ (Za rfl rfl rfl) (Z1u))) (fun hg1=>rfl) rfl<|Z7 rfl<|Zee rfl rfl rfl (fun hg1=>Z2s rfl _ (Z15 rfl) (Z2s rfl _ (Za rfl rfl rfl) (Z1u))) (fun hg1=>rfl) rfl<|Z1<|Z0s h rfl (fun h=>?_) (fun h=>?_)
 ·refine Z0<|Z2<|Z7 rfl<|Z1<|Zk ?_
  revert h; refine Zy fun h=>?_
  subst h
  exact ⟨_,(.cons (.tmp rfl) .nil),rfl⟩
 ·refine Zm<|Z0<|oH h fun y28 ey28 h=>Z2<|Z6 _ (Z03 (p:=[.ints .u8 32 (p0)]) rfl (.app (.app (.app .here))) rfl)<|Z7 rfl<|Z7 rfl<|Zg (Z00 rfl (fun w hw=>Z2d  ey28 (hG.at hw (by simp)) ((Z1v O9 (.app (.app .here))) w hw) ((Z0a A3 Z0h) w hw)) fun v29 Msv29 R30=>?_)
  obtain ⟨v31,ms32,rfl,rfl,O33⟩:=R30
  refine Z7 rfl<|Z6 _ (Z19 rfl rfl)<|Z6 _ (Z19 rfl rfl)<|Z7 rfl<|Z7 rfl<|Z1<|Z0<|oH h fun y35 ey35 h=>Z2<|Z6 _ (Z03 (p:=[.ints .u8 32 (p0)]) rfl (.app (.app (.app (.app .here)))) rfl)<|Z7 rfl<|Z7 rfl<|Zg (Z00 rfl (fun w hw=>Z2d  ey35 (hG.at hw (by simp)) ((Z0a A1 Z0h) w hw) ((Z1v O16 (.app (.app .here))) w hw)) fun v36 Msv36 R37=>?_)
  obtain ⟨v38,ms39,rfl,rfl,O40⟩:=R37
  refine Z7 rfl<|Z6 _ (Z19 rfl rfl)<|Z6 _ (Z19 rfl rfl)<|Z7 rfl<|Z7 rfl<|Z1<|Z0<|cH h fun c42 h=>Z2<|Z7 rfl<|Z6 _ (Za rfl rfl rfl)<|Z7 rfl<|Z7o rfl rfl rfl (fun hg1=>Z2s rfl _ (Z15 rfl) (Z2s rfl _ (Za rfl rfl rfl) (Z1u))) (fun hg1=>rfl) rfl<|Z7 rfl<|Z7o rfl rfl rfl (fun hg1=>Z2s rfl _ (Z15 rfl) (Z2s rfl _ (Z15 rfl) (Z2s rfl _ (Z0n rfl (fun w hw=>Z3g (getD_some (z:=false) (Zgh c42 hg1)) ((Z1v O33 (.app .here)) w hw) ((Z1v O40 .here) w hw))) (Z1u)))) (fun hg1=>rfl) rfl<|Z7 rfl<|Z1<|Zk ?_
  revert h; refine Zy fun h=>?_
  subst h
  exact ⟨_,(.cons (.tmp rfl) .nil),rfl⟩
def Z5u (p0:List Int):OL :=
 opt (Z6n p0) fun y4 =>
 some (tk y4 0 4)
theorem Z82 {W:World} {r:(List Int)} {p0:List Int} (h:Z5u p0=some r)  :
    Calls Tryz.prog 169 [agg [.ints .u8 32 (p0)]].toArray W (Zdw W [] (fun v Ms=>∃ (u0:Value) (M0:List Zc),v=u0∧Ms = [.all M0]∧Z1z (El.int .u64) u0 M0 r)):=by
 unfold Z5u at h
 refine Z0o mo Z0e3 rfl (Zh8 _) ?_
 refine Z0<|Z2<|Zg (Z16 (s:=[.ints .u8 32 (p0)]) rfl fun b2 hb2=>Z7 rfl<|Z1<|Z0<|oH h fun y4 ey4 h=>Z2<|Z6 _ (Z03 (p:=[.ints .u8 32 (p0)]) rfl .here rfl)<|Z6 _ (Z1a rfl (Zb4 ey4))<|Zg (Zx fun b5 hb5=>Zg (Zu (q:=[.ints .u64 4 (y4)]) rfl rfl rfl rfl rfl .here<|Z1<|Z0<|Z2<|Z6 _ (Z8w rfl .no .no .no (by simp) (by decide))<|Z7 rfl<|Z1<|Zk ?_)))
 revert h; refine Zy fun h=>?_
 subst h
 exact ⟨_,_,(.cons (.tmp rfl) .nil),(.one .here .nil),⟨_,rfl,⟨(.slice (some (Z20 b5 0 0 4 1)) (4-0) (4-0)),[ck b5 162 [.ints .u64 4 (y4)]],rfl,rfl,(Zip (s:=[.ints .u64 4 (y4)]) (N:=4) (k:=.u64) (base:=0) (lo:=0) (hi:=4) (mz:=4) rfl (by decide))⟩⟩⟩
def Z8z (p0:List Int):OL :=
 opt (Z5u p0) fun y5 =>
 opt (Z37 y5) fun y11 =>
 some y11
theorem Zbu {W:World} {r:(List Int)} {p0:List Int} (h:Z8z p0=some r) (hG:Globs W) :
    Calls Tryz.prog 166 [agg [.ints .u8 32 (p0)]].toArray W (Z51 W (agg [.ints .u64 4 (r)])):=by
 unfold Z8z at h
 refine Zd mo Z0e0 rfl ?_
 refine Z0<|Z2<|Zg (Z16 (s:=[.ints .u8 32 (p0)]) rfl fun b2 hb2=>Zg (Zx fun b3 hb3=>Z1<|Z0<|oH h fun y5 ey5 h=>oH h fun y11 ey11 h=>Z2<|Z6 _ (Z03 (p:=[.ints .u8 32 (p0)]) rfl (.there .here) rfl)<|Zg (Z00 rfl (fun w hw=>Z82  ey5 ) fun v6 Msv6 R7=>?_)))
 obtain ⟨_,ms9,rfl,rfl,O10⟩:=R7
 refine Z6 _ (Z0n rfl (fun w hw=>Z7e ey11 (hG.at hw (by simp)) ((Z1v O10 .here) w hw)))<|Zg (Zu (q:=[.ints .u64 4 (y11)]) rfl rfl rfl rfl rfl (.app .here)<|Z1<|Zk ?_)
 revert h; refine Zy fun h=>?_
 subst h
 exact ⟨_,(.cons (.agg rfl (.app .here) rfl) .nil),rfl⟩
def Zah (p0:List Int) (p1:List Int):OL :=
 opt (Z8z p0) fun y6 =>
 opt (Z8z p1) fun y7 =>
 opt (Z42 y6 y7) fun y8 =>
 opt (Z5p y8.1) fun y11 =>
 opt (Z4o y11) fun y12 =>
 some y12
theorem Zfw {W:World} {r:(List Int)} {p0:List Int} {p1:List Int} (h:Zah p0 p1=some r) (hG:Globs W) :
    Calls Tryz.prog 100 [agg [.ints .u8 32 (p0)],agg [.ints .u8 32 (p1)]].toArray W (Z51 W (agg [.ints .u8 32 (r)])):=by
 unfold Zah at h
 refine Zd mo Z0d0 rfl ?_
 refine Z0<|Z2<|Zg (Z16 (s:=[.ints .u8 32 (p0)]) rfl fun b2 hb2=>Zg (Z16 (s:=[.ints .u8 32 (p1)]) rfl fun b3 hb3=>Zg (Zx fun b4 hb4=>Z1<|Z0<|oH h fun y6 ey6 h=>oH h fun y7 ey7 h=>oH h fun y8 ey8 h=>Zv<|Zp _ (Z03 (p:=[.ints .u8 32 (p0)]) rfl (.there (.there .here)) rfl)<|Z8 _ (Z0n rfl (fun w hw=>Zbu ey6 (hG.at hw (by simp))))<|Zp _ (Z03 (p:=[.ints .u8 32 (p1)]) rfl (.there .here) rfl)<|Z8 _ (Z0n rfl (fun w hw=>Zbu ey7 (hG.at hw (by simp))))<|Z8 _ (Z1a rfl (Z6g ey8))<|Z8 _ (Z15 rfl)<|Z8 _ (Z19 rfl rfl)<|Z8 _ (Z19 rfl rfl)<|Z7j (Zx fun b9 hb9=>⟨(by repeat (first | exact Sup.refl _ | apply Sup.cons | apply Sup.app)),Z2j rfl (Zu (q:=[.ints .u64 4 (y8.1)]) rfl rfl rfl rfl rfl .here (Z8 _ (Z15 rfl) (Z05 (Z0 (oH h fun y11 ey11 h=>oH h fun y12 ey12 h=>Z2 (Z6 _ (Z03 (p:=[.ints .u64 4 (y8.1)]) rfl .here rfl) (Z6 _ (Z0n rfl (fun w hw=>Zaj ey11 (hG.at hw (by simp)))) (Z6 _ (Z1a rfl (Z81 ey12)) (Zg (Zu (q:=[.ints .u8 32 (y12)]) rfl rfl rfl rfl rfl (.there .here) (Z1 (Zk ?_))))))))))))⟩))))
 revert h; refine Zy fun h=>?_
 subst h
 exact ⟨_,(.cons (.agg rfl (.there .here) rfl) .nil),rfl⟩
def Zai (p0:List Int) (p1:List Int):OL :=
 opt (Z5u p0) fun y6 =>
 opt (Z5u p1) fun y12 =>
 opt (Z4p y6 y12) fun y18 =>
 opt (Z37 y18) fun y24 =>
 opt (Z4o y24) fun y25 =>
 some y25
theorem Zfx {W:World} {r:(List Int)} {p0:List Int} {p1:List Int} (h:Zai p0 p1=some r) (hG:Globs W) :
    Calls Tryz.prog 101 [agg [.ints .u8 32 (p0)],agg [.ints .u8 32 (p1)]].toArray W (Z51 W (agg [.ints .u8 32 (r)])):=by
 unfold Zai at h
 refine Zd mo Z0d1 rfl ?_
 refine Z0<|Z2<|Zg (Z16 (s:=[.ints .u8 32 (p0)]) rfl fun b2 hb2=>Zg (Z16 (s:=[.ints .u8 32 (p1)]) rfl fun b3 hb3=>Zg (Zx fun b4 hb4=>Z1<|Z0<|oH h fun y6 ey6 h=>oH h fun y12 ey12 h=>oH h fun y18 ey18 h=>oH h fun y24 ey24 h=>oH h fun y25 ey25 h=>Zv<|Zp _ (Z03 (p:=[.ints .u8 32 (p0)]) rfl (.there (.there .here)) rfl)<|Zp _ (Z03 (p:=[.ints .u8 32 (p1)]) rfl (.there .here) rfl)<|Z7j (Z00 rfl (fun w hw=>Z82  ey6 ) fun v7 Msv7 R8=>?_))))
 obtain ⟨_,ms10,rfl,rfl,O11⟩:=R8
 refine ⟨(by repeat (first | exact Sup.refl _ | apply Sup.cons | apply Sup.app)),Z7j (Z00 rfl (fun w hw=>Z82  ey12 ) fun v13 Msv13 R14=>?_)⟩
 obtain ⟨_,ms16,rfl,rfl,O17⟩:=R14
 refine ⟨(by repeat (first | exact Sup.refl _ | apply Sup.cons | apply Sup.app)),Z7j (Z00 rfl (fun w hw=>Zak  ey18 ((Z1v O11 (.app .here)) w hw) ((Z1v O17 .here) w hw)) fun v19 Msv19 R20=>?_)⟩
 obtain ⟨_,ms22,rfl,rfl,O23⟩:=R20
 refine ⟨(by repeat (first | exact Sup.refl _ | apply Sup.cons | apply Sup.app)),Zke _ (Z0n rfl (fun w hw=>Z7e ey24 (hG.at hw (by simp)) ((Z1v O23 .here) w hw))) (Z8 _ (Z1a rfl (Z81 ey25)) (Z2j rfl (Zu (q:=[.ints .u8 32 (y25)]) rfl rfl rfl rfl rfl (.app (.app (.app .here))) (Z05 (Zk ?_))))) (by repeat (first | exact Sup.refl _ | apply Sup.cons | apply Sup.app))⟩
 revert h; refine Zy fun h=>?_
 subst h
 exact ⟨_,(.cons (.agg rfl (.app (.app (.app .here))) rfl) .nil),rfl⟩
def Z7c (p0:List Int) (p1:List Int) (p2:List Int):OL :=
 opt (Zai p0 p1) fun y7 =>
 opt (Zah y7 p2) fun y8 =>
 some y8
theorem Zdp {W:World} {r:(List Int)} {p0:List Int} {p1:List Int} {p2:List Int} (h:Z7c p0 p1 p2=some r) (hG:Globs W) :
    Calls Tryz.prog 53 [agg [.ints .u8 32 (p0)],agg [.ints .u8 32 (p1)],agg [.ints .u8 32 (p2)]].toArray W (Z51 W (agg [.ints .u8 32 (r)])):=by
 unfold Z7c at h
 refine Zd mo ok53 rfl ?_
 refine Z0<|Z2<|Zg (Z16 (s:=[.ints .u8 32 (p0)]) rfl fun b2 hb2=>Zg (Z16 (s:=[.ints .u8 32 (p1)]) rfl fun b3 hb3=>Zg (Z16 (s:=[.ints .u8 32 (p2)]) rfl fun b4 hb4=>Zg (Zx fun b5 hb5=>Z1<|Z0<|oH h fun y7 ey7 h=>oH h fun y8 ey8 h=>Zv<|Zp _ (Z03 (p:=[.ints .u8 32 (p0)]) rfl (.there (.there (.there .here))) rfl)<|Zp _ (Z03 (p:=[.ints .u8 32 (p1)]) rfl (.there (.there .here)) rfl)<|Z8 _ (Z0n rfl (fun w hw=>Zfx ey7 (hG.at hw (by simp))))<|Zp _ (Z03 (p:=[.ints .u8 32 (p2)]) rfl (.there .here) rfl)<|Z8 _ (Z0n rfl (fun w hw=>Zfw ey8 (hG.at hw (by simp))))<|Z2j rfl (Zu (q:=[.ints .u8 32 (y8)]) rfl rfl rfl rfl rfl .here<|Z05<|Zk ?_)))))
 revert h; refine Zy fun h=>?_
 subst h
 exact ⟨_,(.cons (.agg rfl .here rfl) .nil),rfl⟩
def Zbz (p0:List Int) (p1:List Int):OL :=
 opt (Z84 p0) fun y5 =>
 opt (Z3u y5.1) fun y13 =>
 opt (Z3t y13) fun y14 =>
 opt (Z8n [y5.2,p1]) fun y20 =>
 opt (Z3u y20) fun y23 =>
 opt (Z3t y23) fun y24 =>
 jn (fun (a33:List Int)=>opt (Z7c a33 y5.1 y20) fun y42 =>
 bnd (wr (List.replicate 64 0) 0 ((tk y24 0 32).take 32)) fun l47 =>
 bnd (wr l47 32 ((tk y42 0 32).take (64-32))) fun l49 =>
 some l49) fun k34=>opt (Z8n [(tk y24 0 32),(tk y14 0 32),p1]) fun y39 =>
 k34 y39
theorem Zgk {W:World} {r:(List Int)} {p0:List Int} {p1:List Int} {v1:Value} (h:Zbz p0 p1=some r) (hG:Globs W) (A1:RdSl (El.int .u8) W v1 p1) :
    Calls Tryz.prog 11 [agg [.ints .u8 32 (p0)],v1].toArray W (Z51 W (agg [.ints .u8 64 (r)])):=by
 unfold Zbz at h
 refine Zd mo ok11 rfl ?_
 refine Z0<|Z2<|Zg (Z16 (s:=[.ints .u8 32 (p0)]) rfl fun b2 hb2=>Zg (Zx fun b3 hb3=>Z1<|Z0<|oH h fun y5 ey5 h=>Z2<|Z6 _ (Z03 (p:=[.ints .u8 32 (p0)]) rfl (.there .here) rfl)<|Zg (Z00 rfl (fun w hw=>Zex  ey5 (hG.at hw (by simp))) fun v6 Msv6 R7=>?_)))
 obtain ⟨v8,ms9,rfl,rfl,O10⟩:=R7
 refine Z7 rfl<|Z6 _ (Z19 rfl rfl)<|Z6 _ (Z19 rfl rfl)<|Zg (Zx fun b11 hb11=>Zg (Zu (q:=[.ints .u8 32 (y5.1)]) rfl rfl rfl rfl rfl .here<|Z7 rfl<|Z1<|Z0<|oH h fun y13 ey13 h=>oH h fun y14 ey14 h=>Z2<|Z6 _ (Z03 (p:=[.ints .u8 32 (y5.1)]) rfl .here rfl)<|Z6 _ (Z1a rfl (Z9m ey13))<|Z6 _ (Z1a rfl (Z7q ey14))<|Zg (Zx fun b15 hb15=>Zg (Zu (q:=[.ints .u8 32 (y14)]) rfl rfl rfl rfl rfl .here<|Z1<|Z0<|oH h fun y20 ey20 h=>Z2<|Z7 rfl<|Z7 rfl<|Zg (Z9n (E:=El.sl) (xs:=[unS v8,unS v1]) (.one rfl (Zcu.cells (Z1z.isSl O10)) rfl (.one rfl (Zcu.cells (Shp.isSl (Shp.rd A1))) rfl BdR.nil)) (.cons (p:=[.one v8]) (Z69 (Z1z.isSl O10)) (.cons (p:=[.one v1]) (Z69 (Shp.isSl (Shp.rd A1))) .nil)) rfl fun v17 ms18 O19=>Z6 _ (Z0n rfl (fun w hw=>Z43 ey20 (hG.at hw (by simp)) (Z1v O19 .here w hw) (.cons (Z44 ((Z1v O10 (.app (.there (.there .here)))) w hw)) (.cons (Z44 ((Z0a A1 Z0h) w hw)) .nil))))<|Zg (Zx fun b21 hb21=>Zg (Zu (q:=[.ints .u8 32 (y20)]) rfl rfl rfl rfl rfl .here<|Z1<|Z0<|oH h fun y23 ey23 h=>oH h fun y24 ey24 h=>Z2<|Z6 _ (Z03 (p:=[.ints .u8 32 (y20)]) rfl .here rfl)<|Z6 _ (Z1a rfl (Z9m ey23))<|Z6 _ (Z1a rfl (Z7q ey24))<|Zg (Zx fun b25 hb25=>Zg (Zu (q:=[.ints .u8 32 (y24)]) rfl rfl rfl rfl rfl .here<|Z1<|Z0<|jH h fun k34 qk34 h=>Zo (G:=fun t m=>∃ (a33:List Int) (b32:Nat),k34 a33=some r∧Fit [(4,.pointer (some ⟨b3,0,none⟩)),(5,.pointer (some ⟨b11,0,none⟩)),(8,.pointer (some ⟨b21,0,none⟩)),(9,.pointer (some ⟨b25,0,none⟩)),(10,.pointer (some ⟨b32,0,none⟩))] (ck b32 74 [.ints .u8 32 (a33)]::(ck b25 29 [.ints .u8 32 (y24)]::(ck b21 74 [.ints .u8 32 (y20)]::(ck b15 29 [.ints .u8 32 (y14)]::(ck b11 74 [.ints .u8 32 (y5.1)]::(ck b3 27 [.ints .u8 64 ((List.replicate 64 0))]::(ck b2 23 [.ints .u8 32 (p0)] :: []))))))) t m) ?_ ?_)))))))))
 ·refine oH h fun y39 ey39 h=>Zv<|Z8 _ (Z8w rfl .no .no .no (by simp) (by decide))<|Z8 _ (Z8w rfl .no .no .no (by simp) (by decide))<|Z8 _ (Z15 rfl)<|Zjh (Z9n (E:=El.sl) (xs:=[unS (.slice (some (Z20 b25 0 0 32 1)) (32-0) (32-0)),unS (.slice (some (Z20 b15 0 0 32 1)) (32-0) (32-0)),unS v1]) (.one rfl (Zcu.cells ⟨_,_,_,rfl⟩) rfl (.one rfl (Zcu.cells ⟨_,_,_,rfl⟩) rfl (.one rfl (Zcu.cells (Shp.isSl (Shp.rd A1))) rfl BdR.nil))) (.cons (p:=[.one (.slice (some (Z20 b25 0 0 32 1)) (32-0) (32-0))]) (Z69 ⟨_,_,_,rfl⟩) (.cons (p:=[.one (.slice (some (Z20 b15 0 0 32 1)) (32-0) (32-0))]) (Z69 ⟨_,_,_,rfl⟩) (.cons (p:=[.one v1]) (Z69 (Shp.isSl (Shp.rd A1))) .nil))) rfl fun v36 ms37 O38=>⟨(by repeat (first | exact Sup.refl _ | apply Sup.cons | apply Sup.app)),?_⟩) (Zx fun b40 hb40=>⟨(by repeat (first | exact Sup.refl _ | apply Sup.cons | apply Sup.app)),?_⟩)
  ·refine Zjh (ef_q _ (Z0n rfl (fun w hw=>Z43 ey39 (hG.at hw (by simp)) (Z1v O38 .here w hw) (.cons (Z44 ((Z1x (s:=[.ints .u8 32 (y24)]) (N:=32) (k:=.u8) (base:=0) (lo:=0) (hi:=32) (mz:=32) (.app .here) rfl (by decide)) w hw)) (.cons (Z44 ((Z1x (s:=[.ints .u8 32 (y14)]) (N:=32) (k:=.u8) (base:=0) (lo:=0) (hi:=32) (mz:=32) (.app (.there (.there (.app .here)))) rfl (by decide)) w hw)) (.cons (Z44 ((Z0a A1 Z0h) w hw)) .nil))))) ⟨(by repeat (first | exact Sup.refl _ | apply Sup.cons | apply Sup.app)),?_⟩) (Zx fun b40 hb40=>⟨(by repeat (first | exact Sup.refl _ | apply Sup.cons | apply Sup.app)),?_⟩)
   ·exact Z7j (Zx fun b40 hb40=>⟨(by repeat (first | exact Sup.refl _ | apply Sup.cons | apply Sup.app)),Z2j rfl (Zu (q:=[.ints .u8 32 (y39)]) rfl rfl rfl rfl rfl .here (Z05 (⟨y39,b40,h,⟨⟨rfl,rfl,rfl,rfl,rfl,trivial⟩,(.one .here (.one (.app .here) (.one (.app .here) (.one (.app (.app .here)) (.one (.app (.app .here)) (.one (.app (.app (.app .here))) (.one (.app (.app (.app .here))) .nil)))))))⟩⟩)))⟩)
   ·exact Zke _ (Z0n rfl (fun w hw=>Z43 ey39 (hG.at hw (by simp)) (Z1v O38 (.there .here) w hw) (.cons (Z44 ((Z1x (s:=[.ints .u8 32 (y24)]) (N:=32) (k:=.u8) (base:=0) (lo:=0) (hi:=32) (mz:=32) (.there (.app .here)) rfl (by decide)) w hw)) (.cons (Z44 ((Z1x (s:=[.ints .u8 32 (y14)]) (N:=32) (k:=.u8) (base:=0) (lo:=0) (hi:=32) (mz:=32) (.there (.app (.there (.there (.app .here))))) rfl (by decide)) w hw)) (.cons (Z44 ((Z0a A1 Z0h) w hw)) .nil))))) (Z2j rfl (Zu (q:=[.ints .u8 32 (y39)]) rfl rfl rfl rfl rfl .here (Z05 (⟨y39,b40,h,⟨⟨rfl,rfl,rfl,rfl,rfl,trivial⟩,(.one .here (.one (.app .here) (.one (.app .here) (.one (.app (.app .here)) (.one (.app (.app .here)) (.one (.app (.app (.app .here))) (.one (.app (.app (.app .here))) .nil)))))))⟩⟩)))) (by repeat (first | exact Sup.refl _ | apply Sup.cons | apply Sup.app))
  ·exact Z7j (Z9n (E:=El.sl) (xs:=[unS (.slice (some (Z20 b25 0 0 32 1)) (32-0) (32-0)),unS (.slice (some (Z20 b15 0 0 32 1)) (32-0) (32-0)),unS v1]) (.one rfl (Zcu.cells ⟨_,_,_,rfl⟩) rfl (.one rfl (Zcu.cells ⟨_,_,_,rfl⟩) rfl (.one rfl (Zcu.cells (Shp.isSl (Shp.rd A1))) rfl BdR.nil))) (.cons (p:=[.one (.slice (some (Z20 b25 0 0 32 1)) (32-0) (32-0))]) (Z69 ⟨_,_,_,rfl⟩) (.cons (p:=[.one (.slice (some (Z20 b15 0 0 32 1)) (32-0) (32-0))]) (Z69 ⟨_,_,_,rfl⟩) (.cons (p:=[.one v1]) (Z69 (Shp.isSl (Shp.rd A1))) .nil))) rfl fun v36 ms37 O38=>⟨(by repeat (first | exact Sup.refl _ | apply Sup.cons | apply Sup.app)),Zke _ (Z0n rfl (fun w hw=>Z43 ey39 (hG.at hw (by simp)) (Z1v O38 .here w hw) (.cons (Z44 ((Z1x (s:=[.ints .u8 32 (y24)]) (N:=32) (k:=.u8) (base:=0) (lo:=0) (hi:=32) (mz:=32) (.app (.there .here)) rfl (by decide)) w hw)) (.cons (Z44 ((Z1x (s:=[.ints .u8 32 (y14)]) (N:=32) (k:=.u8) (base:=0) (lo:=0) (hi:=32) (mz:=32) (.app (.there (.there (.there (.app .here))))) rfl (by decide)) w hw)) (.cons (Z44 ((Z0a A1 Z0h) w hw)) .nil))))) (Z2j rfl (Zu (q:=[.ints .u8 32 (y39)]) rfl rfl rfl rfl rfl (.app .here) (Z05 (⟨y39,b40,h,⟨⟨rfl,rfl,rfl,rfl,rfl,trivial⟩,(.one (.app .here) (.one (.app .here) (.one (.app .here) (.one (.app (.app .here)) (.one (.app (.app .here)) (.one (.app (.app (.app .here))) (.one (.app (.app (.app .here))) .nil)))))))⟩⟩)))) (by repeat (first | exact Sup.refl _ | apply Sup.cons | apply Sup.app))⟩)
 ·rintro t m ⟨a33,b32,h,hF⟩
  refine Zn hF ?_
  clear hF
  subst qk34
  refine Z0<|oH h fun y42 ey42 h=>Z2<|Z6 _ (Z03 (p:=[.ints .u8 32 (a33)]) rfl .here rfl)<|Z6 _ (Z03 (p:=[.ints .u8 32 (y5.1)]) rfl (.there (.there (.there (.there .here)))) rfl)<|Z6 _ (Z03 (p:=[.ints .u8 32 (y20)]) rfl (.there (.there .here)) rfl)<|Z6 _ (Z0n rfl (fun w hw=>Zdp ey42 (hG.at hw (by simp))))<|Zg (Zx fun b43 hb43=>Zg (Zu (q:=[.ints .u8 32 (y42)]) rfl rfl rfl rfl rfl .here<|Z1<|Z0<|Z2<|Zg (Zx fun b45 hb45=>Z1<|Z0<|bH h fun l47 el47 h=>Zv<|Z8 _ (Z8w rfl .no (.yes rfl) .no (by simp) (by decide))<|Z8 _ (Z8w rfl .no .no .no (by simp) (by decide))<|Z2j rfl (Zdz (q:=[.ints .u8 64 (l47)]) (lo:=0) (hi:=32) (mz:=64) (base:=0) (cpy0 el47) rfl rfl (Z1x (s:=[.ints .u8 32 (y24)]) (N:=32) (k:=.u8) (base:=0) (lo:=0) (hi:=32) (mz:=32) (.there (.there (.there .here))) rfl (by decide)) rfl (by decide) rfl .here<|Z05<|Z0<|bH h fun l49 el49 h=>Zv<|Z8 _ (Z8w rfl (.yes rfl) .no .no (by simp) (by decide))<|Z8 _ (Z8w rfl .no .no .no (by simp) (by decide))<|Z2j rfl (Zdz (q:=[.ints .u8 64 (l49)]) (lo:=32) (hi:=64) (mz:=64) (base:=0) el49 rfl rfl (Z1x (s:=[.ints .u8 32 (y42)]) (N:=32) (k:=.u8) (base:=0) (lo:=0) (hi:=32) (mz:=32) (.there .here) rfl (by decide)) rfl (by decide) rfl .here<|Z05<|Z0<|Z2<|Z6 _ (Z03 (p:=[.ints .u8 64 (l49)]) rfl .here rfl)<|Zg (Zu (q:=[.ints .u8 64 (l49)]) rfl rfl rfl rfl rfl (.there (.there (.there (.there (.there (.there (.there .here)))))))<|Z1<|Zk ?_))))))
  revert h; refine Zy fun h=>?_
  subst h
  exact ⟨_,(.cons (.agg rfl (.there (.there (.there (.there (.there (.there (.there .here))))))) rfl) .nil),rfl⟩
end Go.Proofs.YtiflckckekjbnaaGreatDoor
