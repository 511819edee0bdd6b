/- Texts of a proof, one behind the other: L6 L7 L8 L9 L10 L11 T1. -/
import Derived.Test.YteefpkhngighgaaGreatDoorMB3
namespace Go.Proofs.YteefpkhngighgaaGreatDoor
open Go Go.Sx Go.RowKit
open List (replicate)
open Go.IntKind (wrap)
set_option linter.all false
set_option maxHeartbeats 400000
set_option maxRecDepth 100000
def Z31 (p0:LI) (o:Nat) (L:Nat) (p1:Int) (p2:Int):OL :=
 opt (Z63 p1 p2) fun y1 =>
 chk (decide (o+1<L)) <|
 bnd (p0.getD (o+1) 0) fun z1 =>
 chk (Zfu z1 y1.2 0) <|
 bnd (Zbb z1 y1.2 0) fun z2 =>
 bnd (Zg6 z1 y1.2 0) fun z3 =>
 chk (decide (o+1<L)) <|
 bnd (Z3z p0 (o+1) z2) fun l1 =>
 chk (decide (o+0<L)) <|
 bnd (l1.getD (o+0) 0) fun z4 =>
 chk (Zfu z4 y1.1 z3) <|
 bnd (Zbb z4 y1.1 z3) fun z5 =>
 bnd (Zg6 z4 y1.1 z3) fun z6 =>
 chk (decide (o+0<L)) <|
 bnd (Z3z l1 (o+0) z5) fun l2 =>
 some l2
theorem Z8v {W:World} {r:(LI)} {p0:LI} {o:Nat} {L:Nat} {p1:Int} {p2:Int} {b:Nat} {T:TypeId} (h:Z31 p0 o L p1 p2=some r) (h0:Sat W [b] (ck b T [.ints .u64 L (p0)] :: []) W) :
    Calls Tryz.prog 229 [.pointer (some ⟨b,o,none⟩),.int .u64 (p1),.int .u64 (p2)].toArray W (Z8e W [b] (fun v Ms=>v = .tuple #[]/\Ms = [.one (ck b T [.ints .u64 L (r)])])):=by
 unfold Z31 at h
 refine Zs mo Z0n2 rfl h0 ?_
 refine Z0<|oH h fun y1 f1 h=>Z1<|Z8 rfl<|Z8 rfl<|Z4 _ (Z1d rfl (Zc3 f1))<|Z8 rfl<|Z4 _ (Z17 rfl rfl)<|Z4 _ (Z17 rfl rfl)<|Z8 rfl<|Z8 rfl<|Z2<|Z0<|Z1<|Z8 rfl<|Z2<|Z0<|cH h fun c1 h=>bH h fun z1 e1 h=>cH h fun c2 h=>bH h fun z2 e2 h=>bH h fun z3 e3 h=>cH h fun c3 h=>bH h fun l1 g1 h=>Z1<|Z8 rfl<|Z8 rfl<|Z4 _ (Z1l rfl)<|Z4 _ (Z1v rfl)<|Z4 _ (Z033 (base:=0) (i:=o+1) e1 rfl .here rfl (by omega) c1)<|Z8 rfl<|Z4 _ (Zgt rfl Zid (xadd e2 e3 c2))<|Z8 rfl<|Z4 _ (Z17 rfl rfl)<|Z4 _ (Z17 rfl rfl)<|Z4 _ (Z1l rfl)<|Z4 _ (Z1v rfl)<|Zc (Zwq (base:=0) (i:=o+1) (q:=[.ints .u64 L l1]) g1 rfl rfl rfl (by omega) c3 (by simp [Zfq,Seg.width]) .here<|Z8 rfl<|Z2<|cH h fun c4 h=>bH h fun z4 e4 h=>cH h fun c5 h=>bH h fun z5 e5 h=>bH h fun z6 e6 h=>cH h fun c6 h=>bH h fun l2 g2 h=>Z1<|Z8 rfl<|Z8 rfl<|Z4 _ (Z1l rfl)<|Z4 _ (Z1v rfl)<|Z4 _ (Z033 (base:=0) (i:=o+0) e4 rfl .here rfl (by omega) c4)<|Z8 rfl<|Z8 rfl<|Z4 _ (Zgt rfl Zid (xadd e5 e6 c5))<|Z8 rfl<|Z4 _ (Z17 rfl rfl)<|Z4 _ (Z17 rfl rfl)<|Z4 _ (Z1l rfl)<|Z4 _ (Z1v rfl)<|Zc (Zwq (base:=0) (i:=o+0) (q:=[.ints .u64 L l2]) g2 rfl rfl rfl (by omega) c6 (by simp [Zfq,Seg.width]) .here<|Z2 ?_))
 revert h; refine Z01 fun h=>?_
 subst h
 exact ⟨_,_,.nil,(.o .nil),⟨_,rfl,⟨rfl,rfl⟩⟩⟩
def Z7m (y1:(LI)) (i1:Int) (z1:Int) (k1:(LI)->OL) (k2:Int->(LI)->OL) (i2:Int) (a1:LI):OL :=
 br ((decide (i2<5))) (
 jn (fun (a2:LI)=>bnd (wrap .i64 (i2+1)) fun z2 =>
 k2 z2 a2) fun k3=>chk (inB i2 5) <|
 bnd (y1.getD (i2).toNat 0) fun z3 =>
 bnd (wrap .i64 (i1+i2)) fun z4 =>
 br ((decide (z4<5))) (
 bnd (wrap .i64 (i1+i2)) fun z5 =>
 chk (inB z5 5) <|
 opt (Z31 a1 (0+(z5).toNat*2) 10 z1 z3) fun y2 =>
 k3 y2
 ) (
 bnd (wrap .i64 (i1+i2)) fun z6 =>
 bnd (wrap .i64 (z6-5)) fun z7 =>
 chk (inB z7 5) <|
 bnd (wrap .u64 (19*z3)) fun z8 =>
 opt (Z31 a1 (0+(z7).toNat*2) 10 z1 z8) fun y3 =>
 k3 y3
 )
 ) (
 k1 a1
 )
def Z6f (y1:(LI)) (i1:Int) (z1:Int) (k1:(LI)->OL):Nat->Int->(LI)->OL
  | 0,_,_=>none
  | n+1,i2,a1=>Z7m y1 i1 z1 k1 (Z6f y1 i1 z1 k1 n) i2 a1
def Zbi (y1:(LI)) (y2:(LI)) (k1:(LI)->OL) (k2:Int->(LI)->OL) (i1:Int) (a1:LI):OL :=
 br ((decide (i1<5))) (
 chk (inB i1 5) <|
 bnd (y1.getD (i1).toNat 0) fun z1 =>
 jn (fun (a2:LI)=>bnd (wrap .i64 (i1+1)) fun z2 =>
 k2 z2 a2) fun k3=>Z6f y2 i1 z1 k3 big 0 a1
 ) (
 k1 a1
 )
def Z3v (y1:(LI)) (y2:(LI)) (k1:(LI)->OL):Nat->Int->(LI)->OL
  | 0,_,_=>none
  | n+1,i1,a1=>Zbi y1 y2 k1 (Z3v y1 y2 k1 n) i1 a1
def Z97 (a1:LI) (k1:Int->(LI)->OL) (k2:Int->Int->(LI)->OL) (i1:Int) (i2:Int) (a2:LI):OL :=
 br ((decide (i2<5))) (
 chk (inB i2 5) <|
 bnd (tk a1 ((i2).toNat*2) 2) fun l1 =>
 bnd (l1.getD 1 0) fun z1 =>
 chk (Zfu z1 i1 0) <|
 bnd (Zbb z1 i1 0) fun z2 =>
 bnd (Zg6 z1 i1 0) fun z3 =>
 bnd (Z7 .and .u64 z2 2251799813685247) fun z4 =>
 chk (inB i2 5) <|
 bnd (Z3z a2 (i2).toNat z4) fun l2 =>
 bnd (l1.getD 0 0) fun z5 =>
 bnd (wrap .u64 (z5+z3)) fun z6 =>
 bnd (Z02 .u64 z6 13) fun z7 =>
 bnd (Zr .u64 z2 51) fun z8 =>
 bnd (Z7 .or .u64 z7 z8) fun z9 =>
 bnd (wrap .i64 (i2+1)) fun z10 =>
 k2 z9 z10 l2
 ) (
 k1 i1 a2
 )
def Z4l (a1:LI) (k1:Int->(LI)->OL):Nat->Int->Int->(LI)->OL
  | 0,_,_,_=>none
  | n+1,i1,i2,a2=>Z97 a1 k1 (Z4l a1 k1 n) i1 i2 a2
def Z0t (p0:LI) (p1:LI):OL :=
 opt (Z5n p0) fun y1 =>
 opt (Z5n p1) fun y2 =>
 jn (fun (a1:LI)=>jn (fun (i1:Int) (a2:LI)=>opt (Z31 (replicate 2 0) 0 2 i1 19) fun y3 =>
 bnd (y3.getD 1 0) fun z1 =>
 bnd (a2.getD 0 0) fun z2 =>
 chk (Zfu z1 z2 0) <|
 bnd (Zbb z1 z2 0) fun z3 =>
 bnd (Zg6 z1 z2 0) fun z4 =>
 bnd (Z7 .and .u64 z3 2251799813685247) fun z5 =>
 bnd (Z3z a2 0 z5) fun l1 =>
 bnd (l1.getD 1 0) fun z6 =>
 bnd (y3.getD 0 0) fun z7 =>
 bnd (wrap .u64 (z7+z4)) fun z8 =>
 bnd (Z02 .u64 z8 13) fun z9 =>
 bnd (Zr .u64 z3 51) fun z10 =>
 bnd (Z7 .or .u64 z9 z10) fun z11 =>
 bnd (wrap .u64 (z6+z11)) fun z12 =>
 bnd (Z3z l1 1 z12) fun l2 =>
 opt (Z1k l2) fun y4 =>
 some y4) fun k1=>Z4l a1 k1 big 0 0 (replicate 5 0)) fun k2=>Z3v y1 y2 k2 big 0 (replicate 10 0)
theorem Z0f {W:World} {r:(LI)} {p0:LI} {p1:LI} (h:Z0t p0 p1=some r)  :
    Calls Tryz.prog 115 [agg [u5' p0],agg [u5' p1]].toArray W (Z3c W (agg [u5' r])):=by
 unfold Z0t at h
 refine Za mo Z0lf rfl ?_
 refine Z0<|Z1<|Zc (Z06 (s:=[u5' p0]) rfl fun b1 u1=>Zc (Z06 (s:=[u5' p1]) rfl fun b2 u2=>Zc (Zu fun b3 u3=>Z2<|Z0<|oH h fun y1 f1 h=>oH h fun y2 f2 h=>Zv<|Zh _ (Z00 (p:=[u5' p0]) rfl .t2 rfl)<|Z6 _ (Z1d rfl (Z55 f1))<|Zh _ (Z00 (p:=[u5' p1]) rfl .t1 rfl)<|Z6 _ (Z1d rfl (Z55 f2))<|Z1q rfl (Zl (q:=[u5' y1]) rfl rfl rfl rfl rfl .t2<|Z02d rfl (Zl (q:=[u5' y2]) rfl rfl rfl rfl rfl .t1<|Zy<|Z0<|Z1<|Zc (Zu fun b4 u4=>Z2<|Z0<|Z0<|Z1<|Z4 _ (Z00 (p:=[u5' y1]) rfl .t3 rfl)<|Z8 rfl<|Z2<|jH h fun k1 q1 h=>Zo (G:=fun t m=>∃ (a1:LI),k1 a1=some r/\Fit [(4,pt' b3),(5,pt' b4)] (ck b4 347 [uA' a1]::(ck b3 124 [u5' (replicate 5 0)]::(ck b2 124 [u5' y2]::(ck b1 124 [u5' y1] :: [])))) t m) ?_ ?_))))))
 ·refine Zd<|Z07 (fun n1 t m=>∃ (i1:Int) (a2:LI),Z3v y1 y2 k1 n1 i1 a2=some r/\Fit [(3,pt' b2),(4,pt' b3),(5,pt' b4),(23,agg [u5' y1]),(24,.int .i64 (i1))] (ck b4 347 [uA' a2]::(ck b3 124 [u5' (replicate 5 0)]::(ck b2 124 [u5' y2]::(ck b1 124 [u5' y1] :: [])))) t m) big ?_ ?_
  ·exact ⟨0,(replicate 10 0),h,⟨⟨rfl,rfl,rfl,rfl,rfl,trivial⟩,(.o (.o (.o (.o .nil))))⟩⟩
  ·rintro n1 t m ⟨i1,a2,h,hF⟩
   refine Zm hF ?_
   clear hF
   rcases n1 with _ | n1
   · exact Z1r h
   have h:Zbi y1 y2 k1 (Z3v y1 y2 k1 n1) i1 a2=some r:=h
   unfold Zbi at h
   obtain ⟨k2,q2⟩ : ∃ k,k=Z3v y1 y2 k1 n1:=⟨_,rfl⟩
   try rw [<- q2] at h
   refine Z0<|Z1<|Z4 _ (Zb rfl rfl rfl)<|Z2<|Z0<|Z0r h rfl (fun h=>?_) (fun h=>?_)
   ·refine Zn<|Z0<|Zd<|Z0<|cH h fun c1 h=>bH h fun z1 e1 h=>Z1<|Z8 rfl<|Z4 _ (iz e1 (Zgs (len:=5) rfl rfl (Z1w c1)))<|Z8 rfl<|Z8 rfl<|Z2<|Z0<|Z1<|Z4 _ (Z00 (p:=[u5' y2]) rfl .t2 rfl)<|Z8 rfl<|Z2<|jH h fun k3 q3 h=>Zo (G:=fun t m=>∃ (a3:LI),k3 a3=some r/\Fit [(3,pt' b2),(4,pt' b3),(5,pt' b4),(23,agg [u5' y1]),(24,.int .i64 (i1))] (ck b4 347 [uA' a3]::(ck b3 124 [u5' (replicate 5 0)]::(ck b2 124 [u5' y2]::(ck b1 124 [u5' y1] :: [])))) t m) ?_ ?_
    ·refine Zd<|Z07 (fun n2 t m=>∃ (i2:Int) (a4:LI),Z6f y2 i1 z1 k3 n2 i2 a4=some r/\Fit [(3,pt' b2),(4,pt' b3),(5,pt' b4),(6,.int .i64 (i1)),(7,.int .u64 (z1)),(23,agg [u5' y1]),(24,.int .i64 (i1)),(28,agg [u5' y2]),(29,.int .i64 (i2))] (ck b4 347 [uA' a4]::(ck b3 124 [u5' (replicate 5 0)]::(ck b2 124 [u5' y2]::(ck b1 124 [u5' y1] :: [])))) t m) big ?_ ?_
     ·exact ⟨0,a2,h,⟨⟨rfl,rfl,rfl,rfl,rfl,rfl,rfl,rfl,rfl,trivial⟩,(.o (.o (.o (.o .nil))))⟩⟩
     ·rintro n2 t m ⟨i2,a4,h,hF⟩
      refine Zm hF ?_
      clear hF
      rcases n2 with _ | n2
      · exact Z1r h
      have h:Z7m y2 i1 z1 k3 (Z6f y2 i1 z1 k3 n2) i2 a4=some r:=h
      unfold Z7m at h
      obtain ⟨k4,q4⟩ : ∃ k,k=Z6f y2 i1 z1 k3 n2:=⟨_,rfl⟩
      try rw [<- q4] at h
      refine Z0<|Z1<|Z4 _ (Zb rfl rfl rfl)<|Z2<|Z0<|Z0r h rfl (fun h=>?_) (fun h=>?_)
      ·refine Zn<|Z0<|jH h fun k5 q5 h=>Zo (G:=fun t m=>∃ (a5:LI),k5 a5=some r/\Fit [(3,pt' b2),(4,pt' b3),(5,pt' b4),(6,.int .i64 (i1)),(7,.int .u64 (z1)),(23,agg [u5' y1]),(24,.int .i64 (i1)),(28,agg [u5' y2]),(29,.int .i64 (i2))] (ck b4 347 [uA' a5]::(ck b3 124 [u5' (replicate 5 0)]::(ck b2 124 [u5' y2]::(ck b1 124 [u5' y1] :: [])))) t m) ?_ ?_
       ·refine Zd<|Z0<|cH h fun c2 h=>bH h fun z2 e2 h=>Z1<|Z8 rfl<|Z4 _ (iz e2 (Zgs (len:=5) rfl rfl (Z1w c2)))<|Z8 rfl<|Z8 rfl<|Z2<|Z0<|bH h fun z3 e3 h=>Z1<|Z8 rfl<|Z8 rfl<|Z4 _ (iz e3 (Zb rfl rfl rfl))<|Z4 _ (Zb rfl rfl rfl)<|Z2<|Z0r h rfl (fun h=>?_) (fun h=>?_)
        ·refine bH h fun z4 e4 h=>cH h fun c3 h=>oH h fun y3 f3 h=>Z1<|Z8 rfl<|Z8 rfl<|Z4 _ (iz e4 (Zb rfl rfl rfl))<|Z4 _ (Z3f rfl rfl (Z1w c3))<|Z8 rfl<|Z8 rfl<|Zc (Z2z (mS:=[_]) rfl (Z40.perm .here) (fun w hw=>Z8v  f3 (Zav hw (mS:=[_]) (Z40.perm .here)) ) fun v1649 o1 R1=>?_)
         obtain ⟨rfl,rfl⟩:=R1
         exact Z2<|⟨y3,h,⟨⟨rfl,rfl,rfl,rfl,rfl,rfl,rfl,rfl,rfl,trivial⟩,(.o (.o (.o (.o .nil))))⟩⟩
        ·refine bH h fun z5 e5 h=>bH h fun z6 e6 h=>cH h fun c4 h=>bH h fun z7 e7 h=>oH h fun y4 f4 h=>Z1<|Z8 rfl<|Z8 rfl<|Z4 _ (iz e5 (Zb rfl rfl rfl))<|Z4 _ (iz e6 (Zb rfl rfl rfl))<|Z4 _ (Z3f rfl rfl (Z1w c4))<|Z8 rfl<|Z8 rfl<|Z4 _ (iz e7 (Zb rfl rfl rfl))<|Zc (Z2z (mS:=[_]) rfl (Z40.perm .here) (fun w hw=>Z8v  f4 (Zav hw (mS:=[_]) (Z40.perm .here)) ) fun v1657 o2 R2=>?_)
         obtain ⟨rfl,rfl⟩:=R2
         exact Z2<|⟨y4,h,⟨⟨rfl,rfl,rfl,rfl,rfl,rfl,rfl,rfl,rfl,trivial⟩,(.o (.o (.o (.o .nil))))⟩⟩
       ·rintro t m ⟨a5,h,hF⟩
        refine Zm hF ?_
        clear hF
        subst q5
        refine bH h fun z8 e8 h=>Z1<|Z4 _ (iz e8 (Zb rfl rfl rfl))<|Z8 rfl<|Z2 ?_
        rw [q4] at h
        exact ⟨n2,Nat.lt_succ_self _,z8,a5,h,⟨⟨rfl,rfl,rfl,rfl,rfl,rfl,rfl,rfl,rfl,trivial⟩,(.o (.o (.o (.o .nil))))⟩⟩
      ·exact Z0l _ rfl<|⟨a4,h,⟨⟨rfl,rfl,rfl,rfl,rfl,trivial⟩,(.o (.o (.o (.o .nil))))⟩⟩
    ·rintro t m ⟨a3,h,hF⟩
     refine Zm hF ?_
     clear hF
     subst q3
     refine bH h fun z9 e9 h=>Z1<|Z4 _ (iz e9 (Zb rfl rfl rfl))<|Z8 rfl<|Z2 ?_
     rw [q2] at h
     exact ⟨n1,Nat.lt_succ_self _,z9,a3,h,⟨⟨rfl,rfl,rfl,rfl,rfl,trivial⟩,(.o (.o (.o (.o .nil))))⟩⟩
   ·exact Z0l _ rfl<|⟨a2,h,⟨⟨rfl,rfl,trivial⟩,(.o (.o (.o (.o .nil))))⟩⟩
 ·rintro t m ⟨a1,h,hF⟩
  refine Zm hF ?_
  clear hF
  subst q1
  refine Z0<|Z1<|Zc (Zu fun b5 u5=>Z2<|Z0<|Z1<|Z8 rfl<|Z2<|Z0<|Z0<|Z1<|Z4 _ (Z00 (p:=[uA' a1]) rfl .t1 rfl)<|Z8 rfl<|Z2<|jH h fun k6 q6 h=>Zo (G:=fun t m=>∃ (i3:Int) (a6:LI),k6 i3 a6=some r/\Fit [(4,pt' b3),(10,pt' b5),(11,.int .u64 (i3))] (ck b5 124 [u5' a6]::(ck b4 347 [uA' a1]::(ck b3 124 [u5' (replicate 5 0)]::(ck b2 124 [u5' y2]::(ck b1 124 [u5' y1] :: []))))) t m) ?_ ?_)
  ·refine Zd<|Z07 (fun n3 t m=>∃ (i4:Int) (i5:Int) (a7:LI),Z4l a1 k6 n3 i4 i5 a7=some r/\Fit [(4,pt' b3),(10,pt' b5),(11,.int .u64 (i4)),(55,agg [uA' a1]),(56,.int .i64 (i5))] (ck b5 124 [u5' a7]::(ck b4 347 [uA' a1]::(ck b3 124 [u5' (replicate 5 0)]::(ck b2 124 [u5' y2]::(ck b1 124 [u5' y1] :: []))))) t m) big ?_ ?_
   ·exact ⟨0,0,(replicate 5 0),h,⟨⟨rfl,rfl,rfl,rfl,rfl,trivial⟩,(.o (.o (.o (.o (.o .nil)))))⟩⟩
   ·rintro n3 t m ⟨i4,i5,a7,h,hF⟩
    refine Zm hF ?_
    clear hF
    rcases n3 with _ | n3
    · exact Z1r h
    have h:Z97 a1 k6 (Z4l a1 k6 n3) i4 i5 a7=some r:=h
    unfold Z97 at h
    obtain ⟨k7,q7⟩ : ∃ k,k=Z4l a1 k6 n3:=⟨_,rfl⟩
    try rw [<- q7] at h
    refine Z0<|Z1<|Z4 _ (Zb rfl rfl rfl)<|Z2<|Z0<|Z0r h rfl (fun h=>?_) (fun h=>?_)
    ·refine Zn<|Z0<|Zd<|Z0<|cH h fun c5 h=>bH h fun l1 g1 h=>Z1<|Z8 rfl<|Z4 _ (az (fun z=>agg [.ints .u64 2 z]) g1 (Z0e3 (len:=5) (w:=2) rfl rfl (Z1w c5)))<|Zc (Zu fun b6 u6=>Z8 rfl<|Zc (Zl (q:=[.ints .u64 2 (l1)]) rfl rfl rfl rfl rfl .here<|Z2<|Z0<|bH h fun z10 e10 h=>cH h fun c6 h=>bH h fun z11 e11 h=>bH h fun z12 e12 h=>Z1<|Z4 _ (Z1v rfl)<|Z4 _ (iz e10 (Z0p rfl .here rfl))<|Z8 rfl<|Z4 _ (Zgt rfl Zid (xadd e11 e12 c6))<|Z8 rfl<|Z4 _ (Z17 rfl rfl)<|Z4 _ (Z17 rfl rfl)<|Z8 rfl<|Z8 rfl<|Z2<|Z0<|bH h fun z13 e13 h=>cH h fun c7 h=>bH h fun l2 g2 h=>Z1<|Z8 rfl<|Z8 rfl<|Z4 _ (iz e13 (Zb rfl rfl rfl))<|Z4 _ (Z3f rfl rfl (Z1w c7))<|Zc (Z5x (q:=[u5' l2]) (base:=0) g2 rfl rfl rfl (Z1i c7) rfl .t1<|Z2<|bH h fun z14 e14 h=>bH h fun z15 e15 h=>bH h fun z16 e16 h=>bH h fun z17 e17 h=>bH h fun z18 e18 h=>Z1<|Z4 _ (Z1v rfl)<|Z4 _ (iz e14 (Z0p rfl .here rfl))<|Z8 rfl<|Z4 _ (iz e15 (Zb rfl rfl rfl))<|Z4 _ (iz e16 (Zm6 rfl rfl (by decide)))<|Z8 rfl<|Z4 _ (iz e17 (Z8w rfl rfl (by decide)))<|Z4 _ (iz e18 (Zb rfl rfl rfl))<|Z8 rfl<|Z2<|bH h fun z19 e19 h=>Z1<|Z4 _ (iz e19 (Zb rfl rfl rfl))<|Z8 rfl<|Z2 ?_)))
     rw [q7] at h
     exact ⟨n3,Nat.lt_succ_self _,z18,z19,l2,h,⟨⟨rfl,rfl,rfl,rfl,rfl,trivial⟩,(.one .t1 (.one .t1 (.one .t1 (.one .t1 (.one .t1 .nil)))))⟩⟩
    ·exact Z0l _ rfl<|⟨i4,a7,h,⟨⟨rfl,rfl,rfl,trivial⟩,(.o (.o (.o (.o (.o .nil)))))⟩⟩
  ·rintro t m ⟨i3,a6,h,hF⟩
   refine Zm hF ?_
   clear hF
   subst q6
   refine Z0<|Z1<|Zc (Zu fun b7 u7=>Z2<|Z0<|oH h fun y5 f5 h=>Z1<|Z8 rfl<|Zc (Z2z (mS:=[_]) rfl (Z40.perm .here) (fun w hw=>Z8v  f5 (Zav hw (mS:=[_]) (Z40.perm .here)) ) fun v1820 o3 R3=>?_))
   obtain ⟨rfl,rfl⟩:=R3
   refine Z2<|Z0<|bH h fun z20 e20 h=>bH h fun z21 e21 h=>cH h fun c8 h=>bH h fun z22 e22 h=>bH h fun z23 e23 h=>Z1<|Z4 _ (Z1v rfl)<|Z4 _ (iz e20 (Z0p rfl .here rfl))<|Z4 _ (Z3f rfl rfl (by decide))<|Z4 _ (iz e21 (Z0p rfl .t1 rfl))<|Z4 _ (Zgt rfl Zid (xadd e22 e23 c8))<|Z8 rfl<|Z4 _ (Z17 rfl rfl)<|Z4 _ (Z17 rfl rfl)<|Z8 rfl<|Z8 rfl<|Z2<|Z0<|bH h fun z24 e24 h=>bH h fun l3 g3 h=>Z1<|Z8 rfl<|Z4 _ (iz e24 (Zb rfl rfl rfl))<|Z4 _ (Z3f rfl rfl (by decide))<|Zc (Zbx (q:=[u5' l3]) (congrArg (fun z=>([u5' z]:List Seg)) g3.symm) rfl rfl rfl rfl .t1<|Z2<|Z0<|bH h fun z25 e25 h=>bH h fun z26 e26 h=>bH h fun z27 e27 h=>bH h fun z28 e28 h=>bH h fun z29 e29 h=>bH h fun z30 e30 h=>bH h fun z31 e31 h=>bH h fun l4 g4 h=>Z1<|Z4 _ (Z3f rfl rfl (by decide))<|Z4 _ (iz e25 (Z0p rfl .t1 rfl))<|Z4 _ (Z1v rfl)<|Z4 _ (iz e26 (Z0p rfl .here rfl))<|Z8 rfl<|Z4 _ (iz e27 (Zb rfl rfl rfl))<|Z4 _ (iz e28 (Zm6 rfl rfl (by decide)))<|Z8 rfl<|Z4 _ (iz e29 (Z8w rfl rfl (by decide)))<|Z4 _ (iz e30 (Zb rfl rfl rfl))<|Z4 _ (iz e31 (Zb rfl rfl rfl))<|Z4 _ (Z3f rfl rfl (by decide))<|Zc (Zbx (q:=[u5' l4]) (congrArg (fun z=>([u5' z]:List Seg)) g4.symm) rfl rfl rfl rfl .t1<|Z2<|Z0<|oH h fun y6 f6 h=>Z1<|Z4 _ (Z00 (p:=[u5' l4]) rfl .t1 rfl)<|Z4 _ (Z1d rfl (Z0z f6))<|Zc (Zl (q:=[u5' y6]) rfl rfl rfl rfl rfl .t3<|Z2<|Zf ?_)))
   revert h; refine Z01 fun h=>?_
   subst h
   exact ⟨_,(.cons (.agg rfl .t3 rfl) .nil),rfl⟩
def Zan (p0:Int):OL :=
 bnd (([p0,0,0,0,0]:LI)) fun z1 =>
 opt (Z1k z1) fun y1 =>
 some y1
theorem Zfl {W:World} {r:(LI)} {p0:Int} (h:Zan p0=some r)  :
    Calls Tryz.prog 323 [.int .u64 (p0)].toArray W (Z3c W (agg [u5' r])):=by
 unfold Zan at h
 refine Za mo Z0oc rfl ?_
 refine Z0<|Z1<|Zc (Zu fun b1 u1=>Z2<|Z0<|bH h fun z1 e1 h=>oH h fun y1 f1 h=>Z1<|Z8 rfl<|Z4 _ (az (fun z=>agg [.ints .u64 5 z]) e1 (Zcd (.one rfl rfl rfl BdR.nil)))<|Z4 _ (Z1d rfl (Z0z f1))<|Zc (Zl (q:=[u5' y1]) rfl rfl rfl rfl rfl .here<|Z2<|Zf ?_))
 revert h; refine Z01 fun h=>?_
 subst h
 exact ⟨_,(.cons (.agg rfl .here rfl) .nil),rfl⟩
def Z1j (p0:LI):OL :=
 opt (Z0t p0 p0) fun y1 =>
 some y1
theorem Z25 {W:World} {r:(LI)} {p0:LI} (h:Z1j p0=some r)  :
    Calls Tryz.prog 324 [agg [u5' p0]].toArray W (Z3c W (agg [u5' r])):=by
 unfold Z1j at h
 refine Za mo Z0od rfl ?_
 refine Z0<|Z1<|Zc (Z06 (s:=[u5' p0]) rfl fun b1 u1=>Zc (Zu fun b2 u2=>Z2<|Z0<|oH h fun y1 f1 h=>Z1<|Z4 _ (Z00 (p:=[u5' p0]) rfl .t1 rfl)<|Z4 _ (Z00 (p:=[u5' p0]) rfl .t1 rfl)<|Z4 _ (Z1d rfl (Z0f f1))<|Zc (Zl (q:=[u5' y1]) rfl rfl rfl rfl rfl .here<|Z2<|Zf ?_)))
 revert h; refine Z01 fun h=>?_
 subst h
 exact ⟨_,(.cons (.agg rfl .here rfl) .nil),rfl⟩
def Z99 (p0:LI) (p1:LI) (k1:(LI)->OL) (k2:Int->(LI)->OL) (i1:Int) (a1:LI):OL :=
 br ((decide (i1≥0))) (
 jn (fun (a2:LI)=>bnd (wrap .i64 (i1-1)) fun z1 =>
 k2 z1 a2) fun k3=>opt (Z1j a1) fun y1 =>
 bnd (wrap .i64 (Int.tdiv i1 8)) fun z2 =>
 chk (inB z2 32) <|
 bnd (p1.getD (z2).toNat 0) fun z3 =>
 bnd (Int.tmod i1 8) fun z4 =>
 chk (decide (0<=z4)) <|
 bnd (Zr .u8 z3 z4) fun z5 =>
 bnd (Z7 .and .u8 z5 1) fun z6 =>
 br ((z6==1)) (
 opt (Z0t y1 p0) fun y2 =>
 k3 y2
 ) (
 k3 y1
 )
 ) (
 k1 a1
 )
def Z5g (p0:LI) (p1:LI) (k1:(LI)->OL):Nat->Int->(LI)->OL
  | 0,_,_=>none
  | n+1,i1,a1=>Z99 p0 p1 k1 (Z5g p0 p1 k1 n) i1 a1
def Zbj (p0:LI) (p1:LI):OL :=
 opt (Zan 1) fun y1 =>
 jn (fun (a1:LI)=>some a1) fun k1=>Z5g p0 p1 k1 big 255 y1
theorem Zdt {W:World} {r:(LI)} {p0:LI} {p1:LI} (h:Zbj p0 p1=some r)  :
    Calls Tryz.prog 225 [agg [u5' p0],agg [b3' p1]].toArray W (Z3c W (agg [u5' r])):=by
 unfold Zbj at h
 refine Za mo Z0my rfl ?_
 refine Z0<|Z1<|Zc (Z06 (s:=[u5' p0]) rfl fun b1 u1=>Zc (Z06 (s:=[b3' p1]) rfl fun b2 u2=>Zc (Zu fun b3 u3=>Z2<|Z0<|oH h fun y1 f1 h=>Z1<|Z4 _ (Z1d rfl (Zfl f1))<|Zc (Zu fun b4 u4=>Zc (Zl (q:=[u5' y1]) rfl rfl rfl rfl rfl .here<|Z2<|Z0<|Z0<|Z1<|Z8 rfl<|Z2<|jH h fun k1 q1 h=>Zo (G:=fun t m=>∃ (a1:LI),k1 a1=some r/\Fit [(4,pt' b3),(5,pt' b4)] (ck b4 124 [u5' a1]::(ck b3 124 [u5' (replicate 5 0)]::(ck b2 22 [b3' p1]::(ck b1 124 [u5' p0] :: [])))) t m) ?_ ?_)))))
 ·refine Zd<|Z07 (fun n1 t m=>∃ (i1:Int) (a2:LI),Z5g p0 p1 k1 n1 i1 a2=some r/\Fit [(2,pt' b1),(3,pt' b2),(4,pt' b3),(5,pt' b4),(6,.int .i64 (i1))] (ck b4 124 [u5' a2]::(ck b3 124 [u5' (replicate 5 0)]::(ck b2 22 [b3' p1]::(ck b1 124 [u5' p0] :: [])))) t m) big ?_ ?_
  ·exact ⟨255,y1,h,⟨⟨rfl,rfl,rfl,rfl,rfl,trivial⟩,(.o (.o (.o (.o .nil))))⟩⟩
  ·rintro n1 t m ⟨i1,a2,h,hF⟩
   refine Zm hF ?_
   clear hF
   rcases n1 with _ | n1
   · exact Z1r h
   have h:Z99 p0 p1 k1 (Z5g p0 p1 k1 n1) i1 a2=some r:=h
   unfold Z99 at h
   obtain ⟨k2,q2⟩ : ∃ k,k=Z5g p0 p1 k1 n1:=⟨_,rfl⟩
   try rw [<- q2] at h
   refine Z0<|Z0<|Z1<|Z8 rfl<|Z4 _ (Zb rfl rfl rfl)<|Z2<|Z0r h rfl (fun h=>?_) (fun h=>?_)
   ·refine Zn<|Z0<|jH h fun k3 q3 h=>Zo (G:=fun t m=>∃ (a3:LI),k3 a3=some r/\Fit [(2,pt' b1),(3,pt' b2),(4,pt' b3),(5,pt' b4),(6,.int .i64 (i1))] (ck b4 124 [u5' a3]::(ck b3 124 [u5' (replicate 5 0)]::(ck b2 22 [b3' p1]::(ck b1 124 [u5' p0] :: [])))) t m) ?_ ?_
    ·refine Zd<|Z0<|oH h fun y2 f2 h=>Z1<|Z4 _ (Z00 (p:=[u5' a2]) rfl .here rfl)<|Z4 _ (Z1d rfl (Z25 f2))<|Zc (Zl (q:=[u5' y2]) rfl rfl rfl rfl rfl .here<|Z2<|Z0<|bH h fun z1 e1 h=>cH h fun c1 h=>bH h fun z2 e2 h=>bH h fun z3 e3 h=>cH h fun c2 h=>bH h fun z4 e4 h=>bH h fun z5 e5 h=>Z1<|Z8 rfl<|Z4 _ (iz e1 (Zov rfl rfl (by decide)))<|Z4 _ (Z3f rfl rfl (Z1w c1))<|Z4 _ (iz e2 (Z9f (base:=0) rfl .t2 rfl (Z1i c1)))<|Z8 rfl<|Z4 _ (iz e3 (Zk6 rfl rfl (by decide)))<|Z4 _ (iz e4 (Z8w rfl rfl (of_decide_eq_true c2)))<|Z4 _ (iz e5 (Zb rfl rfl rfl))<|Z4 _ (Zb rfl rfl rfl)<|Z2<|Z0r h rfl (fun h=>?_) (fun h=>?_))
     ·exact oH h fun y3 f3 h=>Z1<|Z4 _ (Z00 (p:=[u5' y2]) rfl .here rfl)<|Z4 _ (Z00 (p:=[u5' p0]) rfl .t3 rfl)<|Z4 _ (Z1d rfl (Z0f f3))<|Zc (Zl (q:=[u5' y3]) rfl rfl rfl rfl rfl .here<|Z2<|⟨y3,h,⟨⟨rfl,rfl,rfl,rfl,rfl,trivial⟩,(.o (.o (.o (.o .nil))))⟩⟩)
     ·exact Zn<|⟨y2,h,⟨⟨rfl,rfl,rfl,rfl,rfl,trivial⟩,(.o (.o (.o (.o .nil))))⟩⟩
    ·rintro t m ⟨a3,h,hF⟩
     refine Zm hF ?_
     clear hF
     subst q3
     refine bH h fun z6 e6 h=>Z1<|Z8 rfl<|Z4 _ (iz e6 (Zb rfl rfl rfl))<|Z8 rfl<|Z2 ?_
     rw [q2] at h
     exact ⟨n1,Nat.lt_succ_self _,z6,a3,h,⟨⟨rfl,rfl,rfl,rfl,rfl,trivial⟩,(.o (.o (.o (.o .nil))))⟩⟩
   ·exact Z0l _ rfl<|⟨a2,h,⟨⟨rfl,rfl,trivial⟩,(.o (.o (.o (.o .nil))))⟩⟩
 ·rintro t m ⟨a1,h,hF⟩
  refine Zm hF ?_
  clear hF
  subst q1
  refine Z0<|Z1<|Z4 _ (Z00 (p:=[u5' a1]) rfl .here rfl)<|Zc (Zl (q:=[u5' a1]) rfl rfl rfl rfl rfl .t1<|Z2<|Zf ?_)
  revert h; refine Z01 fun h=>?_
  subst h
  exact ⟨_,(.cons (.agg rfl .t1 rfl) .nil),rfl⟩
def Zdu (k1:(LI)->OL) (k2:Int->(LI)->OL) (i1:Int) (a1:LI):OL :=
 br ((decide (i1<32))) (
 chk (inB i1 32) <|
 bnd (Z3z a1 (i1).toNat 255) fun l1 =>
 bnd (wrap .i64 (i1+1)) fun z1 =>
 k2 z1 l1
 ) (
 k1 a1
 )
def Z8i (k1:(LI)->OL):Nat->Int->(LI)->OL
  | 0,_,_=>none
  | n+1,i1,a1=>Zdu k1 (Z8i k1 n) i1 a1
def Z7o (p0:Int) (p1:Int):OL :=
 jn (fun (a1:LI)=>bnd (Z3z a1 0 p0) fun l1 =>
 bnd (Z3z l1 31 p1) fun l2 =>
 some l2) fun k1=>Z8i k1 big 0 (replicate 32 0)
theorem Zby {W:World} {r:(LI)} {p0:Int} {p1:Int} (h:Z7o p0 p1=some r)  :
    Calls Tryz.prog 226 [.int .u8 (p0),.int .u8 (p1)].toArray W (Z3c W (agg [b3' r])):=by
 unfold Z7o at h
 refine Za mo Z0mz rfl ?_
 refine Z0<|Z1<|Zc (Zu fun b1 u1=>Z2<|Z0<|Z1<|Zc (Zu fun b2 u2=>Z2<|Z0<|Z0<|Z1<|Z8 rfl<|Z2<|jH h fun k1 q1 h=>Zo (G:=fun t m=>∃ (a1:LI),k1 a1=some r/\Fit [(0,.int .u8 (p0)),(1,.int .u8 (p1)),(4,pt' b1),(5,pt' b2)] (ck b2 22 [b3' a1]::(ck b1 22 [b3' (replicate 32 0)] :: [])) t m) ?_ ?_))
 ·refine Zd<|Z07 (fun n1 t m=>∃ (i1:Int) (a2:LI),Z8i k1 n1 i1 a2=some r/\Fit [(0,.int .u8 (p0)),(1,.int .u8 (p1)),(4,pt' b1),(5,pt' b2),(7,.int .i64 (i1))] (ck b2 22 [b3' a2]::(ck b1 22 [b3' (replicate 32 0)] :: [])) t m) big ?_ ?_
  ·exact ⟨0,(replicate 32 0),h,⟨⟨rfl,rfl,rfl,rfl,rfl,trivial⟩,(.o (.o .nil))⟩⟩
  ·rintro n1 t m ⟨i1,a2,h,hF⟩
   refine Zm hF ?_
   clear hF
   rcases n1 with _ | n1
   · exact Z1r h
   have h:Zdu k1 (Z8i k1 n1) i1 a2=some r:=h
   unfold Zdu at h
   obtain ⟨k2,q2⟩ : ∃ k,k=Z8i k1 n1:=⟨_,rfl⟩
   try rw [<- q2] at h
   refine Z0<|Z1<|Z4 _ (Zb rfl rfl rfl)<|Z2<|Z0<|Z0r h rfl (fun h=>?_) (fun h=>?_)
   ·refine Zn<|Z0<|Zd<|Z0<|Z1<|Z8 rfl<|Z8 rfl<|Z2<|cH h fun c1 h=>bH h fun l1 g1 h=>Z1<|Z8 rfl<|Z4 _ (Z3f rfl rfl (Z1w c1))<|Zc (Z5x (q:=[b3' l1]) (base:=0) g1 rfl rfl rfl (Z1i c1) rfl .here<|Z2<|bH h fun z1 e1 h=>Z1<|Z4 _ (iz e1 (Zb rfl rfl rfl))<|Z8 rfl<|Z2 ?_)
    rw [q2] at h
    exact ⟨n1,Nat.lt_succ_self _,z1,l1,h,⟨⟨rfl,rfl,rfl,rfl,rfl,trivial⟩,(.o (.o .nil))⟩⟩
   ·exact Z0l _ rfl<|⟨a2,h,⟨⟨rfl,rfl,rfl,rfl,trivial⟩,(.o (.o .nil))⟩⟩
 ·rintro t m ⟨a1,h,hF⟩
  refine Zm hF ?_
  clear hF
  subst q1
  refine Z0<|bH h fun l2 g2 h=>bH h fun l3 g3 h=>Z1<|Z8 rfl<|Z8 rfl<|Z4 _ (Z3f rfl rfl (by decide))<|Zc (Zbx (q:=[b3' l2]) (congrArg (fun z=>([b3' z]:List Seg)) g2.symm) rfl rfl rfl rfl .here<|Z4 _ (Z3f rfl rfl (by decide))<|Zc (Zbx (q:=[b3' l3]) (congrArg (fun z=>([b3' z]:List Seg)) g3.symm) rfl rfl rfl rfl .here<|Z2<|Z0<|Z1<|Z4 _ (Z00 (p:=[b3' l3]) rfl .here rfl)<|Zc (Zl (q:=[b3' l3]) rfl rfl rfl rfl rfl .t1<|Z2<|Zf ?_)))
  revert h; refine Z01 fun h=>?_
  subst h
  exact ⟨_,(.cons (.agg rfl .t1 rfl) .nil),rfl⟩
def Z96 (p0:LI):OL :=
 opt (Z7o 235 127) fun y1 =>
 opt (Zbj p0 y1) fun y2 =>
 some y2
theorem Zjy {W:World} {r:(LI)} {p0:LI} (h:Z96 p0=some r)  :
    Calls Tryz.prog 113 [agg [u5' p0]].toArray W (Z3c W (agg [u5' r])):=by
 unfold Z96 at h
 refine Za mo Z0ld rfl ?_
 refine Z0<|Z1<|Zc (Z06 (s:=[u5' p0]) rfl fun b1 u1=>Zc (Zu fun b2 u2=>Z2<|Z0<|oH h fun y1 f1 h=>oH h fun y2 f2 h=>Zv<|Z6 _ (Z1d rfl (Zby f1))<|Zh _ (Z00 (p:=[u5' p0]) rfl .t1 rfl)<|Z6 _ (Z1d rfl (Zdt f2))<|Z1q rfl (Zl (q:=[u5' y2]) rfl rfl rfl rfl rfl .here<|Zy<|Zf ?_)))
 revert h; refine Z01 fun h=>?_
 subst h
 exact ⟨_,(.cons (.agg rfl .here rfl) .nil),rfl⟩
def Zds (y1:(LI)) (k1:(LI)->OL) (k2:Int->(LI)->OL) (i1:Int) (a1:LI):OL :=
 br ((decide (i1<32))) (
 bnd (wrap .i64 (8*i1)) fun z1 =>
 bnd (wrap .i64 (Int.tdiv z1 51)) fun z2 =>
 bnd (wrap .i64 (8*i1)) fun z3 =>
 bnd (Int.tmod z3 51) fun z4 =>
 chk (inB z2 5) <|
 bnd (y1.getD (z2).toNat 0) fun z5 =>
 chk (decide (0<=z4)) <|
 bnd (Zr .u64 z5 z4) fun z6 =>
 jn (fun (i2:Int)=>bnd (wrap .u8 i2) fun z7 =>
 chk (inB i1 32) <|
 bnd (Z3z a1 (i1).toNat z7) fun l1 =>
 bnd (wrap .i64 (i1+1)) fun z8 =>
 k2 z8 l1) fun k3=>br (((decide (z4>43))&&(decide (z2<4)))) (
 bnd (wrap .i64 (z2+1)) fun z9 =>
 chk (inB z9 5) <|
 bnd (y1.getD (z9).toNat 0) fun z10 =>
 bnd (wrap .i64 (51-z4)) fun z11 =>
 chk (decide (0<=z11)) <|
 bnd (Z02 .u64 z10 z11) fun z12 =>
 bnd (Z7 .or .u64 z6 z12) fun z13 =>
 k3 z13
 ) (
 k3 z6
 )
 ) (
 k1 a1
 )
def Z6z (y1:(LI)) (k1:(LI)->OL):Nat->Int->(LI)->OL
  | 0,_,_=>none
  | n+1,i1,a1=>Zds y1 k1 (Z6z y1 k1 n) i1 a1
def Zal (p0:LI):OL :=
 opt (Z1k p0) fun y1 =>
 jn (fun (a1:LI)=>some a1) fun k1=>Z6z y1 k1 big 0 (replicate 32 0)
theorem Zfi {W:World} {r:(LI)} {p0:LI} (h:Zal p0=some r)  :
    Calls Tryz.prog 114 [agg [u5' p0]].toArray W (Z3c W (agg [b3' r])):=by
 unfold Zal at h
 refine Za mo Z0le rfl ?_
 refine Z0<|Z1<|Zc (Z06 (s:=[u5' p0]) rfl fun b1 u1=>Zc (Zu fun b2 u2=>Z2<|Z0<|oH h fun y1 f1 h=>Z1<|Z4 _ (Z00 (p:=[u5' p0]) rfl .t1 rfl)<|Z4 _ (Z1d rfl (Z0z f1))<|Zc (Zl (q:=[u5' y1]) rfl rfl rfl rfl rfl .t1<|Z2<|Z0<|Z1<|Zc (Zu fun b3 u3=>Z2<|Z0<|Z0<|Z1<|Z8 rfl<|Z2<|jH h fun k1 q1 h=>Zo (G:=fun t m=>∃ (a1:LI),k1 a1=some r/\Fit [(2,pt' b2),(3,pt' b3)] (ck b3 22 [b3' a1]::(ck b2 22 [b3' (replicate 32 0)]::(ck b1 124 [u5' y1] :: []))) t m) ?_ ?_))))
 ·refine Zd<|Z07 (fun n1 t m=>∃ (i1:Int) (a2:LI),Z6z y1 k1 n1 i1 a2=some r/\Fit [(1,pt' b1),(2,pt' b2),(3,pt' b3),(10,.int .i64 (i1))] (ck b3 22 [b3' a2]::(ck b2 22 [b3' (replicate 32 0)]::(ck b1 124 [u5' y1] :: []))) t m) big ?_ ?_
  ·exact ⟨0,(replicate 32 0),h,⟨⟨rfl,rfl,rfl,rfl,trivial⟩,(.o (.o (.o .nil)))⟩⟩
  ·rintro n1 t m ⟨i1,a2,h,hF⟩
   refine Zm hF ?_
   clear hF
   rcases n1 with _ | n1
   · exact Z1r h
   have h:Zds y1 k1 (Z6z y1 k1 n1) i1 a2=some r:=h
   unfold Zds at h
   obtain ⟨k2,q2⟩ : ∃ k,k=Z6z y1 k1 n1:=⟨_,rfl⟩
   try rw [<- q2] at h
   refine Z0<|Z1<|Z4 _ (Zb rfl rfl rfl)<|Z2<|Z0<|Z0r h rfl (fun h=>?_) (fun h=>?_)
   ·refine Zn<|Z0<|Zd<|Z0<|Z1<|Z8 rfl<|Z8 rfl<|Z2<|Z0<|bH h fun z1 e1 h=>bH h fun z2 e2 h=>bH h fun z3 e3 h=>bH h fun z4 e4 h=>Z1<|Z8 rfl<|Z4 _ (iz e1 (Zb rfl rfl rfl))<|Z4 _ (iz e2 (Zov rfl rfl (by decide)))<|Z8 rfl<|Z4 _ (iz e3 (Zb rfl rfl rfl))<|Z4 _ (iz e4 (Zk6 rfl rfl (by decide)))<|Z8 rfl<|Z8 rfl<|Z2<|Z0<|cH h fun c1 h=>bH h fun z5 e5 h=>cH h fun c2 h=>bH h fun z6 e6 h=>Z1<|Z8 rfl<|Z4 _ (Z3f rfl rfl (Z1w c1))<|Z4 _ (iz e5 (Z9f (base:=0) rfl .t2 rfl (Z1i c1)))<|Z8 rfl<|Z4 _ (iz e6 (Z8w rfl rfl (of_decide_eq_true c2)))<|Z8 rfl<|Z2<|Z0<|Z0<|Z1<|Z8 rfl<|Z4 _ (Zb rfl rfl rfl)<|Z8 rfl<|Zjm rfl rfl rfl (fun hg1=>Z27 rfl _ (Z04 rfl) (Z27 rfl _ (Zb rfl rfl rfl) (Z28))) (fun hg1=>rfl) rfl<|Z2<|jH h fun k3 q3 h=>Zo (G:=fun t m=>∃ (i2:Int),k3 i2=some r/\Fit [(1,pt' b1),(2,pt' b2),(3,pt' b3),(4,.int .i64 (i1)),(7,.int .u64 (i2)),(10,.int .i64 (i1))] (ck b3 22 [b3' a2]::(ck b2 22 [b3' (replicate 32 0)]::(ck b1 124 [u5' y1] :: []))) t m) ?_ ?_
    ·refine Z0r h rfl (fun h=>?_) (fun h=>?_)
     ·exact bH h fun z7 e7 h=>cH h fun c3 h=>bH h fun z8 e8 h=>bH h fun z9 e9 h=>cH h fun c4 h=>bH h fun z10 e10 h=>bH h fun z11 e11 h=>Z1<|Z8 rfl<|Z8 rfl<|Z4 _ (iz e7 (Zb rfl rfl rfl))<|Z4 _ (Z3f rfl rfl (Z1w c3))<|Z4 _ (iz e8 (Z9f (base:=0) rfl .t2 rfl (Z1i c3)))<|Z8 rfl<|Z4 _ (iz e9 (Zb rfl rfl rfl))<|Z4 _ (iz e10 (Zm6 rfl rfl (of_decide_eq_true c4)))<|Z4 _ (iz e11 (Zb rfl rfl rfl))<|Z8 rfl<|Z2<|⟨z11,h,⟨⟨rfl,rfl,rfl,rfl,rfl,rfl,trivial⟩,(.o (.o (.o .nil)))⟩⟩
     ·exact Zn<|⟨z6,h,⟨⟨rfl,rfl,rfl,rfl,rfl,rfl,trivial⟩,(.o (.o (.o .nil)))⟩⟩
    ·rintro t m ⟨i2,h,hF⟩
     refine Zm hF ?_
     clear hF
     subst q3
     refine bH h fun z12 e12 h=>cH h fun c5 h=>bH h fun l1 g1 h=>Z1<|Z8 rfl<|Z8 rfl<|Z4 _ (iz e12 (Z6x rfl))<|Z4 _ (Z3f rfl rfl (Z1w c5))<|Zc (Z5x (q:=[b3' l1]) (base:=0) g1 rfl rfl rfl (Z1i c5) rfl .here<|Z2<|bH h fun z13 e13 h=>Z1<|Z4 _ (iz e13 (Zb rfl rfl rfl))<|Z8 rfl<|Z2 ?_)
     rw [q2] at h
     exact ⟨n1,Nat.lt_succ_self _,z13,l1,h,⟨⟨rfl,rfl,rfl,rfl,trivial⟩,(.o (.o (.o .nil)))⟩⟩
   ·exact Z0l _ rfl<|⟨a2,h,⟨⟨rfl,rfl,trivial⟩,(.o (.o (.o .nil)))⟩⟩
 ·rintro t m ⟨a1,h,hF⟩
  refine Zm hF ?_
  clear hF
  subst q1
  refine Z0<|Z1<|Z4 _ (Z00 (p:=[b3' a1]) rfl .here rfl)<|Zc (Zl (q:=[b3' a1]) rfl rfl rfl rfl rfl .t1<|Z2<|Zf ?_)
  revert h; refine Z01 fun h=>?_
  subst h
  exact ⟨_,(.cons (.agg rfl .t1 rfl) .nil),rfl⟩
def Z8u (p0:LI):Option Bool :=
 opt (Z1k p0) fun y1 =>
 bnd (y1.getD 0 0) fun z1 =>
 bnd (Z7 .and .u64 z1 1) fun z2 =>
 some (z2==1)
theorem Zfk {W:World} {r:Bool} {p0:LI} (h:Z8u p0=some r)  :
    Calls Tryz.prog 116 [agg [u5' p0]].toArray W (Z3c W (.bool (r))):=by
 unfold Z8u at h
 refine Za mo Z0lg rfl ?_
 refine Z0<|Z1<|Zc (Z06 (s:=[u5' p0]) rfl fun b1 u1=>Z8 rfl<|Z2<|Z0<|oH h fun y1 f1 h=>bH h fun z1 e1 h=>bH h fun z2 e2 h=>Z1<|Z4 _ (Z00 (p:=[u5' p0]) rfl .here rfl)<|Z4 _ (Z1d rfl (Z0z f1))<|Z4 _ (iz e1 (Zgs (len:=5) (z:=0) rfl rfl (by decide)))<|Z4 _ (iz e2 (Zb rfl rfl rfl))<|Z4 _ (Zb rfl rfl rfl)<|Z8 rfl<|Z2<|Zf ?_)
 revert h; refine Z01 fun h=>?_
 subst h
 exact ⟨_,(.cons (.tmp rfl) .nil),rfl⟩
structure Z9 where
  gX:LI
  gY:LI
  gZ:LI
  gT:LI
def Z11:Z9:=⟨(replicate 5 0),(replicate 5 0),(replicate 5 0),(replicate 5 0)⟩
def Z5d (p0:Z9):OL :=
 opt (Z96 p0.gZ) fun y1 =>
 opt (Z0t p0.gY y1) fun y2 =>
 opt (Zal y2) fun y3 =>
 opt (Z0t p0.gX y1) fun y4 =>
 opt (Z8u y4) fun y5 =>
 jn (fun (a1:LI)=>some a1) fun k1=>br (y5) (
 bnd (y3.getD 31 0) fun z1 =>
 bnd (Z7 .or .u8 z1 128) fun z2 =>
 bnd (Z3z y3 31 z2) fun l1 =>
 k1 l1
 ) (
 k1 y3
 )
theorem Z87 {W:World} {r:(LI)} {p0:Z9} (h:Z5d p0=some r)  :
    Calls Tryz.prog 53 [agg [u5' p0.gX,u5' p0.gY,u5' p0.gZ,u5' p0.gT]].toArray W (Z3c W (agg [b3' r])):=by
 unfold Z5d at h
 refine Za mo ok53 rfl ?_
 refine Z0<|Z1<|Zc (Z06 (s:=[u5' p0.gX,u5' p0.gY,u5' p0.gZ,u5' p0.gT]) rfl fun b1 u1=>Zc (Zu fun b2 u2=>Z2<|Z0<|oH h fun y1 f1 h=>Z1<|Z4 _ (Z1v rfl)<|Z4 _ (Z00 (p:=[u5' p0.gZ]) rfl .t1 rfl)<|Z4 _ (Z1d rfl (Zjy f1))<|Zc (Zu fun b3 u3=>Zc (Zl (q:=[u5' y1]) rfl rfl rfl rfl rfl .here<|Z2<|Z0<|oH h fun y2 f2 h=>oH h fun y3 f3 h=>Z1<|Z4 _ (Z1v rfl)<|Z4 _ (Z00 (p:=[u5' p0.gY]) rfl .t2 rfl)<|Z4 _ (Z00 (p:=[u5' y1]) rfl .here rfl)<|Z4 _ (Z1d rfl (Z0f f2))<|Z4 _ (Z1d rfl (Zfi f3))<|Zc (Zu fun b4 u4=>Zc (Zl (q:=[b3' y3]) rfl rfl rfl rfl rfl .here<|Z2<|Z0<|Z0<|oH h fun y4 f4 h=>oH h fun y5 f5 h=>Z1<|Z4 _ (Z1v rfl)<|Z4 _ (Z00 (p:=[u5' p0.gX]) rfl .t3 rfl)<|Z4 _ (Z00 (p:=[u5' y1]) rfl .t1 rfl)<|Z4 _ (Z1d rfl (Z0f f4))<|Z4 _ (Z1d rfl (Zfk f5))<|Z2<|jH h fun k1 q1 h=>Zo (G:=fun t m=>∃ (a1:LI),k1 a1=some r/\Fit [(2,pt' b2),(4,pt' b4)] (ck b4 43 [b3' a1]::(ck b3 124 [u5' y1]::(ck b2 43 [b3' (replicate 32 0)]::(ck b1 126 [u5' p0.gX,u5' p0.gY,u5' p0.gZ,u5' p0.gT] :: [])))) t m) ?_ ?_))))))
 ·refine Z0r h rfl (fun h=>?_) (fun h=>?_)
  ·exact bH h fun z1 e1 h=>bH h fun z2 e2 h=>bH h fun l1 g1 h=>Z1<|Z4 _ (Z3f rfl rfl (by decide))<|Z4 _ (iz e1 (Z0p rfl .here rfl))<|Z4 _ (iz e2 (Zb rfl rfl rfl))<|Z4 _ (Z3f rfl rfl (by decide))<|Zc (Zbx (q:=[b3' l1]) (congrArg (fun z=>([b3' z]:List Seg)) g1.symm) rfl rfl rfl rfl .here<|Z2<|⟨l1,h,⟨⟨rfl,rfl,trivial⟩,(.o (.o (.o (.o .nil))))⟩⟩)
  ·exact Zn<|⟨y3,h,⟨⟨rfl,rfl,trivial⟩,(.o (.o (.o (.o .nil))))⟩⟩
 ·rintro t m ⟨a1,h,hF⟩
  refine Zm hF ?_
  clear hF
  subst q1
  refine Z0<|Z1<|Z4 _ (Z00 (p:=[b3' a1]) rfl .here rfl)<|Zc (Zl (q:=[b3' a1]) rfl rfl rfl rfl rfl .t2<|Z2<|Zf ?_)
  revert h; refine Z01 fun h=>?_
  subst h
  exact ⟨_,(.cons (.agg rfl .t2 rfl) .nil),rfl⟩
def Z93:OL :=
 bnd (([1,0,0,0,0]:LI)) fun z1 =>
 some z1
theorem Z9p {W:World} {r:(LI)} (h:Z93=some r)  :
    Calls Tryz.prog 237 [].toArray W (Z3c W (agg [u5' r])):=by
 unfold Z93 at h
 refine Za mo Z0n9 rfl ?_
 refine Z0<|Z1<|Zc (Zu fun b1 u1=>Z2<|Z0<|bH h fun z1 e1 h=>Z1<|Z4 _ (az (fun z=>agg [.ints .u64 5 z]) e1 (Zcd (.one rfl rfl rfl BdR.nil)))<|Zc (Zl (q:=[u5' z1]) rfl rfl rfl rfl rfl .here<|Z2<|Zf ?_))
 revert h; refine Z01 fun h=>?_
 subst h
 exact ⟨_,(.cons (.agg rfl .here rfl) .nil),rfl⟩
def Zai:Option (Z9) :=
 opt (Z93) fun y1 =>
 opt (Z93) fun y2 =>
 some (⟨(replicate 5 0),y1,y2,(replicate 5 0)⟩:Z9)
theorem Zcq {W:World} {r:Z9} (h:Zai=some r)  :
    Calls Tryz.prog 232 [].toArray W (Z3c W (agg [u5' r.gX,u5' r.gY,u5' r.gZ,u5' r.gT])):=by
 unfold Zai at h
 refine Za mo Z0n4 rfl ?_
 refine Z0<|Z1<|Zc (Zu fun b1 u1=>Z2<|Z0<|oH h fun y1 f1 h=>oH h fun y2 f2 h=>Z1<|Z4 _ (Z1d rfl (Z9p f1))<|Z4 _ (Z1d rfl (Z9p f2))<|Z4 _ (Zcd (q:=[u5' (replicate 5 0),u5' y1,u5' y2,u5' (replicate 5 0)]) (.agg rfl rfl rfl (.agg rfl rfl rfl BdR.nil)))<|Zc (Zl (q:=[u5' (replicate 5 0),u5' y1,u5' y2,u5' (replicate 5 0)]) rfl rfl rfl rfl rfl .here<|Z2<|Zf ?_))
 revert h; refine Z01 fun h=>?_
 subst h
 exact ⟨_,(.cons (.agg rfl .here rfl) .nil),rfl⟩
def Zge (y1:(LI)) (k1:(LI)->OL) (k2:Int->(LI)->OL) (i1:Int) (a1:LI):OL :=
 br ((decide (i1<5))) (
 chk (inB i1 5) <|
 chk (inB i1 5) <|
 bnd (a1.getD (i1).toNat 0) fun z1 =>
 bnd (y1.getD (i1).toNat 0) fun z2 =>
 bnd (wrap .u64 (z1+z2)) fun z3 =>
 chk (inB i1 5) <|
 bnd (Z3z a1 (i1).toNat z3) fun l1 =>
 bnd (wrap .i64 (i1+1)) fun z4 =>
 k2 z4 l1
 ) (
 k1 a1
 )
def Z95 (y1:(LI)) (k1:(LI)->OL):Nat->Int->(LI)->OL
  | 0,_,_=>none
  | n+1,i1,a1=>Zge y1 k1 (Z95 y1 k1 n) i1 a1
def Z2w (p0:LI) (p1:LI):OL :=
 opt (Z5n p0) fun y1 =>
 opt (Z5n p1) fun y2 =>
 jn (fun (a1:LI)=>opt (Z1k a1) fun y3 =>
 some y3) fun k1=>Z95 y2 k1 big 0 y1
theorem Z2i {W:World} {r:(LI)} {p0:LI} {p1:LI} (h:Z2w p0 p1=some r)  :
    Calls Tryz.prog 326 [agg [u5' p0],agg [u5' p1]].toArray W (Z3c W (agg [u5' r])):=by
 unfold Z2w at h
 refine Za mo Z0of rfl ?_
 refine Z0<|Z1<|Zc (Z06 (s:=[u5' p0]) rfl fun b1 u1=>Zc (Z06 (s:=[u5' p1]) rfl fun b2 u2=>Zc (Zu fun b3 u3=>Z2<|Z0<|oH h fun y1 f1 h=>oH h fun y2 f2 h=>Zv<|Zh _ (Z00 (p:=[u5' p0]) rfl .t2 rfl)<|Z6 _ (Z1d rfl (Z55 f1))<|Zh _ (Z00 (p:=[u5' p1]) rfl .t1 rfl)<|Z6 _ (Z1d rfl (Z55 f2))<|Z1q rfl (Zl (q:=[u5' y1]) rfl rfl rfl rfl rfl .t2<|Z02d rfl (Zl (q:=[u5' y2]) rfl rfl rfl rfl rfl .t1<|Zy<|Z0<|Z0<|Z1<|Z8 rfl<|Z2<|jH h fun k1 q1 h=>Zo (G:=fun t m=>∃ (a1:LI),k1 a1=some r/\Fit [(2,pt' b1),(4,pt' b3)] (ck b3 124 [u5' (replicate 5 0)]::(ck b2 124 [u5' y2]::(ck b1 124 [u5' a1] :: []))) t m) ?_ ?_)))))
 ·refine Zd<|Z07 (fun n1 t m=>∃ (i1:Int) (a2:LI),Z95 y2 k1 n1 i1 a2=some r/\Fit [(2,pt' b1),(3,pt' b2),(4,pt' b3),(10,.int .i64 (i1))] (ck b3 124 [u5' (replicate 5 0)]::(ck b2 124 [u5' y2]::(ck b1 124 [u5' a2] :: []))) t m) big ?_ ?_
  ·exact ⟨0,y1,h,⟨⟨rfl,rfl,rfl,rfl,trivial⟩,(.o (.o (.o .nil)))⟩⟩
  ·rintro n1 t m ⟨i1,a2,h,hF⟩
   refine Zm hF ?_
   clear hF
   rcases n1 with _ | n1
   · exact Z1r h
   have h:Zge y2 k1 (Z95 y2 k1 n1) i1 a2=some r:=h
   unfold Zge at h
   obtain ⟨k2,q2⟩ : ∃ k,k=Z95 y2 k1 n1:=⟨_,rfl⟩
   try rw [<- q2] at h
   refine Z0<|Z1<|Z4 _ (Zb rfl rfl rfl)<|Z2<|Z0<|Z0r h rfl (fun h=>?_) (fun h=>?_)
   ·refine Zn<|Z0<|Zd<|Z0<|Z1<|Z8 rfl<|Z8 rfl<|Z2<|cH h fun c1 h=>cH h fun c2 h=>bH h fun z1 e1 h=>bH h fun z2 e2 h=>bH h fun z3 e3 h=>cH h fun c3 h=>bH h fun l1 g1 h=>Zv<|Z6 _ (Z04 rfl)<|Z6 _ (Z3f rfl rfl (Z1w c1))<|Z6 _ (Z04 rfl)<|Z6 _ (Z3f rfl rfl (Z1w c2))<|Zh _ (iz e1 (Z9f (base:=0) rfl .t2 rfl (Z1i c1)))<|Zh _ (iz e2 (Z9f (base:=0) rfl .t1 rfl (Z1i c2)))<|Z6 _ (iz e3 (Zb rfl rfl rfl))<|Z6 _ (Z3f rfl rfl (Z1w c3))<|Z1q rfl (Z5x (q:=[u5' l1]) (base:=0) g1 rfl rfl rfl (Z1i c3) rfl .t2<|Zy<|bH h fun z4 e4 h=>Z1<|Z4 _ (iz e4 (Zb rfl rfl rfl))<|Z8 rfl<|Z2 ?_)
    rw [q2] at h
    exact ⟨n1,Nat.lt_succ_self _,z4,l1,h,⟨⟨rfl,rfl,rfl,rfl,trivial⟩,(.o (.o (.o .nil)))⟩⟩
   ·exact Z0l _ rfl<|⟨a2,h,⟨⟨rfl,rfl,trivial⟩,(.o (.o (.o .nil)))⟩⟩
 ·rintro t m ⟨a1,h,hF⟩
  refine Zm hF ?_
  clear hF
  subst q1
  refine Z0<|oH h fun y3 f3 h=>Z1<|Z4 _ (Z00 (p:=[u5' a1]) rfl .t2 rfl)<|Z4 _ (Z1d rfl (Z0z f3))<|Zc (Zl (q:=[u5' y3]) rfl rfl rfl rfl rfl .here<|Z2<|Zf ?_)
  revert h; refine Z01 fun h=>?_
  subst h
  exact ⟨_,(.cons (.agg rfl .here rfl) .nil),rfl⟩
def Zgf (y1:(LI)) (k1:(LI)->OL) (k2:Int->(LI)->OL) (i1:Int) (a1:LI):OL :=
 br ((decide (i1<5))) (
 chk (inB i1 5) <|
 bnd (y1.getD (i1).toNat 0) fun z1 =>
 bnd (wrap .u64 (4503599627370494-z1)) fun z2 =>
 chk (inB i1 5) <|
 bnd (Z3z a1 (i1).toNat z2) fun l1 =>
 bnd (wrap .i64 (i1+1)) fun z3 =>
 k2 z3 l1
 ) (
 k1 a1
 )
def Z98 (y1:(LI)) (k1:(LI)->OL):Nat->Int->(LI)->OL
  | 0,_,_=>none
  | n+1,i1,a1=>Zgf y1 k1 (Z98 y1 k1 n) i1 a1
def Z60 (p0:LI):OL :=
 opt (Z1k p0) fun y1 =>
 bnd (y1.getD 0 0) fun z1 =>
 bnd (wrap .u64 (4503599627370458-z1)) fun z2 =>
 bnd (([z2,0,0,0,0]:LI)) fun z3 =>
 jn (fun (a1:LI)=>opt (Z1k a1) fun y2 =>
 some y2) fun k1=>Z98 y1 k1 big 1 z3
theorem Z70 {W:World} {r:(LI)} {p0:LI} (h:Z60 p0=some r)  :
    Calls Tryz.prog 334 [agg [u5' p0]].toArray W (Z3c W (agg [u5' r])):=by
 unfold Z60 at h
 refine Za mo Z0on rfl ?_
 refine Z0<|Z1<|Zc (Z06 (s:=[u5' p0]) rfl fun b1 u1=>Zc (Zu fun b2 u2=>Z2<|Z0<|oH h fun y1 f1 h=>Z1<|Z4 _ (Z00 (p:=[u5' p0]) rfl .t1 rfl)<|Z4 _ (Z1d rfl (Z0z f1))<|Zc (Zl (q:=[u5' y1]) rfl rfl rfl rfl rfl .t1<|Z2<|Z0<|bH h fun z1 e1 h=>bH h fun z2 e2 h=>bH h fun z3 e3 h=>Z1<|Z4 _ (Z3f rfl rfl (by decide))<|Z4 _ (iz e1 (Z0p rfl .t1 rfl))<|Z4 _ (iz e2 (Zb rfl rfl rfl))<|Z4 _ (az (fun z=>agg [.ints .u64 5 z]) e3 (Zcd (.one rfl rfl rfl BdR.nil)))<|Zc (Zu fun b3 u3=>Zc (Zl (q:=[u5' z3]) rfl rfl rfl rfl rfl .here<|Z2<|Z0<|Z0<|Z1<|Z8 rfl<|Z2<|jH h fun k1 q1 h=>Zo (G:=fun t m=>∃ (a1:LI),k1 a1=some r/\Fit [(2,pt' b2),(3,pt' b3)] (ck b3 124 [u5' a1]::(ck b2 124 [u5' (replicate 5 0)]::(ck b1 124 [u5' y1] :: []))) t m) ?_ ?_)))))
 ·refine Zd<|Z07 (fun n1 t m=>∃ (i1:Int) (a2:LI),Z98 y1 k1 n1 i1 a2=some r/\Fit [(1,pt' b1),(2,pt' b2),(3,pt' b3),(4,.int .i64 (i1))] (ck b3 124 [u5' a2]::(ck b2 124 [u5' (replicate 5 0)]::(ck b1 124 [u5' y1] :: []))) t m) big ?_ ?_
  ·exact ⟨1,z3,h,⟨⟨rfl,rfl,rfl,rfl,trivial⟩,(.o (.o (.o .nil)))⟩⟩
  ·rintro n1 t m ⟨i1,a2,h,hF⟩
   refine Zm hF ?_
   clear hF
   rcases n1 with _ | n1
   · exact Z1r h
   have h:Zgf y1 k1 (Z98 y1 k1 n1) i1 a2=some r:=h
   unfold Zgf at h
   obtain ⟨k2,q2⟩ : ∃ k,k=Z98 y1 k1 n1:=⟨_,rfl⟩
   try rw [<- q2] at h
   refine Z0<|Z0<|Z1<|Z8 rfl<|Z4 _ (Zb rfl rfl rfl)<|Z2<|Z0r h rfl (fun h=>?_) (fun h=>?_)
   ·refine Zn<|Z0<|Zd<|cH h fun c1 h=>bH h fun z4 e4 h=>bH h fun z5 e5 h=>cH h fun c2 h=>bH h fun l1 g1 h=>Z1<|Z8 rfl<|Z8 rfl<|Z4 _ (Z3f rfl rfl (Z1w c1))<|Z4 _ (iz e4 (Z9f (base:=0) rfl .t2 rfl (Z1i c1)))<|Z4 _ (iz e5 (Zb rfl rfl rfl))<|Z4 _ (Z3f rfl rfl (Z1w c2))<|Zc (Z5x (q:=[u5' l1]) (base:=0) g1 rfl rfl rfl (Z1i c2) rfl .here<|Z2<|bH h fun z6 e6 h=>Z1<|Z8 rfl<|Z4 _ (iz e6 (Zb rfl rfl rfl))<|Z8 rfl<|Z2 ?_)
    rw [q2] at h
    exact ⟨n1,Nat.lt_succ_self _,z6,l1,h,⟨⟨rfl,rfl,rfl,rfl,trivial⟩,(.o (.o (.o .nil)))⟩⟩
   ·exact Z0l _ rfl<|⟨a2,h,⟨⟨rfl,rfl,trivial⟩,(.o (.o (.o .nil)))⟩⟩
 ·rintro t m ⟨a1,h,hF⟩
  refine Zm hF ?_
  clear hF
  subst q1
  refine Z0<|oH h fun y2 f2 h=>Z1<|Z4 _ (Z00 (p:=[u5' a1]) rfl .here rfl)<|Z4 _ (Z1d rfl (Z0z f2))<|Zc (Zl (q:=[u5' y2]) rfl rfl rfl rfl rfl .t1<|Z2<|Zf ?_)
  revert h; refine Z01 fun h=>?_
  subst h
  exact ⟨_,(.cons (.agg rfl .t1 rfl) .nil),rfl⟩
def Z5h (p0:LI) (p1:LI):OL :=
 opt (Z60 p1) fun y1 =>
 opt (Z2w p0 y1) fun y2 =>
 some y2
theorem Z5m {W:World} {r:(LI)} {p0:LI} {p1:LI} (h:Z5h p0 p1=some r)  :
    Calls Tryz.prog 327 [agg [u5' p0],agg [u5' p1]].toArray W (Z3c W (agg [u5' r])):=by
 unfold Z5h at h
 refine Za mo Z0og rfl ?_
 refine Z0<|Z1<|Zc (Z06 (s:=[u5' p0]) rfl fun b1 u1=>Zc (Z06 (s:=[u5' p1]) rfl fun b2 u2=>Zc (Zu fun b3 u3=>Z2<|Z0<|oH h fun y1 f1 h=>oH h fun y2 f2 h=>Zv<|Zh _ (Z00 (p:=[u5' p0]) rfl .t2 rfl)<|Zh _ (Z00 (p:=[u5' p1]) rfl .t1 rfl)<|Z6 _ (Z1d rfl (Z70 f1))<|Z6 _ (Z1d rfl (Z2i f2))<|Z1q rfl (Zl (q:=[u5' y2]) rfl rfl rfl rfl rfl .here<|Zy<|Zf ?_))))
 revert h; refine Z01 fun h=>?_
 subst h
 exact ⟨_,(.cons (.agg rfl .here rfl) .nil),rfl⟩
def Z92 (p0:LI) (p1:LI) (p2:LI) (p3:LI):Option (Z9) :=
 opt (Z0t p0 p1) fun y1 =>
 opt (Z0t p2 p3) fun y2 =>
 opt (Z0t p1 p2) fun y3 =>
 opt (Z0t p0 p3) fun y4 =>
 some (⟨y1,y2,y3,y4⟩:Z9)
theorem Zec {W:World} {r:Z9} {p0:LI} {p1:LI} {p2:LI} {p3:LI} (h:Z92 p0 p1 p2 p3=some r)  :
    Calls Tryz.prog 328 [agg [u5' p0],agg [u5' p1],agg [u5' p2],agg [u5' p3]].toArray W (Z3c W (agg [u5' r.gX,u5' r.gY,u5' r.gZ,u5' r.gT])):=by
 unfold Z92 at h
 refine Za mo Z0oh rfl ?_
 refine Z0<|Z1<|Zc (Z06 (s:=[u5' p0]) rfl fun b1 u1=>Zc (Z06 (s:=[u5' p1]) rfl fun b2 u2=>Zc (Z06 (s:=[u5' p2]) rfl fun b3 u3=>Zc (Z06 (s:=[u5' p3]) rfl fun b4 u4=>Zc (Zu fun b5 u5=>Z2<|Z0<|oH h fun y1 f1 h=>oH h fun y2 f2 h=>oH h fun y3 f3 h=>oH h fun y4 f4 h=>Zv<|Zh _ (Z00 (p:=[u5' p0]) rfl .t4 rfl)<|Zh _ (Z00 (p:=[u5' p1]) rfl .t3 rfl)<|Z6 _ (Z1d rfl (Z0f f1))<|Zh _ (Z00 (p:=[u5' p2]) rfl .t2 rfl)<|Zh _ (Z00 (p:=[u5' p3]) rfl .t1 rfl)<|Z6 _ (Z1d rfl (Z0f f2))<|Zh _ (Z00 (p:=[u5' p1]) rfl .t3 rfl)<|Zh _ (Z00 (p:=[u5' p2]) rfl .t2 rfl)<|Z6 _ (Z1d rfl (Z0f f3))<|Zh _ (Z00 (p:=[u5' p0]) rfl .t4 rfl)<|Zh _ (Z00 (p:=[u5' p3]) rfl .t1 rfl)<|Z6 _ (Z1d rfl (Z0f f4))<|Z6 _ (Zcd (q:=[u5' y1,u5' y2,u5' y3,u5' y4]) (.agg rfl rfl rfl (.agg rfl rfl rfl (.agg rfl rfl rfl (.agg rfl rfl rfl BdR.nil)))))<|Z1q rfl (Zl (q:=[u5' y1,u5' y2,u5' y3,u5' y4]) rfl rfl rfl rfl rfl .here<|Zy<|Zf ?_))))))
 revert h; refine Z01 fun h=>?_
 subst h
 exact ⟨_,(.cons (.agg rfl .here rfl) .nil),rfl⟩
def Z9o:OL :=
 bnd (([1859910466990425,932731440258426,1072319116312658,1815898335770999,633789495995903]:LI)) fun z1 =>
 some z1
theorem Zix {W:World} {r:(LI)} (h:Z9o=some r)  :
    Calls Tryz.prog 329 [].toArray W (Z3c W (agg [u5' r])):=by
 unfold Z9o at h
 refine Za mo Z0oi rfl ?_
 refine Z0<|Z1<|Zc (Zu fun b1 u1=>Z2<|Z0<|bH h fun z1 e1 h=>Z1<|Z4 _ (az (fun z=>agg [.ints .u64 5 z]) e1 (Zcd (.one rfl rfl rfl (.one rfl rfl rfl (.one rfl rfl rfl (.one rfl rfl rfl (.one rfl rfl rfl BdR.nil)))))))<|Zc (Zl (q:=[u5' z1]) rfl rfl rfl rfl rfl .here<|Z2<|Zf ?_))
 revert h; refine Z01 fun h=>?_
 subst h
 exact ⟨_,(.cons (.agg rfl .here rfl) .nil),rfl⟩
def Z9l (p0:Z9) (p1:Z9):Option (Z9) :=
 opt (Z5h p0.gY p0.gX) fun y1 =>
 opt (Z5h p1.gY p1.gX) fun y2 =>
 opt (Z0t y1 y2) fun y3 =>
 opt (Z2w p0.gY p0.gX) fun y4 =>
 opt (Z2w p1.gY p1.gX) fun y5 =>
 opt (Z0t y4 y5) fun y6 =>
 opt (Z9o) fun y7 =>
 opt (Z0t p0.gT y7) fun y8 =>
 opt (Z0t y8 p1.gT) fun y9 =>
 opt (Z2w p0.gZ p0.gZ) fun y10 =>
 opt (Z0t y10 p1.gZ) fun y11 =>
 opt (Z5h y6 y3) fun y12 =>
 opt (Z5h y11 y9) fun y13 =>
 opt (Z2w y11 y9) fun y14 =>
 opt (Z2w y6 y3) fun y15 =>
 opt (Z92 y12 y13 y14 y15) fun y16 =>
 some y16
theorem Zb6 {W:World} {r:Z9} {p0:Z9} {p1:Z9} (h:Z9l p0 p1=some r)  :
    Calls Tryz.prog 234 [agg [u5' p0.gX,u5' p0.gY,u5' p0.gZ,u5' p0.gT],agg [u5' p1.gX,u5' p1.gY,u5' p1.gZ,u5' p1.gT]].toArray W (Z3c W (agg [u5' r.gX,u5' r.gY,u5' r.gZ,u5' r.gT])):=by
 unfold Z9l at h
 refine Za mo Z0n6 rfl ?_
 refine Z0<|Z1<|Zc (Z06 (s:=[u5' p0.gX,u5' p0.gY,u5' p0.gZ,u5' p0.gT]) rfl fun b1 u1=>Zc (Z06 (s:=[u5' p1.gX,u5' p1.gY,u5' p1.gZ,u5' p1.gT]) rfl fun b2 u2=>Zc (Zu fun b3 u3=>Z2<|Z0<|oH h fun y1 f1 h=>oH h fun y2 f2 h=>oH h fun y3 f3 h=>Zv<|Z6 _ (Z1v rfl)<|Z6 _ (Z1v rfl)<|Z6 _ (Z1v rfl)<|Z6 _ (Z1v rfl)<|Zh _ (Z00 (p:=[u5' p0.gY]) rfl .t2 rfl)<|Zh _ (Z00 (p:=[u5' p0.gX]) rfl .t2 rfl)<|Z6 _ (Z1d rfl (Z5m f1))<|Zh _ (Z00 (p:=[u5' p1.gY]) rfl .t1 rfl)<|Zh _ (Z00 (p:=[u5' p1.gX]) rfl .t1 rfl)<|Z6 _ (Z1d rfl (Z5m f2))<|Z6 _ (Z1d rfl (Z0f f3))<|Z2u (Zu fun b4 u4=>⟨(by repeat (first | exact Sup.refl _ | apply Sup.cons | apply Sup.app)),Z1q rfl (Zl (q:=[u5' y3]) rfl rfl rfl rfl rfl .here (Zy (Z0 (oH h fun y4 f4 h=>oH h fun y5 f5 h=>oH h fun y6 f6 h=>Zv (Z6 _ (Z1v rfl) (Z6 _ (Z1v rfl) (Z6 _ (Z1v rfl) (Z6 _ (Z1v rfl) (Zh _ (Z00 (p:=[u5' p0.gY]) rfl .t3 rfl) (Zh _ (Z00 (p:=[u5' p0.gX]) rfl .t3 rfl) (Z6 _ (Z1d rfl (Z2i f4)) (Zh _ (Z00 (p:=[u5' p1.gY]) rfl .t2 rfl) (Zh _ (Z00 (p:=[u5' p1.gX]) rfl .t2 rfl) (Z6 _ (Z1d rfl (Z2i f5)) (Z6 _ (Z1d rfl (Z0f f6)) (Z2u (Zu fun b5 u5=>⟨(by repeat (first | exact Sup.refl _ | apply Sup.cons | apply Sup.app)),Z1q rfl (Zl (q:=[u5' y6]) rfl rfl rfl rfl rfl .here (Zy (Z0 (oH h fun y7 f7 h=>Z1 (Z4 _ (Z1d rfl (Zix f7)) (Zc (Zu fun b6 u6=>Zc (Zl (q:=[u5' y7]) rfl rfl rfl rfl rfl .here (Z2 (Z0 (oH h fun y8 f8 h=>oH h fun y9 f9 h=>Zv (Z6 _ (Z1v rfl) (Z6 _ (Z1v rfl) (Zh _ (Z00 (p:=[u5' p0.gT]) rfl .t5 rfl) (Zh _ (Z00 (p:=[u5' y7]) rfl .here rfl) (Z6 _ (Z1d rfl (Z0f f8)) (Zh _ (Z00 (p:=[u5' p1.gT]) rfl .t4 rfl) (Z6 _ (Z1d rfl (Z0f f9)) (Z2u (Zu fun b7 u7=>⟨(by repeat (first | exact Sup.refl _ | apply Sup.cons | apply Sup.app)),Z1q rfl (Zl (q:=[u5' y9]) rfl rfl rfl rfl rfl .here (Zy (Z0 (oH h fun y10 f10 h=>oH h fun y11 f11 h=>Zv (Z6 _ (Z1v rfl) (Z6 _ (Z1v rfl) (Z6 _ (Z1v rfl) (Zh _ (Z00 (p:=[u5' p0.gZ]) rfl .t6 rfl) (Zh _ (Z00 (p:=[u5' p0.gZ]) rfl .t6 rfl) (Z6 _ (Z1d rfl (Z2i f10)) (Zh _ (Z00 (p:=[u5' p1.gZ]) rfl .t5 rfl) (Z6 _ (Z1d rfl (Z0f f11)) (Z2u (Zu fun b8 u8=>⟨(by repeat (first | exact Sup.refl _ | apply Sup.cons | apply Sup.app)),Z1q rfl (Zl (q:=[u5' y11]) rfl rfl rfl rfl rfl .here (Zy (Z0 (oH h fun y12 f12 h=>oH h fun y13 f13 h=>oH h fun y14 f14 h=>oH h fun y15 f15 h=>oH h fun y16 f16 h=>Zv (Zh _ (Z00 (p:=[u5' y6]) rfl .t3 rfl) (Zh _ (Z00 (p:=[u5' y3]) rfl .t4 rfl) (Z6 _ (Z1d rfl (Z5m f12)) (Zh _ (Z00 (p:=[u5' y11]) rfl .here rfl) (Zh _ (Z00 (p:=[u5' y9]) rfl .t1 rfl) (Z6 _ (Z1d rfl (Z5m f13)) (Zh _ (Z00 (p:=[u5' y11]) rfl .here rfl) (Zh _ (Z00 (p:=[u5' y9]) rfl .t1 rfl) (Z6 _ (Z1d rfl (Z2i f14)) (Zh _ (Z00 (p:=[u5' y6]) rfl .t3 rfl) (Zh _ (Z00 (p:=[u5' y3]) rfl .t4 rfl) (Z6 _ (Z1d rfl (Z2i f15)) (Z6 _ (Z1d rfl (Zec f16)) (Z1q rfl (Zl (q:=[u5' y16.gX,u5' y16.gY,u5' y16.gZ,u5' y16.gT]) rfl rfl rfl rfl rfl .t5 (Zy (Zf ?_)))))))))))))))))))))⟩))))))))))))))⟩))))))))))))))))))))⟩)))))))))))))))))⟩))))
 revert h; refine Z01 fun h=>?_
 subst h
 exact ⟨_,(.cons (.agg rfl .t5 rfl) .nil),rfl⟩
abbrev Zi:El (Z9):=⟨20,fun x=>cells [u5' x.gX,u5' x.gY,u5' x.gZ,u5' x.gT],fun x=>by rw [cells_length]; rfl,fun x=>(Z0y Z9x (Z0y Z9x (Z0y Z9x (Z0y Z9x Z52)))),by decide,Z11⟩
def Z41 (p0:Z9) (k1:(List (Z9))->Option ((List (Z9)))) (k2:Int->(List (Z9))->Option ((List (Z9)))) (i1:Int) (a1:List (Z9)):Option ((List (Z9))) :=
 br ((decide (i1<15))) (
 bnd (wrap .i64 (i1+1)) fun z1 =>
 chk (inB i1 16) <|
 bnd (a1.getD (i1).toNat Z11) fun x1 =>
 opt (Z9l x1 p0) fun y1 =>
 chk (inB z1 16) <|
 bnd (Zji Z11 a1 (z1).toNat y1) fun l1 =>
 bnd (wrap .i64 (i1+1)) fun z2 =>
 k2 z2 l1
 ) (
 k1 a1
 )
def Z2c (p0:Z9) (k1:(List (Z9))->Option ((List (Z9)))):Nat->Int->(List (Z9))->Option ((List (Z9)))
  | 0,_,_=>none
  | n+1,i1,a1=>Z41 p0 k1 (Z2c p0 k1 n) i1 a1
def Z4q (p0:Z9):Option ((List (Z9))) :=
 opt (Zai) fun y1 =>
 bnd (Zji Z11 (replicate 16 Z11) 0 y1) fun l1 =>
 jn (fun (a1:List (Z9))=>some a1) fun k1=>Z2c p0 k1 big 0 l1
theorem Z8d {W:World} {r:(List (Z9))} {p0:Z9} (h:Z4q p0=some r)  :
    Calls Tryz.prog 231 [agg [u5' p0.gX,u5' p0.gY,u5' p0.gZ,u5' p0.gT]].toArray W (Z3c W (agg [.rows 20 16 (Zaa Zi (r))])):=by
 unfold Z4q at h
 refine Za mo Z0n3 rfl ?_
 refine Z0<|Z1<|Zc (Z06 (s:=[u5' p0.gX,u5' p0.gY,u5' p0.gZ,u5' p0.gT]) rfl fun b1 u1=>Zc (Zkj (z':=[.rows 20 16 (Zaa Zi ((replicate 16 Z11)))]) (Zde (E:=Zi) rfl rfl) fun b2 u2=>Z2<|Z0<|Z1<|Zc (Zkj (z':=[.rows 20 16 (Zaa Zi ((replicate 16 Z11)))]) (Zde (E:=Zi) rfl rfl) fun b3 u3=>Z2<|Z0<|oH h fun y1 f1 h=>bH h fun l1 g1 h=>Z1<|Z4 _ (Z0a (vs:=[]) (v:=agg [u5' y1.gX,u5' y1.gY,u5' y1.gZ,u5' y1.gT]) rfl (fun w hw=>Zcq (r:=y1) f1 ))<|Z4 _ (Z3f rfl rfl (by decide))<|Zc (Zrn (q:=[.rows 20 16 (Zaa Zi (l1))]) (E:=Zi) (base:=0) (i:=0) (len:=16) g1 rfl rfl rfl rfl (by decide) rfl .here<|Z2<|Z0<|Z0<|Z1<|Z8 rfl<|Z2<|jH h fun k1 q1 h=>Zo (G:=fun t m=>∃ (a1:List (Z9)),k1 a1=some r/\Fit [(2,pt' b2),(3,pt' b3)] (ck b3 351 [.rows 20 16 (Zaa Zi (a1))]::(ck b2 351 [.rows 20 16 (Zaa Zi ((replicate 16 Z11)))]::(ck b1 126 [u5' p0.gX,u5' p0.gY,u5' p0.gZ,u5' p0.gT] :: []))) t m) ?_ ?_))))
 ·refine Zd<|Z07 (fun n1 t m=>∃ (i1:Int) (a2:List (Z9)),Z2c p0 k1 n1 i1 a2=some r/\Fit [(1,pt' b1),(2,pt' b2),(3,pt' b3),(7,.int .i64 (i1))] (ck b3 351 [.rows 20 16 (Zaa Zi (a2))]::(ck b2 351 [.rows 20 16 (Zaa Zi ((replicate 16 Z11)))]::(ck b1 126 [u5' p0.gX,u5' p0.gY,u5' p0.gZ,u5' p0.gT] :: []))) t m) big ?_ ?_
  ·exact ⟨0,l1,h,⟨⟨rfl,rfl,rfl,rfl,trivial⟩,(.o (.o (.o .nil)))⟩⟩
  ·rintro n1 t m ⟨i1,a2,h,hF⟩
   refine Zm hF ?_
   clear hF
   rcases n1 with _ | n1
   · exact Z1r h
   have h:Z41 p0 k1 (Z2c p0 k1 n1) i1 a2=some r:=h
   unfold Z41 at h
   obtain ⟨k2,q2⟩ : ∃ k,k=Z2c p0 k1 n1:=⟨_,rfl⟩
   try rw [<- q2] at h
   refine Z0<|Z1<|Z4 _ (Zb rfl rfl rfl)<|Z2<|Z0<|Z0r h rfl (fun h=>?_) (fun h=>?_)
   ·refine Zn<|Z0<|Zd<|Z0<|Z1<|Z8 rfl<|Z8 rfl<|Z2<|bH h fun z1 e1 h=>cH h fun c1 h=>bH h fun x1 j1 h=>oH h fun y2 f2 h=>cH h fun c2 h=>bH h fun l2 g2 h=>Zv<|Z6 _ (Z04 rfl)<|Z6 _ (iz e1 (Zb rfl rfl rfl))<|Z6 _ (Z04 rfl)<|Z6 _ (Z3f rfl rfl (Z1w c1))<|Zh _ (az (fun x1=>agg [u5' x1.gX,u5' x1.gY,u5' x1.gZ,u5' x1.gT]) j1 (Zqg (base:=0) (w:=20) rfl .here rfl (Z1i c1) rfl rfl rfl))<|Zh _ (Z00 (p:=[u5' p0.gX,u5' p0.gY,u5' p0.gZ,u5' p0.gT]) rfl .t2 rfl)<|Z6 _ (Z0a (vs:=[agg [u5' x1.gX,u5' x1.gY,u5' x1.gZ,u5' x1.gT],agg [u5' p0.gX,u5' p0.gY,u5' p0.gZ,u5' p0.gT]]) (v:=agg [u5' y2.gX,u5' y2.gY,u5' y2.gZ,u5' y2.gT]) rfl (fun w hw=>Zb6 (r:=y2) (p0:=x1) (p1:=p0) f2 ))<|Z6 _ (Z3f rfl rfl (Z1w c2))<|Z1q rfl (Zrn (q:=[.rows 20 16 (Zaa Zi (l2))]) (E:=Zi) (base:=0) g2 rfl rfl rfl rfl (Z1i c2) rfl .here<|Zy<|bH h fun z2 e2 h=>Z1<|Z4 _ (iz e2 (Zb rfl rfl rfl))<|Z8 rfl<|Z2 ?_)
    rw [q2] at h
    exact ⟨n1,Nat.lt_succ_self _,z2,l2,h,⟨⟨rfl,rfl,rfl,rfl,trivial⟩,(.o (.o (.o .nil)))⟩⟩
   ·exact Z0l _ rfl<|⟨a2,h,⟨⟨rfl,rfl,trivial⟩,(.o (.o (.o .nil)))⟩⟩
 ·rintro t m ⟨a1,h,hF⟩
  refine Zm hF ?_
  clear hF
  subst q1
  refine Z0<|Z1<|Z4 _ (Z00 (p:=[.rows 20 16 (Zaa Zi (a1))]) rfl .here (by kernel_rfl))<|Zc (Zdg (p:=[.rows 20 16 (Zaa Zi (a1))]) (q:=[.rows 20 16 (Zaa Zi (a1))]) rfl rfl (by kernel_rfl) (by kernel_rfl) (Z0y (Zek (E:=Zi)) Z52) .t1<|Z2<|Zf ?_)
  revert h; refine Z01 fun h=>?_
  subst h
  exact ⟨_,(.cons (.agg rfl .t1 rfl) .nil),rfl⟩
def Z7j (p0:Z9):Option (Z9) :=
 opt (Z1j p0.gX) fun y1 =>
 opt (Z1j p0.gY) fun y2 =>
 opt (Z1j p0.gZ) fun y3 =>
 opt (Z2w y1 y2) fun y4 =>
 opt (Z2w p0.gX p0.gY) fun y5 =>
 opt (Z1j y5) fun y6 =>
 opt (Z5h y4 y6) fun y7 =>
 opt (Z5h y1 y2) fun y8 =>
 opt (Z2w y3 y3) fun y9 =>
 opt (Z2w y9 y8) fun y10 =>
 opt (Z92 y7 y10 y8 y4) fun y11 =>
 some y11
theorem Zea {W:World} {r:Z9} {p0:Z9} (h:Z7j p0=some r)  :
    Calls Tryz.prog 233 [agg [u5' p0.gX,u5' p0.gY,u5' p0.gZ,u5' p0.gT]].toArray W (Z3c W (agg [u5' r.gX,u5' r.gY,u5' r.gZ,u5' r.gT])):=by
 unfold Z7j at h
 refine Za mo Z0n5 rfl ?_
 refine Z0<|Z1<|Zc (Z06 (s:=[u5' p0.gX,u5' p0.gY,u5' p0.gZ,u5' p0.gT]) rfl fun b1 u1=>Zc (Zu fun b2 u2=>Z2<|Z0<|oH h fun y1 f1 h=>Z1<|Z4 _ (Z1v rfl)<|Z4 _ (Z00 (p:=[u5' p0.gX]) rfl .t1 rfl)<|Z4 _ (Z1d rfl (Z25 f1))<|Zc (Zu fun b3 u3=>Zc (Zl (q:=[u5' y1]) rfl rfl rfl rfl rfl .here<|Z2<|Z0<|oH h fun y2 f2 h=>Z1<|Z4 _ (Z1v rfl)<|Z4 _ (Z00 (p:=[u5' p0.gY]) rfl .t2 rfl)<|Z4 _ (Z1d rfl (Z25 f2))<|Zc (Zu fun b4 u4=>Zc (Zl (q:=[u5' y2]) rfl rfl rfl rfl rfl .here<|Z2<|Z0<|oH h fun y3 f3 h=>Z1<|Z4 _ (Z1v rfl)<|Z4 _ (Z00 (p:=[u5' p0.gZ]) rfl .t3 rfl)<|Z4 _ (Z1d rfl (Z25 f3))<|Zc (Zu fun b5 u5=>Zc (Zl (q:=[u5' y3]) rfl rfl rfl rfl rfl .here<|Z2<|Z0<|oH h fun y4 f4 h=>Z1<|Z4 _ (Z00 (p:=[u5' y1]) rfl .t2 rfl)<|Z4 _ (Z00 (p:=[u5' y2]) rfl .t1 rfl)<|Z4 _ (Z1d rfl (Z2i f4))<|Zc (Zu fun b6 u6=>Zc (Zl (q:=[u5' y4]) rfl rfl rfl rfl rfl .here<|Z2<|Z0<|oH h fun y5 f5 h=>oH h fun y6 f6 h=>oH h fun y7 f7 h=>Zv<|Z6 _ (Z1v rfl)<|Z6 _ (Z1v rfl)<|Zh _ (Z00 (p:=[u5' y4]) rfl .here rfl)<|Zh _ (Z00 (p:=[u5' p0.gX]) rfl .t5 rfl)<|Zh _ (Z00 (p:=[u5' p0.gY]) rfl .t5 rfl)<|Z6 _ (Z1d rfl (Z2i f5))<|Z6 _ (Z1d rfl (Z25 f6))<|Z6 _ (Z1d rfl (Z5m f7))<|Z2u (Zu fun b7 u7=>⟨(by repeat (first | exact Sup.refl _ | apply Sup.cons | apply Sup.app)),Z1q rfl (Zl (q:=[u5' y7]) rfl rfl rfl rfl rfl .here (Zy (Z0 (oH h fun y8 f8 h=>Z1 (Z4 _ (Z00 (p:=[u5' y1]) rfl .t4 rfl) (Z4 _ (Z00 (p:=[u5' y2]) rfl .t3 rfl) (Z4 _ (Z1d rfl (Z5m f8)) (Zc (Zu fun b8 u8=>Zc (Zl (q:=[u5' y8]) rfl rfl rfl rfl rfl .here (Z2 (Z0 (oH h fun y9 f9 h=>oH h fun y10 f10 h=>Zv (Zh _ (Z00 (p:=[u5' y3]) rfl .t3 rfl) (Zh _ (Z00 (p:=[u5' y3]) rfl .t3 rfl) (Z6 _ (Z1d rfl (Z2i f9)) (Zh _ (Z00 (p:=[u5' y8]) rfl .here rfl) (Z6 _ (Z1d rfl (Z2i f10)) (Z2u (Zu fun b9 u9=>⟨(by repeat (first | exact Sup.refl _ | apply Sup.cons | apply Sup.app)),Z1q rfl (Zl (q:=[u5' y10]) rfl rfl rfl rfl rfl .here (Zy (Z0 (oH h fun y11 f11 h=>Z1 (Z4 _ (Z00 (p:=[u5' y7]) rfl .t2 rfl) (Z4 _ (Z00 (p:=[u5' y10]) rfl .here rfl) (Z4 _ (Z00 (p:=[u5' y8]) rfl .t1 rfl) (Z4 _ (Z00 (p:=[u5' y4]) rfl .t3 rfl) (Z4 _ (Z1d rfl (Zec f11)) (Zc (Zl (q:=[u5' y11.gX,u5' y11.gY,u5' y11.gZ,u5' y11.gT]) rfl rfl rfl rfl rfl .t7 (Z2 (Zf ?_)))))))))))))⟩))))))))))))))))))))⟩)))))))))))
 revert h; refine Z01 fun h=>?_
 subst h
 exact ⟨_,(.cons (.agg rfl .t7 rfl) .nil),rfl⟩
def Z7k (p0:LI) (p1:Int):Option Int :=
 bnd (wrap .i64 (Int.tdiv p1 2)) fun z1 =>
 bnd (wrap .i64 (31-z1)) fun z2 =>
 chk (inB z2 32) <|
 bnd (p0.getD (z2).toNat 0) fun z3 =>
 bnd (Int.tmod p1 2) fun z4 =>
 bnd (wrap .i64 (1-z4)) fun z5 =>
 bnd (wrap .i64 (4*z5)) fun z6 =>
 chk (decide (0<=z6)) <|
 bnd (Zr .u8 z3 z6) fun z7 =>
 bnd (Z7 .and .u8 z7 15) fun z8 =>
 some z8
theorem Zaj {W:World} {r:Int} {p0:LI} {p1:Int} (h:Z7k p0 p1=some r)  :
    Calls Tryz.prog 235 [agg [b3' p0],.int .i64 (p1)].toArray W (Z3c W (.int .u8 (r))):=by
 unfold Z7k at h
 refine Za mo Z0n7 rfl ?_
 refine Z0<|Z1<|Zc (Z06 (s:=[b3' p0]) rfl fun b1 u1=>Z8 rfl<|Z2<|Z0<|bH h fun z1 e1 h=>bH h fun z2 e2 h=>cH h fun c1 h=>bH h fun z3 e3 h=>bH h fun z4 e4 h=>bH h fun z5 e5 h=>bH h fun z6 e6 h=>cH h fun c2 h=>bH h fun z7 e7 h=>bH h fun z8 e8 h=>Z1<|Z8 rfl<|Z4 _ (iz e1 (Zov rfl rfl (by decide)))<|Z4 _ (iz e2 (Zb rfl rfl rfl))<|Z4 _ (Z3f rfl rfl (Z1w c1))<|Z4 _ (iz e3 (Z9f (base:=0) rfl .here rfl (Z1i c1)))<|Z8 rfl<|Z4 _ (iz e4 (Zk6 rfl rfl (by decide)))<|Z4 _ (iz e5 (Zb rfl rfl rfl))<|Z4 _ (iz e6 (Zb rfl rfl rfl))<|Z4 _ (iz e7 (Z8w rfl rfl (of_decide_eq_true c2)))<|Z4 _ (iz e8 (Zb rfl rfl rfl))<|Z8 rfl<|Z2<|Zf ?_)
 revert h; refine Z01 fun h=>?_
 subst h
 exact ⟨_,(.cons (.tmp rfl) .nil),rfl⟩
def Zbg (k1:(LI)->(LI)->(LI)->(LI)->Option (Z9)) (k2:Int->(LI)->(LI)->(LI)->(LI)->Option (Z9)) (i1:Int) (a1:LI) (a2:LI) (a3:LI) (a4:LI):Option (Z9) :=
 br ((decide (i1<4))) (
 opt (Z7j (⟨a1,a2,a3,a4⟩:Z9)) fun y1 =>
 bnd (wrap .i64 (i1+1)) fun z1 =>
 k2 z1 y1.gX y1.gY y1.gZ y1.gT
 ) (
 k1 a1 a2 a3 a4
 )
def Z4k (k1:(LI)->(LI)->(LI)->(LI)->Option (Z9)):Nat->Int->(LI)->(LI)->(LI)->(LI)->Option (Z9)
  | 0,_,_,_,_,_=>none
  | n+1,i1,a1,a2,a3,a4=>Zbg k1 (Z4k k1 n) i1 a1 a2 a3 a4
def Zbf (p0:LI) (y1:(List (Z9))) (k1:(LI)->(LI)->(LI)->(LI)->Option (Z9)) (k2:Int->(LI)->(LI)->(LI)->(LI)->Option (Z9)) (i1:Int) (a1:LI) (a2:LI) (a3:LI) (a4:LI):Option (Z9) :=
 br ((decide (i1<64))) (
 jn (fun (a5:LI) (a6:LI) (a7:LI) (a8:LI)=>opt (Z7k p0 i1) fun y2 =>
 chk (inB y2 16) <|
 bnd (y1.getD (y2).toNat Z11) fun x1 =>
 opt (Z9l (⟨a5,a6,a7,a8⟩:Z9) x1) fun y3 =>
 bnd (wrap .i64 (i1+1)) fun z1 =>
 k2 z1 y3.gX y3.gY y3.gZ y3.gT) fun k3=>Z4k k3 big 0 a1 a2 a3 a4
 ) (
 k1 a1 a2 a3 a4
 )
def Z6e (p0:LI) (y1:(List (Z9))) (k1:(LI)->(LI)->(LI)->(LI)->Option (Z9)):Nat->Int->(LI)->(LI)->(LI)->(LI)->Option (Z9)
  | 0,_,_,_,_,_=>none
  | n+1,i1,a1,a2,a3,a4=>Zbf p0 y1 k1 (Z6e p0 y1 k1 n) i1 a1 a2 a3 a4
def Zgb (p0:LI) (p1:Z9):Option (Z9) :=
 opt (Z4q p1) fun y1 =>
 opt (Zai) fun y2 =>
 jn (fun (a1:LI) (a2:LI) (a3:LI) (a4:LI)=>some (⟨a1,a2,a3,a4⟩:Z9)) fun k1=>Z6e p0 y1 k1 big 0 y2.gX y2.gY y2.gZ y2.gT
theorem Zmx {W:World} {r:Z9} {p0:LI} {p1:Z9} (h:Zgb p0 p1=some r)  :
    Calls Tryz.prog 117 [agg [b3' p0],agg [u5' p1.gX,u5' p1.gY,u5' p1.gZ,u5' p1.gT]].toArray W (Z3c W (agg [u5' r.gX,u5' r.gY,u5' r.gZ,u5' r.gT])):=by
 unfold Zgb at h
 refine Za mo Z0lh rfl ?_
 refine Z0<|Z1<|Zc (Z06 (s:=[b3' p0]) rfl fun b1 u1=>Zc (Z06 (s:=[u5' p1.gX,u5' p1.gY,u5' p1.gZ,u5' p1.gT]) rfl fun b2 u2=>Zc (Zu fun b3 u3=>Z2<|Z0<|oH h fun y1 f1 h=>Z1<|Z4 _ (Z00 (p:=[u5' p1.gX,u5' p1.gY,u5' p1.gZ,u5' p1.gT]) rfl .t1 rfl)<|Z4 _ (Z1d rfl (Z8d f1))<|Zc (Zkj (z':=[.rows 20 16 (Zaa Zi ((replicate 16 Z11)))]) (Zde (E:=Zi) rfl rfl) fun b4 u4=>Zc (Zdg (p:=[.rows 20 16 (Zaa Zi (y1))]) (q:=[.rows 20 16 (Zaa Zi (y1))]) rfl rfl (by kernel_rfl) (by kernel_rfl) (Z0y (Zek (E:=Zi)) Z52) .here<|Z2<|Z0<|oH h fun y2 f2 h=>Z1<|Z4 _ (Z0a (vs:=[]) (v:=agg [u5' y2.gX,u5' y2.gY,u5' y2.gZ,u5' y2.gT]) rfl (fun w hw=>Zcq (r:=y2) f2 ))<|Zc (Zu fun b5 u5=>Zc (Zl (q:=[u5' y2.gX,u5' y2.gY,u5' y2.gZ,u5' y2.gT]) rfl rfl rfl rfl rfl .here<|Z2<|Z0<|Z0<|Z1<|Z8 rfl<|Z2<|jH h fun k1 q1 h=>Zo (G:=fun t m=>∃ (a1:LI) (a2:LI) (a3:LI) (a4:LI),k1 a1 a2 a3 a4=some r/\Fit [(4,pt' b3),(6,pt' b5)] (ck b5 126 [u5' a1,u5' a2,u5' a3,u5' a4]::(ck b4 351 [.rows 20 16 (Zaa Zi (y1))]::(ck b3 126 [u5' (replicate 5 0),u5' (replicate 5 0),u5' (replicate 5 0),u5' (replicate 5 0)]::(ck b2 126 [u5' p1.gX,u5' p1.gY,u5' p1.gZ,u5' p1.gT]::(ck b1 118 [b3' p0] :: []))))) t m) ?_ ?_)))))))
 ·refine Zd<|Z07 (fun n1 t m=>∃ (i1:Int) (a5:LI) (a6:LI) (a7:LI) (a8:LI),Z6e p0 y1 k1 n1 i1 a5 a6 a7 a8=some r/\Fit [(2,pt' b1),(4,pt' b3),(5,pt' b4),(6,pt' b5),(11,.int .i64 (i1))] (ck b5 126 [u5' a5,u5' a6,u5' a7,u5' a8]::(ck b4 351 [.rows 20 16 (Zaa Zi (y1))]::(ck b3 126 [u5' (replicate 5 0),u5' (replicate 5 0),u5' (replicate 5 0),u5' (replicate 5 0)]::(ck b2 126 [u5' p1.gX,u5' p1.gY,u5' p1.gZ,u5' p1.gT]::(ck b1 118 [b3' p0] :: []))))) t m) big ?_ ?_
  ·exact ⟨0,y2.gX,y2.gY,y2.gZ,y2.gT,h,⟨⟨rfl,rfl,rfl,rfl,rfl,trivial⟩,(.o (.o (.o (.o (.o .nil)))))⟩⟩
  ·rintro n1 t m ⟨i1,a5,a6,a7,a8,h,hF⟩
   refine Zm hF ?_
   clear hF
   rcases n1 with _ | n1
   · exact Z1r h
   have h:Zbf p0 y1 k1 (Z6e p0 y1 k1 n1) i1 a5 a6 a7 a8=some r:=h
   unfold Zbf at h
   obtain ⟨k2,q2⟩ : ∃ k,k=Z6e p0 y1 k1 n1:=⟨_,rfl⟩
   try rw [<- q2] at h
   refine Z0<|Z1<|Z4 _ (Zb rfl rfl rfl)<|Z2<|Z0<|Z0r h rfl (fun h=>?_) (fun h=>?_)
   ·refine Zn<|Z0<|Zd<|Z0<|Z1<|Z8 rfl<|Z8 rfl<|Z2<|Z0<|Z0<|Z1<|Z8 rfl<|Z2<|jH h fun k3 q3 h=>Zo (G:=fun t m=>∃ (a9:LI) (a10:LI) (a11:LI) (a12:LI),k3 a9 a10 a11 a12=some r/\Fit [(2,pt' b1),(4,pt' b3),(5,pt' b4),(6,pt' b5),(7,.int .i64 (i1)),(11,.int .i64 (i1))] (ck b5 126 [u5' a9,u5' a10,u5' a11,u5' a12]::(ck b4 351 [.rows 20 16 (Zaa Zi (y1))]::(ck b3 126 [u5' (replicate 5 0),u5' (replicate 5 0),u5' (replicate 5 0),u5' (replicate 5 0)]::(ck b2 126 [u5' p1.gX,u5' p1.gY,u5' p1.gZ,u5' p1.gT]::(ck b1 118 [b3' p0] :: []))))) t m) ?_ ?_
    ·refine Zd<|Z07 (fun n2 t m=>∃ (i2:Int) (a13:LI) (a14:LI) (a15:LI) (a16:LI),Z4k k3 n2 i2 a13 a14 a15 a16=some r/\Fit [(2,pt' b1),(4,pt' b3),(5,pt' b4),(6,pt' b5),(7,.int .i64 (i1)),(11,.int .i64 (i1)),(14,.int .i64 (i2))] (ck b5 126 [u5' a13,u5' a14,u5' a15,u5' a16]::(ck b4 351 [.rows 20 16 (Zaa Zi (y1))]::(ck b3 126 [u5' (replicate 5 0),u5' (replicate 5 0),u5' (replicate 5 0),u5' (replicate 5 0)]::(ck b2 126 [u5' p1.gX,u5' p1.gY,u5' p1.gZ,u5' p1.gT]::(ck b1 118 [b3' p0] :: []))))) t m) big ?_ ?_
     ·exact ⟨0,a5,a6,a7,a8,h,⟨⟨rfl,rfl,rfl,rfl,rfl,rfl,rfl,trivial⟩,(.o (.o (.o (.o (.o .nil)))))⟩⟩
     ·rintro n2 t m ⟨i2,a13,a14,a15,a16,h,hF⟩
      refine Zm hF ?_
      clear hF
      rcases n2 with _ | n2
      · exact Z1r h
      have h:Zbg k3 (Z4k k3 n2) i2 a13 a14 a15 a16=some r:=h
      unfold Zbg at h
      obtain ⟨k4,q4⟩ : ∃ k,k=Z4k k3 n2:=⟨_,rfl⟩
      try rw [<- q4] at h
      refine Z0<|Z1<|Z4 _ (Zb rfl rfl rfl)<|Z2<|Z0<|Z0r h rfl (fun h=>?_) (fun h=>?_)
      ·refine Zn<|Z0<|Zd<|oH h fun y3 f3 h=>Z1<|Z4 _ (Z00 (p:=[u5' a13,u5' a14,u5' a15,u5' a16]) rfl .here rfl)<|Z4 _ (Z0a (vs:=[agg [u5' a13,u5' a14,u5' a15,u5' a16]]) (v:=agg [u5' y3.gX,u5' y3.gY,u5' y3.gZ,u5' y3.gT]) rfl (fun w hw=>Zea (r:=y3) (p0:=(⟨a13,a14,a15,a16⟩:Z9)) f3 ))<|Zc (Zl (q:=[u5' y3.gX,u5' y3.gY,u5' y3.gZ,u5' y3.gT]) rfl rfl rfl rfl rfl .here<|Z2<|bH h fun z1 e1 h=>Z1<|Z4 _ (iz e1 (Zb rfl rfl rfl))<|Z8 rfl<|Z2 ?_)
       rw [q4] at h
       exact ⟨n2,Nat.lt_succ_self _,z1,y3.gX,y3.gY,y3.gZ,y3.gT,h,⟨⟨rfl,rfl,rfl,rfl,rfl,rfl,rfl,trivial⟩,(.o (.o (.o (.o (.o .nil)))))⟩⟩
      ·exact Z0l _ rfl<|⟨a13,a14,a15,a16,h,⟨⟨rfl,rfl,rfl,rfl,rfl,rfl,trivial⟩,(.o (.o (.o (.o (.o .nil)))))⟩⟩
    ·rintro t m ⟨a9,a10,a11,a12,h,hF⟩
     refine Zm hF ?_
     clear hF
     subst q3
     refine oH h fun y4 f4 h=>cH h fun c1 h=>bH h fun x1 j1 h=>oH h fun y5 f5 h=>Zv<|Z6 _ (Z04 rfl)<|Zh _ (Z00 (p:=[u5' a9,u5' a10,u5' a11,u5' a12]) rfl .here rfl)<|Zh _ (Z00 (p:=[b3' p0]) rfl .t4 rfl)<|Z6 _ (Z0a (vs:=[agg [b3' p0],.int .i64 (i1)]) (v:=.int .u8 (y4)) rfl (fun w hw=>Zaj (r:=y4) (p0:=p0) (p1:=i1) f4 ))<|Z6 _ (Z3f rfl rfl (Z1w c1))<|Zh _ (az (fun x1=>agg [u5' x1.gX,u5' x1.gY,u5' x1.gZ,u5' x1.gT]) j1 (Zqg (base:=0) (w:=20) rfl .t1 rfl (Z1i c1) rfl rfl rfl))<|Z6 _ (Z0a (vs:=[agg [u5' a9,u5' a10,u5' a11,u5' a12],agg [u5' x1.gX,u5' x1.gY,u5' x1.gZ,u5' x1.gT]]) (v:=agg [u5' y5.gX,u5' y5.gY,u5' y5.gZ,u5' y5.gT]) rfl (fun w hw=>Zb6 (r:=y5) (p0:=(⟨a9,a10,a11,a12⟩:Z9)) (p1:=x1) f5 ))<|Z1q rfl (Zl (q:=[u5' y5.gX,u5' y5.gY,u5' y5.gZ,u5' y5.gT]) rfl rfl rfl rfl rfl .here<|Zy<|bH h fun z2 e2 h=>Z1<|Z4 _ (iz e2 (Zb rfl rfl rfl))<|Z8 rfl<|Z2 ?_)
     rw [q2] at h
     exact ⟨n1,Nat.lt_succ_self _,z2,y5.gX,y5.gY,y5.gZ,y5.gT,h,⟨⟨rfl,rfl,rfl,rfl,rfl,trivial⟩,(.o (.o (.o (.o (.o .nil)))))⟩⟩
   ·exact Z0l _ rfl<|⟨a5,a6,a7,a8,h,⟨⟨rfl,rfl,trivial⟩,(.o (.o (.o (.o (.o .nil)))))⟩⟩
 ·rintro t m ⟨a1,a2,a3,a4,h,hF⟩
  refine Zm hF ?_
  clear hF
  subst q1
  refine Z0<|Z1<|Z4 _ (Z00 (p:=[u5' a1,u5' a2,u5' a3,u5' a4]) rfl .here rfl)<|Zc (Zl (q:=[u5' a1,u5' a2,u5' a3,u5' a4]) rfl rfl rfl rfl rfl .t2<|Z2<|Zf ?_)
  revert h; refine Z01 fun h=>?_
  subst h
  exact ⟨_,(.cons (.agg rfl .t2 rfl) .nil),rfl⟩
def Z9t (p0:LI) (k1:(LI)->OL) (k2:Int->(LI)->OL) (i1:Int) (a1:LI):OL :=
 br ((decide (i1<32))) (
 jn (fun (a2:LI)=>bnd (wrap .i64 (i1+1)) fun z1 =>
 k2 z1 a2) fun k3=>chk (inB i1 32) <|
 bnd (p0.getD (i1).toNat 0) fun z2 =>
 jn (fun (i2:Int)=>bnd (wrap .i64 (8*i1)) fun z3 =>
 bnd (wrap .i64 (Int.tdiv z3 51)) fun z4 =>
 bnd (wrap .i64 (8*i1)) fun z5 =>
 bnd (Int.tmod z5 51) fun z6 =>
 chk (inB z4 5) <|
 bnd (wrap .u64 i2) fun z7 =>
 chk (decide (0<=z6)) <|
 bnd (Z02 .u64 z7 z6) fun z8 =>
 bnd (Z7 .and .u64 z8 2251799813685247) fun z9 =>
 bnd (a1.getD (z4).toNat 0) fun z10 =>
 bnd (Z7 .or .u64 z10 z9) fun z11 =>
 chk (inB z4 5) <|
 bnd (Z3z a1 (z4).toNat z11) fun l1 =>
 br (((decide (z6>43))&&(decide (z4<4)))) (
 bnd (wrap .i64 (z4+1)) fun z12 =>
 chk (inB z12 5) <|
 bnd (wrap .u64 i2) fun z13 =>
 bnd (wrap .i64 (51-z6)) fun z14 =>
 chk (decide (0<=z14)) <|
 bnd (Zr .u64 z13 z14) fun z15 =>
 bnd (l1.getD (z12).toNat 0) fun z16 =>
 bnd (Z7 .or .u64 z16 z15) fun z17 =>
 chk (inB z12 5) <|
 bnd (Z3z l1 (z12).toNat z17) fun l2 =>
 k3 l2
 ) (
 k3 l1
 )) fun k4=>br ((i1==31)) (
 bnd (Z7 .and .u8 z2 127) fun z18 =>
 k4 z18
 ) (
 k4 z2
 )
 ) (
 k1 a1
 )
def Z43 (p0:LI) (k1:(LI)->OL):Nat->Int->(LI)->OL
  | 0,_,_=>none
  | n+1,i1,a1=>Z9t p0 k1 (Z43 p0 k1 n) i1 a1
def Z35 (p0:LI):OL :=
 jn (fun (a1:LI)=>opt (Z1k a1) fun y1 =>
 some y1) fun k1=>Z43 p0 k1 big 0 (replicate 5 0)
theorem Z5t {W:World} {r:(LI)} {p0:LI} (h:Z35 p0=some r)  :
    Calls Tryz.prog 236 [agg [b3' p0]].toArray W (Z3c W (agg [u5' r])):=by
 unfold Z35 at h
 refine Za mo Z0n8 rfl ?_
 refine Z0<|Z1<|Zc (Z06 (s:=[b3' p0]) rfl fun b1 u1=>Zc (Zu fun b2 u2=>Z2<|Z0<|Z1<|Zc (Zu fun b3 u3=>Z2<|Z0<|Z0<|Z1<|Z4 _ (Z00 (p:=[b3' p0]) rfl .t2 rfl)<|Z8 rfl<|Z2<|jH h fun k1 q1 h=>Zo (G:=fun t m=>∃ (a1:LI),k1 a1=some r/\Fit [(2,pt' b2),(3,pt' b3)] (ck b3 124 [u5' a1]::(ck b2 124 [u5' (replicate 5 0)]::(ck b1 22 [b3' p0] :: []))) t m) ?_ ?_)))
 ·refine Zd<|Z07 (fun n1 t m=>∃ (i1:Int) (a2:LI),Z43 p0 k1 n1 i1 a2=some r/\Fit [(2,pt' b2),(3,pt' b3),(8,agg [b3' p0]),(9,.int .i64 (i1))] (ck b3 124 [u5' a2]::(ck b2 124 [u5' (replicate 5 0)]::(ck b1 22 [b3' p0] :: []))) t m) big ?_ ?_
  ·exact ⟨0,(replicate 5 0),h,⟨⟨rfl,rfl,rfl,rfl,trivial⟩,(.o (.o (.o .nil)))⟩⟩
  ·rintro n1 t m ⟨i1,a2,h,hF⟩
   refine Zm hF ?_
   clear hF
   rcases n1 with _ | n1
   · exact Z1r h
   have h:Z9t p0 k1 (Z43 p0 k1 n1) i1 a2=some r:=h
   unfold Z9t at h
   obtain ⟨k2,q2⟩ : ∃ k,k=Z43 p0 k1 n1:=⟨_,rfl⟩
   try rw [<- q2] at h
   refine Z0<|Z1<|Z4 _ (Zb rfl rfl rfl)<|Z2<|Z0<|Z0r h rfl (fun h=>?_) (fun h=>?_)
   ·refine Zn<|Z0<|jH h fun k3 q3 h=>Zo (G:=fun t m=>∃ (a3:LI),k3 a3=some r/\Fit [(2,pt' b2),(3,pt' b3),(8,agg [b3' p0]),(9,.int .i64 (i1))] (ck b3 124 [u5' a3]::(ck b2 124 [u5' (replicate 5 0)]::(ck b1 22 [b3' p0] :: []))) t m) ?_ ?_
    ·refine Zd<|Z0<|cH h fun c1 h=>bH h fun z1 e1 h=>Z1<|Z8 rfl<|Z4 _ (iz e1 (Zgs (len:=32) rfl rfl (Z1w c1)))<|Z8 rfl<|Z8 rfl<|Z2<|Z0<|Z0<|Z1<|Z8 rfl<|Z4 _ (Zb rfl rfl rfl)<|Z2<|jH h fun k4 q4 h=>Zo (G:=fun t m=>∃ (i2:Int),k4 i2=some r/\Fit [(2,pt' b2),(3,pt' b3),(4,.int .i64 (i1)),(5,.int .u8 (i2)),(8,agg [b3' p0]),(9,.int .i64 (i1))] (ck b3 124 [u5' a2]::(ck b2 124 [u5' (replicate 5 0)]::(ck b1 22 [b3' p0] :: []))) t m) ?_ ?_
     ·refine Z0r h rfl (fun h=>?_) (fun h=>?_)
      ·exact bH h fun z2 e2 h=>Z1<|Z8 rfl<|Z4 _ (iz e2 (Zb rfl rfl rfl))<|Z8 rfl<|Z2<|⟨z2,h,⟨⟨rfl,rfl,rfl,rfl,rfl,rfl,trivial⟩,(.o (.o (.o .nil)))⟩⟩
      ·exact Zn<|⟨z1,h,⟨⟨rfl,rfl,rfl,rfl,rfl,rfl,trivial⟩,(.o (.o (.o .nil)))⟩⟩
     ·rintro t m ⟨i2,h,hF⟩
      refine Zm hF ?_
      clear hF
      subst q4
      refine Z0<|bH h fun z3 e3 h=>bH h fun z4 e4 h=>bH h fun z5 e5 h=>bH h fun z6 e6 h=>Z1<|Z8 rfl<|Z4 _ (iz e3 (Zb rfl rfl rfl))<|Z4 _ (iz e4 (Zov rfl rfl (by decide)))<|Z8 rfl<|Z4 _ (iz e5 (Zb rfl rfl rfl))<|Z4 _ (iz e6 (Zk6 rfl rfl (by decide)))<|Z8 rfl<|Z8 rfl<|Z2<|Z0<|cH h fun c2 h=>bH h fun z7 e7 h=>cH h fun c3 h=>bH h fun z8 e8 h=>bH h fun z9 e9 h=>bH h fun z10 e10 h=>bH h fun z11 e11 h=>cH h fun c4 h=>bH h fun l1 g1 h=>Zv<|Z6 _ (Z04 rfl)<|Z6 _ (Z3f rfl rfl (Z1w c2))<|Z6 _ (Z04 rfl)<|Z6 _ (iz e7 (Z6x rfl))<|Z6 _ (Z04 rfl)<|Z6 _ (iz e8 (Zm6 rfl rfl (of_decide_eq_true c3)))<|Z6 _ (iz e9 (Zb rfl rfl rfl))<|Zh _ (iz e10 (Z9f (base:=0) rfl .here rfl (Z1i c2)))<|Z6 _ (iz e11 (Zb rfl rfl rfl))<|Z6 _ (Z3f rfl rfl (Z1w c4))<|Z1q rfl (Z5x (q:=[u5' l1]) (base:=0) g1 rfl rfl rfl (Z1i c4) rfl .here<|Zy<|Z0<|Z1<|Z8 rfl<|Z4 _ (Zb rfl rfl rfl)<|Z8 rfl<|Zjm rfl rfl rfl (fun hg1=>Z27 rfl _ (Z04 rfl) (Z27 rfl _ (Zb rfl rfl rfl) (Z28))) (fun hg1=>rfl) rfl<|Z2<|Z0r h rfl (fun h=>?_) (fun h=>?_))
      ·exact bH h fun z12 e12 h=>cH h fun c5 h=>bH h fun z13 e13 h=>bH h fun z14 e14 h=>cH h fun c6 h=>bH h fun z15 e15 h=>bH h fun z16 e16 h=>bH h fun z17 e17 h=>cH h fun c7 h=>bH h fun l2 g2 h=>Zv<|Z6 _ (Z04 rfl)<|Z6 _ (iz e12 (Zb rfl rfl rfl))<|Z6 _ (Z3f rfl rfl (Z1w c5))<|Z6 _ (Z04 rfl)<|Z6 _ (iz e13 (Z6x rfl))<|Z6 _ (Z04 rfl)<|Z6 _ (iz e14 (Zb rfl rfl rfl))<|Z6 _ (iz e15 (Z8w rfl rfl (of_decide_eq_true c6)))<|Zh _ (iz e16 (Z9f (base:=0) rfl .here rfl (Z1i c5)))<|Z6 _ (iz e17 (Zb rfl rfl rfl))<|Z6 _ (Z3f rfl rfl (Z1w c7))<|Z1q rfl (Z5x (q:=[u5' l2]) (base:=0) g2 rfl rfl rfl (Z1i c7) rfl .here<|Zy<|⟨l2,h,⟨⟨rfl,rfl,rfl,rfl,trivial⟩,(.o (.o (.o .nil)))⟩⟩)
      ·exact Zn<|⟨l1,h,⟨⟨rfl,rfl,rfl,rfl,trivial⟩,(.o (.o (.o .nil)))⟩⟩
    ·rintro t m ⟨a3,h,hF⟩
     refine Zm hF ?_
     clear hF
     subst q3
     refine bH h fun z18 e18 h=>Z1<|Z4 _ (iz e18 (Zb rfl rfl rfl))<|Z8 rfl<|Z2 ?_
     rw [q2] at h
     exact ⟨n1,Nat.lt_succ_self _,z18,a3,h,⟨⟨rfl,rfl,rfl,rfl,trivial⟩,(.o (.o (.o .nil)))⟩⟩
   ·exact Z0l _ rfl<|⟨a2,h,⟨⟨rfl,rfl,trivial⟩,(.o (.o (.o .nil)))⟩⟩
 ·rintro t m ⟨a1,h,hF⟩
  refine Zm hF ?_
  clear hF
  subst q1
  refine Z0<|oH h fun y1 f1 h=>Z1<|Z4 _ (Z00 (p:=[u5' a1]) rfl .here rfl)<|Z4 _ (Z1d rfl (Z0z f1))<|Zc (Zl (q:=[u5' y1]) rfl rfl rfl rfl rfl .t1<|Z2<|Zf ?_)
  revert h; refine Z01 fun h=>?_
  subst h
  exact ⟨_,(.cons (.agg rfl .t1 rfl) .nil),rfl⟩
def Zdr (k1:(LI)->Option (Z9)) (k2:Int->(LI)->Option (Z9)) (i1:Int) (a1:LI):Option (Z9) :=
 br ((decide (i1<31))) (
 bnd (wrap .i64 (i1+1)) fun z1 =>
 chk (inB z1 32) <|
 bnd (Z3z a1 (z1).toNat 102) fun l1 =>
 bnd (wrap .i64 (i1+1)) fun z2 =>
 k2 z2 l1
 ) (
 k1 a1
 )
def Z6y (k1:(LI)->Option (Z9)):Nat->Int->(LI)->Option (Z9)
  | 0,_,_=>none
  | n+1,i1,a1=>Zdr k1 (Z6y k1 n) i1 a1
def Zak:Option (Z9) :=
 bnd (([26,213,37,143,96,45,86,201,178,167,37,149,96,199,44,105,92,220,214,253,49,226,164,192,254,83,110,205,211,54,105,33]:LI)) fun z1 =>
 opt (Z35 z1) fun y1 =>
 bnd (([88,0,0,0,0,0,0,0,0,0,0,0,0,0,0,0,0,0,0,0,0,0,0,0,0,0,0,0,0,0,0,0]:LI)) fun z2 =>
 jn (fun (a1:LI)=>opt (Z35 a1) fun y2 =>
 opt (Z93) fun y3 =>
 opt (Z0t y1 y2) fun y4 =>
 some (⟨y1,y2,y3,y4⟩:Z9)) fun k1=>Z6y k1 big 0 z2
theorem Zff {W:World} {r:Z9} (h:Zak=some r)  :
    Calls Tryz.prog 118 [].toArray W (Z3c W (agg [u5' r.gX,u5' r.gY,u5' r.gZ,u5' r.gT])):=by
 unfold Zak at h
 refine Za mo Z0li rfl ?_
 refine Z0<|Z1<|Zc (Zu fun b1 u1=>Z2<|Z0<|bH h fun z1 e1 h=>oH h fun y1 f1 h=>Z1<|Z4 _ (az (fun z=>agg [.ints .u8 32 z]) e1 (Zcd (.one rfl rfl rfl (.one rfl rfl rfl (.one rfl rfl rfl (.one rfl rfl rfl (.one rfl rfl rfl (.one rfl rfl rfl (.one rfl rfl rfl (.one rfl rfl rfl (.one rfl rfl rfl (.one rfl rfl rfl (.one rfl rfl rfl (.one rfl rfl rfl (.one rfl rfl rfl (.one rfl rfl rfl (.one rfl rfl rfl (.one rfl rfl rfl (.one rfl rfl rfl (.one rfl rfl rfl (.one rfl rfl rfl (.one rfl rfl rfl (.one rfl rfl rfl (.one rfl rfl rfl (.one rfl rfl rfl (.one rfl rfl rfl (.one rfl rfl rfl (.one rfl rfl rfl (.one rfl rfl rfl (.one rfl rfl rfl (.one rfl rfl rfl (.one rfl rfl rfl (.one rfl rfl rfl (.one rfl rfl rfl BdR.nil))))))))))))))))))))))))))))))))))<|Z4 _ (Z1d rfl (Z5t f1))<|Zc (Zu fun b2 u2=>Zc (Zl (q:=[u5' y1]) rfl rfl rfl rfl rfl .here<|Z2<|Z0<|bH h fun z2 e2 h=>Z1<|Z4 _ (az (fun z=>agg [.ints .u8 32 z]) e2 (Zcd (.one rfl rfl rfl BdR.nil)))<|Zc (Zu fun b3 u3=>Zc (Zl (q:=[b3' z2]) rfl rfl rfl rfl rfl .here<|Z2<|Z0<|Z0<|Z1<|Z8 rfl<|Z2<|jH h fun k1 q1 h=>Zo (G:=fun t m=>∃ (a1:LI),k1 a1=some r/\Fit [(0,pt' b1),(1,pt' b2),(2,pt' b3)] (ck b3 22 [b3' a1]::(ck b2 124 [u5' y1]::(ck b1 126 [u5' (replicate 5 0),u5' (replicate 5 0),u5' (replicate 5 0),u5' (replicate 5 0)] :: []))) t m) ?_ ?_)))))
 ·refine Zd<|Z07 (fun n1 t m=>∃ (i1:Int) (a2:LI),Z6y k1 n1 i1 a2=some r/\Fit [(0,pt' b1),(1,pt' b2),(2,pt' b3),(8,.int .i64 (i1))] (ck b3 22 [b3' a2]::(ck b2 124 [u5' y1]::(ck b1 126 [u5' (replicate 5 0),u5' (replicate 5 0),u5' (replicate 5 0),u5' (replicate 5 0)] :: []))) t m) big ?_ ?_
  ·exact ⟨0,z2,h,⟨⟨rfl,rfl,rfl,rfl,trivial⟩,(.o (.o (.o .nil)))⟩⟩
  ·rintro n1 t m ⟨i1,a2,h,hF⟩
   refine Zm hF ?_
   clear hF
   rcases n1 with _ | n1
   · exact Z1r h
   have h:Zdr k1 (Z6y k1 n1) i1 a2=some r:=h
   unfold Zdr at h
   obtain ⟨k2,q2⟩ : ∃ k,k=Z6y k1 n1:=⟨_,rfl⟩
   try rw [<- q2] at h
   refine Z0<|Z1<|Z4 _ (Zb rfl rfl rfl)<|Z2<|Z0<|Z0r h rfl (fun h=>?_) (fun h=>?_)
   ·refine Zn<|Z0<|Zd<|Z0<|Z1<|Z8 rfl<|Z8 rfl<|Z2<|bH h fun z3 e3 h=>cH h fun c1 h=>bH h fun l1 g1 h=>Z1<|Z8 rfl<|Z4 _ (iz e3 (Zb rfl rfl rfl))<|Z4 _ (Z3f rfl rfl (Z1w c1))<|Zc (Z5x (q:=[b3' l1]) (base:=0) g1 rfl rfl rfl (Z1i c1) rfl .here<|Z2<|bH h fun z4 e4 h=>Z1<|Z4 _ (iz e4 (Zb rfl rfl rfl))<|Z8 rfl<|Z2 ?_)
    rw [q2] at h
    exact ⟨n1,Nat.lt_succ_self _,z4,l1,h,⟨⟨rfl,rfl,rfl,rfl,trivial⟩,(.o (.o (.o .nil)))⟩⟩
   ·exact Z0l _ rfl<|⟨a2,h,⟨⟨rfl,rfl,rfl,trivial⟩,(.o (.o (.o .nil)))⟩⟩
 ·rintro t m ⟨a1,h,hF⟩
  refine Zm hF ?_
  clear hF
  subst q1
  refine Z0<|oH h fun y2 f2 h=>Z1<|Z4 _ (Z00 (p:=[b3' a1]) rfl .here rfl)<|Z4 _ (Z1d rfl (Z5t f2))<|Zc (Zu fun b4 u4=>Zc (Zl (q:=[u5' y2]) rfl rfl rfl rfl rfl .here<|Z2<|Z0<|oH h fun y3 f3 h=>oH h fun y4 f4 h=>Zv<|Z6 _ (Z1d rfl (Z9p f3))<|Zh _ (Z00 (p:=[u5' y1]) rfl .t2 rfl)<|Zh _ (Z00 (p:=[u5' y2]) rfl .here rfl)<|Zh _ (Z00 (p:=[u5' y1]) rfl .t2 rfl)<|Zh _ (Z00 (p:=[u5' y2]) rfl .here rfl)<|Z6 _ (Z1d rfl (Z0f f4))<|Z6 _ (Zcd (q:=[u5' y1,u5' y2,u5' y3,u5' y4]) (.agg rfl rfl rfl (.agg rfl rfl rfl (.agg rfl rfl rfl (.agg rfl rfl rfl BdR.nil)))))<|Z1q rfl (Zl (q:=[u5' y1,u5' y2,u5' y3,u5' y4]) rfl rfl rfl rfl rfl .t3<|Zy<|Zf ?_)))
  revert h; refine Z01 fun h=>?_
  subst h
  exact ⟨_,(.cons (.agg rfl .t3 rfl) .nil),rfl⟩
def Z5e (p0:LI):Option (Z9) :=
 opt (Zak) fun y1 =>
 opt (Zgb p0 y1) fun y2 =>
 some y2
theorem Z9n {W:World} {r:Z9} {p0:LI} (h:Z5e p0=some r)  :
    Calls Tryz.prog 54 [agg [b3' p0]].toArray W (Z3c W (agg [u5' r.gX,u5' r.gY,u5' r.gZ,u5' r.gT])):=by
 unfold Z5e at h
 refine Za mo ok54 rfl ?_
 refine Z0<|Z1<|Zc (Z06 (s:=[b3' p0]) rfl fun b1 u1=>Zc (Zu fun b2 u2=>Z2<|Z0<|oH h fun y1 f1 h=>oH h fun y2 f2 h=>Zv<|Z6 _ (Z1d rfl (Zff f1))<|Zh _ (Z00 (p:=[b3' p0]) rfl .t1 rfl)<|Z6 _ (Z1d rfl (Zmx f2))<|Z1q rfl (Zl (q:=[u5' y2.gX,u5' y2.gY,u5' y2.gZ,u5' y2.gT]) rfl rfl rfl rfl rfl .here<|Zy<|Zf ?_)))
 revert h; refine Z01 fun h=>?_
 subst h
 exact ⟨_,(.cons (.agg rfl .here rfl) .nil),rfl⟩
def Z5q (p0:LI):OL :=
 opt (Zb1 p0) fun y1 =>
 opt (Z5e y1.1) fun y2 =>
 opt (Z5d y2) fun y3 =>
 some y3
theorem Zkw {W:World} {r:(LI)} {p0:LI} (h:Z5q p0=some r) (hG:Globs W) :
    Calls Tryz.prog 18 [agg [b3' p0]].toArray W (Z3c W (agg [b3' r])):=by
 unfold Z5q at h
 refine Za mo ok18 rfl ?_
 refine Z0<|Z1<|Zc (Z06 (s:=[b3' p0]) rfl fun b1 u1=>Zc (Zu fun b2 u2=>Z2<|Z0<|oH h fun y1 f1 h=>Z1<|Z4 _ (Z00 (p:=[b3' p0]) rfl .t1 rfl)<|Zc (Zk rfl (fun w hw=>Zfs  f1 (hG.at hw (by simp))) fun v6 o1 R1=>?_)))
 obtain ⟨v8,w1,rfl,rfl,O1⟩:=R1
 refine Z8 rfl<|Z4 _ (Z17 rfl rfl)<|Z4 _ (Z17 rfl rfl)<|Zc (Zu fun b3 u3=>Zc (Zl (q:=[b3' y1.1]) rfl rfl rfl rfl rfl .here<|Z8 rfl<|Z2<|Z0<|oH h fun y2 f2 h=>oH h fun y3 f3 h=>Z1<|Z4 _ (Z00 (p:=[b3' y1.1]) rfl .here rfl)<|Z4 _ (Z1d rfl (Z9n f2))<|Z4 _ (Z1d rfl (Z87 f3))<|Zc (Zl (q:=[b3' y3]) rfl rfl rfl rfl rfl (.there (.app .here))<|Z2<|Zf ?_)))
 revert h; refine Z01 fun h=>?_
 subst h
 exact ⟨_,(.cons (.agg rfl (.there (.app .here)) rfl) .nil),rfl⟩
def Z7v (p0:Z0q) (z1:Int) (k1:(LI)->(List (LI))->Option (Z0d×Int)) (k2:Int->(LI)->(List (LI))->Option (Z0d×Int)) (i1:Int) (a1:LI) (l1:List (LI)):Option (Z0d×Int) :=
 br ((decide (i1<z1))) (
 jn (fun (a2:LI) (l2:List (LI))=>bnd (wrap .i64 (i1+1)) fun z2 =>
 k2 z2 a2 l2) fun k3=>opt (Z9y p0 i1) fun y1 =>
 opt (Z5q y1.1) fun y2 =>
 br ((i1==0)) (
 k3 y2 l1
 ) (
 chk (decide ((l1.length+([y2]:List (LI)).length)*32<=140737488355328)) <|
 bnd (l1++([y2]:List (LI))) fun l3 =>
 k3 a1 l3
 )
 ) (
 k1 a1 l1
 )
def Z6g (p0:Z0q) (z1:Int) (k1:(LI)->(List (LI))->Option (Z0d×Int)):Nat->Int->(LI)->(List (LI))->Option (Z0d×Int)
  | 0,_,_,_=>none
  | n+1,i1,a1,l1=>Z7v p0 z1 k1 (Z6g p0 z1 k1 n) i1 a1 l1
def Zcw (p0:Z0q):Option (Z0d×Int) :=
 opt (Zce p0) fun y1 =>
 br ((y1 != 0)) (
 some ((⟨(replicate 32 0),[]⟩:Z0d),y1)
 ) (
 bnd (wrap .i64 (p0.gGates+1)) fun z1 =>
 jn (fun (a1:LI) (l1:List (LI))=>some ((⟨a1,l1⟩:Z0d),0)) fun k1=>Z6g p0 z1 k1 big 0 (replicate 32 0) []
 )
theorem Zi9 {W:World} {r:Z0d×Int} {p0:Z0q} (h:Zcw p0=some r) (hG:Globs W) :
    Calls Tryz.prog 5 [agg [.one (.int .i64 (p0.gGates)),.one (.int .i64 (p0.gWallets)),.one (.int .i64 (p0.gRows)),.one (.int .i64 (p0.gFlash)),.one (.int .i64 (p0.gSerials)),b3' p0.gSecret]].toArray W (Z8e W [] (fun v Ms=>∃ (u0:Value) (M1:List Ze),v = .tuple #[agg [b3' r.1.gIssuer,.one (u0)],.int .i64 (r.2)]/\Ms = [.all M1]/\Z09 Z0m u0 M1 r.1.gGates)):=by
 unfold Zcw at h
 refine Zs mo ok5 rfl (Zez _) ?_
 refine Z0<|Z1<|Zc (Z06 (s:=[.one (.int .i64 (p0.gGates)),.one (.int .i64 (p0.gWallets)),.one (.int .i64 (p0.gRows)),.one (.int .i64 (p0.gFlash)),.one (.int .i64 (p0.gSerials)),b3' p0.gSecret]) rfl fun b1 hb1=>Zc (Zu fun b2 hb2=>Z8 rfl<|Z2<|Z0<|Z0<|oH h fun y1 f1 h=>Z1<|Z4 _ (Z00 (p:=[.one (.int .i64 (p0.gGates)),.one (.int .i64 (p0.gWallets)),.one (.int .i64 (p0.gRows)),.one (.int .i64 (p0.gFlash)),.one (.int .i64 (p0.gSerials)),b3' p0.gSecret]) rfl .t1 rfl)<|Z4 _ (Z1d rfl (Zgw f1))<|Z8 rfl<|Z2<|Z0<|Z1<|Z8 rfl<|Z4 _ (Zb rfl rfl rfl)<|Z2<|Z0r h rfl (fun h=>?_) (fun h=>?_)))
 ·refine Z0<|Z1<|Z4 _ (Zcd (q:=[b3' (replicate 32 0),.one (.slice none 0 0)]) BdR.nil)<|Z8 rfl<|Zc (Zl (q:=[b3' (replicate 32 0),.one (.slice none 0 0)]) rfl rfl rfl rfl rfl .here<|Z8 rfl<|Z2<|Zf ?_)
  revert h; refine Z01 fun h=>?_
  subst h
  exact ⟨_,_,(.cons (.agg rfl .here rfl) (.cons (.tmp rfl) .nil)),(.no .nil),⟨_,rfl,⟨(.slice none 0 0),[],rfl,rfl,Zao⟩⟩⟩
 ·refine Zn<|Z0<|Z1<|Zc (Zu fun b3 hb3=>Z2<|Z0<|Z0<|bH h fun z1 e1 h=>Z1<|Z4 _ (Z1v rfl)<|Z4 _ (Z0p rfl .t2 rfl)<|Z4 _ (iz e1 (Zb rfl rfl rfl))<|Z8 rfl<|Z2<|jH h fun k1 q1 h=>Zo (G:=fun t m=>∃ (a1:LI) (l1:List (LI)) (v197:Value) (w1:List Ze),k1 a1 l1=some r/\Z09 Z0m v197 w1 l1/\Fit [(2,pt' b2),(5,pt' b3)] (ck b3 46 [b3' a1,.one (v197)]::(ck b2 46 [b3' (replicate 32 0),.one (.slice none 0 0)]::(ck b1 25 [.one (.int .i64 (p0.gGates)),.one (.int .i64 (p0.gWallets)),.one (.int .i64 (p0.gRows)),.one (.int .i64 (p0.gFlash)),.one (.int .i64 (p0.gSerials)),b3' p0.gSecret]::(w1 ++ [])))) t m) ?_ ?_)
  ·refine Zd<|Z07 (fun n1 t m=>∃ (i1:Int) (a2:LI) (l2:List (LI)) (v331:Value) (w2:List Ze),Z6g p0 z1 k1 n1 i1 a2 l2=some r/\Z09 Z0m v331 w2 l2/\Fit [(1,pt' b1),(2,pt' b2),(5,pt' b3),(18,.int .i64 (z1)),(19,.int .i64 (i1))] (ck b3 46 [b3' a2,.one (v331)]::(ck b2 46 [b3' (replicate 32 0),.one (.slice none 0 0)]::(ck b1 25 [.one (.int .i64 (p0.gGates)),.one (.int .i64 (p0.gWallets)),.one (.int .i64 (p0.gRows)),.one (.int .i64 (p0.gFlash)),.one (.int .i64 (p0.gSerials)),b3' p0.gSecret]::(w2 ++ [])))) t m) big ?_ ?_
   ·exact ⟨0,(replicate 32 0),[],(.slice none 0 0),[],h,Zao,⟨⟨rfl,rfl,rfl,rfl,rfl,trivial⟩,(.o (.o (.o (.no .nil))))⟩⟩
   ·rintro n1 t m ⟨i1,a2,l2,v331,w2,h,O1,hF⟩
    refine Zm hF ?_
    clear hF
    rcases n1 with _ | n1
    · exact Z1r h
    have h:Z7v p0 z1 k1 (Z6g p0 z1 k1 n1) i1 a2 l2=some r:=h
    unfold Z7v at h
    obtain ⟨k2,q2⟩ : ∃ k,k=Z6g p0 z1 k1 n1:=⟨_,rfl⟩
    try rw [<- q2] at h
    refine Z0<|Z1<|Z4 _ (Zb rfl rfl rfl)<|Z2<|Z0<|Z0r h rfl (fun h=>?_) (fun h=>?_)
    ·refine Zn<|Z0<|jH h fun k3 q3 h=>Zo (G:=fun t m=>∃ (a3:LI) (l3:List (LI)) (v359:Value) (w3:List Ze),k3 a3 l3=some r/\Z09 Z0m v359 w3 l3/\Fit [(1,pt' b1),(2,pt' b2),(5,pt' b3),(18,.int .i64 (z1)),(19,.int .i64 (i1))] (ck b3 46 [b3' a3,.one (v359)]::(ck b2 46 [b3' (replicate 32 0),.one (.slice none 0 0)]::(ck b1 25 [.one (.int .i64 (p0.gGates)),.one (.int .i64 (p0.gWallets)),.one (.int .i64 (p0.gRows)),.one (.int .i64 (p0.gFlash)),.one (.int .i64 (p0.gSerials)),b3' p0.gSecret]::(w3 ++ [])))) t m) ?_ ?_
     ·refine Zd<|Z0<|Z1<|Z8 rfl<|Z8 rfl<|Z2<|Z0<|oH h fun y2 f2 h=>Z1<|Z4 _ (Z00 (p:=[.one (.int .i64 (p0.gGates)),.one (.int .i64 (p0.gWallets)),.one (.int .i64 (p0.gRows)),.one (.int .i64 (p0.gFlash)),.one (.int .i64 (p0.gSerials)),b3' p0.gSecret]) rfl .t2 rfl)<|Z8 rfl<|Z4 _ (Z0a rfl (fun w hw=>Zdy f2 (hG.at hw (by simp))))<|Z8 rfl<|Z4 _ (Z17 rfl rfl)<|Z4 _ (Z17 rfl rfl)<|Zc (Zu fun b4 hb4=>Zc (Zl (q:=[b3' y2.1]) rfl rfl rfl rfl rfl .here<|Z8 rfl<|Z2<|Z0<|oH h fun y3 f3 h=>Z1<|Z4 _ (Z00 (p:=[b3' y2.1]) rfl .here rfl)<|Z4 _ (Z0a rfl (fun w hw=>Zkw f3 (hG.at hw (by simp))))<|Zc (Zu fun b5 hb5=>Zc (Zl (q:=[b3' y3]) rfl rfl rfl rfl rfl .here<|Z2<|Z0<|Z1<|Z8 rfl<|Z4 _ (Zb rfl rfl rfl)<|Z2<|Z0r h rfl (fun h=>?_) (fun h=>?_)))))
      ·exact Z1<|Z4 _ (Z00 (p:=[b3' y3]) rfl .here rfl)<|Z4 _ (Z1v rfl)<|Zc (Zl (q:=[b3' y3,.one (v331)]) rfl rfl rfl rfl rfl .t2<|Z2<|⟨y3,l2,v331,w2,h,O1,⟨⟨rfl,rfl,rfl,rfl,rfl,trivial⟩,(.one .t2 (.one .t2 (.one .t2 (.all .t2 .nil))))⟩⟩)
      ·exact cH h fun c1 h=>bH h fun l4 g1 h=>Z1<|Z4 _ (Z1v rfl)<|Z4 _ (Z0p rfl .t2 rfl)<|Z4 _ (Z00 (p:=[b3' y3]) rfl .here rfl)<|Zc (Z54 (E:=Z0m) (xs:=[y3]) (.agg rfl rfl rfl BdR.nil) (.cons (p:=[b3' y3]) rfl .nil) rfl fun v375 w4 O2=>Zc (Z9r (E:=Z0m) g1 rfl O1 (.app .t5) rfl (Z0b O2 .here) c1 fun v380 w5 O3=>Z4 _ (Z1v rfl)<|Zc (Zgc (q:=[b3' a2,.one (v380)]) rfl rfl (Z9i.one1 (Z09.isSl O3)) rfl (.app (.app .t2))<|Z2<|⟨a2,l4,v380,w5,h,O3,⟨⟨rfl,rfl,rfl,rfl,rfl,trivial⟩,(.one (.app (.app .t2)) (.one (.app (.app .t2)) (.one (.app (.app .t2)) (.all .here .nil))))⟩⟩)))
     ·rintro t m ⟨a3,l3,v359,w3,h,O4,hF⟩
      refine Zm hF ?_
      clear hF
      subst q3
      refine bH h fun z2 e2 h=>Z1<|Z4 _ (iz e2 (Zb rfl rfl rfl))<|Z8 rfl<|Z2 ?_
      rw [q2] at h
      exact ⟨n1,Nat.lt_succ_self _,z2,a3,l3,v359,w3,h,O4,⟨⟨rfl,rfl,rfl,rfl,rfl,trivial⟩,(.o (.o (.o (.all .here .nil))))⟩⟩
    ·exact Z0l _ rfl<|⟨a2,l2,v331,w2,h,O1,⟨⟨rfl,rfl,trivial⟩,(.o (.o (.o (.all .here .nil))))⟩⟩
  ·rintro t m ⟨a1,l1,v197,w1,h,O5,hF⟩
   refine Zm hF ?_
   clear hF
   subst q1
   refine Z0<|Z1<|Z4 _ (Z00 (p:=[b3' a1,.one (v197)]) rfl .here rfl)<|Zc (Zdg (q:=[b3' a1,.one (v197)]) rfl rfl rfl rfl (Z0y Z9x (Z0y (Z5i (Z9i.one1 (Z09.isSl O5))) Z52)) .t1<|Z8 rfl<|Z2<|Zf ?_)
   revert h; refine Z01 fun h=>?_
   subst h
   exact ⟨_,_,(.cons (.agg rfl .t1 rfl) (.cons (.tmp rfl) .nil)),(.all .t3 .nil),⟨_,rfl,⟨v197,w1,rfl,rfl,O5⟩⟩⟩
def Z7a:Option (Z0q) :=
 some (⟨2,1,4,4096,9,(replicate 32 0)⟩:Z0q)
theorem Zf5 {W:World} {r:Z0q} (h:Z7a=some r)  :
    Calls Tryz.prog 20 [].toArray W (Z3c W (agg [.one (.int .i64 (r.gGates)),.one (.int .i64 (r.gWallets)),.one (.int .i64 (r.gRows)),.one (.int .i64 (r.gFlash)),.one (.int .i64 (r.gSerials)),b3' r.gSecret])):=by
 unfold Z7a at h
 refine Za mo ok20 rfl ?_
 refine Z0<|Z1<|Zc (Zu fun b1 u1=>Z2<|Z0<|Z1<|Z4 _ (Zcd (q:=[.one (.int .i64 (2)),.one (.int .i64 (1)),.one (.int .i64 (4)),.one (.int .i64 (4096)),.one (.int .i64 (9)),b3' (replicate 32 0)]) (.one rfl rfl rfl (.one rfl rfl rfl (.one rfl rfl rfl (.one rfl rfl rfl (.one rfl rfl rfl BdR.nil))))))<|Zc (Zl (q:=[.one (.int .i64 (2)),.one (.int .i64 (1)),.one (.int .i64 (4)),.one (.int .i64 (4096)),.one (.int .i64 (9)),b3' (replicate 32 0)]) rfl rfl rfl rfl rfl .here<|Z2<|Zf ?_))
 revert h; refine Z01 fun h=>?_
 subst h
 exact ⟨_,(.cons (.agg rfl .here rfl) .nil),rfl⟩
def Zas:Option (Unit) :=
 some ()
theorem Zfo {W:World} {r:Unit} (h:Zas=some r)  :
    Calls Tryz.prog 55 [].toArray W (Z3c W (agg [.one (.func (.func 36) #[] #[]),.one (.func (.func 119) #[] #[]),.one (.func (.func 120) #[] #[]),.one (.func (.func 121) #[] #[])])):=by
 unfold Zas at h
 refine Za mo ok55 rfl ?_
 refine Z0<|Z1<|Zc (Zu fun b1 u1=>Z2<|Z0<|Z1<|Z4 _ (Zcd (q:=[.one (.func (.func 36) #[] #[]),.one (.func (.func 119) #[] #[]),.one (.func (.func 120) #[] #[]),.one (.func (.func 121) #[] #[])]) (.one rfl rfl rfl (.one rfl rfl rfl (.one rfl rfl rfl (.one rfl rfl rfl BdR.nil)))))<|Zc (Zl (q:=[.one (.func (.func 36) #[] #[]),.one (.func (.func 119) #[] #[]),.one (.func (.func 120) #[] #[]),.one (.func (.func 121) #[] #[])]) rfl rfl rfl rfl rfl .here<|Z2<|Zf ?_))
 revert h; refine Z01 fun h=>?_
 subst h
 exact ⟨_,(.cons (.agg rfl .here rfl) .nil),rfl⟩
def Z7i (y1:(Bool×LI)) (k1:Int->Option (Int×Bool)) (k2:Int->Int->Option (Int×Bool)) (i1:Int) (i2:Int):Option (Int×Bool) :=
 br ((decide (i2<(y1.2.length:Int)))) (
 chk (inB i2 y1.2.length) <|
 bnd (y1.2.getD (i2).toNat 0) fun z1 =>
 bnd (wrap .u64 z1) fun z2 =>
 bnd (wrap .i64 (8*i2)) fun z3 =>
 chk (decide (0<=z3)) <|
 bnd (Z02 .u64 z2 z3) fun z4 =>
 bnd (Z7 .or .u64 i1 z4) fun z5 =>
 bnd (wrap .i64 (i2+1)) fun z6 =>
 k2 z5 z6
 ) (
 k1 i1
 )
def Z3s (y1:(Bool×LI)) (k1:Int->Option (Int×Bool)):Nat->Int->Int->Option (Int×Bool)
  | 0,_,_=>none
  | n+1,i1,i2=>Z7i y1 k1 (Z3s y1 k1 n) i1 i2
def Z79 (p0:LI) (p1:Int):Option (Int×Bool) :=
 opt (Z86 p0 p1) fun y1 =>
 jn (fun (i1:Int)=>some (i1,(!y1.1))) fun k1=>Z3s y1 k1 big 0 0
theorem Z9k {W:World} {r:Int×Bool} {p0:LI} {p1:Int} {v0:Value} (h:Z79 p0 p1=some r) (A0:Z6m (El.int .u8) W v0 p0) :
    Calls Tryz.prog 344 [v0,.int .i64 (p1)].toArray W (Z3c W (.tuple #[.int .u64 (r.1),.bool (r.2)])):=by
 unfold Z79 at h
 refine Za mo Z0ou rfl ?_
 refine Z0<|Z1<|Z8 rfl<|Z8 rfl<|Z2<|Z0<|Z1<|Z8 rfl<|Z2<|Z0<|oH h fun y1 f1 h=>Z1<|Z8 rfl<|Z8 rfl<|Zc (Zk rfl (fun w hw=>Zad  f1 ((Z1m A0 Z1u) w hw)) fun v5 o1 R1=>?_)
 obtain ⟨_,rfl,rfl,P10,N8,H9⟩:=R1
 refine Z8 rfl<|Z2<|Z0<|Z0<|Z1<|Z8 rfl<|Z4 _ (Z5j rfl P10)<|Z8 rfl<|Z2<|jH h fun k1 q1 h=>Zo (G:=fun t m=>∃ (i1:Int),k1 i1=some r/\Fit [(6,.int .u64 (i1)),(7,v5)] [] t m) ?_ ?_
 ·refine Zd<|Z07 (fun n1 t m=>∃ (i2:Int) (i3:Int),Z3s y1 k1 n1 i2 i3=some r/\Fit [(6,.int .u64 (i2)),(7,v5),(13,v5),(14,.int .i64 ((y1.2.length:Int))),(15,.int .i64 (i3))] [] t m) big ?_ ?_
  ·exact ⟨0,0,h,⟨⟨rfl,rfl,rfl,rfl,rfl,trivial⟩,.nil⟩⟩
  ·rintro n1 t m ⟨i2,i3,h,hF⟩
   refine Zm hF ?_
   clear hF
   rcases n1 with _ | n1
   · exact Z1r h
   have h:Z7i y1 k1 (Z3s y1 k1 n1) i2 i3=some r:=h
   unfold Z7i at h
   obtain ⟨k2,q2⟩ : ∃ k,k=Z3s y1 k1 n1:=⟨_,rfl⟩
   try rw [<- q2] at h
   refine Z0<|Z1<|Z4 _ (Zb rfl rfl rfl)<|Z2<|Z0<|Z0r h rfl (fun h=>?_) (fun h=>?_)
   ·refine Zn<|Z0<|Zd<|Z0<|cH h fun c1 h=>bH h fun z1 e1 h=>Z1<|Z8 rfl<|Z4 _ (Z7u rfl rfl P10 c1)<|Z4 _ (iz e1 (Zaq (E:=(El.int .u8)) (s:=[.one (.int .u8 (y1.2.getD (i3).toNat 0))]) rfl (Zs7 H9 (Z1m A0 Z1u)) (Z1i c1) rfl rfl))<|Z8 rfl<|Z8 rfl<|Z2<|bH h fun z2 e2 h=>bH h fun z3 e3 h=>cH h fun c2 h=>bH h fun z4 e4 h=>bH h fun z5 e5 h=>Z1<|Z8 rfl<|Z8 rfl<|Z4 _ (iz e2 (Z6x rfl))<|Z8 rfl<|Z4 _ (iz e3 (Zb rfl rfl rfl))<|Z4 _ (iz e4 (Zm6 rfl rfl (of_decide_eq_true c2)))<|Z4 _ (iz e5 (Zb rfl rfl rfl))<|Z8 rfl<|Z2<|bH h fun z6 e6 h=>Z1<|Z4 _ (iz e6 (Zb rfl rfl rfl))<|Z8 rfl<|Z2 ?_
    rw [q2] at h
    exact ⟨n1,Nat.lt_succ_self _,z5,z6,h,⟨⟨rfl,rfl,rfl,rfl,rfl,trivial⟩,.nil⟩⟩
   ·exact Z0l _ rfl<|⟨i2,h,⟨⟨rfl,rfl,trivial⟩,.nil⟩⟩
 ·rintro t m ⟨i1,h,hF⟩
  refine Zm hF ?_
  clear hF
  subst q1
  refine Z0<|Z1<|Z8 rfl<|Z8 rfl<|Z4 _ (Zyg rfl P10 N8)<|Z8 rfl<|Z8 rfl<|Z2<|Zf ?_
  revert h; refine Z01 fun h=>?_
  subst h
  exact ⟨_,(.cons (.tmp rfl) (.cons (.tmp rfl) .nil)),rfl⟩
def Z75 (z1:Int) (k1:(LI)->OL) (k2:Int->(LI)->Int->OL) (i1:Int) (l1:LI) (i2:Int):OL :=
 br ((decide (i2<((replicate (z1).toNat 0:LI).length:Int)))) (
 bnd (wrap .u8 i1) fun z2 =>
 chk (inB i2 l1.length) <|
 bnd (Zji 0 l1 (i2).toNat z2) fun l2 =>
 bnd (Zr .u64 i1 8) fun z3 =>
 bnd (wrap .i64 (i2+1)) fun z4 =>
 k2 z3 l2 z4
 ) (
 k1 l1
 )
def Z3j (z1:Int) (k1:(LI)->OL):Nat->Int->(LI)->Int->OL
  | 0,_,_,_=>none
  | n+1,i1,l1,i2=>Z75 z1 k1 (Z3j z1 k1 n) i1 l1 i2
def Z8s (p0:Int):OL :=
 opt (Z4n) fun y1 =>
 bnd (wrap .i64 (Int.tdiv y1 8)) fun z1 =>
 chk (mkB 1 z1 z1) <|
 jn (fun (l1:LI)=>some l1) fun k1=>Z3j z1 k1 big p0 (replicate (z1).toNat 0:LI) 0
theorem Ze7 {W:World} {r:(LI)} {p0:Int} (h:Z8s p0=some r)  :
    Calls Tryz.prog 359 [.int .u64 (p0)].toArray W (Z8e W [] (fun v Ms=>∃ (u0:Value) (M1:List Ze),v=u0/\Ms = [.all M1]/\Z09 (El.int .u8) u0 M1 r)):=by
 unfold Z8s at h
 refine Zs mo Z0p6 rfl (Zez _) ?_
 refine Z0<|Z1<|Z8 rfl<|Z2<|Z0<|oH h fun y1 f1 h=>bH h fun z1 e1 h=>cH h fun c1 h=>Z1<|Z4 _ (Z1d rfl (Z51 f1))<|Z4 _ (iz e1 (Zov rfl rfl (by decide)))<|Zc (Zf4 (E:=(El.int .u8)) rfl rfl rfl c1 fun v6 w1 O1=>Z8 rfl<|Z2<|Z0<|Z0<|Z1<|Z8 rfl<|Z4 _ (Z5j rfl (Shp.own O1))<|Z8 rfl<|Z2<|jH h fun k1 q1 h=>Zo (G:=fun t m=>∃ (l1:LI) (v62:Value) (w2:List Ze),k1 l1=some r/\Z09 (El.int .u8) v62 w2 l1/\Fit [(3,v62)] (w2 ++ []) t m) ?_ ?_)
 ·refine Zd<|Z07 (fun n1 t m=>∃ (i1:Int) (l2:LI) (i2:Int) (v99:Value) (w3:List Ze),Z3j z1 k1 n1 i1 l2 i2=some r/\Z09 (El.int .u8) v99 w3 l2/\Fit [(0,.int .u64 (i1)),(3,v99),(9,.int .i64 (((replicate (z1).toNat 0:LI).length:Int))),(10,.int .i64 (i2))] (w3 ++ []) t m) big ?_ ?_
  ·exact ⟨p0,(replicate (z1).toNat 0:LI),0,v6,w1,h,O1,⟨⟨rfl,rfl,rfl,rfl,trivial⟩,(.all .here .nil)⟩⟩
  ·rintro n1 t m ⟨i1,l2,i2,v99,w3,h,O2,hF⟩
   refine Zm hF ?_
   clear hF
   rcases n1 with _ | n1
   · exact Z1r h
   have h:Z75 z1 k1 (Z3j z1 k1 n1) i1 l2 i2=some r:=h
   unfold Z75 at h
   obtain ⟨k2,q2⟩ : ∃ k,k=Z3j z1 k1 n1:=⟨_,rfl⟩
   try rw [<- q2] at h
   refine Z0<|Z1<|Z4 _ (Zb rfl rfl rfl)<|Z2<|Z0<|Z0r h rfl (fun h=>?_) (fun h=>?_)
   ·refine Zn<|Z0<|Zd<|Z0<|Z1<|Z8 rfl<|Z8 rfl<|Z2<|Z0<|bH h fun z2 e2 h=>cH h fun c2 h=>bH h fun l3 g1 h=>Z1<|Z8 rfl<|Z8 rfl<|Z8 rfl<|Z4 _ (iz e2 (Z6x rfl))<|Z4 _ (Z7u rfl rfl (Shp.own O2) c2)<|Zc (Zlp (E:=(El.int .u8)) g1 O2 .here rfl rfl rfl (Z1i c2) fun w4 O3=>Z2<|bH h fun z3 e3 h=>Z1<|Z8 rfl<|Z4 _ (iz e3 (Z8w rfl rfl (by decide)))<|Z8 rfl<|Z2<|bH h fun z4 e4 h=>Z1<|Z4 _ (iz e4 (Zb rfl rfl rfl))<|Z8 rfl<|Z2 ?_)
    rw [q2] at h
    exact ⟨n1,Nat.lt_succ_self _,z3,l3,z4,v99,w4,h,O3,⟨⟨rfl,rfl,rfl,rfl,trivial⟩,(.all .here .nil)⟩⟩
   ·exact Z0l _ rfl<|⟨l2,v99,w3,h,O2,⟨⟨rfl,trivial⟩,(.all .here .nil)⟩⟩
 ·rintro t m ⟨l1,v62,w2,h,O4,hF⟩
  refine Zm hF ?_
  clear hF
  subst q1
  refine Z0<|Z1<|Z8 rfl<|Z8 rfl<|Z2<|Zf ?_
  revert h; refine Z01 fun h=>?_
  subst h
  exact ⟨_,_,(.cons (.tmp rfl) .nil),(.all .here .nil),⟨_,rfl,⟨v62,w2,rfl,rfl,O4⟩⟩⟩
def Zd0 (p0:LI) (k1:(LI)->OL) (k2:Int->(LI)->OL) (i1:Int) (a1:LI):OL :=
 br ((decide (i1<4))) (
 chk (inB i1 4) <|
 bnd (p0.getD (i1).toNat 0) fun z1 =>
 bnd (wrap .i64 (8*i1)) fun z2 =>
 chk (Zki z2 32 32) <|
 opt (Z8s z1) fun y1 =>
 bnd (wr a1 (z2).toNat (y1.take (32-(z2).toNat))) fun l1 =>
 bnd (wrap .i64 (i1+1)) fun z3 =>
 k2 z3 l1
 ) (
 k1 a1
 )
def Z80 (p0:LI) (k1:(LI)->OL):Nat->Int->(LI)->OL
  | 0,_,_=>none
  | n+1,i1,a1=>Zd0 p0 k1 (Z80 p0 k1 n) i1 a1
def Z6j (p0:LI):OL :=
 jn (fun (a1:LI)=>some a1) fun k1=>Z80 p0 k1 big 0 (replicate 32 0)
theorem Zay {W:World} {r:(LI)} {p0:LI} (h:Z6j p0=some r)  :
    Calls Tryz.prog 345 [agg [.ints .u64 4 (p0)]].toArray W (Z3c W (agg [b3' r])):=by
 unfold Z6j at h
 refine Za mo Z0ov rfl ?_
 refine Z0<|Z1<|Zc (Z06 (s:=[.ints .u64 4 (p0)]) rfl fun b1 u1=>Zc (Zu fun b2 u2=>Z2<|Z0<|Z1<|Zc (Zu fun b3 u3=>Z2<|Z0<|Z0<|Z1<|Z4 _ (Z00 (p:=[.ints .u64 4 (p0)]) rfl .t2 rfl)<|Z8 rfl<|Z2<|jH h fun k1 q1 h=>Zo (G:=fun t m=>∃ (a1:LI),k1 a1=some r/\Fit [(2,pt' b2),(3,pt' b3)] (ck b3 118 [b3' a1]::(ck b2 118 [b3' (replicate 32 0)]::(ck b1 393 [.ints .u64 4 (p0)] :: []))) t m) ?_ ?_)))
 ·refine Zd<|Z07 (fun n1 t m=>∃ (i1:Int) (a2:LI),Z80 p0 k1 n1 i1 a2=some r/\Fit [(2,pt' b2),(3,pt' b3),(6,agg [.ints .u64 4 (p0)]),(7,.int .i64 (i1))] (ck b3 118 [b3' a2]::(ck b2 118 [b3' (replicate 32 0)]::(ck b1 393 [.ints .u64 4 (p0)] :: []))) t m) big ?_ ?_
  ·exact ⟨0,(replicate 32 0),h,⟨⟨rfl,rfl,rfl,rfl,trivial⟩,(.o (.o (.o .nil)))⟩⟩
  ·rintro n1 t m ⟨i1,a2,h,hF⟩
   refine Zm hF ?_
   clear hF
   rcases n1 with _ | n1
   · exact Z1r h
   have h:Zd0 p0 k1 (Z80 p0 k1 n1) i1 a2=some r:=h
   unfold Zd0 at h
   obtain ⟨k2,q2⟩ : ∃ k,k=Z80 p0 k1 n1:=⟨_,rfl⟩
   try rw [<- q2] at h
   refine Z0<|Z1<|Z4 _ (Zb rfl rfl rfl)<|Z2<|Z0<|Z0r h rfl (fun h=>?_) (fun h=>?_)
   ·refine Zn<|Z0<|Zd<|Z0<|cH h fun c1 h=>bH h fun z1 e1 h=>Z1<|Z8 rfl<|Z4 _ (iz e1 (Zgs (len:=4) rfl rfl (Z1w c1)))<|Z8 rfl<|Z8 rfl<|Z2<|bH h fun z2 e2 h=>cH h fun c2 h=>oH h fun y1 f1 h=>bH h fun l1 g1 h=>Zv<|Z6 _ (Z04 rfl)<|Z6 _ (iz e2 (Zb rfl rfl rfl))<|Z6 _ (Z88 rfl (.yes rfl) .no .no (by simp) (cut4 c2))<|Z6 _ (Z04 rfl)<|Z2u (Zk rfl (fun w hw=>Ze7  f1 ) fun v105 o1 R1=>?_)
    obtain ⟨_,w1,rfl,rfl,O1⟩:=R1
    refine ⟨(by repeat (first | exact Sup.refl _ | apply Sup.cons | apply Sup.app)),Z1q rfl (Zf3 (q:=[b3' l1]) (lo:=(z2).toNat) (hi:=32) (mz:=32) (base:=0) g1 rfl rfl (Z0b O1 .here) rfl (cutn c2) rfl (.app .here) (Zy (bH h fun z3 e3 h=>Z1 (Z4 _ (iz e3 (Zb rfl rfl rfl)) (Z8 rfl (Z2 ?_))))))⟩
    rw [q2] at h
    exact ⟨n1,Nat.lt_succ_self _,z3,l1,h,⟨⟨rfl,rfl,rfl,rfl,trivial⟩,(.one (.app .here) (.one (.app .here) (.one (.app .here) .nil)))⟩⟩
   ·exact Z0l _ rfl<|⟨a2,h,⟨⟨rfl,rfl,trivial⟩,(.o (.o (.o .nil)))⟩⟩
 ·rintro t m ⟨a1,h,hF⟩
  refine Zm hF ?_
  clear hF
  subst q1
  refine Z0<|Z1<|Z4 _ (Z00 (p:=[b3' a1]) rfl .here rfl)<|Zc (Zl (q:=[b3' a1]) rfl rfl rfl rfl rfl .t1<|Z2<|Zf ?_)
  revert h; refine Z01 fun h=>?_
  subst h
  exact ⟨_,(.cons (.agg rfl .t1 rfl) .nil),rfl⟩
def Z7z (p1:LI) (k1:Int->(LI)->Option ((LI)×Int)) (k2:Int->Int->(LI)->Option ((LI)×Int)) (i1:Int) (i2:Int) (a1:LI):Option ((LI)×Int) :=
 br ((decide (i2<4))) (
 chk (inB i2 4) <|
 chk (inB i2 4) <|
 bnd (a1.getD (i2).toNat 0) fun z1 =>
 bnd (p1.getD (i2).toNat 0) fun z2 =>
 chk (Zz6 z1 z2 i1) <|
 bnd (Z01y z1 z2 i1) fun z3 =>
 bnd (Z01x z1 z2 i1) fun z4 =>
 chk (inB i2 4) <|
 bnd (Z3z a1 (i2).toNat z3) fun l1 =>
 bnd (wrap .i64 (i2+1)) fun z5 =>
 k2 z4 z5 l1
 ) (
 k1 i1 a1
 )
def Z37 (p1:LI) (k1:Int->(LI)->Option ((LI)×Int)):Nat->Int->Int->(LI)->Option ((LI)×Int)
  | 0,_,_,_=>none
  | n+1,i1,i2,a1=>Z7z p1 k1 (Z37 p1 k1 n) i1 i2 a1
def Z6h (p0:LI) (p1:LI):Option ((LI)×Int) :=
 jn (fun (i1:Int) (a1:LI)=>some (a1,i1)) fun k1=>Z37 p1 k1 big 0 0 p0
theorem Zax {W:World} {r:(LI)×Int} {p0:LI} {p1:LI} (h:Z6h p0 p1=some r)  :
    Calls Tryz.prog 335 [agg [.ints .u64 4 (p0)],agg [.ints .u64 4 (p1)]].toArray W (Z3c W (.tuple #[agg [.ints .u64 4 (r.1)],.int .u64 (r.2)])):=by
 unfold Z6h at h
 refine Za mo Z0oo rfl ?_
 refine Z0<|Z1<|Zc (Z06 (s:=[.ints .u64 4 (p0)]) rfl fun b1 u1=>Zc (Z06 (s:=[.ints .u64 4 (p1)]) rfl fun b2 u2=>Zc (Zu fun b3 u3=>Z8 rfl<|Z2<|Z0<|Z1<|Z8 rfl<|Z2<|Z0<|Z0<|Z1<|Z8 rfl<|Z2<|jH h fun k1 q1 h=>Zo (G:=fun t m=>∃ (i1:Int) (a1:LI),k1 i1 a1=some r/\Fit [(2,pt' b1),(4,pt' b3),(6,.int .u64 (i1))] (ck b3 393 [.ints .u64 4 ((replicate 4 0))]::(ck b2 393 [.ints .u64 4 (p1)]::(ck b1 393 [.ints .u64 4 (a1)] :: []))) t m) ?_ ?_)))
 ·refine Zd<|Z07 (fun n1 t m=>∃ (i2:Int) (i3:Int) (a2:LI),Z37 p1 k1 n1 i2 i3 a2=some r/\Fit [(2,pt' b1),(3,pt' b2),(4,pt' b3),(6,.int .u64 (i2)),(8,.int .i64 (i3))] (ck b3 393 [.ints .u64 4 ((replicate 4 0))]::(ck b2 393 [.ints .u64 4 (p1)]::(ck b1 393 [.ints .u64 4 (a2)] :: []))) t m) big ?_ ?_
  ·exact ⟨0,0,p0,h,⟨⟨rfl,rfl,rfl,rfl,rfl,trivial⟩,(.o (.o (.o .nil)))⟩⟩
  ·rintro n1 t m ⟨i2,i3,a2,h,hF⟩
   refine Zm hF ?_
   clear hF
   rcases n1 with _ | n1
   · exact Z1r h
   have h:Z7z p1 k1 (Z37 p1 k1 n1) i2 i3 a2=some r:=h
   unfold Z7z at h
   obtain ⟨k2,q2⟩ : ∃ k,k=Z37 p1 k1 n1:=⟨_,rfl⟩
   try rw [<- q2] at h
   refine Z0<|Z1<|Z4 _ (Zb rfl rfl rfl)<|Z2<|Z0<|Z0r h rfl (fun h=>?_) (fun h=>?_)
   ·refine Zn<|Z0<|Zd<|Z0<|Z1<|Z8 rfl<|Z8 rfl<|Z2<|cH h fun c1 h=>cH h fun c2 h=>bH h fun z1 e1 h=>bH h fun z2 e2 h=>cH h fun c3 h=>bH h fun z3 e3 h=>bH h fun z4 e4 h=>cH h fun c4 h=>bH h fun l1 g1 h=>Zv<|Z6 _ (Z04 rfl)<|Z6 _ (Z04 rfl)<|Z6 _ (Z3f rfl rfl (Z1w c1))<|Z6 _ (Z04 rfl)<|Z6 _ (Z3f rfl rfl (Z1w c2))<|Z6 _ (Z04 rfl)<|Zh _ (iz e1 (Z9f (base:=0) rfl .t2 rfl (Z1i c1)))<|Zh _ (iz e2 (Z9f (base:=0) rfl .t1 rfl (Z1i c2)))<|Z6 _ (Zgt rfl Z04t (xsub e3 e4 c3))<|Z6 _ (Z04 rfl)<|Z6 _ (Z17 rfl rfl)<|Z6 _ (Z17 rfl rfl)<|Z6 _ (Z3f rfl rfl (Z1w c4))<|Z1q rfl (Z5x (q:=[.ints .u64 4 (l1)]) (base:=0) g1 rfl rfl rfl (Z1i c4) rfl .t2<|Z6 _ (Z04 rfl)<|Zy<|bH h fun z5 e5 h=>Z1<|Z4 _ (iz e5 (Zb rfl rfl rfl))<|Z8 rfl<|Z2 ?_)
    rw [q2] at h
    exact ⟨n1,Nat.lt_succ_self _,z4,z5,l1,h,⟨⟨rfl,rfl,rfl,rfl,rfl,trivial⟩,(.o (.o (.o .nil)))⟩⟩
   ·exact Z0l _ rfl<|⟨i2,a2,h,⟨⟨rfl,rfl,rfl,trivial⟩,(.o (.o (.o .nil)))⟩⟩
 ·rintro t m ⟨i1,a1,h,hF⟩
  refine Zm hF ?_
  clear hF
  subst q1
  refine Z0<|Z1<|Z4 _ (Z00 (p:=[.ints .u64 4 (a1)]) rfl .t2 rfl)<|Z8 rfl<|Zc (Zl (q:=[.ints .u64 4 (a1)]) rfl rfl rfl rfl rfl .here<|Z8 rfl<|Z2<|Zf ?_)
  revert h; refine Z01 fun h=>?_
  subst h
  exact ⟨_,(.cons (.agg rfl .here rfl) (.cons (.tmp rfl) .nil)),rfl⟩
def Z8n (p1:LI) (k1:Int->(LI)->Option ((LI)×Int)) (k2:Int->Int->(LI)->Option ((LI)×Int)) (i1:Int) (i2:Int) (a1:LI):Option ((LI)×Int) :=
 br ((decide (i2<4))) (
 chk (inB i2 4) <|
 chk (inB i2 4) <|
 bnd (a1.getD (i2).toNat 0) fun z1 =>
 bnd (p1.getD (i2).toNat 0) fun z2 =>
 chk (Zfu z1 z2 i1) <|
 bnd (Zbb z1 z2 i1) fun z3 =>
 bnd (Zg6 z1 z2 i1) fun z4 =>
 chk (inB i2 4) <|
 bnd (Z3z a1 (i2).toNat z3) fun l1 =>
 bnd (wrap .i64 (i2+1)) fun z5 =>
 k2 z4 z5 l1
 ) (
 k1 i1 a1
 )
def Z3q (p1:LI) (k1:Int->(LI)->Option ((LI)×Int)):Nat->Int->Int->(LI)->Option ((LI)×Int)
  | 0,_,_,_=>none
  | n+1,i1,i2,a1=>Z8n p1 k1 (Z3q p1 k1 n) i1 i2 a1
def Z5p (p0:LI) (p1:LI):Option ((LI)×Int) :=
 jn (fun (i1:Int) (a1:LI)=>some (a1,i1)) fun k1=>Z3q p1 k1 big 0 0 p0
theorem Z8p {W:World} {r:(LI)×Int} {p0:LI} {p1:LI} (h:Z5p p0 p1=some r)  :
    Calls Tryz.prog 347 [agg [.ints .u64 4 (p0)],agg [.ints .u64 4 (p1)]].toArray W (Z3c W (.tuple #[agg [.ints .u64 4 (r.1)],.int .u64 (r.2)])):=by
 unfold Z5p at h
 refine Za mo Z0ox rfl ?_
 refine Z0<|Z1<|Zc (Z06 (s:=[.ints .u64 4 (p0)]) rfl fun b1 u1=>Zc (Z06 (s:=[.ints .u64 4 (p1)]) rfl fun b2 u2=>Zc (Zu fun b3 u3=>Z8 rfl<|Z2<|Z0<|Z1<|Z8 rfl<|Z2<|Z0<|Z0<|Z1<|Z8 rfl<|Z2<|jH h fun k1 q1 h=>Zo (G:=fun t m=>∃ (i1:Int) (a1:LI),k1 i1 a1=some r/\Fit [(2,pt' b1),(4,pt' b3),(6,.int .u64 (i1))] (ck b3 393 [.ints .u64 4 ((replicate 4 0))]::(ck b2 393 [.ints .u64 4 (p1)]::(ck b1 393 [.ints .u64 4 (a1)] :: []))) t m) ?_ ?_)))
 ·refine Zd<|Z07 (fun n1 t m=>∃ (i2:Int) (i3:Int) (a2:LI),Z3q p1 k1 n1 i2 i3 a2=some r/\Fit [(2,pt' b1),(3,pt' b2),(4,pt' b3),(6,.int .u64 (i2)),(8,.int .i64 (i3))] (ck b3 393 [.ints .u64 4 ((replicate 4 0))]::(ck b2 393 [.ints .u64 4 (p1)]::(ck b1 393 [.ints .u64 4 (a2)] :: []))) t m) big ?_ ?_
  ·exact ⟨0,0,p0,h,⟨⟨rfl,rfl,rfl,rfl,rfl,trivial⟩,(.o (.o (.o .nil)))⟩⟩
  ·rintro n1 t m ⟨i2,i3,a2,h,hF⟩
   refine Zm hF ?_
   clear hF
   rcases n1 with _ | n1
   · exact Z1r h
   have h:Z8n p1 k1 (Z3q p1 k1 n1) i2 i3 a2=some r:=h
   unfold Z8n at h
   obtain ⟨k2,q2⟩ : ∃ k,k=Z3q p1 k1 n1:=⟨_,rfl⟩
   try rw [<- q2] at h
   refine Z0<|Z1<|Z4 _ (Zb rfl rfl rfl)<|Z2<|Z0<|Z0r h rfl (fun h=>?_) (fun h=>?_)
   ·refine Zn<|Z0<|Zd<|Z0<|Z1<|Z8 rfl<|Z8 rfl<|Z2<|cH h fun c1 h=>cH h fun c2 h=>bH h fun z1 e1 h=>bH h fun z2 e2 h=>cH h fun c3 h=>bH h fun z3 e3 h=>bH h fun z4 e4 h=>cH h fun c4 h=>bH h fun l1 g1 h=>Zv<|Z6 _ (Z04 rfl)<|Z6 _ (Z04 rfl)<|Z6 _ (Z3f rfl rfl (Z1w c1))<|Z6 _ (Z04 rfl)<|Z6 _ (Z3f rfl rfl (Z1w c2))<|Z6 _ (Z04 rfl)<|Zh _ (iz e1 (Z9f (base:=0) rfl .t2 rfl (Z1i c1)))<|Zh _ (iz e2 (Z9f (base:=0) rfl .t1 rfl (Z1i c2)))<|Z6 _ (Zgt rfl Zid (xadd e3 e4 c3))<|Z6 _ (Z04 rfl)<|Z6 _ (Z17 rfl rfl)<|Z6 _ (Z17 rfl rfl)<|Z6 _ (Z3f rfl rfl (Z1w c4))<|Z1q rfl (Z5x (q:=[.ints .u64 4 (l1)]) (base:=0) g1 rfl rfl rfl (Z1i c4) rfl .t2<|Z6 _ (Z04 rfl)<|Zy<|bH h fun z5 e5 h=>Z1<|Z4 _ (iz e5 (Zb rfl rfl rfl))<|Z8 rfl<|Z2 ?_)
    rw [q2] at h
    exact ⟨n1,Nat.lt_succ_self _,z4,z5,l1,h,⟨⟨rfl,rfl,rfl,rfl,rfl,trivial⟩,(.o (.o (.o .nil)))⟩⟩
   ·exact Z0l _ rfl<|⟨i2,a2,h,⟨⟨rfl,rfl,rfl,trivial⟩,(.o (.o (.o .nil)))⟩⟩
 ·rintro t m ⟨i1,a1,h,hF⟩
  refine Zm hF ?_
  clear hF
  subst q1
  refine Z0<|Z1<|Z4 _ (Z00 (p:=[.ints .u64 4 (a1)]) rfl .t2 rfl)<|Z8 rfl<|Zc (Zl (q:=[.ints .u64 4 (a1)]) rfl rfl rfl rfl rfl .here<|Z8 rfl<|Z2<|Zf ?_)
  revert h; refine Z01 fun h=>?_
  subst h
  exact ⟨_,(.cons (.agg rfl .here rfl) (.cons (.tmp rfl) .nil)),rfl⟩
def Z7y (k1:(LI)->OL) (a1:LI) (k2:Unit->OL) (k3:Int->OL) (i1:Int):OL :=
 br ((decide (i1≥0))) (
 chk (inB i1 4) <|
 chk (inB i1 4) <|
 bnd (a1.getD (i1).toNat 0) fun z1 =>
 bnd (G_order.getD (i1).toNat 0) fun z2 =>
 br ((decide (z1<z2))) (
 k1 a1
 ) (
 chk (inB i1 4) <|
 chk (inB i1 4) <|
 bnd (a1.getD (i1).toNat 0) fun z3 =>
 bnd (G_order.getD (i1).toNat 0) fun z4 =>
 br ((decide (z3>z4))) (
 k2 ()
 ) (
 bnd (wrap .i64 (i1-1)) fun z5 =>
 k3 z5
 )
 )
 ) (
 k2 ()
 )
def Z0u (k1:(LI)->OL) (a1:LI) (k2:Unit->OL):Nat->Int->OL
  | 0,_=>none
  | n+1,i1=>Z7y k1 a1 k2 (Z0u k1 a1 k2 n) i1
def Z7x (k1:(LI)->OL) (k2:(LI)->OL) (a1:LI):OL :=
 jn (fun (_:Unit)=>opt (Z6h a1 G_order) fun y1 =>
 k2 y1.1) fun k3=>Z0u k1 a1 k3 big 3
def Z3x (k1:(LI)->OL):Nat->(LI)->OL
  | 0,_=>none
  | n+1,a1=>Z7x k1 (Z3x k1 n) a1
def Z7w (p0:LI):OL :=
 jn (fun (a1:LI)=>some a1) fun k1=>Z3x k1 big p0
theorem Zer {W:World} {r:(LI)} {p0:LI} (h:Z7w p0=some r) (hG:Globs W) :
    Calls Tryz.prog 349 [agg [.ints .u64 4 (p0)]].toArray W (Z3c W (agg [.ints .u64 4 (r)])):=by
 unfold Z7w at h
 refine Za mo Z0oz rfl ?_
 refine Z0<|Z1<|Zc (Z06 (s:=[.ints .u64 4 (p0)]) rfl fun b1 u1=>Zc (Zu fun b2 u2=>Z2<|Z028<|Z0<|Z0hq<|Z0<|jH h fun k1 q1 h=>Zo (G:=fun t m=>∃ (a1:LI),k1 a1=some r/\Fit [(1,pt' b1),(2,pt' b2)] (ck b2 393 [.ints .u64 4 ((replicate 4 0))]::(ck b1 393 [.ints .u64 4 (a1)] :: [])) t m) ?_ ?_))
 ·refine Zd<|Z07 (fun n1 t m=>∃ (a2:LI),Z3x k1 n1 a2=some r/\Fit [(1,pt' b1),(2,pt' b2)] (ck b2 393 [.ints .u64 4 ((replicate 4 0))]::(ck b1 393 [.ints .u64 4 (a2)] :: [])) t m) big ?_ ?_
  ·exact ⟨p0,h,⟨⟨rfl,rfl,trivial⟩,(.o (.o .nil))⟩⟩
  ·rintro n1 t m ⟨a2,h,hF⟩
   refine Zm hF ?_
   clear hF
   rcases n1 with _ | n1
   · exact Z1r h
   have h:Z7x k1 (Z3x k1 n1) a2=some r:=h
   unfold Z7x at h
   obtain ⟨k2,q2⟩ : ∃ k,k=Z3x k1 n1:=⟨_,rfl⟩
   try rw [<- q2] at h
   refine Zd<|Z0<|Z0<|Z1<|Z8 rfl<|Z2<|jH h fun k3 q3 h=>Zo (G:=fun t m=>k3 ()=some r/\Fit [(1,pt' b1),(2,pt' b2)] (ck b2 393 [.ints .u64 4 ((replicate 4 0))]::(ck b1 393 [.ints .u64 4 (a2)] :: [])) t m) ?_ ?_
   ·refine Zd<|Z07 (fun n2 t m=>∃ (i1:Int),Z0u k1 a2 k3 n2 i1=some r/\Fit [(1,pt' b1),(2,pt' b2),(3,.int .i64 (i1))] (ck b2 393 [.ints .u64 4 ((replicate 4 0))]::(ck b1 393 [.ints .u64 4 (a2)] :: [])) t m) big ?_ ?_
    ·exact ⟨3,h,⟨⟨rfl,rfl,rfl,trivial⟩,(.o (.o .nil))⟩⟩
    ·rintro n2 t m ⟨i1,h,hF⟩
     refine Zm hF ?_
     clear hF
     rcases n2 with _ | n2
     · exact Z1r h
     have h:Z7y k1 a2 k3 (Z0u k1 a2 k3 n2) i1=some r:=h
     unfold Z7y at h
     obtain ⟨k4,q4⟩ : ∃ k,k=Z0u k1 a2 k3 n2:=⟨_,rfl⟩
     try rw [<- q4] at h
     refine Z0<|Z0<|Z1<|Z8 rfl<|Z4 _ (Zb rfl rfl rfl)<|Z2<|Z0r h rfl (fun h=>?_) (fun h=>?_)
     ·refine Zn<|Z0<|Zd<|Z0<|Z0<|cH h fun c1 h=>cH h fun c2 h=>bH h fun z1 e1 h=>bH h fun z2 e2 h=>Zv<|Z6 _ (Z04 rfl)<|Z6 _ (Z3f rfl rfl (Z1w c1))<|Z6 _ (Z04 rfl)<|Z6 _ (Z3f rfl rfl (Z1w c2))<|Zh _ (iz e1 (Z9f (base:=0) rfl .t1 rfl (Z1i c1)))<|Zh _ (iz e2 (Zyi rfl (hG.g3) (by simp) (Z1i c2)))<|Z6 _ (Zb rfl rfl rfl)<|Zy<|Z0r h rfl (fun h=>?_) (fun h=>?_)
      ·exact Z0l _ rfl<|⟨a2,h,⟨⟨rfl,rfl,trivial⟩,(.o (.o .nil))⟩⟩
      ·refine Zn<|Z0<|cH h fun c3 h=>cH h fun c4 h=>bH h fun z3 e3 h=>bH h fun z4 e4 h=>Zv<|Z6 _ (Z04 rfl)<|Z6 _ (Z3f rfl rfl (Z1w c3))<|Z6 _ (Z04 rfl)<|Z6 _ (Z3f rfl rfl (Z1w c4))<|Zh _ (iz e3 (Z9f (base:=0) rfl .t1 rfl (Z1i c3)))<|Zh _ (iz e4 (Zyi rfl (hG.g3) (by simp) (Z1i c4)))<|Z6 _ (Zb rfl rfl rfl)<|Zy<|Z0r h rfl (fun h=>?_) (fun h=>?_)
       ·exact Z0l _ rfl<|⟨h,⟨⟨rfl,rfl,trivial⟩,(.o (.o .nil))⟩⟩
       ·refine Zn<|bH h fun z5 e5 h=>Z1<|Z8 rfl<|Z4 _ (iz e5 (Zb rfl rfl rfl))<|Z8 rfl<|Z2 ?_
        rw [q4] at h
        exact ⟨n2,Nat.lt_succ_self _,z5,h,⟨⟨rfl,rfl,rfl,trivial⟩,(.o (.o .nil))⟩⟩
     ·exact Z0l _ rfl<|⟨h,⟨⟨rfl,rfl,trivial⟩,(.o (.o .nil))⟩⟩
   ·rintro t m ⟨h,hF⟩
    refine Zm hF ?_
    clear hF
    subst q3
    refine oH h fun y1 f1 h=>Z1<|Z4 _ (Z00 (p:=[.ints .u64 4 (a2)]) rfl .t1 rfl)<|Z4 _ (Zqh (o0:=0) (off:=0) rfl (hG.g3) (by simp) rfl)<|Z4 _ (Z1d rfl (Zax f1))<|Z8 rfl<|Z4 _ (Z17 rfl rfl)<|Z4 _ (Z17 rfl rfl)<|Zc (Zl (q:=[.ints .u64 4 (y1.1)]) rfl rfl rfl rfl rfl .t1<|Z2 ?_)
    rw [q2] at h
    exact ⟨n1,Nat.lt_succ_self _,y1.1,h,⟨⟨rfl,rfl,trivial⟩,(.o (.o .nil))⟩⟩
 ·rintro t m ⟨a1,h,hF⟩
  refine Zm hF ?_
  clear hF
  subst q1
  refine Z0<|Z1<|Z4 _ (Z00 (p:=[.ints .u64 4 (a1)]) rfl .t1 rfl)<|Zc (Zl (q:=[.ints .u64 4 (a1)]) rfl rfl rfl rfl rfl .here<|Z2<|Zf ?_)
  revert h; refine Z01 fun h=>?_
  subst h
  exact ⟨_,(.cons (.agg rfl .here rfl) .nil),rfl⟩
def Z4w (p1:LI) (i1:Int) (z1:Int) (k1:(LI)->Int->OL) (k2:(LI)->Int->Int->OL) (l1:LI) (i2:Int) (i3:Int):OL :=
 br ((decide (i3<(p1.length:Int)))) (
 chk (inB i3 p1.length) <|
 bnd (p1.getD (i3).toNat 0) fun z2 =>
 opt (Z63 z1 z2) fun y1 =>
 bnd (wrap .i64 (i1+i3)) fun z3 =>
 chk (inB z3 l1.length) <|
 bnd (l1.getD (z3).toNat 0) fun z4 =>
 chk (Zfu y1.2 z4 0) <|
 bnd (Zbb y1.2 z4 0) fun z5 =>
 bnd (Zg6 y1.2 z4 0) fun z6 =>
 bnd (wrap .u64 (y1.1+z6)) fun z7 =>
 chk (Zfu z5 i2 0) <|
 bnd (Zbb z5 i2 0) fun z8 =>
 bnd (Zg6 z5 i2 0) fun z9 =>
 bnd (wrap .i64 (i1+i3)) fun z10 =>
 bnd (wrap .u64 (z7+z9)) fun z11 =>
 chk (inB z10 l1.length) <|
 bnd (Zji 0 l1 (z10).toNat z8) fun l2 =>
 bnd (wrap .i64 (i3+1)) fun z12 =>
 k2 l2 z11 z12
 ) (
 k1 l1 i2
 )
def Z21 (p1:LI) (i1:Int) (z1:Int) (k1:(LI)->Int->OL):Nat->(LI)->Int->Int->OL
  | 0,_,_,_=>none
  | n+1,l1,i2,i3=>Z4w p1 i1 z1 k1 (Z21 p1 i1 z1 k1 n) l1 i2 i3
def Z4v (p0:LI) (p1:LI) (k1:(LI)->OL) (k2:(LI)->Int->OL) (l1:LI) (i1:Int):OL :=
 br ((decide (i1<(p0.length:Int)))) (
 chk (inB i1 p0.length) <|
 bnd (p0.getD (i1).toNat 0) fun z1 =>
 jn (fun (l2:LI) (i2:Int)=>bnd (wrap .i64 (i1+(p1.length:Int))) fun z2 =>
 chk (inB z2 l2.length) <|
 bnd (Zji 0 l2 (z2).toNat i2) fun l3 =>
 bnd (wrap .i64 (i1+1)) fun z3 =>
 k2 l3 z3) fun k3=>Z21 p1 i1 z1 k3 big l1 0 0
 ) (
 k1 l1
 )
def Z20 (p0:LI) (p1:LI) (k1:(LI)->OL):Nat->(LI)->Int->OL
  | 0,_,_=>none
  | n+1,l1,i1=>Z4v p0 p1 k1 (Z20 p0 p1 k1 n) l1 i1
def Z6k (p0:LI) (p1:LI):OL :=
 bnd (wrap .i64 ((p0.length:Int)+(p1.length:Int))) fun z1 =>
 chk (mkB 8 z1 z1) <|
 jn (fun (l1:LI)=>some l1) fun k1=>Z20 p0 p1 k1 big (replicate (z1).toNat 0:LI) 0
theorem Zes {W:World} {r:(LI)} {p0:LI} {p1:LI} {v0:Value} {v1:Value} (h:Z6k p0 p1=some r) (A0:Z6m (El.int .u64) W v0 p0) (A1:Z6m (El.int .u64) W v1 p1) :
    Calls Tryz.prog 350 [v0,v1].toArray W (Z8e W [] (fun v Ms=>∃ (u0:Value) (M1:List Ze),v=u0/\Ms = [.all M1]/\Z09 (El.int .u64) u0 M1 r)):=by
 unfold Z6k at h
 refine Zs mo Z0p0 rfl (Zez _) ?_
 refine Z0<|Z1<|Z8 rfl<|Z2<|Z0<|bH h fun z1 e1 h=>cH h fun c1 h=>Z1<|Z8 rfl<|Z4 _ (Z5j rfl (Shp.rd A0))<|Z8 rfl<|Z4 _ (Z5j rfl (Shp.rd A1))<|Z4 _ (iz e1 (Zb rfl rfl rfl))<|Zc (Zf4 (E:=(El.int .u64)) rfl rfl rfl c1 fun v5 w1 O1=>Z8 rfl<|Z2<|Z0<|Z0<|Z1<|Z8 rfl<|Z4 _ (Z5j rfl (Shp.rd A0))<|Z8 rfl<|Z2<|jH h fun k1 q1 h=>Zo (G:=fun t m=>∃ (l1:LI) (v679:Value) (w2:List Ze),k1 l1=some r/\Z09 (El.int .u64) v679 w2 l1/\Fit [(5,v679)] (w2 ++ []) t m) ?_ ?_)
 ·refine Zd<|Z07 (fun n1 t m=>∃ (l2:LI) (i1:Int) (v1126:Value) (w3:List Ze),Z20 p0 p1 k1 n1 l2 i1=some r/\Z09 (El.int .u64) v1126 w3 l2/\Fit [(1,v1),(5,v1126),(20,v0),(21,.int .i64 ((p0.length:Int))),(22,.int .i64 (i1))] (w3 ++ []) t m) big ?_ ?_
  ·exact ⟨(replicate (z1).toNat 0:LI),0,v5,w1,h,O1,⟨⟨rfl,rfl,rfl,rfl,rfl,trivial⟩,(.all .here .nil)⟩⟩
  ·rintro n1 t m ⟨l2,i1,v1126,w3,h,O2,hF⟩
   refine Zm hF ?_
   clear hF
   rcases n1 with _ | n1
   · exact Z1r h
   have h:Z4v p0 p1 k1 (Z20 p0 p1 k1 n1) l2 i1=some r:=h
   unfold Z4v at h
   obtain ⟨k2,q2⟩ : ∃ k,k=Z20 p0 p1 k1 n1:=⟨_,rfl⟩
   try rw [<- q2] at h
   refine Z0<|Z1<|Z4 _ (Zb rfl rfl rfl)<|Z2<|Z0<|Z0r h rfl (fun h=>?_) (fun h=>?_)
   ·refine Zn<|Z0<|Zd<|Z0<|cH h fun c2 h=>bH h fun z2 e2 h=>Z1<|Z8 rfl<|Z4 _ (Z7u rfl rfl (Shp.rd A0) c2)<|Z4 _ (iz e2 (Zaq (E:=(El.int .u64)) (s:=[.one (.int .u64 (p0.getD (i1).toNat 0))]) rfl (Z1m A0 Z1u) (Z1i c2) rfl rfl))<|Z8 rfl<|Z8 rfl<|Z2<|Z0<|Z1<|Z8 rfl<|Z2<|Z0<|Z0<|Z1<|Z8 rfl<|Z4 _ (Z5j rfl (Shp.rd A1))<|Z8 rfl<|Z2<|jH h fun k3 q3 h=>Zo (G:=fun t m=>∃ (l3:LI) (i2:Int) (v1240:Value) (w4:List Ze),k3 l3 i2=some r/\Z09 (El.int .u64) v1240 w4 l3/\Fit [(1,v1),(5,v1240),(6,.int .i64 (i1)),(8,.int .u64 (i2)),(20,v0),(21,.int .i64 ((p0.length:Int))),(22,.int .i64 (i1))] (w4 ++ []) t m) ?_ ?_
    ·refine Zd<|Z07 (fun n2 t m=>∃ (l4:LI) (i3:Int) (i4:Int) (v1309:Value) (w5:List Ze),Z21 p1 i1 z2 k3 n2 l4 i3 i4=some r/\Z09 (El.int .u64) v1309 w5 l4/\Fit [(1,v1),(5,v1309),(6,.int .i64 (i1)),(7,.int .u64 (z2)),(8,.int .u64 (i3)),(20,v0),(21,.int .i64 ((p0.length:Int))),(22,.int .i64 (i1)),(27,v1),(28,.int .i64 ((p1.length:Int))),(29,.int .i64 (i4))] (w5 ++ []) t m) big ?_ ?_
     ·exact ⟨l2,0,0,v1126,w3,h,O2,⟨⟨rfl,rfl,rfl,rfl,rfl,rfl,rfl,rfl,rfl,rfl,rfl,trivial⟩,(.all .here .nil)⟩⟩
     ·rintro n2 t m ⟨l4,i3,i4,v1309,w5,h,O3,hF⟩
      refine Zm hF ?_
      clear hF
      rcases n2 with _ | n2
      · exact Z1r h
      have h:Z4w p1 i1 z2 k3 (Z21 p1 i1 z2 k3 n2) l4 i3 i4=some r:=h
      unfold Z4w at h
      obtain ⟨k4,q4⟩ : ∃ k,k=Z21 p1 i1 z2 k3 n2:=⟨_,rfl⟩
      try rw [<- q4] at h
      refine Z0<|Z1<|Z4 _ (Zb rfl rfl rfl)<|Z2<|Z0<|Z0r h rfl (fun h=>?_) (fun h=>?_)
      ·refine Zn<|Z0<|Zd<|Z0<|cH h fun c3 h=>bH h fun z3 e3 h=>Z1<|Z8 rfl<|Z4 _ (Z7u rfl rfl (Shp.rd A1) c3)<|Z4 _ (iz e3 (Zaq (E:=(El.int .u64)) (s:=[.one (.int .u64 (p1.getD (i4).toNat 0))]) rfl (Z1m A1 Z1u) (Z1i c3) rfl rfl))<|Z8 rfl<|Z8 rfl<|Z2<|Z0<|oH h fun y1 f1 h=>Z1<|Z8 rfl<|Z8 rfl<|Z4 _ (Z1d rfl (Zc3 f1))<|Z8 rfl<|Z4 _ (Z17 rfl rfl)<|Z4 _ (Z17 rfl rfl)<|Z8 rfl<|Z8 rfl<|Z2<|Z0<|bH h fun z4 e4 h=>cH h fun c4 h=>bH h fun z5 e5 h=>cH h fun c5 h=>bH h fun z6 e6 h=>bH h fun z7 e7 h=>Z1<|Z8 rfl<|Z8 rfl<|Z8 rfl<|Z8 rfl<|Z4 _ (iz e4 (Zb rfl rfl rfl))<|Z4 _ (Z7u rfl rfl (Shp.own O3) c4)<|Z4 _ (iz e5 (Zaq (E:=(El.int .u64)) (s:=[.one (.int .u64 (l4.getD (z4).toNat 0))]) rfl (Z0b O3 .here) (Z1i c4) rfl rfl))<|Z4 _ (Zgt rfl Zid (xadd e6 e7 c5))<|Z8 rfl<|Z4 _ (Z17 rfl rfl)<|Z4 _ (Z17 rfl rfl)<|Z8 rfl<|Z8 rfl<|Z2<|Z0<|bH h fun z8 e8 h=>Z1<|Z8 rfl<|Z8 rfl<|Z4 _ (iz e8 (Zb rfl rfl rfl))<|Z8 rfl<|Z2<|Z0<|cH h fun c6 h=>bH h fun z9 e9 h=>bH h fun z10 e10 h=>Z1<|Z8 rfl<|Z8 rfl<|Z4 _ (Zgt rfl Zid (xadd e9 e10 c6))<|Z8 rfl<|Z4 _ (Z17 rfl rfl)<|Z4 _ (Z17 rfl rfl)<|Z8 rfl<|Z8 rfl<|Z2<|bH h fun z11 e11 h=>bH h fun z12 e12 h=>cH h fun c7 h=>bH h fun l5 g1 h=>Z1<|Z8 rfl<|Z8 rfl<|Z8 rfl<|Z4 _ (iz e11 (Zb rfl rfl rfl))<|Z8 rfl<|Z8 rfl<|Z8 rfl<|Z4 _ (iz e12 (Zb rfl rfl rfl))<|Z4 _ (Z7u rfl rfl (Shp.own O3) c7)<|Zc (Zlp (E:=(El.int .u64)) g1 O3 .here rfl rfl rfl (Z1i c7) fun w6 O4=>Z8 rfl<|Z2<|bH h fun z13 e13 h=>Z1<|Z4 _ (iz e13 (Zb rfl rfl rfl))<|Z8 rfl<|Z2 ?_)
       rw [q4] at h
       exact ⟨n2,Nat.lt_succ_self _,l5,z12,z13,v1309,w6,h,O4,⟨⟨rfl,rfl,rfl,rfl,rfl,rfl,rfl,rfl,rfl,rfl,rfl,trivial⟩,(.all .here .nil)⟩⟩
      ·exact Z0l _ rfl<|⟨l4,i3,v1309,w5,h,O3,⟨⟨rfl,rfl,rfl,rfl,rfl,rfl,rfl,trivial⟩,(.all .here .nil)⟩⟩
    ·rintro t m ⟨l3,i2,v1240,w4,h,O5,hF⟩
     refine Zm hF ?_
     clear hF
     subst q3
     refine bH h fun z14 e14 h=>cH h fun c8 h=>bH h fun l6 g2 h=>Z1<|Z8 rfl<|Z8 rfl<|Z8 rfl<|Z4 _ (Z5j rfl (Shp.rd A1))<|Z4 _ (iz e14 (Zb rfl rfl rfl))<|Z8 rfl<|Z4 _ (Z7u rfl rfl (Shp.own O5) c8)<|Zc (Zlp (E:=(El.int .u64)) g2 O5 .here rfl rfl rfl (Z1i c8) fun w7 O6=>Z2<|bH h fun z15 e15 h=>Z1<|Z4 _ (iz e15 (Zb rfl rfl rfl))<|Z8 rfl<|Z2 ?_)
     rw [q2] at h
     exact ⟨n1,Nat.lt_succ_self _,l6,z15,v1240,w7,h,O6,⟨⟨rfl,rfl,rfl,rfl,rfl,trivial⟩,(.all .here .nil)⟩⟩
   ·exact Z0l _ rfl<|⟨l2,v1126,w3,h,O2,⟨⟨rfl,trivial⟩,(.all .here .nil)⟩⟩
 ·rintro t m ⟨l1,v679,w2,h,O7,hF⟩
  refine Zm hF ?_
  clear hF
  subst q1
  refine Z0<|Z1<|Z8 rfl<|Z8 rfl<|Z2<|Zf ?_
  revert h; refine Z01 fun h=>?_
  subst h
  exact ⟨_,_,(.cons (.tmp rfl) .nil),(.all .here .nil),⟨_,rfl,⟨v679,w2,rfl,rfl,O7⟩⟩⟩
def Z2k (p0:LI) (k1:(LI)->Option ((LI)×(LI))) (k2:(LI)->Int->Option ((LI)×(LI))) (l1:LI) (i1:Int):Option ((LI)×(LI)) :=
 br ((decide (i1<(p0.length:Int)))) (
 chk (inB i1 p0.length) <|
 bnd (p0.getD (i1).toNat 0) fun z1 =>
 bnd (Zr .u64 z1 60) fun z2 =>
 bnd (wrap .i64 (i1+1)) fun z3 =>
 jn (fun (i2:Int)=>chk (decide ((l1.length+([i2]:LI).length)*8<=140737488355328)) <|
 bnd (l1++([i2]:LI)) fun l2 =>
 bnd (wrap .i64 (i1+1)) fun z4 =>
 k2 l2 z4) fun k3=>br ((decide (z3<(p0.length:Int)))) (
 bnd (wrap .i64 (i1+1)) fun z5 =>
 chk (inB z5 p0.length) <|
 bnd (p0.getD (z5).toNat 0) fun z6 =>
 bnd (Z02 .u64 z6 4) fun z7 =>
 bnd (Z7 .or .u64 z2 z7) fun z8 =>
 k3 z8
 ) (
 k3 z2
 )
 ) (
 k1 l1
 )
def Z1b (p0:LI) (k1:(LI)->Option ((LI)×(LI))):Nat->(LI)->Int->Option ((LI)×(LI))
  | 0,_,_=>none
  | n+1,l1,i1=>Z2k p0 k1 (Z1b p0 k1 n) l1 i1
def Z6i (p0:LI):Option ((LI)×(LI)) :=
 bnd (wr (replicate 4 0) 0 (p0.take 4)) fun l1 =>
 bnd (l1.getD 3 0) fun z1 =>
 bnd (Z7 .and .u64 z1 1152921504606846975) fun z2 =>
 bnd (Z3z l1 3 z2) fun l2 =>
 jn (fun (l3:LI)=>some (l2,l3)) fun k1=>Z1b p0 k1 big [] 3
theorem Zk9 {W:World} {r:(LI)×(LI)} {p0:LI} {v0:Value} (h:Z6i p0=some r) (A0:Z6m (El.int .u64) W v0 p0) :
    Calls Tryz.prog 360 [v0].toArray W (Z8e W [] (fun v Ms=>∃ (u1:Value) (M1:List Ze),v = .tuple #[agg [.ints .u64 4 (r.1)],u1]/\Ms = [.all M1]/\Z09 (El.int .u64) u1 M1 r.2)):=by
 unfold Z6i at h
 refine Zs mo Z0p7 rfl (Zez _) ?_
 refine Z0<|Z1<|Zc (Zu fun b1 hb1=>Z8 rfl<|Z2<|Z0<|Z1<|Zc (Zu fun b2 hb2=>Z2<|Z0<|bH h fun l1 g1 h=>Z1<|Z4 _ (Z88 rfl .no .no .no (by simp) (by decide))<|Z8 rfl<|Zc (Zf3 (q:=[.ints .u64 4 (l1)]) (lo:=0) (hi:=4) (mz:=4) (base:=0) (cpy0 g1) rfl rfl (Z1m A0 Z1u) rfl (by decide) rfl .here<|Z2<|Z0<|bH h fun z1 e1 h=>bH h fun z2 e2 h=>bH h fun l2 g2 h=>Z1<|Z4 _ (Z3f rfl rfl (by decide))<|Z4 _ (iz e1 (Z0p rfl .here rfl))<|Z4 _ (iz e2 (Zb rfl rfl rfl))<|Z4 _ (Z3f rfl rfl (by decide))<|Zc (Zbx (q:=[.ints .u64 4 (l2)]) (congrArg (fun z=>([.ints .u64 4 (z)]:List Seg)) g2.symm) rfl rfl rfl rfl .here<|Z2<|Z0<|Z1<|Z8 rfl<|Z2<|Z0<|Z0<|Z1<|Z8 rfl<|Z2<|jH h fun k1 q1 h=>Zo (G:=fun t m=>∃ (l3:LI) (v126:Value) (w1:List Ze),k1 l3=some r/\Z09 (El.int .u64) v126 w1 l3/\Fit [(2,pt' b1),(4,pt' b2),(5,v126)] (ck b2 393 [.ints .u64 4 (l2)]::(ck b1 393 [.ints .u64 4 ((replicate 4 0))]::(w1 ++ []))) t m) ?_ ?_))))
 ·refine Zd<|Z07 (fun n1 t m=>∃ (l4:LI) (i1:Int) (v202:Value) (w2:List Ze),Z1b p0 k1 n1 l4 i1=some r/\Z09 (El.int .u64) v202 w2 l4/\Fit [(0,v0),(2,pt' b1),(4,pt' b2),(5,v202),(6,.int .i64 (i1))] (ck b2 393 [.ints .u64 4 (l2)]::(ck b1 393 [.ints .u64 4 ((replicate 4 0))]::(w2 ++ []))) t m) big ?_ ?_
  ·exact ⟨[],3,(.slice none 0 0),[],h,Zao,⟨⟨rfl,rfl,rfl,rfl,rfl,trivial⟩,(.o (.o (.no .nil)))⟩⟩
  ·rintro n1 t m ⟨l4,i1,v202,w2,h,O1,hF⟩
   refine Zm hF ?_
   clear hF
   rcases n1 with _ | n1
   · exact Z1r h
   have h:Z2k p0 k1 (Z1b p0 k1 n1) l4 i1=some r:=h
   unfold Z2k at h
   obtain ⟨k2,q2⟩ : ∃ k,k=Z1b p0 k1 n1:=⟨_,rfl⟩
   try rw [<- q2] at h
   refine Z0<|Z0<|Z1<|Z8 rfl<|Z8 rfl<|Z4 _ (Z5j rfl (Shp.rd A0))<|Z4 _ (Zb rfl rfl rfl)<|Z2<|Z0r h rfl (fun h=>?_) (fun h=>?_)
   ·refine Zn<|Z0<|Zd<|Z0<|cH h fun c1 h=>bH h fun z3 e3 h=>bH h fun z4 e4 h=>Z1<|Z8 rfl<|Z8 rfl<|Z4 _ (Z7u rfl rfl (Shp.rd A0) c1)<|Z4 _ (iz e3 (Zaq (E:=(El.int .u64)) (s:=[.one (.int .u64 (p0.getD (i1).toNat 0))]) rfl (Z1m A0 Z1u) (Z1i c1) rfl rfl))<|Z4 _ (iz e4 (Z8w rfl rfl (by decide)))<|Z8 rfl<|Z2<|Z0<|Z0<|bH h fun z5 e5 h=>Z1<|Z8 rfl<|Z4 _ (iz e5 (Zb rfl rfl rfl))<|Z8 rfl<|Z4 _ (Z5j rfl (Shp.rd A0))<|Z4 _ (Zb rfl rfl rfl)<|Z2<|jH h fun k3 q3 h=>Zo (G:=fun t m=>∃ (i2:Int),k3 i2=some r/\Fit [(0,v0),(2,pt' b1),(4,pt' b2),(5,v202),(6,.int .i64 (i1)),(7,.int .u64 (i2))] (ck b2 393 [.ints .u64 4 (l2)]::(ck b1 393 [.ints .u64 4 ((replicate 4 0))]::(w2 ++ []))) t m) ?_ ?_
    ·refine Z0r h rfl (fun h=>?_) (fun h=>?_)
     ·exact bH h fun z6 e6 h=>cH h fun c2 h=>bH h fun z7 e7 h=>bH h fun z8 e8 h=>bH h fun z9 e9 h=>Z1<|Z8 rfl<|Z8 rfl<|Z8 rfl<|Z4 _ (iz e6 (Zb rfl rfl rfl))<|Z4 _ (Z7u rfl rfl (Shp.rd A0) c2)<|Z4 _ (iz e7 (Zaq (E:=(El.int .u64)) (s:=[.one (.int .u64 (p0.getD (z6).toNat 0))]) rfl (Z1m A0 Z1u) (Z1i c2) rfl rfl))<|Z4 _ (iz e8 (Zm6 rfl rfl (by decide)))<|Z4 _ (iz e9 (Zb rfl rfl rfl))<|Z8 rfl<|Z2<|⟨z9,h,⟨⟨rfl,rfl,rfl,rfl,rfl,rfl,trivial⟩,(.o (.o (.all .here .nil)))⟩⟩
     ·exact Zn<|⟨z4,h,⟨⟨rfl,rfl,rfl,rfl,rfl,rfl,trivial⟩,(.o (.o (.all .here .nil)))⟩⟩
    ·rintro t m ⟨i2,h,hF⟩
     refine Zm hF ?_
     clear hF
     subst q3
     refine cH h fun c3 h=>bH h fun l5 g3 h=>Z1<|Z8 rfl<|Z8 rfl<|Zc (Z54 (E:=(El.int .u64)) (xs:=[i2]) (.one rfl rfl rfl BdR.nil) (.cons (p:=[.one (.int .u64 (i2))]) rfl .nil) rfl fun v234 w3 O2=>Zc (Z9r (E:=(El.int .u64)) g3 rfl O1 (.app .t2) rfl (Z0b O2 .here) c3 fun v239 w4 O3=>Z8 rfl<|Z2<|bH h fun z10 e10 h=>Z1<|Z8 rfl<|Z4 _ (iz e10 (Zb rfl rfl rfl))<|Z8 rfl<|Z2 ?_))
     rw [q2] at h
     exact ⟨n1,Nat.lt_succ_self _,l5,z10,v239,w4,h,O3,⟨⟨rfl,rfl,rfl,rfl,rfl,trivial⟩,(.one (.app (.app .here)) (.one (.app (.app .here)) (.all .here .nil)))⟩⟩
   ·exact Z0l _ rfl<|⟨l4,v202,w2,h,O1,⟨⟨rfl,rfl,rfl,trivial⟩,(.o (.o (.all .here .nil)))⟩⟩
 ·rintro t m ⟨l3,v126,w1,h,O4,hF⟩
  refine Zm hF ?_
  clear hF
  subst q1
  refine Z0<|Z1<|Z4 _ (Z00 (p:=[.ints .u64 4 (l2)]) rfl .here rfl)<|Z8 rfl<|Zc (Zl (q:=[.ints .u64 4 (l2)]) rfl rfl rfl rfl rfl .t1<|Z8 rfl<|Z2<|Zf ?_)
  revert h; refine Z01 fun h=>?_
  subst h
  exact ⟨_,_,(.cons (.agg rfl .t1 rfl) (.cons (.tmp rfl) .nil)),(.all .t2 .nil),⟨_,rfl,⟨v126,w1,rfl,rfl,O4⟩⟩⟩
def Zcz:OL :=
 some ([6346243789798364141,1503914060200516822]:LI)
theorem Zkv {W:World} {r:(LI)} (h:Zcz=some r)  :
    Calls Tryz.prog 361 [].toArray W (Z8e W [] (fun v Ms=>∃ (u0:Value) (M1:List Ze),v=u0/\Ms = [.all M1]/\Z09 (El.int .u64) u0 M1 r)):=by
 unfold Zcz at h
 refine Zs mo Z0p8 rfl (Zez _) ?_
 refine Z0<|Z1<|Z8 rfl<|Z2<|Z0<|Z1<|Zc (Z54 (E:=(El.int .u64)) (xs:=[6346243789798364141,1503914060200516822]) (.one rfl rfl rfl (.one rfl rfl rfl BdR.nil)) (.cons (p:=[.one (.int .u64 (6346243789798364141))]) rfl (.cons (p:=[.one (.int .u64 (1503914060200516822))]) rfl .nil)) rfl fun v3 w1 O1=>Z8 rfl<|Z2<|Zf ?_)
 revert h; refine Z01 fun h=>?_
 subst h
 exact ⟨_,_,(.cons (.tmp rfl) .nil),(.all .here .nil),⟨_,rfl,⟨v3,w1,rfl,rfl,O1⟩⟩⟩
abbrev Z5v:El (LI):=⟨4,fun x=>cells [.ints .u64 4 (x)],fun x=>by rw [cells_length]; rfl,fun x=>(Z0y Z9x Z52),by decide,(replicate 4 0)⟩
def Z49 (k1:(List (LI))->OL) (k2:(LI)->Int->(List (LI))->OL) (l1:LI) (i1:Int) (a1:List (LI)):OL :=
 br ((decide (i1<4))) (
 opt (Z6i l1) fun y1 =>
 bnd (Int.tmod i1 2) fun z1 =>
 bnd (Int.tmod i1 2) fun z2 =>
 chk (inB z2 2) <|
 bnd (a1.getD (z2).toNat (replicate 4 0)) fun x1 =>
 opt (Z5p x1 y1.1) fun y2 =>
 chk (inB z1 2) <|
 bnd (Zji (replicate 4 0) a1 (z1).toNat y2.1) fun l2 =>
 opt (Zcz ) fun y3 =>
 opt (Z6k y1.2 y3) fun y4 =>
 bnd (wrap .i64 (i1+1)) fun z3 =>
 k2 y4 z3 l2
 ) (
 k1 a1
 )
def Z1a (k1:(List (LI))->OL):Nat->(LI)->Int->(List (LI))->OL
  | 0,_,_,_=>none
  | n+1,l1,i1,a1=>Z49 k1 (Z1a k1 n) l1 i1 a1
def Z4j (p0:LI):OL :=
 jn (fun (a1:List (LI))=>opt (Z5p G_order G_order) fun y1 =>
 bnd (a1.getD 0 (replicate 4 0)) fun x1 =>
 opt (Z5p x1 y1.1) fun y2 =>
 bnd (a1.getD 1 (replicate 4 0)) fun x2 =>
 opt (Z6h y2.1 x2) fun y3 =>
 opt (Z7w y3.1) fun y4 =>
 some y4) fun k1=>Z1a k1 big p0 0 (replicate 2 (replicate 4 0))
theorem Za2 {W:World} {r:(LI)} {p0:LI} {v0:Value} (h:Z4j p0=some r) (hG:Globs W) (A0:Z6m (El.int .u64) W v0 p0) :
    Calls Tryz.prog 346 [v0].toArray W (Z3c W (agg [.ints .u64 4 (r)])):=by
 unfold Z4j at h
 refine Za mo Z0ow rfl ?_
 refine Z0<|Z1<|Zc (Zu fun b1 u1=>Z2<|Z0<|Z1<|Zc (Zkj (z':=[.rows 4 2 (Zaa Z5v ((replicate 2 (replicate 4 0))))]) (Zde (E:=Z5v) rfl rfl) fun b2 u2=>Z2<|Z0<|Z0<|Z1<|Z8 rfl<|Z2<|jH h fun k1 q1 h=>Zo (G:=fun t m=>∃ (a1:List (LI)),k1 a1=some r/\Fit [(2,pt' b1),(3,pt' b2)] (ck b2 415 [.rows 4 2 (Zaa Z5v (a1))]::(ck b1 393 [.ints .u64 4 ((replicate 4 0))] :: [])) t m) ?_ ?_))
 ·refine Zd<|Z07 (fun n1 t m=>∃ (l1:LI) (i1:Int) (a2:List (LI)) (v194:Value) (w1:List Ze),Z1a k1 n1 l1 i1 a2=some r/\Zms (⟨Tryz.prog,d346.n,W,[]⟩:Cfg) w1 (El.int .u64) v194 l1/\Shp v194 l1.length/\Fit [(0,v194),(2,pt' b1),(3,pt' b2),(10,.int .i64 (i1))] (ck b2 415 [.rows 4 2 (Zaa Z5v (a2))]::(ck b1 393 [.ints .u64 4 ((replicate 4 0))]::(w1 ++ []))) t m) big ?_ ?_
  ·exact ⟨p0,0,(replicate 2 (replicate 4 0)),v0,[],h,(Z1m A0 Z1u),(Shp.rd A0),⟨⟨rfl,rfl,rfl,rfl,trivial⟩,(.o (.o (.no .nil)))⟩⟩
  ·rintro n1 t m ⟨l1,i1,a2,v194,w1,h,H197,Z198,hF⟩
   refine Zm hF ?_
   clear hF
   rcases n1 with _ | n1
   · exact Z1r h
   have h:Z49 k1 (Z1a k1 n1) l1 i1 a2=some r:=h
   unfold Z49 at h
   obtain ⟨k2,q2⟩ : ∃ k,k=Z1a k1 n1:=⟨_,rfl⟩
   try rw [<- q2] at h
   refine Z0<|Z1<|Z4 _ (Zb rfl rfl rfl)<|Z2<|Z0<|Z0r h rfl (fun h=>?_) (fun h=>?_)
   ·refine Zn<|Z0<|Zd<|Z0<|Z1<|Z8 rfl<|Z8 rfl<|Z2<|Z0<|Z1<|Zc (Zu fun b3 u3=>Z2<|Z0<|oH h fun y1 f1 h=>Z1<|Z8 rfl<|Zc (Zk rfl (fun w hw=>Zk9 (r:=y1) (p0:=l1) f1 ((Zyn H197 .t3) w hw)) fun v210 Msv1 R1=>?_))
    obtain ⟨v212,w2,rfl,rfl,O1⟩:=R1
    refine Z8 rfl<|Z4 _ (Z17 rfl rfl)<|Z4 _ (Z17 rfl rfl)<|Zc (Zl (q:=[.ints .u64 4 (y1.1)]) rfl rfl rfl rfl rfl (.app .here)<|Z8 rfl<|Z2<|Z0<|bH h fun z1 e1 h=>bH h fun z2 e2 h=>cH h fun c1 h=>bH h fun x1 j1 h=>oH h fun y2 f2 h=>cH h fun c2 h=>bH h fun l2 g1 h=>Zv<|Z6 _ (Z04 rfl)<|Z6 _ (iz e1 (Zk6 rfl rfl (by decide)))<|Z6 _ (Z04 rfl)<|Z6 _ (iz e2 (Zk6 rfl rfl (by decide)))<|Z6 _ (Z3f rfl rfl (Z1w c1))<|Zh _ (az (fun x1=>agg [.ints .u64 4 (x1)]) j1 (Zqg (base:=0) (w:=4) rfl (.app .t1) rfl (Z1i c1) rfl rfl rfl))<|Zh _ (Z00 (p:=[.ints .u64 4 (y1.1)]) rfl (.app .here) rfl)<|Z6 _ (Z0a (vs:=[agg [.ints .u64 4 (x1)],agg [.ints .u64 4 (y1.1)]]) (v:=.tuple #[agg [.ints .u64 4 (y2.1)],.int .u64 (y2.2)]) rfl (fun w hw=>Z8p (r:=y2) (p0:=x1) (p1:=y1.1) f2 ))<|Z6 _ (Z04 rfl)<|Z6 _ (Z17 rfl rfl)<|Z6 _ (Z17 rfl rfl)<|Z6 _ (Z3f rfl rfl (Z1w c2))<|Z1q rfl (Zrn (q:=[.rows 4 2 (Zaa Z5v (l2))]) (E:=Z5v) (base:=0) g1 rfl rfl rfl rfl (Z1i c2) rfl (.app .t1)<|Zy<|oH h fun y3 f3 h=>oH h fun y4 f4 h=>Z1<|Z8 rfl<|Zc (Zk rfl (fun w hw=>Zkv (r:=y3) f3 ) fun v225 Msv2 R2=>?_)))
    obtain ⟨_,w3,rfl,rfl,O2⟩:=R2
    refine Zc (Zk rfl (fun w hw=>Zes (r:=y4) (p0:=y1.2) (p1:=y3) f4 ((Z0b O1 (.app .here)) w hw) ((Z0b O2 .here) w hw)) fun v231 Msv3 R3=>?_)
    obtain ⟨_,w4,rfl,rfl,O3⟩:=R3
    refine Z8 rfl<|Z2<|bH h fun z3 e3 h=>Z1<|Z4 _ (iz e3 (Zb rfl rfl rfl))<|Z8 rfl<|Z2 ?_
    rw [q2] at h
    exact ⟨n1,Nat.lt_succ_self _,y4,z3,l2,v231,w4,h,(Zyo O3),(Shp.own O3),⟨⟨rfl,rfl,rfl,rfl,trivial⟩,(.one (.app (.app (.app .t1))) (.one (.app (.app (.app .t1))) (.all .here .nil)))⟩⟩
   ·exact Z0l _ rfl<|⟨a2,h,⟨⟨rfl,rfl,trivial⟩,(.o (.o .nil))⟩⟩
 ·rintro t m ⟨a1,h,hF⟩
  refine Zm hF ?_
  clear hF
  subst q1
  refine Z0<|oH h fun y5 f5 h=>Z1<|Z4 _ (Zqh (o0:=0) (off:=0) rfl (hG.g3) (by simp) rfl)<|Z4 _ (Zqh (o0:=0) (off:=0) rfl (hG.g3) (by simp) rfl)<|Z4 _ (Z0a (vs:=[agg [.ints .u64 4 (G_order)],agg [.ints .u64 4 (G_order)]]) (v:=.tuple #[agg [.ints .u64 4 (y5.1)],.int .u64 (y5.2)]) rfl (fun w hw=>Z8p (r:=y5) (p0:=G_order) (p1:=G_order) f5 ))<|Z8 rfl<|Z4 _ (Z17 rfl rfl)<|Z4 _ (Z17 rfl rfl)<|Zc (Zu fun b4 u4=>Zc (Zl (q:=[.ints .u64 4 (y5.1)]) rfl rfl rfl rfl rfl .here<|Z8 rfl<|Z2<|Z0<|bH h fun x2 j2 h=>oH h fun y6 f6 h=>Z1<|Z4 _ (Z3f rfl rfl (by decide))<|Z4 _ (az (fun x2=>agg [.ints .u64 4 (x2)]) j2 (Z06j (base:=0) (i:=0) (c:=0) (w:=4) (len:=2) rfl .t1 rfl (by decide) rfl rfl rfl))<|Z4 _ (Z00 (p:=[.ints .u64 4 (y5.1)]) rfl .here rfl)<|Z4 _ (Z0a (vs:=[agg [.ints .u64 4 (x2)],agg [.ints .u64 4 (y5.1)]]) (v:=.tuple #[agg [.ints .u64 4 (y6.1)],.int .u64 (y6.2)]) rfl (fun w hw=>Z8p (r:=y6) (p0:=x2) (p1:=y5.1) f6 ))<|Z8 rfl<|Z4 _ (Z17 rfl rfl)<|Z4 _ (Z17 rfl rfl)<|Zc (Zu fun b5 u5=>Zc (Zl (q:=[.ints .u64 4 (y6.1)]) rfl rfl rfl rfl rfl .here<|Z8 rfl<|Z2<|Z0<|bH h fun x3 j3 h=>oH h fun y7 f7 h=>Z1<|Z4 _ (Z00 (p:=[.ints .u64 4 (y6.1)]) rfl .here rfl)<|Z4 _ (Z3f rfl rfl (by decide))<|Z4 _ (az (fun x3=>agg [.ints .u64 4 (x3)]) j3 (Z06j (base:=0) (i:=1) (c:=0) (w:=4) (len:=2) rfl .t2 rfl (by decide) rfl rfl rfl))<|Z4 _ (Z0a (vs:=[agg [.ints .u64 4 (y6.1)],agg [.ints .u64 4 (x3)]]) (v:=.tuple #[agg [.ints .u64 4 (y7.1)],.int .u64 (y7.2)]) rfl (fun w hw=>Zax (r:=y7) (p0:=y6.1) (p1:=x3) f7 ))<|Z8 rfl<|Z4 _ (Z17 rfl rfl)<|Z4 _ (Z17 rfl rfl)<|Zc (Zl (q:=[.ints .u64 4 (y7.1)]) rfl rfl rfl rfl rfl .here<|Z2<|Z0<|oH h fun y8 f8 h=>Z1<|Z4 _ (Z00 (p:=[.ints .u64 4 (y7.1)]) rfl .here rfl)<|Z4 _ (Z0a (vs:=[agg [.ints .u64 4 (y7.1)]]) (v:=agg [.ints .u64 4 (y8)]) rfl (fun w hw=>Zer (r:=y8) (p0:=y7.1) f8 (hG.at hw (by simp))))<|Zc (Zl (q:=[.ints .u64 4 (y8)]) rfl rfl rfl rfl rfl .t3<|Z2<|Zf ?_))))))
  revert h; refine Z01 fun h=>?_
  subst h
  exact ⟨_,(.cons (.agg rfl .t3 rfl) .nil),rfl⟩
def Zc2 (p0:LI) (k1:(LI)->OL) (k2:Int->(LI)->OL) (i1:Int) (a1:LI):OL :=
 br ((decide (i1<8))) (
 bnd (wrap .i64 (8*i1)) fun z1 =>
 opt (Z79 (tk p0 0 64) z1) fun y1 =>
 chk (inB i1 8) <|
 bnd (Z3z a1 (i1).toNat y1.1) fun l1 =>
 bnd (wrap .i64 (i1+1)) fun z2 =>
 k2 z2 l1
 ) (
 k1 a1
 )
def Z5a (p0:LI) (k1:(LI)->OL):Nat->Int->(LI)->OL
  | 0,_,_=>none
  | n+1,i1,a1=>Zc2 p0 k1 (Z5a p0 k1 n) i1 a1
def Za1 (p0:LI):OL :=
 jn (fun (a1:LI)=>opt (Z4j (tk a1 0 8)) fun y1 =>
 opt (Z6j y1) fun y2 =>
 some y2) fun k1=>Z5a p0 k1 big 0 (replicate 8 0)
theorem Zjg {W:World} {r:(LI)} {p0:LI} (h:Za1 p0=some r) (hG:Globs W) :
    Calls Tryz.prog 303 [agg [b6' p0]].toArray W (Z3c W (agg [b3' r])):=by
 unfold Za1 at h
 refine Za mo Z0nz rfl ?_
 refine Z0<|Z1<|Zc (Z06 (s:=[b6' p0]) rfl fun b1 u1=>Zc (Zu fun b2 u2=>Z2<|Z0<|Z1<|Zc (Zu fun b3 u3=>Z2<|Z0<|Z0<|Z1<|Z8 rfl<|Z2<|jH h fun k1 q1 h=>Zo (G:=fun t m=>∃ (a1:LI),k1 a1=some r/\Fit [(2,pt' b2),(3,pt' b3)] (ck b3 379 [u8' a1]::(ck b2 118 [b3' (replicate 32 0)]::(ck b1 212 [b6' p0] :: []))) t m) ?_ ?_)))
 ·refine Zd<|Z07 (fun n1 t m=>∃ (i1:Int) (a2:LI),Z5a p0 k1 n1 i1 a2=some r/\Fit [(1,pt' b1),(2,pt' b2),(3,pt' b3),(5,.int .i64 (i1))] (ck b3 379 [u8' a2]::(ck b2 118 [b3' (replicate 32 0)]::(ck b1 212 [b6' p0] :: []))) t m) big ?_ ?_
  ·exact ⟨0,(replicate 8 0),h,⟨⟨rfl,rfl,rfl,rfl,trivial⟩,(.o (.o (.o .nil)))⟩⟩
  ·rintro n1 t m ⟨i1,a2,h,hF⟩
   refine Zm hF ?_
   clear hF
   rcases n1 with _ | n1
   · exact Z1r h
   have h:Zc2 p0 k1 (Z5a p0 k1 n1) i1 a2=some r:=h
   unfold Zc2 at h
   obtain ⟨k2,q2⟩ : ∃ k,k=Z5a p0 k1 n1:=⟨_,rfl⟩
   try rw [<- q2] at h
   refine Z0<|Z1<|Z4 _ (Zb rfl rfl rfl)<|Z2<|Z0<|Z0r h rfl (fun h=>?_) (fun h=>?_)
   ·refine Zn<|Z0<|Zd<|Z0<|Z1<|Z8 rfl<|Z8 rfl<|Z2<|bH h fun z1 e1 h=>oH h fun y1 f1 h=>cH h fun c1 h=>bH h fun l1 g1 h=>Z1<|Z8 rfl<|Z4 _ (Z88 rfl .no .no .no (by simp) (by decide))<|Z8 rfl<|Z4 _ (iz e1 (Zb rfl rfl rfl))<|Z4 _ (Z0a rfl (fun w hw=>Z9k f1 ((Z1t (s:=[b6' p0]) (N:=64) (k:=.u8) (base:=0) (lo:=0) (hi:=64) (mz:=64) .t2 rfl (by decide)) w hw)))<|Z8 rfl<|Z4 _ (Z17 rfl rfl)<|Z4 _ (Z17 rfl rfl)<|Z4 _ (Z3f rfl rfl (Z1w c1))<|Zc (Z5x (q:=[u8' l1]) (base:=0) g1 rfl rfl rfl (Z1i c1) rfl .here<|Z2<|bH h fun z2 e2 h=>Z1<|Z4 _ (iz e2 (Zb rfl rfl rfl))<|Z8 rfl<|Z2 ?_)
    rw [q2] at h
    exact ⟨n1,Nat.lt_succ_self _,z2,l1,h,⟨⟨rfl,rfl,rfl,rfl,trivial⟩,(.o (.o (.o .nil)))⟩⟩
   ·exact Z0l _ rfl<|⟨a2,h,⟨⟨rfl,rfl,trivial⟩,(.o (.o (.o .nil)))⟩⟩
 ·rintro t m ⟨a1,h,hF⟩
  refine Zm hF ?_
  clear hF
  subst q1
  refine Z0<|oH h fun y2 f2 h=>oH h fun y3 f3 h=>Z1<|Z4 _ (Z88 rfl .no .no .no (by simp) (by decide))<|Z4 _ (Z0a rfl (fun w hw=>Za2 f2 (hG.at hw (by simp)) ((Z1t (s:=[u8' a1]) (N:=8) (k:=.u64) (base:=0) (lo:=0) (hi:=8) (mz:=8) .here rfl (by decide)) w hw)))<|Z4 _ (Z1d rfl (Zay f3))<|Zc (Zl (q:=[b3' y3]) rfl rfl rfl rfl rfl .t1<|Z2<|Zf ?_)
  revert h; refine Z01 fun h=>?_
  subst h
  exact ⟨_,(.cons (.agg rfl .t1 rfl) .nil),rfl⟩
def Zbt (p0:List (LI)) (k1:(LI)->(LI)->Int->Int->OL) (k2:Int->(LI)->(LI)->Int->Int->OL) (i1:Int) (a1:LI) (a2:LI) (i2:Int) (i3:Int):OL :=
 br ((decide (i1<(p0.length:Int)))) (
 chk (inB i1 p0.length) <|
 opt (Z1g (⟨a1,a2,i2,i3⟩:Zw) (p0.getD (i1).toNat [])) fun y1 =>
 bnd (wrap .i64 (i1+1)) fun z1 =>
 k2 z1 y1.gstate y1.gheld y1.ghave y1.glength
 ) (
 k1 a1 a2 i2 i3
 )
def Z6l (p0:List (LI)) (k1:(LI)->(LI)->Int->Int->OL):Nat->Int->(LI)->(LI)->Int->Int->OL
  | 0,_,_,_,_,_=>none
  | n+1,i1,a1,a2,i2,i3=>Zbt p0 k1 (Z6l p0 k1 n) i1 a1 a2 i2 i3
def Za5 (p0:List (LI)):OL :=
 opt (Zci ) fun y1 =>
 jn (fun (a1:LI) (a2:LI) (i1:Int) (i2:Int)=>opt (Z2x (⟨a1,a2,i1,i2⟩:Zw)) fun y2 =>
 opt (Za1 y2.1) fun y3 =>
 some y3) fun k1=>Z6l p0 k1 big 0 y1.gstate y1.gheld y1.ghave y1.glength
theorem Z5r {W:World} {r:(LI)} {p0:List (LI)} {v0:Value} {us0:List SlT} (h:Za5 p0=some r) (hG:Globs W) (A0:Z6m El.sl W v0 us0) (B0:Zg3 (El.int .u8) W us0 p0) :
    Calls Tryz.prog 204 [v0].toArray W (Z3c W (agg [b3' r])):=by
 unfold Za5 at h
 refine Za mo Z0me rfl ?_
 refine Z0<|Z1<|Zc (Zu fun b1 u1=>Z2<|Z0<|oH h fun y1 f1 h=>Z1<|Zc (Zk rfl (fun w hw=>Zh2  f1 (hG.at hw (by simp))) fun v5 o1 R1=>?_))
 obtain ⟨b2,T8,rfl,rfl⟩:=R1
 refine Z8 rfl<|Z2<|Z0<|Z0<|Z1<|Z8 rfl<|Z4 _ ((Zry (Z5j rfl (Shp.rd A0)) (Zg3.len B0)))<|Z8 rfl<|Z2<|jH h fun k1 q1 h=>Zo (G:=fun t m=>∃ (a1:LI) (a2:LI) (i1:Int) (i2:Int),k1 a1 a2 i1 i2=some r/\Fit [(2,pt' b1),(3,pt' b2)] (ck b2 T8 [u8' a1,.ints .u8 128 (a2),.one (.int .i64 (i1)),.one (.int .u64 (i2))]::(ck b1 118 [b3' (replicate 32 0)] :: [])) t m) ?_ ?_
 ·refine Zd<|Z07 (fun n1 t m=>∃ (i3:Int) (a3:LI) (a4:LI) (i4:Int) (i5:Int),Z6l p0 k1 n1 i3 a3 a4 i4 i5=some r/\Fit [(2,pt' b1),(3,pt' b2),(7,v0),(8,.int .i64 ((p0.length:Int))),(9,.int .i64 (i3))] (ck b2 T8 [u8' a3,.ints .u8 128 (a4),.one (.int .i64 (i4)),.one (.int .u64 (i5))]::(ck b1 118 [b3' (replicate 32 0)] :: [])) t m) big ?_ ?_
  ·exact ⟨0,y1.gstate,y1.gheld,y1.ghave,y1.glength,h,⟨⟨rfl,rfl,rfl,rfl,rfl,trivial⟩,(.o (.o .nil))⟩⟩
  ·rintro n1 t m ⟨i3,a3,a4,i4,i5,h,hF⟩
   refine Zm hF ?_
   clear hF
   rcases n1 with _ | n1
   · exact Z1r h
   have h:Zbt p0 k1 (Z6l p0 k1 n1) i3 a3 a4 i4 i5=some r:=h
   unfold Zbt at h
   obtain ⟨k2,q2⟩ : ∃ k,k=Z6l p0 k1 n1:=⟨_,rfl⟩
   try rw [<- q2] at h
   refine Z0<|Z1<|Z4 _ (Zb rfl rfl rfl)<|Z2<|Z0<|Z0r h rfl (fun h=>?_) (fun h=>?_)
   ·refine Zn<|Z0<|Zd<|Z0<|cH h fun c1 h=>Z1<|Z4 _ (Z7u rfl rfl (Shp.rd A0) (Zjr B0 c1))<|Z4 _ (Zaq (E:=El.sl) (s:=[.one (slV (us0.getD (i3).toNat (none,0,0)))]) rfl (Z1m A0 Z1u) (Z1i (Zjr B0 c1)) rfl rfl)<|Z8 rfl<|Z2<|oH h fun y2 f2 h=>Z1<|Z8 rfl<|Z8 rfl<|Zc (Z2z (mS:=[_]) rfl (Z40.perm .here) (fun w hw=>Z68 (p0:=(⟨a3,a4,i4,i5⟩:Zw)) f2 (Zav hw (mS:=[_]) (Z40.perm .here)) (hG.at hw (by simp)) (hG.ap (by simp) .here hw) ⟨(Z1m (Zg3.get B0 _ (Z1i c1)) Z1u) w hw,(Zlj (E:=(El.int .u8)) (Zg3.get B0 _ (Z1i c1)) .here hw)⟩) fun v93 o2 R2=>?_)
    obtain ⟨rfl,rfl⟩:=R2
    refine Z2<|bH h fun z1 e1 h=>Z1<|Z4 _ (iz e1 (Zb rfl rfl rfl))<|Z8 rfl<|Z2 ?_
    rw [q2] at h
    exact ⟨n1,Nat.lt_succ_self _,z1,y2.gstate,y2.gheld,y2.ghave,y2.glength,h,⟨⟨rfl,rfl,rfl,rfl,rfl,trivial⟩,(.o (.o .nil))⟩⟩
   ·exact Z0l _ rfl<|⟨a3,a4,i4,i5,h,⟨⟨rfl,rfl,trivial⟩,(.o (.o .nil))⟩⟩
 ·rintro t m ⟨a1,a2,i1,i2,h,hF⟩
  refine Zm hF ?_
  clear hF
  subst q1
  refine Z0<|oH h fun y3 f3 h=>oH h fun y4 f4 h=>Z1<|Z8 rfl<|Zc (Z2z (mS:=[_]) rfl (Z40.perm .here) (fun w hw=>Zae (p0:=(⟨a1,a2,i1,i2⟩:Zw)) f3 (Zav hw (mS:=[_]) (Z40.perm .here)) (hG.at hw (by simp)) (hG.ap (by simp) .here hw)) fun v99 o3 R3=>?_)
  obtain ⟨rfl,rfl⟩:=R3
  refine Z4 _ (Z0a rfl (fun w hw=>Zjg f4 (hG.at hw (by simp))))<|Zc (Zl (q:=[b3' y4]) rfl rfl rfl rfl rfl .t1<|Z2<|Zf ?_)
  revert h; refine Z01 fun h=>?_
  subst h
  exact ⟨_,(.cons (.agg rfl .t1 rfl) .nil),rfl⟩
def Z5z (p0:LI):Option Bool :=
 opt (Z35 p0) fun y1 =>
 opt (Zal y1) fun y2 =>
 some (ieq 32 y2 p0)
theorem Zhs {W:World} {r:Bool} {p0:LI} (h:Z5z p0=some r)  :
    Calls Tryz.prog 330 [agg [b3' p0]].toArray W (Z3c W (.bool (r))):=by
 unfold Z5z at h
 refine Za mo Z0oj rfl ?_
 refine Z0<|Z1<|Zc (Z06 (s:=[b3' p0]) rfl fun b1 u1=>Z8 rfl<|Z2<|Z0<|oH h fun y1 f1 h=>oH h fun y2 f2 h=>Zv<|Zh _ (Z00 (p:=[b3' p0]) rfl .here rfl)<|Z6 _ (Z1d rfl (Z5t f1))<|Z6 _ (Z1d rfl (Zfi f2))<|Zh _ (Z00 (p:=[b3' p0]) rfl .here rfl)<|Z6 _ (Zvc rfl rfl rfl rfl _ (Zj1 Zj0))<|Z6 _ (Z04 rfl)<|Zy<|Zf ?_)
 revert h; refine Z01 fun h=>?_
 subst h
 exact ⟨_,(.cons (.tmp rfl) .nil),rfl⟩
def Z5f (p0:LI):Option Bool :=
 opt (Z1k p0) fun y1 =>
 bnd (([0,0,0,0,0]:LI)) fun z1 =>
 some (ieq 5 y1 z1)
theorem Zam {W:World} {r:Bool} {p0:LI} (h:Z5f p0=some r)  :
    Calls Tryz.prog 333 [agg [u5' p0]].toArray W (Z3c W (.bool (r))):=by
 unfold Z5f at h
 refine Za mo Z0om rfl ?_
 refine Z0<|Z1<|Zc (Z06 (s:=[u5' p0]) rfl fun b1 u1=>Z8 rfl<|Z2<|Z0<|oH h fun y1 f1 h=>bH h fun z1 e1 h=>Z1<|Z4 _ (Z00 (p:=[u5' p0]) rfl .here rfl)<|Z4 _ (Z1d rfl (Z0z f1))<|Z4 _ (az (fun z=>agg [.ints .u64 5 z]) e1 (Zcd BdR.nil))<|Z4 _ (Zvc rfl rfl rfl rfl _ (Zj1 Zj0))<|Z8 rfl<|Z2<|Zf ?_)
 revert h; refine Z01 fun h=>?_
 subst h
 exact ⟨_,(.cons (.tmp rfl) .nil),rfl⟩
def Z8t (p0:LI) (p1:LI):Option Bool :=
 opt (Z1k p0) fun y1 =>
 opt (Z1k p1) fun y2 =>
 some (ieq 5 y1 y2)
theorem Zfj {W:World} {r:Bool} {p0:LI} {p1:LI} (h:Z8t p0 p1=some r)  :
    Calls Tryz.prog 356 [agg [u5' p0],agg [u5' p1]].toArray W (Z3c W (.bool (r))):=by
 unfold Z8t at h
 refine Za mo Z0p4 rfl ?_
 refine Z0<|Z1<|Zc (Z06 (s:=[u5' p0]) rfl fun b1 u1=>Zc (Z06 (s:=[u5' p1]) rfl fun b2 u2=>Z8 rfl<|Z2<|Z0<|oH h fun y1 f1 h=>oH h fun y2 f2 h=>Zv<|Zh _ (Z00 (p:=[u5' p0]) rfl .t1 rfl)<|Z6 _ (Z1d rfl (Z0z f1))<|Zh _ (Z00 (p:=[u5' p1]) rfl .here rfl)<|Z6 _ (Z1d rfl (Z0z f2))<|Z6 _ (Zvc rfl rfl rfl rfl _ (Zj1 Zj0))<|Z6 _ (Z04 rfl)<|Zy<|Zf ?_))
 revert h; refine Z01 fun h=>?_
 subst h
 exact ⟨_,(.cons (.tmp rfl) .nil),rfl⟩
def Z9a (p0:Bool) (p1:LI) (p2:LI):OL :=
 br (p0) (
 opt (Z1k p1) fun y1 =>
 some y1
 ) (
 opt (Z1k p2) fun y2 =>
 some y2
 )
theorem Zjz {W:World} {r:(LI)} {p0:Bool} {p1:LI} {p2:LI} (h:Z9a p0 p1 p2=some r)  :
    Calls Tryz.prog 357 [.bool (p0),agg [u5' p1],agg [u5' p2]].toArray W (Z3c W (agg [u5' r])):=by
 unfold Z9a at h
 refine Za mo Z0p5 rfl ?_
 refine Z0<|Z1<|Zc (Z06 (s:=[u5' p1]) rfl fun b1 u1=>Zc (Z06 (s:=[u5' p2]) rfl fun b2 u2=>Zc (Zu fun b3 u3=>Z2<|Z0<|Z0<|Z1<|Z8 rfl<|Z2<|Z0r h rfl (fun h=>?_) (fun h=>?_))))
 ·refine Z0<|oH h fun y1 f1 h=>Z1<|Z4 _ (Z00 (p:=[u5' p1]) rfl .t2 rfl)<|Z4 _ (Z1d rfl (Z0z f1))<|Zc (Zl (q:=[u5' y1]) rfl rfl rfl rfl rfl .here<|Z2<|Zf ?_)
  revert h; refine Z01 fun h=>?_
  subst h
  exact ⟨_,(.cons (.agg rfl .here rfl) .nil),rfl⟩
 ·refine Zn<|Z0<|oH h fun y2 f2 h=>Z1<|Z4 _ (Z00 (p:=[u5' p2]) rfl .t1 rfl)<|Z4 _ (Z1d rfl (Z0z f2))<|Zc (Zl (q:=[u5' y2]) rfl rfl rfl rfl rfl .here<|Z2<|Zf ?_)
  revert h; refine Z01 fun h=>?_
  subst h
  exact ⟨_,(.cons (.agg rfl .here rfl) .nil),rfl⟩
def Z7n (p0:LI) (p1:LI):Option ((LI)×Bool) :=
 opt (Z5f p1) fun y1 =>
 br (y1) (
 bnd (([0,0,0,0,0]:LI)) fun z1 =>
 opt (Z5f p0) fun y2 =>
 some (z1,y2)
 ) (
 opt (Z1j p1) fun y3 =>
 opt (Z0t y3 p1) fun y4 =>
 opt (Z1j y4) fun y5 =>
 opt (Z0t p0 y5) fun y6 =>
 opt (Z0t y6 p1) fun y7 =>
 opt (Z0t p0 y4) fun y8 =>
 opt (Z7o 253 15) fun y9 =>
 opt (Zbj y7 y9) fun y10 =>
 opt (Z0t y8 y10) fun y11 =>
 opt (Z1j y11) fun y12 =>
 opt (Z0t p1 y12) fun y13 =>
 jn (fun (a1:LI)=>opt (Z8u a1) fun y14 =>
 opt (Z60 a1) fun y15 =>
 opt (Z9a y14 y15 a1) fun y16 =>
 some (y16,true)) fun k1=>opt (Z8t y13 p0) fun y17 =>
 br (y17) (
 k1 y11
 ) (
 opt (Z60 p0) fun y18 =>
 opt (Z8t y13 y18) fun y19 =>
 br (y19) (
 opt (Zan 2) fun y20 =>
 opt (Z7o 251 31) fun y21 =>
 opt (Zbj y20 y21) fun y22 =>
 opt (Z0t y11 y22) fun y23 =>
 k1 y23
 ) (
 bnd (([0,0,0,0,0]:LI)) fun z2 =>
 some (z2,false)
 )
 )
 )
theorem Zht {W:World} {r:(LI)×Bool} {p0:LI} {p1:LI} (h:Z7n p0 p1=some r)  :
    Calls Tryz.prog 331 [agg [u5' p0],agg [u5' p1]].toArray W (Z3c W (.tuple #[agg [u5' r.1],.bool (r.2)])):=by
 unfold Z7n at h
 refine Za mo Z0ok rfl ?_
 refine Z0<|Z1<|Zc (Z06 (s:=[u5' p0]) rfl fun b1 u1=>Zc (Z06 (s:=[u5' p1]) rfl fun b2 u2=>Zc (Zu fun b3 u3=>Z8 rfl<|Z2<|Z0<|Z0<|oH h fun y1 f1 h=>Z1<|Z4 _ (Z00 (p:=[u5' p1]) rfl .t1 rfl)<|Z4 _ (Z1d rfl (Zam f1))<|Z2<|Z0r h rfl (fun h=>?_) (fun h=>?_))))
 ·refine Z0<|bH h fun z1 e1 h=>oH h fun y2 f2 h=>Z1<|Z4 _ (az (fun z=>agg [.ints .u64 5 z]) e1 (Zcd BdR.nil))<|Z4 _ (Z00 (p:=[u5' p0]) rfl .t2 rfl)<|Z4 _ (Z1d rfl (Zam f2))<|Zc (Zl (q:=[u5' z1]) rfl rfl rfl rfl rfl .here<|Z8 rfl<|Z2<|Zf ?_)
  revert h; refine Z01 fun h=>?_
  subst h
  exact ⟨_,(.cons (.agg rfl .here rfl) (.cons (.tmp rfl) .nil)),rfl⟩
 ·refine Zn<|Z0<|oH h fun y3 f3 h=>oH h fun y4 f4 h=>Zv<|Zh _ (Z00 (p:=[u5' p1]) rfl .t1 rfl)<|Z6 _ (Z1d rfl (Z25 f3))<|Zh _ (Z00 (p:=[u5' p1]) rfl .t1 rfl)<|Z6 _ (Z1d rfl (Z0f f4))<|Z2u (Zu fun b4 u4=>⟨(by repeat (first | exact Sup.refl _ | apply Sup.cons | apply Sup.app)),Z1q rfl (Zl (q:=[u5' y4]) rfl rfl rfl rfl rfl .here (Zy (Z0 (oH h fun y5 f5 h=>oH h fun y6 f6 h=>oH h fun y7 f7 h=>Zv (Zh _ (Z00 (p:=[u5' p0]) rfl .t3 rfl) (Zh _ (Z00 (p:=[u5' y4]) rfl .here rfl) (Z6 _ (Z1d rfl (Z25 f5)) (Z6 _ (Z1d rfl (Z0f f6)) (Zh _ (Z00 (p:=[u5' p1]) rfl .t2 rfl) (Z6 _ (Z1d rfl (Z0f f7)) (Z2u (Zu fun b5 u5=>⟨(by repeat (first | exact Sup.refl _ | apply Sup.cons | apply Sup.app)),Z1q rfl (Zl (q:=[u5' y7]) rfl rfl rfl rfl rfl .here (Zy (Z0 (oH h fun y8 f8 h=>oH h fun y9 f9 h=>oH h fun y10 f10 h=>oH h fun y11 f11 h=>Zv (Zh _ (Z00 (p:=[u5' p0]) rfl .t4 rfl) (Zh _ (Z00 (p:=[u5' y4]) rfl .t1 rfl) (Z6 _ (Z1d rfl (Z0f f8)) (Z6 _ (Z1d rfl (Zby f9)) (Zh _ (Z00 (p:=[u5' y7]) rfl .here rfl) (Z6 _ (Z1d rfl (Zdt f10)) (Z6 _ (Z1d rfl (Z0f f11)) (Z2u (Zu fun b6 u6=>⟨(by repeat (first | exact Sup.refl _ | apply Sup.cons | apply Sup.app)),Z1q rfl (Zl (q:=[u5' y11]) rfl rfl rfl rfl rfl .here (Zy (Z0 (Z0 (oH h fun y12 f12 h=>oH h fun y13 f13 h=>Zv (Zh _ (Z00 (p:=[u5' p1]) rfl .t4 rfl) (Zh _ (Z00 (p:=[u5' y11]) rfl .here rfl) (Z6 _ (Z1d rfl (Z25 f12)) (Z6 _ (Z1d rfl (Z0f f13)) (Z2u (Zu fun b7 u7=>⟨(by repeat (first | exact Sup.refl _ | apply Sup.cons | apply Sup.app)),Z1q rfl (Zl (q:=[u5' y13]) rfl rfl rfl rfl rfl .here (Zy (jH h fun k1 q1 h=>Zo (G:=fun t m=>∃ (a1:LI),k1 a1=some r/\Fit [(4,pt' b3),(8,pt' b6)] (ck b7 124 [u5' y13]::(ck b6 124 [u5' a1]::(ck b5 124 [u5' y7]::(ck b4 124 [u5' y4]::(ck b3 124 [u5' (replicate 5 0)]::(ck b2 124 [u5' p1]::(ck b1 124 [u5' p0] :: []))))))) t m) ?_ ?_)))⟩)))))))))))⟩)))))))))))))⟩))))))))))))⟩)
  ·refine Zd<|Z0<|oH h fun y14 f14 h=>Z1<|Z4 _ (Z00 (p:=[u5' y13]) rfl .here rfl)<|Z4 _ (Z00 (p:=[u5' p0]) rfl .t6 rfl)<|Z4 _ (Z1d rfl (Zfj f14))<|Z8 rfl<|Z2<|Z0r h rfl (fun h=>?_) (fun h=>?_)
   ·exact Zn<|⟨y11,h,⟨⟨rfl,rfl,trivial⟩,(.o (.o (.o (.o (.o (.o (.o .nil)))))))⟩⟩
   ·refine Z0<|oH h fun y15 f15 h=>oH h fun y16 f16 h=>Zv<|Zh _ (Z00 (p:=[u5' y13]) rfl .here rfl)<|Zh _ (Z00 (p:=[u5' p0]) rfl .t6 rfl)<|Z6 _ (Z1d rfl (Z70 f15))<|Z6 _ (Z1d rfl (Zfj f16))<|Z6 _ (Z04 rfl)<|Zy<|Z0r h rfl (fun h=>?_) (fun h=>?_)
    ·exact oH h fun y17 f17 h=>oH h fun y18 f18 h=>oH h fun y19 f19 h=>oH h fun y20 f20 h=>Zv<|Z6 _ (Z1d rfl (Zfl f17))<|Z6 _ (Z1d rfl (Zby f18))<|Z6 _ (Z1d rfl (Zdt f19))<|Zh _ (Z00 (p:=[u5' y11]) rfl .t1 rfl)<|Z6 _ (Z1d rfl (Z0f f20))<|Z1q rfl (Zl (q:=[u5' y20]) rfl rfl rfl rfl rfl .t1<|Zy<|⟨y20,h,⟨⟨rfl,rfl,trivial⟩,(.o (.o (.o (.o (.o (.o (.o .nil)))))))⟩⟩)
    ·refine Z0<|bH h fun z2 e2 h=>Z1<|Z4 _ (az (fun z=>agg [.ints .u64 5 z]) e2 (Zcd BdR.nil))<|Zc (Zl (q:=[u5' z2]) rfl rfl rfl rfl rfl .t4<|Z8 rfl<|Z2<|Zf ?_)
     revert h; refine Z01 fun h=>?_
     subst h
     exact ⟨_,(.cons (.agg rfl .t4 rfl) (.cons (.tmp rfl) .nil)),rfl⟩
  ·rintro t m ⟨a1,h,hF⟩
   refine Zm hF ?_
   clear hF
   subst q1
   refine Z0<|oH h fun y21 f21 h=>oH h fun y22 f22 h=>oH h fun y23 f23 h=>Zv<|Zh _ (Z00 (p:=[u5' a1]) rfl .t1 rfl)<|Z6 _ (Z1d rfl (Zfk f21))<|Zh _ (Z00 (p:=[u5' a1]) rfl .t1 rfl)<|Z6 _ (Z1d rfl (Z70 f22))<|Zh _ (Z00 (p:=[u5' a1]) rfl .t1 rfl)<|Z6 _ (Z1d rfl (Zjz f23))<|Z1q rfl (Zl (q:=[u5' y23]) rfl rfl rfl rfl rfl .t4<|Z6 _ (Z04 rfl)<|Zy<|Zf ?_)
   revert h; refine Z01 fun h=>?_
   subst h
   exact ⟨_,(.cons (.agg rfl .t4 rfl) (.cons (.tmp rfl) .nil)),rfl⟩
def Zcr:OL :=
 bnd (([929955233495203,466365720129213,1662059464998953,2033849074728123,1442794654840575]:LI)) fun z1 =>
 some z1
theorem Zks {W:World} {r:(LI)} (h:Zcr=some r)  :
    Calls Tryz.prog 332 [].toArray W (Z3c W (agg [u5' r])):=by
 unfold Zcr at h
 refine Za mo Z0ol rfl ?_
 refine Z0<|Z1<|Zc (Zu fun b1 u1=>Z2<|Z0<|bH h fun z1 e1 h=>Z1<|Z4 _ (az (fun z=>agg [.ints .u64 5 z]) e1 (Zcd (.one rfl rfl rfl (.one rfl rfl rfl (.one rfl rfl rfl (.one rfl rfl rfl (.one rfl rfl rfl BdR.nil)))))))<|Zc (Zl (q:=[u5' z1]) rfl rfl rfl rfl rfl .here<|Z2<|Zf ?_))
 revert h; refine Z01 fun h=>?_
 subst h
 exact ⟨_,(.cons (.agg rfl .here rfl) .nil),rfl⟩
def Zbe (p0:LI):Option (Z9×Bool) :=
 bnd (p0.getD 31 0) fun z1 =>
 bnd (Zr .u8 z1 7) fun z2 =>
 bnd (p0.getD 31 0) fun z3 =>
 bnd (Z7 .and .u8 z3 127) fun z4 =>
 bnd (Z3z p0 31 z4) fun l1 =>
 opt (Z5z l1) fun y1 =>
 br ((!y1)) (
 some ((⟨(replicate 5 0),(replicate 5 0),(replicate 5 0),(replicate 5 0)⟩:Z9),false)
 ) (
 opt (Z35 l1) fun y2 =>
 opt (Z1j y2) fun y3 =>
 opt (Z93) fun y4 =>
 opt (Z5h y3 y4) fun y5 =>
 opt (Zcr) fun y6 =>
 opt (Z0t y6 y3) fun y7 =>
 opt (Z2w y7 y4) fun y8 =>
 opt (Z7n y5 y8) fun y9 =>
 chk (imp (!(!y9.2)) (imp (z2==1) ((Z5f y9.1).isSome))) <|
 br (((!y9.2)||((z2==1)&&((Z5f y9.1).getD false)))) (
 some ((⟨(replicate 5 0),(replicate 5 0),(replicate 5 0),(replicate 5 0)⟩:Z9),false)
 ) (
 jn (fun (a1:LI)=>opt (Z0t a1 y2) fun y10 =>
 some ((⟨a1,y2,y4,y10⟩:Z9),true)) fun k1=>br ((z2==1)) (
 opt (Z60 y9.1) fun y11 =>
 k1 y11
 ) (
 k1 y9.1
 )
 )
 )
theorem Zjv {W:World} {r:Z9×Bool} {p0:LI} (h:Zbe p0=some r)  :
    Calls Tryz.prog 239 [agg [b3' p0]].toArray W (Z3c W (.tuple #[agg [u5' r.1.gX,u5' r.1.gY,u5' r.1.gZ,u5' r.1.gT],.bool (r.2)])):=by
 unfold Zbe at h
 refine Za mo Z0nb rfl ?_
 refine Z0<|Z1<|Zc (Z06 (s:=[b3' p0]) rfl fun b1 u1=>Zc (Zu fun b2 u2=>Z8 rfl<|Z2<|Z0<|bH h fun z1 e1 h=>bH h fun z2 e2 h=>Z1<|Z4 _ (Z3f rfl rfl (by decide))<|Z4 _ (iz e1 (Z0p rfl .t1 rfl))<|Z4 _ (iz e2 (Z8w rfl rfl (by decide)))<|Z4 _ (Zb rfl rfl rfl)<|Z8 rfl<|Z2<|Z0<|bH h fun z3 e3 h=>bH h fun z4 e4 h=>bH h fun l1 g1 h=>Z1<|Z4 _ (Z3f rfl rfl (by decide))<|Z4 _ (iz e3 (Z0p rfl .t1 rfl))<|Z4 _ (iz e4 (Zb rfl rfl rfl))<|Z4 _ (Z3f rfl rfl (by decide))<|Zc (Zbx (q:=[b3' l1]) (congrArg (fun z=>([b3' z]:List Seg)) g1.symm) rfl rfl rfl rfl .t1<|Z2<|Z0<|Z0<|oH h fun y1 f1 h=>Z1<|Z4 _ (Z00 (p:=[b3' l1]) rfl .t1 rfl)<|Z4 _ (Z1d rfl (Zhs f1))<|Z4 _ (Zmv rfl rfl)<|Z2<|Z0r h rfl (fun h=>?_) (fun h=>?_))))
 ·refine Z0<|Z1<|Z4 _ (Zcd (q:=[u5' (replicate 5 0),u5' (replicate 5 0),u5' (replicate 5 0),u5' (replicate 5 0)]) BdR.nil)<|Zc (Zl (q:=[u5' (replicate 5 0),u5' (replicate 5 0),u5' (replicate 5 0),u5' (replicate 5 0)]) rfl rfl rfl rfl rfl .here<|Z8 rfl<|Z2<|Zf ?_)
  revert h; refine Z01 fun h=>?_
  subst h
  exact ⟨_,(.cons (.agg rfl .here rfl) (.cons (.tmp rfl) .nil)),rfl⟩
 ·refine Zn<|Z0<|oH h fun y2 f2 h=>Z1<|Z4 _ (Z00 (p:=[b3' l1]) rfl .t1 rfl)<|Z4 _ (Z1d rfl (Z5t f2))<|Zc (Zu fun b3 u3=>Zc (Zl (q:=[u5' y2]) rfl rfl rfl rfl rfl .here<|Z2<|Z0<|oH h fun y3 f3 h=>Z1<|Z4 _ (Z00 (p:=[u5' y2]) rfl .here rfl)<|Z4 _ (Z1d rfl (Z25 f3))<|Zc (Zu fun b4 u4=>Zc (Zl (q:=[u5' y3]) rfl rfl rfl rfl rfl .here<|Z2<|Z0<|oH h fun y4 f4 h=>Z1<|Z4 _ (Z1d rfl (Z9p f4))<|Zc (Zu fun b5 u5=>Zc (Zl (q:=[u5' y4]) rfl rfl rfl rfl rfl .here<|Z2<|Z0<|oH h fun y5 f5 h=>oH h fun y6 f6 h=>oH h fun y7 f7 h=>oH h fun y8 f8 h=>oH h fun y9 f9 h=>Zv<|Zh _ (Z00 (p:=[u5' y3]) rfl .t1 rfl)<|Zh _ (Z00 (p:=[u5' y4]) rfl .here rfl)<|Z6 _ (Z1d rfl (Z5m f5))<|Z6 _ (Z1d rfl (Zks f6))<|Zh _ (Z00 (p:=[u5' y3]) rfl .t1 rfl)<|Z6 _ (Z1d rfl (Z0f f7))<|Zh _ (Z00 (p:=[u5' y4]) rfl .here rfl)<|Z6 _ (Z1d rfl (Z2i f8))<|Z6 _ (Z1d rfl (Zht f9))<|Z6 _ (Z04 rfl)<|Z6 _ (Z17 rfl rfl)<|Z6 _ (Z17 rfl rfl)<|Z2u (Zu fun b6 u6=>⟨(by repeat (first | exact Sup.refl _ | apply Sup.cons | apply Sup.app)),Z1q rfl (Zl (q:=[u5' y9.1]) rfl rfl rfl rfl rfl .here (Z6 _ (Z04 rfl) (Zy (Z0 (Z0 (cH h fun c1 h=>Z1 (Z8 rfl (Z4 _ (Zmv rfl rfl) (Z8 rfl (Zex rfl rfl rfl (fun hg1=>Z27 rfl _ (Z04 rfl) (Z27 rfl _ (Z04 rfl) (Zyk rfl (fun _ h=>by cases h; rfl) rfl rfl (fun hg2=>Z27 rfl _ (Z00 (p:=[u5' y9.1]) rfl .here rfl) (Z27 rfl _ (Z0a rfl (fun _ _=>Zam (getD_some (z:=false) (Zrv (Zuz c1 hg1) hg2)))) (Z28))) (fun hg2=>rfl) rfl (Z28)))) (fun hg1=>rfl) rfl (Z2 (Z0r h rfl (fun h=>?_) (fun h=>?_)))))))))))))⟩)))))))
  ·refine Z0<|Z1<|Z4 _ (Zcd (q:=[u5' (replicate 5 0),u5' (replicate 5 0),u5' (replicate 5 0),u5' (replicate 5 0)]) BdR.nil)<|Zc (Zl (q:=[u5' (replicate 5 0),u5' (replicate 5 0),u5' (replicate 5 0),u5' (replicate 5 0)]) rfl rfl rfl rfl rfl .t4<|Z8 rfl<|Z2<|Zf ?_)
   revert h; refine Z01 fun h=>?_
   subst h
   exact ⟨_,(.cons (.agg rfl .t4 rfl) (.cons (.tmp rfl) .nil)),rfl⟩
  ·refine Zn<|Z0<|Z0<|Z1<|Z8 rfl<|Z2<|jH h fun k1 q1 h=>Zo (G:=fun t m=>∃ (a1:LI),k1 a1=some r/\Fit [(2,pt' b2),(5,pt' b3),(7,pt' b5),(8,pt' b6)] (ck b6 124 [u5' a1]::(ck b5 124 [u5' y4]::(ck b4 124 [u5' y3]::(ck b3 124 [u5' y2]::(ck b2 126 [u5' (replicate 5 0),u5' (replicate 5 0),u5' (replicate 5 0),u5' (replicate 5 0)]::(ck b1 43 [b3' l1] :: [])))))) t m) ?_ ?_
   ·refine Z0r h rfl (fun h=>?_) (fun h=>?_)
    ·exact oH h fun y10 f10 h=>Z1<|Z4 _ (Z00 (p:=[u5' y9.1]) rfl .here rfl)<|Z4 _ (Z1d rfl (Z70 f10))<|Zc (Zl (q:=[u5' y10]) rfl rfl rfl rfl rfl .here<|Z2<|⟨y10,h,⟨⟨rfl,rfl,rfl,rfl,trivial⟩,(.o (.o (.o (.o (.o (.o .nil))))))⟩⟩)
    ·exact Zn<|⟨y9.1,h,⟨⟨rfl,rfl,rfl,rfl,trivial⟩,(.o (.o (.o (.o (.o (.o .nil))))))⟩⟩
   ·rintro t m ⟨a1,h,hF⟩
    refine Zm hF ?_
    clear hF
    subst q1
    refine Z0<|oH h fun y11 f11 h=>Zv<|Zh _ (Z00 (p:=[u5' a1]) rfl .here rfl)<|Zh _ (Z00 (p:=[u5' y2]) rfl .t3 rfl)<|Zh _ (Z00 (p:=[u5' y4]) rfl .t1 rfl)<|Zh _ (Z00 (p:=[u5' a1]) rfl .here rfl)<|Zh _ (Z00 (p:=[u5' y2]) rfl .t3 rfl)<|Z6 _ (Z1d rfl (Z0f f11))<|Z6 _ (Zcd (q:=[u5' a1,u5' y2,u5' y4,u5' y11]) (.agg rfl rfl rfl (.agg rfl rfl rfl (.agg rfl rfl rfl (.agg rfl rfl rfl BdR.nil)))))<|Z1q rfl (Zl (q:=[u5' a1,u5' y2,u5' y4,u5' y11]) rfl rfl rfl rfl rfl .t4<|Z6 _ (Z04 rfl)<|Zy<|Zf ?_)
    revert h; refine Z01 fun h=>?_
    subst h
    exact ⟨_,(.cons (.agg rfl .t4 rfl) (.cons (.tmp rfl) .nil)),rfl⟩
def Zdz (p0:LI) (k1:(LI)->OL) (k2:Int->(LI)->OL) (i1:Int) (a1:LI):OL :=
 br ((decide (i1<4))) (
 bnd (wrap .i64 (8*i1)) fun z1 =>
 opt (Z79 (tk p0 0 32) z1) fun y1 =>
 chk (inB i1 4) <|
 bnd (Z3z a1 (i1).toNat y1.1) fun l1 =>
 bnd (wrap .i64 (i1+1)) fun z2 =>
 k2 z2 l1
 ) (
 k1 a1
 )
def Z8m (p0:LI) (k1:(LI)->OL):Nat->Int->(LI)->OL
  | 0,_,_=>none
  | n+1,i1,a1=>Zdz p0 k1 (Z8m p0 k1 n) i1 a1
def Zaw (p0:LI):OL :=
 jn (fun (a1:LI)=>some a1) fun k1=>Z8m p0 k1 big 0 (replicate 4 0)
theorem Zfp {W:World} {r:(LI)} {p0:LI} (h:Zaw p0=some r)  :
    Calls Tryz.prog 336 [agg [b3' p0]].toArray W (Z3c W (agg [.ints .u64 4 (r)])):=by
 unfold Zaw at h
 refine Za mo Z0op rfl ?_
 refine Z0<|Z1<|Zc (Z06 (s:=[b3' p0]) rfl fun b1 u1=>Zc (Zu fun b2 u2=>Z2<|Z0<|Z1<|Zc (Zu fun b3 u3=>Z2<|Z0<|Z0<|Z1<|Z8 rfl<|Z2<|jH h fun k1 q1 h=>Zo (G:=fun t m=>∃ (a1:LI),k1 a1=some r/\Fit [(2,pt' b2),(3,pt' b3)] (ck b3 393 [.ints .u64 4 (a1)]::(ck b2 393 [.ints .u64 4 ((replicate 4 0))]::(ck b1 118 [b3' p0] :: []))) t m) ?_ ?_)))
 ·refine Zd<|Z07 (fun n1 t m=>∃ (i1:Int) (a2:LI),Z8m p0 k1 n1 i1 a2=some r/\Fit [(1,pt' b1),(2,pt' b2),(3,pt' b3),(5,.int .i64 (i1))] (ck b3 393 [.ints .u64 4 (a2)]::(ck b2 393 [.ints .u64 4 ((replicate 4 0))]::(ck b1 118 [b3' p0] :: []))) t m) big ?_ ?_
  ·exact ⟨0,(replicate 4 0),h,⟨⟨rfl,rfl,rfl,rfl,trivial⟩,(.o (.o (.o .nil)))⟩⟩
  ·rintro n1 t m ⟨i1,a2,h,hF⟩
   refine Zm hF ?_
   clear hF
   rcases n1 with _ | n1
   · exact Z1r h
   have h:Zdz p0 k1 (Z8m p0 k1 n1) i1 a2=some r:=h
   unfold Zdz at h
   obtain ⟨k2,q2⟩ : ∃ k,k=Z8m p0 k1 n1:=⟨_,rfl⟩
   try rw [<- q2] at h
   refine Z0<|Z1<|Z4 _ (Zb rfl rfl rfl)<|Z2<|Z0<|Z0r h rfl (fun h=>?_) (fun h=>?_)
   ·refine Zn<|Z0<|Zd<|Z0<|Z1<|Z8 rfl<|Z8 rfl<|Z2<|bH h fun z1 e1 h=>oH h fun y1 f1 h=>cH h fun c1 h=>bH h fun l1 g1 h=>Z1<|Z8 rfl<|Z4 _ (Z88 rfl .no .no .no (by simp) (by decide))<|Z8 rfl<|Z4 _ (iz e1 (Zb rfl rfl rfl))<|Z4 _ (Z0a rfl (fun w hw=>Z9k f1 ((Z1t (s:=[b3' p0]) (N:=32) (k:=.u8) (base:=0) (lo:=0) (hi:=32) (mz:=32) .t2 rfl (by decide)) w hw)))<|Z8 rfl<|Z4 _ (Z17 rfl rfl)<|Z4 _ (Z17 rfl rfl)<|Z4 _ (Z3f rfl rfl (Z1w c1))<|Zc (Z5x (q:=[.ints .u64 4 (l1)]) (base:=0) g1 rfl rfl rfl (Z1i c1) rfl .here<|Z2<|bH h fun z2 e2 h=>Z1<|Z4 _ (iz e2 (Zb rfl rfl rfl))<|Z8 rfl<|Z2 ?_)
    rw [q2] at h
    exact ⟨n1,Nat.lt_succ_self _,z2,l1,h,⟨⟨rfl,rfl,rfl,rfl,trivial⟩,(.o (.o (.o .nil)))⟩⟩
   ·exact Z0l _ rfl<|⟨a2,h,⟨⟨rfl,rfl,trivial⟩,(.o (.o (.o .nil)))⟩⟩
 ·rintro t m ⟨a1,h,hF⟩
  refine Zm hF ?_
  clear hF
  subst q1
  refine Z0<|Z1<|Z4 _ (Z00 (p:=[.ints .u64 4 (a1)]) rfl .here rfl)<|Zc (Zl (q:=[.ints .u64 4 (a1)]) rfl rfl rfl rfl rfl .t1<|Z2<|Zf ?_)
  revert h; refine Z01 fun h=>?_
  subst h
  exact ⟨_,(.cons (.agg rfl .t1 rfl) .nil),rfl⟩
def Z59 (p0:LI):Option Bool :=
 opt (Zaw p0) fun y1 =>
 opt (Z6h y1 G_order) fun y2 =>
 some (y2.2==1)
theorem Zgy {W:World} {r:Bool} {p0:LI} (h:Z59 p0=some r) (hG:Globs W) :
    Calls Tryz.prog 240 [agg [b3' p0]].toArray W (Z3c W (.bool (r))):=by
 unfold Z59 at h
 refine Za mo Z0nc rfl ?_
 refine Z0<|Z1<|Zc (Z06 (s:=[b3' p0]) rfl fun b1 u1=>Z8 rfl<|Z2<|Z0<|oH h fun y1 f1 h=>oH h fun y2 f2 h=>Zv<|Zh _ (Z00 (p:=[b3' p0]) rfl .here rfl)<|Z6 _ (Z1d rfl (Zfp f1))<|Zh _ (Zqh (o0:=0) (off:=0) rfl (hG.g3) (by simp) rfl)<|Z6 _ (Z1d rfl (Zax f2))<|Z6 _ (Z04 rfl)<|Z6 _ (Z17 rfl rfl)<|Z6 _ (Z17 rfl rfl)<|Z2u (Zu fun b2 u2=>⟨(by repeat (first | exact Sup.refl _ | apply Sup.cons | apply Sup.app)),Z1q rfl (Zl (q:=[.ints .u64 4 (y2.1)]) rfl rfl rfl rfl rfl .here (Z6 _ (Z04 rfl) (Zy (Z0 (Z1 (Z8 rfl (Z4 _ (Zb rfl rfl rfl) (Z8 rfl (Z2 (Zf ?_))))))))))⟩))
 revert h; refine Z01 fun h=>?_
 subst h
 exact ⟨_,(.cons (.tmp rfl) .nil),rfl⟩
def Z6v (k1:(LI)->(LI)->(LI)->(LI)->Option (Z9)) (k2:Int->(LI)->(LI)->(LI)->(LI)->Option (Z9)) (i1:Int) (a1:LI) (a2:LI) (a3:LI) (a4:LI):Option (Z9) :=
 br ((decide (i1<4))) (
 opt (Z7j (⟨a1,a2,a3,a4⟩:Z9)) fun y1 =>
 bnd (wrap .i64 (i1+1)) fun z1 =>
 k2 z1 y1.gX y1.gY y1.gZ y1.gT
 ) (
 k1 a1 a2 a3 a4
 )
def Z22 (k1:(LI)->(LI)->(LI)->(LI)->Option (Z9)):Nat->Int->(LI)->(LI)->(LI)->(LI)->Option (Z9)
  | 0,_,_,_,_,_=>none
  | n+1,i1,a1,a2,a3,a4=>Z6v k1 (Z22 k1 n) i1 a1 a2 a3 a4
def Z6u (p0:LI) (p2:LI) (a1:List (Z9)) (a2:List (Z9)) (k1:(LI)->(LI)->(LI)->(LI)->Option (Z9)) (k2:Int->(LI)->(LI)->(LI)->(LI)->Option (Z9)) (i1:Int) (a3:LI) (a4:LI) (a5:LI) (a6:LI):Option (Z9) :=
 br ((decide (i1<64))) (
 jn (fun (a7:LI) (a8:LI) (a9:LI) (a10:LI)=>opt (Z7k p0 i1) fun y1 =>
 chk (inB y1 16) <|
 bnd (a1.getD (y1).toNat Z11) fun x1 =>
 opt (Z9l (⟨a7,a8,a9,a10⟩:Z9) x1) fun y2 =>
 opt (Z7k p2 i1) fun y3 =>
 chk (inB y3 16) <|
 bnd (a2.getD (y3).toNat Z11) fun x2 =>
 opt (Z9l y2 x2) fun y4 =>
 bnd (wrap .i64 (i1+1)) fun z1 =>
 k2 z1 y4.gX y4.gY y4.gZ y4.gT) fun k3=>Z22 k3 big 0 a3 a4 a5 a6
 ) (
 k1 a3 a4 a5 a6
 )
def Z3e (p0:LI) (p2:LI) (a1:List (Z9)) (a2:List (Z9)) (k1:(LI)->(LI)->(LI)->(LI)->Option (Z9)):Nat->Int->(LI)->(LI)->(LI)->(LI)->Option (Z9)
  | 0,_,_,_,_,_=>none
  | n+1,i1,a3,a4,a5,a6=>Z6u p0 p2 a1 a2 k1 (Z3e p0 p2 a1 a2 k1 n) i1 a3 a4 a5 a6
def Z9m (p0:LI) (p1:Z9) (p2:LI):Option (Z9) :=
 opt (Zak) fun y1 =>
 jn (fun (a1:List (Z9)) (a2:List (Z9))=>opt (Zai) fun y2 =>
 jn (fun (a3:LI) (a4:LI) (a5:LI) (a6:LI)=>some (⟨a3,a4,a5,a6⟩:Z9)) fun k1=>Z3e p0 p2 a1 a2 k1 big 0 y2.gX y2.gY y2.gZ y2.gT) fun k2=>opt (Z4q p1) fun y3 =>
 opt (Z4q y1) fun y4 =>
 k2 y3 y4
theorem Ziw {W:World} {r:Z9} {p0:LI} {p1:Z9} {p2:LI} (h:Z9m p0 p1 p2=some r)  :
    Calls Tryz.prog 241 [agg [b3' p0],agg [u5' p1.gX,u5' p1.gY,u5' p1.gZ,u5' p1.gT],agg [b3' p2]].toArray W (Z3c W (agg [u5' r.gX,u5' r.gY,u5' r.gZ,u5' r.gT])):=by
 unfold Z9m at h
 refine Za mo Z0nd rfl ?_
 refine Z0<|Z1<|Zc (Z06 (s:=[b3' p0]) rfl fun b1 u1=>Zc (Z06 (s:=[u5' p1.gX,u5' p1.gY,u5' p1.gZ,u5' p1.gT]) rfl fun b2 u2=>Zc (Z06 (s:=[b3' p2]) rfl fun b3 u3=>Zc (Zu fun b4 u4=>Z2<|Z0<|oH h fun y1 f1 h=>Z1<|Z4 _ (Z1d rfl (Zff f1))<|Zc (Zu fun b5 u5=>Zc (Zl (q:=[u5' y1.gX,u5' y1.gY,u5' y1.gZ,u5' y1.gT]) rfl rfl rfl rfl rfl .here<|Z2<|Z0<|jH h fun k1 q1 h=>Zo (G:=fun t m=>∃ (a1:List (Z9)) (a2:List (Z9)) (b6:Nat) (b7:Nat),k1 a1 a2=some r/\Fit [(3,pt' b1),(5,pt' b3),(6,pt' b4),(8,pt' b6),(9,pt' b7)] (ck b7 351 [.rows 20 16 (Zaa Zi (a2))]::(ck b6 351 [.rows 20 16 (Zaa Zi (a1))]::(ck b5 126 [u5' y1.gX,u5' y1.gY,u5' y1.gZ,u5' y1.gT]::(ck b4 126 [u5' (replicate 5 0),u5' (replicate 5 0),u5' (replicate 5 0),u5' (replicate 5 0)]::(ck b3 118 [b3' p2]::(ck b2 126 [u5' p1.gX,u5' p1.gY,u5' p1.gZ,u5' p1.gT]::(ck b1 118 [b3' p0] :: []))))))) t m) ?_ ?_))))))
 ·refine oH h fun y2 f2 h=>oH h fun y3 f3 h=>Zv<|Zh _ (Z00 (p:=[u5' p1.gX,u5' p1.gY,u5' p1.gZ,u5' p1.gT]) rfl .t3 rfl)<|Z6 _ (Z1d rfl (Z8d f2))<|Zh _ (Z00 (p:=[u5' y1.gX,u5' y1.gY,u5' y1.gZ,u5' y1.gT]) rfl .here rfl)<|Z6 _ (Z1d rfl (Z8d f3))<|Zey (Zkj (z':=[.rows 20 16 (Zaa Zi ((replicate 16 Z11)))]) (Zde (E:=Zi) rfl rfl) fun b8 u6=>⟨(by repeat (first | exact Sup.refl _ | apply Sup.cons | apply Sup.app)),?_⟩) (Zkj (z':=[.rows 20 16 (Zaa Zi ((replicate 16 Z11)))]) (Zde (E:=Zi) rfl rfl) fun b9 u7=>⟨(by repeat (first | exact Sup.refl _ | apply Sup.cons | apply Sup.app)),?_⟩)
  ·exact Z2u (Zkj (z':=[.rows 20 16 (Zaa Zi ((replicate 16 Z11)))]) (Zde (E:=Zi) rfl rfl) fun b9 u7=>⟨(by repeat (first | exact Sup.refl _ | apply Sup.cons | apply Sup.app)),Z1q rfl (Zdg (p:=[.rows 20 16 (Zaa Zi (y2))]) (q:=[.rows 20 16 (Zaa Zi (y2))]) rfl rfl (by kernel_rfl) (by kernel_rfl) (Z0y (Zek (E:=Zi)) Z52) .t1 (Z02d rfl (Zdg (p:=[.rows 20 16 (Zaa Zi (y3))]) (q:=[.rows 20 16 (Zaa Zi (y3))]) rfl rfl (by kernel_rfl) (by kernel_rfl) (Z0y (Zek (E:=Zi)) Z52) .here (Zy (⟨y2,y3,b8,b9,h,⟨⟨rfl,rfl,rfl,rfl,rfl,trivial⟩,(.o (.o (.o (.o (.o (.o (.o .nil)))))))⟩⟩)))))⟩)
  ·exact Z2u (Zkj (z':=[.rows 20 16 (Zaa Zi ((replicate 16 Z11)))]) (Zde (E:=Zi) rfl rfl) fun b8 u6=>⟨(by repeat (first | exact Sup.refl _ | apply Sup.cons | apply Sup.app)),Z1q rfl (Zdg (p:=[.rows 20 16 (Zaa Zi (y2))]) (q:=[.rows 20 16 (Zaa Zi (y2))]) rfl rfl (by kernel_rfl) (by kernel_rfl) (Z0y (Zek (E:=Zi)) Z52) .here (Z02d rfl (Zdg (p:=[.rows 20 16 (Zaa Zi (y3))]) (q:=[.rows 20 16 (Zaa Zi (y3))]) rfl rfl (by kernel_rfl) (by kernel_rfl) (Z0y (Zek (E:=Zi)) Z52) .t1 (Zy (⟨y2,y3,b8,b9,h,⟨⟨rfl,rfl,rfl,rfl,rfl,trivial⟩,(.one .t1 (.o (.o (.o (.o (.o (.o .nil)))))))⟩⟩)))))⟩)
 ·rintro t m ⟨a1,a2,b6,b7,h,hF⟩
  refine Zm hF ?_
  clear hF
  subst q1
  refine Z0<|oH h fun y4 f4 h=>Z1<|Z4 _ (Z0a (vs:=[]) (v:=agg [u5' y4.gX,u5' y4.gY,u5' y4.gZ,u5' y4.gT]) rfl (fun w hw=>Zcq (r:=y4) f4 ))<|Zc (Zu fun b10 u8=>Zc (Zl (q:=[u5' y4.gX,u5' y4.gY,u5' y4.gZ,u5' y4.gT]) rfl rfl rfl rfl rfl .here<|Z2<|Z0<|Z0<|Z1<|Z8 rfl<|Z2<|jH h fun k2 q2 h=>Zo (G:=fun t m=>∃ (a3:LI) (a4:LI) (a5:LI) (a6:LI),k2 a3 a4 a5 a6=some r/\Fit [(6,pt' b4),(10,pt' b10)] (ck b10 126 [u5' a3,u5' a4,u5' a5,u5' a6]::(ck b7 351 [.rows 20 16 (Zaa Zi (a2))]::(ck b6 351 [.rows 20 16 (Zaa Zi (a1))]::(ck b5 126 [u5' y1.gX,u5' y1.gY,u5' y1.gZ,u5' y1.gT]::(ck b4 126 [u5' (replicate 5 0),u5' (replicate 5 0),u5' (replicate 5 0),u5' (replicate 5 0)]::(ck b3 118 [b3' p2]::(ck b2 126 [u5' p1.gX,u5' p1.gY,u5' p1.gZ,u5' p1.gT]::(ck b1 118 [b3' p0] :: [])))))))) t m) ?_ ?_))
  ·refine Zd<|Z07 (fun n1 t m=>∃ (i1:Int) (a7:LI) (a8:LI) (a9:LI) (a10:LI),Z3e p0 p2 a1 a2 k2 n1 i1 a7 a8 a9 a10=some r/\Fit [(3,pt' b1),(5,pt' b3),(6,pt' b4),(8,pt' b6),(9,pt' b7),(10,pt' b10),(18,.int .i64 (i1))] (ck b10 126 [u5' a7,u5' a8,u5' a9,u5' a10]::(ck b7 351 [.rows 20 16 (Zaa Zi (a2))]::(ck b6 351 [.rows 20 16 (Zaa Zi (a1))]::(ck b5 126 [u5' y1.gX,u5' y1.gY,u5' y1.gZ,u5' y1.gT]::(ck b4 126 [u5' (replicate 5 0),u5' (replicate 5 0),u5' (replicate 5 0),u5' (replicate 5 0)]::(ck b3 118 [b3' p2]::(ck b2 126 [u5' p1.gX,u5' p1.gY,u5' p1.gZ,u5' p1.gT]::(ck b1 118 [b3' p0] :: [])))))))) t m) big ?_ ?_
   ·exact ⟨0,y4.gX,y4.gY,y4.gZ,y4.gT,h,⟨⟨rfl,rfl,rfl,rfl,rfl,rfl,rfl,trivial⟩,(.o (.o (.o (.o (.o (.o (.o (.o .nil))))))))⟩⟩
   ·rintro n1 t m ⟨i1,a7,a8,a9,a10,h,hF⟩
    refine Zm hF ?_
    clear hF
    rcases n1 with _ | n1
    · exact Z1r h
    have h:Z6u p0 p2 a1 a2 k2 (Z3e p0 p2 a1 a2 k2 n1) i1 a7 a8 a9 a10=some r:=h
    unfold Z6u at h
    obtain ⟨k3,q3⟩ : ∃ k,k=Z3e p0 p2 a1 a2 k2 n1:=⟨_,rfl⟩
    try rw [<- q3] at h
    refine Z0<|Z1<|Z4 _ (Zb rfl rfl rfl)<|Z2<|Z0<|Z0r h rfl (fun h=>?_) (fun h=>?_)
    ·refine Zn<|Z0<|Zd<|Z0<|Z1<|Z8 rfl<|Z8 rfl<|Z2<|Z0<|Z0<|Z1<|Z8 rfl<|Z2<|jH h fun k4 q4 h=>Zo (G:=fun t m=>∃ (a11:LI) (a12:LI) (a13:LI) (a14:LI),k4 a11 a12 a13 a14=some r/\Fit [(3,pt' b1),(5,pt' b3),(6,pt' b4),(8,pt' b6),(9,pt' b7),(10,pt' b10),(11,.int .i64 (i1)),(18,.int .i64 (i1))] (ck b10 126 [u5' a11,u5' a12,u5' a13,u5' a14]::(ck b7 351 [.rows 20 16 (Zaa Zi (a2))]::(ck b6 351 [.rows 20 16 (Zaa Zi (a1))]::(ck b5 126 [u5' y1.gX,u5' y1.gY,u5' y1.gZ,u5' y1.gT]::(ck b4 126 [u5' (replicate 5 0),u5' (replicate 5 0),u5' (replicate 5 0),u5' (replicate 5 0)]::(ck b3 118 [b3' p2]::(ck b2 126 [u5' p1.gX,u5' p1.gY,u5' p1.gZ,u5' p1.gT]::(ck b1 118 [b3' p0] :: [])))))))) t m) ?_ ?_
     ·refine Zd<|Z07 (fun n2 t m=>∃ (i2:Int) (a15:LI) (a16:LI) (a17:LI) (a18:LI),Z22 k4 n2 i2 a15 a16 a17 a18=some r/\Fit [(3,pt' b1),(5,pt' b3),(6,pt' b4),(8,pt' b6),(9,pt' b7),(10,pt' b10),(11,.int .i64 (i1)),(18,.int .i64 (i1)),(21,.int .i64 (i2))] (ck b10 126 [u5' a15,u5' a16,u5' a17,u5' a18]::(ck b7 351 [.rows 20 16 (Zaa Zi (a2))]::(ck b6 351 [.rows 20 16 (Zaa Zi (a1))]::(ck b5 126 [u5' y1.gX,u5' y1.gY,u5' y1.gZ,u5' y1.gT]::(ck b4 126 [u5' (replicate 5 0),u5' (replicate 5 0),u5' (replicate 5 0),u5' (replicate 5 0)]::(ck b3 118 [b3' p2]::(ck b2 126 [u5' p1.gX,u5' p1.gY,u5' p1.gZ,u5' p1.gT]::(ck b1 118 [b3' p0] :: [])))))))) t m) big ?_ ?_
      ·exact ⟨0,a7,a8,a9,a10,h,⟨⟨rfl,rfl,rfl,rfl,rfl,rfl,rfl,rfl,rfl,trivial⟩,(.o (.o (.o (.o (.o (.o (.o (.o .nil))))))))⟩⟩
      ·rintro n2 t m ⟨i2,a15,a16,a17,a18,h,hF⟩
       refine Zm hF ?_
       clear hF
       rcases n2 with _ | n2
       · exact Z1r h
       have h:Z6v k4 (Z22 k4 n2) i2 a15 a16 a17 a18=some r:=h
       unfold Z6v at h
       obtain ⟨k5,q5⟩ : ∃ k,k=Z22 k4 n2:=⟨_,rfl⟩
       try rw [<- q5] at h
       refine Z0<|Z1<|Z4 _ (Zb rfl rfl rfl)<|Z2<|Z0<|Z0r h rfl (fun h=>?_) (fun h=>?_)
       ·refine Zn<|Z0<|Zd<|oH h fun y5 f5 h=>Z1<|Z4 _ (Z00 (p:=[u5' a15,u5' a16,u5' a17,u5' a18]) rfl .here rfl)<|Z4 _ (Z0a (vs:=[agg [u5' a15,u5' a16,u5' a17,u5' a18]]) (v:=agg [u5' y5.gX,u5' y5.gY,u5' y5.gZ,u5' y5.gT]) rfl (fun w hw=>Zea (r:=y5) (p0:=(⟨a15,a16,a17,a18⟩:Z9)) f5 ))<|Zc (Zl (q:=[u5' y5.gX,u5' y5.gY,u5' y5.gZ,u5' y5.gT]) rfl rfl rfl rfl rfl .here<|Z2<|bH h fun z1 e1 h=>Z1<|Z4 _ (iz e1 (Zb rfl rfl rfl))<|Z8 rfl<|Z2 ?_)
        rw [q5] at h
        exact ⟨n2,Nat.lt_succ_self _,z1,y5.gX,y5.gY,y5.gZ,y5.gT,h,⟨⟨rfl,rfl,rfl,rfl,rfl,rfl,rfl,rfl,rfl,trivial⟩,(.o (.o (.o (.o (.o (.o (.o (.o .nil))))))))⟩⟩
       ·exact Z0l _ rfl<|⟨a15,a16,a17,a18,h,⟨⟨rfl,rfl,rfl,rfl,rfl,rfl,rfl,rfl,trivial⟩,(.o (.o (.o (.o (.o (.o (.o (.o .nil))))))))⟩⟩
     ·rintro t m ⟨a11,a12,a13,a14,h,hF⟩
      refine Zm hF ?_
      clear hF
      subst q4
      refine oH h fun y6 f6 h=>cH h fun c1 h=>bH h fun x1 j1 h=>oH h fun y7 f7 h=>oH h fun y8 f8 h=>cH h fun c2 h=>bH h fun x2 j2 h=>oH h fun y9 f9 h=>Zv<|Z6 _ (Z04 rfl)<|Z6 _ (Z04 rfl)<|Zh _ (Z00 (p:=[u5' a11,u5' a12,u5' a13,u5' a14]) rfl .here rfl)<|Zh _ (Z00 (p:=[b3' p0]) rfl .t7 rfl)<|Z6 _ (Z0a (vs:=[agg [b3' p0],.int .i64 (i1)]) (v:=.int .u8 (y6)) rfl (fun w hw=>Zaj (r:=y6) (p0:=p0) (p1:=i1) f6 ))<|Z6 _ (Z3f rfl rfl (Z1w c1))<|Zh _ (az (fun x1=>agg [u5' x1.gX,u5' x1.gY,u5' x1.gZ,u5' x1.gT]) j1 (Zqg (base:=0) (w:=20) rfl .t2 rfl (Z1i c1) rfl rfl rfl))<|Z6 _ (Z0a (vs:=[agg [u5' a11,u5' a12,u5' a13,u5' a14],agg [u5' x1.gX,u5' x1.gY,u5' x1.gZ,u5' x1.gT]]) (v:=agg [u5' y7.gX,u5' y7.gY,u5' y7.gZ,u5' y7.gT]) rfl (fun w hw=>Zb6 (r:=y7) (p0:=(⟨a11,a12,a13,a14⟩:Z9)) (p1:=x1) f7 ))<|Zh _ (Z00 (p:=[b3' p2]) rfl .t5 rfl)<|Z6 _ (Z0a (vs:=[agg [b3' p2],.int .i64 (i1)]) (v:=.int .u8 (y8)) rfl (fun w hw=>Zaj (r:=y8) (p0:=p2) (p1:=i1) f8 ))<|Z6 _ (Z3f rfl rfl (Z1w c2))<|Zh _ (az (fun x2=>agg [u5' x2.gX,u5' x2.gY,u5' x2.gZ,u5' x2.gT]) j2 (Zqg (base:=0) (w:=20) rfl .t1 rfl (Z1i c2) rfl rfl rfl))<|Z6 _ (Z0a (vs:=[agg [u5' y7.gX,u5' y7.gY,u5' y7.gZ,u5' y7.gT],agg [u5' x2.gX,u5' x2.gY,u5' x2.gZ,u5' x2.gT]]) (v:=agg [u5' y9.gX,u5' y9.gY,u5' y9.gZ,u5' y9.gT]) rfl (fun w hw=>Zb6 (r:=y9) (p0:=y7) (p1:=x2) f9 ))<|Z1q rfl (Zl (q:=[u5' y9.gX,u5' y9.gY,u5' y9.gZ,u5' y9.gT]) rfl rfl rfl rfl rfl .here<|Zy<|bH h fun z2 e2 h=>Z1<|Z4 _ (iz e2 (Zb rfl rfl rfl))<|Z8 rfl<|Z2 ?_)
      rw [q3] at h
      exact ⟨n1,Nat.lt_succ_self _,z2,y9.gX,y9.gY,y9.gZ,y9.gT,h,⟨⟨rfl,rfl,rfl,rfl,rfl,rfl,rfl,trivial⟩,(.o (.o (.o (.o (.o (.o (.o (.o .nil))))))))⟩⟩
    ·exact Z0l _ rfl<|⟨a7,a8,a9,a10,h,⟨⟨rfl,rfl,trivial⟩,(.o (.o (.o (.o (.o (.o (.o (.o .nil))))))))⟩⟩
  ·rintro t m ⟨a3,a4,a5,a6,h,hF⟩
   refine Zm hF ?_
   clear hF
   subst q2
   refine Z0<|Z1<|Z4 _ (Z00 (p:=[u5' a3,u5' a4,u5' a5,u5' a6]) rfl .here rfl)<|Zc (Zl (q:=[u5' a3,u5' a4,u5' a5,u5' a6]) rfl rfl rfl rfl rfl .t4<|Z2<|Zf ?_)
   revert h; refine Z01 fun h=>?_
   subst h
   exact ⟨_,(.cons (.agg rfl .t4 rfl) .nil),rfl⟩
end Go.Proofs.YteefpkhngighgaaGreatDoor
namespace Go.Proofs.YteefpkhngighgaaGreatDoor
open Go Go.Sx Go.RowKit
set_option linter.all false
set_option maxHeartbeats 400000
set_option maxRecDepth 100000
def Zeb (p0:Z9):Option (Z9) :=
 opt (Z60 p0.gX) fun y1 =>
 opt (Z60 p0.gT) fun y2 =>
 some (⟨y1,p0.gY,p0.gZ,y2⟩:Z9)
theorem Zmy {W:World} {r:Z9} {p0:Z9} (h:Zeb p0=some r)  :
    Calls Tryz.prog 242 [agg [u5' p0.gX,u5' p0.gY,u5' p0.gZ,u5' p0.gT]].toArray W (Z3c W (agg [u5' r.gX,u5' r.gY,u5' r.gZ,u5' r.gT])):=by
 unfold Zeb at h
 refine Za mo Z0ne rfl ?_
 refine Z0<|Z1<|Zc (Z06 (s:=[u5' p0.gX,u5' p0.gY,u5' p0.gZ,u5' p0.gT]) rfl fun b1 u1=>Zc (Zu fun b2 u2=>Z2<|Z0<|oH h fun y1 f1 h=>oH h fun y2 f2 h=>Zv<|Z6 _ (Z1v rfl)<|Z6 _ (Z1v rfl)<|Z6 _ (Z1v rfl)<|Z6 _ (Z1v rfl)<|Zh _ (Z00 (p:=[u5' p0.gX]) rfl .t1 rfl)<|Z6 _ (Z1d rfl (Z70 f1))<|Zh _ (Z00 (p:=[u5' p0.gY]) rfl .t1 rfl)<|Zh _ (Z00 (p:=[u5' p0.gZ]) rfl .t1 rfl)<|Zh _ (Z00 (p:=[u5' p0.gT]) rfl .t1 rfl)<|Z6 _ (Z1d rfl (Z70 f2))<|Z6 _ (Zcd (q:=[u5' y1,u5' p0.gY,u5' p0.gZ,u5' y2]) (.agg rfl rfl rfl (.agg rfl rfl rfl (.agg rfl rfl rfl (.agg rfl rfl rfl BdR.nil)))))<|Z1q rfl (Zl (q:=[u5' y1,u5' p0.gY,u5' p0.gZ,u5' y2]) rfl rfl rfl rfl rfl .here<|Zy<|Zf ?_)))
 revert h; refine Z01 fun h=>?_
 subst h
 exact ⟨_,(.cons (.agg rfl .here rfl) .nil),rfl⟩
def Z1h (p0:LI) (p1:LI) (p2:LI):Option Bool :=
 opt (Zbe p0) fun y1 =>
 chk (decide (32<=(tk p2 32 (64-32)).length)) <|
 bnd (tk (tk p2 32 (64-32)) 0 32) fun z1 =>
 chk (imp (!(!y1.2)) ((Z59 z1).isSome)) <|
 br (((!y1.2)||(!((Z59 z1).getD false)))) (
 some false
 ) (
 jn (fun (a1:LI)=>opt (Zeb y1.1) fun y2 =>
 opt (Z9m a1 y2 z1) fun y3 =>
 opt (Z5d y3) fun y4 =>
 chk (decide (32<=(tk p2 0 32).length)) <|
 bnd (tk (tk p2 0 32) 0 32) fun z2 =>
 some (ieq 32 y4 z2)) fun k1=>opt (Za5 [(tk p2 0 32),(tk p0 0 32),p1]) fun y5 =>
 k1 y5
 )
theorem Z8q {W:World} {r:Bool} {p0:LI} {p1:LI} {p2:LI} {v1:Value} (h:Z1h p0 p1 p2=some r) (hG:Globs W) (A1:Z6m (El.int .u8) W v1 p1) :
    Calls Tryz.prog 122 [agg [b3' p0],v1,agg [b6' p2]].toArray W (Z3c W (.bool (r))):=by
 unfold Z1h at h
 refine Za mo Z0lm rfl ?_
 refine Z0<|Z1<|Zc (Z06 (s:=[b3' p0]) rfl fun b1 u1=>Zc (Z06 (s:=[b6' p2]) rfl fun b2 u2=>Z8 rfl<|Z2<|Z0<|oH h fun y1 f1 h=>Z1<|Z4 _ (Z00 (p:=[b3' p0]) rfl .t1 rfl)<|Z4 _ (Z1d rfl (Zjv f1))<|Z8 rfl<|Z4 _ (Z17 rfl rfl)<|Z4 _ (Z17 rfl rfl)<|Zc (Zu fun b3 u3=>Zc (Zl (q:=[u5' y1.1.gX,u5' y1.1.gY,u5' y1.1.gZ,u5' y1.1.gT]) rfl rfl rfl rfl rfl .here<|Z8 rfl<|Z2<|Z0<|cH h fun c1 h=>bH h fun z1 e1 h=>Z1<|Z4 _ (Z88 rfl (.yes rfl) .no .no (by simp) (by decide))<|Z4 _ (Zyj rfl (Shp.blk (lo:=32) (hi:=64) (mz:=64) (by decide) (by simp [Z0c])) (by decide) c1)<|Z4 _ (az (fun z=>agg [.ints .u8 32 z]) e1 (Z06i rfl (Z1t (s:=[b6' p2]) (N:=64) (k:=.u8) (base:=0) (lo:=32) (hi:=64) (mz:=64) .t1 rfl (by decide)) (by decide) c1))<|Zc (Zu fun b4 u4=>Zc (Zl (q:=[b3' z1]) rfl rfl rfl rfl rfl .here<|Z2<|Z0<|Z0<|cH h fun c2 h=>Z1<|Z8 rfl<|Z4 _ (Zmv rfl rfl)<|Z8 rfl<|Zex rfl rfl rfl (fun hg1=>Z27 rfl _ (Z00 (p:=[b3' z1]) rfl .here rfl) (Z27 rfl _ (Z0a rfl (fun w hw=>Zgy (getD_some (z:=false) (Zuz c2 hg1)) (hG.at hw (by simp)))) (Z27 rfl _ (Zmv rfl rfl) (Z28)))) (fun hg1=>rfl) rfl<|Z2<|Z0r h rfl (fun h=>?_) (fun h=>?_)))))))
 ·refine Z0<|Z1<|Z8 rfl<|Z2<|Zf ?_
  revert h; refine Z01 fun h=>?_
  subst h
  exact ⟨_,(.cons (.tmp rfl) .nil),rfl⟩
 ·refine Zn<|Z0<|jH h fun k1 q1 h=>Zo (G:=fun t m=>∃ (a1:LI) (b5:Nat),k1 a1=some r/\Fit [(5,pt' b2),(7,pt' b3),(9,pt' b4),(10,pt' b5)] (ck b5 118 [b3' a1]::(ck b4 118 [b3' z1]::(ck b3 126 [u5' y1.1.gX,u5' y1.1.gY,u5' y1.1.gZ,u5' y1.1.gT]::(ck b2 27 [b6' p2]::(ck b1 43 [b3' p0] :: []))))) t m) ?_ ?_
  ·refine oH h fun y2 f2 h=>Zv<|Z6 _ (Z88 rfl .no (.yes rfl) .no (by simp) (by decide))<|Z6 _ (Z88 rfl .no .no .no (by simp) (by decide))<|Z6 _ (Z04 rfl)<|Zey (Z54 (E:=El.sl) (xs:=[unS (.slice (some (Z1y b2 0 0 64 1)) (32-0) (64-0)),unS (.slice (some (Z1y b1 0 0 32 1)) (32-0) (32-0)),unS v1]) (.one rfl (Z9i.cells ⟨_,_,_,rfl⟩) rfl (.one rfl (Z9i.cells ⟨_,_,_,rfl⟩) rfl (.one rfl (Z9i.cells (Shp.isSl (Shp.rd A1))) rfl BdR.nil))) (.cons (p:=[.one (.slice (some (Z1y b2 0 0 64 1)) (32-0) (64-0))]) (Z26 ⟨_,_,_,rfl⟩) (.cons (p:=[.one (.slice (some (Z1y b1 0 0 32 1)) (32-0) (32-0))]) (Z26 ⟨_,_,_,rfl⟩) (.cons (p:=[.one v1]) (Z26 (Shp.isSl (Shp.rd A1))) .nil))) rfl fun v25 w1 O1=>⟨(by repeat (first | exact Sup.refl _ | apply Sup.cons | apply Sup.app)),?_⟩) (Zu fun b6 u5=>⟨(by repeat (first | exact Sup.refl _ | apply Sup.cons | apply Sup.app)),?_⟩)
   ·refine Zey (ef_q _ (Z0a rfl (fun w hw=>Z5r f2 (hG.at hw (by simp)) (Z0b O1 .here w hw) (.cons (Z29 ((Z1t (s:=[b6' p2]) (N:=64) (k:=.u8) (base:=0) (lo:=0) (hi:=32) (mz:=64) (.app .t2) rfl (by decide)) w hw)) (.cons (Z29 ((Z1t (s:=[b3' p0]) (N:=32) (k:=.u8) (base:=0) (lo:=0) (hi:=32) (mz:=32) (.app .t3) rfl (by decide)) w hw)) (.cons (Z29 ((Z1m A1 Z1u) w hw)) .nil))))) ⟨(by repeat (first | exact Sup.refl _ | apply Sup.cons | apply Sup.app)),?_⟩) (Zu fun b6 u5=>⟨(by repeat (first | exact Sup.refl _ | apply Sup.cons | apply Sup.app)),?_⟩)
    ·exact Z2u (Zu fun b6 u5=>⟨(by repeat (first | exact Sup.refl _ | apply Sup.cons | apply Sup.app)),Z1q rfl (Zl (q:=[b3' y2]) rfl rfl rfl rfl rfl .here (Zy (⟨y2,b6,h,⟨⟨rfl,rfl,rfl,rfl,trivial⟩,(.o (.one (.app .here) (.one (.app .here) (.one (.app .here) (.one (.app .here) .nil)))))⟩⟩)))⟩)
    ·exact Za7 _ (Z0a rfl (fun w hw=>Z5r f2 (hG.at hw (by simp)) (Z0b O1 .t1 w hw) (.cons (Z29 ((Z1t (s:=[b6' p2]) (N:=64) (k:=.u8) (base:=0) (lo:=0) (hi:=32) (mz:=64) (.there (.app .t2)) rfl (by decide)) w hw)) (.cons (Z29 ((Z1t (s:=[b3' p0]) (N:=32) (k:=.u8) (base:=0) (lo:=0) (hi:=32) (mz:=32) (.there (.app .t3)) rfl (by decide)) w hw)) (.cons (Z29 ((Z1m A1 Z1u) w hw)) .nil))))) (Z1q rfl (Zl (q:=[b3' y2]) rfl rfl rfl rfl rfl .here (Zy (⟨y2,b6,h,⟨⟨rfl,rfl,rfl,rfl,trivial⟩,(.o (.one (.app .here) (.one (.app .here) (.one (.app .here) (.one (.app .here) .nil)))))⟩⟩)))) (by repeat (first | exact Sup.refl _ | apply Sup.cons | apply Sup.app))
   ·exact Z2u (Z54 (E:=El.sl) (xs:=[unS (.slice (some (Z1y b2 0 0 64 1)) (32-0) (64-0)),unS (.slice (some (Z1y b1 0 0 32 1)) (32-0) (32-0)),unS v1]) (.one rfl (Z9i.cells ⟨_,_,_,rfl⟩) rfl (.one rfl (Z9i.cells ⟨_,_,_,rfl⟩) rfl (.one rfl (Z9i.cells (Shp.isSl (Shp.rd A1))) rfl BdR.nil))) (.cons (p:=[.one (.slice (some (Z1y b2 0 0 64 1)) (32-0) (64-0))]) (Z26 ⟨_,_,_,rfl⟩) (.cons (p:=[.one (.slice (some (Z1y b1 0 0 32 1)) (32-0) (32-0))]) (Z26 ⟨_,_,_,rfl⟩) (.cons (p:=[.one v1]) (Z26 (Shp.isSl (Shp.rd A1))) .nil))) rfl fun v25 w1 O1=>⟨(by repeat (first | exact Sup.refl _ | apply Sup.cons | apply Sup.app)),Za7 _ (Z0a rfl (fun w hw=>Z5r f2 (hG.at hw (by simp)) (Z0b O1 .here w hw) (.cons (Z29 ((Z1t (s:=[b6' p2]) (N:=64) (k:=.u8) (base:=0) (lo:=0) (hi:=32) (mz:=64) (.app .t3) rfl (by decide)) w hw)) (.cons (Z29 ((Z1t (s:=[b3' p0]) (N:=32) (k:=.u8) (base:=0) (lo:=0) (hi:=32) (mz:=32) (.app .t4) rfl (by decide)) w hw)) (.cons (Z29 ((Z1m A1 Z1u) w hw)) .nil))))) (Z1q rfl (Zl (q:=[b3' y2]) rfl rfl rfl rfl rfl (.app .here) (Zy (⟨y2,b6,h,⟨⟨rfl,rfl,rfl,rfl,trivial⟩,(.one (.app .here) (.one (.app .here) (.one (.app .here) (.one (.app .here) (.one (.app .here) .nil)))))⟩⟩)))) (by repeat (first | exact Sup.refl _ | apply Sup.cons | apply Sup.app))⟩)
  ·rintro t m ⟨a1,b5,h,hF⟩
   refine Zm hF ?_
   clear hF
   subst q1
   refine Z0<|oH h fun y3 f3 h=>oH h fun y4 f4 h=>oH h fun y5 f5 h=>Zv<|Zh _ (Z00 (p:=[b3' a1]) rfl .here rfl)<|Zh _ (Z00 (p:=[u5' y1.1.gX,u5' y1.1.gY,u5' y1.1.gZ,u5' y1.1.gT]) rfl .t2 rfl)<|Z6 _ (Z1d rfl (Zmy f3))<|Zh _ (Z00 (p:=[b3' z1]) rfl .t1 rfl)<|Z6 _ (Z1d rfl (Ziw f4))<|Z6 _ (Z1d rfl (Z87 f5))<|Z2u (Zu fun b7 u6=>⟨(by repeat (first | exact Sup.refl _ | apply Sup.cons | apply Sup.app)),Z1q rfl (Zl (q:=[b3' y5]) rfl rfl rfl rfl rfl .here (Zy (Z0 (cH h fun c3 h=>bH h fun z2 e2 h=>Zv (Z6 _ (Z88 rfl .no (.yes rfl) .no (by simp) (by decide)) (Z6 _ (Zyj rfl (Shp.blk (lo:=0) (hi:=32) (mz:=64) (by decide) (by simp [Z0c])) (by decide) c3) (Zh _ (Z00 (p:=[b3' y5]) rfl .here rfl) (Zh _ (az (fun z=>agg [.ints .u8 32 z]) e2 (Z06i rfl (Z1t (s:=[b6' p2]) (N:=64) (k:=.u8) (base:=0) (lo:=0) (hi:=32) (mz:=64) .t4 rfl (by decide)) (by decide) c3)) (Z6 _ (Zvc rfl rfl rfl rfl _ (Zj1 Zj0)) (Z6 _ (Z04 rfl) (Zy (Zf ?_))))))))))))⟩)
   revert h; refine Z01 fun h=>?_
   subst h
   exact ⟨_,(.cons (.tmp rfl) .nil),rfl⟩
def Z81 (p0:LI):OL :=
 opt (Zaw p0) fun y1 =>
 some (tk y1 0 4)
theorem Zaz {W:World} {r:(LI)} {p0:LI} (h:Z81 p0=some r)  :
    Calls Tryz.prog 351 [agg [b3' p0]].toArray W (Z8e W [] (fun v Ms=>∃ (u0:Value) (M1:List Ze),v=u0/\Ms = [.all M1]/\Z09 (El.int .u64) u0 M1 r)):=by
 unfold Z81 at h
 refine Zs mo Z0p1 rfl (Zez _) ?_
 refine Z0<|Z1<|Zc (Z06 (s:=[b3' p0]) rfl fun b1 hb1=>Z8 rfl<|Z2<|Z0<|oH h fun y1 f1 h=>Z1<|Z4 _ (Z00 (p:=[b3' p0]) rfl .here rfl)<|Z4 _ (Z1d rfl (Zfp f1))<|Zc (Zu fun b2 hb2=>Zc (Zl (q:=[.ints .u64 4 (y1)]) rfl rfl rfl rfl rfl .here<|Z2<|Z0<|Z1<|Z4 _ (Z88 rfl .no .no .no (by simp) (by decide))<|Z8 rfl<|Z2<|Zf ?_)))
 revert h; refine Z01 fun h=>?_
 subst h
 exact ⟨_,_,(.cons (.tmp rfl) .nil),(.o .nil),⟨_,rfl,⟨(.slice (some (Z1y b2 0 0 4 1)) (4-0) (4-0)),[ck b2 393 [.ints .u64 4 (y1)]],rfl,rfl,(Zj6 (s:=[.ints .u64 4 (y1)]) (N:=4) (k:=.u64) (base:=0) (lo:=0) (hi:=4) (mz:=4) rfl (by decide))⟩⟩⟩
def Zcg (p0:LI):OL :=
 opt (Z81 p0) fun y1 =>
 opt (Z4j y1) fun y2 =>
 some y2
theorem Zgz {W:World} {r:(LI)} {p0:LI} (h:Zcg p0=some r) (hG:Globs W) :
    Calls Tryz.prog 348 [agg [b3' p0]].toArray W (Z3c W (agg [.ints .u64 4 (r)])):=by
 unfold Zcg at h
 refine Za mo Z0oy rfl ?_
 refine Z0<|Z1<|Zc (Z06 (s:=[b3' p0]) rfl fun b1 u1=>Zc (Zu fun b2 u2=>Z2<|Z0<|oH h fun y1 f1 h=>oH h fun y2 f2 h=>Z1<|Z4 _ (Z00 (p:=[b3' p0]) rfl .t1 rfl)<|Zc (Zk rfl (fun w hw=>Zaz  f1 ) fun v6 o1 R1=>?_)))
 obtain ⟨_,w1,rfl,rfl,O1⟩:=R1
 refine Z4 _ (Z0a rfl (fun w hw=>Za2 f2 (hG.at hw (by simp)) ((Z0b O1 .here) w hw)))<|Zc (Zl (q:=[.ints .u64 4 (y2)]) rfl rfl rfl rfl rfl (.app .here)<|Z2<|Zf ?_)
 revert h; refine Z01 fun h=>?_
 subst h
 exact ⟨_,(.cons (.agg rfl (.app .here) rfl) .nil),rfl⟩
def Zep (p0:LI) (p1:LI):OL :=
 opt (Zcg p0) fun y1 =>
 opt (Zcg p1) fun y2 =>
 opt (Z5p y1 y2) fun y3 =>
 opt (Z7w y3.1) fun y4 =>
 opt (Z6j y4) fun y5 =>
 some y5
theorem Zm9 {W:World} {r:(LI)} {p0:LI} {p1:LI} (h:Zep p0 p1=some r) (hG:Globs W) :
    Calls Tryz.prog 304 [agg [b3' p0],agg [b3' p1]].toArray W (Z3c W (agg [b3' r])):=by
 unfold Zep at h
 refine Za mo Z0o0 rfl ?_
 refine Z0<|Z1<|Zc (Z06 (s:=[b3' p0]) rfl fun b1 u1=>Zc (Z06 (s:=[b3' p1]) rfl fun b2 u2=>Zc (Zu fun b3 u3=>Z2<|Z0<|oH h fun y1 f1 h=>oH h fun y2 f2 h=>oH h fun y3 f3 h=>Zv<|Zh _ (Z00 (p:=[b3' p0]) rfl .t2 rfl)<|Z6 _ (Z0a rfl (fun w hw=>Zgz f1 (hG.at hw (by simp))))<|Zh _ (Z00 (p:=[b3' p1]) rfl .t1 rfl)<|Z6 _ (Z0a rfl (fun w hw=>Zgz f2 (hG.at hw (by simp))))<|Z6 _ (Z1d rfl (Z8p f3))<|Z6 _ (Z04 rfl)<|Z6 _ (Z17 rfl rfl)<|Z6 _ (Z17 rfl rfl)<|Z2u (Zu fun b4 u4=>⟨(by repeat (first | exact Sup.refl _ | apply Sup.cons | apply Sup.app)),Z1q rfl (Zl (q:=[.ints .u64 4 (y3.1)]) rfl rfl rfl rfl rfl .here (Z6 _ (Z04 rfl) (Zy (Z0 (oH h fun y4 f4 h=>oH h fun y5 f5 h=>Z1 (Z4 _ (Z00 (p:=[.ints .u64 4 (y3.1)]) rfl .here rfl) (Z4 _ (Z0a rfl (fun w hw=>Zer f4 (hG.at hw (by simp)))) (Z4 _ (Z1d rfl (Zay f5)) (Zc (Zl (q:=[b3' y5]) rfl rfl rfl rfl rfl .t1 (Z2 (Zf ?_))))))))))))⟩))))
 revert h; refine Z01 fun h=>?_
 subst h
 exact ⟨_,(.cons (.agg rfl .t1 rfl) .nil),rfl⟩
def Zeq (p0:LI) (p1:LI):OL :=
 opt (Z81 p0) fun y1 =>
 opt (Z81 p1) fun y2 =>
 opt (Z6k y1 y2) fun y3 =>
 opt (Z4j y3) fun y4 =>
 opt (Z6j y4) fun y5 =>
 some y5
theorem Zma {W:World} {r:(LI)} {p0:LI} {p1:LI} (h:Zeq p0 p1=some r) (hG:Globs W) :
    Calls Tryz.prog 305 [agg [b3' p0],agg [b3' p1]].toArray W (Z3c W (agg [b3' r])):=by
 unfold Zeq at h
 refine Za mo Z0o1 rfl ?_
 refine Z0<|Z1<|Zc (Z06 (s:=[b3' p0]) rfl fun b1 u1=>Zc (Z06 (s:=[b3' p1]) rfl fun b2 u2=>Zc (Zu fun b3 u3=>Z2<|Z0<|oH h fun y1 f1 h=>oH h fun y2 f2 h=>oH h fun y3 f3 h=>oH h fun y4 f4 h=>oH h fun y5 f5 h=>Zv<|Zh _ (Z00 (p:=[b3' p0]) rfl .t2 rfl)<|Zh _ (Z00 (p:=[b3' p1]) rfl .t1 rfl)<|Z2u (Zk rfl (fun w hw=>Zaz  f1 ) fun v7 o1 R1=>?_))))
 obtain ⟨_,w1,rfl,rfl,O1⟩:=R1
 refine ⟨(by repeat (first | exact Sup.refl _ | apply Sup.cons | apply Sup.app)),Z2u (Zk rfl (fun w hw=>Zaz  f2 ) fun v13 o2 R2=>?_)⟩
 obtain ⟨_,w2,rfl,rfl,O2⟩:=R2
 refine ⟨(by repeat (first | exact Sup.refl _ | apply Sup.cons | apply Sup.app)),Z2u (Zk rfl (fun w hw=>Zes  f3 ((Z0b O1 (.app .here)) w hw) ((Z0b O2 .here) w hw)) fun v19 o3 R3=>?_)⟩
 obtain ⟨_,w3,rfl,rfl,O3⟩:=R3
 refine ⟨(by repeat (first | exact Sup.refl _ | apply Sup.cons | apply Sup.app)),Za7 _ (Z0a rfl (fun w hw=>Za2 f4 (hG.at hw (by simp)) ((Z0b O3 .here) w hw))) (Z6 _ (Z1d rfl (Zay f5)) (Z1q rfl (Zl (q:=[b3' y5]) rfl rfl rfl rfl rfl (.app (.app (.app .here))) (Zy (Zf ?_))))) (by repeat (first | exact Sup.refl _ | apply Sup.cons | apply Sup.app))⟩
 revert h; refine Z01 fun h=>?_
 subst h
 exact ⟨_,(.cons (.agg rfl (.app (.app (.app .here))) rfl) .nil),rfl⟩
def Za0 (p0:LI) (p1:LI) (p2:LI):OL :=
 opt (Zeq p0 p1) fun y1 =>
 opt (Zep y1 p2) fun y2 =>
 some y2
theorem Zjf {W:World} {r:(LI)} {p0:LI} {p1:LI} {p2:LI} (h:Za0 p0 p1 p2=some r) (hG:Globs W) :
    Calls Tryz.prog 205 [agg [b3' p0],agg [b3' p1],agg [b3' p2]].toArray W (Z3c W (agg [b3' r])):=by
 unfold Za0 at h
 refine Za mo Z0mf rfl ?_
 refine Z0<|Z1<|Zc (Z06 (s:=[b3' p0]) rfl fun b1 u1=>Zc (Z06 (s:=[b3' p1]) rfl fun b2 u2=>Zc (Z06 (s:=[b3' p2]) rfl fun b3 u3=>Zc (Zu fun b4 u4=>Z2<|Z0<|oH h fun y1 f1 h=>oH h fun y2 f2 h=>Zv<|Zh _ (Z00 (p:=[b3' p0]) rfl .t3 rfl)<|Zh _ (Z00 (p:=[b3' p1]) rfl .t2 rfl)<|Z6 _ (Z0a rfl (fun w hw=>Zma f1 (hG.at hw (by simp))))<|Zh _ (Z00 (p:=[b3' p2]) rfl .t1 rfl)<|Z6 _ (Z0a rfl (fun w hw=>Zm9 f2 (hG.at hw (by simp))))<|Z1q rfl (Zl (q:=[b3' y2]) rfl rfl rfl rfl rfl .here<|Zy<|Zf ?_)))))
 revert h; refine Z01 fun h=>?_
 subst h
 exact ⟨_,(.cons (.agg rfl .here rfl) .nil),rfl⟩
def Za4 (p0:LI) (p1:LI):OL :=
 opt (Zb1 p0) fun y1 =>
 opt (Z5e y1.1) fun y2 =>
 opt (Z5d y2) fun y3 =>
 opt (Za5 [y1.2,p1]) fun y4 =>
 opt (Z5e y4) fun y5 =>
 opt (Z5d y5) fun y6 =>
 jn (fun (a1:LI)=>opt (Za0 a1 y1.1 y4) fun y7 =>
 bnd (wr (List.replicate 64 0) 0 ((tk y6 0 32).take 32)) fun l1 =>
 bnd (wr l1 32 ((tk y7 0 32).take (64-32))) fun l2 =>
 some l2) fun k1=>opt (Za5 [(tk y6 0 32),(tk y3 0 32),p1]) fun y8 =>
 k1 y8
theorem Zb8 {W:World} {r:(LI)} {p0:LI} {p1:LI} {v1:Value} (h:Za4 p0 p1=some r) (hG:Globs W) (A1:Z6m (El.int .u8) W v1 p1) :
    Calls Tryz.prog 102 [agg [b3' p0],v1].toArray W (Z3c W (agg [b6' r])):=by
 unfold Za4 at h
 refine Za mo Z0l2 rfl ?_
 refine Z0<|Z1<|Zc (Z06 (s:=[b3' p0]) rfl fun b1 u1=>Zc (Zu fun b2 u2=>Z2<|Z0<|oH h fun y1 f1 h=>Z1<|Z4 _ (Z00 (p:=[b3' p0]) rfl .t1 rfl)<|Zc (Zk rfl (fun w hw=>Zfs  f1 (hG.at hw (by simp))) fun v6 o1 R1=>?_)))
 obtain ⟨v8,w1,rfl,rfl,O1⟩:=R1
 refine Z8 rfl<|Z4 _ (Z17 rfl rfl)<|Z4 _ (Z17 rfl rfl)<|Zc (Zu fun b3 u3=>Zc (Zl (q:=[b3' y1.1]) rfl rfl rfl rfl rfl .here<|Z8 rfl<|Z2<|Z0<|oH h fun y2 f2 h=>oH h fun y3 f3 h=>Z1<|Z4 _ (Z00 (p:=[b3' y1.1]) rfl .here rfl)<|Z4 _ (Z1d rfl (Z9n f2))<|Z4 _ (Z1d rfl (Z87 f3))<|Zc (Zu fun b4 u4=>Zc (Zl (q:=[b3' y3]) rfl rfl rfl rfl rfl .here<|Z2<|Z0<|oH h fun y4 f4 h=>Z1<|Z8 rfl<|Z8 rfl<|Zc (Z54 (E:=El.sl) (xs:=[unS v8,unS v1]) (.one rfl (Z9i.cells (Z09.isSl O1)) rfl (.one rfl (Z9i.cells (Shp.isSl (Shp.rd A1))) rfl BdR.nil)) (.cons (p:=[.one v8]) (Z26 (Z09.isSl O1)) (.cons (p:=[.one v1]) (Z26 (Shp.isSl (Shp.rd A1))) .nil)) rfl fun v17 w2 O2=>Z4 _ (Z0a rfl (fun w hw=>Z5r f4 (hG.at hw (by simp)) (Z0b O2 .here w hw) (.cons (Z29 ((Z0b O1 (.app .t2)) w hw)) (.cons (Z29 ((Z1m A1 Z1u) w hw)) .nil))))<|Zc (Zu fun b5 u5=>Zc (Zl (q:=[b3' y4]) rfl rfl rfl rfl rfl .here<|Z2<|Z0<|oH h fun y5 f5 h=>oH h fun y6 f6 h=>Z1<|Z4 _ (Z00 (p:=[b3' y4]) rfl .here rfl)<|Z4 _ (Z1d rfl (Z9n f5))<|Z4 _ (Z1d rfl (Z87 f6))<|Zc (Zu fun b6 u6=>Zc (Zl (q:=[b3' y6]) rfl rfl rfl rfl rfl .here<|Z2<|Z0<|jH h fun k1 q1 h=>Zo (G:=fun t m=>∃ (a1:LI) (b7:Nat),k1 a1=some r/\Fit [(4,pt' b2),(5,pt' b3),(8,pt' b5),(9,pt' b6),(10,pt' b7)] (ck b7 118 [b3' a1]::(ck b6 43 [b3' y6]::(ck b5 118 [b3' y4]::(ck b4 43 [b3' y3]::(ck b3 118 [b3' y1.1]::(ck b2 27 [b6' (List.replicate 64 0)]::(ck b1 23 [b3' p0] :: []))))))) t m) ?_ ?_)))))))))
 ·refine oH h fun y7 f7 h=>Zv<|Z6 _ (Z88 rfl .no .no .no (by simp) (by decide))<|Z6 _ (Z88 rfl .no .no .no (by simp) (by decide))<|Z6 _ (Z04 rfl)<|Zey (Z54 (E:=El.sl) (xs:=[unS (.slice (some (Z1y b6 0 0 32 1)) (32-0) (32-0)),unS (.slice (some (Z1y b4 0 0 32 1)) (32-0) (32-0)),unS v1]) (.one rfl (Z9i.cells ⟨_,_,_,rfl⟩) rfl (.one rfl (Z9i.cells ⟨_,_,_,rfl⟩) rfl (.one rfl (Z9i.cells (Shp.isSl (Shp.rd A1))) rfl BdR.nil))) (.cons (p:=[.one (.slice (some (Z1y b6 0 0 32 1)) (32-0) (32-0))]) (Z26 ⟨_,_,_,rfl⟩) (.cons (p:=[.one (.slice (some (Z1y b4 0 0 32 1)) (32-0) (32-0))]) (Z26 ⟨_,_,_,rfl⟩) (.cons (p:=[.one v1]) (Z26 (Shp.isSl (Shp.rd A1))) .nil))) rfl fun v36 w3 O3=>⟨(by repeat (first | exact Sup.refl _ | apply Sup.cons | apply Sup.app)),?_⟩) (Zu fun b8 u7=>⟨(by repeat (first | exact Sup.refl _ | apply Sup.cons | apply Sup.app)),?_⟩)
  ·refine Zey (ef_q _ (Z0a rfl (fun w hw=>Z5r f7 (hG.at hw (by simp)) (Z0b O3 .here w hw) (.cons (Z29 ((Z1t (s:=[b3' y6]) (N:=32) (k:=.u8) (base:=0) (lo:=0) (hi:=32) (mz:=32) (.app .here) rfl (by decide)) w hw)) (.cons (Z29 ((Z1t (s:=[b3' y3]) (N:=32) (k:=.u8) (base:=0) (lo:=0) (hi:=32) (mz:=32) (.app (.there (.there (.app .here)))) rfl (by decide)) w hw)) (.cons (Z29 ((Z1m A1 Z1u) w hw)) .nil))))) ⟨(by repeat (first | exact Sup.refl _ | apply Sup.cons | apply Sup.app)),?_⟩) (Zu fun b8 u7=>⟨(by repeat (first | exact Sup.refl _ | apply Sup.cons | apply Sup.app)),?_⟩)
   ·exact Z2u (Zu fun b8 u7=>⟨(by repeat (first | exact Sup.refl _ | apply Sup.cons | apply Sup.app)),Z1q rfl (Zl (q:=[b3' y7]) rfl rfl rfl rfl rfl .here (Zy (⟨y7,b8,h,⟨⟨rfl,rfl,rfl,rfl,rfl,trivial⟩,(.o (.one (.app .here) (.one (.app .here) (.one (.app (.app .here)) (.one (.app (.app .here)) (.one (.app (.app (.app .here))) (.one (.app (.app (.app .here))) .nil)))))))⟩⟩)))⟩)
   ·exact Za7 _ (Z0a rfl (fun w hw=>Z5r f7 (hG.at hw (by simp)) (Z0b O3 .t1 w hw) (.cons (Z29 ((Z1t (s:=[b3' y6]) (N:=32) (k:=.u8) (base:=0) (lo:=0) (hi:=32) (mz:=32) (.there (.app .here)) rfl (by decide)) w hw)) (.cons (Z29 ((Z1t (s:=[b3' y3]) (N:=32) (k:=.u8) (base:=0) (lo:=0) (hi:=32) (mz:=32) (.there (.app (.there (.there (.app .here))))) rfl (by decide)) w hw)) (.cons (Z29 ((Z1m A1 Z1u) w hw)) .nil))))) (Z1q rfl (Zl (q:=[b3' y7]) rfl rfl rfl rfl rfl .here (Zy (⟨y7,b8,h,⟨⟨rfl,rfl,rfl,rfl,rfl,trivial⟩,(.o (.one (.app .here) (.one (.app .here) (.one (.app (.app .here)) (.one (.app (.app .here)) (.one (.app (.app (.app .here))) (.one (.app (.app (.app .here))) .nil)))))))⟩⟩)))) (by repeat (first | exact Sup.refl _ | apply Sup.cons | apply Sup.app))
  ·exact Z2u (Z54 (E:=El.sl) (xs:=[unS (.slice (some (Z1y b6 0 0 32 1)) (32-0) (32-0)),unS (.slice (some (Z1y b4 0 0 32 1)) (32-0) (32-0)),unS v1]) (.one rfl (Z9i.cells ⟨_,_,_,rfl⟩) rfl (.one rfl (Z9i.cells ⟨_,_,_,rfl⟩) rfl (.one rfl (Z9i.cells (Shp.isSl (Shp.rd A1))) rfl BdR.nil))) (.cons (p:=[.one (.slice (some (Z1y b6 0 0 32 1)) (32-0) (32-0))]) (Z26 ⟨_,_,_,rfl⟩) (.cons (p:=[.one (.slice (some (Z1y b4 0 0 32 1)) (32-0) (32-0))]) (Z26 ⟨_,_,_,rfl⟩) (.cons (p:=[.one v1]) (Z26 (Shp.isSl (Shp.rd A1))) .nil))) rfl fun v36 w3 O3=>⟨(by repeat (first | exact Sup.refl _ | apply Sup.cons | apply Sup.app)),Za7 _ (Z0a rfl (fun w hw=>Z5r f7 (hG.at hw (by simp)) (Z0b O3 .here w hw) (.cons (Z29 ((Z1t (s:=[b3' y6]) (N:=32) (k:=.u8) (base:=0) (lo:=0) (hi:=32) (mz:=32) (.app .t1) rfl (by decide)) w hw)) (.cons (Z29 ((Z1t (s:=[b3' y3]) (N:=32) (k:=.u8) (base:=0) (lo:=0) (hi:=32) (mz:=32) (.app (.there (.there (.there (.app .here))))) rfl (by decide)) w hw)) (.cons (Z29 ((Z1m A1 Z1u) w hw)) .nil))))) (Z1q rfl (Zl (q:=[b3' y7]) rfl rfl rfl rfl rfl (.app .here) (Zy (⟨y7,b8,h,⟨⟨rfl,rfl,rfl,rfl,rfl,trivial⟩,(.one (.app .here) (.one (.app .here) (.one (.app .here) (.one (.app (.app .here)) (.one (.app (.app .here)) (.one (.app (.app (.app .here))) (.one (.app (.app (.app .here))) .nil)))))))⟩⟩)))) (by repeat (first | exact Sup.refl _ | apply Sup.cons | apply Sup.app))⟩)
 ·rintro t m ⟨a1,b7,h,hF⟩
  refine Zm hF ?_
  clear hF
  subst q1
  refine Z0<|oH h fun y8 f8 h=>Z1<|Z4 _ (Z00 (p:=[b3' a1]) rfl .here rfl)<|Z4 _ (Z00 (p:=[b3' y1.1]) rfl .t4 rfl)<|Z4 _ (Z00 (p:=[b3' y4]) rfl .t2 rfl)<|Z4 _ (Z0a rfl (fun w hw=>Zjf f8 (hG.at hw (by simp))))<|Zc (Zu fun b9 u8=>Zc (Zl (q:=[b3' y8]) rfl rfl rfl rfl rfl .here<|Z2<|Z0<|Z1<|Zc (Zu fun b10 u9=>Z2<|Z0<|bH h fun l1 g1 h=>Zv<|Z6 _ (Z88 rfl .no (.yes rfl) .no (by simp) (by decide))<|Z6 _ (Z88 rfl .no .no .no (by simp) (by decide))<|Z1q rfl (Zf3 (q:=[b6' l1]) (lo:=0) (hi:=32) (mz:=64) (base:=0) (cpy0 g1) rfl rfl (Z1t (s:=[b3' y6]) (N:=32) (k:=.u8) (base:=0) (lo:=0) (hi:=32) (mz:=32) .t3 rfl (by decide)) rfl (by decide) rfl .here<|Zy<|Z0<|bH h fun l2 g2 h=>Zv<|Z6 _ (Z88 rfl (.yes rfl) .no .no (by simp) (by decide))<|Z6 _ (Z88 rfl .no .no .no (by simp) (by decide))<|Z1q rfl (Zf3 (q:=[b6' l2]) (lo:=32) (hi:=64) (mz:=64) (base:=0) g2 rfl rfl (Z1t (s:=[b3' y8]) (N:=32) (k:=.u8) (base:=0) (lo:=0) (hi:=32) (mz:=32) .t1 rfl (by decide)) rfl (by decide) rfl .here<|Zy<|Z0<|Z1<|Z4 _ (Z00 (p:=[b6' l2]) rfl .here rfl)<|Zc (Zl (q:=[b6' l2]) rfl rfl rfl rfl rfl .t7<|Z2<|Zf ?_))))))
  revert h; refine Z01 fun h=>?_
  subst h
  exact ⟨_,(.cons (.agg rfl .t7 rfl) .nil),rfl⟩
def Zcf:Option (Unit) :=
 some ()
theorem Zgx {W:World} {r:Unit} (h:Zcf=some r)  :
    Calls Tryz.prog 44 [].toArray W (Z3c W (agg [.one (.func (.func 12) #[] #[]),.one (.func (.func 99) #[] #[]),.one (.func (.func 100) #[] #[]),.one (.func (.func 101) #[] #[])])):=by
 unfold Zcf at h
 refine Za mo ok44 rfl ?_
 refine Z0<|Z1<|Zc (Zu fun b1 u1=>Z2<|Z0<|Z1<|Z4 _ (Zcd (q:=[.one (.func (.func 12) #[] #[]),.one (.func (.func 99) #[] #[]),.one (.func (.func 100) #[] #[]),.one (.func (.func 101) #[] #[])]) (.one rfl rfl rfl (.one rfl rfl rfl (.one rfl rfl rfl (.one rfl rfl rfl BdR.nil)))))<|Zc (Zl (q:=[.one (.func (.func 12) #[] #[]),.one (.func (.func 99) #[] #[]),.one (.func (.func 100) #[] #[]),.one (.func (.func 101) #[] #[])]) rfl rfl rfl rfl rfl .here<|Z2<|Zf ?_))
 revert h; refine Z01 fun h=>?_
 subst h
 exact ⟨_,(.cons (.agg rfl .here rfl) .nil),rfl⟩
def Z9b:Option (Unit) :=
 some ()
theorem Zen {W:World} {r:Unit} (h:Z9b=some r)  :
    Calls Tryz.prog 46 [].toArray W (Z3c W (agg [.one (.func (.func 33) #[] #[]),.one (.func (.func 103) #[] #[]),.one (.func (.func 104) #[] #[]),.one (.func (.func 105) #[] #[])])):=by
 unfold Z9b at h
 refine Za mo ok46 rfl ?_
 refine Z0<|Z1<|Zc (Zu fun b1 u1=>Z2<|Z0<|Z1<|Z4 _ (Zcd (q:=[.one (.func (.func 33) #[] #[]),.one (.func (.func 103) #[] #[]),.one (.func (.func 104) #[] #[]),.one (.func (.func 105) #[] #[])]) (.one rfl rfl rfl (.one rfl rfl rfl (.one rfl rfl rfl (.one rfl rfl rfl BdR.nil)))))<|Zc (Zl (q:=[.one (.func (.func 33) #[] #[]),.one (.func (.func 103) #[] #[]),.one (.func (.func 104) #[] #[]),.one (.func (.func 105) #[] #[])]) rfl rfl rfl rfl rfl .here<|Z2<|Zf ?_))
 revert h; refine Z01 fun h=>?_
 subst h
 exact ⟨_,(.cons (.agg rfl .here rfl) .nil),rfl⟩
def Z57:Option (Unit) :=
 some ()
theorem Zbq {W:World} {r:Unit} (h:Z57=some r)  :
    Calls Tryz.prog 48 [].toArray W (Z3c W (agg [.one (.func (.func 35) #[] #[]),.one (.func (.func 106) #[] #[]),.one (.func (.func 107) #[] #[]),.one (.func (.func 108) #[] #[])])):=by
 unfold Z57 at h
 refine Za mo ok48 rfl ?_
 refine Z0<|Z1<|Zc (Zu fun b1 u1=>Z2<|Z0<|Z1<|Z4 _ (Zcd (q:=[.one (.func (.func 35) #[] #[]),.one (.func (.func 106) #[] #[]),.one (.func (.func 107) #[] #[]),.one (.func (.func 108) #[] #[])]) (.one rfl rfl rfl (.one rfl rfl rfl (.one rfl rfl rfl (.one rfl rfl rfl BdR.nil)))))<|Zc (Zl (q:=[.one (.func (.func 35) #[] #[]),.one (.func (.func 106) #[] #[]),.one (.func (.func 107) #[] #[]),.one (.func (.func 108) #[] #[])]) rfl rfl rfl rfl rfl .here<|Z2<|Zf ?_))
 revert h; refine Z01 fun h=>?_
 subst h
 exact ⟨_,(.cons (.agg rfl .here rfl) .nil),rfl⟩
def Z6p (p1:Int) (k1:(LI)->Option Bool) (k2:Int->(LI)->Option Bool) (i1:Int) (a1:LI):Option Bool :=
 br ((decide (i1<p1))) (
 opt (Z72 (tk a1 0 32)) fun y1 =>
 bnd (IntKind.wrap .i64 (i1+1)) fun z1 =>
 k2 z1 y1
 ) (
 k1 a1
 )
def Z6q (p1:Int) (k1:(LI)->Option Bool):Nat->Int->(LI)->Option Bool
  | 0,_,_=>none
  | n+1,i1,a1=>Z6p p1 k1 (Z6q p1 k1 n) i1 a1
def Zau (p0:LI) (p1:Int) (p2:LI):Option Bool :=
 jn (fun (a1:LI)=>some (ieq 32 a1 p2)) fun k1=>Z6q p1 k1 big 0 p0
theorem Zm7 {W:World} {r:Bool} {p0:LI} {p1:Int} {p2:LI} (h:Zau p0 p1 p2=some r) (hG:Globs W) :
    Calls Tryz.prog 51 [agg [b3' p0],.int .i64 (p1),agg [b3' p2]].toArray W (Z3c W (.bool (r))):=by
 unfold Zau at h
 refine Za mo ok51 rfl ?_
 refine Z0<|Z1<|Zc (Z06 (s:=[b3' p0]) rfl fun b1 u1=>Zc (Z06 (s:=[b3' p2]) rfl fun b2 u2=>Z8 rfl<|Z2<|Z0<|Z0<|Z1<|Z8 rfl<|Z8 rfl<|Z2<|jH h fun k1 q1 h=>Zo (G:=fun t m=>∃ (a1:LI),k1 a1=some r/\Fit [(3,pt' b1),(5,pt' b2)] (ck b2 23 [b3' p2]::(ck b1 23 [b3' a1] :: [])) t m) ?_ ?_))
 ·refine Zd<|Z07 (fun n1 t m=>∃ (i1:Int) (a2:LI),Z6q p1 k1 n1 i1 a2=some r/\Fit [(3,pt' b1),(5,pt' b2),(7,.int .i64 (p1)),(8,.int .i64 (i1))] (ck b2 23 [b3' p2]::(ck b1 23 [b3' a2] :: [])) t m) big ?_ ?_
  ·exact ⟨0,p0,h,⟨⟨rfl,rfl,rfl,rfl,trivial⟩,(.o (.o .nil))⟩⟩
  ·rintro n1 t m ⟨i1,a2,h,hF⟩
   refine Zm hF ?_
   clear hF
   rcases n1 with _ | n1
   · exact Z1r h
   have h:Z6p p1 k1 (Z6q p1 k1 n1) i1 a2=some r:=h
   unfold Z6p at h
   obtain ⟨k2,q2⟩ : ∃ k,k=Z6q p1 k1 n1:=⟨_,rfl⟩
   try rw [<- q2] at h
   refine Z0<|Z1<|Z4 _ (Zb rfl rfl rfl)<|Z2<|Z0<|Z0r h rfl (fun h=>?_) (fun h=>?_)
   ·refine Zn<|Z0<|Zd<|oH h fun y1 f1 h=>Z1<|Z4 _ (Z88 rfl .no .no .no (by simp) (by decide))<|Z4 _ (Z0a rfl (fun w hw=>Z3a f1 (hG.at hw (by simp)) ((Z1t (s:=[b3' a2]) (N:=32) (k:=.u8) (base:=0) (lo:=0) (hi:=32) (mz:=32) .t1 rfl (by decide)) w hw)))<|Zc (Zl (q:=[b3' y1]) rfl rfl rfl rfl rfl .t1<|Z2<|bH h fun z1 e1 h=>Z1<|Z4 _ (iz e1 (Zb rfl rfl rfl))<|Z8 rfl<|Z2 ?_)
    rw [q2] at h
    exact ⟨n1,Nat.lt_succ_self _,z1,y1,h,⟨⟨rfl,rfl,rfl,rfl,trivial⟩,(.o (.o .nil))⟩⟩
   ·exact Z0l _ rfl<|⟨a2,h,⟨⟨rfl,rfl,trivial⟩,(.o (.o .nil))⟩⟩
 ·rintro t m ⟨a1,h,hF⟩
  refine Zm hF ?_
  clear hF
  subst q1
  refine Z0<|Z1<|Z4 _ (Z00 (p:=[b3' a1]) rfl .t1 rfl)<|Z4 _ (Z00 (p:=[b3' p2]) rfl .here rfl)<|Z4 _ (Zvc rfl rfl rfl rfl _ (Zj1 Zj0))<|Z8 rfl<|Z2<|Zf ?_
  revert h; refine Z01 fun h=>?_
  subst h
  exact ⟨_,(.cons (.tmp rfl) .nil),rfl⟩
def Z2p (p0:LI):OL :=
 bnd (Z3z p0 63 255) fun l1 =>
 some l1
theorem Z5y {W:World} {r:(LI)} {p0:LI} (h:Z2p p0=some r)  :
    Calls Tryz.prog 17 [agg [b6' p0]].toArray W (Z3c W (agg [b6' r])):=by
 unfold Z2p at h
 refine Za mo ok17 rfl ?_
 refine Z0<|Z1<|Zc (Z06 (s:=[b6' p0]) rfl fun b1 u1=>Zc (Zu fun b2 u2=>Z2<|Z0<|bH h fun l1 g1 h=>Z1<|Z4 _ (Z3f rfl rfl (by decide))<|Zc (Zbx (q:=[b6' l1]) (congrArg (fun z=>([b6' z]:List Seg)) g1.symm) rfl rfl rfl rfl .t1<|Z2<|Z0<|Z1<|Z4 _ (Z00 (p:=[b6' l1]) rfl .t1 rfl)<|Zc (Zl (q:=[b6' l1]) rfl rfl rfl rfl rfl .here<|Z2<|Zf ?_))))
 revert h; refine Z01 fun h=>?_
 subst h
 exact ⟨_,(.cons (.agg rfl .here rfl) .nil),rfl⟩
structure Zag (α:Type) where
 put:Zt->α->Option Zt
 may:α->Bool
 sgn:Bool
abbrev wck (b:Nat) (T:TypeId) (u:Value) (f:Int):Ze:=ck b T [.one u,.one (.int .i64 f)]
section
variable {α:Type} (L:α->List Seg) (ms:List Ze)
def Zzm (c:ClT) (may:α->Bool):Prop :=
 Zsw Tryz.prog c.1=true /\ ∀ (W:World) (b:Nat) (x:α),Zbv ms W->Mem W b 0 (L x)->Calls Tryz.prog c.1 (pt0 b::c.2).toArray W (Z3c W (.bool (may x)))
def HiM (c:ClT) (hi:α->Int):Prop :=
 Zsw Tryz.prog c.1=true /\ ∀ (W:World) (b:Nat) (x:α),Zbv ms W->Mem W b 0 (L x)->Calls Tryz.prog c.1 (pt0 b::c.2).toArray W (Z3c W (.int .i64 (hi x)))
def Zzn (c:ClT) (put:Zt->α->Option Zt):Prop :=
 Zsw Tryz.prog c.1=true /\ ∀ (W:World) (b:Nat) (x:α) (bw:Nat) (Tw:TypeId) (vw:Value) (Mw:List Ze) (p r:Zt),put p x=some r->Zbv ms W->(∀ k∈ms,k.b∉bw::Mw.map (·.b)) ->
  Mem W b 0 (L x)->b∉bw::Mw.map (·.b)->Sat W (bw::Mw.map (·.b)) (wck bw Tw vw p.gfault::(Mw ++ [])) W->Z09 (El.int .u8) vw Mw p.gbytes ->
  Calls Tryz.prog c.1 (pt0 bw::pt0 b::c.2).toArray W (Z8e W (bw::Mw.map (·.b)) (fun v Ms=>∃ (uw:Value) (Mw:List Ze),v = .tuple #[]/\Ms = [.one (wck bw Tw uw r.gfault),.all Mw]/\Z09 (El.int .u8) uw Mw r.gbytes))
end
def AtF (c:FuncId) (off:Nat):Prop:=Zsw Tryz.prog c=true /\ ∀ (W:World) (b:Nat),Calls Tryz.prog c [pt0 b].toArray W (Z3c W (.pointer (some ⟨b,0+off,none⟩)))
def SlF (c:FuncId) (off n:Nat):Prop:=Zsw Tryz.prog c=true/\0<n /\ ∀ (W:World) (b:Nat),Calls Tryz.prog c [pt0 b].toArray W (Z3c W (.slice (some ⟨b,0+off,none⟩) n n))
section
variable {α:Type} {L:α->List Seg} {ms:List Ze} {F cb db eb tb:Nat} {td te:TypeId} {g g2:FuncId} {off off2:Nat}
theorem Zzm.mono {ns:List Ze} {c:ClT} {f:α->Bool} (h:Zzm L ms c f) (hs : ∀ k∈ms,k∈ns):Zzm L ns c f:=⟨h.1,fun W b x hH=>h.2 W b x (hH.sub hs)⟩
theorem HiM.mono {ns:List Ze} {c:ClT} {f:α->Int} (h:HiM L ms c f) (hs : ∀ k∈ms,k∈ns):HiM L ns c f:=⟨h.1,fun W b x hH=>h.2 W b x (hH.sub hs)⟩
theorem Zzn.mono {ns:List Ze} {c:ClT} {f:Zt->α->Option Zt} (h:Zzn L ms c f) (hs : ∀ k∈ms,k∈ns):Zzn L ns c f :=
 ⟨h.1,fun W b x bw Tw vw Mw p r hr hH hd=>h.2 W b x bw Tw vw Mw p r hr (hH.sub hs) fun k hk=>hd k (hs k hk)⟩
def dAt (os:List Nat) (n:Nat):FnD:=⟨n,[.tmp 2],.seq (.ops [oj 2 (.mv (.const (.pointer none)))]) (.seq (.ops (oj 3 (.mv 0)::oj 4 (.nilc 3)::os.zipIdx.map (fun p=>oj (5+p.2) (.fa p.1 (.tmp (4+p.2)))) ++ [oj 2 (.mv (.tmp (4+os.length)))])) .ret)⟩
theorem Zr9 {n o:Nat} (ok:okF Tryz.prog F (dAt [o] n)=true) (hn:Z7d Tryz.prog F=true) (h6:Nat.ble 1 n=true):AtF F o:=by
 refine ⟨Z9q ok hn,fun W b=>Za mo ok h6 ?_⟩
 exact Z0<|Z1<|Z4 _ (Z04 rfl)<|Z2<|Z0<|Z1<|Z4 _ (Z04 rfl)<|Z4 _ (Z1l rfl)<|Z4 _ (Z1v rfl)<|Z4 _ (Z04 rfl)<|Z2<|Zf ⟨_,.cons (.tmp rfl) .nil,rfl⟩
def dSl (o N:Nat):FnD:=⟨7,[.tmp 2],.seq (.ops [oj 2 (.mv (.const (.slice none 0 0)))]) (.seq (.ops [oj 3 (.mv 0),oj 4 (.nilc 3),oj 5 (.fa o 4),oj 6 (.sla N 1 5 none none none),oj 2 (.mv 6)]) .ret)⟩
theorem slF {o N:Nat} (ok:okF Tryz.prog F (dSl o N)=true) (hn:Z7d Tryz.prog F=true) (h0:0<N):SlF F o N:=by
 refine ⟨Z9q ok hn,h0,fun W b=>Za mo ok rfl ?_⟩
 have e:Z1y b (0+o) (0:Int).toNat (N:Int).toNat 1=⟨b,0+o,none⟩:=by unfold Z1y; split <;> simp
 have e2:(N:Int).toNat-(0:Int).toNat=N:=by simp
 refine Z0<|Z1<|Z4 _ (Z04 rfl)<|Z2<|Z0<|Z1<|Z4 _ (Z04 rfl)<|Z4 _ (Z1l rfl)<|Z4 _ (Z1v rfl)<|Z4 (.slice (some ⟨b,0+o,none⟩) N N) ?_<|Z4 _ (Z04 rfl)<|Z2<|Zf ⟨_,.cons (.tmp rfl) .nil,rfl⟩
 have:=Z88 (C:=⟨Tryz.prog,7,W,[]⟩) (m:=[]) (t:=(5,.pointer (some ⟨b,0+o,none⟩))::(4,pt0 b)::(3,pt0 b)::(2,.slice none 0 0)::Zpj 0 [pt0 b]) (len:=N) (w:=1) (x:=5) (lo:=none) (hi:=none) (mx:=none) (lz:=0) (hz:=N) (mz:=N) rfl .no .no .no (by simp) ⟨by omega,by omega,by omega,by omega⟩
 rw [e,e2] at this
 exact this
def dAny:FnD:=⟨3,[.tmp 2],.seq (.ops [oj 2 (.mv (.const (.bool false)))]) (.seq (.ops [oj 2 (.mv (.const (.bool true)))]) .ret)⟩
theorem Z03k (ok:okF Tryz.prog F dAny=true) (hn:Z7d Tryz.prog F=true):Zzm L ms (F,[]) (fun _=>true) :=
 ⟨Z9q ok hn,fun W b x _ _=>Za mo ok rfl<|Z0<|Z1<|Z4 _ (Z04 rfl)<|Z2<|Z0<|Z1<|Z4 _ (Z04 rfl)<|Z2<|Zf ⟨_,.cons (.tmp rfl) .nil,rfl⟩⟩
def Z007:FnD:=⟨5,[.tmp 3],.seq (.ops [oj 3 (.mv (ci 0))]) (.seq (.ops [oj 4 (.ld 1 false 1),oj 3 (.mv 4)]) .ret)⟩
theorem Z0cz {n:Int} (ok:okF Tryz.prog F Z007=true) (hn:Z7d Tryz.prog F=true) (hc:ck cb tb [.one (.int .i64 n)]∈ms):HiM L ms (F,[pt0 cb]) (fun _=>n) :=
 ⟨Z9q ok hn,fun W b x hH _=>Za mo ok rfl<|Z0<|Z1<|Z4 _ (Z04 rfl)<|Z2<|Z0<|Z1<|Z4 _ (Z7e rfl (Z3k (hH.cap hc) (by simp)))<|Z4 _ (Z04 rfl)<|Z2<|Zf ⟨_,.cons (.tmp rfl) .nil,rfl⟩⟩
def dHi2 (o1 o2:Nat):FnD:=⟨8,[.tmp 2],.seq (.ops [oj 2 (.mv (ci 0))]) (.seq (.ops [oj 3 (.mv 0),oj 4 (.nilc 3),oj 5 (.fa o1 4),oj 6 (.fa o2 5),oj 7 (.ld 1 false 6),oj 2 (.mv 7)]) .ret)⟩
theorem Z09b {o1 o2:Nat} {get:α->Int} (ok:okF Tryz.prog F (dHi2 o1 o2)=true) (hn:Z7d Tryz.prog F=true) (hg : ∀ x,Z8h (L x) (o1+o2)=some (.int .i64 (get x))):HiM L ms (F,[]) get :=
 ⟨Z9q ok hn,fun W b x _ hm=>Za mo ok rfl<|Z0<|Z1<|Z4 _ (Z04 rfl)<|Z2<|Z0<|Z1<|Z4 _ (Z04 rfl)<|Z4 _ (Z1l rfl)<|Z4 _ (Z1v rfl)<|Z4 _ (Z1v rfl) <|
  Z4 _ (Zfn (o0:=0) (off:=o1+o2) (by rw [<- Nat.add_assoc]; rfl) hm (by simp) (hg x))<|Z4 _ (Z04 rfl)<|Z2<|Zf ⟨_,.cons (.tmp rfl) .nil,rfl⟩⟩
def Zpr (u:FuncId) (k:IntKind):FnD:=⟨13,[],.ops [oj 5 (.mv 0),oj 6 (.ld 1 false 2),oj 7 (.mv 1),oj 8 (.cv 6 [7]),oj 9 (.nilc 8),oj 10 (.ld 1 false 9),oj 11 (.conv k 10),oj 12 (.call u [5,11])]⟩
theorem Z05v {get:α->Int} (ok:okF Tryz.prog F (Zpr 185 .u32)=true) (hn:Z7d Tryz.prog F=true) (hat:AtF g off) (hg : ∀ x,Z8h (L x) off=some (.int .i64 (get x))) (hc:ck cb tb [.one (clV (g,[]))]∈ms) :
  Zzn L ms (F,[pt0 cb]) (fun w x=>Z69 w (IntKind.u32.wrap (get x))):=by
 refine ⟨Z9q ok hn,fun W b x bw Tw vw Mw p r h hH hd hm hb h0 hO=>Zs mo ok rfl h0 ?_⟩
 refine Z1<|Z4 _ (Z04 rfl)<|Z4 _ (Z7e rfl (Z3k (hH.cap hc) (hd _ hc)))<|Z4 _ (Z04 rfl)<|Z4 _ (Zgr (caps:=[]) hat.1 rfl rfl (fun w hw=>hat.2 w b))<|Z4 _ (Z1l rfl)<|Z4 _ (Zfn rfl hm hb (hg x))<|Z4 _ (Z6x rfl) <|
  Zc (Z2z (mS:=_::Mw) rfl (Zab .here .here) (fun w hw=>Zhz h (Z7f hw (Zab .here .here)) hO) fun v Ms hR=>Z2 ?_)
 obtain ⟨uw,Mw',rfl,rfl,hO'⟩:=hR
 exact ⟨_,_,.nil,.one .here (.all .here .nil),⟨_,rfl,⟨uw,Mw',rfl,rfl,hO'⟩⟩⟩
theorem Z05p {get:α->Int} (ok:okF Tryz.prog F (Zpr 191 .u64)=true) (hn:Z7d Tryz.prog F=true) (hat:AtF g off) (hg : ∀ x,Z8h (L x) off=some (.int .i64 (get x))) (hc:ck cb tb [.one (clV (g,[]))]∈ms) :
  Zzn L ms (F,[pt0 cb]) (fun w x=>Z6a w (IntKind.u64.wrap (get x))):=by
 refine ⟨Z9q ok hn,fun W b x bw Tw vw Mw p r h hH hd hm hb h0 hO=>Zs mo ok rfl h0 ?_⟩
 refine Z1<|Z4 _ (Z04 rfl)<|Z4 _ (Z7e rfl (Z3k (hH.cap hc) (hd _ hc)))<|Z4 _ (Z04 rfl)<|Z4 _ (Zgr (caps:=[]) hat.1 rfl rfl (fun w hw=>hat.2 w b))<|Z4 _ (Z1l rfl)<|Z4 _ (Zfn rfl hm hb (hg x))<|Z4 _ (Z6x rfl) <|
  Zc (Z2z (mS:=_::Mw) rfl (Zab .here .here) (fun w hw=>Zi0 h (Z7f hw (Zab .here .here)) hO) fun v Ms hR=>Z2 ?_)
 obtain ⟨uw,Mw',rfl,rfl,hO'⟩:=hR
 exact ⟨_,_,.nil,.one .here (.all .here .nil),⟨_,rfl,⟨uw,Mw',rfl,rfl,hO'⟩⟩⟩
abbrev oG (d tc:Nat) (w:Bool) (i:IOp):J:=.op ⟨some d,some (tc,w),i⟩
def Zwi:FnD:=⟨24,[.tmp 5],.seq (.ops [oj 5 (.mv (.const (.bool false)))]) (.seq (.draw (.q [0] (oj 6 (.ld 1 false 1)) (.q [1] (oj 7 (.mv 0)) (.q [2] (oj 8 (.cv 6 [7])) (.q [3] (oj 9 (.nilc 8)) (.q [4] (oj 10 (.ld 1 false 9)) (.q [5] (oj 11 (.ld 1 false 2)) (.q [6] (oj 12 (.bin .geq 10 11)) (.q [7] (oj 13 (.mv 12))
 (.q [8,9,10,11,12,13,14,15,16,17] (.lg false 13 23 none [oG 14 13 true (.ld 1 false 1),oG 15 13 true (.mv 0),oG 16 13 true (.cv 14 [15]),oG 17 13 true (.nilc 16),oG 18 13 true (.ld 1 false 17),oG 19 13 true (.ld 1 false 3),oG 20 13 true (.mv 0),oG 21 13 true (.cv 19 [20]),oG 22 13 true (.bin .leq 18 21)] 22)
 (.q [18] (oj 5 (.mv 23)) .nil)))))))))) []) .ret)⟩
theorem Z05u {get:α->Int} {lo:Int} {c:ClT} {hi:α->Int} (ok:okF Tryz.prog F Zwi=true) (hn:Z7d Tryz.prog F=true) (hat:AtF g off) (hg : ∀ x,Z8h (L x) off=some (.int .i64 (get x))) (hh:HiM L ms c hi)
  (hc:ck cb tb [.one (clV (g,[]))]∈ms) (hd:ck db td [.one (.int .i64 lo)]∈ms) (he:ck eb te [.one (clV c)]∈ms) :
  Zzm L ms (F,[pt0 cb,pt0 db,pt0 eb]) (fun x=>decide (get x≥lo)&&decide (get x<=hi x)):=by
 refine ⟨Z9q ok hn,fun W b x hH hm=>Za mo ok rfl ?_⟩
 have qc:=fun (t:TS) (x:Operand) (hx:ev t x=some (pt0 cb))=>Z7e (C:=⟨Tryz.prog,24,W,[]⟩) (m:=[]) (t:=t) hx (Z3k (C:=⟨Tryz.prog,24,W,[]⟩) (hH.cap hc) (by simp))
 refine Z0<|Z1<|Z4 _ (Z04 rfl)<|Z2<|Z0<|Zv<|Zh _ (qc _ _ rfl)<|Zh _ (Z04 rfl)<|Zh _ (Zgr (caps:=[]) hat.1 rfl rfl (fun w hw=>hat.2 w b))<|Zh _ (Z1l rfl)<|Zh _ (Zfn rfl hm (by simp) (hg x)) <|
  Zh _ (Z7e rfl (Z3k (hH.cap hd) (by simp)))<|Zh _ (Zb rfl rfl rfl)<|Zh _ (Z04 rfl)<|Zue (v:=decide (get x<=hi x)) rfl rfl rfl (fun hg1=>Z27 rfl _ (qc _ _ rfl) (Z27 rfl _ (Z04 rfl) (Z27 rfl _ (Zgr (caps:=[]) hat.1 rfl rfl (fun w hw=>hat.2 w b)) (Z27 rfl _ (Z1l rfl)
   (Z27 rfl _ (Zfn rfl hm (by simp) (hg x)) (Z27 rfl _ (Z7e rfl (Z3k (hH.cap he) (by simp))) (Z27 rfl _ (Z04 rfl) (Z27 rfl _ (Zgr (caps:=c.2) hh.1 rfl rfl (fun w hw=>hh.2 w b x (hH.still0 hw) (Z6w hm (by simp) hw))) (Z27 rfl _ (Zb rfl rfl rfl) Z28))))))))) (fun _=>rfl) rfl <|
  Zh _ (Z04 rfl)<|Zy<|Zf ⟨_,.cons (.tmp rfl) .nil,rfl⟩
def Z04j:FnD:=⟨20,[.tmp 4],.seq (.ops [oj 4 (.mv (.const (.bool false)))]) (.seq (.draw (.q [0] (oj 5 (.ld 1 false 1)) (.q [1] (oj 6 (.mv 0)) (.q [2] (oj 7 (.cv 5 [6])) (.q [3] (oj 8 (.nilc 7)) (.q [4] (oj 9 (.ld 1 false 8)) (.q [5] (oj 10 (.bin .geq 9 (ci 0))) (.q [6] (oj 11 (.mv 10))
 (.q [7,8,9,10,11,12,13,14] (.lg false 11 19 none [oG 12 11 true (.ld 1 false 1),oG 13 11 true (.mv 0),oG 14 11 true (.cv 12 [13]),oG 15 11 true (.nilc 14),oG 16 11 true (.ld 1 false 15),oG 17 11 true (.ld 1 false 2),oG 18 11 true (.bin .leq 16 17)] 18)
 (.q [15] (oj 4 (.mv 19)) .nil))))))))) []) .ret)⟩
theorem Z05o {get:α->Int} {hi:Int} (ok:okF Tryz.prog F Z04j=true) (hn:Z7d Tryz.prog F=true) (hat:AtF g off) (hg : ∀ x,Z8h (L x) off=some (.int .i64 (get x)))
  (hc:ck cb tb [.one (clV (g,[]))]∈ms) (hd:ck db td [.one (.int .i64 hi)]∈ms) :
  Zzm L ms (F,[pt0 cb,pt0 db]) (fun x=>decide (get x≥0)&&decide (get x<=hi)):=by
 refine ⟨Z9q ok hn,fun W b x hH hm=>Za mo ok rfl ?_⟩
 have qc:=fun (t:TS) (x:Operand) (hx:ev t x=some (pt0 cb))=>Z7e (C:=⟨Tryz.prog,20,W,[]⟩) (m:=[]) (t:=t) hx (Z3k (C:=⟨Tryz.prog,20,W,[]⟩) (hH.cap hc) (by simp))
 refine Z0<|Z1<|Z4 _ (Z04 rfl)<|Z2<|Z0<|Zv<|Zh _ (qc _ _ rfl)<|Zh _ (Z04 rfl)<|Zh _ (Zgr (caps:=[]) hat.1 rfl rfl (fun w hw=>hat.2 w b))<|Zh _ (Z1l rfl)<|Zh _ (Zfn rfl hm (by simp) (hg x)) <|
  Zh _ (Zb rfl rfl rfl)<|Zh _ (Z04 rfl)<|Zue (v:=decide (get x<=hi)) rfl rfl rfl (fun hg1=>Z27 rfl _ (qc _ _ rfl) (Z27 rfl _ (Z04 rfl) (Z27 rfl _ (Zgr (caps:=[]) hat.1 rfl rfl (fun w hw=>hat.2 w b)) (Z27 rfl _ (Z1l rfl)
   (Z27 rfl _ (Zfn rfl hm (by simp) (hg x)) (Z27 rfl _ (Z7e rfl (Z3k (hH.cap hd) (by simp))) (Z27 rfl _ (Zb rfl rfl rfl) Z28))))))) (fun _=>rfl) rfl <|
  Zh _ (Z04 rfl)<|Zy<|Zf ⟨_,.cons (.tmp rfl) .nil,rfl⟩
theorem Ztp {w:World} {b o N:Nat} {k:IntKind} {xs:LI} {s:List Seg} (hm:Mem w b 0 s) (hs:Zca s o=some (.ints k N xs)):Z6m (El.int k) w (.slice (some ⟨b,0+o,none⟩) N N) (tk xs 0 N):=by
 refine .inr (.inl ⟨b,0+o,N,by rw [Z0c],by rw [Z0c]; exact Nat.le_refl _,fun i hi j hj=>?_⟩)
 rw [Z0c] at hi
 obtain rfl:j=0:=by simp only at hj; omega
 have h1:=Z82 hs i (by simpa [Seg.width] using hi)
 have h2:=Zd1 hs
 have h3:=hm.cell (o+i) (by simp only [Seg.width] at h2; omega)
 simp only [Nat.mul_one,Nat.add_zero] at h3 ⊢
 rw [Nat.zero_add] at h3 ⊢
 rw [h3,h1]
 simp only [Seg.cells,Z2n hi]
 rw [Zh5,if_pos hi,Nat.zero_add]
 rfl
theorem Zso {b o n c:Nat} {xs:LI} {S:List Nat} (hb:b∉S):Zcl (.slice (some ⟨b,o,none⟩) n c) xs S:=by
 intro a n' c' e _
 injection e with e
 injection e with e
 subst e
 exact hb
theorem Zs3 {W0:World} {S:List Nat} {m:List Ze} {w:World} {b:Nat} (hw:Sat W0 S m w) (h1:b<W0.heap.size) (h2:b∉S):b∉m.map (·.b):=by
 intro hm
 obtain ⟨c,hc,e⟩:=List.mem_map.1 hm
 rcases hw.base c hc with h | h
 ·omega
 ·exact h2 (e▸h)
theorem Z0e6 {C:Cfg} {m:List Ze} {t:TS} {x:Operand} {b o N:Nat} (hx:ev t x=some (.pointer (some ⟨b,o,none⟩))):Q1 C m t (.sla N 1 x none none none) (.slice (some ⟨b,o,none⟩) N N):=by
 have e:Z1y b o (0:Int).toNat (N:Int).toNat 1=⟨b,o,none⟩:=by unfold Z1y; split <;> simp
 have e2:(N:Int).toNat-(0:Int).toNat=N:=by simp
 have:=Z88 (C:=C) (m:=m) (len:=N) (w:=1) (lo:=none) (hi:=none) (mx:=none) (lz:=0) (hz:=N) (mz:=N) hx .no .no .no (by simp) ⟨by omega,by omega,by omega,by omega⟩
 rw [e,e2] at this
 exact this
def Zrm:FnD:=⟨10,[],.ops [oj 5 (.mv 0),oj 6 (.ld 1 false 2),oj 7 (.mv 1),oj 8 (.cv 6 [7]),oj 9 (.call 196 [5,8])]⟩
theorem Z05l {N:Nat} {get:α->LI} (ok:okF Tryz.prog F Zrm=true) (hn:Z7d Tryz.prog F=true) (hat:SlF g off N) (hg : ∀ x,Zca (L x) off=some (.ints .u8 N (get x))) (hc:ck cb tb [.one (clV (g,[]))]∈ms) :
  Zzn L ms (F,[pt0 cb]) (fun w x=>Z2y w (tk (get x) 0 N)):=by
 refine ⟨Z9q ok hn,fun W b x bw Tw vw Mw p r h hH hd hm hb h0 hO=>Zs mo ok rfl h0 ?_⟩
 refine Z1<|Z4 _ (Z04 rfl)<|Z4 _ (Z7e rfl (Z3k (hH.cap hc) (hd _ hc)))<|Z4 _ (Z04 rfl)<|Z4 _ (Zgr (caps:=[]) hat.1 rfl rfl (fun w hw=>hat.2.2 w b)) <|
  Zc (Z2z (mS:=_::Mw) rfl (Zab .here .here) (fun w hw=>Z78 h (Z7f hw (Zab .here .here)) hO ⟨Ztp (Z6w hm hb hw) (hg x),Zso hb⟩) fun v Ms hR=>Z2 ?_)
 obtain ⟨uw,Mw',rfl,rfl,hO'⟩:=hR
 exact ⟨_,_,.nil,.one .here (.all .here .nil),⟨_,rfl,⟨uw,Mw',rfl,rfl,hO'⟩⟩⟩
def Z04i:FnD:=⟨25,[],.seq (.ops [oj 6 (.mv 0),oj 7 (.ld 1 false 2),oj 8 (.mv 1),oj 9 (.cv 7 [8]),oj 10 (.nilc 9),oj 11 (.ld 1 false 10),oj 12 (.call 316 [6,11])]) (.seq (.ops [oj 13 (.ld 1 false 2),oj 14 (.mv 1),oj 15 (.cv 13 [14]),oj 16 (.nilc 15),oj 17 (.ld 1 false 16)])
 (.cond 17 (.ops [oj 18 (.mv 0),oj 19 (.ld 1 false 3),oj 20 (.mv 1),oj 21 (.cv 19 [20]),oj 22 (.nilc 21),oj 23 (.sla 64 1 22 none none none),oj 24 (.call 196 [18,23])]) .skip))⟩
def Zpy (flag:α->Bool) (sig:α->LI) (w:Zt) (x:α):Option Zt:=opt (Z4a w (flag x)) fun w=>br (flag x) (Z2y w (tk (sig x) 0 64)) (some w)
theorem Z059 {flag:α->Bool} {sig:α->LI} (ok:okF Tryz.prog F Z04i=true) (hn:Z7d Tryz.prog F=true) (hat:AtF g off) (hat2:AtF g2 off2) (hg : ∀ x,Z8h (L x) off=some (.bool (flag x))) (hg2 : ∀ x,Zca (L x) off2=some (.ints .u8 64 (sig x)))
  (hc:ck cb tb [.one (clV (g,[]))]∈ms) (hd2:ck db td [.one (clV (g2,[]))]∈ms):Zzn L ms (F,[pt0 cb,pt0 db]) (Zpy flag sig):=by
 refine ⟨Z9q ok hn,fun W b x bw Tw vw Mw p r h hH hd hm hb h0 hO=>Zs mo ok rfl h0 ?_⟩
 unfold Zpy at h
 refine oH h fun y ey h=>Z0<|Z1<|Z4 _ (Z04 rfl)<|Z4 _ (Z7e rfl (Z3k (hH.cap hc) (hd _ hc)))<|Z4 _ (Z04 rfl)<|Z4 _ (Zgr (caps:=[]) hat.1 rfl rfl (fun w hw=>hat.2 w b))<|Z4 _ (Z1l rfl)<|Z4 _ (Zfn rfl hm hb (hg x)) <|
  Zc (Z2z (mS:=_::Mw) rfl (Zab .here .here) (fun w hw=>Zh8 ey (Z7f hw (Zab .here .here)) hO) fun v Ms hR=>Z2 ?_)
 obtain ⟨uw,Mw',rfl,rfl,hO'⟩:=hR
 refine Z0<|Z1<|Z4 _ (Z7e rfl (Z3k (hH.cap hc) (hd _ hc)))<|Z4 _ (Z04 rfl)<|Z4 _ (Zgr (caps:=[]) hat.1 rfl rfl (fun w hw=>hat.2 w b))<|Z4 _ (Z1l rfl)<|Z4 _ (Zfn rfl hm hb (hg x))<|Z2<|Z0r h rfl (fun h=>?_) (fun h=>?_)
 ·refine Z1<|Z4 _ (Z04 rfl)<|Z4 _ (Z7e rfl (Z3k (hH.cap hd2) (hd _ hd2)))<|Z4 _ (Z04 rfl)<|Z4 _ (Zgr (caps:=[]) hat2.1 rfl rfl (fun w hw=>hat2.2 w b))<|Z4 _ (Z1l rfl)<|Z4 _ (Z0e6 rfl) <|
   Zc (Z2z (mS:=_::Mw') rfl (Zab .here .here) (fun w hw=>Z78 h (Z7f hw (Zab .here .here)) hO' ⟨Ztp (Z6w hm hb hw) (hg2 x),Zso (by have:=Zs3 hw hm.lt hb; simpa [Zvt] using this)⟩) fun v Ms hR=>Z2 ?_)
  obtain ⟨uw,Mw2,rfl,rfl,hO2⟩:=hR
  exact ⟨_,_,.nil,.one .here (.all .here .nil),⟨_,rfl,⟨uw,Mw2,rfl,rfl,hO2⟩⟩⟩
 ·obtain rfl:y=r:=Option.some.inj h
  exact Zn ⟨_,_,.nil,.one .here (.all .here .nil),⟨_,rfl,⟨uw,Mw',rfl,rfl,hO'⟩⟩⟩
def Z04h:FnD:=⟨19,[.tmp 4],.seq (.ops [oj 4 (.mv (.const (.bool false)))]) (.seq (.ops [oj 5 (.ld 1 false 1),oj 6 (.mv 0),oj 7 (.cv 5 [6]),oj 8 (.nilc 7),oj 9 (.ld 1 false 8),oj 10 (.mv 9),
 .lg true 10 18 none [oG 11 10 false (.ld 1 false 2),oG 12 10 false (.mv 0),oG 13 10 false (.cv 11 [12]),oG 14 10 false (.nilc 13),oG 15 10 false (.ld 64 true 14),oG 16 10 false (.bd [.ints .u8 64 (List.replicate 64 0)] []),oG 17 10 false (.eqa false [(.i .u8,64)] 15 16)] 17,oj 4 (.mv 18)]) .ret)⟩
theorem Z058 {flag:α->Bool} {sig:α->LI} (ok:okF Tryz.prog F Z04h=true) (hn:Z7d Tryz.prog F=true) (hat:AtF g off) (hat2:AtF g2 off2) (hg : ∀ x,Z8h (L x) off=some (.bool (flag x))) (hg2 : ∀ x,sub (L x) off2 64=some [.ints .u8 64 (sig x)])
  (hc:ck cb tb [.one (clV (g,[]))]∈ms) (hd2:ck db td [.one (clV (g2,[]))]∈ms):Zzm L ms (F,[pt0 cb,pt0 db]) (fun x=>flag x||ieq 64 (sig x) (List.replicate 64 0)):=by
 refine ⟨Z9q ok hn,fun W b x hH hm=>Za mo ok rfl ?_⟩
 exact Z0<|Z1<|Z4 _ (Z04 rfl)<|Z2<|Z0<|Z1<|Z4 _ (Z7e rfl (Z3k (hH.cap hc) (by simp)))<|Z4 _ (Z04 rfl)<|Z4 _ (Zgr (caps:=[]) hat.1 rfl rfl (fun w hw=>hat.2 w b))<|Z4 _ (Z1l rfl)<|Z4 _ (Zfn rfl hm (by simp) (hg x))<|Z4 _ (Z04 rfl) <|
  Zex (v:=ieq 64 (sig x) (List.replicate 64 0)) rfl rfl rfl (fun _=>Z27 rfl _ (Z7e rfl (Z3k (hH.cap hd2) (by simp))) (Z27 rfl _ (Z04 rfl) (Z27 rfl _ (Zgr (caps:=[]) hat2.1 rfl rfl (fun w hw=>hat2.2 w b)) (Z27 rfl _ (Z1l rfl)
   (Z27 rfl _ (Zqh (o0:=0) (off:=off2) rfl hm (by simp) (hg2 x)) (Z27 rfl _ (Zcd BdR.nil) (Z27 rfl _ (Zvc rfl rfl rfl rfl _ Zq1) Z28))))))) (fun _=>rfl) rfl<|Z4 _ (Z04 rfl)<|Z2<|Zf ⟨_,.cons (.tmp rfl) .nil,rfl⟩
end
abbrev Cl4:=ClT×ClT×ClT×Bool
abbrev Z1o (x:Cl4):List Seg:=[.one (clV x.1),.one (clV x.2.1),.one (clV x.2.2.1),.one (.bool x.2.2.2)]
abbrev E4:El Cl4:=⟨4,fun x=>cells (Z1o x),fun x=>by rw [cells_length]; rfl,fun x=>(Z0y (Z5i rfl) (Z0y (Z5i rfl) (Z0y (Z5i rfl) (Z0y (Z5i rfl) Z52)))),by decide,((0,[]),(0,[]),(0,[]),false)⟩
def Zn7 {α:Type} (L:α->List Seg) (ms:List Ze) (x:Cl4) (s:Zag α):Prop:=Zzn L ms x.1 s.put/\Zzm L ms x.2.2.1 s.may/\x.2.2.2=s.sgn
inductive Z90 {α:Type} (L:α->List Seg) (ms:List Ze):List Cl4->List (Zag α)->Prop
 | nil:Z90 L ms [] []
 | cons {x:Cl4} {s:Zag α} {xs:List Cl4} {fs:List (Zag α)}:Zn7 L ms x s->Z90 L ms xs fs->Z90 L ms (x::xs) (s::fs)
section
variable {α:Type} {L:α->List Seg} {ms ns ms0:List Ze}
theorem Zn7.mono {x:Cl4} {s:Zag α} (h:Zn7 L ms x s) (hs : ∀ k∈ms,k∈ns):Zn7 L ns x s:=⟨h.1.mono hs,h.2.1.mono hs,h.2.2⟩
theorem Z90.mono {xs:List Cl4} {fs:List (Zag α)} (h:Z90 L ms xs fs) (hs : ∀ k∈ms,k∈ns):Z90 L ns xs fs:=by
 induction h with
 | nil=>exact .nil
 | cons h _ ih=>exact .cons (h.mono hs) ih
theorem Z90.app {xs ys:List Cl4} {fs gs:List (Zag α)} (h:Z90 L ms xs fs) (h':Z90 L ms ys gs):Z90 L ms (xs++ys) (fs++gs):=by
 induction h with
 | nil=>exact h'
 | cons h _ ih=>exact .cons h ih
theorem Z90.len {xs:List Cl4} {fs:List (Zag α)} (h:Z90 L ms xs fs):xs.length=fs.length:=by
 induction h with
 | nil=>rfl
 | cons _ _ ih=>simp [ih]
def fz:Zag α:=⟨fun w _=>some w,fun _=>true,false⟩
theorem Z90.get {xs:List Cl4} {fs:List (Zag α)} (h:Z90 L ms xs fs) : ∀ i,i<fs.length->Zn7 L ms (xs.getD i E4.z) (fs.getD i fz):=by
 induction h with
 | nil=>intro i hi; simp at hi
 | cons h _ ih =>
  intro i hi
  cases i with
  | zero=>exact h
  | succ i=>exact ih i (by simpa using hi)
def RF (L:α->List Seg) (ms0:List Ze) (s:Zag α) (v:Value) (Ms:List Pc):Prop:=∃ (x:Cl4) (M:List Ze),v=agg (Z1o x)/\Ms = [.all M]/\Zn7 L (M++ms0) x s
abbrev zF:List Seg:=[.one .nilFunc,.one .nilFunc,.one .nilFunc,.one (.bool false)]
variable {F F1 F2 F3 g g2 off off2:Nat}
def fNum (get:α->Int) (lo:Int) (hi:α->Int):Zag α:=⟨fun w x=>Z69 w (IntKind.u32.wrap (get x)),fun x=>decide (get x≥lo)&&decide (get x<=hi x),true⟩
def fMon (get:α->Int) (hi:Int):Zag α:=⟨fun w x=>Z6a w (IntKind.u64.wrap (get x)),fun x=>decide (get x≥0)&&decide (get x<=hi),true⟩
def Zwv (get:α->LI) (N:Nat) (s:Bool):Zag α:=⟨fun w x=>Z2y w (tk (get x) 0 N),fun _=>true,s⟩
def fFlg (flag:α->Bool) (sig:α->LI):Zag α:=⟨Zpy flag sig,fun x=>flag x||ieq 64 (sig x) (List.replicate 64 0),false⟩
def Zzv {β:Type} (inn:α->β) (s:Zag β):Zag α:=⟨fun w x=>s.put w (inn x),fun x=>s.may (inn x),true⟩
def dLim (tb F1:Nat):FnD:=⟨4,[.tmp 2],.seq (.ops [oj 1 (.bx tb 0),oj 2 (.mv (.const .nilFunc))]) (.seq (.ops [oj 3 (.mf F1 [1]),oj 2 (.mv 3)]) .ret)⟩
theorem Zom {tb:Nat} {W:World} {n:Int} (ok:okF Tryz.prog F (dLim tb F1)=true) (ok1:okF Tryz.prog F1 Z007=true) (hn1:Z7d Tryz.prog F1=true) :
  Calls Tryz.prog F [.int .i64 n].toArray W (Z8e W [] (fun v Ms=>∃ (c:ClT) (M:List Ze),v=clV c/\Ms = [.all M]/\HiM L M c (fun _=>n))):=by
 refine Zs mo ok rfl (Zez _) ?_
 refine Z0<|Z1<|Zc (Zdf rfl rfl fun b _=>Z4 _ (Z04 rfl)<|Z2<|Z0<|Z1<|Z4 _ (Zqi rfl)<|Z4 _ (Z04 rfl)<|Z2<|Zf ?_)
 exact ⟨_,_,.cons (.tmp rfl) .nil,.all (ms:=[ck b tb [.one (.int .i64 n)]]) .here .nil,⟨_,rfl,(F1,[pt0 b]),[ck b tb [.one (.int .i64 n)]],rfl,rfl,Z0cz (tb:=tb) ok1 hn1 (by simp)⟩⟩
def dNum (ta tb tc tf F1 F2 F3:Nat):FnD:=⟨11,[.cell 6 4 true],.seq (.ops [oj 3 (.bx ta 0),oj 4 (.bx tb 1),oj 5 (.bx tc 2),oj 6 (.al tf zF)]) (.seq (.ops [oj 7 (.mf F1 [3]),oj 8 (.mf F2 [3]),oj 9 (.mf F3 [3,4,5]),oj 10 (.bd zF [(0,1,7),(1,1,8),(2,1,9),(3,1,.const (.bool true))]),on_ (.st 4 6 10)]) .ret)⟩
theorem Zla {ta tb tc tf:Nat} {W:World} {get:α->Int} {lo:Int} {c:ClT} {hi:α->Int} (ok:okF Tryz.prog F (dNum ta tb tc tf F1 F2 F3)=true) (ok1:okF Tryz.prog F1 (Zpr 185 .u32)=true) (ok3:okF Tryz.prog F3 Zwi=true) (hn1:Z7d Tryz.prog F1=true) (hn3:Z7d Tryz.prog F3=true)
  (hat:AtF g off) (hg : ∀ x,Z8h (L x) off=some (.int .i64 (get x))) (hh:HiM L ms0 c hi) :
  Calls Tryz.prog F [clV (g,[]),.int .i64 lo,clV c].toArray W (Z8e W [] (RF L ms0 (fNum get lo hi))):=by
 refine Zs mo ok rfl (Zez _) ?_
 refine Z0<|Z1<|Zc (Zdf rfl rfl fun b1 _=>Zc (Zdf rfl rfl fun b2 _=>Zc (Zdf rfl rfl fun b3 _=>Zc (Zu fun b4 _=>Z2<|Z0<|Z1<|Z4 _ (Zqi rfl)<|Z4 _ (Zqi rfl)<|Z4 _ (Zqi rfl) <|
  Z4 _ (Zcd (q:=Z1o ((F1,[pt0 b1]),(F2,[pt0 b1]),(F3,[pt0 b1,pt0 b2,pt0 b3]),true)) (.one rfl rfl rfl (.one rfl rfl rfl (.one rfl rfl rfl (.one rfl rfl rfl BdR.nil))))) <|
  Zc (Zl (q:=Z1o ((F1,[pt0 b1]),(F2,[pt0 b1]),(F3,[pt0 b1,pt0 b2,pt0 b3]),true)) rfl rfl rfl rfl rfl .here<|Z2<|Zf ?_)))))
 exact ⟨_,_,.cons (.agg rfl .here rfl) .nil,.all (ms:=[ck b3 tc [.one (clV c)],ck b2 tb [.one (.int .i64 lo)],ck b1 ta [.one (clV (g,[]))]]) (.there .here) .nil,⟨_,rfl,_,_,rfl,rfl,
  Z05v (tb:=ta) ok1 hn1 hat hg (by simp),Z05u (tb:=ta) (td:=tb) (te:=tc) ok3 hn3 hat hg (hh.mono fun k hk=>List.mem_append_right _ hk) (by simp) (by simp) (by simp),rfl⟩⟩
def dMon (ta tb tf F1 F2 F3:Nat):FnD:=⟨9,[.cell 4 4 true],.seq (.ops [oj 2 (.bx ta 0),oj 3 (.bx tb 1),oj 4 (.al tf zF)]) (.seq (.ops [oj 5 (.mf F1 [2]),oj 6 (.mf F2 [2]),oj 7 (.mf F3 [2,3]),oj 8 (.bd zF [(0,1,5),(1,1,6),(2,1,7),(3,1,.const (.bool true))]),on_ (.st 4 4 8)]) .ret)⟩
theorem Z00u {ta tb tf:Nat} {W:World} {get:α->Int} {hi:Int} (ok:okF Tryz.prog F (dMon ta tb tf F1 F2 F3)=true) (ok1:okF Tryz.prog F1 (Zpr 191 .u64)=true) (ok3:okF Tryz.prog F3 Z04j=true) (hn1:Z7d Tryz.prog F1=true) (hn3:Z7d Tryz.prog F3=true)
  (hat:AtF g off) (hg : ∀ x,Z8h (L x) off=some (.int .i64 (get x))) :
  Calls Tryz.prog F [clV (g,[]),.int .i64 hi].toArray W (Z8e W [] (RF L [] (fMon get hi))):=by
 refine Zs mo ok rfl (Zez _) ?_
 refine Z0<|Z1<|Zc (Zdf rfl rfl fun b1 _=>Zc (Zdf rfl rfl fun b2 _=>Zc (Zu fun b4 _=>Z2<|Z0<|Z1<|Z4 _ (Zqi rfl)<|Z4 _ (Zqi rfl)<|Z4 _ (Zqi rfl) <|
  Z4 _ (Zcd (q:=Z1o ((F1,[pt0 b1]),(F2,[pt0 b1]),(F3,[pt0 b1,pt0 b2]),true)) (.one rfl rfl rfl (.one rfl rfl rfl (.one rfl rfl rfl (.one rfl rfl rfl BdR.nil))))) <|
  Zc (Zl (q:=Z1o ((F1,[pt0 b1]),(F2,[pt0 b1]),(F3,[pt0 b1,pt0 b2]),true)) rfl rfl rfl rfl rfl .here<|Z2<|Zf ?_))))
 exact ⟨_,_,.cons (.agg rfl .here rfl) .nil,.all (ms:=[ck b2 tb [.one (.int .i64 hi)],ck b1 ta [.one (clV (g,[]))]]) (.there .here) .nil,⟨_,rfl,_,_,rfl,rfl,
  Z05p (tb:=ta) ok1 hn1 hat hg (by simp),Z05o (tb:=ta) (td:=tb) ok3 hn3 hat hg (by simp) (by simp),rfl⟩⟩
def dLst (ta tf F1 F2 F3:Nat):FnD:=⟨9,[.cell 4 4 true],.seq (.ops [oj 2 (.bx ta 0),oj 4 (.al tf zF)]) (.seq (.ops [oj 5 (.mf F1 [2]),oj 6 (.mf F2 [2]),oj 7 (.mv 1),oj 8 (.bd zF [(0,1,5),(1,1,6),(2,1,.func F3),(3,1,7)]),on_ (.st 4 4 8)]) .ret)⟩
theorem Zhi {ta tf N:Nat} {W:World} {get:α->LI} {s:Bool} (ok:okF Tryz.prog F (dLst ta tf F1 F2 F3)=true) (ok1:okF Tryz.prog F1 Zrm=true) (ok3:okF Tryz.prog F3 dAny=true) (hn1:Z7d Tryz.prog F1=true) (hn3:Z7d Tryz.prog F3=true)
  (hat:SlF g off N) (hg : ∀ x,Zca (L x) off=some (.ints .u8 N (get x))) :
  Calls Tryz.prog F [clV (g,[]),.bool s].toArray W (Z8e W [] (RF L [] (Zwv get N s))):=by
 refine Zs mo ok rfl (Zez _) ?_
 refine Z0<|Z1<|Zc (Zdf rfl rfl fun b1 _=>Zc (Zu fun b4 _=>Z2<|Z0<|Z1<|Z4 _ (Zqi rfl)<|Z4 _ (Zqi rfl)<|Z4 _ (Z04 rfl) <|
  Z4 _ (Zcd (q:=Z1o ((F1,[pt0 b1]),(F2,[pt0 b1]),(F3,[]),s)) (.one rfl rfl rfl (.one rfl rfl rfl (.one rfl rfl rfl (.one rfl rfl rfl BdR.nil))))) <|
  Zc (Zl (q:=Z1o ((F1,[pt0 b1]),(F2,[pt0 b1]),(F3,[]),s)) rfl rfl rfl rfl rfl .here<|Z2<|Zf ?_)))
 exact ⟨_,_,.cons (.agg rfl .here rfl) .nil,.all (ms:=[ck b1 ta [.one (clV (g,[]))]]) (.there .here) .nil,⟨_,rfl,_,_,rfl,rfl,
  Z05l (tb:=ta) ok1 hn1 hat hg (by simp),Z03k ok3 hn3,rfl⟩⟩
def dFlg (ta tb tf F1 F2 F3:Nat):FnD:=⟨9,[.cell 4 4 true],.seq (.ops [oj 2 (.bx ta 0),oj 3 (.bx tb 1),oj 4 (.al tf zF)]) (.seq (.ops [oj 5 (.mf F1 [2,3]),oj 6 (.mf F2 [2,3]),oj 7 (.mf F3 [2,3]),oj 8 (.bd zF [(0,1,5),(1,1,6),(2,1,7)]),on_ (.st 4 4 8)]) .ret)⟩
theorem Zt2 {ta tb tf:Nat} {W:World} {flag:α->Bool} {sig:α->LI} (ok:okF Tryz.prog F (dFlg ta tb tf F1 F2 F3)=true) (ok1:okF Tryz.prog F1 Z04i=true) (ok3:okF Tryz.prog F3 Z04h=true) (hn1:Z7d Tryz.prog F1=true) (hn3:Z7d Tryz.prog F3=true)
  (hat:AtF g off) (hat2:AtF g2 off2) (hg : ∀ x,Z8h (L x) off=some (.bool (flag x))) (hg2 : ∀ x,Zca (L x) off2=some (.ints .u8 64 (sig x))) (hg3 : ∀ x,sub (L x) off2 64=some [.ints .u8 64 (sig x)]) :
  Calls Tryz.prog F [clV (g,[]),clV (g2,[])].toArray W (Z8e W [] (RF L [] (fFlg flag sig))):=by
 refine Zs mo ok rfl (Zez _) ?_
 refine Z0<|Z1<|Zc (Zdf rfl rfl fun b1 _=>Zc (Zdf rfl rfl fun b2 _=>Zc (Zu fun b4 _=>Z2<|Z0<|Z1<|Z4 _ (Zqi rfl)<|Z4 _ (Zqi rfl)<|Z4 _ (Zqi rfl) <|
  Z4 _ (Zcd (q:=Z1o ((F1,[pt0 b1,pt0 b2]),(F2,[pt0 b1,pt0 b2]),(F3,[pt0 b1,pt0 b2]),false)) (.one rfl rfl rfl (.one rfl rfl rfl (.one rfl rfl rfl BdR.nil)))) <|
  Zc (Zl (q:=Z1o ((F1,[pt0 b1,pt0 b2]),(F2,[pt0 b1,pt0 b2]),(F3,[pt0 b1,pt0 b2]),false)) rfl rfl rfl rfl rfl .here<|Z2<|Zf ?_))))
 exact ⟨_,_,.cons (.agg rfl .here rfl) .nil,.all (ms:=[ck b2 tb [.one (clV (g2,[]))],ck b1 ta [.one (clV (g,[]))]]) (.there .here) .nil,⟨_,rfl,_,_,rfl,rfl,
  Z059 (tb:=ta) (td:=tb) ok1 hn1 hat hat2 hg hg2 (by simp) (by simp),Z058 (tb:=ta) (td:=tb) ok3 hn3 hat hat2 hg hg3 (by simp) (by simp),rfl⟩⟩
end
end Go.Proofs.YteefpkhngighgaaGreatDoor
