/- Texts of a proof, one behind the other: L6 L7 L8 L9 L10 L11 T1. -/
import Derived.Test.YteefpkhngighgaaGreatDoorMA3
namespace Go.Proofs.YteefpkhngighgaaGreatDoor
open Go Go.Sx Go.RowKit
open List (replicate)
open Go.IntKind (wrap)
set_option linter.all false
set_option maxHeartbeats 400000
set_option maxRecDepth 100000
def Z2y (p0:LI) (o:Nat) (L:Nat) (p1:Int) (p2:Int):OL :=
 opt (Z6h p1 p2) fun y1 =>
 chk (decide (o+1<L)) <|
 bnd (p0.getD (o+1) 0) fun z1 =>
 chk (Zhe z1 y1.2 0) <|
 bnd (Zc6 z1 y1.2 0) fun z2 =>
 bnd (Zhn z1 y1.2 0) fun z3 =>
 chk (decide (o+1<L)) <|
 bnd (Z62 p0 (o+1) z2) fun l1 =>
 chk (decide (o+0<L)) <|
 bnd (l1.getD (o+0) 0) fun z4 =>
 chk (Zhe z4 y1.1 z3) <|
 bnd (Zc6 z4 y1.1 z3) fun z5 =>
 bnd (Zhn z4 y1.1 z3) fun z6 =>
 chk (decide (o+0<L)) <|
 bnd (Z62 l1 (o+0) z5) fun l2 =>
 some l2
theorem Z9e {W:World} {r:(LI)} {p0:LI} {o:Nat} {L:Nat} {p1:Int} {p2:Int} {b:Nat} {T:TypeId} (h:Z2y p0 o L p1 p2=some r) (h0:Sat W [b] (ck b T [.ints .u64 L (p0)] :: []) W) :
    Calls Tryz.prog 229 [.pointer (some ⟨b,o,none⟩),.int .u64 (p1),.int .u64 (p2)].toArray W (Z7t W [b] (fun v Ms=>v = .tuple #[]/\Ms = [.one (ck b T [.ints .u64 L (r)])])):=by
 unfold Z2y at h
 refine Zv mo Z0pv rfl h0 ?_
 refine Z0<|oH h fun y1 f1 h=>Z1<|Z7 rfl<|Z7 rfl<|Z4 _ (Z1e rfl (Zd4 f1))<|Z7 rfl<|Z4 _ (Z0q rfl rfl)<|Z4 _ (Z0q rfl rfl)<|Z7 rfl<|Z7 rfl<|Z2<|Z0<|Z1<|Z7 rfl<|Z2<|Z0<|cH h fun c1 h=>bH h fun z1 e1 h=>cH h fun c2 h=>bH h fun z2 e2 h=>bH h fun z3 e3 h=>cH h fun c3 h=>bH h fun l1 g1 h=>Z1<|Z7 rfl<|Z7 rfl<|Z4 _ (Z1q rfl)<|Z4 _ (Z1u rfl)<|Z4 _ (Z04y (base:=0) (i:=o+1) e1 rfl .here rfl (by omega) c1)<|Z7 rfl<|Z4 _ (Zi5 rfl Zjr (xadd e2 e3 c2))<|Z7 rfl<|Z4 _ (Z0q rfl rfl)<|Z4 _ (Z0q rfl rfl)<|Z4 _ (Z1q rfl)<|Z4 _ (Z1u rfl)<|Zc (Zyf (base:=0) (i:=o+1) (q:=[.ints .u64 L l1]) g1 rfl rfl rfl (by omega) c3 (by simp [Zha,Seg.width]) .here<|Z7 rfl<|Z2<|cH h fun c4 h=>bH h fun z4 e4 h=>cH h fun c5 h=>bH h fun z5 e5 h=>bH h fun z6 e6 h=>cH h fun c6 h=>bH h fun l2 g2 h=>Z1<|Z7 rfl<|Z7 rfl<|Z4 _ (Z1q rfl)<|Z4 _ (Z1u rfl)<|Z4 _ (Z04y (base:=0) (i:=o+0) e4 rfl .here rfl (by omega) c4)<|Z7 rfl<|Z7 rfl<|Z4 _ (Zi5 rfl Zjr (xadd e5 e6 c5))<|Z7 rfl<|Z4 _ (Z0q rfl rfl)<|Z4 _ (Z0q rfl rfl)<|Z4 _ (Z1q rfl)<|Z4 _ (Z1u rfl)<|Zc (Zyf (base:=0) (i:=o+0) (q:=[.ints .u64 L l2]) g2 rfl rfl rfl (by omega) c6 (by simp [Zha,Seg.width]) .here<|Z2 ?_))
 revert h; refine Z00 fun h=>?_
 subst h
 exact ⟨_,_,.nil,(.o .nil),⟨_,rfl,⟨rfl,rfl⟩⟩⟩
def Z80 (y1:(LI)) (i1:Int) (z1:Int) (k1:(LI)->OL) (k2:Int->(LI)->OL) (i2:Int) (a1:LI):OL :=
 br ((decide (i2<5))) (
 jn (fun (a2:LI)=>bnd (wrap .i64 (i2+1)) fun z2 =>
 k2 z2 a2) fun k3=>chk (inB i2 5) <|
 bnd (y1.getD (i2).toNat 0) fun z3 =>
 bnd (wrap .i64 (i1+i2)) fun z4 =>
 br ((decide (z4<5))) (
 bnd (wrap .i64 (i1+i2)) fun z5 =>
 chk (inB z5 5) <|
 opt (Z2y a1 (0+(z5).toNat*2) 10 z1 z3) fun y2 =>
 k3 y2
 ) (
 bnd (wrap .i64 (i1+i2)) fun z6 =>
 bnd (wrap .i64 (z6-5)) fun z7 =>
 chk (inB z7 5) <|
 bnd (wrap .u64 (19*z3)) fun z8 =>
 opt (Z2y a1 (0+(z7).toNat*2) 10 z1 z8) fun y3 =>
 k3 y3
 )
 ) (
 k1 a1
 )
def Z6t (y1:(LI)) (i1:Int) (z1:Int) (k1:(LI)->OL):Nat->Int->(LI)->OL
  | 0,_,_=>none
  | n+1,i2,a1=>Z80 y1 i1 z1 k1 (Z6t y1 i1 z1 k1 n) i2 a1
def Zce (y1:(LI)) (y2:(LI)) (k1:(LI)->OL) (k2:Int->(LI)->OL) (i1:Int) (a1:LI):OL :=
 br ((decide (i1<5))) (
 chk (inB i1 5) <|
 bnd (y1.getD (i1).toNat 0) fun z1 =>
 jn (fun (a2:LI)=>bnd (wrap .i64 (i1+1)) fun z2 =>
 k2 z2 a2) fun k3=>Z6t y2 i1 z1 k3 big 0 a1
 ) (
 k1 a1
 )
def Z3u (y1:(LI)) (y2:(LI)) (k1:(LI)->OL):Nat->Int->(LI)->OL
  | 0,_,_=>none
  | n+1,i1,a1=>Zce y1 y2 k1 (Z3u y1 y2 k1 n) i1 a1
def Z9r (a1:LI) (k1:Int->(LI)->OL) (k2:Int->Int->(LI)->OL) (i1:Int) (i2:Int) (a2:LI):OL :=
 br ((decide (i2<5))) (
 chk (inB i2 5) <|
 bnd (tk a1 ((i2).toNat*2) 2) fun l1 =>
 bnd (l1.getD 1 0) fun z1 =>
 chk (Zhe z1 i1 0) <|
 bnd (Zc6 z1 i1 0) fun z2 =>
 bnd (Zhn z1 i1 0) fun z3 =>
 bnd (Z8 .and .u64 z2 2251799813685247) fun z4 =>
 chk (inB i2 5) <|
 bnd (Z62 a2 (i2).toNat z4) fun l2 =>
 bnd (l1.getD 0 0) fun z5 =>
 bnd (wrap .u64 (z5+z3)) fun z6 =>
 bnd (Z08 .u64 z6 13) fun z7 =>
 bnd (Zt .u64 z2 51) fun z8 =>
 bnd (Z8 .or .u64 z7 z8) fun z9 =>
 bnd (wrap .i64 (i2+1)) fun z10 =>
 k2 z9 z10 l2
 ) (
 k1 i1 a2
 )
def Z4o (a1:LI) (k1:Int->(LI)->OL):Nat->Int->Int->(LI)->OL
  | 0,_,_,_=>none
  | n+1,i1,i2,a2=>Z9r a1 k1 (Z4o a1 k1 n) i1 i2 a2
def Z0y (p0:LI) (p1:LI):OL :=
 opt (Z5z p0) fun y1 =>
 opt (Z5z p1) fun y2 =>
 jn (fun (a1:LI)=>jn (fun (i1:Int) (a2:LI)=>opt (Z2y (replicate 2 0) 0 2 i1 19) fun y3 =>
 bnd (y3.getD 1 0) fun z1 =>
 bnd (a2.getD 0 0) fun z2 =>
 chk (Zhe z1 z2 0) <|
 bnd (Zc6 z1 z2 0) fun z3 =>
 bnd (Zhn z1 z2 0) fun z4 =>
 bnd (Z8 .and .u64 z3 2251799813685247) fun z5 =>
 bnd (Z62 a2 0 z5) fun l1 =>
 bnd (l1.getD 1 0) fun z6 =>
 bnd (y3.getD 0 0) fun z7 =>
 bnd (wrap .u64 (z7+z4)) fun z8 =>
 bnd (Z08 .u64 z8 13) fun z9 =>
 bnd (Zt .u64 z3 51) fun z10 =>
 bnd (Z8 .or .u64 z9 z10) fun z11 =>
 bnd (wrap .u64 (z6+z11)) fun z12 =>
 bnd (Z62 l1 1 z12) fun l2 =>
 opt (Z1p l2) fun y4 =>
 some y4) fun k1=>Z4o a1 k1 big 0 0 (replicate 5 0)) fun k2=>Z3u y1 y2 k2 big 0 (replicate 10 0)
theorem Z0g {W:World} {r:(LI)} {p0:LI} {p1:LI} (h:Z0y p0 p1=some r)  :
    Calls Tryz.prog 115 [agg [u5' p0],agg [u5' p1]].toArray W (Z2d W (agg [u5' r])):=by
 unfold Z0y at h
 refine Z9 mo Z0nw rfl ?_
 refine Z0<|Z1<|Zc (Z03 (s:=[u5' p0]) rfl fun b1 u1=>Zc (Z03 (s:=[u5' p1]) rfl fun b2 u2=>Zc (Zs fun b3 u3=>Z2<|Z0<|oH h fun y1 f1 h=>oH h fun y2 f2 h=>Zj<|Zg _ (Z04 (p:=[u5' p0]) rfl .t2 rfl)<|Z6 _ (Z1e rfl (Z5e f1))<|Zg _ (Z04 (p:=[u5' p1]) rfl .t1 rfl)<|Z6 _ (Z1e rfl (Z5e f2))<|Z1n rfl (Zn (q:=[u5' y1]) rfl rfl rfl rfl rfl .t2<|Z049 rfl (Zn (q:=[u5' y2]) rfl rfl rfl rfl rfl .t1<|Zr<|Z0<|Z1<|Zc (Zs fun b4 u4=>Z2<|Z0<|Z0<|Z1<|Z4 _ (Z04 (p:=[u5' y1]) rfl .t3 rfl)<|Z7 rfl<|Z2<|jH h fun k1 q1 h=>Zq (G:=fun t m=>∃ (a1:LI),k1 a1=some r/\Fit [(4,pt' b3),(5,pt' b4)] (ck b4 347 [uA' a1]::(ck b3 124 [u5' (replicate 5 0)]::(ck b2 124 [u5' y2]::(ck b1 124 [u5' y1] :: [])))) t m) ?_ ?_))))))
 ·refine Zf<|Z0e (fun n1 t m=>∃ (i1:Int) (a2:LI),Z3u y1 y2 k1 n1 i1 a2=some r/\Fit [(3,pt' b2),(4,pt' b3),(5,pt' b4),(23,agg [u5' y1]),(24,.int .i64 (i1))] (ck b4 347 [uA' a2]::(ck b3 124 [u5' (replicate 5 0)]::(ck b2 124 [u5' y2]::(ck b1 124 [u5' y1] :: [])))) t m) big ?_ ?_
  ·exact ⟨0,(replicate 10 0),h,⟨⟨rfl,rfl,rfl,rfl,rfl,trivial⟩,(.o (.o (.o (.o .nil))))⟩⟩
  ·rintro n1 t m ⟨i1,a2,h,hF⟩
   refine Zo hF ?_
   clear hF
   rcases n1 with _ | n1
   · exact Z1v h
   have h:Zce y1 y2 k1 (Z3u y1 y2 k1 n1) i1 a2=some r:=h
   unfold Zce at h
   obtain ⟨k2,q2⟩ : ∃ k,k=Z3u y1 y2 k1 n1:=⟨_,rfl⟩
   try rw [<- q2] at h
   refine Z0<|Z1<|Z4 _ (Zb rfl rfl rfl)<|Z2<|Z0<|Z0w h rfl (fun h=>?_) (fun h=>?_)
   ·refine Zy<|Z0<|Zf<|Z0<|cH h fun c1 h=>bH h fun z1 e1 h=>Z1<|Z7 rfl<|Z4 _ (iz e1 (Zi4 (len:=5) rfl rfl (Z1y c1)))<|Z7 rfl<|Z7 rfl<|Z2<|Z0<|Z1<|Z4 _ (Z04 (p:=[u5' y2]) rfl .t2 rfl)<|Z7 rfl<|Z2<|jH h fun k3 q3 h=>Zq (G:=fun t m=>∃ (a3:LI),k3 a3=some r/\Fit [(3,pt' b2),(4,pt' b3),(5,pt' b4),(23,agg [u5' y1]),(24,.int .i64 (i1))] (ck b4 347 [uA' a3]::(ck b3 124 [u5' (replicate 5 0)]::(ck b2 124 [u5' y2]::(ck b1 124 [u5' y1] :: [])))) t m) ?_ ?_
    ·refine Zf<|Z0e (fun n2 t m=>∃ (i2:Int) (a4:LI),Z6t y2 i1 z1 k3 n2 i2 a4=some r/\Fit [(3,pt' b2),(4,pt' b3),(5,pt' b4),(6,.int .i64 (i1)),(7,.int .u64 (z1)),(23,agg [u5' y1]),(24,.int .i64 (i1)),(28,agg [u5' y2]),(29,.int .i64 (i2))] (ck b4 347 [uA' a4]::(ck b3 124 [u5' (replicate 5 0)]::(ck b2 124 [u5' y2]::(ck b1 124 [u5' y1] :: [])))) t m) big ?_ ?_
     ·exact ⟨0,a2,h,⟨⟨rfl,rfl,rfl,rfl,rfl,rfl,rfl,rfl,rfl,trivial⟩,(.o (.o (.o (.o .nil))))⟩⟩
     ·rintro n2 t m ⟨i2,a4,h,hF⟩
      refine Zo hF ?_
      clear hF
      rcases n2 with _ | n2
      · exact Z1v h
      have h:Z80 y2 i1 z1 k3 (Z6t y2 i1 z1 k3 n2) i2 a4=some r:=h
      unfold Z80 at h
      obtain ⟨k4,q4⟩ : ∃ k,k=Z6t y2 i1 z1 k3 n2:=⟨_,rfl⟩
      try rw [<- q4] at h
      refine Z0<|Z1<|Z4 _ (Zb rfl rfl rfl)<|Z2<|Z0<|Z0w h rfl (fun h=>?_) (fun h=>?_)
      ·refine Zy<|Z0<|jH h fun k5 q5 h=>Zq (G:=fun t m=>∃ (a5:LI),k5 a5=some r/\Fit [(3,pt' b2),(4,pt' b3),(5,pt' b4),(6,.int .i64 (i1)),(7,.int .u64 (z1)),(23,agg [u5' y1]),(24,.int .i64 (i1)),(28,agg [u5' y2]),(29,.int .i64 (i2))] (ck b4 347 [uA' a5]::(ck b3 124 [u5' (replicate 5 0)]::(ck b2 124 [u5' y2]::(ck b1 124 [u5' y1] :: [])))) t m) ?_ ?_
       ·refine Zf<|Z0<|cH h fun c2 h=>bH h fun z2 e2 h=>Z1<|Z7 rfl<|Z4 _ (iz e2 (Zi4 (len:=5) rfl rfl (Z1y c2)))<|Z7 rfl<|Z7 rfl<|Z2<|Z0<|bH h fun z3 e3 h=>Z1<|Z7 rfl<|Z7 rfl<|Z4 _ (iz e3 (Zb rfl rfl rfl))<|Z4 _ (Zb rfl rfl rfl)<|Z2<|Z0w h rfl (fun h=>?_) (fun h=>?_)
        ·refine bH h fun z4 e4 h=>cH h fun c3 h=>oH h fun y3 f3 h=>Z1<|Z7 rfl<|Z7 rfl<|Z4 _ (iz e4 (Zb rfl rfl rfl))<|Z4 _ (Z3f rfl rfl (Z1y c3))<|Z7 rfl<|Z7 rfl<|Zc (Z40 (mS:=[_]) rfl (Z3y.perm .here) (fun w hw=>Z9e  f3 (Zbp hw (mS:=[_]) (Z3y.perm .here)) ) fun v1649 o1 R1=>?_)
         obtain ⟨rfl,rfl⟩:=R1
         exact Z2<|⟨y3,h,⟨⟨rfl,rfl,rfl,rfl,rfl,rfl,rfl,rfl,rfl,trivial⟩,(.o (.o (.o (.o .nil))))⟩⟩
        ·refine bH h fun z5 e5 h=>bH h fun z6 e6 h=>cH h fun c4 h=>bH h fun z7 e7 h=>oH h fun y4 f4 h=>Z1<|Z7 rfl<|Z7 rfl<|Z4 _ (iz e5 (Zb rfl rfl rfl))<|Z4 _ (iz e6 (Zb rfl rfl rfl))<|Z4 _ (Z3f rfl rfl (Z1y c4))<|Z7 rfl<|Z7 rfl<|Z4 _ (iz e7 (Zb rfl rfl rfl))<|Zc (Z40 (mS:=[_]) rfl (Z3y.perm .here) (fun w hw=>Z9e  f4 (Zbp hw (mS:=[_]) (Z3y.perm .here)) ) fun v1657 o2 R2=>?_)
         obtain ⟨rfl,rfl⟩:=R2
         exact Z2<|⟨y4,h,⟨⟨rfl,rfl,rfl,rfl,rfl,rfl,rfl,rfl,rfl,trivial⟩,(.o (.o (.o (.o .nil))))⟩⟩
       ·rintro t m ⟨a5,h,hF⟩
        refine Zo hF ?_
        clear hF
        subst q5
        refine bH h fun z8 e8 h=>Z1<|Z4 _ (iz e8 (Zb rfl rfl rfl))<|Z7 rfl<|Z2 ?_
        rw [q4] at h
        exact ⟨n2,Nat.lt_succ_self _,z8,a5,h,⟨⟨rfl,rfl,rfl,rfl,rfl,rfl,rfl,rfl,rfl,trivial⟩,(.o (.o (.o (.o .nil))))⟩⟩
      ·exact Z0o _ rfl<|⟨a4,h,⟨⟨rfl,rfl,rfl,rfl,rfl,trivial⟩,(.o (.o (.o (.o .nil))))⟩⟩
    ·rintro t m ⟨a3,h,hF⟩
     refine Zo hF ?_
     clear hF
     subst q3
     refine bH h fun z9 e9 h=>Z1<|Z4 _ (iz e9 (Zb rfl rfl rfl))<|Z7 rfl<|Z2 ?_
     rw [q2] at h
     exact ⟨n1,Nat.lt_succ_self _,z9,a3,h,⟨⟨rfl,rfl,rfl,rfl,rfl,trivial⟩,(.o (.o (.o (.o .nil))))⟩⟩
   ·exact Z0o _ rfl<|⟨a2,h,⟨⟨rfl,rfl,trivial⟩,(.o (.o (.o (.o .nil))))⟩⟩
 ·rintro t m ⟨a1,h,hF⟩
  refine Zo hF ?_
  clear hF
  subst q1
  refine Z0<|Z1<|Zc (Zs fun b5 u5=>Z2<|Z0<|Z1<|Z7 rfl<|Z2<|Z0<|Z0<|Z1<|Z4 _ (Z04 (p:=[uA' a1]) rfl .t1 rfl)<|Z7 rfl<|Z2<|jH h fun k6 q6 h=>Zq (G:=fun t m=>∃ (i3:Int) (a6:LI),k6 i3 a6=some r/\Fit [(4,pt' b3),(10,pt' b5),(11,.int .u64 (i3))] (ck b5 124 [u5' a6]::(ck b4 347 [uA' a1]::(ck b3 124 [u5' (replicate 5 0)]::(ck b2 124 [u5' y2]::(ck b1 124 [u5' y1] :: []))))) t m) ?_ ?_)
  ·refine Zf<|Z0e (fun n3 t m=>∃ (i4:Int) (i5:Int) (a7:LI),Z4o a1 k6 n3 i4 i5 a7=some r/\Fit [(4,pt' b3),(10,pt' b5),(11,.int .u64 (i4)),(55,agg [uA' a1]),(56,.int .i64 (i5))] (ck b5 124 [u5' a7]::(ck b4 347 [uA' a1]::(ck b3 124 [u5' (replicate 5 0)]::(ck b2 124 [u5' y2]::(ck b1 124 [u5' y1] :: []))))) t m) big ?_ ?_
   ·exact ⟨0,0,(replicate 5 0),h,⟨⟨rfl,rfl,rfl,rfl,rfl,trivial⟩,(.o (.o (.o (.o (.o .nil)))))⟩⟩
   ·rintro n3 t m ⟨i4,i5,a7,h,hF⟩
    refine Zo hF ?_
    clear hF
    rcases n3 with _ | n3
    · exact Z1v h
    have h:Z9r a1 k6 (Z4o a1 k6 n3) i4 i5 a7=some r:=h
    unfold Z9r at h
    obtain ⟨k7,q7⟩ : ∃ k,k=Z4o a1 k6 n3:=⟨_,rfl⟩
    try rw [<- q7] at h
    refine Z0<|Z1<|Z4 _ (Zb rfl rfl rfl)<|Z2<|Z0<|Z0w h rfl (fun h=>?_) (fun h=>?_)
    ·refine Zy<|Z0<|Zf<|Z0<|cH h fun c5 h=>bH h fun l1 g1 h=>Z1<|Z7 rfl<|Z4 _ (az (fun z=>agg [.ints .u64 2 z]) g1 (Z0gf (len:=5) (w:=2) rfl rfl (Z1y c5)))<|Zc (Zs fun b6 u6=>Z7 rfl<|Zc (Zn (q:=[.ints .u64 2 (l1)]) rfl rfl rfl rfl rfl .here<|Z2<|Z0<|bH h fun z10 e10 h=>cH h fun c6 h=>bH h fun z11 e11 h=>bH h fun z12 e12 h=>Z1<|Z4 _ (Z1u rfl)<|Z4 _ (iz e10 (Z0j rfl .here rfl))<|Z7 rfl<|Z4 _ (Zi5 rfl Zjr (xadd e11 e12 c6))<|Z7 rfl<|Z4 _ (Z0q rfl rfl)<|Z4 _ (Z0q rfl rfl)<|Z7 rfl<|Z7 rfl<|Z2<|Z0<|bH h fun z13 e13 h=>cH h fun c7 h=>bH h fun l2 g2 h=>Z1<|Z7 rfl<|Z7 rfl<|Z4 _ (iz e13 (Zb rfl rfl rfl))<|Z4 _ (Z3f rfl rfl (Z1y c7))<|Zc (Z6c (q:=[u5' l2]) (base:=0) g2 rfl rfl rfl (Z1k c7) rfl .t1<|Z2<|bH h fun z14 e14 h=>bH h fun z15 e15 h=>bH h fun z16 e16 h=>bH h fun z17 e17 h=>bH h fun z18 e18 h=>Z1<|Z4 _ (Z1u rfl)<|Z4 _ (iz e14 (Z0j rfl .here rfl))<|Z7 rfl<|Z4 _ (iz e15 (Zb rfl rfl rfl))<|Z4 _ (iz e16 (Znp rfl rfl (by decide)))<|Z7 rfl<|Z4 _ (iz e17 (Z9g rfl rfl (by decide)))<|Z4 _ (iz e18 (Zb rfl rfl rfl))<|Z7 rfl<|Z2<|bH h fun z19 e19 h=>Z1<|Z4 _ (iz e19 (Zb rfl rfl rfl))<|Z7 rfl<|Z2 ?_)))
     rw [q7] at h
     exact ⟨n3,Nat.lt_succ_self _,z18,z19,l2,h,⟨⟨rfl,rfl,rfl,rfl,rfl,trivial⟩,(.one .t1 (.one .t1 (.one .t1 (.one .t1 (.one .t1 .nil)))))⟩⟩
    ·exact Z0o _ rfl<|⟨i4,a7,h,⟨⟨rfl,rfl,rfl,trivial⟩,(.o (.o (.o (.o (.o .nil)))))⟩⟩
  ·rintro t m ⟨i3,a6,h,hF⟩
   refine Zo hF ?_
   clear hF
   subst q6
   refine Z0<|Z1<|Zc (Zs fun b7 u7=>Z2<|Z0<|oH h fun y5 f5 h=>Z1<|Z7 rfl<|Zc (Z40 (mS:=[_]) rfl (Z3y.perm .here) (fun w hw=>Z9e  f5 (Zbp hw (mS:=[_]) (Z3y.perm .here)) ) fun v1820 o3 R3=>?_))
   obtain ⟨rfl,rfl⟩:=R3
   refine Z2<|Z0<|bH h fun z20 e20 h=>bH h fun z21 e21 h=>cH h fun c8 h=>bH h fun z22 e22 h=>bH h fun z23 e23 h=>Z1<|Z4 _ (Z1u rfl)<|Z4 _ (iz e20 (Z0j rfl .here rfl))<|Z4 _ (Z3f rfl rfl (by decide))<|Z4 _ (iz e21 (Z0j rfl .t1 rfl))<|Z4 _ (Zi5 rfl Zjr (xadd e22 e23 c8))<|Z7 rfl<|Z4 _ (Z0q rfl rfl)<|Z4 _ (Z0q rfl rfl)<|Z7 rfl<|Z7 rfl<|Z2<|Z0<|bH h fun z24 e24 h=>bH h fun l3 g3 h=>Z1<|Z7 rfl<|Z4 _ (iz e24 (Zb rfl rfl rfl))<|Z4 _ (Z3f rfl rfl (by decide))<|Zc (Zdw (q:=[u5' l3]) (congrArg (fun z=>([u5' z]:List Seg)) g3.symm) rfl rfl rfl rfl .t1<|Z2<|Z0<|bH h fun z25 e25 h=>bH h fun z26 e26 h=>bH h fun z27 e27 h=>bH h fun z28 e28 h=>bH h fun z29 e29 h=>bH h fun z30 e30 h=>bH h fun z31 e31 h=>bH h fun l4 g4 h=>Z1<|Z4 _ (Z3f rfl rfl (by decide))<|Z4 _ (iz e25 (Z0j rfl .t1 rfl))<|Z4 _ (Z1u rfl)<|Z4 _ (iz e26 (Z0j rfl .here rfl))<|Z7 rfl<|Z4 _ (iz e27 (Zb rfl rfl rfl))<|Z4 _ (iz e28 (Znp rfl rfl (by decide)))<|Z7 rfl<|Z4 _ (iz e29 (Z9g rfl rfl (by decide)))<|Z4 _ (iz e30 (Zb rfl rfl rfl))<|Z4 _ (iz e31 (Zb rfl rfl rfl))<|Z4 _ (Z3f rfl rfl (by decide))<|Zc (Zdw (q:=[u5' l4]) (congrArg (fun z=>([u5' z]:List Seg)) g4.symm) rfl rfl rfl rfl .t1<|Z2<|Z0<|oH h fun y6 f6 h=>Z1<|Z4 _ (Z04 (p:=[u5' l4]) rfl .t1 rfl)<|Z4 _ (Z1e rfl (Z16 f6))<|Zc (Zn (q:=[u5' y6]) rfl rfl rfl rfl rfl .t3<|Z2<|Zd ?_)))
   revert h; refine Z00 fun h=>?_
   subst h
   exact ⟨_,(.cons (.agg rfl .t3 rfl) .nil),rfl⟩
def Zbg (p0:Int):OL :=
 bnd (([p0,0,0,0,0]:LI)) fun z1 =>
 opt (Z1p z1) fun y1 =>
 some y1
theorem Zh5 {W:World} {r:(LI)} {p0:Int} (h:Zbg p0=some r)  :
    Calls Tryz.prog 323 [.int .u64 (p0)].toArray W (Z2d W (agg [u5' r])):=by
 unfold Zbg at h
 refine Z9 mo Z0r8 rfl ?_
 refine Z0<|Z1<|Zc (Zs fun b1 u1=>Z2<|Z0<|bH h fun z1 e1 h=>oH h fun y1 f1 h=>Z1<|Z7 rfl<|Z4 _ (az (fun z=>agg [.ints .u64 5 z]) e1 (Ze2 (.one rfl rfl rfl BdR.nil)))<|Z4 _ (Z1e rfl (Z16 f1))<|Zc (Zn (q:=[u5' y1]) rfl rfl rfl rfl rfl .here<|Z2<|Zd ?_))
 revert h; refine Z00 fun h=>?_
 subst h
 exact ⟨_,(.cons (.agg rfl .here rfl) .nil),rfl⟩
def Z1o (p0:LI):OL :=
 opt (Z0y p0 p0) fun y1 =>
 some y1
theorem Z28 {W:World} {r:(LI)} {p0:LI} (h:Z1o p0=some r)  :
    Calls Tryz.prog 324 [agg [u5' p0]].toArray W (Z2d W (agg [u5' r])):=by
 unfold Z1o at h
 refine Z9 mo Z0r9 rfl ?_
 refine Z0<|Z1<|Zc (Z03 (s:=[u5' p0]) rfl fun b1 u1=>Zc (Zs fun b2 u2=>Z2<|Z0<|oH h fun y1 f1 h=>Z1<|Z4 _ (Z04 (p:=[u5' p0]) rfl .t1 rfl)<|Z4 _ (Z04 (p:=[u5' p0]) rfl .t1 rfl)<|Z4 _ (Z1e rfl (Z0g f1))<|Zc (Zn (q:=[u5' y1]) rfl rfl rfl rfl rfl .here<|Z2<|Zd ?_)))
 revert h; refine Z00 fun h=>?_
 subst h
 exact ⟨_,(.cons (.agg rfl .here rfl) .nil),rfl⟩
def Z9t (p0:LI) (p1:LI) (k1:(LI)->OL) (k2:Int->(LI)->OL) (i1:Int) (a1:LI):OL :=
 br ((decide (i1≥0))) (
 jn (fun (a2:LI)=>bnd (wrap .i64 (i1-1)) fun z1 =>
 k2 z1 a2) fun k3=>opt (Z1o a1) fun y1 =>
 bnd (wrap .i64 (Int.tdiv i1 8)) fun z2 =>
 chk (inB z2 32) <|
 bnd (p1.getD (z2).toNat 0) fun z3 =>
 bnd (Int.tmod i1 8) fun z4 =>
 chk (decide (0<=z4)) <|
 bnd (Zt .u8 z3 z4) fun z5 =>
 bnd (Z8 .and .u8 z5 1) fun z6 =>
 br ((z6==1)) (
 opt (Z0y y1 p0) fun y2 =>
 k3 y2
 ) (
 k3 y1
 )
 ) (
 k1 a1
 )
def Z5r (p0:LI) (p1:LI) (k1:(LI)->OL):Nat->Int->(LI)->OL
  | 0,_,_=>none
  | n+1,i1,a1=>Z9t p0 p1 k1 (Z5r p0 p1 k1 n) i1 a1
def Zcf (p0:LI) (p1:LI):OL :=
 opt (Zbg 1) fun y1 =>
 jn (fun (a1:LI)=>some a1) fun k1=>Z5r p0 p1 k1 big 255 y1
theorem Zf4 {W:World} {r:(LI)} {p0:LI} {p1:LI} (h:Zcf p0 p1=some r)  :
    Calls Tryz.prog 225 [agg [u5' p0],agg [b3' p1]].toArray W (Z2d W (agg [u5' r])):=by
 unfold Zcf at h
 refine Z9 mo Z0pr rfl ?_
 refine Z0<|Z1<|Zc (Z03 (s:=[u5' p0]) rfl fun b1 u1=>Zc (Z03 (s:=[b3' p1]) rfl fun b2 u2=>Zc (Zs fun b3 u3=>Z2<|Z0<|oH h fun y1 f1 h=>Z1<|Z4 _ (Z1e rfl (Zh5 f1))<|Zc (Zs fun b4 u4=>Zc (Zn (q:=[u5' y1]) rfl rfl rfl rfl rfl .here<|Z2<|Z0<|Z0<|Z1<|Z7 rfl<|Z2<|jH h fun k1 q1 h=>Zq (G:=fun t m=>∃ (a1:LI),k1 a1=some r/\Fit [(4,pt' b3),(5,pt' b4)] (ck b4 124 [u5' a1]::(ck b3 124 [u5' (replicate 5 0)]::(ck b2 22 [b3' p1]::(ck b1 124 [u5' p0] :: [])))) t m) ?_ ?_)))))
 ·refine Zf<|Z0e (fun n1 t m=>∃ (i1:Int) (a2:LI),Z5r p0 p1 k1 n1 i1 a2=some r/\Fit [(2,pt' b1),(3,pt' b2),(4,pt' b3),(5,pt' b4),(6,.int .i64 (i1))] (ck b4 124 [u5' a2]::(ck b3 124 [u5' (replicate 5 0)]::(ck b2 22 [b3' p1]::(ck b1 124 [u5' p0] :: [])))) t m) big ?_ ?_
  ·exact ⟨255,y1,h,⟨⟨rfl,rfl,rfl,rfl,rfl,trivial⟩,(.o (.o (.o (.o .nil))))⟩⟩
  ·rintro n1 t m ⟨i1,a2,h,hF⟩
   refine Zo hF ?_
   clear hF
   rcases n1 with _ | n1
   · exact Z1v h
   have h:Z9t p0 p1 k1 (Z5r p0 p1 k1 n1) i1 a2=some r:=h
   unfold Z9t at h
   obtain ⟨k2,q2⟩ : ∃ k,k=Z5r p0 p1 k1 n1:=⟨_,rfl⟩
   try rw [<- q2] at h
   refine Z0<|Z0<|Z1<|Z7 rfl<|Z4 _ (Zb rfl rfl rfl)<|Z2<|Z0w h rfl (fun h=>?_) (fun h=>?_)
   ·refine Zy<|Z0<|jH h fun k3 q3 h=>Zq (G:=fun t m=>∃ (a3:LI),k3 a3=some r/\Fit [(2,pt' b1),(3,pt' b2),(4,pt' b3),(5,pt' b4),(6,.int .i64 (i1))] (ck b4 124 [u5' a3]::(ck b3 124 [u5' (replicate 5 0)]::(ck b2 22 [b3' p1]::(ck b1 124 [u5' p0] :: [])))) t m) ?_ ?_
    ·refine Zf<|Z0<|oH h fun y2 f2 h=>Z1<|Z4 _ (Z04 (p:=[u5' a2]) rfl .here rfl)<|Z4 _ (Z1e rfl (Z28 f2))<|Zc (Zn (q:=[u5' y2]) rfl rfl rfl rfl rfl .here<|Z2<|Z0<|bH h fun z1 e1 h=>cH h fun c1 h=>bH h fun z2 e2 h=>bH h fun z3 e3 h=>cH h fun c2 h=>bH h fun z4 e4 h=>bH h fun z5 e5 h=>Z1<|Z7 rfl<|Z4 _ (iz e1 (Zq9 rfl rfl (by decide)))<|Z4 _ (Z3f rfl rfl (Z1y c1))<|Z4 _ (iz e2 (Za3 (base:=0) rfl .t2 rfl (Z1k c1)))<|Z7 rfl<|Z4 _ (iz e3 (Zlh rfl rfl (by decide)))<|Z4 _ (iz e4 (Z9g rfl rfl (of_decide_eq_true c2)))<|Z4 _ (iz e5 (Zb rfl rfl rfl))<|Z4 _ (Zb rfl rfl rfl)<|Z2<|Z0w h rfl (fun h=>?_) (fun h=>?_))
     ·exact oH h fun y3 f3 h=>Z1<|Z4 _ (Z04 (p:=[u5' y2]) rfl .here rfl)<|Z4 _ (Z04 (p:=[u5' p0]) rfl .t3 rfl)<|Z4 _ (Z1e rfl (Z0g f3))<|Zc (Zn (q:=[u5' y3]) rfl rfl rfl rfl rfl .here<|Z2<|⟨y3,h,⟨⟨rfl,rfl,rfl,rfl,rfl,trivial⟩,(.o (.o (.o (.o .nil))))⟩⟩)
     ·exact Zy<|⟨y2,h,⟨⟨rfl,rfl,rfl,rfl,rfl,trivial⟩,(.o (.o (.o (.o .nil))))⟩⟩
    ·rintro t m ⟨a3,h,hF⟩
     refine Zo hF ?_
     clear hF
     subst q3
     refine bH h fun z6 e6 h=>Z1<|Z7 rfl<|Z4 _ (iz e6 (Zb rfl rfl rfl))<|Z7 rfl<|Z2 ?_
     rw [q2] at h
     exact ⟨n1,Nat.lt_succ_self _,z6,a3,h,⟨⟨rfl,rfl,rfl,rfl,rfl,trivial⟩,(.o (.o (.o (.o .nil))))⟩⟩
   ·exact Z0o _ rfl<|⟨a2,h,⟨⟨rfl,rfl,trivial⟩,(.o (.o (.o (.o .nil))))⟩⟩
 ·rintro t m ⟨a1,h,hF⟩
  refine Zo hF ?_
  clear hF
  subst q1
  refine Z0<|Z1<|Z4 _ (Z04 (p:=[u5' a1]) rfl .here rfl)<|Zc (Zn (q:=[u5' a1]) rfl rfl rfl rfl rfl .t1<|Z2<|Zd ?_)
  revert h; refine Z00 fun h=>?_
  subst h
  exact ⟨_,(.cons (.agg rfl .t1 rfl) .nil),rfl⟩
def Zf5 (k1:(LI)->OL) (k2:Int->(LI)->OL) (i1:Int) (a1:LI):OL :=
 br ((decide (i1<32))) (
 chk (inB i1 32) <|
 bnd (Z62 a1 (i1).toNat 255) fun l1 =>
 bnd (wrap .i64 (i1+1)) fun z1 =>
 k2 z1 l1
 ) (
 k1 a1
 )
def Z8z (k1:(LI)->OL):Nat->Int->(LI)->OL
  | 0,_,_=>none
  | n+1,i1,a1=>Zf5 k1 (Z8z k1 n) i1 a1
def Z82 (p0:Int) (p1:Int):OL :=
 jn (fun (a1:LI)=>bnd (Z62 a1 0 p0) fun l1 =>
 bnd (Z62 l1 31 p1) fun l2 =>
 some l2) fun k1=>Z8z k1 big 0 (replicate 32 0)
theorem Zcv {W:World} {r:(LI)} {p0:Int} {p1:Int} (h:Z82 p0 p1=some r)  :
    Calls Tryz.prog 226 [.int .u8 (p0),.int .u8 (p1)].toArray W (Z2d W (agg [b3' r])):=by
 unfold Z82 at h
 refine Z9 mo Z0ps rfl ?_
 refine Z0<|Z1<|Zc (Zs fun b1 u1=>Z2<|Z0<|Z1<|Zc (Zs fun b2 u2=>Z2<|Z0<|Z0<|Z1<|Z7 rfl<|Z2<|jH h fun k1 q1 h=>Zq (G:=fun t m=>∃ (a1:LI),k1 a1=some r/\Fit [(0,.int .u8 (p0)),(1,.int .u8 (p1)),(4,pt' b1),(5,pt' b2)] (ck b2 22 [b3' a1]::(ck b1 22 [b3' (replicate 32 0)] :: [])) t m) ?_ ?_))
 ·refine Zf<|Z0e (fun n1 t m=>∃ (i1:Int) (a2:LI),Z8z k1 n1 i1 a2=some r/\Fit [(0,.int .u8 (p0)),(1,.int .u8 (p1)),(4,pt' b1),(5,pt' b2),(7,.int .i64 (i1))] (ck b2 22 [b3' a2]::(ck b1 22 [b3' (replicate 32 0)] :: [])) t m) big ?_ ?_
  ·exact ⟨0,(replicate 32 0),h,⟨⟨rfl,rfl,rfl,rfl,rfl,trivial⟩,(.o (.o .nil))⟩⟩
  ·rintro n1 t m ⟨i1,a2,h,hF⟩
   refine Zo hF ?_
   clear hF
   rcases n1 with _ | n1
   · exact Z1v h
   have h:Zf5 k1 (Z8z k1 n1) i1 a2=some r:=h
   unfold Zf5 at h
   obtain ⟨k2,q2⟩ : ∃ k,k=Z8z k1 n1:=⟨_,rfl⟩
   try rw [<- q2] at h
   refine Z0<|Z1<|Z4 _ (Zb rfl rfl rfl)<|Z2<|Z0<|Z0w h rfl (fun h=>?_) (fun h=>?_)
   ·refine Zy<|Z0<|Zf<|Z0<|Z1<|Z7 rfl<|Z7 rfl<|Z2<|cH h fun c1 h=>bH h fun l1 g1 h=>Z1<|Z7 rfl<|Z4 _ (Z3f rfl rfl (Z1y c1))<|Zc (Z6c (q:=[b3' l1]) (base:=0) g1 rfl rfl rfl (Z1k c1) rfl .here<|Z2<|bH h fun z1 e1 h=>Z1<|Z4 _ (iz e1 (Zb rfl rfl rfl))<|Z7 rfl<|Z2 ?_)
    rw [q2] at h
    exact ⟨n1,Nat.lt_succ_self _,z1,l1,h,⟨⟨rfl,rfl,rfl,rfl,rfl,trivial⟩,(.o (.o .nil))⟩⟩
   ·exact Z0o _ rfl<|⟨a2,h,⟨⟨rfl,rfl,rfl,rfl,trivial⟩,(.o (.o .nil))⟩⟩
 ·rintro t m ⟨a1,h,hF⟩
  refine Zo hF ?_
  clear hF
  subst q1
  refine Z0<|bH h fun l2 g2 h=>bH h fun l3 g3 h=>Z1<|Z7 rfl<|Z7 rfl<|Z4 _ (Z3f rfl rfl (by decide))<|Zc (Zdw (q:=[b3' l2]) (congrArg (fun z=>([b3' z]:List Seg)) g2.symm) rfl rfl rfl rfl .here<|Z4 _ (Z3f rfl rfl (by decide))<|Zc (Zdw (q:=[b3' l3]) (congrArg (fun z=>([b3' z]:List Seg)) g3.symm) rfl rfl rfl rfl .here<|Z2<|Z0<|Z1<|Z4 _ (Z04 (p:=[b3' l3]) rfl .here rfl)<|Zc (Zn (q:=[b3' l3]) rfl rfl rfl rfl rfl .t1<|Z2<|Zd ?_)))
  revert h; refine Z00 fun h=>?_
  subst h
  exact ⟨_,(.cons (.agg rfl .t1 rfl) .nil),rfl⟩
def Z9q (p0:LI):OL :=
 opt (Z82 235 127) fun y1 =>
 opt (Zcf p0 y1) fun y2 =>
 some y2
theorem Zla {W:World} {r:(LI)} {p0:LI} (h:Z9q p0=some r)  :
    Calls Tryz.prog 113 [agg [u5' p0]].toArray W (Z2d W (agg [u5' r])):=by
 unfold Z9q at h
 refine Z9 mo Z0nu rfl ?_
 refine Z0<|Z1<|Zc (Z03 (s:=[u5' p0]) rfl fun b1 u1=>Zc (Zs fun b2 u2=>Z2<|Z0<|oH h fun y1 f1 h=>oH h fun y2 f2 h=>Zj<|Z6 _ (Z1e rfl (Zcv f1))<|Zg _ (Z04 (p:=[u5' p0]) rfl .t1 rfl)<|Z6 _ (Z1e rfl (Zf4 f2))<|Z1n rfl (Zn (q:=[u5' y2]) rfl rfl rfl rfl rfl .here<|Zr<|Zd ?_)))
 revert h; refine Z00 fun h=>?_
 subst h
 exact ⟨_,(.cons (.agg rfl .here rfl) .nil),rfl⟩
def Zf3 (y1:(LI)) (k1:(LI)->OL) (k2:Int->(LI)->OL) (i1:Int) (a1:LI):OL :=
 br ((decide (i1<32))) (
 bnd (wrap .i64 (8*i1)) fun z1 =>
 bnd (wrap .i64 (Int.tdiv z1 51)) fun z2 =>
 bnd (wrap .i64 (8*i1)) fun z3 =>
 bnd (Int.tmod z3 51) fun z4 =>
 chk (inB z2 5) <|
 bnd (y1.getD (z2).toNat 0) fun z5 =>
 chk (decide (0<=z4)) <|
 bnd (Zt .u64 z5 z4) fun z6 =>
 jn (fun (i2:Int)=>bnd (wrap .u8 i2) fun z7 =>
 chk (inB i1 32) <|
 bnd (Z62 a1 (i1).toNat z7) fun l1 =>
 bnd (wrap .i64 (i1+1)) fun z8 =>
 k2 z8 l1) fun k3=>br (((decide (z4>43))&&(decide (z2<4)))) (
 bnd (wrap .i64 (z2+1)) fun z9 =>
 chk (inB z9 5) <|
 bnd (y1.getD (z9).toNat 0) fun z10 =>
 bnd (wrap .i64 (51-z4)) fun z11 =>
 chk (decide (0<=z11)) <|
 bnd (Z08 .u64 z10 z11) fun z12 =>
 bnd (Z8 .or .u64 z6 z12) fun z13 =>
 k3 z13
 ) (
 k3 z6
 )
 ) (
 k1 a1
 )
def Z7d (y1:(LI)) (k1:(LI)->OL):Nat->Int->(LI)->OL
  | 0,_,_=>none
  | n+1,i1,a1=>Zf3 y1 k1 (Z7d y1 k1 n) i1 a1
def Zbe (p0:LI):OL :=
 opt (Z1p p0) fun y1 =>
 jn (fun (a1:LI)=>some a1) fun k1=>Z7d y1 k1 big 0 (replicate 32 0)
theorem Zh2 {W:World} {r:(LI)} {p0:LI} (h:Zbe p0=some r)  :
    Calls Tryz.prog 114 [agg [u5' p0]].toArray W (Z2d W (agg [b3' r])):=by
 unfold Zbe at h
 refine Z9 mo Z0nv rfl ?_
 refine Z0<|Z1<|Zc (Z03 (s:=[u5' p0]) rfl fun b1 u1=>Zc (Zs fun b2 u2=>Z2<|Z0<|oH h fun y1 f1 h=>Z1<|Z4 _ (Z04 (p:=[u5' p0]) rfl .t1 rfl)<|Z4 _ (Z1e rfl (Z16 f1))<|Zc (Zn (q:=[u5' y1]) rfl rfl rfl rfl rfl .t1<|Z2<|Z0<|Z1<|Zc (Zs fun b3 u3=>Z2<|Z0<|Z0<|Z1<|Z7 rfl<|Z2<|jH h fun k1 q1 h=>Zq (G:=fun t m=>∃ (a1:LI),k1 a1=some r/\Fit [(2,pt' b2),(3,pt' b3)] (ck b3 22 [b3' a1]::(ck b2 22 [b3' (replicate 32 0)]::(ck b1 124 [u5' y1] :: []))) t m) ?_ ?_))))
 ·refine Zf<|Z0e (fun n1 t m=>∃ (i1:Int) (a2:LI),Z7d y1 k1 n1 i1 a2=some r/\Fit [(1,pt' b1),(2,pt' b2),(3,pt' b3),(10,.int .i64 (i1))] (ck b3 22 [b3' a2]::(ck b2 22 [b3' (replicate 32 0)]::(ck b1 124 [u5' y1] :: []))) t m) big ?_ ?_
  ·exact ⟨0,(replicate 32 0),h,⟨⟨rfl,rfl,rfl,rfl,trivial⟩,(.o (.o (.o .nil)))⟩⟩
  ·rintro n1 t m ⟨i1,a2,h,hF⟩
   refine Zo hF ?_
   clear hF
   rcases n1 with _ | n1
   · exact Z1v h
   have h:Zf3 y1 k1 (Z7d y1 k1 n1) i1 a2=some r:=h
   unfold Zf3 at h
   obtain ⟨k2,q2⟩ : ∃ k,k=Z7d y1 k1 n1:=⟨_,rfl⟩
   try rw [<- q2] at h
   refine Z0<|Z1<|Z4 _ (Zb rfl rfl rfl)<|Z2<|Z0<|Z0w h rfl (fun h=>?_) (fun h=>?_)
   ·refine Zy<|Z0<|Zf<|Z0<|Z1<|Z7 rfl<|Z7 rfl<|Z2<|Z0<|bH h fun z1 e1 h=>bH h fun z2 e2 h=>bH h fun z3 e3 h=>bH h fun z4 e4 h=>Z1<|Z7 rfl<|Z4 _ (iz e1 (Zb rfl rfl rfl))<|Z4 _ (iz e2 (Zq9 rfl rfl (by decide)))<|Z7 rfl<|Z4 _ (iz e3 (Zb rfl rfl rfl))<|Z4 _ (iz e4 (Zlh rfl rfl (by decide)))<|Z7 rfl<|Z7 rfl<|Z2<|Z0<|cH h fun c1 h=>bH h fun z5 e5 h=>cH h fun c2 h=>bH h fun z6 e6 h=>Z1<|Z7 rfl<|Z4 _ (Z3f rfl rfl (Z1y c1))<|Z4 _ (iz e5 (Za3 (base:=0) rfl .t2 rfl (Z1k c1)))<|Z7 rfl<|Z4 _ (iz e6 (Z9g rfl rfl (of_decide_eq_true c2)))<|Z7 rfl<|Z2<|Z0<|Z0<|Z1<|Z7 rfl<|Z4 _ (Zb rfl rfl rfl)<|Z7 rfl<|Zjn rfl rfl rfl (fun hg1=>Z31 rfl _ (Z09 rfl) (Z31 rfl _ (Zb rfl rfl rfl) (Z2a))) (fun hg1=>rfl) rfl<|Z2<|jH h fun k3 q3 h=>Zq (G:=fun t m=>∃ (i2:Int),k3 i2=some r/\Fit [(1,pt' b1),(2,pt' b2),(3,pt' b3),(4,.int .i64 (i1)),(7,.int .u64 (i2)),(10,.int .i64 (i1))] (ck b3 22 [b3' a2]::(ck b2 22 [b3' (replicate 32 0)]::(ck b1 124 [u5' y1] :: []))) t m) ?_ ?_
    ·refine Z0w h rfl (fun h=>?_) (fun h=>?_)
     ·exact bH h fun z7 e7 h=>cH h fun c3 h=>bH h fun z8 e8 h=>bH h fun z9 e9 h=>cH h fun c4 h=>bH h fun z10 e10 h=>bH h fun z11 e11 h=>Z1<|Z7 rfl<|Z7 rfl<|Z4 _ (iz e7 (Zb rfl rfl rfl))<|Z4 _ (Z3f rfl rfl (Z1y c3))<|Z4 _ (iz e8 (Za3 (base:=0) rfl .t2 rfl (Z1k c3)))<|Z7 rfl<|Z4 _ (iz e9 (Zb rfl rfl rfl))<|Z4 _ (iz e10 (Znp rfl rfl (of_decide_eq_true c4)))<|Z4 _ (iz e11 (Zb rfl rfl rfl))<|Z7 rfl<|Z2<|⟨z11,h,⟨⟨rfl,rfl,rfl,rfl,rfl,rfl,trivial⟩,(.o (.o (.o .nil)))⟩⟩
     ·exact Zy<|⟨z6,h,⟨⟨rfl,rfl,rfl,rfl,rfl,rfl,trivial⟩,(.o (.o (.o .nil)))⟩⟩
    ·rintro t m ⟨i2,h,hF⟩
     refine Zo hF ?_
     clear hF
     subst q3
     refine bH h fun z12 e12 h=>cH h fun c5 h=>bH h fun l1 g1 h=>Z1<|Z7 rfl<|Z7 rfl<|Z4 _ (iz e12 (Z7a rfl))<|Z4 _ (Z3f rfl rfl (Z1y c5))<|Zc (Z6c (q:=[b3' l1]) (base:=0) g1 rfl rfl rfl (Z1k c5) rfl .here<|Z2<|bH h fun z13 e13 h=>Z1<|Z4 _ (iz e13 (Zb rfl rfl rfl))<|Z7 rfl<|Z2 ?_)
     rw [q2] at h
     exact ⟨n1,Nat.lt_succ_self _,z13,l1,h,⟨⟨rfl,rfl,rfl,rfl,trivial⟩,(.o (.o (.o .nil)))⟩⟩
   ·exact Z0o _ rfl<|⟨a2,h,⟨⟨rfl,rfl,trivial⟩,(.o (.o (.o .nil)))⟩⟩
 ·rintro t m ⟨a1,h,hF⟩
  refine Zo hF ?_
  clear hF
  subst q1
  refine Z0<|Z1<|Z4 _ (Z04 (p:=[b3' a1]) rfl .here rfl)<|Zc (Zn (q:=[b3' a1]) rfl rfl rfl rfl rfl .t1<|Z2<|Zd ?_)
  revert h; refine Z00 fun h=>?_
  subst h
  exact ⟨_,(.cons (.agg rfl .t1 rfl) .nil),rfl⟩
def Z9d (p0:LI):Option Bool :=
 opt (Z1p p0) fun y1 =>
 bnd (y1.getD 0 0) fun z1 =>
 bnd (Z8 .and .u64 z1 1) fun z2 =>
 some (z2==1)
theorem Zh4 {W:World} {r:Bool} {p0:LI} (h:Z9d p0=some r)  :
    Calls Tryz.prog 116 [agg [u5' p0]].toArray W (Z2d W (.bool (r))):=by
 unfold Z9d at h
 refine Z9 mo Z0nx rfl ?_
 refine Z0<|Z1<|Zc (Z03 (s:=[u5' p0]) rfl fun b1 u1=>Z7 rfl<|Z2<|Z0<|oH h fun y1 f1 h=>bH h fun z1 e1 h=>bH h fun z2 e2 h=>Z1<|Z4 _ (Z04 (p:=[u5' p0]) rfl .here rfl)<|Z4 _ (Z1e rfl (Z16 f1))<|Z4 _ (iz e1 (Zi4 (len:=5) (z:=0) rfl rfl (by decide)))<|Z4 _ (iz e2 (Zb rfl rfl rfl))<|Z4 _ (Zb rfl rfl rfl)<|Z7 rfl<|Z2<|Zd ?_)
 revert h; refine Z00 fun h=>?_
 subst h
 exact ⟨_,(.cons (.tmp rfl) .nil),rfl⟩
structure Za where
  gX:LI
  gY:LI
  gZ:LI
  gT:LI
def Z1a:Za:=⟨(replicate 5 0),(replicate 5 0),(replicate 5 0),(replicate 5 0)⟩
def Z5n (p0:Za):OL :=
 opt (Z9q p0.gZ) fun y1 =>
 opt (Z0y p0.gY y1) fun y2 =>
 opt (Zbe y2) fun y3 =>
 opt (Z0y p0.gX y1) fun y4 =>
 opt (Z9d y4) fun y5 =>
 jn (fun (a1:LI)=>some a1) fun k1=>br (y5) (
 bnd (y3.getD 31 0) fun z1 =>
 bnd (Z8 .or .u8 z1 128) fun z2 =>
 bnd (Z62 y3 31 z2) fun l1 =>
 k1 l1
 ) (
 k1 y3
 )
theorem Z8m {W:World} {r:(LI)} {p0:Za} (h:Z5n p0=some r)  :
    Calls Tryz.prog 53 [agg [u5' p0.gX,u5' p0.gY,u5' p0.gZ,u5' p0.gT]].toArray W (Z2d W (agg [b3' r])):=by
 unfold Z5n at h
 refine Z9 mo ok53 rfl ?_
 refine Z0<|Z1<|Zc (Z03 (s:=[u5' p0.gX,u5' p0.gY,u5' p0.gZ,u5' p0.gT]) rfl fun b1 u1=>Zc (Zs fun b2 u2=>Z2<|Z0<|oH h fun y1 f1 h=>Z1<|Z4 _ (Z1u rfl)<|Z4 _ (Z04 (p:=[u5' p0.gZ]) rfl .t1 rfl)<|Z4 _ (Z1e rfl (Zla f1))<|Zc (Zs fun b3 u3=>Zc (Zn (q:=[u5' y1]) rfl rfl rfl rfl rfl .here<|Z2<|Z0<|oH h fun y2 f2 h=>oH h fun y3 f3 h=>Z1<|Z4 _ (Z1u rfl)<|Z4 _ (Z04 (p:=[u5' p0.gY]) rfl .t2 rfl)<|Z4 _ (Z04 (p:=[u5' y1]) rfl .here rfl)<|Z4 _ (Z1e rfl (Z0g f2))<|Z4 _ (Z1e rfl (Zh2 f3))<|Zc (Zs fun b4 u4=>Zc (Zn (q:=[b3' y3]) rfl rfl rfl rfl rfl .here<|Z2<|Z0<|Z0<|oH h fun y4 f4 h=>oH h fun y5 f5 h=>Z1<|Z4 _ (Z1u rfl)<|Z4 _ (Z04 (p:=[u5' p0.gX]) rfl .t3 rfl)<|Z4 _ (Z04 (p:=[u5' y1]) rfl .t1 rfl)<|Z4 _ (Z1e rfl (Z0g f4))<|Z4 _ (Z1e rfl (Zh4 f5))<|Z2<|jH h fun k1 q1 h=>Zq (G:=fun t m=>∃ (a1:LI),k1 a1=some r/\Fit [(2,pt' b2),(4,pt' b4)] (ck b4 43 [b3' a1]::(ck b3 124 [u5' y1]::(ck b2 43 [b3' (replicate 32 0)]::(ck b1 126 [u5' p0.gX,u5' p0.gY,u5' p0.gZ,u5' p0.gT] :: [])))) t m) ?_ ?_))))))
 ·refine Z0w h rfl (fun h=>?_) (fun h=>?_)
  ·exact bH h fun z1 e1 h=>bH h fun z2 e2 h=>bH h fun l1 g1 h=>Z1<|Z4 _ (Z3f rfl rfl (by decide))<|Z4 _ (iz e1 (Z0j rfl .here rfl))<|Z4 _ (iz e2 (Zb rfl rfl rfl))<|Z4 _ (Z3f rfl rfl (by decide))<|Zc (Zdw (q:=[b3' l1]) (congrArg (fun z=>([b3' z]:List Seg)) g1.symm) rfl rfl rfl rfl .here<|Z2<|⟨l1,h,⟨⟨rfl,rfl,trivial⟩,(.o (.o (.o (.o .nil))))⟩⟩)
  ·exact Zy<|⟨y3,h,⟨⟨rfl,rfl,trivial⟩,(.o (.o (.o (.o .nil))))⟩⟩
 ·rintro t m ⟨a1,h,hF⟩
  refine Zo hF ?_
  clear hF
  subst q1
  refine Z0<|Z1<|Z4 _ (Z04 (p:=[b3' a1]) rfl .here rfl)<|Zc (Zn (q:=[b3' a1]) rfl rfl rfl rfl rfl .t2<|Z2<|Zd ?_)
  revert h; refine Z00 fun h=>?_
  subst h
  exact ⟨_,(.cons (.agg rfl .t2 rfl) .nil),rfl⟩
def Z9o:OL :=
 bnd (([1,0,0,0,0]:LI)) fun z1 =>
 some z1
theorem Zac {W:World} {r:(LI)} (h:Z9o=some r)  :
    Calls Tryz.prog 237 [].toArray W (Z2d W (agg [u5' r])):=by
 unfold Z9o at h
 refine Z9 mo Z0q2 rfl ?_
 refine Z0<|Z1<|Zc (Zs fun b1 u1=>Z2<|Z0<|bH h fun z1 e1 h=>Z1<|Z4 _ (az (fun z=>agg [.ints .u64 5 z]) e1 (Ze2 (.one rfl rfl rfl BdR.nil)))<|Zc (Zn (q:=[u5' z1]) rfl rfl rfl rfl rfl .here<|Z2<|Zd ?_))
 revert h; refine Z00 fun h=>?_
 subst h
 exact ⟨_,(.cons (.agg rfl .here rfl) .nil),rfl⟩
def Zba:Option (Za) :=
 opt (Z9o) fun y1 =>
 opt (Z9o) fun y2 =>
 some (⟨(replicate 5 0),y1,y2,(replicate 5 0)⟩:Za)
theorem Zdt {W:World} {r:Za} (h:Zba=some r)  :
    Calls Tryz.prog 232 [].toArray W (Z2d W (agg [u5' r.gX,u5' r.gY,u5' r.gZ,u5' r.gT])):=by
 unfold Zba at h
 refine Z9 mo Z0px rfl ?_
 refine Z0<|Z1<|Zc (Zs fun b1 u1=>Z2<|Z0<|oH h fun y1 f1 h=>oH h fun y2 f2 h=>Z1<|Z4 _ (Z1e rfl (Zac f1))<|Z4 _ (Z1e rfl (Zac f2))<|Z4 _ (Ze2 (q:=[u5' (replicate 5 0),u5' y1,u5' y2,u5' (replicate 5 0)]) (.agg rfl rfl rfl (.agg rfl rfl rfl BdR.nil)))<|Zc (Zn (q:=[u5' (replicate 5 0),u5' y1,u5' y2,u5' (replicate 5 0)]) rfl rfl rfl rfl rfl .here<|Z2<|Zd ?_))
 revert h; refine Z00 fun h=>?_
 subst h
 exact ⟨_,(.cons (.agg rfl .here rfl) .nil),rfl⟩
def Zht (y1:(LI)) (k1:(LI)->OL) (k2:Int->(LI)->OL) (i1:Int) (a1:LI):OL :=
 br ((decide (i1<5))) (
 chk (inB i1 5) <|
 chk (inB i1 5) <|
 bnd (a1.getD (i1).toNat 0) fun z1 =>
 bnd (y1.getD (i1).toNat 0) fun z2 =>
 bnd (wrap .u64 (z1+z2)) fun z3 =>
 chk (inB i1 5) <|
 bnd (Z62 a1 (i1).toNat z3) fun l1 =>
 bnd (wrap .i64 (i1+1)) fun z4 =>
 k2 z4 l1
 ) (
 k1 a1
 )
def Z9p (y1:(LI)) (k1:(LI)->OL):Nat->Int->(LI)->OL
  | 0,_,_=>none
  | n+1,i1,a1=>Zht y1 k1 (Z9p y1 k1 n) i1 a1
def Z2v (p0:LI) (p1:LI):OL :=
 opt (Z5z p0) fun y1 =>
 opt (Z5z p1) fun y2 =>
 jn (fun (a1:LI)=>opt (Z1p a1) fun y3 =>
 some y3) fun k1=>Z9p y2 k1 big 0 y1
theorem Z2l {W:World} {r:(LI)} {p0:LI} {p1:LI} (h:Z2v p0 p1=some r)  :
    Calls Tryz.prog 326 [agg [u5' p0],agg [u5' p1]].toArray W (Z2d W (agg [u5' r])):=by
 unfold Z2v at h
 refine Z9 mo Z0rb rfl ?_
 refine Z0<|Z1<|Zc (Z03 (s:=[u5' p0]) rfl fun b1 u1=>Zc (Z03 (s:=[u5' p1]) rfl fun b2 u2=>Zc (Zs fun b3 u3=>Z2<|Z0<|oH h fun y1 f1 h=>oH h fun y2 f2 h=>Zj<|Zg _ (Z04 (p:=[u5' p0]) rfl .t2 rfl)<|Z6 _ (Z1e rfl (Z5e f1))<|Zg _ (Z04 (p:=[u5' p1]) rfl .t1 rfl)<|Z6 _ (Z1e rfl (Z5e f2))<|Z1n rfl (Zn (q:=[u5' y1]) rfl rfl rfl rfl rfl .t2<|Z049 rfl (Zn (q:=[u5' y2]) rfl rfl rfl rfl rfl .t1<|Zr<|Z0<|Z0<|Z1<|Z7 rfl<|Z2<|jH h fun k1 q1 h=>Zq (G:=fun t m=>∃ (a1:LI),k1 a1=some r/\Fit [(2,pt' b1),(4,pt' b3)] (ck b3 124 [u5' (replicate 5 0)]::(ck b2 124 [u5' y2]::(ck b1 124 [u5' a1] :: []))) t m) ?_ ?_)))))
 ·refine Zf<|Z0e (fun n1 t m=>∃ (i1:Int) (a2:LI),Z9p y2 k1 n1 i1 a2=some r/\Fit [(2,pt' b1),(3,pt' b2),(4,pt' b3),(10,.int .i64 (i1))] (ck b3 124 [u5' (replicate 5 0)]::(ck b2 124 [u5' y2]::(ck b1 124 [u5' a2] :: []))) t m) big ?_ ?_
  ·exact ⟨0,y1,h,⟨⟨rfl,rfl,rfl,rfl,trivial⟩,(.o (.o (.o .nil)))⟩⟩
  ·rintro n1 t m ⟨i1,a2,h,hF⟩
   refine Zo hF ?_
   clear hF
   rcases n1 with _ | n1
   · exact Z1v h
   have h:Zht y2 k1 (Z9p y2 k1 n1) i1 a2=some r:=h
   unfold Zht at h
   obtain ⟨k2,q2⟩ : ∃ k,k=Z9p y2 k1 n1:=⟨_,rfl⟩
   try rw [<- q2] at h
   refine Z0<|Z1<|Z4 _ (Zb rfl rfl rfl)<|Z2<|Z0<|Z0w h rfl (fun h=>?_) (fun h=>?_)
   ·refine Zy<|Z0<|Zf<|Z0<|Z1<|Z7 rfl<|Z7 rfl<|Z2<|cH h fun c1 h=>cH h fun c2 h=>bH h fun z1 e1 h=>bH h fun z2 e2 h=>bH h fun z3 e3 h=>cH h fun c3 h=>bH h fun l1 g1 h=>Zj<|Z6 _ (Z09 rfl)<|Z6 _ (Z3f rfl rfl (Z1y c1))<|Z6 _ (Z09 rfl)<|Z6 _ (Z3f rfl rfl (Z1y c2))<|Zg _ (iz e1 (Za3 (base:=0) rfl .t2 rfl (Z1k c1)))<|Zg _ (iz e2 (Za3 (base:=0) rfl .t1 rfl (Z1k c2)))<|Z6 _ (iz e3 (Zb rfl rfl rfl))<|Z6 _ (Z3f rfl rfl (Z1y c3))<|Z1n rfl (Z6c (q:=[u5' l1]) (base:=0) g1 rfl rfl rfl (Z1k c3) rfl .t2<|Zr<|bH h fun z4 e4 h=>Z1<|Z4 _ (iz e4 (Zb rfl rfl rfl))<|Z7 rfl<|Z2 ?_)
    rw [q2] at h
    exact ⟨n1,Nat.lt_succ_self _,z4,l1,h,⟨⟨rfl,rfl,rfl,rfl,trivial⟩,(.o (.o (.o .nil)))⟩⟩
   ·exact Z0o _ rfl<|⟨a2,h,⟨⟨rfl,rfl,trivial⟩,(.o (.o (.o .nil)))⟩⟩
 ·rintro t m ⟨a1,h,hF⟩
  refine Zo hF ?_
  clear hF
  subst q1
  refine Z0<|oH h fun y3 f3 h=>Z1<|Z4 _ (Z04 (p:=[u5' a1]) rfl .t2 rfl)<|Z4 _ (Z1e rfl (Z16 f3))<|Zc (Zn (q:=[u5' y3]) rfl rfl rfl rfl rfl .here<|Z2<|Zd ?_)
  revert h; refine Z00 fun h=>?_
  subst h
  exact ⟨_,(.cons (.agg rfl .here rfl) .nil),rfl⟩
def Zhu (y1:(LI)) (k1:(LI)->OL) (k2:Int->(LI)->OL) (i1:Int) (a1:LI):OL :=
 br ((decide (i1<5))) (
 chk (inB i1 5) <|
 bnd (y1.getD (i1).toNat 0) fun z1 =>
 bnd (wrap .u64 (4503599627370494-z1)) fun z2 =>
 chk (inB i1 5) <|
 bnd (Z62 a1 (i1).toNat z2) fun l1 =>
 bnd (wrap .i64 (i1+1)) fun z3 =>
 k2 z3 l1
 ) (
 k1 a1
 )
def Z9s (y1:(LI)) (k1:(LI)->OL):Nat->Int->(LI)->OL
  | 0,_,_=>none
  | n+1,i1,a1=>Zhu y1 k1 (Z9s y1 k1 n) i1 a1
def Z6e (p0:LI):OL :=
 opt (Z1p p0) fun y1 =>
 bnd (y1.getD 0 0) fun z1 =>
 bnd (wrap .u64 (4503599627370458-z1)) fun z2 =>
 bnd (([z2,0,0,0,0]:LI)) fun z3 =>
 jn (fun (a1:LI)=>opt (Z1p a1) fun y2 =>
 some y2) fun k1=>Z9s y1 k1 big 1 z3
theorem Z7e {W:World} {r:(LI)} {p0:LI} (h:Z6e p0=some r)  :
    Calls Tryz.prog 334 [agg [u5' p0]].toArray W (Z2d W (agg [u5' r])):=by
 unfold Z6e at h
 refine Z9 mo Z0rj rfl ?_
 refine Z0<|Z1<|Zc (Z03 (s:=[u5' p0]) rfl fun b1 u1=>Zc (Zs fun b2 u2=>Z2<|Z0<|oH h fun y1 f1 h=>Z1<|Z4 _ (Z04 (p:=[u5' p0]) rfl .t1 rfl)<|Z4 _ (Z1e rfl (Z16 f1))<|Zc (Zn (q:=[u5' y1]) rfl rfl rfl rfl rfl .t1<|Z2<|Z0<|bH h fun z1 e1 h=>bH h fun z2 e2 h=>bH h fun z3 e3 h=>Z1<|Z4 _ (Z3f rfl rfl (by decide))<|Z4 _ (iz e1 (Z0j rfl .t1 rfl))<|Z4 _ (iz e2 (Zb rfl rfl rfl))<|Z4 _ (az (fun z=>agg [.ints .u64 5 z]) e3 (Ze2 (.one rfl rfl rfl BdR.nil)))<|Zc (Zs fun b3 u3=>Zc (Zn (q:=[u5' z3]) rfl rfl rfl rfl rfl .here<|Z2<|Z0<|Z0<|Z1<|Z7 rfl<|Z2<|jH h fun k1 q1 h=>Zq (G:=fun t m=>∃ (a1:LI),k1 a1=some r/\Fit [(2,pt' b2),(3,pt' b3)] (ck b3 124 [u5' a1]::(ck b2 124 [u5' (replicate 5 0)]::(ck b1 124 [u5' y1] :: []))) t m) ?_ ?_)))))
 ·refine Zf<|Z0e (fun n1 t m=>∃ (i1:Int) (a2:LI),Z9s y1 k1 n1 i1 a2=some r/\Fit [(1,pt' b1),(2,pt' b2),(3,pt' b3),(4,.int .i64 (i1))] (ck b3 124 [u5' a2]::(ck b2 124 [u5' (replicate 5 0)]::(ck b1 124 [u5' y1] :: []))) t m) big ?_ ?_
  ·exact ⟨1,z3,h,⟨⟨rfl,rfl,rfl,rfl,trivial⟩,(.o (.o (.o .nil)))⟩⟩
  ·rintro n1 t m ⟨i1,a2,h,hF⟩
   refine Zo hF ?_
   clear hF
   rcases n1 with _ | n1
   · exact Z1v h
   have h:Zhu y1 k1 (Z9s y1 k1 n1) i1 a2=some r:=h
   unfold Zhu at h
   obtain ⟨k2,q2⟩ : ∃ k,k=Z9s y1 k1 n1:=⟨_,rfl⟩
   try rw [<- q2] at h
   refine Z0<|Z0<|Z1<|Z7 rfl<|Z4 _ (Zb rfl rfl rfl)<|Z2<|Z0w h rfl (fun h=>?_) (fun h=>?_)
   ·refine Zy<|Z0<|Zf<|cH h fun c1 h=>bH h fun z4 e4 h=>bH h fun z5 e5 h=>cH h fun c2 h=>bH h fun l1 g1 h=>Z1<|Z7 rfl<|Z7 rfl<|Z4 _ (Z3f rfl rfl (Z1y c1))<|Z4 _ (iz e4 (Za3 (base:=0) rfl .t2 rfl (Z1k c1)))<|Z4 _ (iz e5 (Zb rfl rfl rfl))<|Z4 _ (Z3f rfl rfl (Z1y c2))<|Zc (Z6c (q:=[u5' l1]) (base:=0) g1 rfl rfl rfl (Z1k c2) rfl .here<|Z2<|bH h fun z6 e6 h=>Z1<|Z7 rfl<|Z4 _ (iz e6 (Zb rfl rfl rfl))<|Z7 rfl<|Z2 ?_)
    rw [q2] at h
    exact ⟨n1,Nat.lt_succ_self _,z6,l1,h,⟨⟨rfl,rfl,rfl,rfl,trivial⟩,(.o (.o (.o .nil)))⟩⟩
   ·exact Z0o _ rfl<|⟨a2,h,⟨⟨rfl,rfl,trivial⟩,(.o (.o (.o .nil)))⟩⟩
 ·rintro t m ⟨a1,h,hF⟩
  refine Zo hF ?_
  clear hF
  subst q1
  refine Z0<|oH h fun y2 f2 h=>Z1<|Z4 _ (Z04 (p:=[u5' a1]) rfl .here rfl)<|Z4 _ (Z1e rfl (Z16 f2))<|Zc (Zn (q:=[u5' y2]) rfl rfl rfl rfl rfl .t1<|Z2<|Zd ?_)
  revert h; refine Z00 fun h=>?_
  subst h
  exact ⟨_,(.cons (.agg rfl .t1 rfl) .nil),rfl⟩
def Z5s (p0:LI) (p1:LI):OL :=
 opt (Z6e p1) fun y1 =>
 opt (Z2v p0 y1) fun y2 =>
 some y2
theorem Z5y {W:World} {r:(LI)} {p0:LI} {p1:LI} (h:Z5s p0 p1=some r)  :
    Calls Tryz.prog 327 [agg [u5' p0],agg [u5' p1]].toArray W (Z2d W (agg [u5' r])):=by
 unfold Z5s at h
 refine Z9 mo Z0rc rfl ?_
 refine Z0<|Z1<|Zc (Z03 (s:=[u5' p0]) rfl fun b1 u1=>Zc (Z03 (s:=[u5' p1]) rfl fun b2 u2=>Zc (Zs fun b3 u3=>Z2<|Z0<|oH h fun y1 f1 h=>oH h fun y2 f2 h=>Zj<|Zg _ (Z04 (p:=[u5' p0]) rfl .t2 rfl)<|Zg _ (Z04 (p:=[u5' p1]) rfl .t1 rfl)<|Z6 _ (Z1e rfl (Z7e f1))<|Z6 _ (Z1e rfl (Z2l f2))<|Z1n rfl (Zn (q:=[u5' y2]) rfl rfl rfl rfl rfl .here<|Zr<|Zd ?_))))
 revert h; refine Z00 fun h=>?_
 subst h
 exact ⟨_,(.cons (.agg rfl .here rfl) .nil),rfl⟩
def Z9n (p0:LI) (p1:LI) (p2:LI) (p3:LI):Option (Za) :=
 opt (Z0y p0 p1) fun y1 =>
 opt (Z0y p2 p3) fun y2 =>
 opt (Z0y p1 p2) fun y3 =>
 opt (Z0y p0 p3) fun y4 =>
 some (⟨y1,y2,y3,y4⟩:Za)
theorem Zfo {W:World} {r:Za} {p0:LI} {p1:LI} {p2:LI} {p3:LI} (h:Z9n p0 p1 p2 p3=some r)  :
    Calls Tryz.prog 328 [agg [u5' p0],agg [u5' p1],agg [u5' p2],agg [u5' p3]].toArray W (Z2d W (agg [u5' r.gX,u5' r.gY,u5' r.gZ,u5' r.gT])):=by
 unfold Z9n at h
 refine Z9 mo Z0rd rfl ?_
 refine Z0<|Z1<|Zc (Z03 (s:=[u5' p0]) rfl fun b1 u1=>Zc (Z03 (s:=[u5' p1]) rfl fun b2 u2=>Zc (Z03 (s:=[u5' p2]) rfl fun b3 u3=>Zc (Z03 (s:=[u5' p3]) rfl fun b4 u4=>Zc (Zs fun b5 u5=>Z2<|Z0<|oH h fun y1 f1 h=>oH h fun y2 f2 h=>oH h fun y3 f3 h=>oH h fun y4 f4 h=>Zj<|Zg _ (Z04 (p:=[u5' p0]) rfl .t4 rfl)<|Zg _ (Z04 (p:=[u5' p1]) rfl .t3 rfl)<|Z6 _ (Z1e rfl (Z0g f1))<|Zg _ (Z04 (p:=[u5' p2]) rfl .t2 rfl)<|Zg _ (Z04 (p:=[u5' p3]) rfl .t1 rfl)<|Z6 _ (Z1e rfl (Z0g f2))<|Zg _ (Z04 (p:=[u5' p1]) rfl .t3 rfl)<|Zg _ (Z04 (p:=[u5' p2]) rfl .t2 rfl)<|Z6 _ (Z1e rfl (Z0g f3))<|Zg _ (Z04 (p:=[u5' p0]) rfl .t4 rfl)<|Zg _ (Z04 (p:=[u5' p3]) rfl .t1 rfl)<|Z6 _ (Z1e rfl (Z0g f4))<|Z6 _ (Ze2 (q:=[u5' y1,u5' y2,u5' y3,u5' y4]) (.agg rfl rfl rfl (.agg rfl rfl rfl (.agg rfl rfl rfl (.agg rfl rfl rfl BdR.nil)))))<|Z1n rfl (Zn (q:=[u5' y1,u5' y2,u5' y3,u5' y4]) rfl rfl rfl rfl rfl .here<|Zr<|Zd ?_))))))
 revert h; refine Z00 fun h=>?_
 subst h
 exact ⟨_,(.cons (.agg rfl .here rfl) .nil),rfl⟩
def Zab:OL :=
 bnd (([1859910466990425,932731440258426,1072319116312658,1815898335770999,633789495995903]:LI)) fun z1 =>
 some z1
theorem Zkf {W:World} {r:(LI)} (h:Zab=some r)  :
    Calls Tryz.prog 329 [].toArray W (Z2d W (agg [u5' r])):=by
 unfold Zab at h
 refine Z9 mo Z0re rfl ?_
 refine Z0<|Z1<|Zc (Zs fun b1 u1=>Z2<|Z0<|bH h fun z1 e1 h=>Z1<|Z4 _ (az (fun z=>agg [.ints .u64 5 z]) e1 (Ze2 (.one rfl rfl rfl (.one rfl rfl rfl (.one rfl rfl rfl (.one rfl rfl rfl (.one rfl rfl rfl BdR.nil)))))))<|Zc (Zn (q:=[u5' z1]) rfl rfl rfl rfl rfl .here<|Z2<|Zd ?_))
 revert h; refine Z00 fun h=>?_
 subst h
 exact ⟨_,(.cons (.agg rfl .here rfl) .nil),rfl⟩
def Za8 (p0:Za) (p1:Za):Option (Za) :=
 opt (Z5s p0.gY p0.gX) fun y1 =>
 opt (Z5s p1.gY p1.gX) fun y2 =>
 opt (Z0y y1 y2) fun y3 =>
 opt (Z2v p0.gY p0.gX) fun y4 =>
 opt (Z2v p1.gY p1.gX) fun y5 =>
 opt (Z0y y4 y5) fun y6 =>
 opt (Zab) fun y7 =>
 opt (Z0y p0.gT y7) fun y8 =>
 opt (Z0y y8 p1.gT) fun y9 =>
 opt (Z2v p0.gZ p0.gZ) fun y10 =>
 opt (Z0y y10 p1.gZ) fun y11 =>
 opt (Z5s y6 y3) fun y12 =>
 opt (Z5s y11 y9) fun y13 =>
 opt (Z2v y11 y9) fun y14 =>
 opt (Z2v y6 y3) fun y15 =>
 opt (Z9n y12 y13 y14 y15) fun y16 =>
 some y16
theorem Zbz {W:World} {r:Za} {p0:Za} {p1:Za} (h:Za8 p0 p1=some r)  :
    Calls Tryz.prog 234 [agg [u5' p0.gX,u5' p0.gY,u5' p0.gZ,u5' p0.gT],agg [u5' p1.gX,u5' p1.gY,u5' p1.gZ,u5' p1.gT]].toArray W (Z2d W (agg [u5' r.gX,u5' r.gY,u5' r.gZ,u5' r.gT])):=by
 unfold Za8 at h
 refine Z9 mo Z0pz rfl ?_
 refine Z0<|Z1<|Zc (Z03 (s:=[u5' p0.gX,u5' p0.gY,u5' p0.gZ,u5' p0.gT]) rfl fun b1 u1=>Zc (Z03 (s:=[u5' p1.gX,u5' p1.gY,u5' p1.gZ,u5' p1.gT]) rfl fun b2 u2=>Zc (Zs fun b3 u3=>Z2<|Z0<|oH h fun y1 f1 h=>oH h fun y2 f2 h=>oH h fun y3 f3 h=>Zj<|Z6 _ (Z1u rfl)<|Z6 _ (Z1u rfl)<|Z6 _ (Z1u rfl)<|Z6 _ (Z1u rfl)<|Zg _ (Z04 (p:=[u5' p0.gY]) rfl .t2 rfl)<|Zg _ (Z04 (p:=[u5' p0.gX]) rfl .t2 rfl)<|Z6 _ (Z1e rfl (Z5y f1))<|Zg _ (Z04 (p:=[u5' p1.gY]) rfl .t1 rfl)<|Zg _ (Z04 (p:=[u5' p1.gX]) rfl .t1 rfl)<|Z6 _ (Z1e rfl (Z5y f2))<|Z6 _ (Z1e rfl (Z0g f3))<|Z2c (Zs fun b4 u4=>⟨(by repeat (first | exact Sup.refl _ | apply Sup.cons | apply Sup.app)),Z1n rfl (Zn (q:=[u5' y3]) rfl rfl rfl rfl rfl .here (Zr (Z0 (oH h fun y4 f4 h=>oH h fun y5 f5 h=>oH h fun y6 f6 h=>Zj (Z6 _ (Z1u rfl) (Z6 _ (Z1u rfl) (Z6 _ (Z1u rfl) (Z6 _ (Z1u rfl) (Zg _ (Z04 (p:=[u5' p0.gY]) rfl .t3 rfl) (Zg _ (Z04 (p:=[u5' p0.gX]) rfl .t3 rfl) (Z6 _ (Z1e rfl (Z2l f4)) (Zg _ (Z04 (p:=[u5' p1.gY]) rfl .t2 rfl) (Zg _ (Z04 (p:=[u5' p1.gX]) rfl .t2 rfl) (Z6 _ (Z1e rfl (Z2l f5)) (Z6 _ (Z1e rfl (Z0g f6)) (Z2c (Zs fun b5 u5=>⟨(by repeat (first | exact Sup.refl _ | apply Sup.cons | apply Sup.app)),Z1n rfl (Zn (q:=[u5' y6]) rfl rfl rfl rfl rfl .here (Zr (Z0 (oH h fun y7 f7 h=>Z1 (Z4 _ (Z1e rfl (Zkf f7)) (Zc (Zs fun b6 u6=>Zc (Zn (q:=[u5' y7]) rfl rfl rfl rfl rfl .here (Z2 (Z0 (oH h fun y8 f8 h=>oH h fun y9 f9 h=>Zj (Z6 _ (Z1u rfl) (Z6 _ (Z1u rfl) (Zg _ (Z04 (p:=[u5' p0.gT]) rfl .t5 rfl) (Zg _ (Z04 (p:=[u5' y7]) rfl .here rfl) (Z6 _ (Z1e rfl (Z0g f8)) (Zg _ (Z04 (p:=[u5' p1.gT]) rfl .t4 rfl) (Z6 _ (Z1e rfl (Z0g f9)) (Z2c (Zs fun b7 u7=>⟨(by repeat (first | exact Sup.refl _ | apply Sup.cons | apply Sup.app)),Z1n rfl (Zn (q:=[u5' y9]) rfl rfl rfl rfl rfl .here (Zr (Z0 (oH h fun y10 f10 h=>oH h fun y11 f11 h=>Zj (Z6 _ (Z1u rfl) (Z6 _ (Z1u rfl) (Z6 _ (Z1u rfl) (Zg _ (Z04 (p:=[u5' p0.gZ]) rfl .t6 rfl) (Zg _ (Z04 (p:=[u5' p0.gZ]) rfl .t6 rfl) (Z6 _ (Z1e rfl (Z2l f10)) (Zg _ (Z04 (p:=[u5' p1.gZ]) rfl .t5 rfl) (Z6 _ (Z1e rfl (Z0g f11)) (Z2c (Zs fun b8 u8=>⟨(by repeat (first | exact Sup.refl _ | apply Sup.cons | apply Sup.app)),Z1n rfl (Zn (q:=[u5' y11]) rfl rfl rfl rfl rfl .here (Zr (Z0 (oH h fun y12 f12 h=>oH h fun y13 f13 h=>oH h fun y14 f14 h=>oH h fun y15 f15 h=>oH h fun y16 f16 h=>Zj (Zg _ (Z04 (p:=[u5' y6]) rfl .t3 rfl) (Zg _ (Z04 (p:=[u5' y3]) rfl .t4 rfl) (Z6 _ (Z1e rfl (Z5y f12)) (Zg _ (Z04 (p:=[u5' y11]) rfl .here rfl) (Zg _ (Z04 (p:=[u5' y9]) rfl .t1 rfl) (Z6 _ (Z1e rfl (Z5y f13)) (Zg _ (Z04 (p:=[u5' y11]) rfl .here rfl) (Zg _ (Z04 (p:=[u5' y9]) rfl .t1 rfl) (Z6 _ (Z1e rfl (Z2l f14)) (Zg _ (Z04 (p:=[u5' y6]) rfl .t3 rfl) (Zg _ (Z04 (p:=[u5' y3]) rfl .t4 rfl) (Z6 _ (Z1e rfl (Z2l f15)) (Z6 _ (Z1e rfl (Zfo f16)) (Z1n rfl (Zn (q:=[u5' y16.gX,u5' y16.gY,u5' y16.gZ,u5' y16.gT]) rfl rfl rfl rfl rfl .t5 (Zr (Zd ?_)))))))))))))))))))))⟩))))))))))))))⟩))))))))))))))))))))⟩)))))))))))))))))⟩))))
 revert h; refine Z00 fun h=>?_
 subst h
 exact ⟨_,(.cons (.agg rfl .t5 rfl) .nil),rfl⟩
abbrev Zi:El (Za):=⟨20,fun x=>cells [u5' x.gX,u5' x.gY,u5' x.gZ,u5' x.gT],fun x=>by rw [cells_length]; rfl,fun x=>(Z0r Zak (Z0r Zak (Z0r Zak (Z0r Zak Z43)))),by decide,Z1a⟩
def Z3z (p0:Za) (k1:(List (Za))->Option ((List (Za)))) (k2:Int->(List (Za))->Option ((List (Za)))) (i1:Int) (a1:List (Za)):Option ((List (Za))) :=
 br ((decide (i1<15))) (
 bnd (wrap .i64 (i1+1)) fun z1 =>
 chk (inB i1 16) <|
 bnd (a1.getD (i1).toNat Z1a) fun x1 =>
 opt (Za8 x1 p0) fun y1 =>
 chk (inB z1 16) <|
 bnd (Zkv Z1a a1 (z1).toNat y1) fun l1 =>
 bnd (wrap .i64 (i1+1)) fun z2 =>
 k2 z2 l1
 ) (
 k1 a1
 )
def Z2g (p0:Za) (k1:(List (Za))->Option ((List (Za)))):Nat->Int->(List (Za))->Option ((List (Za)))
  | 0,_,_=>none
  | n+1,i1,a1=>Z3z p0 k1 (Z2g p0 k1 n) i1 a1
def Z4u (p0:Za):Option ((List (Za))) :=
 opt (Zba) fun y1 =>
 bnd (Zkv Z1a (replicate 16 Z1a) 0 y1) fun l1 =>
 jn (fun (a1:List (Za))=>some a1) fun k1=>Z2g p0 k1 big 0 l1
theorem Z8u {W:World} {r:(List (Za))} {p0:Za} (h:Z4u p0=some r)  :
    Calls Tryz.prog 231 [agg [u5' p0.gX,u5' p0.gY,u5' p0.gZ,u5' p0.gT]].toArray W (Z2d W (agg [.rows 20 16 (Zax Zi (r))])):=by
 unfold Z4u at h
 refine Z9 mo Z0pw rfl ?_
 refine Z0<|Z1<|Zc (Z03 (s:=[u5' p0.gX,u5' p0.gY,u5' p0.gZ,u5' p0.gT]) rfl fun b1 u1=>Zc (Zlu (z':=[.rows 20 16 (Zax Zi ((replicate 16 Z1a)))]) (Zeq (E:=Zi) rfl rfl) fun b2 u2=>Z2<|Z0<|Z1<|Zc (Zlu (z':=[.rows 20 16 (Zax Zi ((replicate 16 Z1a)))]) (Zeq (E:=Zi) rfl rfl) fun b3 u3=>Z2<|Z0<|oH h fun y1 f1 h=>bH h fun l1 g1 h=>Z1<|Z4 _ (Z06 (vs:=[]) (v:=agg [u5' y1.gX,u5' y1.gY,u5' y1.gZ,u5' y1.gT]) rfl (fun w hw=>Zdt (r:=y1) f1 ))<|Z4 _ (Z3f rfl rfl (by decide))<|Zc (Zt3 (q:=[.rows 20 16 (Zax Zi (l1))]) (E:=Zi) (base:=0) (i:=0) (len:=16) g1 rfl rfl rfl rfl (by decide) rfl .here<|Z2<|Z0<|Z0<|Z1<|Z7 rfl<|Z2<|jH h fun k1 q1 h=>Zq (G:=fun t m=>∃ (a1:List (Za)),k1 a1=some r/\Fit [(2,pt' b2),(3,pt' b3)] (ck b3 351 [.rows 20 16 (Zax Zi (a1))]::(ck b2 351 [.rows 20 16 (Zax Zi ((replicate 16 Z1a)))]::(ck b1 126 [u5' p0.gX,u5' p0.gY,u5' p0.gZ,u5' p0.gT] :: []))) t m) ?_ ?_))))
 ·refine Zf<|Z0e (fun n1 t m=>∃ (i1:Int) (a2:List (Za)),Z2g p0 k1 n1 i1 a2=some r/\Fit [(1,pt' b1),(2,pt' b2),(3,pt' b3),(7,.int .i64 (i1))] (ck b3 351 [.rows 20 16 (Zax Zi (a2))]::(ck b2 351 [.rows 20 16 (Zax Zi ((replicate 16 Z1a)))]::(ck b1 126 [u5' p0.gX,u5' p0.gY,u5' p0.gZ,u5' p0.gT] :: []))) t m) big ?_ ?_
  ·exact ⟨0,l1,h,⟨⟨rfl,rfl,rfl,rfl,trivial⟩,(.o (.o (.o .nil)))⟩⟩
  ·rintro n1 t m ⟨i1,a2,h,hF⟩
   refine Zo hF ?_
   clear hF
   rcases n1 with _ | n1
   · exact Z1v h
   have h:Z3z p0 k1 (Z2g p0 k1 n1) i1 a2=some r:=h
   unfold Z3z at h
   obtain ⟨k2,q2⟩ : ∃ k,k=Z2g p0 k1 n1:=⟨_,rfl⟩
   try rw [<- q2] at h
   refine Z0<|Z1<|Z4 _ (Zb rfl rfl rfl)<|Z2<|Z0<|Z0w h rfl (fun h=>?_) (fun h=>?_)
   ·refine Zy<|Z0<|Zf<|Z0<|Z1<|Z7 rfl<|Z7 rfl<|Z2<|bH h fun z1 e1 h=>cH h fun c1 h=>bH h fun x1 j1 h=>oH h fun y2 f2 h=>cH h fun c2 h=>bH h fun l2 g2 h=>Zj<|Z6 _ (Z09 rfl)<|Z6 _ (iz e1 (Zb rfl rfl rfl))<|Z6 _ (Z09 rfl)<|Z6 _ (Z3f rfl rfl (Z1y c1))<|Zg _ (az (fun x1=>agg [u5' x1.gX,u5' x1.gY,u5' x1.gZ,u5' x1.gT]) j1 (Zrv (base:=0) (w:=20) rfl .here rfl (Z1k c1) rfl rfl rfl))<|Zg _ (Z04 (p:=[u5' p0.gX,u5' p0.gY,u5' p0.gZ,u5' p0.gT]) rfl .t2 rfl)<|Z6 _ (Z06 (vs:=[agg [u5' x1.gX,u5' x1.gY,u5' x1.gZ,u5' x1.gT],agg [u5' p0.gX,u5' p0.gY,u5' p0.gZ,u5' p0.gT]]) (v:=agg [u5' y2.gX,u5' y2.gY,u5' y2.gZ,u5' y2.gT]) rfl (fun w hw=>Zbz (r:=y2) (p0:=x1) (p1:=p0) f2 ))<|Z6 _ (Z3f rfl rfl (Z1y c2))<|Z1n rfl (Zt3 (q:=[.rows 20 16 (Zax Zi (l2))]) (E:=Zi) (base:=0) g2 rfl rfl rfl rfl (Z1k c2) rfl .here<|Zr<|bH h fun z2 e2 h=>Z1<|Z4 _ (iz e2 (Zb rfl rfl rfl))<|Z7 rfl<|Z2 ?_)
    rw [q2] at h
    exact ⟨n1,Nat.lt_succ_self _,z2,l2,h,⟨⟨rfl,rfl,rfl,rfl,trivial⟩,(.o (.o (.o .nil)))⟩⟩
   ·exact Z0o _ rfl<|⟨a2,h,⟨⟨rfl,rfl,trivial⟩,(.o (.o (.o .nil)))⟩⟩
 ·rintro t m ⟨a1,h,hF⟩
  refine Zo hF ?_
  clear hF
  subst q1
  refine Z0<|Z1<|Z4 _ (Z04 (p:=[.rows 20 16 (Zax Zi (a1))]) rfl .here (by kernel_rfl))<|Zc (Zd3 (p:=[.rows 20 16 (Zax Zi (a1))]) (q:=[.rows 20 16 (Zax Zi (a1))]) rfl rfl (by kernel_rfl) (by kernel_rfl) (Z0r (Zfw (E:=Zi)) Z43) .t1<|Z2<|Zd ?_)
  revert h; refine Z00 fun h=>?_
  subst h
  exact ⟨_,(.cons (.agg rfl .t1 rfl) .nil),rfl⟩
def Z7y (p0:Za):Option (Za) :=
 opt (Z1o p0.gX) fun y1 =>
 opt (Z1o p0.gY) fun y2 =>
 opt (Z1o p0.gZ) fun y3 =>
 opt (Z2v y1 y2) fun y4 =>
 opt (Z2v p0.gX p0.gY) fun y5 =>
 opt (Z1o y5) fun y6 =>
 opt (Z5s y4 y6) fun y7 =>
 opt (Z5s y1 y2) fun y8 =>
 opt (Z2v y3 y3) fun y9 =>
 opt (Z2v y9 y8) fun y10 =>
 opt (Z9n y7 y10 y8 y4) fun y11 =>
 some y11
theorem Zfm {W:World} {r:Za} {p0:Za} (h:Z7y p0=some r)  :
    Calls Tryz.prog 233 [agg [u5' p0.gX,u5' p0.gY,u5' p0.gZ,u5' p0.gT]].toArray W (Z2d W (agg [u5' r.gX,u5' r.gY,u5' r.gZ,u5' r.gT])):=by
 unfold Z7y at h
 refine Z9 mo Z0py rfl ?_
 refine Z0<|Z1<|Zc (Z03 (s:=[u5' p0.gX,u5' p0.gY,u5' p0.gZ,u5' p0.gT]) rfl fun b1 u1=>Zc (Zs fun b2 u2=>Z2<|Z0<|oH h fun y1 f1 h=>Z1<|Z4 _ (Z1u rfl)<|Z4 _ (Z04 (p:=[u5' p0.gX]) rfl .t1 rfl)<|Z4 _ (Z1e rfl (Z28 f1))<|Zc (Zs fun b3 u3=>Zc (Zn (q:=[u5' y1]) rfl rfl rfl rfl rfl .here<|Z2<|Z0<|oH h fun y2 f2 h=>Z1<|Z4 _ (Z1u rfl)<|Z4 _ (Z04 (p:=[u5' p0.gY]) rfl .t2 rfl)<|Z4 _ (Z1e rfl (Z28 f2))<|Zc (Zs fun b4 u4=>Zc (Zn (q:=[u5' y2]) rfl rfl rfl rfl rfl .here<|Z2<|Z0<|oH h fun y3 f3 h=>Z1<|Z4 _ (Z1u rfl)<|Z4 _ (Z04 (p:=[u5' p0.gZ]) rfl .t3 rfl)<|Z4 _ (Z1e rfl (Z28 f3))<|Zc (Zs fun b5 u5=>Zc (Zn (q:=[u5' y3]) rfl rfl rfl rfl rfl .here<|Z2<|Z0<|oH h fun y4 f4 h=>Z1<|Z4 _ (Z04 (p:=[u5' y1]) rfl .t2 rfl)<|Z4 _ (Z04 (p:=[u5' y2]) rfl .t1 rfl)<|Z4 _ (Z1e rfl (Z2l f4))<|Zc (Zs fun b6 u6=>Zc (Zn (q:=[u5' y4]) rfl rfl rfl rfl rfl .here<|Z2<|Z0<|oH h fun y5 f5 h=>oH h fun y6 f6 h=>oH h fun y7 f7 h=>Zj<|Z6 _ (Z1u rfl)<|Z6 _ (Z1u rfl)<|Zg _ (Z04 (p:=[u5' y4]) rfl .here rfl)<|Zg _ (Z04 (p:=[u5' p0.gX]) rfl .t5 rfl)<|Zg _ (Z04 (p:=[u5' p0.gY]) rfl .t5 rfl)<|Z6 _ (Z1e rfl (Z2l f5))<|Z6 _ (Z1e rfl (Z28 f6))<|Z6 _ (Z1e rfl (Z5y f7))<|Z2c (Zs fun b7 u7=>⟨(by repeat (first | exact Sup.refl _ | apply Sup.cons | apply Sup.app)),Z1n rfl (Zn (q:=[u5' y7]) rfl rfl rfl rfl rfl .here (Zr (Z0 (oH h fun y8 f8 h=>Z1 (Z4 _ (Z04 (p:=[u5' y1]) rfl .t4 rfl) (Z4 _ (Z04 (p:=[u5' y2]) rfl .t3 rfl) (Z4 _ (Z1e rfl (Z5y f8)) (Zc (Zs fun b8 u8=>Zc (Zn (q:=[u5' y8]) rfl rfl rfl rfl rfl .here (Z2 (Z0 (oH h fun y9 f9 h=>oH h fun y10 f10 h=>Zj (Zg _ (Z04 (p:=[u5' y3]) rfl .t3 rfl) (Zg _ (Z04 (p:=[u5' y3]) rfl .t3 rfl) (Z6 _ (Z1e rfl (Z2l f9)) (Zg _ (Z04 (p:=[u5' y8]) rfl .here rfl) (Z6 _ (Z1e rfl (Z2l f10)) (Z2c (Zs fun b9 u9=>⟨(by repeat (first | exact Sup.refl _ | apply Sup.cons | apply Sup.app)),Z1n rfl (Zn (q:=[u5' y10]) rfl rfl rfl rfl rfl .here (Zr (Z0 (oH h fun y11 f11 h=>Z1 (Z4 _ (Z04 (p:=[u5' y7]) rfl .t2 rfl) (Z4 _ (Z04 (p:=[u5' y10]) rfl .here rfl) (Z4 _ (Z04 (p:=[u5' y8]) rfl .t1 rfl) (Z4 _ (Z04 (p:=[u5' y4]) rfl .t3 rfl) (Z4 _ (Z1e rfl (Zfo f11)) (Zc (Zn (q:=[u5' y11.gX,u5' y11.gY,u5' y11.gZ,u5' y11.gT]) rfl rfl rfl rfl rfl .t7 (Z2 (Zd ?_)))))))))))))⟩))))))))))))))))))))⟩)))))))))))
 revert h; refine Z00 fun h=>?_
 subst h
 exact ⟨_,(.cons (.agg rfl .t7 rfl) .nil),rfl⟩
def Z7z (p0:LI) (p1:Int):Option Int :=
 bnd (wrap .i64 (Int.tdiv p1 2)) fun z1 =>
 bnd (wrap .i64 (31-z1)) fun z2 =>
 chk (inB z2 32) <|
 bnd (p0.getD (z2).toNat 0) fun z3 =>
 bnd (Int.tmod p1 2) fun z4 =>
 bnd (wrap .i64 (1-z4)) fun z5 =>
 bnd (wrap .i64 (4*z5)) fun z6 =>
 chk (decide (0<=z6)) <|
 bnd (Zt .u8 z3 z6) fun z7 =>
 bnd (Z8 .and .u8 z7 15) fun z8 =>
 some z8
theorem Zbb {W:World} {r:Int} {p0:LI} {p1:Int} (h:Z7z p0 p1=some r)  :
    Calls Tryz.prog 235 [agg [b3' p0],.int .i64 (p1)].toArray W (Z2d W (.int .u8 (r))):=by
 unfold Z7z at h
 refine Z9 mo Z0q0 rfl ?_
 refine Z0<|Z1<|Zc (Z03 (s:=[b3' p0]) rfl fun b1 u1=>Z7 rfl<|Z2<|Z0<|bH h fun z1 e1 h=>bH h fun z2 e2 h=>cH h fun c1 h=>bH h fun z3 e3 h=>bH h fun z4 e4 h=>bH h fun z5 e5 h=>bH h fun z6 e6 h=>cH h fun c2 h=>bH h fun z7 e7 h=>bH h fun z8 e8 h=>Z1<|Z7 rfl<|Z4 _ (iz e1 (Zq9 rfl rfl (by decide)))<|Z4 _ (iz e2 (Zb rfl rfl rfl))<|Z4 _ (Z3f rfl rfl (Z1y c1))<|Z4 _ (iz e3 (Za3 (base:=0) rfl .here rfl (Z1k c1)))<|Z7 rfl<|Z4 _ (iz e4 (Zlh rfl rfl (by decide)))<|Z4 _ (iz e5 (Zb rfl rfl rfl))<|Z4 _ (iz e6 (Zb rfl rfl rfl))<|Z4 _ (iz e7 (Z9g rfl rfl (of_decide_eq_true c2)))<|Z4 _ (iz e8 (Zb rfl rfl rfl))<|Z7 rfl<|Z2<|Zd ?_)
 revert h; refine Z00 fun h=>?_
 subst h
 exact ⟨_,(.cons (.tmp rfl) .nil),rfl⟩
def Zcc (k1:(LI)->(LI)->(LI)->(LI)->Option (Za)) (k2:Int->(LI)->(LI)->(LI)->(LI)->Option (Za)) (i1:Int) (a1:LI) (a2:LI) (a3:LI) (a4:LI):Option (Za) :=
 br ((decide (i1<4))) (
 opt (Z7y (⟨a1,a2,a3,a4⟩:Za)) fun y1 =>
 bnd (wrap .i64 (i1+1)) fun z1 =>
 k2 z1 y1.gX y1.gY y1.gZ y1.gT
 ) (
 k1 a1 a2 a3 a4
 )
def Z4n (k1:(LI)->(LI)->(LI)->(LI)->Option (Za)):Nat->Int->(LI)->(LI)->(LI)->(LI)->Option (Za)
  | 0,_,_,_,_,_=>none
  | n+1,i1,a1,a2,a3,a4=>Zcc k1 (Z4n k1 n) i1 a1 a2 a3 a4
def Zcb (p0:LI) (y1:(List (Za))) (k1:(LI)->(LI)->(LI)->(LI)->Option (Za)) (k2:Int->(LI)->(LI)->(LI)->(LI)->Option (Za)) (i1:Int) (a1:LI) (a2:LI) (a3:LI) (a4:LI):Option (Za) :=
 br ((decide (i1<64))) (
 jn (fun (a5:LI) (a6:LI) (a7:LI) (a8:LI)=>opt (Z7z p0 i1) fun y2 =>
 chk (inB y2 16) <|
 bnd (y1.getD (y2).toNat Z1a) fun x1 =>
 opt (Za8 (⟨a5,a6,a7,a8⟩:Za) x1) fun y3 =>
 bnd (wrap .i64 (i1+1)) fun z1 =>
 k2 z1 y3.gX y3.gY y3.gZ y3.gT) fun k3=>Z4n k3 big 0 a1 a2 a3 a4
 ) (
 k1 a1 a2 a3 a4
 )
def Z6s (p0:LI) (y1:(List (Za))) (k1:(LI)->(LI)->(LI)->(LI)->Option (Za)):Nat->Int->(LI)->(LI)->(LI)->(LI)->Option (Za)
  | 0,_,_,_,_,_=>none
  | n+1,i1,a1,a2,a3,a4=>Zcb p0 y1 k1 (Z6s p0 y1 k1 n) i1 a1 a2 a3 a4
def Zhs (p0:LI) (p1:Za):Option (Za) :=
 opt (Z4u p1) fun y1 =>
 opt (Zba) fun y2 =>
 jn (fun (a1:LI) (a2:LI) (a3:LI) (a4:LI)=>some (⟨a1,a2,a3,a4⟩:Za)) fun k1=>Z6s p0 y1 k1 big 0 y2.gX y2.gY y2.gZ y2.gT
theorem Zoh {W:World} {r:Za} {p0:LI} {p1:Za} (h:Zhs p0 p1=some r)  :
    Calls Tryz.prog 117 [agg [b3' p0],agg [u5' p1.gX,u5' p1.gY,u5' p1.gZ,u5' p1.gT]].toArray W (Z2d W (agg [u5' r.gX,u5' r.gY,u5' r.gZ,u5' r.gT])):=by
 unfold Zhs at h
 refine Z9 mo Z0ny rfl ?_
 refine Z0<|Z1<|Zc (Z03 (s:=[b3' p0]) rfl fun b1 u1=>Zc (Z03 (s:=[u5' p1.gX,u5' p1.gY,u5' p1.gZ,u5' p1.gT]) rfl fun b2 u2=>Zc (Zs fun b3 u3=>Z2<|Z0<|oH h fun y1 f1 h=>Z1<|Z4 _ (Z04 (p:=[u5' p1.gX,u5' p1.gY,u5' p1.gZ,u5' p1.gT]) rfl .t1 rfl)<|Z4 _ (Z1e rfl (Z8u f1))<|Zc (Zlu (z':=[.rows 20 16 (Zax Zi ((replicate 16 Z1a)))]) (Zeq (E:=Zi) rfl rfl) fun b4 u4=>Zc (Zd3 (p:=[.rows 20 16 (Zax Zi (y1))]) (q:=[.rows 20 16 (Zax Zi (y1))]) rfl rfl (by kernel_rfl) (by kernel_rfl) (Z0r (Zfw (E:=Zi)) Z43) .here<|Z2<|Z0<|oH h fun y2 f2 h=>Z1<|Z4 _ (Z06 (vs:=[]) (v:=agg [u5' y2.gX,u5' y2.gY,u5' y2.gZ,u5' y2.gT]) rfl (fun w hw=>Zdt (r:=y2) f2 ))<|Zc (Zs fun b5 u5=>Zc (Zn (q:=[u5' y2.gX,u5' y2.gY,u5' y2.gZ,u5' y2.gT]) rfl rfl rfl rfl rfl .here<|Z2<|Z0<|Z0<|Z1<|Z7 rfl<|Z2<|jH h fun k1 q1 h=>Zq (G:=fun t m=>∃ (a1:LI) (a2:LI) (a3:LI) (a4:LI),k1 a1 a2 a3 a4=some r/\Fit [(4,pt' b3),(6,pt' b5)] (ck b5 126 [u5' a1,u5' a2,u5' a3,u5' a4]::(ck b4 351 [.rows 20 16 (Zax Zi (y1))]::(ck b3 126 [u5' (replicate 5 0),u5' (replicate 5 0),u5' (replicate 5 0),u5' (replicate 5 0)]::(ck b2 126 [u5' p1.gX,u5' p1.gY,u5' p1.gZ,u5' p1.gT]::(ck b1 118 [b3' p0] :: []))))) t m) ?_ ?_)))))))
 ·refine Zf<|Z0e (fun n1 t m=>∃ (i1:Int) (a5:LI) (a6:LI) (a7:LI) (a8:LI),Z6s p0 y1 k1 n1 i1 a5 a6 a7 a8=some r/\Fit [(2,pt' b1),(4,pt' b3),(5,pt' b4),(6,pt' b5),(11,.int .i64 (i1))] (ck b5 126 [u5' a5,u5' a6,u5' a7,u5' a8]::(ck b4 351 [.rows 20 16 (Zax Zi (y1))]::(ck b3 126 [u5' (replicate 5 0),u5' (replicate 5 0),u5' (replicate 5 0),u5' (replicate 5 0)]::(ck b2 126 [u5' p1.gX,u5' p1.gY,u5' p1.gZ,u5' p1.gT]::(ck b1 118 [b3' p0] :: []))))) t m) big ?_ ?_
  ·exact ⟨0,y2.gX,y2.gY,y2.gZ,y2.gT,h,⟨⟨rfl,rfl,rfl,rfl,rfl,trivial⟩,(.o (.o (.o (.o (.o .nil)))))⟩⟩
  ·rintro n1 t m ⟨i1,a5,a6,a7,a8,h,hF⟩
   refine Zo hF ?_
   clear hF
   rcases n1 with _ | n1
   · exact Z1v h
   have h:Zcb p0 y1 k1 (Z6s p0 y1 k1 n1) i1 a5 a6 a7 a8=some r:=h
   unfold Zcb at h
   obtain ⟨k2,q2⟩ : ∃ k,k=Z6s p0 y1 k1 n1:=⟨_,rfl⟩
   try rw [<- q2] at h
   refine Z0<|Z1<|Z4 _ (Zb rfl rfl rfl)<|Z2<|Z0<|Z0w h rfl (fun h=>?_) (fun h=>?_)
   ·refine Zy<|Z0<|Zf<|Z0<|Z1<|Z7 rfl<|Z7 rfl<|Z2<|Z0<|Z0<|Z1<|Z7 rfl<|Z2<|jH h fun k3 q3 h=>Zq (G:=fun t m=>∃ (a9:LI) (a10:LI) (a11:LI) (a12:LI),k3 a9 a10 a11 a12=some r/\Fit [(2,pt' b1),(4,pt' b3),(5,pt' b4),(6,pt' b5),(7,.int .i64 (i1)),(11,.int .i64 (i1))] (ck b5 126 [u5' a9,u5' a10,u5' a11,u5' a12]::(ck b4 351 [.rows 20 16 (Zax Zi (y1))]::(ck b3 126 [u5' (replicate 5 0),u5' (replicate 5 0),u5' (replicate 5 0),u5' (replicate 5 0)]::(ck b2 126 [u5' p1.gX,u5' p1.gY,u5' p1.gZ,u5' p1.gT]::(ck b1 118 [b3' p0] :: []))))) t m) ?_ ?_
    ·refine Zf<|Z0e (fun n2 t m=>∃ (i2:Int) (a13:LI) (a14:LI) (a15:LI) (a16:LI),Z4n k3 n2 i2 a13 a14 a15 a16=some r/\Fit [(2,pt' b1),(4,pt' b3),(5,pt' b4),(6,pt' b5),(7,.int .i64 (i1)),(11,.int .i64 (i1)),(14,.int .i64 (i2))] (ck b5 126 [u5' a13,u5' a14,u5' a15,u5' a16]::(ck b4 351 [.rows 20 16 (Zax Zi (y1))]::(ck b3 126 [u5' (replicate 5 0),u5' (replicate 5 0),u5' (replicate 5 0),u5' (replicate 5 0)]::(ck b2 126 [u5' p1.gX,u5' p1.gY,u5' p1.gZ,u5' p1.gT]::(ck b1 118 [b3' p0] :: []))))) t m) big ?_ ?_
     ·exact ⟨0,a5,a6,a7,a8,h,⟨⟨rfl,rfl,rfl,rfl,rfl,rfl,rfl,trivial⟩,(.o (.o (.o (.o (.o .nil)))))⟩⟩
     ·rintro n2 t m ⟨i2,a13,a14,a15,a16,h,hF⟩
      refine Zo hF ?_
      clear hF
      rcases n2 with _ | n2
      · exact Z1v h
      have h:Zcc k3 (Z4n k3 n2) i2 a13 a14 a15 a16=some r:=h
      unfold Zcc at h
      obtain ⟨k4,q4⟩ : ∃ k,k=Z4n k3 n2:=⟨_,rfl⟩
      try rw [<- q4] at h
      refine Z0<|Z1<|Z4 _ (Zb rfl rfl rfl)<|Z2<|Z0<|Z0w h rfl (fun h=>?_) (fun h=>?_)
      ·refine Zy<|Z0<|Zf<|oH h fun y3 f3 h=>Z1<|Z4 _ (Z04 (p:=[u5' a13,u5' a14,u5' a15,u5' a16]) rfl .here rfl)<|Z4 _ (Z06 (vs:=[agg [u5' a13,u5' a14,u5' a15,u5' a16]]) (v:=agg [u5' y3.gX,u5' y3.gY,u5' y3.gZ,u5' y3.gT]) rfl (fun w hw=>Zfm (r:=y3) (p0:=(⟨a13,a14,a15,a16⟩:Za)) f3 ))<|Zc (Zn (q:=[u5' y3.gX,u5' y3.gY,u5' y3.gZ,u5' y3.gT]) rfl rfl rfl rfl rfl .here<|Z2<|bH h fun z1 e1 h=>Z1<|Z4 _ (iz e1 (Zb rfl rfl rfl))<|Z7 rfl<|Z2 ?_)
       rw [q4] at h
       exact ⟨n2,Nat.lt_succ_self _,z1,y3.gX,y3.gY,y3.gZ,y3.gT,h,⟨⟨rfl,rfl,rfl,rfl,rfl,rfl,rfl,trivial⟩,(.o (.o (.o (.o (.o .nil)))))⟩⟩
      ·exact Z0o _ rfl<|⟨a13,a14,a15,a16,h,⟨⟨rfl,rfl,rfl,rfl,rfl,rfl,trivial⟩,(.o (.o (.o (.o (.o .nil)))))⟩⟩
    ·rintro t m ⟨a9,a10,a11,a12,h,hF⟩
     refine Zo hF ?_
     clear hF
     subst q3
     refine oH h fun y4 f4 h=>cH h fun c1 h=>bH h fun x1 j1 h=>oH h fun y5 f5 h=>Zj<|Z6 _ (Z09 rfl)<|Zg _ (Z04 (p:=[u5' a9,u5' a10,u5' a11,u5' a12]) rfl .here rfl)<|Zg _ (Z04 (p:=[b3' p0]) rfl .t4 rfl)<|Z6 _ (Z06 (vs:=[agg [b3' p0],.int .i64 (i1)]) (v:=.int .u8 (y4)) rfl (fun w hw=>Zbb (r:=y4) (p0:=p0) (p1:=i1) f4 ))<|Z6 _ (Z3f rfl rfl (Z1y c1))<|Zg _ (az (fun x1=>agg [u5' x1.gX,u5' x1.gY,u5' x1.gZ,u5' x1.gT]) j1 (Zrv (base:=0) (w:=20) rfl .t1 rfl (Z1k c1) rfl rfl rfl))<|Z6 _ (Z06 (vs:=[agg [u5' a9,u5' a10,u5' a11,u5' a12],agg [u5' x1.gX,u5' x1.gY,u5' x1.gZ,u5' x1.gT]]) (v:=agg [u5' y5.gX,u5' y5.gY,u5' y5.gZ,u5' y5.gT]) rfl (fun w hw=>Zbz (r:=y5) (p0:=(⟨a9,a10,a11,a12⟩:Za)) (p1:=x1) f5 ))<|Z1n rfl (Zn (q:=[u5' y5.gX,u5' y5.gY,u5' y5.gZ,u5' y5.gT]) rfl rfl rfl rfl rfl .here<|Zr<|bH h fun z2 e2 h=>Z1<|Z4 _ (iz e2 (Zb rfl rfl rfl))<|Z7 rfl<|Z2 ?_)
     rw [q2] at h
     exact ⟨n1,Nat.lt_succ_self _,z2,y5.gX,y5.gY,y5.gZ,y5.gT,h,⟨⟨rfl,rfl,rfl,rfl,rfl,trivial⟩,(.o (.o (.o (.o (.o .nil)))))⟩⟩
   ·exact Z0o _ rfl<|⟨a5,a6,a7,a8,h,⟨⟨rfl,rfl,trivial⟩,(.o (.o (.o (.o (.o .nil)))))⟩⟩
 ·rintro t m ⟨a1,a2,a3,a4,h,hF⟩
  refine Zo hF ?_
  clear hF
  subst q1
  refine Z0<|Z1<|Z4 _ (Z04 (p:=[u5' a1,u5' a2,u5' a3,u5' a4]) rfl .here rfl)<|Zc (Zn (q:=[u5' a1,u5' a2,u5' a3,u5' a4]) rfl rfl rfl rfl rfl .t2<|Z2<|Zd ?_)
  revert h; refine Z00 fun h=>?_
  subst h
  exact ⟨_,(.cons (.agg rfl .t2 rfl) .nil),rfl⟩
def Zae (p0:LI) (k1:(LI)->OL) (k2:Int->(LI)->OL) (i1:Int) (a1:LI):OL :=
 br ((decide (i1<32))) (
 jn (fun (a2:LI)=>bnd (wrap .i64 (i1+1)) fun z1 =>
 k2 z1 a2) fun k3=>chk (inB i1 32) <|
 bnd (p0.getD (i1).toNat 0) fun z2 =>
 jn (fun (i2:Int)=>bnd (wrap .i64 (8*i1)) fun z3 =>
 bnd (wrap .i64 (Int.tdiv z3 51)) fun z4 =>
 bnd (wrap .i64 (8*i1)) fun z5 =>
 bnd (Int.tmod z5 51) fun z6 =>
 chk (inB z4 5) <|
 bnd (wrap .u64 i2) fun z7 =>
 chk (decide (0<=z6)) <|
 bnd (Z08 .u64 z7 z6) fun z8 =>
 bnd (Z8 .and .u64 z8 2251799813685247) fun z9 =>
 bnd (a1.getD (z4).toNat 0) fun z10 =>
 bnd (Z8 .or .u64 z10 z9) fun z11 =>
 chk (inB z4 5) <|
 bnd (Z62 a1 (z4).toNat z11) fun l1 =>
 br (((decide (z6>43))&&(decide (z4<4)))) (
 bnd (wrap .i64 (z4+1)) fun z12 =>
 chk (inB z12 5) <|
 bnd (wrap .u64 i2) fun z13 =>
 bnd (wrap .i64 (51-z6)) fun z14 =>
 chk (decide (0<=z14)) <|
 bnd (Zt .u64 z13 z14) fun z15 =>
 bnd (l1.getD (z12).toNat 0) fun z16 =>
 bnd (Z8 .or .u64 z16 z15) fun z17 =>
 chk (inB z12 5) <|
 bnd (Z62 l1 (z12).toNat z17) fun l2 =>
 k3 l2
 ) (
 k3 l1
 )) fun k4=>br ((i1==31)) (
 bnd (Z8 .and .u8 z2 127) fun z18 =>
 k4 z18
 ) (
 k4 z2
 )
 ) (
 k1 a1
 )
def Z41 (p0:LI) (k1:(LI)->OL):Nat->Int->(LI)->OL
  | 0,_,_=>none
  | n+1,i1,a1=>Zae p0 k1 (Z41 p0 k1 n) i1 a1
def Z30 (p0:LI):OL :=
 jn (fun (a1:LI)=>opt (Z1p a1) fun y1 =>
 some y1) fun k1=>Z41 p0 k1 big 0 (replicate 5 0)
theorem Z68 {W:World} {r:(LI)} {p0:LI} (h:Z30 p0=some r)  :
    Calls Tryz.prog 236 [agg [b3' p0]].toArray W (Z2d W (agg [u5' r])):=by
 unfold Z30 at h
 refine Z9 mo Z0q1 rfl ?_
 refine Z0<|Z1<|Zc (Z03 (s:=[b3' p0]) rfl fun b1 u1=>Zc (Zs fun b2 u2=>Z2<|Z0<|Z1<|Zc (Zs fun b3 u3=>Z2<|Z0<|Z0<|Z1<|Z4 _ (Z04 (p:=[b3' p0]) rfl .t2 rfl)<|Z7 rfl<|Z2<|jH h fun k1 q1 h=>Zq (G:=fun t m=>∃ (a1:LI),k1 a1=some r/\Fit [(2,pt' b2),(3,pt' b3)] (ck b3 124 [u5' a1]::(ck b2 124 [u5' (replicate 5 0)]::(ck b1 22 [b3' p0] :: []))) t m) ?_ ?_)))
 ·refine Zf<|Z0e (fun n1 t m=>∃ (i1:Int) (a2:LI),Z41 p0 k1 n1 i1 a2=some r/\Fit [(2,pt' b2),(3,pt' b3),(8,agg [b3' p0]),(9,.int .i64 (i1))] (ck b3 124 [u5' a2]::(ck b2 124 [u5' (replicate 5 0)]::(ck b1 22 [b3' p0] :: []))) t m) big ?_ ?_
  ·exact ⟨0,(replicate 5 0),h,⟨⟨rfl,rfl,rfl,rfl,trivial⟩,(.o (.o (.o .nil)))⟩⟩
  ·rintro n1 t m ⟨i1,a2,h,hF⟩
   refine Zo hF ?_
   clear hF
   rcases n1 with _ | n1
   · exact Z1v h
   have h:Zae p0 k1 (Z41 p0 k1 n1) i1 a2=some r:=h
   unfold Zae at h
   obtain ⟨k2,q2⟩ : ∃ k,k=Z41 p0 k1 n1:=⟨_,rfl⟩
   try rw [<- q2] at h
   refine Z0<|Z1<|Z4 _ (Zb rfl rfl rfl)<|Z2<|Z0<|Z0w h rfl (fun h=>?_) (fun h=>?_)
   ·refine Zy<|Z0<|jH h fun k3 q3 h=>Zq (G:=fun t m=>∃ (a3:LI),k3 a3=some r/\Fit [(2,pt' b2),(3,pt' b3),(8,agg [b3' p0]),(9,.int .i64 (i1))] (ck b3 124 [u5' a3]::(ck b2 124 [u5' (replicate 5 0)]::(ck b1 22 [b3' p0] :: []))) t m) ?_ ?_
    ·refine Zf<|Z0<|cH h fun c1 h=>bH h fun z1 e1 h=>Z1<|Z7 rfl<|Z4 _ (iz e1 (Zi4 (len:=32) rfl rfl (Z1y c1)))<|Z7 rfl<|Z7 rfl<|Z2<|Z0<|Z0<|Z1<|Z7 rfl<|Z4 _ (Zb rfl rfl rfl)<|Z2<|jH h fun k4 q4 h=>Zq (G:=fun t m=>∃ (i2:Int),k4 i2=some r/\Fit [(2,pt' b2),(3,pt' b3),(4,.int .i64 (i1)),(5,.int .u8 (i2)),(8,agg [b3' p0]),(9,.int .i64 (i1))] (ck b3 124 [u5' a2]::(ck b2 124 [u5' (replicate 5 0)]::(ck b1 22 [b3' p0] :: []))) t m) ?_ ?_
     ·refine Z0w h rfl (fun h=>?_) (fun h=>?_)
      ·exact bH h fun z2 e2 h=>Z1<|Z7 rfl<|Z4 _ (iz e2 (Zb rfl rfl rfl))<|Z7 rfl<|Z2<|⟨z2,h,⟨⟨rfl,rfl,rfl,rfl,rfl,rfl,trivial⟩,(.o (.o (.o .nil)))⟩⟩
      ·exact Zy<|⟨z1,h,⟨⟨rfl,rfl,rfl,rfl,rfl,rfl,trivial⟩,(.o (.o (.o .nil)))⟩⟩
     ·rintro t m ⟨i2,h,hF⟩
      refine Zo hF ?_
      clear hF
      subst q4
      refine Z0<|bH h fun z3 e3 h=>bH h fun z4 e4 h=>bH h fun z5 e5 h=>bH h fun z6 e6 h=>Z1<|Z7 rfl<|Z4 _ (iz e3 (Zb rfl rfl rfl))<|Z4 _ (iz e4 (Zq9 rfl rfl (by decide)))<|Z7 rfl<|Z4 _ (iz e5 (Zb rfl rfl rfl))<|Z4 _ (iz e6 (Zlh rfl rfl (by decide)))<|Z7 rfl<|Z7 rfl<|Z2<|Z0<|cH h fun c2 h=>bH h fun z7 e7 h=>cH h fun c3 h=>bH h fun z8 e8 h=>bH h fun z9 e9 h=>bH h fun z10 e10 h=>bH h fun z11 e11 h=>cH h fun c4 h=>bH h fun l1 g1 h=>Zj<|Z6 _ (Z09 rfl)<|Z6 _ (Z3f rfl rfl (Z1y c2))<|Z6 _ (Z09 rfl)<|Z6 _ (iz e7 (Z7a rfl))<|Z6 _ (Z09 rfl)<|Z6 _ (iz e8 (Znp rfl rfl (of_decide_eq_true c3)))<|Z6 _ (iz e9 (Zb rfl rfl rfl))<|Zg _ (iz e10 (Za3 (base:=0) rfl .here rfl (Z1k c2)))<|Z6 _ (iz e11 (Zb rfl rfl rfl))<|Z6 _ (Z3f rfl rfl (Z1y c4))<|Z1n rfl (Z6c (q:=[u5' l1]) (base:=0) g1 rfl rfl rfl (Z1k c4) rfl .here<|Zr<|Z0<|Z1<|Z7 rfl<|Z4 _ (Zb rfl rfl rfl)<|Z7 rfl<|Zjn rfl rfl rfl (fun hg1=>Z31 rfl _ (Z09 rfl) (Z31 rfl _ (Zb rfl rfl rfl) (Z2a))) (fun hg1=>rfl) rfl<|Z2<|Z0w h rfl (fun h=>?_) (fun h=>?_))
      ·exact bH h fun z12 e12 h=>cH h fun c5 h=>bH h fun z13 e13 h=>bH h fun z14 e14 h=>cH h fun c6 h=>bH h fun z15 e15 h=>bH h fun z16 e16 h=>bH h fun z17 e17 h=>cH h fun c7 h=>bH h fun l2 g2 h=>Zj<|Z6 _ (Z09 rfl)<|Z6 _ (iz e12 (Zb rfl rfl rfl))<|Z6 _ (Z3f rfl rfl (Z1y c5))<|Z6 _ (Z09 rfl)<|Z6 _ (iz e13 (Z7a rfl))<|Z6 _ (Z09 rfl)<|Z6 _ (iz e14 (Zb rfl rfl rfl))<|Z6 _ (iz e15 (Z9g rfl rfl (of_decide_eq_true c6)))<|Zg _ (iz e16 (Za3 (base:=0) rfl .here rfl (Z1k c5)))<|Z6 _ (iz e17 (Zb rfl rfl rfl))<|Z6 _ (Z3f rfl rfl (Z1y c7))<|Z1n rfl (Z6c (q:=[u5' l2]) (base:=0) g2 rfl rfl rfl (Z1k c7) rfl .here<|Zr<|⟨l2,h,⟨⟨rfl,rfl,rfl,rfl,trivial⟩,(.o (.o (.o .nil)))⟩⟩)
      ·exact Zy<|⟨l1,h,⟨⟨rfl,rfl,rfl,rfl,trivial⟩,(.o (.o (.o .nil)))⟩⟩
    ·rintro t m ⟨a3,h,hF⟩
     refine Zo hF ?_
     clear hF
     subst q3
     refine bH h fun z18 e18 h=>Z1<|Z4 _ (iz e18 (Zb rfl rfl rfl))<|Z7 rfl<|Z2 ?_
     rw [q2] at h
     exact ⟨n1,Nat.lt_succ_self _,z18,a3,h,⟨⟨rfl,rfl,rfl,rfl,trivial⟩,(.o (.o (.o .nil)))⟩⟩
   ·exact Z0o _ rfl<|⟨a2,h,⟨⟨rfl,rfl,trivial⟩,(.o (.o (.o .nil)))⟩⟩
 ·rintro t m ⟨a1,h,hF⟩
  refine Zo hF ?_
  clear hF
  subst q1
  refine Z0<|oH h fun y1 f1 h=>Z1<|Z4 _ (Z04 (p:=[u5' a1]) rfl .here rfl)<|Z4 _ (Z1e rfl (Z16 f1))<|Zc (Zn (q:=[u5' y1]) rfl rfl rfl rfl rfl .t1<|Z2<|Zd ?_)
  revert h; refine Z00 fun h=>?_
  subst h
  exact ⟨_,(.cons (.agg rfl .t1 rfl) .nil),rfl⟩
def Zf1 (k1:(LI)->Option (Za)) (k2:Int->(LI)->Option (Za)) (i1:Int) (a1:LI):Option (Za) :=
 br ((decide (i1<31))) (
 bnd (wrap .i64 (i1+1)) fun z1 =>
 chk (inB z1 32) <|
 bnd (Z62 a1 (z1).toNat 102) fun l1 =>
 bnd (wrap .i64 (i1+1)) fun z2 =>
 k2 z2 l1
 ) (
 k1 a1
 )
def Z7c (k1:(LI)->Option (Za)):Nat->Int->(LI)->Option (Za)
  | 0,_,_=>none
  | n+1,i1,a1=>Zf1 k1 (Z7c k1 n) i1 a1
def Zbc:Option (Za) :=
 bnd (([26,213,37,143,96,45,86,201,178,167,37,149,96,199,44,105,92,220,214,253,49,226,164,192,254,83,110,205,211,54,105,33]:LI)) fun z1 =>
 opt (Z30 z1) fun y1 =>
 bnd (([88,0,0,0,0,0,0,0,0,0,0,0,0,0,0,0,0,0,0,0,0,0,0,0,0,0,0,0,0,0,0,0]:LI)) fun z2 =>
 jn (fun (a1:LI)=>opt (Z30 a1) fun y2 =>
 opt (Z9o) fun y3 =>
 opt (Z0y y1 y2) fun y4 =>
 some (⟨y1,y2,y3,y4⟩:Za)) fun k1=>Z7c k1 big 0 z2
theorem Zgy {W:World} {r:Za} (h:Zbc=some r)  :
    Calls Tryz.prog 118 [].toArray W (Z2d W (agg [u5' r.gX,u5' r.gY,u5' r.gZ,u5' r.gT])):=by
 unfold Zbc at h
 refine Z9 mo Z0nz rfl ?_
 refine Z0<|Z1<|Zc (Zs fun b1 u1=>Z2<|Z0<|bH h fun z1 e1 h=>oH h fun y1 f1 h=>Z1<|Z4 _ (az (fun z=>agg [.ints .u8 32 z]) e1 (Ze2 (.one rfl rfl rfl (.one rfl rfl rfl (.one rfl rfl rfl (.one rfl rfl rfl (.one rfl rfl rfl (.one rfl rfl rfl (.one rfl rfl rfl (.one rfl rfl rfl (.one rfl rfl rfl (.one rfl rfl rfl (.one rfl rfl rfl (.one rfl rfl rfl (.one rfl rfl rfl (.one rfl rfl rfl (.one rfl rfl rfl (.one rfl rfl rfl (.one rfl rfl rfl (.one rfl rfl rfl (.one rfl rfl rfl (.one rfl rfl rfl (.one rfl rfl rfl (.one rfl rfl rfl (.one rfl rfl rfl (.one rfl rfl rfl (.one rfl rfl rfl (.one rfl rfl rfl (.one rfl rfl rfl (.one rfl rfl rfl (.one rfl rfl rfl (.one rfl rfl rfl (.one rfl rfl rfl (.one rfl rfl rfl BdR.nil))))))))))))))))))))))))))))))))))<|Z4 _ (Z1e rfl (Z68 f1))<|Zc (Zs fun b2 u2=>Zc (Zn (q:=[u5' y1]) rfl rfl rfl rfl rfl .here<|Z2<|Z0<|bH h fun z2 e2 h=>Z1<|Z4 _ (az (fun z=>agg [.ints .u8 32 z]) e2 (Ze2 (.one rfl rfl rfl BdR.nil)))<|Zc (Zs fun b3 u3=>Zc (Zn (q:=[b3' z2]) rfl rfl rfl rfl rfl .here<|Z2<|Z0<|Z0<|Z1<|Z7 rfl<|Z2<|jH h fun k1 q1 h=>Zq (G:=fun t m=>∃ (a1:LI),k1 a1=some r/\Fit [(0,pt' b1),(1,pt' b2),(2,pt' b3)] (ck b3 22 [b3' a1]::(ck b2 124 [u5' y1]::(ck b1 126 [u5' (replicate 5 0),u5' (replicate 5 0),u5' (replicate 5 0),u5' (replicate 5 0)] :: []))) t m) ?_ ?_)))))
 ·refine Zf<|Z0e (fun n1 t m=>∃ (i1:Int) (a2:LI),Z7c k1 n1 i1 a2=some r/\Fit [(0,pt' b1),(1,pt' b2),(2,pt' b3),(8,.int .i64 (i1))] (ck b3 22 [b3' a2]::(ck b2 124 [u5' y1]::(ck b1 126 [u5' (replicate 5 0),u5' (replicate 5 0),u5' (replicate 5 0),u5' (replicate 5 0)] :: []))) t m) big ?_ ?_
  ·exact ⟨0,z2,h,⟨⟨rfl,rfl,rfl,rfl,trivial⟩,(.o (.o (.o .nil)))⟩⟩
  ·rintro n1 t m ⟨i1,a2,h,hF⟩
   refine Zo hF ?_
   clear hF
   rcases n1 with _ | n1
   · exact Z1v h
   have h:Zf1 k1 (Z7c k1 n1) i1 a2=some r:=h
   unfold Zf1 at h
   obtain ⟨k2,q2⟩ : ∃ k,k=Z7c k1 n1:=⟨_,rfl⟩
   try rw [<- q2] at h
   refine Z0<|Z1<|Z4 _ (Zb rfl rfl rfl)<|Z2<|Z0<|Z0w h rfl (fun h=>?_) (fun h=>?_)
   ·refine Zy<|Z0<|Zf<|Z0<|Z1<|Z7 rfl<|Z7 rfl<|Z2<|bH h fun z3 e3 h=>cH h fun c1 h=>bH h fun l1 g1 h=>Z1<|Z7 rfl<|Z4 _ (iz e3 (Zb rfl rfl rfl))<|Z4 _ (Z3f rfl rfl (Z1y c1))<|Zc (Z6c (q:=[b3' l1]) (base:=0) g1 rfl rfl rfl (Z1k c1) rfl .here<|Z2<|bH h fun z4 e4 h=>Z1<|Z4 _ (iz e4 (Zb rfl rfl rfl))<|Z7 rfl<|Z2 ?_)
    rw [q2] at h
    exact ⟨n1,Nat.lt_succ_self _,z4,l1,h,⟨⟨rfl,rfl,rfl,rfl,trivial⟩,(.o (.o (.o .nil)))⟩⟩
   ·exact Z0o _ rfl<|⟨a2,h,⟨⟨rfl,rfl,rfl,trivial⟩,(.o (.o (.o .nil)))⟩⟩
 ·rintro t m ⟨a1,h,hF⟩
  refine Zo hF ?_
  clear hF
  subst q1
  refine Z0<|oH h fun y2 f2 h=>Z1<|Z4 _ (Z04 (p:=[b3' a1]) rfl .here rfl)<|Z4 _ (Z1e rfl (Z68 f2))<|Zc (Zs fun b4 u4=>Zc (Zn (q:=[u5' y2]) rfl rfl rfl rfl rfl .here<|Z2<|Z0<|oH h fun y3 f3 h=>oH h fun y4 f4 h=>Zj<|Z6 _ (Z1e rfl (Zac f3))<|Zg _ (Z04 (p:=[u5' y1]) rfl .t2 rfl)<|Zg _ (Z04 (p:=[u5' y2]) rfl .here rfl)<|Zg _ (Z04 (p:=[u5' y1]) rfl .t2 rfl)<|Zg _ (Z04 (p:=[u5' y2]) rfl .here rfl)<|Z6 _ (Z1e rfl (Z0g f4))<|Z6 _ (Ze2 (q:=[u5' y1,u5' y2,u5' y3,u5' y4]) (.agg rfl rfl rfl (.agg rfl rfl rfl (.agg rfl rfl rfl (.agg rfl rfl rfl BdR.nil)))))<|Z1n rfl (Zn (q:=[u5' y1,u5' y2,u5' y3,u5' y4]) rfl rfl rfl rfl rfl .t3<|Zr<|Zd ?_)))
  revert h; refine Z00 fun h=>?_
  subst h
  exact ⟨_,(.cons (.agg rfl .t3 rfl) .nil),rfl⟩
def Z5o (p0:LI):Option (Za) :=
 opt (Zbc) fun y1 =>
 opt (Zhs p0 y1) fun y2 =>
 some y2
theorem Zaa {W:World} {r:Za} {p0:LI} (h:Z5o p0=some r)  :
    Calls Tryz.prog 54 [agg [b3' p0]].toArray W (Z2d W (agg [u5' r.gX,u5' r.gY,u5' r.gZ,u5' r.gT])):=by
 unfold Z5o at h
 refine Z9 mo ok54 rfl ?_
 refine Z0<|Z1<|Zc (Z03 (s:=[b3' p0]) rfl fun b1 u1=>Zc (Zs fun b2 u2=>Z2<|Z0<|oH h fun y1 f1 h=>oH h fun y2 f2 h=>Zj<|Z6 _ (Z1e rfl (Zgy f1))<|Zg _ (Z04 (p:=[b3' p0]) rfl .t1 rfl)<|Z6 _ (Z1e rfl (Zoh f2))<|Z1n rfl (Zn (q:=[u5' y2.gX,u5' y2.gY,u5' y2.gZ,u5' y2.gT]) rfl rfl rfl rfl rfl .here<|Zr<|Zd ?_)))
 revert h; refine Z00 fun h=>?_
 subst h
 exact ⟨_,(.cons (.agg rfl .here rfl) .nil),rfl⟩
def Z63 (p0:LI):OL :=
 opt (Zbw p0) fun y1 =>
 opt (Z5o y1.1) fun y2 =>
 opt (Z5n y2) fun y3 =>
 some y3
theorem Zmd {W:World} {r:(LI)} {p0:LI} (h:Z63 p0=some r) (hG:Globs W) :
    Calls Tryz.prog 18 [agg [b3' p0]].toArray W (Z2d W (agg [b3' r])):=by
 unfold Z63 at h
 refine Z9 mo ok18 rfl ?_
 refine Z0<|Z1<|Zc (Z03 (s:=[b3' p0]) rfl fun b1 u1=>Zc (Zs fun b2 u2=>Z2<|Z0<|oH h fun y1 f1 h=>Z1<|Z4 _ (Z04 (p:=[b3' p0]) rfl .t1 rfl)<|Zc (Zh rfl (fun w hw=>Zhc  f1 (hG.at hw (by simp))) fun v6 o1 R1=>?_)))
 obtain ⟨v8,w1,rfl,rfl,O1⟩:=R1
 refine Z7 rfl<|Z4 _ (Z0q rfl rfl)<|Z4 _ (Z0q rfl rfl)<|Zc (Zs fun b3 u3=>Zc (Zn (q:=[b3' y1.1]) rfl rfl rfl rfl rfl .here<|Z7 rfl<|Z2<|Z0<|oH h fun y2 f2 h=>oH h fun y3 f3 h=>Z1<|Z4 _ (Z04 (p:=[b3' y1.1]) rfl .here rfl)<|Z4 _ (Z1e rfl (Zaa f2))<|Z4 _ (Z1e rfl (Z8m f3))<|Zc (Zn (q:=[b3' y3]) rfl rfl rfl rfl rfl (.there (.app .here))<|Z2<|Zd ?_)))
 revert h; refine Z00 fun h=>?_
 subst h
 exact ⟨_,(.cons (.agg rfl (.there (.app .here)) rfl) .nil),rfl⟩
def Z89 (p0:Z0s) (z1:Int) (k1:(LI)->(List (LI))->Option (Zp×Int)) (k2:Int->(LI)->(List (LI))->Option (Zp×Int)) (i1:Int) (a1:LI) (l1:List (LI)):Option (Zp×Int) :=
 br ((decide (i1<z1))) (
 jn (fun (a2:LI) (l2:List (LI))=>bnd (wrap .i64 (i1+1)) fun z2 =>
 k2 z2 a2 l2) fun k3=>opt (Z91 p0 i1) fun y1 =>
 opt (Z63 y1.1) fun y2 =>
 br ((i1==0)) (
 k3 y2 l1
 ) (
 chk (decide ((l1.length+([y2]:List (LI)).length)*32<=140737488355328)) <|
 bnd (l1++([y2]:List (LI))) fun l3 =>
 k3 a1 l3
 )
 ) (
 k1 a1 l1
 )
def Z6v (p0:Z0s) (z1:Int) (k1:(LI)->(List (LI))->Option (Zp×Int)):Nat->Int->(LI)->(List (LI))->Option (Zp×Int)
  | 0,_,_,_=>none
  | n+1,i1,a1,l1=>Z89 p0 z1 k1 (Z6v p0 z1 k1 n) i1 a1 l1
def Ze4 (p0:Z0s):Option (Zp×Int) :=
 opt (Zbl p0) fun y1 =>
 br ((y1 != 0)) (
 some ((⟨(replicate 32 0),[]⟩:Zp),y1)
 ) (
 bnd (wrap .i64 (p0.gGates+1)) fun z1 =>
 jn (fun (a1:LI) (l1:List (LI))=>some ((⟨a1,l1⟩:Zp),0)) fun k1=>Z6v p0 z1 k1 big 0 (replicate 32 0) []
 )
theorem Zjj {W:World} {r:Zp×Int} {p0:Z0s} (h:Ze4 p0=some r) (hG:Globs W) :
    Calls Tryz.prog 5 [agg [.one (.int .i64 (p0.gGates)),.one (.int .i64 (p0.gWallets)),.one (.int .i64 (p0.gRows)),.one (.int .i64 (p0.gFlash)),.one (.int .i64 (p0.gSerials)),b3' p0.gSecret]].toArray W (Z7t W [] (fun v Ms=>∃ (u0:Value) (M1:List Ze),v = .tuple #[agg [b3' r.1.gIssuer,.one (u0)],.int .i64 (r.2)]/\Ms = [.all M1]/\Z0b Z01 u0 M1 r.1.gGates)):=by
 unfold Ze4 at h
 refine Zv mo ok5 rfl (Zg4 _) ?_
 refine Z0<|Z1<|Zc (Z03 (s:=[.one (.int .i64 (p0.gGates)),.one (.int .i64 (p0.gWallets)),.one (.int .i64 (p0.gRows)),.one (.int .i64 (p0.gFlash)),.one (.int .i64 (p0.gSerials)),b3' p0.gSecret]) rfl fun b1 hb1=>Zc (Zs fun b2 hb2=>Z7 rfl<|Z2<|Z0<|Z0<|oH h fun y1 f1 h=>Z1<|Z4 _ (Z04 (p:=[.one (.int .i64 (p0.gGates)),.one (.int .i64 (p0.gWallets)),.one (.int .i64 (p0.gRows)),.one (.int .i64 (p0.gFlash)),.one (.int .i64 (p0.gSerials)),b3' p0.gSecret]) rfl .t1 rfl)<|Z4 _ (Z1e rfl (Ze3 f1))<|Z7 rfl<|Z2<|Z0<|Z1<|Z7 rfl<|Z4 _ (Zb rfl rfl rfl)<|Z2<|Z0w h rfl (fun h=>?_) (fun h=>?_)))
 ·refine Z0<|Z1<|Z4 _ (Ze2 (q:=[b3' (replicate 32 0),.one (.slice none 0 0)]) BdR.nil)<|Z7 rfl<|Zc (Zn (q:=[b3' (replicate 32 0),.one (.slice none 0 0)]) rfl rfl rfl rfl rfl .here<|Z7 rfl<|Z2<|Zd ?_)
  revert h; refine Z00 fun h=>?_
  subst h
  exact ⟨_,_,(.cons (.agg rfl .here rfl) (.cons (.tmp rfl) .nil)),(.no .nil),⟨_,rfl,⟨(.slice none 0 0),[],rfl,rfl,Zbh⟩⟩⟩
 ·refine Zy<|Z0<|Z1<|Zc (Zs fun b3 hb3=>Z2<|Z0<|Z0<|bH h fun z1 e1 h=>Z1<|Z4 _ (Z1u rfl)<|Z4 _ (Z0j rfl .t2 rfl)<|Z4 _ (iz e1 (Zb rfl rfl rfl))<|Z7 rfl<|Z2<|jH h fun k1 q1 h=>Zq (G:=fun t m=>∃ (a1:LI) (l1:List (LI)) (v197:Value) (w1:List Ze),k1 a1 l1=some r/\Z0b Z01 v197 w1 l1/\Fit [(2,pt' b2),(5,pt' b3)] (ck b3 46 [b3' a1,.one (v197)]::(ck b2 46 [b3' (replicate 32 0),.one (.slice none 0 0)]::(ck b1 25 [.one (.int .i64 (p0.gGates)),.one (.int .i64 (p0.gWallets)),.one (.int .i64 (p0.gRows)),.one (.int .i64 (p0.gFlash)),.one (.int .i64 (p0.gSerials)),b3' p0.gSecret]::(w1 ++ [])))) t m) ?_ ?_)
  ·refine Zf<|Z0e (fun n1 t m=>∃ (i1:Int) (a2:LI) (l2:List (LI)) (v331:Value) (w2:List Ze),Z6v p0 z1 k1 n1 i1 a2 l2=some r/\Z0b Z01 v331 w2 l2/\Fit [(1,pt' b1),(2,pt' b2),(5,pt' b3),(18,.int .i64 (z1)),(19,.int .i64 (i1))] (ck b3 46 [b3' a2,.one (v331)]::(ck b2 46 [b3' (replicate 32 0),.one (.slice none 0 0)]::(ck b1 25 [.one (.int .i64 (p0.gGates)),.one (.int .i64 (p0.gWallets)),.one (.int .i64 (p0.gRows)),.one (.int .i64 (p0.gFlash)),.one (.int .i64 (p0.gSerials)),b3' p0.gSecret]::(w2 ++ [])))) t m) big ?_ ?_
   ·exact ⟨0,(replicate 32 0),[],(.slice none 0 0),[],h,Zbh,⟨⟨rfl,rfl,rfl,rfl,rfl,trivial⟩,(.o (.o (.o (.no .nil))))⟩⟩
   ·rintro n1 t m ⟨i1,a2,l2,v331,w2,h,O1,hF⟩
    refine Zo hF ?_
    clear hF
    rcases n1 with _ | n1
    · exact Z1v h
    have h:Z89 p0 z1 k1 (Z6v p0 z1 k1 n1) i1 a2 l2=some r:=h
    unfold Z89 at h
    obtain ⟨k2,q2⟩ : ∃ k,k=Z6v p0 z1 k1 n1:=⟨_,rfl⟩
    try rw [<- q2] at h
    refine Z0<|Z1<|Z4 _ (Zb rfl rfl rfl)<|Z2<|Z0<|Z0w h rfl (fun h=>?_) (fun h=>?_)
    ·refine Zy<|Z0<|jH h fun k3 q3 h=>Zq (G:=fun t m=>∃ (a3:LI) (l3:List (LI)) (v359:Value) (w3:List Ze),k3 a3 l3=some r/\Z0b Z01 v359 w3 l3/\Fit [(1,pt' b1),(2,pt' b2),(5,pt' b3),(18,.int .i64 (z1)),(19,.int .i64 (i1))] (ck b3 46 [b3' a3,.one (v359)]::(ck b2 46 [b3' (replicate 32 0),.one (.slice none 0 0)]::(ck b1 25 [.one (.int .i64 (p0.gGates)),.one (.int .i64 (p0.gWallets)),.one (.int .i64 (p0.gRows)),.one (.int .i64 (p0.gFlash)),.one (.int .i64 (p0.gSerials)),b3' p0.gSecret]::(w3 ++ [])))) t m) ?_ ?_
     ·refine Zf<|Z0<|Z1<|Z7 rfl<|Z7 rfl<|Z2<|Z0<|oH h fun y2 f2 h=>Z1<|Z4 _ (Z04 (p:=[.one (.int .i64 (p0.gGates)),.one (.int .i64 (p0.gWallets)),.one (.int .i64 (p0.gRows)),.one (.int .i64 (p0.gFlash)),.one (.int .i64 (p0.gSerials)),b3' p0.gSecret]) rfl .t2 rfl)<|Z7 rfl<|Z4 _ (Z06 rfl (fun w hw=>Zfa f2 (hG.at hw (by simp))))<|Z7 rfl<|Z4 _ (Z0q rfl rfl)<|Z4 _ (Z0q rfl rfl)<|Zc (Zs fun b4 hb4=>Zc (Zn (q:=[b3' y2.1]) rfl rfl rfl rfl rfl .here<|Z7 rfl<|Z2<|Z0<|oH h fun y3 f3 h=>Z1<|Z4 _ (Z04 (p:=[b3' y2.1]) rfl .here rfl)<|Z4 _ (Z06 rfl (fun w hw=>Zmd f3 (hG.at hw (by simp))))<|Zc (Zs fun b5 hb5=>Zc (Zn (q:=[b3' y3]) rfl rfl rfl rfl rfl .here<|Z2<|Z0<|Z1<|Z7 rfl<|Z4 _ (Zb rfl rfl rfl)<|Z2<|Z0w h rfl (fun h=>?_) (fun h=>?_)))))
      ·exact Z1<|Z4 _ (Z04 (p:=[b3' y3]) rfl .here rfl)<|Z4 _ (Z1u rfl)<|Zc (Zn (q:=[b3' y3,.one (v331)]) rfl rfl rfl rfl rfl .t2<|Z2<|⟨y3,l2,v331,w2,h,O1,⟨⟨rfl,rfl,rfl,rfl,rfl,trivial⟩,(.one .t2 (.one .t2 (.one .t2 (.all .t2 .nil))))⟩⟩)
      ·exact cH h fun c1 h=>bH h fun l4 g1 h=>Z1<|Z4 _ (Z1u rfl)<|Z4 _ (Z0j rfl .t2 rfl)<|Z4 _ (Z04 (p:=[b3' y3]) rfl .here rfl)<|Zc (Z5b (E:=Z01) (xs:=[y3]) (.agg rfl rfl rfl BdR.nil) (.cons (p:=[b3' y3]) rfl .nil) rfl fun v375 w4 O2=>Zc (Zbd (E:=Z01) g1 rfl O1 (.app .t5) rfl (Z0f O2 .here) c1 fun v380 w5 O3=>Z4 _ (Z1u rfl)<|Zc (Zlv (q:=[b3' a2,.one (v380)]) rfl rfl (Z97.one1 (Z0b.isSl O3)) rfl (.app (.app .t2))<|Z2<|⟨a2,l4,v380,w5,h,O3,⟨⟨rfl,rfl,rfl,rfl,rfl,trivial⟩,(.one (.app (.app .t2)) (.one (.app (.app .t2)) (.one (.app (.app .t2)) (.all .here .nil))))⟩⟩)))
     ·rintro t m ⟨a3,l3,v359,w3,h,O4,hF⟩
      refine Zo hF ?_
      clear hF
      subst q3
      refine bH h fun z2 e2 h=>Z1<|Z4 _ (iz e2 (Zb rfl rfl rfl))<|Z7 rfl<|Z2 ?_
      rw [q2] at h
      exact ⟨n1,Nat.lt_succ_self _,z2,a3,l3,v359,w3,h,O4,⟨⟨rfl,rfl,rfl,rfl,rfl,trivial⟩,(.o (.o (.o (.all .here .nil))))⟩⟩
    ·exact Z0o _ rfl<|⟨a2,l2,v331,w2,h,O1,⟨⟨rfl,rfl,trivial⟩,(.o (.o (.o (.all .here .nil))))⟩⟩
  ·rintro t m ⟨a1,l1,v197,w1,h,O5,hF⟩
   refine Zo hF ?_
   clear hF
   subst q1
   refine Z0<|Z1<|Z4 _ (Z04 (p:=[b3' a1,.one (v197)]) rfl .here rfl)<|Zc (Zd3 (q:=[b3' a1,.one (v197)]) rfl rfl rfl rfl (Z0r Zak (Z0r (Z3l (Z97.one1 (Z0b.isSl O5))) Z43)) .t1<|Z7 rfl<|Z2<|Zd ?_)
   revert h; refine Z00 fun h=>?_
   subst h
   exact ⟨_,_,(.cons (.agg rfl .t1 rfl) (.cons (.tmp rfl) .nil)),(.all .t3 .nil),⟨_,rfl,⟨v197,w1,rfl,rfl,O5⟩⟩⟩
def Z7o:Option (Z0s) :=
 some (⟨2,1,4,4096,9,(replicate 32 0)⟩:Z0s)
theorem Zgm {W:World} {r:Z0s} (h:Z7o=some r)  :
    Calls Tryz.prog 20 [].toArray W (Z2d W (agg [.one (.int .i64 (r.gGates)),.one (.int .i64 (r.gWallets)),.one (.int .i64 (r.gRows)),.one (.int .i64 (r.gFlash)),.one (.int .i64 (r.gSerials)),b3' r.gSecret])):=by
 unfold Z7o at h
 refine Z9 mo ok20 rfl ?_
 refine Z0<|Z1<|Zc (Zs fun b1 u1=>Z2<|Z0<|Z1<|Z4 _ (Ze2 (q:=[.one (.int .i64 (2)),.one (.int .i64 (1)),.one (.int .i64 (4)),.one (.int .i64 (4096)),.one (.int .i64 (9)),b3' (replicate 32 0)]) (.one rfl rfl rfl (.one rfl rfl rfl (.one rfl rfl rfl (.one rfl rfl rfl (.one rfl rfl rfl BdR.nil))))))<|Zc (Zn (q:=[.one (.int .i64 (2)),.one (.int .i64 (1)),.one (.int .i64 (4)),.one (.int .i64 (4096)),.one (.int .i64 (9)),b3' (replicate 32 0)]) rfl rfl rfl rfl rfl .here<|Z2<|Zd ?_))
 revert h; refine Z00 fun h=>?_
 subst h
 exact ⟨_,(.cons (.agg rfl .here rfl) .nil),rfl⟩
def Zbm:Option (Unit) :=
 some ()
theorem Zh8 {W:World} {r:Unit} (h:Zbm=some r)  :
    Calls Tryz.prog 55 [].toArray W (Z2d W (agg [.one (.func (.func 36) #[] #[]),.one (.func (.func 119) #[] #[]),.one (.func (.func 120) #[] #[]),.one (.func (.func 121) #[] #[])])):=by
 unfold Zbm at h
 refine Z9 mo ok55 rfl ?_
 refine Z0<|Z1<|Zc (Zs fun b1 u1=>Z2<|Z0<|Z1<|Z4 _ (Ze2 (q:=[.one (.func (.func 36) #[] #[]),.one (.func (.func 119) #[] #[]),.one (.func (.func 120) #[] #[]),.one (.func (.func 121) #[] #[])]) (.one rfl rfl rfl (.one rfl rfl rfl (.one rfl rfl rfl (.one rfl rfl rfl BdR.nil)))))<|Zc (Zn (q:=[.one (.func (.func 36) #[] #[]),.one (.func (.func 119) #[] #[]),.one (.func (.func 120) #[] #[]),.one (.func (.func 121) #[] #[])]) rfl rfl rfl rfl rfl .here<|Z2<|Zd ?_))
 revert h; refine Z00 fun h=>?_
 subst h
 exact ⟨_,(.cons (.agg rfl .here rfl) .nil),rfl⟩
def Z7x (y1:(Bool×LI)) (k1:Int->Option (Int×Bool)) (k2:Int->Int->Option (Int×Bool)) (i1:Int) (i2:Int):Option (Int×Bool) :=
 br ((decide (i2<(y1.2.length:Int)))) (
 chk (inB i2 y1.2.length) <|
 bnd (y1.2.getD (i2).toNat 0) fun z1 =>
 bnd (wrap .u64 z1) fun z2 =>
 bnd (wrap .i64 (8*i2)) fun z3 =>
 chk (decide (0<=z3)) <|
 bnd (Z08 .u64 z2 z3) fun z4 =>
 bnd (Z8 .or .u64 i1 z4) fun z5 =>
 bnd (wrap .i64 (i2+1)) fun z6 =>
 k2 z5 z6
 ) (
 k1 i1
 )
def Z3q (y1:(Bool×LI)) (k1:Int->Option (Int×Bool)):Nat->Int->Int->Option (Int×Bool)
  | 0,_,_=>none
  | n+1,i1,i2=>Z7x y1 k1 (Z3q y1 k1 n) i1 i2
def Z7n (p0:LI) (p1:Int):Option (Int×Bool) :=
 opt (Z8l p0 p1) fun y1 =>
 jn (fun (i1:Int)=>some (i1,(!y1.1))) fun k1=>Z3q y1 k1 big 0 0
theorem Za7 {W:World} {r:Int×Bool} {p0:LI} {p1:Int} {v0:Value} (h:Z7n p0 p1=some r) (A0:Z5x (El.int .u8) W v0 p0) :
    Calls Tryz.prog 344 [v0,.int .i64 (p1)].toArray W (Z2d W (.tuple #[.int .u64 (r.1),.bool (r.2)])):=by
 unfold Z7n at h
 refine Z9 mo Z0rq rfl ?_
 refine Z0<|Z1<|Z7 rfl<|Z7 rfl<|Z2<|Z0<|Z1<|Z7 rfl<|Z2<|Z0<|oH h fun y1 f1 h=>Z1<|Z7 rfl<|Z7 rfl<|Zc (Zh rfl (fun w hw=>Zb3  f1 ((Z0z A0 Z17) w hw)) fun v5 o1 R1=>?_)
 obtain ⟨_,rfl,rfl,P10,N8,H9⟩:=R1
 refine Z7 rfl<|Z2<|Z0<|Z0<|Z1<|Z7 rfl<|Z4 _ (Z5c rfl P10)<|Z7 rfl<|Z2<|jH h fun k1 q1 h=>Zq (G:=fun t m=>∃ (i1:Int),k1 i1=some r/\Fit [(6,.int .u64 (i1)),(7,v5)] [] t m) ?_ ?_
 ·refine Zf<|Z0e (fun n1 t m=>∃ (i2:Int) (i3:Int),Z3q y1 k1 n1 i2 i3=some r/\Fit [(6,.int .u64 (i2)),(7,v5),(13,v5),(14,.int .i64 ((y1.2.length:Int))),(15,.int .i64 (i3))] [] t m) big ?_ ?_
  ·exact ⟨0,0,h,⟨⟨rfl,rfl,rfl,rfl,rfl,trivial⟩,.nil⟩⟩
  ·rintro n1 t m ⟨i2,i3,h,hF⟩
   refine Zo hF ?_
   clear hF
   rcases n1 with _ | n1
   · exact Z1v h
   have h:Z7x y1 k1 (Z3q y1 k1 n1) i2 i3=some r:=h
   unfold Z7x at h
   obtain ⟨k2,q2⟩ : ∃ k,k=Z3q y1 k1 n1:=⟨_,rfl⟩
   try rw [<- q2] at h
   refine Z0<|Z1<|Z4 _ (Zb rfl rfl rfl)<|Z2<|Z0<|Z0w h rfl (fun h=>?_) (fun h=>?_)
   ·refine Zy<|Z0<|Zf<|Z0<|cH h fun c1 h=>bH h fun z1 e1 h=>Z1<|Z7 rfl<|Z4 _ (Z7r rfl rfl P10 c1)<|Z4 _ (iz e1 (Zbj (E:=(El.int .u8)) (s:=[.one (.int .u8 (y1.2.getD (i3).toNat 0))]) rfl (Zto H9 (Z0z A0 Z17)) (Z1k c1) rfl rfl))<|Z7 rfl<|Z7 rfl<|Z2<|bH h fun z2 e2 h=>bH h fun z3 e3 h=>cH h fun c2 h=>bH h fun z4 e4 h=>bH h fun z5 e5 h=>Z1<|Z7 rfl<|Z7 rfl<|Z4 _ (iz e2 (Z7a rfl))<|Z7 rfl<|Z4 _ (iz e3 (Zb rfl rfl rfl))<|Z4 _ (iz e4 (Znp rfl rfl (of_decide_eq_true c2)))<|Z4 _ (iz e5 (Zb rfl rfl rfl))<|Z7 rfl<|Z2<|bH h fun z6 e6 h=>Z1<|Z4 _ (iz e6 (Zb rfl rfl rfl))<|Z7 rfl<|Z2 ?_
    rw [q2] at h
    exact ⟨n1,Nat.lt_succ_self _,z5,z6,h,⟨⟨rfl,rfl,rfl,rfl,rfl,trivial⟩,.nil⟩⟩
   ·exact Z0o _ rfl<|⟨i2,h,⟨⟨rfl,rfl,trivial⟩,.nil⟩⟩
 ·rintro t m ⟨i1,h,hF⟩
  refine Zo hF ?_
  clear hF
  subst q1
  refine Z0<|Z1<|Z7 rfl<|Z7 rfl<|Z4 _ (Z007 rfl P10 N8)<|Z7 rfl<|Z7 rfl<|Z2<|Zd ?_
  revert h; refine Z00 fun h=>?_
  subst h
  exact ⟨_,(.cons (.tmp rfl) (.cons (.tmp rfl) .nil)),rfl⟩
def Z7l (z1:Int) (k1:(LI)->OL) (k2:Int->(LI)->Int->OL) (i1:Int) (l1:LI) (i2:Int):OL :=
 br ((decide (i2<((replicate (z1).toNat 0:LI).length:Int)))) (
 bnd (wrap .u8 i1) fun z2 =>
 chk (inB i2 l1.length) <|
 bnd (Zkv 0 l1 (i2).toNat z2) fun l2 =>
 bnd (Zt .u64 i1 8) fun z3 =>
 bnd (wrap .i64 (i2+1)) fun z4 =>
 k2 z3 l2 z4
 ) (
 k1 l1
 )
def Z3e (z1:Int) (k1:(LI)->OL):Nat->Int->(LI)->Int->OL
  | 0,_,_,_=>none
  | n+1,i1,l1,i2=>Z7l z1 k1 (Z3e z1 k1 n) i1 l1 i2
def Z9b (p0:Int):OL :=
 opt (Z4q) fun y1 =>
 bnd (wrap .i64 (Int.tdiv y1 8)) fun z1 =>
 chk (mkB 1 z1 z1) <|
 jn (fun (l1:LI)=>some l1) fun k1=>Z3e z1 k1 big p0 (replicate (z1).toNat 0:LI) 0
theorem Zfj {W:World} {r:(LI)} {p0:Int} (h:Z9b p0=some r)  :
    Calls Tryz.prog 359 [.int .u64 (p0)].toArray W (Z7t W [] (fun v Ms=>∃ (u0:Value) (M1:List Ze),v=u0/\Ms = [.all M1]/\Z0b (El.int .u8) u0 M1 r)):=by
 unfold Z9b at h
 refine Zv mo Z0s2 rfl (Zg4 _) ?_
 refine Z0<|Z1<|Z7 rfl<|Z2<|Z0<|oH h fun y1 f1 h=>bH h fun z1 e1 h=>cH h fun c1 h=>Z1<|Z4 _ (Z1e rfl (Z56 f1))<|Z4 _ (iz e1 (Zq9 rfl rfl (by decide)))<|Zc (Zgk (E:=(El.int .u8)) rfl rfl rfl c1 fun v6 w1 O1=>Z7 rfl<|Z2<|Z0<|Z0<|Z1<|Z7 rfl<|Z4 _ (Z5c rfl (Shp.own O1))<|Z7 rfl<|Z2<|jH h fun k1 q1 h=>Zq (G:=fun t m=>∃ (l1:LI) (v62:Value) (w2:List Ze),k1 l1=some r/\Z0b (El.int .u8) v62 w2 l1/\Fit [(3,v62)] (w2 ++ []) t m) ?_ ?_)
 ·refine Zf<|Z0e (fun n1 t m=>∃ (i1:Int) (l2:LI) (i2:Int) (v99:Value) (w3:List Ze),Z3e z1 k1 n1 i1 l2 i2=some r/\Z0b (El.int .u8) v99 w3 l2/\Fit [(0,.int .u64 (i1)),(3,v99),(9,.int .i64 (((replicate (z1).toNat 0:LI).length:Int))),(10,.int .i64 (i2))] (w3 ++ []) t m) big ?_ ?_
  ·exact ⟨p0,(replicate (z1).toNat 0:LI),0,v6,w1,h,O1,⟨⟨rfl,rfl,rfl,rfl,trivial⟩,(.all .here .nil)⟩⟩
  ·rintro n1 t m ⟨i1,l2,i2,v99,w3,h,O2,hF⟩
   refine Zo hF ?_
   clear hF
   rcases n1 with _ | n1
   · exact Z1v h
   have h:Z7l z1 k1 (Z3e z1 k1 n1) i1 l2 i2=some r:=h
   unfold Z7l at h
   obtain ⟨k2,q2⟩ : ∃ k,k=Z3e z1 k1 n1:=⟨_,rfl⟩
   try rw [<- q2] at h
   refine Z0<|Z1<|Z4 _ (Zb rfl rfl rfl)<|Z2<|Z0<|Z0w h rfl (fun h=>?_) (fun h=>?_)
   ·refine Zy<|Z0<|Zf<|Z0<|Z1<|Z7 rfl<|Z7 rfl<|Z2<|Z0<|bH h fun z2 e2 h=>cH h fun c2 h=>bH h fun l3 g1 h=>Z1<|Z7 rfl<|Z7 rfl<|Z7 rfl<|Z4 _ (iz e2 (Z7a rfl))<|Z4 _ (Z7r rfl rfl (Shp.own O2) c2)<|Zc (Zn9 (E:=(El.int .u8)) g1 O2 .here rfl rfl rfl (Z1k c2) fun w4 O3=>Z2<|bH h fun z3 e3 h=>Z1<|Z7 rfl<|Z4 _ (iz e3 (Z9g rfl rfl (by decide)))<|Z7 rfl<|Z2<|bH h fun z4 e4 h=>Z1<|Z4 _ (iz e4 (Zb rfl rfl rfl))<|Z7 rfl<|Z2 ?_)
    rw [q2] at h
    exact ⟨n1,Nat.lt_succ_self _,z3,l3,z4,v99,w4,h,O3,⟨⟨rfl,rfl,rfl,rfl,trivial⟩,(.all .here .nil)⟩⟩
   ·exact Z0o _ rfl<|⟨l2,v99,w3,h,O2,⟨⟨rfl,trivial⟩,(.all .here .nil)⟩⟩
 ·rintro t m ⟨l1,v62,w2,h,O4,hF⟩
  refine Zo hF ?_
  clear hF
  subst q1
  refine Z0<|Z1<|Z7 rfl<|Z7 rfl<|Z2<|Zd ?_
  revert h; refine Z00 fun h=>?_
  subst h
  exact ⟨_,_,(.cons (.tmp rfl) .nil),(.all .here .nil),⟨_,rfl,⟨v62,w2,rfl,rfl,O4⟩⟩⟩
def Zeb (p0:LI) (k1:(LI)->OL) (k2:Int->(LI)->OL) (i1:Int) (a1:LI):OL :=
 br ((decide (i1<4))) (
 chk (inB i1 4) <|
 bnd (p0.getD (i1).toNat 0) fun z1 =>
 bnd (wrap .i64 (8*i1)) fun z2 =>
 chk (Zlt z2 32 32) <|
 opt (Z9b z1) fun y1 =>
 bnd (wr a1 (z2).toNat (y1.take (32-(z2).toNat))) fun l1 =>
 bnd (wrap .i64 (i1+1)) fun z3 =>
 k2 z3 l1
 ) (
 k1 a1
 )
def Z8e (p0:LI) (k1:(LI)->OL):Nat->Int->(LI)->OL
  | 0,_,_=>none
  | n+1,i1,a1=>Zeb p0 k1 (Z8e p0 k1 n) i1 a1
def Z6y (p0:LI):OL :=
 jn (fun (a1:LI)=>some a1) fun k1=>Z8e p0 k1 big 0 (replicate 32 0)
theorem Zbs {W:World} {r:(LI)} {p0:LI} (h:Z6y p0=some r)  :
    Calls Tryz.prog 345 [agg [.ints .u64 4 (p0)]].toArray W (Z2d W (agg [b3' r])):=by
 unfold Z6y at h
 refine Z9 mo Z0rr rfl ?_
 refine Z0<|Z1<|Zc (Z03 (s:=[.ints .u64 4 (p0)]) rfl fun b1 u1=>Zc (Zs fun b2 u2=>Z2<|Z0<|Z1<|Zc (Zs fun b3 u3=>Z2<|Z0<|Z0<|Z1<|Z4 _ (Z04 (p:=[.ints .u64 4 (p0)]) rfl .t2 rfl)<|Z7 rfl<|Z2<|jH h fun k1 q1 h=>Zq (G:=fun t m=>∃ (a1:LI),k1 a1=some r/\Fit [(2,pt' b2),(3,pt' b3)] (ck b3 118 [b3' a1]::(ck b2 118 [b3' (replicate 32 0)]::(ck b1 393 [.ints .u64 4 (p0)] :: []))) t m) ?_ ?_)))
 ·refine Zf<|Z0e (fun n1 t m=>∃ (i1:Int) (a2:LI),Z8e p0 k1 n1 i1 a2=some r/\Fit [(2,pt' b2),(3,pt' b3),(6,agg [.ints .u64 4 (p0)]),(7,.int .i64 (i1))] (ck b3 118 [b3' a2]::(ck b2 118 [b3' (replicate 32 0)]::(ck b1 393 [.ints .u64 4 (p0)] :: []))) t m) big ?_ ?_
  ·exact ⟨0,(replicate 32 0),h,⟨⟨rfl,rfl,rfl,rfl,trivial⟩,(.o (.o (.o .nil)))⟩⟩
  ·rintro n1 t m ⟨i1,a2,h,hF⟩
   refine Zo hF ?_
   clear hF
   rcases n1 with _ | n1
   · exact Z1v h
   have h:Zeb p0 k1 (Z8e p0 k1 n1) i1 a2=some r:=h
   unfold Zeb at h
   obtain ⟨k2,q2⟩ : ∃ k,k=Z8e p0 k1 n1:=⟨_,rfl⟩
   try rw [<- q2] at h
   refine Z0<|Z1<|Z4 _ (Zb rfl rfl rfl)<|Z2<|Z0<|Z0w h rfl (fun h=>?_) (fun h=>?_)
   ·refine Zy<|Z0<|Zf<|Z0<|cH h fun c1 h=>bH h fun z1 e1 h=>Z1<|Z7 rfl<|Z4 _ (iz e1 (Zi4 (len:=4) rfl rfl (Z1y c1)))<|Z7 rfl<|Z7 rfl<|Z2<|bH h fun z2 e2 h=>cH h fun c2 h=>oH h fun y1 f1 h=>bH h fun l1 g1 h=>Zj<|Z6 _ (Z09 rfl)<|Z6 _ (iz e2 (Zb rfl rfl rfl))<|Z6 _ (Z9h rfl (.yes rfl) .no .no (by simp) (cut4 c2))<|Z6 _ (Z09 rfl)<|Z2c (Zh rfl (fun w hw=>Zfj  f1 ) fun v105 o1 R1=>?_)
    obtain ⟨_,w1,rfl,rfl,O1⟩:=R1
    refine ⟨(by repeat (first | exact Sup.refl _ | apply Sup.cons | apply Sup.app)),Z1n rfl (Zgj (q:=[b3' l1]) (lo:=(z2).toNat) (hi:=32) (mz:=32) (base:=0) g1 rfl rfl (Z0f O1 .here) rfl (cutn c2) rfl (.app .here) (Zr (bH h fun z3 e3 h=>Z1 (Z4 _ (iz e3 (Zb rfl rfl rfl)) (Z7 rfl (Z2 ?_))))))⟩
    rw [q2] at h
    exact ⟨n1,Nat.lt_succ_self _,z3,l1,h,⟨⟨rfl,rfl,rfl,rfl,trivial⟩,(.one (.app .here) (.one (.app .here) (.one (.app .here) .nil)))⟩⟩
   ·exact Z0o _ rfl<|⟨a2,h,⟨⟨rfl,rfl,trivial⟩,(.o (.o (.o .nil)))⟩⟩
 ·rintro t m ⟨a1,h,hF⟩
  refine Zo hF ?_
  clear hF
  subst q1
  refine Z0<|Z1<|Z4 _ (Z04 (p:=[b3' a1]) rfl .here rfl)<|Zc (Zn (q:=[b3' a1]) rfl rfl rfl rfl rfl .t1<|Z2<|Zd ?_)
  revert h; refine Z00 fun h=>?_
  subst h
  exact ⟨_,(.cons (.agg rfl .t1 rfl) .nil),rfl⟩
def Z8d (p1:LI) (k1:Int->(LI)->Option ((LI)×Int)) (k2:Int->Int->(LI)->Option ((LI)×Int)) (i1:Int) (i2:Int) (a1:LI):Option ((LI)×Int) :=
 br ((decide (i2<4))) (
 chk (inB i2 4) <|
 chk (inB i2 4) <|
 bnd (a1.getD (i2).toNat 0) fun z1 =>
 bnd (p1.getD (i2).toNat 0) fun z2 =>
 chk (Z00y z1 z2 i1) <|
 bnd (Z03v z1 z2 i1) fun z3 =>
 bnd (Z03u z1 z2 i1) fun z4 =>
 chk (inB i2 4) <|
 bnd (Z62 a1 (i2).toNat z3) fun l1 =>
 bnd (wrap .i64 (i2+1)) fun z5 =>
 k2 z4 z5 l1
 ) (
 k1 i1 a1
 )
def Z34 (p1:LI) (k1:Int->(LI)->Option ((LI)×Int)):Nat->Int->Int->(LI)->Option ((LI)×Int)
  | 0,_,_,_=>none
  | n+1,i1,i2,a1=>Z8d p1 k1 (Z34 p1 k1 n) i1 i2 a1
def Z6w (p0:LI) (p1:LI):Option ((LI)×Int) :=
 jn (fun (i1:Int) (a1:LI)=>some (a1,i1)) fun k1=>Z34 p1 k1 big 0 0 p0
theorem Zbr {W:World} {r:(LI)×Int} {p0:LI} {p1:LI} (h:Z6w p0 p1=some r)  :
    Calls Tryz.prog 335 [agg [.ints .u64 4 (p0)],agg [.ints .u64 4 (p1)]].toArray W (Z2d W (.tuple #[agg [.ints .u64 4 (r.1)],.int .u64 (r.2)])):=by
 unfold Z6w at h
 refine Z9 mo Z0rk rfl ?_
 refine Z0<|Z1<|Zc (Z03 (s:=[.ints .u64 4 (p0)]) rfl fun b1 u1=>Zc (Z03 (s:=[.ints .u64 4 (p1)]) rfl fun b2 u2=>Zc (Zs fun b3 u3=>Z7 rfl<|Z2<|Z0<|Z1<|Z7 rfl<|Z2<|Z0<|Z0<|Z1<|Z7 rfl<|Z2<|jH h fun k1 q1 h=>Zq (G:=fun t m=>∃ (i1:Int) (a1:LI),k1 i1 a1=some r/\Fit [(2,pt' b1),(4,pt' b3),(6,.int .u64 (i1))] (ck b3 393 [.ints .u64 4 ((replicate 4 0))]::(ck b2 393 [.ints .u64 4 (p1)]::(ck b1 393 [.ints .u64 4 (a1)] :: []))) t m) ?_ ?_)))
 ·refine Zf<|Z0e (fun n1 t m=>∃ (i2:Int) (i3:Int) (a2:LI),Z34 p1 k1 n1 i2 i3 a2=some r/\Fit [(2,pt' b1),(3,pt' b2),(4,pt' b3),(6,.int .u64 (i2)),(8,.int .i64 (i3))] (ck b3 393 [.ints .u64 4 ((replicate 4 0))]::(ck b2 393 [.ints .u64 4 (p1)]::(ck b1 393 [.ints .u64 4 (a2)] :: []))) t m) big ?_ ?_
  ·exact ⟨0,0,p0,h,⟨⟨rfl,rfl,rfl,rfl,rfl,trivial⟩,(.o (.o (.o .nil)))⟩⟩
  ·rintro n1 t m ⟨i2,i3,a2,h,hF⟩
   refine Zo hF ?_
   clear hF
   rcases n1 with _ | n1
   · exact Z1v h
   have h:Z8d p1 k1 (Z34 p1 k1 n1) i2 i3 a2=some r:=h
   unfold Z8d at h
   obtain ⟨k2,q2⟩ : ∃ k,k=Z34 p1 k1 n1:=⟨_,rfl⟩
   try rw [<- q2] at h
   refine Z0<|Z1<|Z4 _ (Zb rfl rfl rfl)<|Z2<|Z0<|Z0w h rfl (fun h=>?_) (fun h=>?_)
   ·refine Zy<|Z0<|Zf<|Z0<|Z1<|Z7 rfl<|Z7 rfl<|Z2<|cH h fun c1 h=>cH h fun c2 h=>bH h fun z1 e1 h=>bH h fun z2 e2 h=>cH h fun c3 h=>bH h fun z3 e3 h=>bH h fun z4 e4 h=>cH h fun c4 h=>bH h fun l1 g1 h=>Zj<|Z6 _ (Z09 rfl)<|Z6 _ (Z09 rfl)<|Z6 _ (Z3f rfl rfl (Z1y c1))<|Z6 _ (Z09 rfl)<|Z6 _ (Z3f rfl rfl (Z1y c2))<|Z6 _ (Z09 rfl)<|Zg _ (iz e1 (Za3 (base:=0) rfl .t2 rfl (Z1k c1)))<|Zg _ (iz e2 (Za3 (base:=0) rfl .t1 rfl (Z1k c2)))<|Z6 _ (Zi5 rfl Z06j (xsub e3 e4 c3))<|Z6 _ (Z09 rfl)<|Z6 _ (Z0q rfl rfl)<|Z6 _ (Z0q rfl rfl)<|Z6 _ (Z3f rfl rfl (Z1y c4))<|Z1n rfl (Z6c (q:=[.ints .u64 4 (l1)]) (base:=0) g1 rfl rfl rfl (Z1k c4) rfl .t2<|Z6 _ (Z09 rfl)<|Zr<|bH h fun z5 e5 h=>Z1<|Z4 _ (iz e5 (Zb rfl rfl rfl))<|Z7 rfl<|Z2 ?_)
    rw [q2] at h
    exact ⟨n1,Nat.lt_succ_self _,z4,z5,l1,h,⟨⟨rfl,rfl,rfl,rfl,rfl,trivial⟩,(.o (.o (.o .nil)))⟩⟩
   ·exact Z0o _ rfl<|⟨i2,a2,h,⟨⟨rfl,rfl,rfl,trivial⟩,(.o (.o (.o .nil)))⟩⟩
 ·rintro t m ⟨i1,a1,h,hF⟩
  refine Zo hF ?_
  clear hF
  subst q1
  refine Z0<|Z1<|Z4 _ (Z04 (p:=[.ints .u64 4 (a1)]) rfl .t2 rfl)<|Z7 rfl<|Zc (Zn (q:=[.ints .u64 4 (a1)]) rfl rfl rfl rfl rfl .here<|Z7 rfl<|Z2<|Zd ?_)
  revert h; refine Z00 fun h=>?_
  subst h
  exact ⟨_,(.cons (.agg rfl .here rfl) (.cons (.tmp rfl) .nil)),rfl⟩
def Z95 (p1:LI) (k1:Int->(LI)->Option ((LI)×Int)) (k2:Int->Int->(LI)->Option ((LI)×Int)) (i1:Int) (i2:Int) (a1:LI):Option ((LI)×Int) :=
 br ((decide (i2<4))) (
 chk (inB i2 4) <|
 chk (inB i2 4) <|
 bnd (a1.getD (i2).toNat 0) fun z1 =>
 bnd (p1.getD (i2).toNat 0) fun z2 =>
 chk (Zhe z1 z2 i1) <|
 bnd (Zc6 z1 z2 i1) fun z3 =>
 bnd (Zhn z1 z2 i1) fun z4 =>
 chk (inB i2 4) <|
 bnd (Z62 a1 (i2).toNat z3) fun l1 =>
 bnd (wrap .i64 (i2+1)) fun z5 =>
 k2 z4 z5 l1
 ) (
 k1 i1 a1
 )
def Z3o (p1:LI) (k1:Int->(LI)->Option ((LI)×Int)):Nat->Int->Int->(LI)->Option ((LI)×Int)
  | 0,_,_,_=>none
  | n+1,i1,i2,a1=>Z95 p1 k1 (Z3o p1 k1 n) i1 i2 a1
def Z61 (p0:LI) (p1:LI):Option ((LI)×Int) :=
 jn (fun (i1:Int) (a1:LI)=>some (a1,i1)) fun k1=>Z3o p1 k1 big 0 0 p0
theorem Z98 {W:World} {r:(LI)×Int} {p0:LI} {p1:LI} (h:Z61 p0 p1=some r)  :
    Calls Tryz.prog 347 [agg [.ints .u64 4 (p0)],agg [.ints .u64 4 (p1)]].toArray W (Z2d W (.tuple #[agg [.ints .u64 4 (r.1)],.int .u64 (r.2)])):=by
 unfold Z61 at h
 refine Z9 mo Z0rt rfl ?_
 refine Z0<|Z1<|Zc (Z03 (s:=[.ints .u64 4 (p0)]) rfl fun b1 u1=>Zc (Z03 (s:=[.ints .u64 4 (p1)]) rfl fun b2 u2=>Zc (Zs fun b3 u3=>Z7 rfl<|Z2<|Z0<|Z1<|Z7 rfl<|Z2<|Z0<|Z0<|Z1<|Z7 rfl<|Z2<|jH h fun k1 q1 h=>Zq (G:=fun t m=>∃ (i1:Int) (a1:LI),k1 i1 a1=some r/\Fit [(2,pt' b1),(4,pt' b3),(6,.int .u64 (i1))] (ck b3 393 [.ints .u64 4 ((replicate 4 0))]::(ck b2 393 [.ints .u64 4 (p1)]::(ck b1 393 [.ints .u64 4 (a1)] :: []))) t m) ?_ ?_)))
 ·refine Zf<|Z0e (fun n1 t m=>∃ (i2:Int) (i3:Int) (a2:LI),Z3o p1 k1 n1 i2 i3 a2=some r/\Fit [(2,pt' b1),(3,pt' b2),(4,pt' b3),(6,.int .u64 (i2)),(8,.int .i64 (i3))] (ck b3 393 [.ints .u64 4 ((replicate 4 0))]::(ck b2 393 [.ints .u64 4 (p1)]::(ck b1 393 [.ints .u64 4 (a2)] :: []))) t m) big ?_ ?_
  ·exact ⟨0,0,p0,h,⟨⟨rfl,rfl,rfl,rfl,rfl,trivial⟩,(.o (.o (.o .nil)))⟩⟩
  ·rintro n1 t m ⟨i2,i3,a2,h,hF⟩
   refine Zo hF ?_
   clear hF
   rcases n1 with _ | n1
   · exact Z1v h
   have h:Z95 p1 k1 (Z3o p1 k1 n1) i2 i3 a2=some r:=h
   unfold Z95 at h
   obtain ⟨k2,q2⟩ : ∃ k,k=Z3o p1 k1 n1:=⟨_,rfl⟩
   try rw [<- q2] at h
   refine Z0<|Z1<|Z4 _ (Zb rfl rfl rfl)<|Z2<|Z0<|Z0w h rfl (fun h=>?_) (fun h=>?_)
   ·refine Zy<|Z0<|Zf<|Z0<|Z1<|Z7 rfl<|Z7 rfl<|Z2<|cH h fun c1 h=>cH h fun c2 h=>bH h fun z1 e1 h=>bH h fun z2 e2 h=>cH h fun c3 h=>bH h fun z3 e3 h=>bH h fun z4 e4 h=>cH h fun c4 h=>bH h fun l1 g1 h=>Zj<|Z6 _ (Z09 rfl)<|Z6 _ (Z09 rfl)<|Z6 _ (Z3f rfl rfl (Z1y c1))<|Z6 _ (Z09 rfl)<|Z6 _ (Z3f rfl rfl (Z1y c2))<|Z6 _ (Z09 rfl)<|Zg _ (iz e1 (Za3 (base:=0) rfl .t2 rfl (Z1k c1)))<|Zg _ (iz e2 (Za3 (base:=0) rfl .t1 rfl (Z1k c2)))<|Z6 _ (Zi5 rfl Zjr (xadd e3 e4 c3))<|Z6 _ (Z09 rfl)<|Z6 _ (Z0q rfl rfl)<|Z6 _ (Z0q rfl rfl)<|Z6 _ (Z3f rfl rfl (Z1y c4))<|Z1n rfl (Z6c (q:=[.ints .u64 4 (l1)]) (base:=0) g1 rfl rfl rfl (Z1k c4) rfl .t2<|Z6 _ (Z09 rfl)<|Zr<|bH h fun z5 e5 h=>Z1<|Z4 _ (iz e5 (Zb rfl rfl rfl))<|Z7 rfl<|Z2 ?_)
    rw [q2] at h
    exact ⟨n1,Nat.lt_succ_self _,z4,z5,l1,h,⟨⟨rfl,rfl,rfl,rfl,rfl,trivial⟩,(.o (.o (.o .nil)))⟩⟩
   ·exact Z0o _ rfl<|⟨i2,a2,h,⟨⟨rfl,rfl,rfl,trivial⟩,(.o (.o (.o .nil)))⟩⟩
 ·rintro t m ⟨i1,a1,h,hF⟩
  refine Zo hF ?_
  clear hF
  subst q1
  refine Z0<|Z1<|Z4 _ (Z04 (p:=[.ints .u64 4 (a1)]) rfl .t2 rfl)<|Z7 rfl<|Zc (Zn (q:=[.ints .u64 4 (a1)]) rfl rfl rfl rfl rfl .here<|Z7 rfl<|Z2<|Zd ?_)
  revert h; refine Z00 fun h=>?_
  subst h
  exact ⟨_,(.cons (.agg rfl .here rfl) (.cons (.tmp rfl) .nil)),rfl⟩
def Z8c (k1:(LI)->OL) (a1:LI) (k2:Unit->OL) (k3:Int->OL) (i1:Int):OL :=
 br ((decide (i1≥0))) (
 chk (inB i1 4) <|
 chk (inB i1 4) <|
 bnd (a1.getD (i1).toNat 0) fun z1 =>
 bnd (G_order.getD (i1).toNat 0) fun z2 =>
 br ((decide (z1<z2))) (
 k1 a1
 ) (
 chk (inB i1 4) <|
 chk (inB i1 4) <|
 bnd (a1.getD (i1).toNat 0) fun z3 =>
 bnd (G_order.getD (i1).toNat 0) fun z4 =>
 br ((decide (z3>z4))) (
 k2 ()
 ) (
 bnd (wrap .i64 (i1-1)) fun z5 =>
 k3 z5
 )
 )
 ) (
 k2 ()
 )
def Z11 (k1:(LI)->OL) (a1:LI) (k2:Unit->OL):Nat->Int->OL
  | 0,_=>none
  | n+1,i1=>Z8c k1 a1 k2 (Z11 k1 a1 k2 n) i1
def Z8b (k1:(LI)->OL) (k2:(LI)->OL) (a1:LI):OL :=
 jn (fun (_:Unit)=>opt (Z6w a1 G_order) fun y1 =>
 k2 y1.1) fun k3=>Z11 k1 a1 k3 big 3
def Z3w (k1:(LI)->OL):Nat->(LI)->OL
  | 0,_=>none
  | n+1,a1=>Z8b k1 (Z3w k1 n) a1
def Z8a (p0:LI):OL :=
 jn (fun (a1:LI)=>some a1) fun k1=>Z3w k1 big p0
theorem Zg7 {W:World} {r:(LI)} {p0:LI} (h:Z8a p0=some r) (hG:Globs W) :
    Calls Tryz.prog 349 [agg [.ints .u64 4 (p0)]].toArray W (Z2d W (agg [.ints .u64 4 (r)])):=by
 unfold Z8a at h
 refine Z9 mo Z0rv rfl ?_
 refine Z0<|Z1<|Zc (Z03 (s:=[.ints .u64 4 (p0)]) rfl fun b1 u1=>Zc (Zs fun b2 u2=>Z2<|Z044<|Z0<|Z0k2<|Z0<|jH h fun k1 q1 h=>Zq (G:=fun t m=>∃ (a1:LI),k1 a1=some r/\Fit [(1,pt' b1),(2,pt' b2)] (ck b2 393 [.ints .u64 4 ((replicate 4 0))]::(ck b1 393 [.ints .u64 4 (a1)] :: [])) t m) ?_ ?_))
 ·refine Zf<|Z0e (fun n1 t m=>∃ (a2:LI),Z3w k1 n1 a2=some r/\Fit [(1,pt' b1),(2,pt' b2)] (ck b2 393 [.ints .u64 4 ((replicate 4 0))]::(ck b1 393 [.ints .u64 4 (a2)] :: [])) t m) big ?_ ?_
  ·exact ⟨p0,h,⟨⟨rfl,rfl,trivial⟩,(.o (.o .nil))⟩⟩
  ·rintro n1 t m ⟨a2,h,hF⟩
   refine Zo hF ?_
   clear hF
   rcases n1 with _ | n1
   · exact Z1v h
   have h:Z8b k1 (Z3w k1 n1) a2=some r:=h
   unfold Z8b at h
   obtain ⟨k2,q2⟩ : ∃ k,k=Z3w k1 n1:=⟨_,rfl⟩
   try rw [<- q2] at h
   refine Zf<|Z0<|Z0<|Z1<|Z7 rfl<|Z2<|jH h fun k3 q3 h=>Zq (G:=fun t m=>k3 ()=some r/\Fit [(1,pt' b1),(2,pt' b2)] (ck b2 393 [.ints .u64 4 ((replicate 4 0))]::(ck b1 393 [.ints .u64 4 (a2)] :: [])) t m) ?_ ?_
   ·refine Zf<|Z0e (fun n2 t m=>∃ (i1:Int),Z11 k1 a2 k3 n2 i1=some r/\Fit [(1,pt' b1),(2,pt' b2),(3,.int .i64 (i1))] (ck b2 393 [.ints .u64 4 ((replicate 4 0))]::(ck b1 393 [.ints .u64 4 (a2)] :: [])) t m) big ?_ ?_
    ·exact ⟨3,h,⟨⟨rfl,rfl,rfl,trivial⟩,(.o (.o .nil))⟩⟩
    ·rintro n2 t m ⟨i1,h,hF⟩
     refine Zo hF ?_
     clear hF
     rcases n2 with _ | n2
     · exact Z1v h
     have h:Z8c k1 a2 k3 (Z11 k1 a2 k3 n2) i1=some r:=h
     unfold Z8c at h
     obtain ⟨k4,q4⟩ : ∃ k,k=Z11 k1 a2 k3 n2:=⟨_,rfl⟩
     try rw [<- q4] at h
     refine Z0<|Z0<|Z1<|Z7 rfl<|Z4 _ (Zb rfl rfl rfl)<|Z2<|Z0w h rfl (fun h=>?_) (fun h=>?_)
     ·refine Zy<|Z0<|Zf<|Z0<|Z0<|cH h fun c1 h=>cH h fun c2 h=>bH h fun z1 e1 h=>bH h fun z2 e2 h=>Zj<|Z6 _ (Z09 rfl)<|Z6 _ (Z3f rfl rfl (Z1y c1))<|Z6 _ (Z09 rfl)<|Z6 _ (Z3f rfl rfl (Z1y c2))<|Zg _ (iz e1 (Za3 (base:=0) rfl .t1 rfl (Z1k c1)))<|Zg _ (iz e2 (Z008 rfl (hG.g3) (by simp) (Z1k c2)))<|Z6 _ (Zb rfl rfl rfl)<|Zr<|Z0w h rfl (fun h=>?_) (fun h=>?_)
      ·exact Z0o _ rfl<|⟨a2,h,⟨⟨rfl,rfl,trivial⟩,(.o (.o .nil))⟩⟩
      ·refine Zy<|Z0<|cH h fun c3 h=>cH h fun c4 h=>bH h fun z3 e3 h=>bH h fun z4 e4 h=>Zj<|Z6 _ (Z09 rfl)<|Z6 _ (Z3f rfl rfl (Z1y c3))<|Z6 _ (Z09 rfl)<|Z6 _ (Z3f rfl rfl (Z1y c4))<|Zg _ (iz e3 (Za3 (base:=0) rfl .t1 rfl (Z1k c3)))<|Zg _ (iz e4 (Z008 rfl (hG.g3) (by simp) (Z1k c4)))<|Z6 _ (Zb rfl rfl rfl)<|Zr<|Z0w h rfl (fun h=>?_) (fun h=>?_)
       ·exact Z0o _ rfl<|⟨h,⟨⟨rfl,rfl,trivial⟩,(.o (.o .nil))⟩⟩
       ·refine Zy<|bH h fun z5 e5 h=>Z1<|Z7 rfl<|Z4 _ (iz e5 (Zb rfl rfl rfl))<|Z7 rfl<|Z2 ?_
        rw [q4] at h
        exact ⟨n2,Nat.lt_succ_self _,z5,h,⟨⟨rfl,rfl,rfl,trivial⟩,(.o (.o .nil))⟩⟩
     ·exact Z0o _ rfl<|⟨h,⟨⟨rfl,rfl,trivial⟩,(.o (.o .nil))⟩⟩
   ·rintro t m ⟨h,hF⟩
    refine Zo hF ?_
    clear hF
    subst q3
    refine oH h fun y1 f1 h=>Z1<|Z4 _ (Z04 (p:=[.ints .u64 4 (a2)]) rfl .t1 rfl)<|Z4 _ (Ztl (o0:=0) (off:=0) rfl (hG.g3) (by simp) rfl)<|Z4 _ (Z1e rfl (Zbr f1))<|Z7 rfl<|Z4 _ (Z0q rfl rfl)<|Z4 _ (Z0q rfl rfl)<|Zc (Zn (q:=[.ints .u64 4 (y1.1)]) rfl rfl rfl rfl rfl .t1<|Z2 ?_)
    rw [q2] at h
    exact ⟨n1,Nat.lt_succ_self _,y1.1,h,⟨⟨rfl,rfl,trivial⟩,(.o (.o .nil))⟩⟩
 ·rintro t m ⟨a1,h,hF⟩
  refine Zo hF ?_
  clear hF
  subst q1
  refine Z0<|Z1<|Z4 _ (Z04 (p:=[.ints .u64 4 (a1)]) rfl .t1 rfl)<|Zc (Zn (q:=[.ints .u64 4 (a1)]) rfl rfl rfl rfl rfl .here<|Z2<|Zd ?_)
  revert h; refine Z00 fun h=>?_
  subst h
  exact ⟨_,(.cons (.agg rfl .here rfl) .nil),rfl⟩
def Z4z (p1:LI) (i1:Int) (z1:Int) (k1:(LI)->Int->OL) (k2:(LI)->Int->Int->OL) (l1:LI) (i2:Int) (i3:Int):OL :=
 br ((decide (i3<(p1.length:Int)))) (
 chk (inB i3 p1.length) <|
 bnd (p1.getD (i3).toNat 0) fun z2 =>
 opt (Z6h z1 z2) fun y1 =>
 bnd (wrap .i64 (i1+i3)) fun z3 =>
 chk (inB z3 l1.length) <|
 bnd (l1.getD (z3).toNat 0) fun z4 =>
 chk (Zhe y1.2 z4 0) <|
 bnd (Zc6 y1.2 z4 0) fun z5 =>
 bnd (Zhn y1.2 z4 0) fun z6 =>
 bnd (wrap .u64 (y1.1+z6)) fun z7 =>
 chk (Zhe z5 i2 0) <|
 bnd (Zc6 z5 i2 0) fun z8 =>
 bnd (Zhn z5 i2 0) fun z9 =>
 bnd (wrap .i64 (i1+i3)) fun z10 =>
 bnd (wrap .u64 (z7+z9)) fun z11 =>
 chk (inB z10 l1.length) <|
 bnd (Zkv 0 l1 (z10).toNat z8) fun l2 =>
 bnd (wrap .i64 (i3+1)) fun z12 =>
 k2 l2 z11 z12
 ) (
 k1 l1 i2
 )
def Z24 (p1:LI) (i1:Int) (z1:Int) (k1:(LI)->Int->OL):Nat->(LI)->Int->Int->OL
  | 0,_,_,_=>none
  | n+1,l1,i2,i3=>Z4z p1 i1 z1 k1 (Z24 p1 i1 z1 k1 n) l1 i2 i3
def Z4y (p0:LI) (p1:LI) (k1:(LI)->OL) (k2:(LI)->Int->OL) (l1:LI) (i1:Int):OL :=
 br ((decide (i1<(p0.length:Int)))) (
 chk (inB i1 p0.length) <|
 bnd (p0.getD (i1).toNat 0) fun z1 =>
 jn (fun (l2:LI) (i2:Int)=>bnd (wrap .i64 (i1+(p1.length:Int))) fun z2 =>
 chk (inB z2 l2.length) <|
 bnd (Zkv 0 l2 (z2).toNat i2) fun l3 =>
 bnd (wrap .i64 (i1+1)) fun z3 =>
 k2 l3 z3) fun k3=>Z24 p1 i1 z1 k3 big l1 0 0
 ) (
 k1 l1
 )
def Z23 (p0:LI) (p1:LI) (k1:(LI)->OL):Nat->(LI)->Int->OL
  | 0,_,_=>none
  | n+1,l1,i1=>Z4y p0 p1 k1 (Z23 p0 p1 k1 n) l1 i1
def Z6z (p0:LI) (p1:LI):OL :=
 bnd (wrap .i64 ((p0.length:Int)+(p1.length:Int))) fun z1 =>
 chk (mkB 8 z1 z1) <|
 jn (fun (l1:LI)=>some l1) fun k1=>Z23 p0 p1 k1 big (replicate (z1).toNat 0:LI) 0
theorem Zg8 {W:World} {r:(LI)} {p0:LI} {p1:LI} {v0:Value} {v1:Value} (h:Z6z p0 p1=some r) (A0:Z5x (El.int .u64) W v0 p0) (A1:Z5x (El.int .u64) W v1 p1) :
    Calls Tryz.prog 350 [v0,v1].toArray W (Z7t W [] (fun v Ms=>∃ (u0:Value) (M1:List Ze),v=u0/\Ms = [.all M1]/\Z0b (El.int .u64) u0 M1 r)):=by
 unfold Z6z at h
 refine Zv mo Z0rw rfl (Zg4 _) ?_
 refine Z0<|Z1<|Z7 rfl<|Z2<|Z0<|bH h fun z1 e1 h=>cH h fun c1 h=>Z1<|Z7 rfl<|Z4 _ (Z5c rfl (Shp.rd A0))<|Z7 rfl<|Z4 _ (Z5c rfl (Shp.rd A1))<|Z4 _ (iz e1 (Zb rfl rfl rfl))<|Zc (Zgk (E:=(El.int .u64)) rfl rfl rfl c1 fun v5 w1 O1=>Z7 rfl<|Z2<|Z0<|Z0<|Z1<|Z7 rfl<|Z4 _ (Z5c rfl (Shp.rd A0))<|Z7 rfl<|Z2<|jH h fun k1 q1 h=>Zq (G:=fun t m=>∃ (l1:LI) (v679:Value) (w2:List Ze),k1 l1=some r/\Z0b (El.int .u64) v679 w2 l1/\Fit [(5,v679)] (w2 ++ []) t m) ?_ ?_)
 ·refine Zf<|Z0e (fun n1 t m=>∃ (l2:LI) (i1:Int) (v1126:Value) (w3:List Ze),Z23 p0 p1 k1 n1 l2 i1=some r/\Z0b (El.int .u64) v1126 w3 l2/\Fit [(1,v1),(5,v1126),(20,v0),(21,.int .i64 ((p0.length:Int))),(22,.int .i64 (i1))] (w3 ++ []) t m) big ?_ ?_
  ·exact ⟨(replicate (z1).toNat 0:LI),0,v5,w1,h,O1,⟨⟨rfl,rfl,rfl,rfl,rfl,trivial⟩,(.all .here .nil)⟩⟩
  ·rintro n1 t m ⟨l2,i1,v1126,w3,h,O2,hF⟩
   refine Zo hF ?_
   clear hF
   rcases n1 with _ | n1
   · exact Z1v h
   have h:Z4y p0 p1 k1 (Z23 p0 p1 k1 n1) l2 i1=some r:=h
   unfold Z4y at h
   obtain ⟨k2,q2⟩ : ∃ k,k=Z23 p0 p1 k1 n1:=⟨_,rfl⟩
   try rw [<- q2] at h
   refine Z0<|Z1<|Z4 _ (Zb rfl rfl rfl)<|Z2<|Z0<|Z0w h rfl (fun h=>?_) (fun h=>?_)
   ·refine Zy<|Z0<|Zf<|Z0<|cH h fun c2 h=>bH h fun z2 e2 h=>Z1<|Z7 rfl<|Z4 _ (Z7r rfl rfl (Shp.rd A0) c2)<|Z4 _ (iz e2 (Zbj (E:=(El.int .u64)) (s:=[.one (.int .u64 (p0.getD (i1).toNat 0))]) rfl (Z0z A0 Z17) (Z1k c2) rfl rfl))<|Z7 rfl<|Z7 rfl<|Z2<|Z0<|Z1<|Z7 rfl<|Z2<|Z0<|Z0<|Z1<|Z7 rfl<|Z4 _ (Z5c rfl (Shp.rd A1))<|Z7 rfl<|Z2<|jH h fun k3 q3 h=>Zq (G:=fun t m=>∃ (l3:LI) (i2:Int) (v1240:Value) (w4:List Ze),k3 l3 i2=some r/\Z0b (El.int .u64) v1240 w4 l3/\Fit [(1,v1),(5,v1240),(6,.int .i64 (i1)),(8,.int .u64 (i2)),(20,v0),(21,.int .i64 ((p0.length:Int))),(22,.int .i64 (i1))] (w4 ++ []) t m) ?_ ?_
    ·refine Zf<|Z0e (fun n2 t m=>∃ (l4:LI) (i3:Int) (i4:Int) (v1309:Value) (w5:List Ze),Z24 p1 i1 z2 k3 n2 l4 i3 i4=some r/\Z0b (El.int .u64) v1309 w5 l4/\Fit [(1,v1),(5,v1309),(6,.int .i64 (i1)),(7,.int .u64 (z2)),(8,.int .u64 (i3)),(20,v0),(21,.int .i64 ((p0.length:Int))),(22,.int .i64 (i1)),(27,v1),(28,.int .i64 ((p1.length:Int))),(29,.int .i64 (i4))] (w5 ++ []) t m) big ?_ ?_
     ·exact ⟨l2,0,0,v1126,w3,h,O2,⟨⟨rfl,rfl,rfl,rfl,rfl,rfl,rfl,rfl,rfl,rfl,rfl,trivial⟩,(.all .here .nil)⟩⟩
     ·rintro n2 t m ⟨l4,i3,i4,v1309,w5,h,O3,hF⟩
      refine Zo hF ?_
      clear hF
      rcases n2 with _ | n2
      · exact Z1v h
      have h:Z4z p1 i1 z2 k3 (Z24 p1 i1 z2 k3 n2) l4 i3 i4=some r:=h
      unfold Z4z at h
      obtain ⟨k4,q4⟩ : ∃ k,k=Z24 p1 i1 z2 k3 n2:=⟨_,rfl⟩
      try rw [<- q4] at h
      refine Z0<|Z1<|Z4 _ (Zb rfl rfl rfl)<|Z2<|Z0<|Z0w h rfl (fun h=>?_) (fun h=>?_)
      ·refine Zy<|Z0<|Zf<|Z0<|cH h fun c3 h=>bH h fun z3 e3 h=>Z1<|Z7 rfl<|Z4 _ (Z7r rfl rfl (Shp.rd A1) c3)<|Z4 _ (iz e3 (Zbj (E:=(El.int .u64)) (s:=[.one (.int .u64 (p1.getD (i4).toNat 0))]) rfl (Z0z A1 Z17) (Z1k c3) rfl rfl))<|Z7 rfl<|Z7 rfl<|Z2<|Z0<|oH h fun y1 f1 h=>Z1<|Z7 rfl<|Z7 rfl<|Z4 _ (Z1e rfl (Zd4 f1))<|Z7 rfl<|Z4 _ (Z0q rfl rfl)<|Z4 _ (Z0q rfl rfl)<|Z7 rfl<|Z7 rfl<|Z2<|Z0<|bH h fun z4 e4 h=>cH h fun c4 h=>bH h fun z5 e5 h=>cH h fun c5 h=>bH h fun z6 e6 h=>bH h fun z7 e7 h=>Z1<|Z7 rfl<|Z7 rfl<|Z7 rfl<|Z7 rfl<|Z4 _ (iz e4 (Zb rfl rfl rfl))<|Z4 _ (Z7r rfl rfl (Shp.own O3) c4)<|Z4 _ (iz e5 (Zbj (E:=(El.int .u64)) (s:=[.one (.int .u64 (l4.getD (z4).toNat 0))]) rfl (Z0f O3 .here) (Z1k c4) rfl rfl))<|Z4 _ (Zi5 rfl Zjr (xadd e6 e7 c5))<|Z7 rfl<|Z4 _ (Z0q rfl rfl)<|Z4 _ (Z0q rfl rfl)<|Z7 rfl<|Z7 rfl<|Z2<|Z0<|bH h fun z8 e8 h=>Z1<|Z7 rfl<|Z7 rfl<|Z4 _ (iz e8 (Zb rfl rfl rfl))<|Z7 rfl<|Z2<|Z0<|cH h fun c6 h=>bH h fun z9 e9 h=>bH h fun z10 e10 h=>Z1<|Z7 rfl<|Z7 rfl<|Z4 _ (Zi5 rfl Zjr (xadd e9 e10 c6))<|Z7 rfl<|Z4 _ (Z0q rfl rfl)<|Z4 _ (Z0q rfl rfl)<|Z7 rfl<|Z7 rfl<|Z2<|bH h fun z11 e11 h=>bH h fun z12 e12 h=>cH h fun c7 h=>bH h fun l5 g1 h=>Z1<|Z7 rfl<|Z7 rfl<|Z7 rfl<|Z4 _ (iz e11 (Zb rfl rfl rfl))<|Z7 rfl<|Z7 rfl<|Z7 rfl<|Z4 _ (iz e12 (Zb rfl rfl rfl))<|Z4 _ (Z7r rfl rfl (Shp.own O3) c7)<|Zc (Zn9 (E:=(El.int .u64)) g1 O3 .here rfl rfl rfl (Z1k c7) fun w6 O4=>Z7 rfl<|Z2<|bH h fun z13 e13 h=>Z1<|Z4 _ (iz e13 (Zb rfl rfl rfl))<|Z7 rfl<|Z2 ?_)
       rw [q4] at h
       exact ⟨n2,Nat.lt_succ_self _,l5,z12,z13,v1309,w6,h,O4,⟨⟨rfl,rfl,rfl,rfl,rfl,rfl,rfl,rfl,rfl,rfl,rfl,trivial⟩,(.all .here .nil)⟩⟩
      ·exact Z0o _ rfl<|⟨l4,i3,v1309,w5,h,O3,⟨⟨rfl,rfl,rfl,rfl,rfl,rfl,rfl,trivial⟩,(.all .here .nil)⟩⟩
    ·rintro t m ⟨l3,i2,v1240,w4,h,O5,hF⟩
     refine Zo hF ?_
     clear hF
     subst q3
     refine bH h fun z14 e14 h=>cH h fun c8 h=>bH h fun l6 g2 h=>Z1<|Z7 rfl<|Z7 rfl<|Z7 rfl<|Z4 _ (Z5c rfl (Shp.rd A1))<|Z4 _ (iz e14 (Zb rfl rfl rfl))<|Z7 rfl<|Z4 _ (Z7r rfl rfl (Shp.own O5) c8)<|Zc (Zn9 (E:=(El.int .u64)) g2 O5 .here rfl rfl rfl (Z1k c8) fun w7 O6=>Z2<|bH h fun z15 e15 h=>Z1<|Z4 _ (iz e15 (Zb rfl rfl rfl))<|Z7 rfl<|Z2 ?_)
     rw [q2] at h
     exact ⟨n1,Nat.lt_succ_self _,l6,z15,v1240,w7,h,O6,⟨⟨rfl,rfl,rfl,rfl,rfl,trivial⟩,(.all .here .nil)⟩⟩
   ·exact Z0o _ rfl<|⟨l2,v1126,w3,h,O2,⟨⟨rfl,trivial⟩,(.all .here .nil)⟩⟩
 ·rintro t m ⟨l1,v679,w2,h,O7,hF⟩
  refine Zo hF ?_
  clear hF
  subst q1
  refine Z0<|Z1<|Z7 rfl<|Z7 rfl<|Z2<|Zd ?_
  revert h; refine Z00 fun h=>?_
  subst h
  exact ⟨_,_,(.cons (.tmp rfl) .nil),(.all .here .nil),⟨_,rfl,⟨v679,w2,rfl,rfl,O7⟩⟩⟩
def Z2n (p0:LI) (k1:(LI)->Option ((LI)×(LI))) (k2:(LI)->Int->Option ((LI)×(LI))) (l1:LI) (i1:Int):Option ((LI)×(LI)) :=
 br ((decide (i1<(p0.length:Int)))) (
 chk (inB i1 p0.length) <|
 bnd (p0.getD (i1).toNat 0) fun z1 =>
 bnd (Zt .u64 z1 60) fun z2 =>
 bnd (wrap .i64 (i1+1)) fun z3 =>
 jn (fun (i2:Int)=>chk (decide ((l1.length+([i2]:LI).length)*8<=140737488355328)) <|
 bnd (l1++([i2]:LI)) fun l2 =>
 bnd (wrap .i64 (i1+1)) fun z4 =>
 k2 l2 z4) fun k3=>br ((decide (z3<(p0.length:Int)))) (
 bnd (wrap .i64 (i1+1)) fun z5 =>
 chk (inB z5 p0.length) <|
 bnd (p0.getD (z5).toNat 0) fun z6 =>
 bnd (Z08 .u64 z6 4) fun z7 =>
 bnd (Z8 .or .u64 z2 z7) fun z8 =>
 k3 z8
 ) (
 k3 z2
 )
 ) (
 k1 l1
 )
def Z1h (p0:LI) (k1:(LI)->Option ((LI)×(LI))):Nat->(LI)->Int->Option ((LI)×(LI))
  | 0,_,_=>none
  | n+1,l1,i1=>Z2n p0 k1 (Z1h p0 k1 n) l1 i1
def Z6x (p0:LI):Option ((LI)×(LI)) :=
 bnd (wr (replicate 4 0) 0 (p0.take 4)) fun l1 =>
 bnd (l1.getD 3 0) fun z1 =>
 bnd (Z8 .and .u64 z1 1152921504606846975) fun z2 =>
 bnd (Z62 l1 3 z2) fun l2 =>
 jn (fun (l3:LI)=>some (l2,l3)) fun k1=>Z1h p0 k1 big [] 3
theorem Zll {W:World} {r:(LI)×(LI)} {p0:LI} {v0:Value} (h:Z6x p0=some r) (A0:Z5x (El.int .u64) W v0 p0) :
    Calls Tryz.prog 360 [v0].toArray W (Z7t W [] (fun v Ms=>∃ (u1:Value) (M1:List Ze),v = .tuple #[agg [.ints .u64 4 (r.1)],u1]/\Ms = [.all M1]/\Z0b (El.int .u64) u1 M1 r.2)):=by
 unfold Z6x at h
 refine Zv mo Z0s3 rfl (Zg4 _) ?_
 refine Z0<|Z1<|Zc (Zs fun b1 hb1=>Z7 rfl<|Z2<|Z0<|Z1<|Zc (Zs fun b2 hb2=>Z2<|Z0<|bH h fun l1 g1 h=>Z1<|Z4 _ (Z9h rfl .no .no .no (by simp) (by decide))<|Z7 rfl<|Zc (Zgj (q:=[.ints .u64 4 (l1)]) (lo:=0) (hi:=4) (mz:=4) (base:=0) (cpy0 g1) rfl rfl (Z0z A0 Z17) rfl (by decide) rfl .here<|Z2<|Z0<|bH h fun z1 e1 h=>bH h fun z2 e2 h=>bH h fun l2 g2 h=>Z1<|Z4 _ (Z3f rfl rfl (by decide))<|Z4 _ (iz e1 (Z0j rfl .here rfl))<|Z4 _ (iz e2 (Zb rfl rfl rfl))<|Z4 _ (Z3f rfl rfl (by decide))<|Zc (Zdw (q:=[.ints .u64 4 (l2)]) (congrArg (fun z=>([.ints .u64 4 (z)]:List Seg)) g2.symm) rfl rfl rfl rfl .here<|Z2<|Z0<|Z1<|Z7 rfl<|Z2<|Z0<|Z0<|Z1<|Z7 rfl<|Z2<|jH h fun k1 q1 h=>Zq (G:=fun t m=>∃ (l3:LI) (v126:Value) (w1:List Ze),k1 l3=some r/\Z0b (El.int .u64) v126 w1 l3/\Fit [(2,pt' b1),(4,pt' b2),(5,v126)] (ck b2 393 [.ints .u64 4 (l2)]::(ck b1 393 [.ints .u64 4 ((replicate 4 0))]::(w1 ++ []))) t m) ?_ ?_))))
 ·refine Zf<|Z0e (fun n1 t m=>∃ (l4:LI) (i1:Int) (v202:Value) (w2:List Ze),Z1h p0 k1 n1 l4 i1=some r/\Z0b (El.int .u64) v202 w2 l4/\Fit [(0,v0),(2,pt' b1),(4,pt' b2),(5,v202),(6,.int .i64 (i1))] (ck b2 393 [.ints .u64 4 (l2)]::(ck b1 393 [.ints .u64 4 ((replicate 4 0))]::(w2 ++ []))) t m) big ?_ ?_
  ·exact ⟨[],3,(.slice none 0 0),[],h,Zbh,⟨⟨rfl,rfl,rfl,rfl,rfl,trivial⟩,(.o (.o (.no .nil)))⟩⟩
  ·rintro n1 t m ⟨l4,i1,v202,w2,h,O1,hF⟩
   refine Zo hF ?_
   clear hF
   rcases n1 with _ | n1
   · exact Z1v h
   have h:Z2n p0 k1 (Z1h p0 k1 n1) l4 i1=some r:=h
   unfold Z2n at h
   obtain ⟨k2,q2⟩ : ∃ k,k=Z1h p0 k1 n1:=⟨_,rfl⟩
   try rw [<- q2] at h
   refine Z0<|Z0<|Z1<|Z7 rfl<|Z7 rfl<|Z4 _ (Z5c rfl (Shp.rd A0))<|Z4 _ (Zb rfl rfl rfl)<|Z2<|Z0w h rfl (fun h=>?_) (fun h=>?_)
   ·refine Zy<|Z0<|Zf<|Z0<|cH h fun c1 h=>bH h fun z3 e3 h=>bH h fun z4 e4 h=>Z1<|Z7 rfl<|Z7 rfl<|Z4 _ (Z7r rfl rfl (Shp.rd A0) c1)<|Z4 _ (iz e3 (Zbj (E:=(El.int .u64)) (s:=[.one (.int .u64 (p0.getD (i1).toNat 0))]) rfl (Z0z A0 Z17) (Z1k c1) rfl rfl))<|Z4 _ (iz e4 (Z9g rfl rfl (by decide)))<|Z7 rfl<|Z2<|Z0<|Z0<|bH h fun z5 e5 h=>Z1<|Z7 rfl<|Z4 _ (iz e5 (Zb rfl rfl rfl))<|Z7 rfl<|Z4 _ (Z5c rfl (Shp.rd A0))<|Z4 _ (Zb rfl rfl rfl)<|Z2<|jH h fun k3 q3 h=>Zq (G:=fun t m=>∃ (i2:Int),k3 i2=some r/\Fit [(0,v0),(2,pt' b1),(4,pt' b2),(5,v202),(6,.int .i64 (i1)),(7,.int .u64 (i2))] (ck b2 393 [.ints .u64 4 (l2)]::(ck b1 393 [.ints .u64 4 ((replicate 4 0))]::(w2 ++ []))) t m) ?_ ?_
    ·refine Z0w h rfl (fun h=>?_) (fun h=>?_)
     ·exact bH h fun z6 e6 h=>cH h fun c2 h=>bH h fun z7 e7 h=>bH h fun z8 e8 h=>bH h fun z9 e9 h=>Z1<|Z7 rfl<|Z7 rfl<|Z7 rfl<|Z4 _ (iz e6 (Zb rfl rfl rfl))<|Z4 _ (Z7r rfl rfl (Shp.rd A0) c2)<|Z4 _ (iz e7 (Zbj (E:=(El.int .u64)) (s:=[.one (.int .u64 (p0.getD (z6).toNat 0))]) rfl (Z0z A0 Z17) (Z1k c2) rfl rfl))<|Z4 _ (iz e8 (Znp rfl rfl (by decide)))<|Z4 _ (iz e9 (Zb rfl rfl rfl))<|Z7 rfl<|Z2<|⟨z9,h,⟨⟨rfl,rfl,rfl,rfl,rfl,rfl,trivial⟩,(.o (.o (.all .here .nil)))⟩⟩
     ·exact Zy<|⟨z4,h,⟨⟨rfl,rfl,rfl,rfl,rfl,rfl,trivial⟩,(.o (.o (.all .here .nil)))⟩⟩
    ·rintro t m ⟨i2,h,hF⟩
     refine Zo hF ?_
     clear hF
     subst q3
     refine cH h fun c3 h=>bH h fun l5 g3 h=>Z1<|Z7 rfl<|Z7 rfl<|Zc (Z5b (E:=(El.int .u64)) (xs:=[i2]) (.one rfl rfl rfl BdR.nil) (.cons (p:=[.one (.int .u64 (i2))]) rfl .nil) rfl fun v234 w3 O2=>Zc (Zbd (E:=(El.int .u64)) g3 rfl O1 (.app .t2) rfl (Z0f O2 .here) c3 fun v239 w4 O3=>Z7 rfl<|Z2<|bH h fun z10 e10 h=>Z1<|Z7 rfl<|Z4 _ (iz e10 (Zb rfl rfl rfl))<|Z7 rfl<|Z2 ?_))
     rw [q2] at h
     exact ⟨n1,Nat.lt_succ_self _,l5,z10,v239,w4,h,O3,⟨⟨rfl,rfl,rfl,rfl,rfl,trivial⟩,(.one (.app (.app .here)) (.one (.app (.app .here)) (.all .here .nil)))⟩⟩
   ·exact Z0o _ rfl<|⟨l4,v202,w2,h,O1,⟨⟨rfl,rfl,rfl,trivial⟩,(.o (.o (.all .here .nil)))⟩⟩
 ·rintro t m ⟨l3,v126,w1,h,O4,hF⟩
  refine Zo hF ?_
  clear hF
  subst q1
  refine Z0<|Z1<|Z4 _ (Z04 (p:=[.ints .u64 4 (l2)]) rfl .here rfl)<|Z7 rfl<|Zc (Zn (q:=[.ints .u64 4 (l2)]) rfl rfl rfl rfl rfl .t1<|Z7 rfl<|Z2<|Zd ?_)
  revert h; refine Z00 fun h=>?_
  subst h
  exact ⟨_,_,(.cons (.agg rfl .t1 rfl) (.cons (.tmp rfl) .nil)),(.all .t2 .nil),⟨_,rfl,⟨v126,w1,rfl,rfl,O4⟩⟩⟩
def Zea:OL :=
 some ([6346243789798364141,1503914060200516822]:LI)
theorem Zmc {W:World} {r:(LI)} (h:Zea=some r)  :
    Calls Tryz.prog 361 [].toArray W (Z7t W [] (fun v Ms=>∃ (u0:Value) (M1:List Ze),v=u0/\Ms = [.all M1]/\Z0b (El.int .u64) u0 M1 r)):=by
 unfold Zea at h
 refine Zv mo Z0s4 rfl (Zg4 _) ?_
 refine Z0<|Z1<|Z7 rfl<|Z2<|Z0<|Z1<|Zc (Z5b (E:=(El.int .u64)) (xs:=[6346243789798364141,1503914060200516822]) (.one rfl rfl rfl (.one rfl rfl rfl BdR.nil)) (.cons (p:=[.one (.int .u64 (6346243789798364141))]) rfl (.cons (p:=[.one (.int .u64 (1503914060200516822))]) rfl .nil)) rfl fun v3 w1 O1=>Z7 rfl<|Z2<|Zd ?_)
 revert h; refine Z00 fun h=>?_
 subst h
 exact ⟨_,_,(.cons (.tmp rfl) .nil),(.all .here .nil),⟨_,rfl,⟨v3,w1,rfl,rfl,O1⟩⟩⟩
abbrev Z6a:El (LI):=⟨4,fun x=>cells [.ints .u64 4 (x)],fun x=>by rw [cells_length]; rfl,fun x=>(Z0r Zak Z43),by decide,(replicate 4 0)⟩
def Z4c (k1:(List (LI))->OL) (k2:(LI)->Int->(List (LI))->OL) (l1:LI) (i1:Int) (a1:List (LI)):OL :=
 br ((decide (i1<4))) (
 opt (Z6x l1) fun y1 =>
 bnd (Int.tmod i1 2) fun z1 =>
 bnd (Int.tmod i1 2) fun z2 =>
 chk (inB z2 2) <|
 bnd (a1.getD (z2).toNat (replicate 4 0)) fun x1 =>
 opt (Z61 x1 y1.1) fun y2 =>
 chk (inB z1 2) <|
 bnd (Zkv (replicate 4 0) a1 (z1).toNat y2.1) fun l2 =>
 opt (Zea ) fun y3 =>
 opt (Z6z y1.2 y3) fun y4 =>
 bnd (wrap .i64 (i1+1)) fun z3 =>
 k2 y4 z3 l2
 ) (
 k1 a1
 )
def Z1g (k1:(List (LI))->OL):Nat->(LI)->Int->(List (LI))->OL
  | 0,_,_,_=>none
  | n+1,l1,i1,a1=>Z4c k1 (Z1g k1 n) l1 i1 a1
def Z4m (p0:LI):OL :=
 jn (fun (a1:List (LI))=>opt (Z61 G_order G_order) fun y1 =>
 bnd (a1.getD 0 (replicate 4 0)) fun x1 =>
 opt (Z61 x1 y1.1) fun y2 =>
 bnd (a1.getD 1 (replicate 4 0)) fun x2 =>
 opt (Z6w y2.1 x2) fun y3 =>
 opt (Z8a y3.1) fun y4 =>
 some y4) fun k1=>Z1g k1 big p0 0 (replicate 2 (replicate 4 0))
theorem Zaq {W:World} {r:(LI)} {p0:LI} {v0:Value} (h:Z4m p0=some r) (hG:Globs W) (A0:Z5x (El.int .u64) W v0 p0) :
    Calls Tryz.prog 346 [v0].toArray W (Z2d W (agg [.ints .u64 4 (r)])):=by
 unfold Z4m at h
 refine Z9 mo Z0rs rfl ?_
 refine Z0<|Z1<|Zc (Zs fun b1 u1=>Z2<|Z0<|Z1<|Zc (Zlu (z':=[.rows 4 2 (Zax Z6a ((replicate 2 (replicate 4 0))))]) (Zeq (E:=Z6a) rfl rfl) fun b2 u2=>Z2<|Z0<|Z0<|Z1<|Z7 rfl<|Z2<|jH h fun k1 q1 h=>Zq (G:=fun t m=>∃ (a1:List (LI)),k1 a1=some r/\Fit [(2,pt' b1),(3,pt' b2)] (ck b2 415 [.rows 4 2 (Zax Z6a (a1))]::(ck b1 393 [.ints .u64 4 ((replicate 4 0))] :: [])) t m) ?_ ?_))
 ·refine Zf<|Z0e (fun n1 t m=>∃ (l1:LI) (i1:Int) (a2:List (LI)) (v194:Value) (w1:List Ze),Z1g k1 n1 l1 i1 a2=some r/\Zoc (⟨Tryz.prog,d346.n,W,[]⟩:Cfg) w1 (El.int .u64) v194 l1/\Shp v194 l1.length/\Fit [(0,v194),(2,pt' b1),(3,pt' b2),(10,.int .i64 (i1))] (ck b2 415 [.rows 4 2 (Zax Z6a (a2))]::(ck b1 393 [.ints .u64 4 ((replicate 4 0))]::(w1 ++ []))) t m) big ?_ ?_
  ·exact ⟨p0,0,(replicate 2 (replicate 4 0)),v0,[],h,(Z0z A0 Z17),(Shp.rd A0),⟨⟨rfl,rfl,rfl,rfl,trivial⟩,(.o (.o (.no .nil)))⟩⟩
  ·rintro n1 t m ⟨l1,i1,a2,v194,w1,h,H197,Z198,hF⟩
   refine Zo hF ?_
   clear hF
   rcases n1 with _ | n1
   · exact Z1v h
   have h:Z4c k1 (Z1g k1 n1) l1 i1 a2=some r:=h
   unfold Z4c at h
   obtain ⟨k2,q2⟩ : ∃ k,k=Z1g k1 n1:=⟨_,rfl⟩
   try rw [<- q2] at h
   refine Z0<|Z1<|Z4 _ (Zb rfl rfl rfl)<|Z2<|Z0<|Z0w h rfl (fun h=>?_) (fun h=>?_)
   ·refine Zy<|Z0<|Zf<|Z0<|Z1<|Z7 rfl<|Z7 rfl<|Z2<|Z0<|Z1<|Zc (Zs fun b3 u3=>Z2<|Z0<|oH h fun y1 f1 h=>Z1<|Z7 rfl<|Zc (Zh rfl (fun w hw=>Zll (r:=y1) (p0:=l1) f1 ((Z00c H197 .t3) w hw)) fun v210 Msv1 R1=>?_))
    obtain ⟨v212,w2,rfl,rfl,O1⟩:=R1
    refine Z7 rfl<|Z4 _ (Z0q rfl rfl)<|Z4 _ (Z0q rfl rfl)<|Zc (Zn (q:=[.ints .u64 4 (y1.1)]) rfl rfl rfl rfl rfl (.app .here)<|Z7 rfl<|Z2<|Z0<|bH h fun z1 e1 h=>bH h fun z2 e2 h=>cH h fun c1 h=>bH h fun x1 j1 h=>oH h fun y2 f2 h=>cH h fun c2 h=>bH h fun l2 g1 h=>Zj<|Z6 _ (Z09 rfl)<|Z6 _ (iz e1 (Zlh rfl rfl (by decide)))<|Z6 _ (Z09 rfl)<|Z6 _ (iz e2 (Zlh rfl rfl (by decide)))<|Z6 _ (Z3f rfl rfl (Z1y c1))<|Zg _ (az (fun x1=>agg [.ints .u64 4 (x1)]) j1 (Zrv (base:=0) (w:=4) rfl (.app .t1) rfl (Z1k c1) rfl rfl rfl))<|Zg _ (Z04 (p:=[.ints .u64 4 (y1.1)]) rfl (.app .here) rfl)<|Z6 _ (Z06 (vs:=[agg [.ints .u64 4 (x1)],agg [.ints .u64 4 (y1.1)]]) (v:=.tuple #[agg [.ints .u64 4 (y2.1)],.int .u64 (y2.2)]) rfl (fun w hw=>Z98 (r:=y2) (p0:=x1) (p1:=y1.1) f2 ))<|Z6 _ (Z09 rfl)<|Z6 _ (Z0q rfl rfl)<|Z6 _ (Z0q rfl rfl)<|Z6 _ (Z3f rfl rfl (Z1y c2))<|Z1n rfl (Zt3 (q:=[.rows 4 2 (Zax Z6a (l2))]) (E:=Z6a) (base:=0) g1 rfl rfl rfl rfl (Z1k c2) rfl (.app .t1)<|Zr<|oH h fun y3 f3 h=>oH h fun y4 f4 h=>Z1<|Z7 rfl<|Zc (Zh rfl (fun w hw=>Zmc (r:=y3) f3 ) fun v225 Msv2 R2=>?_)))
    obtain ⟨_,w3,rfl,rfl,O2⟩:=R2
    refine Zc (Zh rfl (fun w hw=>Zg8 (r:=y4) (p0:=y1.2) (p1:=y3) f4 ((Z0f O1 (.app .here)) w hw) ((Z0f O2 .here) w hw)) fun v231 Msv3 R3=>?_)
    obtain ⟨_,w4,rfl,rfl,O3⟩:=R3
    refine Z7 rfl<|Z2<|bH h fun z3 e3 h=>Z1<|Z4 _ (iz e3 (Zb rfl rfl rfl))<|Z7 rfl<|Z2 ?_
    rw [q2] at h
    exact ⟨n1,Nat.lt_succ_self _,y4,z3,l2,v231,w4,h,(Z00d O3),(Shp.own O3),⟨⟨rfl,rfl,rfl,rfl,trivial⟩,(.one (.app (.app (.app .t1))) (.one (.app (.app (.app .t1))) (.all .here .nil)))⟩⟩
   ·exact Z0o _ rfl<|⟨a2,h,⟨⟨rfl,rfl,trivial⟩,(.o (.o .nil))⟩⟩
 ·rintro t m ⟨a1,h,hF⟩
  refine Zo hF ?_
  clear hF
  subst q1
  refine Z0<|oH h fun y5 f5 h=>Z1<|Z4 _ (Ztl (o0:=0) (off:=0) rfl (hG.g3) (by simp) rfl)<|Z4 _ (Ztl (o0:=0) (off:=0) rfl (hG.g3) (by simp) rfl)<|Z4 _ (Z06 (vs:=[agg [.ints .u64 4 (G_order)],agg [.ints .u64 4 (G_order)]]) (v:=.tuple #[agg [.ints .u64 4 (y5.1)],.int .u64 (y5.2)]) rfl (fun w hw=>Z98 (r:=y5) (p0:=G_order) (p1:=G_order) f5 ))<|Z7 rfl<|Z4 _ (Z0q rfl rfl)<|Z4 _ (Z0q rfl rfl)<|Zc (Zs fun b4 u4=>Zc (Zn (q:=[.ints .u64 4 (y5.1)]) rfl rfl rfl rfl rfl .here<|Z7 rfl<|Z2<|Z0<|bH h fun x2 j2 h=>oH h fun y6 f6 h=>Z1<|Z4 _ (Z3f rfl rfl (by decide))<|Z4 _ (az (fun x2=>agg [.ints .u64 4 (x2)]) j2 (Z08e (base:=0) (i:=0) (c:=0) (w:=4) (len:=2) rfl .t1 rfl (by decide) rfl rfl rfl))<|Z4 _ (Z04 (p:=[.ints .u64 4 (y5.1)]) rfl .here rfl)<|Z4 _ (Z06 (vs:=[agg [.ints .u64 4 (x2)],agg [.ints .u64 4 (y5.1)]]) (v:=.tuple #[agg [.ints .u64 4 (y6.1)],.int .u64 (y6.2)]) rfl (fun w hw=>Z98 (r:=y6) (p0:=x2) (p1:=y5.1) f6 ))<|Z7 rfl<|Z4 _ (Z0q rfl rfl)<|Z4 _ (Z0q rfl rfl)<|Zc (Zs fun b5 u5=>Zc (Zn (q:=[.ints .u64 4 (y6.1)]) rfl rfl rfl rfl rfl .here<|Z7 rfl<|Z2<|Z0<|bH h fun x3 j3 h=>oH h fun y7 f7 h=>Z1<|Z4 _ (Z04 (p:=[.ints .u64 4 (y6.1)]) rfl .here rfl)<|Z4 _ (Z3f rfl rfl (by decide))<|Z4 _ (az (fun x3=>agg [.ints .u64 4 (x3)]) j3 (Z08e (base:=0) (i:=1) (c:=0) (w:=4) (len:=2) rfl .t2 rfl (by decide) rfl rfl rfl))<|Z4 _ (Z06 (vs:=[agg [.ints .u64 4 (y6.1)],agg [.ints .u64 4 (x3)]]) (v:=.tuple #[agg [.ints .u64 4 (y7.1)],.int .u64 (y7.2)]) rfl (fun w hw=>Zbr (r:=y7) (p0:=y6.1) (p1:=x3) f7 ))<|Z7 rfl<|Z4 _ (Z0q rfl rfl)<|Z4 _ (Z0q rfl rfl)<|Zc (Zn (q:=[.ints .u64 4 (y7.1)]) rfl rfl rfl rfl rfl .here<|Z2<|Z0<|oH h fun y8 f8 h=>Z1<|Z4 _ (Z04 (p:=[.ints .u64 4 (y7.1)]) rfl .here rfl)<|Z4 _ (Z06 (vs:=[agg [.ints .u64 4 (y7.1)]]) (v:=agg [.ints .u64 4 (y8)]) rfl (fun w hw=>Zg7 (r:=y8) (p0:=y7.1) f8 (hG.at hw (by simp))))<|Zc (Zn (q:=[.ints .u64 4 (y8)]) rfl rfl rfl rfl rfl .t3<|Z2<|Zd ?_))))))
  revert h; refine Z00 fun h=>?_
  subst h
  exact ⟨_,(.cons (.agg rfl .t3 rfl) .nil),rfl⟩
def Zd1 (p0:LI) (k1:(LI)->OL) (k2:Int->(LI)->OL) (i1:Int) (a1:LI):OL :=
 br ((decide (i1<8))) (
 bnd (wrap .i64 (8*i1)) fun z1 =>
 opt (Z7n (tk p0 0 64) z1) fun y1 =>
 chk (inB i1 8) <|
 bnd (Z62 a1 (i1).toNat y1.1) fun l1 =>
 bnd (wrap .i64 (i1+1)) fun z2 =>
 k2 z2 l1
 ) (
 k1 a1
 )
def Z5k (p0:LI) (k1:(LI)->OL):Nat->Int->(LI)->OL
  | 0,_,_=>none
  | n+1,i1,a1=>Zd1 p0 k1 (Z5k p0 k1 n) i1 a1
def Zap (p0:LI):OL :=
 jn (fun (a1:LI)=>opt (Z4m (tk a1 0 8)) fun y1 =>
 opt (Z6y y1) fun y2 =>
 some y2) fun k1=>Z5k p0 k1 big 0 (replicate 8 0)
theorem Zku {W:World} {r:(LI)} {p0:LI} (h:Zap p0=some r) (hG:Globs W) :
    Calls Tryz.prog 303 [agg [b6' p0]].toArray W (Z2d W (agg [b3' r])):=by
 unfold Zap at h
 refine Z9 mo Z0r2 rfl ?_
 refine Z0<|Z1<|Zc (Z03 (s:=[b6' p0]) rfl fun b1 u1=>Zc (Zs fun b2 u2=>Z2<|Z0<|Z1<|Zc (Zs fun b3 u3=>Z2<|Z0<|Z0<|Z1<|Z7 rfl<|Z2<|jH h fun k1 q1 h=>Zq (G:=fun t m=>∃ (a1:LI),k1 a1=some r/\Fit [(2,pt' b2),(3,pt' b3)] (ck b3 379 [u8' a1]::(ck b2 118 [b3' (replicate 32 0)]::(ck b1 212 [b6' p0] :: []))) t m) ?_ ?_)))
 ·refine Zf<|Z0e (fun n1 t m=>∃ (i1:Int) (a2:LI),Z5k p0 k1 n1 i1 a2=some r/\Fit [(1,pt' b1),(2,pt' b2),(3,pt' b3),(5,.int .i64 (i1))] (ck b3 379 [u8' a2]::(ck b2 118 [b3' (replicate 32 0)]::(ck b1 212 [b6' p0] :: []))) t m) big ?_ ?_
  ·exact ⟨0,(replicate 8 0),h,⟨⟨rfl,rfl,rfl,rfl,trivial⟩,(.o (.o (.o .nil)))⟩⟩
  ·rintro n1 t m ⟨i1,a2,h,hF⟩
   refine Zo hF ?_
   clear hF
   rcases n1 with _ | n1
   · exact Z1v h
   have h:Zd1 p0 k1 (Z5k p0 k1 n1) i1 a2=some r:=h
   unfold Zd1 at h
   obtain ⟨k2,q2⟩ : ∃ k,k=Z5k p0 k1 n1:=⟨_,rfl⟩
   try rw [<- q2] at h
   refine Z0<|Z1<|Z4 _ (Zb rfl rfl rfl)<|Z2<|Z0<|Z0w h rfl (fun h=>?_) (fun h=>?_)
   ·refine Zy<|Z0<|Zf<|Z0<|Z1<|Z7 rfl<|Z7 rfl<|Z2<|bH h fun z1 e1 h=>oH h fun y1 f1 h=>cH h fun c1 h=>bH h fun l1 g1 h=>Z1<|Z7 rfl<|Z4 _ (Z9h rfl .no .no .no (by simp) (by decide))<|Z7 rfl<|Z4 _ (iz e1 (Zb rfl rfl rfl))<|Z4 _ (Z06 rfl (fun w hw=>Za7 f1 ((Z1x (s:=[b6' p0]) (N:=64) (k:=.u8) (base:=0) (lo:=0) (hi:=64) (mz:=64) .t2 rfl (by decide)) w hw)))<|Z7 rfl<|Z4 _ (Z0q rfl rfl)<|Z4 _ (Z0q rfl rfl)<|Z4 _ (Z3f rfl rfl (Z1y c1))<|Zc (Z6c (q:=[u8' l1]) (base:=0) g1 rfl rfl rfl (Z1k c1) rfl .here<|Z2<|bH h fun z2 e2 h=>Z1<|Z4 _ (iz e2 (Zb rfl rfl rfl))<|Z7 rfl<|Z2 ?_)
    rw [q2] at h
    exact ⟨n1,Nat.lt_succ_self _,z2,l1,h,⟨⟨rfl,rfl,rfl,rfl,trivial⟩,(.o (.o (.o .nil)))⟩⟩
   ·exact Z0o _ rfl<|⟨a2,h,⟨⟨rfl,rfl,trivial⟩,(.o (.o (.o .nil)))⟩⟩
 ·rintro t m ⟨a1,h,hF⟩
  refine Zo hF ?_
  clear hF
  subst q1
  refine Z0<|oH h fun y2 f2 h=>oH h fun y3 f3 h=>Z1<|Z4 _ (Z9h rfl .no .no .no (by simp) (by decide))<|Z4 _ (Z06 rfl (fun w hw=>Zaq f2 (hG.at hw (by simp)) ((Z1x (s:=[u8' a1]) (N:=8) (k:=.u64) (base:=0) (lo:=0) (hi:=8) (mz:=8) .here rfl (by decide)) w hw)))<|Z4 _ (Z1e rfl (Zbs f3))<|Zc (Zn (q:=[b3' y3]) rfl rfl rfl rfl rfl .t1<|Z2<|Zd ?_)
  revert h; refine Z00 fun h=>?_
  subst h
  exact ⟨_,(.cons (.agg rfl .t1 rfl) .nil),rfl⟩
def Zcp (p0:List (LI)) (k1:(LI)->(LI)->Int->Int->OL) (k2:Int->(LI)->(LI)->Int->Int->OL) (i1:Int) (a1:LI) (a2:LI) (i2:Int) (i3:Int):OL :=
 br ((decide (i1<(p0.length:Int)))) (
 chk (inB i1 p0.length) <|
 opt (Z1m (⟨a1,a2,i2,i3⟩:Zx) (p0.getD (i1).toNat [])) fun y1 =>
 bnd (wrap .i64 (i1+1)) fun z1 =>
 k2 z1 y1.gstate y1.gheld y1.ghave y1.glength
 ) (
 k1 a1 a2 i2 i3
 )
def Z70 (p0:List (LI)) (k1:(LI)->(LI)->Int->Int->OL):Nat->Int->(LI)->(LI)->Int->Int->OL
  | 0,_,_,_,_,_=>none
  | n+1,i1,a1,a2,i2,i3=>Zcp p0 k1 (Z70 p0 k1 n) i1 a1 a2 i2 i3
def Zas (p0:List (LI)):OL :=
 opt (Zdn ) fun y1 =>
 jn (fun (a1:LI) (a2:LI) (i1:Int) (i2:Int)=>opt (Z2w (⟨a1,a2,i1,i2⟩:Zx)) fun y2 =>
 opt (Zap y2.1) fun y3 =>
 some y3) fun k1=>Z70 p0 k1 big 0 y1.gstate y1.gheld y1.ghave y1.glength
theorem Z65 {W:World} {r:(LI)} {p0:List (LI)} {v0:Value} {us0:List SlT} (h:Zas p0=some r) (hG:Globs W) (A0:Z5x El.sl W v0 us0) (B0:Zhl (El.int .u8) W us0 p0) :
    Calls Tryz.prog 204 [v0].toArray W (Z2d W (agg [b3' r])):=by
 unfold Zas at h
 refine Z9 mo Z0pk rfl ?_
 refine Z0<|Z1<|Zc (Zs fun b1 u1=>Z2<|Z0<|oH h fun y1 f1 h=>Z1<|Zc (Zh rfl (fun w hw=>Zig  f1 (hG.at hw (by simp))) fun v5 o1 R1=>?_))
 obtain ⟨b2,T8,rfl,rfl⟩:=R1
 refine Z7 rfl<|Z2<|Z0<|Z0<|Z1<|Z7 rfl<|Z4 _ ((Ztd (Z5c rfl (Shp.rd A0)) (Zhl.len B0)))<|Z7 rfl<|Z2<|jH h fun k1 q1 h=>Zq (G:=fun t m=>∃ (a1:LI) (a2:LI) (i1:Int) (i2:Int),k1 a1 a2 i1 i2=some r/\Fit [(2,pt' b1),(3,pt' b2)] (ck b2 T8 [u8' a1,.ints .u8 128 (a2),.one (.int .i64 (i1)),.one (.int .u64 (i2))]::(ck b1 118 [b3' (replicate 32 0)] :: [])) t m) ?_ ?_
 ·refine Zf<|Z0e (fun n1 t m=>∃ (i3:Int) (a3:LI) (a4:LI) (i4:Int) (i5:Int),Z70 p0 k1 n1 i3 a3 a4 i4 i5=some r/\Fit [(2,pt' b1),(3,pt' b2),(7,v0),(8,.int .i64 ((p0.length:Int))),(9,.int .i64 (i3))] (ck b2 T8 [u8' a3,.ints .u8 128 (a4),.one (.int .i64 (i4)),.one (.int .u64 (i5))]::(ck b1 118 [b3' (replicate 32 0)] :: [])) t m) big ?_ ?_
  ·exact ⟨0,y1.gstate,y1.gheld,y1.ghave,y1.glength,h,⟨⟨rfl,rfl,rfl,rfl,rfl,trivial⟩,(.o (.o .nil))⟩⟩
  ·rintro n1 t m ⟨i3,a3,a4,i4,i5,h,hF⟩
   refine Zo hF ?_
   clear hF
   rcases n1 with _ | n1
   · exact Z1v h
   have h:Zcp p0 k1 (Z70 p0 k1 n1) i3 a3 a4 i4 i5=some r:=h
   unfold Zcp at h
   obtain ⟨k2,q2⟩ : ∃ k,k=Z70 p0 k1 n1:=⟨_,rfl⟩
   try rw [<- q2] at h
   refine Z0<|Z1<|Z4 _ (Zb rfl rfl rfl)<|Z2<|Z0<|Z0w h rfl (fun h=>?_) (fun h=>?_)
   ·refine Zy<|Z0<|Zf<|Z0<|cH h fun c1 h=>Z1<|Z4 _ (Z7r rfl rfl (Shp.rd A0) (Zl2 B0 c1))<|Z4 _ (Zbj (E:=El.sl) (s:=[.one (slV (us0.getD (i3).toNat (none,0,0)))]) rfl (Z0z A0 Z17) (Z1k (Zl2 B0 c1)) rfl rfl)<|Z7 rfl<|Z2<|oH h fun y2 f2 h=>Z1<|Z7 rfl<|Z7 rfl<|Zc (Z40 (mS:=[_]) rfl (Z3y.perm .here) (fun w hw=>Z6m (p0:=(⟨a3,a4,i4,i5⟩:Zx)) f2 (Zbp hw (mS:=[_]) (Z3y.perm .here)) (hG.at hw (by simp)) (hG.ap (by simp) .here hw) ⟨(Z0z (Zhl.get B0 _ (Z1k c1)) Z17) w hw,(Zn2 (E:=(El.int .u8)) (Zhl.get B0 _ (Z1k c1)) .here hw)⟩) fun v93 o2 R2=>?_)
    obtain ⟨rfl,rfl⟩:=R2
    refine Z2<|bH h fun z1 e1 h=>Z1<|Z4 _ (iz e1 (Zb rfl rfl rfl))<|Z7 rfl<|Z2 ?_
    rw [q2] at h
    exact ⟨n1,Nat.lt_succ_self _,z1,y2.gstate,y2.gheld,y2.ghave,y2.glength,h,⟨⟨rfl,rfl,rfl,rfl,rfl,trivial⟩,(.o (.o .nil))⟩⟩
   ·exact Z0o _ rfl<|⟨a3,a4,i4,i5,h,⟨⟨rfl,rfl,trivial⟩,(.o (.o .nil))⟩⟩
 ·rintro t m ⟨a1,a2,i1,i2,h,hF⟩
  refine Zo hF ?_
  clear hF
  subst q1
  refine Z0<|oH h fun y3 f3 h=>oH h fun y4 f4 h=>Z1<|Z7 rfl<|Zc (Z40 (mS:=[_]) rfl (Z3y.perm .here) (fun w hw=>Zb4 (p0:=(⟨a1,a2,i1,i2⟩:Zx)) f3 (Zbp hw (mS:=[_]) (Z3y.perm .here)) (hG.at hw (by simp)) (hG.ap (by simp) .here hw)) fun v99 o3 R3=>?_)
  obtain ⟨rfl,rfl⟩:=R3
  refine Z4 _ (Z06 rfl (fun w hw=>Zku f4 (hG.at hw (by simp))))<|Zc (Zn (q:=[b3' y4]) rfl rfl rfl rfl rfl .t1<|Z2<|Zd ?_)
  revert h; refine Z00 fun h=>?_
  subst h
  exact ⟨_,(.cons (.agg rfl .t1 rfl) .nil),rfl⟩
def Z6d (p0:LI):Option Bool :=
 opt (Z30 p0) fun y1 =>
 opt (Zbe y1) fun y2 =>
 some (ieq 32 y2 p0)
theorem Zj3 {W:World} {r:Bool} {p0:LI} (h:Z6d p0=some r)  :
    Calls Tryz.prog 330 [agg [b3' p0]].toArray W (Z2d W (.bool (r))):=by
 unfold Z6d at h
 refine Z9 mo Z0rf rfl ?_
 refine Z0<|Z1<|Zc (Z03 (s:=[b3' p0]) rfl fun b1 u1=>Z7 rfl<|Z2<|Z0<|oH h fun y1 f1 h=>oH h fun y2 f2 h=>Zj<|Zg _ (Z04 (p:=[b3' p0]) rfl .here rfl)<|Z6 _ (Z1e rfl (Z68 f1))<|Z6 _ (Z1e rfl (Zh2 f2))<|Zg _ (Z04 (p:=[b3' p0]) rfl .here rfl)<|Z6 _ (Z03c rfl rfl rfl rfl _ (Zmm Zml))<|Z6 _ (Z09 rfl)<|Zr<|Zd ?_)
 revert h; refine Z00 fun h=>?_
 subst h
 exact ⟨_,(.cons (.tmp rfl) .nil),rfl⟩
def Z5q (p0:LI):Option Bool :=
 opt (Z1p p0) fun y1 =>
 bnd (([0,0,0,0,0]:LI)) fun z1 =>
 some (ieq 5 y1 z1)
theorem Zbf {W:World} {r:Bool} {p0:LI} (h:Z5q p0=some r)  :
    Calls Tryz.prog 333 [agg [u5' p0]].toArray W (Z2d W (.bool (r))):=by
 unfold Z5q at h
 refine Z9 mo Z0ri rfl ?_
 refine Z0<|Z1<|Zc (Z03 (s:=[u5' p0]) rfl fun b1 u1=>Z7 rfl<|Z2<|Z0<|oH h fun y1 f1 h=>bH h fun z1 e1 h=>Z1<|Z4 _ (Z04 (p:=[u5' p0]) rfl .here rfl)<|Z4 _ (Z1e rfl (Z16 f1))<|Z4 _ (az (fun z=>agg [.ints .u64 5 z]) e1 (Ze2 BdR.nil))<|Z4 _ (Z03c rfl rfl rfl rfl _ (Zmm Zml))<|Z7 rfl<|Z2<|Zd ?_)
 revert h; refine Z00 fun h=>?_
 subst h
 exact ⟨_,(.cons (.tmp rfl) .nil),rfl⟩
def Z9c (p0:LI) (p1:LI):Option Bool :=
 opt (Z1p p0) fun y1 =>
 opt (Z1p p1) fun y2 =>
 some (ieq 5 y1 y2)
theorem Zh3 {W:World} {r:Bool} {p0:LI} {p1:LI} (h:Z9c p0 p1=some r)  :
    Calls Tryz.prog 356 [agg [u5' p0],agg [u5' p1]].toArray W (Z2d W (.bool (r))):=by
 unfold Z9c at h
 refine Z9 mo Z0s0 rfl ?_
 refine Z0<|Z1<|Zc (Z03 (s:=[u5' p0]) rfl fun b1 u1=>Zc (Z03 (s:=[u5' p1]) rfl fun b2 u2=>Z7 rfl<|Z2<|Z0<|oH h fun y1 f1 h=>oH h fun y2 f2 h=>Zj<|Zg _ (Z04 (p:=[u5' p0]) rfl .t1 rfl)<|Z6 _ (Z1e rfl (Z16 f1))<|Zg _ (Z04 (p:=[u5' p1]) rfl .here rfl)<|Z6 _ (Z1e rfl (Z16 f2))<|Z6 _ (Z03c rfl rfl rfl rfl _ (Zmm Zml))<|Z6 _ (Z09 rfl)<|Zr<|Zd ?_))
 revert h; refine Z00 fun h=>?_
 subst h
 exact ⟨_,(.cons (.tmp rfl) .nil),rfl⟩
def Z9u (p0:Bool) (p1:LI) (p2:LI):OL :=
 br (p0) (
 opt (Z1p p1) fun y1 =>
 some y1
 ) (
 opt (Z1p p2) fun y2 =>
 some y2
 )
theorem Zlb {W:World} {r:(LI)} {p0:Bool} {p1:LI} {p2:LI} (h:Z9u p0 p1 p2=some r)  :
    Calls Tryz.prog 357 [.bool (p0),agg [u5' p1],agg [u5' p2]].toArray W (Z2d W (agg [u5' r])):=by
 unfold Z9u at h
 refine Z9 mo Z0s1 rfl ?_
 refine Z0<|Z1<|Zc (Z03 (s:=[u5' p1]) rfl fun b1 u1=>Zc (Z03 (s:=[u5' p2]) rfl fun b2 u2=>Zc (Zs fun b3 u3=>Z2<|Z0<|Z0<|Z1<|Z7 rfl<|Z2<|Z0w h rfl (fun h=>?_) (fun h=>?_))))
 ·refine Z0<|oH h fun y1 f1 h=>Z1<|Z4 _ (Z04 (p:=[u5' p1]) rfl .t2 rfl)<|Z4 _ (Z1e rfl (Z16 f1))<|Zc (Zn (q:=[u5' y1]) rfl rfl rfl rfl rfl .here<|Z2<|Zd ?_)
  revert h; refine Z00 fun h=>?_
  subst h
  exact ⟨_,(.cons (.agg rfl .here rfl) .nil),rfl⟩
 ·refine Zy<|Z0<|oH h fun y2 f2 h=>Z1<|Z4 _ (Z04 (p:=[u5' p2]) rfl .t1 rfl)<|Z4 _ (Z1e rfl (Z16 f2))<|Zc (Zn (q:=[u5' y2]) rfl rfl rfl rfl rfl .here<|Z2<|Zd ?_)
  revert h; refine Z00 fun h=>?_
  subst h
  exact ⟨_,(.cons (.agg rfl .here rfl) .nil),rfl⟩
def Z81 (p0:LI) (p1:LI):Option ((LI)×Bool) :=
 opt (Z5q p1) fun y1 =>
 br (y1) (
 bnd (([0,0,0,0,0]:LI)) fun z1 =>
 opt (Z5q p0) fun y2 =>
 some (z1,y2)
 ) (
 opt (Z1o p1) fun y3 =>
 opt (Z0y y3 p1) fun y4 =>
 opt (Z1o y4) fun y5 =>
 opt (Z0y p0 y5) fun y6 =>
 opt (Z0y y6 p1) fun y7 =>
 opt (Z0y p0 y4) fun y8 =>
 opt (Z82 253 15) fun y9 =>
 opt (Zcf y7 y9) fun y10 =>
 opt (Z0y y8 y10) fun y11 =>
 opt (Z1o y11) fun y12 =>
 opt (Z0y p1 y12) fun y13 =>
 jn (fun (a1:LI)=>opt (Z9d a1) fun y14 =>
 opt (Z6e a1) fun y15 =>
 opt (Z9u y14 y15 a1) fun y16 =>
 some (y16,true)) fun k1=>opt (Z9c y13 p0) fun y17 =>
 br (y17) (
 k1 y11
 ) (
 opt (Z6e p0) fun y18 =>
 opt (Z9c y13 y18) fun y19 =>
 br (y19) (
 opt (Zbg 2) fun y20 =>
 opt (Z82 251 31) fun y21 =>
 opt (Zcf y20 y21) fun y22 =>
 opt (Z0y y11 y22) fun y23 =>
 k1 y23
 ) (
 bnd (([0,0,0,0,0]:LI)) fun z2 =>
 some (z2,false)
 )
 )
 )
theorem Zj4 {W:World} {r:(LI)×Bool} {p0:LI} {p1:LI} (h:Z81 p0 p1=some r)  :
    Calls Tryz.prog 331 [agg [u5' p0],agg [u5' p1]].toArray W (Z2d W (.tuple #[agg [u5' r.1],.bool (r.2)])):=by
 unfold Z81 at h
 refine Z9 mo Z0rg rfl ?_
 refine Z0<|Z1<|Zc (Z03 (s:=[u5' p0]) rfl fun b1 u1=>Zc (Z03 (s:=[u5' p1]) rfl fun b2 u2=>Zc (Zs fun b3 u3=>Z7 rfl<|Z2<|Z0<|Z0<|oH h fun y1 f1 h=>Z1<|Z4 _ (Z04 (p:=[u5' p1]) rfl .t1 rfl)<|Z4 _ (Z1e rfl (Zbf f1))<|Z2<|Z0w h rfl (fun h=>?_) (fun h=>?_))))
 ·refine Z0<|bH h fun z1 e1 h=>oH h fun y2 f2 h=>Z1<|Z4 _ (az (fun z=>agg [.ints .u64 5 z]) e1 (Ze2 BdR.nil))<|Z4 _ (Z04 (p:=[u5' p0]) rfl .t2 rfl)<|Z4 _ (Z1e rfl (Zbf f2))<|Zc (Zn (q:=[u5' z1]) rfl rfl rfl rfl rfl .here<|Z7 rfl<|Z2<|Zd ?_)
  revert h; refine Z00 fun h=>?_
  subst h
  exact ⟨_,(.cons (.agg rfl .here rfl) (.cons (.tmp rfl) .nil)),rfl⟩
 ·refine Zy<|Z0<|oH h fun y3 f3 h=>oH h fun y4 f4 h=>Zj<|Zg _ (Z04 (p:=[u5' p1]) rfl .t1 rfl)<|Z6 _ (Z1e rfl (Z28 f3))<|Zg _ (Z04 (p:=[u5' p1]) rfl .t1 rfl)<|Z6 _ (Z1e rfl (Z0g f4))<|Z2c (Zs fun b4 u4=>⟨(by repeat (first | exact Sup.refl _ | apply Sup.cons | apply Sup.app)),Z1n rfl (Zn (q:=[u5' y4]) rfl rfl rfl rfl rfl .here (Zr (Z0 (oH h fun y5 f5 h=>oH h fun y6 f6 h=>oH h fun y7 f7 h=>Zj (Zg _ (Z04 (p:=[u5' p0]) rfl .t3 rfl) (Zg _ (Z04 (p:=[u5' y4]) rfl .here rfl) (Z6 _ (Z1e rfl (Z28 f5)) (Z6 _ (Z1e rfl (Z0g f6)) (Zg _ (Z04 (p:=[u5' p1]) rfl .t2 rfl) (Z6 _ (Z1e rfl (Z0g f7)) (Z2c (Zs fun b5 u5=>⟨(by repeat (first | exact Sup.refl _ | apply Sup.cons | apply Sup.app)),Z1n rfl (Zn (q:=[u5' y7]) rfl rfl rfl rfl rfl .here (Zr (Z0 (oH h fun y8 f8 h=>oH h fun y9 f9 h=>oH h fun y10 f10 h=>oH h fun y11 f11 h=>Zj (Zg _ (Z04 (p:=[u5' p0]) rfl .t4 rfl) (Zg _ (Z04 (p:=[u5' y4]) rfl .t1 rfl) (Z6 _ (Z1e rfl (Z0g f8)) (Z6 _ (Z1e rfl (Zcv f9)) (Zg _ (Z04 (p:=[u5' y7]) rfl .here rfl) (Z6 _ (Z1e rfl (Zf4 f10)) (Z6 _ (Z1e rfl (Z0g f11)) (Z2c (Zs fun b6 u6=>⟨(by repeat (first | exact Sup.refl _ | apply Sup.cons | apply Sup.app)),Z1n rfl (Zn (q:=[u5' y11]) rfl rfl rfl rfl rfl .here (Zr (Z0 (Z0 (oH h fun y12 f12 h=>oH h fun y13 f13 h=>Zj (Zg _ (Z04 (p:=[u5' p1]) rfl .t4 rfl) (Zg _ (Z04 (p:=[u5' y11]) rfl .here rfl) (Z6 _ (Z1e rfl (Z28 f12)) (Z6 _ (Z1e rfl (Z0g f13)) (Z2c (Zs fun b7 u7=>⟨(by repeat (first | exact Sup.refl _ | apply Sup.cons | apply Sup.app)),Z1n rfl (Zn (q:=[u5' y13]) rfl rfl rfl rfl rfl .here (Zr (jH h fun k1 q1 h=>Zq (G:=fun t m=>∃ (a1:LI),k1 a1=some r/\Fit [(4,pt' b3),(8,pt' b6)] (ck b7 124 [u5' y13]::(ck b6 124 [u5' a1]::(ck b5 124 [u5' y7]::(ck b4 124 [u5' y4]::(ck b3 124 [u5' (replicate 5 0)]::(ck b2 124 [u5' p1]::(ck b1 124 [u5' p0] :: []))))))) t m) ?_ ?_)))⟩)))))))))))⟩)))))))))))))⟩))))))))))))⟩)
  ·refine Zf<|Z0<|oH h fun y14 f14 h=>Z1<|Z4 _ (Z04 (p:=[u5' y13]) rfl .here rfl)<|Z4 _ (Z04 (p:=[u5' p0]) rfl .t6 rfl)<|Z4 _ (Z1e rfl (Zh3 f14))<|Z7 rfl<|Z2<|Z0w h rfl (fun h=>?_) (fun h=>?_)
   ·exact Zy<|⟨y11,h,⟨⟨rfl,rfl,trivial⟩,(.o (.o (.o (.o (.o (.o (.o .nil)))))))⟩⟩
   ·refine Z0<|oH h fun y15 f15 h=>oH h fun y16 f16 h=>Zj<|Zg _ (Z04 (p:=[u5' y13]) rfl .here rfl)<|Zg _ (Z04 (p:=[u5' p0]) rfl .t6 rfl)<|Z6 _ (Z1e rfl (Z7e f15))<|Z6 _ (Z1e rfl (Zh3 f16))<|Z6 _ (Z09 rfl)<|Zr<|Z0w h rfl (fun h=>?_) (fun h=>?_)
    ·exact oH h fun y17 f17 h=>oH h fun y18 f18 h=>oH h fun y19 f19 h=>oH h fun y20 f20 h=>Zj<|Z6 _ (Z1e rfl (Zh5 f17))<|Z6 _ (Z1e rfl (Zcv f18))<|Z6 _ (Z1e rfl (Zf4 f19))<|Zg _ (Z04 (p:=[u5' y11]) rfl .t1 rfl)<|Z6 _ (Z1e rfl (Z0g f20))<|Z1n rfl (Zn (q:=[u5' y20]) rfl rfl rfl rfl rfl .t1<|Zr<|⟨y20,h,⟨⟨rfl,rfl,trivial⟩,(.o (.o (.o (.o (.o (.o (.o .nil)))))))⟩⟩)
    ·refine Z0<|bH h fun z2 e2 h=>Z1<|Z4 _ (az (fun z=>agg [.ints .u64 5 z]) e2 (Ze2 BdR.nil))<|Zc (Zn (q:=[u5' z2]) rfl rfl rfl rfl rfl .t4<|Z7 rfl<|Z2<|Zd ?_)
     revert h; refine Z00 fun h=>?_
     subst h
     exact ⟨_,(.cons (.agg rfl .t4 rfl) (.cons (.tmp rfl) .nil)),rfl⟩
  ·rintro t m ⟨a1,h,hF⟩
   refine Zo hF ?_
   clear hF
   subst q1
   refine Z0<|oH h fun y21 f21 h=>oH h fun y22 f22 h=>oH h fun y23 f23 h=>Zj<|Zg _ (Z04 (p:=[u5' a1]) rfl .t1 rfl)<|Z6 _ (Z1e rfl (Zh4 f21))<|Zg _ (Z04 (p:=[u5' a1]) rfl .t1 rfl)<|Z6 _ (Z1e rfl (Z7e f22))<|Zg _ (Z04 (p:=[u5' a1]) rfl .t1 rfl)<|Z6 _ (Z1e rfl (Zlb f23))<|Z1n rfl (Zn (q:=[u5' y23]) rfl rfl rfl rfl rfl .t4<|Z6 _ (Z09 rfl)<|Zr<|Zd ?_)
   revert h; refine Z00 fun h=>?_
   subst h
   exact ⟨_,(.cons (.agg rfl .t4 rfl) (.cons (.tmp rfl) .nil)),rfl⟩
def Zdu:OL :=
 bnd (([929955233495203,466365720129213,1662059464998953,2033849074728123,1442794654840575]:LI)) fun z1 =>
 some z1
theorem Zm6 {W:World} {r:(LI)} (h:Zdu=some r)  :
    Calls Tryz.prog 332 [].toArray W (Z2d W (agg [u5' r])):=by
 unfold Zdu at h
 refine Z9 mo Z0rh rfl ?_
 refine Z0<|Z1<|Zc (Zs fun b1 u1=>Z2<|Z0<|bH h fun z1 e1 h=>Z1<|Z4 _ (az (fun z=>agg [.ints .u64 5 z]) e1 (Ze2 (.one rfl rfl rfl (.one rfl rfl rfl (.one rfl rfl rfl (.one rfl rfl rfl (.one rfl rfl rfl BdR.nil)))))))<|Zc (Zn (q:=[u5' z1]) rfl rfl rfl rfl rfl .here<|Z2<|Zd ?_))
 revert h; refine Z00 fun h=>?_
 subst h
 exact ⟨_,(.cons (.agg rfl .here rfl) .nil),rfl⟩
def Zca (p0:LI):Option (Za×Bool) :=
 bnd (p0.getD 31 0) fun z1 =>
 bnd (Zt .u8 z1 7) fun z2 =>
 bnd (p0.getD 31 0) fun z3 =>
 bnd (Z8 .and .u8 z3 127) fun z4 =>
 bnd (Z62 p0 31 z4) fun l1 =>
 opt (Z6d l1) fun y1 =>
 br ((!y1)) (
 some ((⟨(replicate 5 0),(replicate 5 0),(replicate 5 0),(replicate 5 0)⟩:Za),false)
 ) (
 opt (Z30 l1) fun y2 =>
 opt (Z1o y2) fun y3 =>
 opt (Z9o) fun y4 =>
 opt (Z5s y3 y4) fun y5 =>
 opt (Zdu) fun y6 =>
 opt (Z0y y6 y3) fun y7 =>
 opt (Z2v y7 y4) fun y8 =>
 opt (Z81 y5 y8) fun y9 =>
 chk (imp (!(!y9.2)) (imp (z2==1) ((Z5q y9.1).isSome))) <|
 br (((!y9.2)||((z2==1)&&((Z5q y9.1).getD false)))) (
 some ((⟨(replicate 5 0),(replicate 5 0),(replicate 5 0),(replicate 5 0)⟩:Za),false)
 ) (
 jn (fun (a1:LI)=>opt (Z0y a1 y2) fun y10 =>
 some ((⟨a1,y2,y4,y10⟩:Za),true)) fun k1=>br ((z2==1)) (
 opt (Z6e y9.1) fun y11 =>
 k1 y11
 ) (
 k1 y9.1
 )
 )
 )
theorem Zl7 {W:World} {r:Za×Bool} {p0:LI} (h:Zca p0=some r)  :
    Calls Tryz.prog 239 [agg [b3' p0]].toArray W (Z2d W (.tuple #[agg [u5' r.1.gX,u5' r.1.gY,u5' r.1.gZ,u5' r.1.gT],.bool (r.2)])):=by
 unfold Zca at h
 refine Z9 mo Z0q4 rfl ?_
 refine Z0<|Z1<|Zc (Z03 (s:=[b3' p0]) rfl fun b1 u1=>Zc (Zs fun b2 u2=>Z7 rfl<|Z2<|Z0<|bH h fun z1 e1 h=>bH h fun z2 e2 h=>Z1<|Z4 _ (Z3f rfl rfl (by decide))<|Z4 _ (iz e1 (Z0j rfl .t1 rfl))<|Z4 _ (iz e2 (Z9g rfl rfl (by decide)))<|Z4 _ (Zb rfl rfl rfl)<|Z7 rfl<|Z2<|Z0<|bH h fun z3 e3 h=>bH h fun z4 e4 h=>bH h fun l1 g1 h=>Z1<|Z4 _ (Z3f rfl rfl (by decide))<|Z4 _ (iz e3 (Z0j rfl .t1 rfl))<|Z4 _ (iz e4 (Zb rfl rfl rfl))<|Z4 _ (Z3f rfl rfl (by decide))<|Zc (Zdw (q:=[b3' l1]) (congrArg (fun z=>([b3' z]:List Seg)) g1.symm) rfl rfl rfl rfl .t1<|Z2<|Z0<|Z0<|oH h fun y1 f1 h=>Z1<|Z4 _ (Z04 (p:=[b3' l1]) rfl .t1 rfl)<|Z4 _ (Z1e rfl (Zj3 f1))<|Z4 _ (Zqa rfl rfl)<|Z2<|Z0w h rfl (fun h=>?_) (fun h=>?_))))
 ·refine Z0<|Z1<|Z4 _ (Ze2 (q:=[u5' (replicate 5 0),u5' (replicate 5 0),u5' (replicate 5 0),u5' (replicate 5 0)]) BdR.nil)<|Zc (Zn (q:=[u5' (replicate 5 0),u5' (replicate 5 0),u5' (replicate 5 0),u5' (replicate 5 0)]) rfl rfl rfl rfl rfl .here<|Z7 rfl<|Z2<|Zd ?_)
  revert h; refine Z00 fun h=>?_
  subst h
  exact ⟨_,(.cons (.agg rfl .here rfl) (.cons (.tmp rfl) .nil)),rfl⟩
 ·refine Zy<|Z0<|oH h fun y2 f2 h=>Z1<|Z4 _ (Z04 (p:=[b3' l1]) rfl .t1 rfl)<|Z4 _ (Z1e rfl (Z68 f2))<|Zc (Zs fun b3 u3=>Zc (Zn (q:=[u5' y2]) rfl rfl rfl rfl rfl .here<|Z2<|Z0<|oH h fun y3 f3 h=>Z1<|Z4 _ (Z04 (p:=[u5' y2]) rfl .here rfl)<|Z4 _ (Z1e rfl (Z28 f3))<|Zc (Zs fun b4 u4=>Zc (Zn (q:=[u5' y3]) rfl rfl rfl rfl rfl .here<|Z2<|Z0<|oH h fun y4 f4 h=>Z1<|Z4 _ (Z1e rfl (Zac f4))<|Zc (Zs fun b5 u5=>Zc (Zn (q:=[u5' y4]) rfl rfl rfl rfl rfl .here<|Z2<|Z0<|oH h fun y5 f5 h=>oH h fun y6 f6 h=>oH h fun y7 f7 h=>oH h fun y8 f8 h=>oH h fun y9 f9 h=>Zj<|Zg _ (Z04 (p:=[u5' y3]) rfl .t1 rfl)<|Zg _ (Z04 (p:=[u5' y4]) rfl .here rfl)<|Z6 _ (Z1e rfl (Z5y f5))<|Z6 _ (Z1e rfl (Zm6 f6))<|Zg _ (Z04 (p:=[u5' y3]) rfl .t1 rfl)<|Z6 _ (Z1e rfl (Z0g f7))<|Zg _ (Z04 (p:=[u5' y4]) rfl .here rfl)<|Z6 _ (Z1e rfl (Z2l f8))<|Z6 _ (Z1e rfl (Zj4 f9))<|Z6 _ (Z09 rfl)<|Z6 _ (Z0q rfl rfl)<|Z6 _ (Z0q rfl rfl)<|Z2c (Zs fun b6 u6=>⟨(by repeat (first | exact Sup.refl _ | apply Sup.cons | apply Sup.app)),Z1n rfl (Zn (q:=[u5' y9.1]) rfl rfl rfl rfl rfl .here (Z6 _ (Z09 rfl) (Zr (Z0 (Z0 (cH h fun c1 h=>Z1 (Z7 rfl (Z4 _ (Zqa rfl rfl) (Z7 rfl (Zk3 rfl rfl rfl (fun hg1=>Z31 rfl _ (Z09 rfl) (Z31 rfl _ (Z09 rfl) (Zvc rfl (fun _ h=>by cases h; rfl) rfl rfl (fun hg2=>Z31 rfl _ (Z04 (p:=[u5' y9.1]) rfl .here rfl) (Z31 rfl _ (Z06 rfl (fun _ _=>Zbf (getD_some (z:=false) (Zom (Z02g c1 hg1) hg2)))) (Z2a))) (fun hg2=>rfl) rfl (Z2a)))) (fun hg1=>rfl) rfl (Z2 (Z0w h rfl (fun h=>?_) (fun h=>?_)))))))))))))⟩)))))))
  ·refine Z0<|Z1<|Z4 _ (Ze2 (q:=[u5' (replicate 5 0),u5' (replicate 5 0),u5' (replicate 5 0),u5' (replicate 5 0)]) BdR.nil)<|Zc (Zn (q:=[u5' (replicate 5 0),u5' (replicate 5 0),u5' (replicate 5 0),u5' (replicate 5 0)]) rfl rfl rfl rfl rfl .t4<|Z7 rfl<|Z2<|Zd ?_)
   revert h; refine Z00 fun h=>?_
   subst h
   exact ⟨_,(.cons (.agg rfl .t4 rfl) (.cons (.tmp rfl) .nil)),rfl⟩
  ·refine Zy<|Z0<|Z0<|Z1<|Z7 rfl<|Z2<|jH h fun k1 q1 h=>Zq (G:=fun t m=>∃ (a1:LI),k1 a1=some r/\Fit [(2,pt' b2),(5,pt' b3),(7,pt' b5),(8,pt' b6)] (ck b6 124 [u5' a1]::(ck b5 124 [u5' y4]::(ck b4 124 [u5' y3]::(ck b3 124 [u5' y2]::(ck b2 126 [u5' (replicate 5 0),u5' (replicate 5 0),u5' (replicate 5 0),u5' (replicate 5 0)]::(ck b1 43 [b3' l1] :: [])))))) t m) ?_ ?_
   ·refine Z0w h rfl (fun h=>?_) (fun h=>?_)
    ·exact oH h fun y10 f10 h=>Z1<|Z4 _ (Z04 (p:=[u5' y9.1]) rfl .here rfl)<|Z4 _ (Z1e rfl (Z7e f10))<|Zc (Zn (q:=[u5' y10]) rfl rfl rfl rfl rfl .here<|Z2<|⟨y10,h,⟨⟨rfl,rfl,rfl,rfl,trivial⟩,(.o (.o (.o (.o (.o (.o .nil))))))⟩⟩)
    ·exact Zy<|⟨y9.1,h,⟨⟨rfl,rfl,rfl,rfl,trivial⟩,(.o (.o (.o (.o (.o (.o .nil))))))⟩⟩
   ·rintro t m ⟨a1,h,hF⟩
    refine Zo hF ?_
    clear hF
    subst q1
    refine Z0<|oH h fun y11 f11 h=>Zj<|Zg _ (Z04 (p:=[u5' a1]) rfl .here rfl)<|Zg _ (Z04 (p:=[u5' y2]) rfl .t3 rfl)<|Zg _ (Z04 (p:=[u5' y4]) rfl .t1 rfl)<|Zg _ (Z04 (p:=[u5' a1]) rfl .here rfl)<|Zg _ (Z04 (p:=[u5' y2]) rfl .t3 rfl)<|Z6 _ (Z1e rfl (Z0g f11))<|Z6 _ (Ze2 (q:=[u5' a1,u5' y2,u5' y4,u5' y11]) (.agg rfl rfl rfl (.agg rfl rfl rfl (.agg rfl rfl rfl (.agg rfl rfl rfl BdR.nil)))))<|Z1n rfl (Zn (q:=[u5' a1,u5' y2,u5' y4,u5' y11]) rfl rfl rfl rfl rfl .t4<|Z6 _ (Z09 rfl)<|Zr<|Zd ?_)
    revert h; refine Z00 fun h=>?_
    subst h
    exact ⟨_,(.cons (.agg rfl .t4 rfl) (.cons (.tmp rfl) .nil)),rfl⟩
def Zfb (p0:LI) (k1:(LI)->OL) (k2:Int->(LI)->OL) (i1:Int) (a1:LI):OL :=
 br ((decide (i1<4))) (
 bnd (wrap .i64 (8*i1)) fun z1 =>
 opt (Z7n (tk p0 0 32) z1) fun y1 =>
 chk (inB i1 4) <|
 bnd (Z62 a1 (i1).toNat y1.1) fun l1 =>
 bnd (wrap .i64 (i1+1)) fun z2 =>
 k2 z2 l1
 ) (
 k1 a1
 )
def Z94 (p0:LI) (k1:(LI)->OL):Nat->Int->(LI)->OL
  | 0,_,_=>none
  | n+1,i1,a1=>Zfb p0 k1 (Z94 p0 k1 n) i1 a1
def Zbq (p0:LI):OL :=
 jn (fun (a1:LI)=>some a1) fun k1=>Z94 p0 k1 big 0 (replicate 4 0)
theorem Zh9 {W:World} {r:(LI)} {p0:LI} (h:Zbq p0=some r)  :
    Calls Tryz.prog 336 [agg [b3' p0]].toArray W (Z2d W (agg [.ints .u64 4 (r)])):=by
 unfold Zbq at h
 refine Z9 mo Z0rl rfl ?_
 refine Z0<|Z1<|Zc (Z03 (s:=[b3' p0]) rfl fun b1 u1=>Zc (Zs fun b2 u2=>Z2<|Z0<|Z1<|Zc (Zs fun b3 u3=>Z2<|Z0<|Z0<|Z1<|Z7 rfl<|Z2<|jH h fun k1 q1 h=>Zq (G:=fun t m=>∃ (a1:LI),k1 a1=some r/\Fit [(2,pt' b2),(3,pt' b3)] (ck b3 393 [.ints .u64 4 (a1)]::(ck b2 393 [.ints .u64 4 ((replicate 4 0))]::(ck b1 118 [b3' p0] :: []))) t m) ?_ ?_)))
 ·refine Zf<|Z0e (fun n1 t m=>∃ (i1:Int) (a2:LI),Z94 p0 k1 n1 i1 a2=some r/\Fit [(1,pt' b1),(2,pt' b2),(3,pt' b3),(5,.int .i64 (i1))] (ck b3 393 [.ints .u64 4 (a2)]::(ck b2 393 [.ints .u64 4 ((replicate 4 0))]::(ck b1 118 [b3' p0] :: []))) t m) big ?_ ?_
  ·exact ⟨0,(replicate 4 0),h,⟨⟨rfl,rfl,rfl,rfl,trivial⟩,(.o (.o (.o .nil)))⟩⟩
  ·rintro n1 t m ⟨i1,a2,h,hF⟩
   refine Zo hF ?_
   clear hF
   rcases n1 with _ | n1
   · exact Z1v h
   have h:Zfb p0 k1 (Z94 p0 k1 n1) i1 a2=some r:=h
   unfold Zfb at h
   obtain ⟨k2,q2⟩ : ∃ k,k=Z94 p0 k1 n1:=⟨_,rfl⟩
   try rw [<- q2] at h
   refine Z0<|Z1<|Z4 _ (Zb rfl rfl rfl)<|Z2<|Z0<|Z0w h rfl (fun h=>?_) (fun h=>?_)
   ·refine Zy<|Z0<|Zf<|Z0<|Z1<|Z7 rfl<|Z7 rfl<|Z2<|bH h fun z1 e1 h=>oH h fun y1 f1 h=>cH h fun c1 h=>bH h fun l1 g1 h=>Z1<|Z7 rfl<|Z4 _ (Z9h rfl .no .no .no (by simp) (by decide))<|Z7 rfl<|Z4 _ (iz e1 (Zb rfl rfl rfl))<|Z4 _ (Z06 rfl (fun w hw=>Za7 f1 ((Z1x (s:=[b3' p0]) (N:=32) (k:=.u8) (base:=0) (lo:=0) (hi:=32) (mz:=32) .t2 rfl (by decide)) w hw)))<|Z7 rfl<|Z4 _ (Z0q rfl rfl)<|Z4 _ (Z0q rfl rfl)<|Z4 _ (Z3f rfl rfl (Z1y c1))<|Zc (Z6c (q:=[.ints .u64 4 (l1)]) (base:=0) g1 rfl rfl rfl (Z1k c1) rfl .here<|Z2<|bH h fun z2 e2 h=>Z1<|Z4 _ (iz e2 (Zb rfl rfl rfl))<|Z7 rfl<|Z2 ?_)
    rw [q2] at h
    exact ⟨n1,Nat.lt_succ_self _,z2,l1,h,⟨⟨rfl,rfl,rfl,rfl,trivial⟩,(.o (.o (.o .nil)))⟩⟩
   ·exact Z0o _ rfl<|⟨a2,h,⟨⟨rfl,rfl,trivial⟩,(.o (.o (.o .nil)))⟩⟩
 ·rintro t m ⟨a1,h,hF⟩
  refine Zo hF ?_
  clear hF
  subst q1
  refine Z0<|Z1<|Z4 _ (Z04 (p:=[.ints .u64 4 (a1)]) rfl .here rfl)<|Zc (Zn (q:=[.ints .u64 4 (a1)]) rfl rfl rfl rfl rfl .t1<|Z2<|Zd ?_)
  revert h; refine Z00 fun h=>?_
  subst h
  exact ⟨_,(.cons (.agg rfl .t1 rfl) .nil),rfl⟩
def Z5j (p0:LI):Option Bool :=
 opt (Zbq p0) fun y1 =>
 opt (Z6w y1 G_order) fun y2 =>
 some (y2.2==1)
theorem Zib {W:World} {r:Bool} {p0:LI} (h:Z5j p0=some r) (hG:Globs W) :
    Calls Tryz.prog 240 [agg [b3' p0]].toArray W (Z2d W (.bool (r))):=by
 unfold Z5j at h
 refine Z9 mo Z0q5 rfl ?_
 refine Z0<|Z1<|Zc (Z03 (s:=[b3' p0]) rfl fun b1 u1=>Z7 rfl<|Z2<|Z0<|oH h fun y1 f1 h=>oH h fun y2 f2 h=>Zj<|Zg _ (Z04 (p:=[b3' p0]) rfl .here rfl)<|Z6 _ (Z1e rfl (Zh9 f1))<|Zg _ (Ztl (o0:=0) (off:=0) rfl (hG.g3) (by simp) rfl)<|Z6 _ (Z1e rfl (Zbr f2))<|Z6 _ (Z09 rfl)<|Z6 _ (Z0q rfl rfl)<|Z6 _ (Z0q rfl rfl)<|Z2c (Zs fun b2 u2=>⟨(by repeat (first | exact Sup.refl _ | apply Sup.cons | apply Sup.app)),Z1n rfl (Zn (q:=[.ints .u64 4 (y2.1)]) rfl rfl rfl rfl rfl .here (Z6 _ (Z09 rfl) (Zr (Z0 (Z1 (Z7 rfl (Z4 _ (Zb rfl rfl rfl) (Z7 rfl (Z2 (Zd ?_))))))))))⟩))
 revert h; refine Z00 fun h=>?_
 subst h
 exact ⟨_,(.cons (.tmp rfl) .nil),rfl⟩
def Z79 (k1:(LI)->(LI)->(LI)->(LI)->Option (Za)) (k2:Int->(LI)->(LI)->(LI)->(LI)->Option (Za)) (i1:Int) (a1:LI) (a2:LI) (a3:LI) (a4:LI):Option (Za) :=
 br ((decide (i1<4))) (
 opt (Z7y (⟨a1,a2,a3,a4⟩:Za)) fun y1 =>
 bnd (wrap .i64 (i1+1)) fun z1 =>
 k2 z1 y1.gX y1.gY y1.gZ y1.gT
 ) (
 k1 a1 a2 a3 a4
 )
def Z25 (k1:(LI)->(LI)->(LI)->(LI)->Option (Za)):Nat->Int->(LI)->(LI)->(LI)->(LI)->Option (Za)
  | 0,_,_,_,_,_=>none
  | n+1,i1,a1,a2,a3,a4=>Z79 k1 (Z25 k1 n) i1 a1 a2 a3 a4
def Z78 (p0:LI) (p2:LI) (a1:List (Za)) (a2:List (Za)) (k1:(LI)->(LI)->(LI)->(LI)->Option (Za)) (k2:Int->(LI)->(LI)->(LI)->(LI)->Option (Za)) (i1:Int) (a3:LI) (a4:LI) (a5:LI) (a6:LI):Option (Za) :=
 br ((decide (i1<64))) (
 jn (fun (a7:LI) (a8:LI) (a9:LI) (a10:LI)=>opt (Z7z p0 i1) fun y1 =>
 chk (inB y1 16) <|
 bnd (a1.getD (y1).toNat Z1a) fun x1 =>
 opt (Za8 (⟨a7,a8,a9,a10⟩:Za) x1) fun y2 =>
 opt (Z7z p2 i1) fun y3 =>
 chk (inB y3 16) <|
 bnd (a2.getD (y3).toNat Z1a) fun x2 =>
 opt (Za8 y2 x2) fun y4 =>
 bnd (wrap .i64 (i1+1)) fun z1 =>
 k2 z1 y4.gX y4.gY y4.gZ y4.gT) fun k3=>Z25 k3 big 0 a3 a4 a5 a6
 ) (
 k1 a3 a4 a5 a6
 )
def Z39 (p0:LI) (p2:LI) (a1:List (Za)) (a2:List (Za)) (k1:(LI)->(LI)->(LI)->(LI)->Option (Za)):Nat->Int->(LI)->(LI)->(LI)->(LI)->Option (Za)
  | 0,_,_,_,_,_=>none
  | n+1,i1,a3,a4,a5,a6=>Z78 p0 p2 a1 a2 k1 (Z39 p0 p2 a1 a2 k1 n) i1 a3 a4 a5 a6
def Za9 (p0:LI) (p1:Za) (p2:LI):Option (Za) :=
 opt (Zbc) fun y1 =>
 jn (fun (a1:List (Za)) (a2:List (Za))=>opt (Zba) fun y2 =>
 jn (fun (a3:LI) (a4:LI) (a5:LI) (a6:LI)=>some (⟨a3,a4,a5,a6⟩:Za)) fun k1=>Z39 p0 p2 a1 a2 k1 big 0 y2.gX y2.gY y2.gZ y2.gT) fun k2=>opt (Z4u p1) fun y3 =>
 opt (Z4u y1) fun y4 =>
 k2 y3 y4
theorem Zke {W:World} {r:Za} {p0:LI} {p1:Za} {p2:LI} (h:Za9 p0 p1 p2=some r)  :
    Calls Tryz.prog 241 [agg [b3' p0],agg [u5' p1.gX,u5' p1.gY,u5' p1.gZ,u5' p1.gT],agg [b3' p2]].toArray W (Z2d W (agg [u5' r.gX,u5' r.gY,u5' r.gZ,u5' r.gT])):=by
 unfold Za9 at h
 refine Z9 mo Z0q6 rfl ?_
 refine Z0<|Z1<|Zc (Z03 (s:=[b3' p0]) rfl fun b1 u1=>Zc (Z03 (s:=[u5' p1.gX,u5' p1.gY,u5' p1.gZ,u5' p1.gT]) rfl fun b2 u2=>Zc (Z03 (s:=[b3' p2]) rfl fun b3 u3=>Zc (Zs fun b4 u4=>Z2<|Z0<|oH h fun y1 f1 h=>Z1<|Z4 _ (Z1e rfl (Zgy f1))<|Zc (Zs fun b5 u5=>Zc (Zn (q:=[u5' y1.gX,u5' y1.gY,u5' y1.gZ,u5' y1.gT]) rfl rfl rfl rfl rfl .here<|Z2<|Z0<|jH h fun k1 q1 h=>Zq (G:=fun t m=>∃ (a1:List (Za)) (a2:List (Za)) (b6:Nat) (b7:Nat),k1 a1 a2=some r/\Fit [(3,pt' b1),(5,pt' b3),(6,pt' b4),(8,pt' b6),(9,pt' b7)] (ck b7 351 [.rows 20 16 (Zax Zi (a2))]::(ck b6 351 [.rows 20 16 (Zax Zi (a1))]::(ck b5 126 [u5' y1.gX,u5' y1.gY,u5' y1.gZ,u5' y1.gT]::(ck b4 126 [u5' (replicate 5 0),u5' (replicate 5 0),u5' (replicate 5 0),u5' (replicate 5 0)]::(ck b3 118 [b3' p2]::(ck b2 126 [u5' p1.gX,u5' p1.gY,u5' p1.gZ,u5' p1.gT]::(ck b1 118 [b3' p0] :: []))))))) t m) ?_ ?_))))))
 ·refine oH h fun y2 f2 h=>oH h fun y3 f3 h=>Zj<|Zg _ (Z04 (p:=[u5' p1.gX,u5' p1.gY,u5' p1.gZ,u5' p1.gT]) rfl .t3 rfl)<|Z6 _ (Z1e rfl (Z8u f2))<|Zg _ (Z04 (p:=[u5' y1.gX,u5' y1.gY,u5' y1.gZ,u5' y1.gT]) rfl .here rfl)<|Z6 _ (Z1e rfl (Z8u f3))<|Zge (Zlu (z':=[.rows 20 16 (Zax Zi ((replicate 16 Z1a)))]) (Zeq (E:=Zi) rfl rfl) fun b8 u6=>⟨(by repeat (first | exact Sup.refl _ | apply Sup.cons | apply Sup.app)),?_⟩) (Zlu (z':=[.rows 20 16 (Zax Zi ((replicate 16 Z1a)))]) (Zeq (E:=Zi) rfl rfl) fun b9 u7=>⟨(by repeat (first | exact Sup.refl _ | apply Sup.cons | apply Sup.app)),?_⟩)
  ·exact Z2c (Zlu (z':=[.rows 20 16 (Zax Zi ((replicate 16 Z1a)))]) (Zeq (E:=Zi) rfl rfl) fun b9 u7=>⟨(by repeat (first | exact Sup.refl _ | apply Sup.cons | apply Sup.app)),Z1n rfl (Zd3 (p:=[.rows 20 16 (Zax Zi (y2))]) (q:=[.rows 20 16 (Zax Zi (y2))]) rfl rfl (by kernel_rfl) (by kernel_rfl) (Z0r (Zfw (E:=Zi)) Z43) .t1 (Z049 rfl (Zd3 (p:=[.rows 20 16 (Zax Zi (y3))]) (q:=[.rows 20 16 (Zax Zi (y3))]) rfl rfl (by kernel_rfl) (by kernel_rfl) (Z0r (Zfw (E:=Zi)) Z43) .here (Zr (⟨y2,y3,b8,b9,h,⟨⟨rfl,rfl,rfl,rfl,rfl,trivial⟩,(.o (.o (.o (.o (.o (.o (.o .nil)))))))⟩⟩)))))⟩)
  ·exact Z2c (Zlu (z':=[.rows 20 16 (Zax Zi ((replicate 16 Z1a)))]) (Zeq (E:=Zi) rfl rfl) fun b8 u6=>⟨(by repeat (first | exact Sup.refl _ | apply Sup.cons | apply Sup.app)),Z1n rfl (Zd3 (p:=[.rows 20 16 (Zax Zi (y2))]) (q:=[.rows 20 16 (Zax Zi (y2))]) rfl rfl (by kernel_rfl) (by kernel_rfl) (Z0r (Zfw (E:=Zi)) Z43) .here (Z049 rfl (Zd3 (p:=[.rows 20 16 (Zax Zi (y3))]) (q:=[.rows 20 16 (Zax Zi (y3))]) rfl rfl (by kernel_rfl) (by kernel_rfl) (Z0r (Zfw (E:=Zi)) Z43) .t1 (Zr (⟨y2,y3,b8,b9,h,⟨⟨rfl,rfl,rfl,rfl,rfl,trivial⟩,(.one .t1 (.o (.o (.o (.o (.o (.o .nil)))))))⟩⟩)))))⟩)
 ·rintro t m ⟨a1,a2,b6,b7,h,hF⟩
  refine Zo hF ?_
  clear hF
  subst q1
  refine Z0<|oH h fun y4 f4 h=>Z1<|Z4 _ (Z06 (vs:=[]) (v:=agg [u5' y4.gX,u5' y4.gY,u5' y4.gZ,u5' y4.gT]) rfl (fun w hw=>Zdt (r:=y4) f4 ))<|Zc (Zs fun b10 u8=>Zc (Zn (q:=[u5' y4.gX,u5' y4.gY,u5' y4.gZ,u5' y4.gT]) rfl rfl rfl rfl rfl .here<|Z2<|Z0<|Z0<|Z1<|Z7 rfl<|Z2<|jH h fun k2 q2 h=>Zq (G:=fun t m=>∃ (a3:LI) (a4:LI) (a5:LI) (a6:LI),k2 a3 a4 a5 a6=some r/\Fit [(6,pt' b4),(10,pt' b10)] (ck b10 126 [u5' a3,u5' a4,u5' a5,u5' a6]::(ck b7 351 [.rows 20 16 (Zax Zi (a2))]::(ck b6 351 [.rows 20 16 (Zax Zi (a1))]::(ck b5 126 [u5' y1.gX,u5' y1.gY,u5' y1.gZ,u5' y1.gT]::(ck b4 126 [u5' (replicate 5 0),u5' (replicate 5 0),u5' (replicate 5 0),u5' (replicate 5 0)]::(ck b3 118 [b3' p2]::(ck b2 126 [u5' p1.gX,u5' p1.gY,u5' p1.gZ,u5' p1.gT]::(ck b1 118 [b3' p0] :: [])))))))) t m) ?_ ?_))
  ·refine Zf<|Z0e (fun n1 t m=>∃ (i1:Int) (a7:LI) (a8:LI) (a9:LI) (a10:LI),Z39 p0 p2 a1 a2 k2 n1 i1 a7 a8 a9 a10=some r/\Fit [(3,pt' b1),(5,pt' b3),(6,pt' b4),(8,pt' b6),(9,pt' b7),(10,pt' b10),(18,.int .i64 (i1))] (ck b10 126 [u5' a7,u5' a8,u5' a9,u5' a10]::(ck b7 351 [.rows 20 16 (Zax Zi (a2))]::(ck b6 351 [.rows 20 16 (Zax Zi (a1))]::(ck b5 126 [u5' y1.gX,u5' y1.gY,u5' y1.gZ,u5' y1.gT]::(ck b4 126 [u5' (replicate 5 0),u5' (replicate 5 0),u5' (replicate 5 0),u5' (replicate 5 0)]::(ck b3 118 [b3' p2]::(ck b2 126 [u5' p1.gX,u5' p1.gY,u5' p1.gZ,u5' p1.gT]::(ck b1 118 [b3' p0] :: [])))))))) t m) big ?_ ?_
   ·exact ⟨0,y4.gX,y4.gY,y4.gZ,y4.gT,h,⟨⟨rfl,rfl,rfl,rfl,rfl,rfl,rfl,trivial⟩,(.o (.o (.o (.o (.o (.o (.o (.o .nil))))))))⟩⟩
   ·rintro n1 t m ⟨i1,a7,a8,a9,a10,h,hF⟩
    refine Zo hF ?_
    clear hF
    rcases n1 with _ | n1
    · exact Z1v h
    have h:Z78 p0 p2 a1 a2 k2 (Z39 p0 p2 a1 a2 k2 n1) i1 a7 a8 a9 a10=some r:=h
    unfold Z78 at h
    obtain ⟨k3,q3⟩ : ∃ k,k=Z39 p0 p2 a1 a2 k2 n1:=⟨_,rfl⟩
    try rw [<- q3] at h
    refine Z0<|Z1<|Z4 _ (Zb rfl rfl rfl)<|Z2<|Z0<|Z0w h rfl (fun h=>?_) (fun h=>?_)
    ·refine Zy<|Z0<|Zf<|Z0<|Z1<|Z7 rfl<|Z7 rfl<|Z2<|Z0<|Z0<|Z1<|Z7 rfl<|Z2<|jH h fun k4 q4 h=>Zq (G:=fun t m=>∃ (a11:LI) (a12:LI) (a13:LI) (a14:LI),k4 a11 a12 a13 a14=some r/\Fit [(3,pt' b1),(5,pt' b3),(6,pt' b4),(8,pt' b6),(9,pt' b7),(10,pt' b10),(11,.int .i64 (i1)),(18,.int .i64 (i1))] (ck b10 126 [u5' a11,u5' a12,u5' a13,u5' a14]::(ck b7 351 [.rows 20 16 (Zax Zi (a2))]::(ck b6 351 [.rows 20 16 (Zax Zi (a1))]::(ck b5 126 [u5' y1.gX,u5' y1.gY,u5' y1.gZ,u5' y1.gT]::(ck b4 126 [u5' (replicate 5 0),u5' (replicate 5 0),u5' (replicate 5 0),u5' (replicate 5 0)]::(ck b3 118 [b3' p2]::(ck b2 126 [u5' p1.gX,u5' p1.gY,u5' p1.gZ,u5' p1.gT]::(ck b1 118 [b3' p0] :: [])))))))) t m) ?_ ?_
     ·refine Zf<|Z0e (fun n2 t m=>∃ (i2:Int) (a15:LI) (a16:LI) (a17:LI) (a18:LI),Z25 k4 n2 i2 a15 a16 a17 a18=some r/\Fit [(3,pt' b1),(5,pt' b3),(6,pt' b4),(8,pt' b6),(9,pt' b7),(10,pt' b10),(11,.int .i64 (i1)),(18,.int .i64 (i1)),(21,.int .i64 (i2))] (ck b10 126 [u5' a15,u5' a16,u5' a17,u5' a18]::(ck b7 351 [.rows 20 16 (Zax Zi (a2))]::(ck b6 351 [.rows 20 16 (Zax Zi (a1))]::(ck b5 126 [u5' y1.gX,u5' y1.gY,u5' y1.gZ,u5' y1.gT]::(ck b4 126 [u5' (replicate 5 0),u5' (replicate 5 0),u5' (replicate 5 0),u5' (replicate 5 0)]::(ck b3 118 [b3' p2]::(ck b2 126 [u5' p1.gX,u5' p1.gY,u5' p1.gZ,u5' p1.gT]::(ck b1 118 [b3' p0] :: [])))))))) t m) big ?_ ?_
      ·exact ⟨0,a7,a8,a9,a10,h,⟨⟨rfl,rfl,rfl,rfl,rfl,rfl,rfl,rfl,rfl,trivial⟩,(.o (.o (.o (.o (.o (.o (.o (.o .nil))))))))⟩⟩
      ·rintro n2 t m ⟨i2,a15,a16,a17,a18,h,hF⟩
       refine Zo hF ?_
       clear hF
       rcases n2 with _ | n2
       · exact Z1v h
       have h:Z79 k4 (Z25 k4 n2) i2 a15 a16 a17 a18=some r:=h
       unfold Z79 at h
       obtain ⟨k5,q5⟩ : ∃ k,k=Z25 k4 n2:=⟨_,rfl⟩
       try rw [<- q5] at h
       refine Z0<|Z1<|Z4 _ (Zb rfl rfl rfl)<|Z2<|Z0<|Z0w h rfl (fun h=>?_) (fun h=>?_)
       ·refine Zy<|Z0<|Zf<|oH h fun y5 f5 h=>Z1<|Z4 _ (Z04 (p:=[u5' a15,u5' a16,u5' a17,u5' a18]) rfl .here rfl)<|Z4 _ (Z06 (vs:=[agg [u5' a15,u5' a16,u5' a17,u5' a18]]) (v:=agg [u5' y5.gX,u5' y5.gY,u5' y5.gZ,u5' y5.gT]) rfl (fun w hw=>Zfm (r:=y5) (p0:=(⟨a15,a16,a17,a18⟩:Za)) f5 ))<|Zc (Zn (q:=[u5' y5.gX,u5' y5.gY,u5' y5.gZ,u5' y5.gT]) rfl rfl rfl rfl rfl .here<|Z2<|bH h fun z1 e1 h=>Z1<|Z4 _ (iz e1 (Zb rfl rfl rfl))<|Z7 rfl<|Z2 ?_)
        rw [q5] at h
        exact ⟨n2,Nat.lt_succ_self _,z1,y5.gX,y5.gY,y5.gZ,y5.gT,h,⟨⟨rfl,rfl,rfl,rfl,rfl,rfl,rfl,rfl,rfl,trivial⟩,(.o (.o (.o (.o (.o (.o (.o (.o .nil))))))))⟩⟩
       ·exact Z0o _ rfl<|⟨a15,a16,a17,a18,h,⟨⟨rfl,rfl,rfl,rfl,rfl,rfl,rfl,rfl,trivial⟩,(.o (.o (.o (.o (.o (.o (.o (.o .nil))))))))⟩⟩
     ·rintro t m ⟨a11,a12,a13,a14,h,hF⟩
      refine Zo hF ?_
      clear hF
      subst q4
      refine oH h fun y6 f6 h=>cH h fun c1 h=>bH h fun x1 j1 h=>oH h fun y7 f7 h=>oH h fun y8 f8 h=>cH h fun c2 h=>bH h fun x2 j2 h=>oH h fun y9 f9 h=>Zj<|Z6 _ (Z09 rfl)<|Z6 _ (Z09 rfl)<|Zg _ (Z04 (p:=[u5' a11,u5' a12,u5' a13,u5' a14]) rfl .here rfl)<|Zg _ (Z04 (p:=[b3' p0]) rfl .t7 rfl)<|Z6 _ (Z06 (vs:=[agg [b3' p0],.int .i64 (i1)]) (v:=.int .u8 (y6)) rfl (fun w hw=>Zbb (r:=y6) (p0:=p0) (p1:=i1) f6 ))<|Z6 _ (Z3f rfl rfl (Z1y c1))<|Zg _ (az (fun x1=>agg [u5' x1.gX,u5' x1.gY,u5' x1.gZ,u5' x1.gT]) j1 (Zrv (base:=0) (w:=20) rfl .t2 rfl (Z1k c1) rfl rfl rfl))<|Z6 _ (Z06 (vs:=[agg [u5' a11,u5' a12,u5' a13,u5' a14],agg [u5' x1.gX,u5' x1.gY,u5' x1.gZ,u5' x1.gT]]) (v:=agg [u5' y7.gX,u5' y7.gY,u5' y7.gZ,u5' y7.gT]) rfl (fun w hw=>Zbz (r:=y7) (p0:=(⟨a11,a12,a13,a14⟩:Za)) (p1:=x1) f7 ))<|Zg _ (Z04 (p:=[b3' p2]) rfl .t5 rfl)<|Z6 _ (Z06 (vs:=[agg [b3' p2],.int .i64 (i1)]) (v:=.int .u8 (y8)) rfl (fun w hw=>Zbb (r:=y8) (p0:=p2) (p1:=i1) f8 ))<|Z6 _ (Z3f rfl rfl (Z1y c2))<|Zg _ (az (fun x2=>agg [u5' x2.gX,u5' x2.gY,u5' x2.gZ,u5' x2.gT]) j2 (Zrv (base:=0) (w:=20) rfl .t1 rfl (Z1k c2) rfl rfl rfl))<|Z6 _ (Z06 (vs:=[agg [u5' y7.gX,u5' y7.gY,u5' y7.gZ,u5' y7.gT],agg [u5' x2.gX,u5' x2.gY,u5' x2.gZ,u5' x2.gT]]) (v:=agg [u5' y9.gX,u5' y9.gY,u5' y9.gZ,u5' y9.gT]) rfl (fun w hw=>Zbz (r:=y9) (p0:=y7) (p1:=x2) f9 ))<|Z1n rfl (Zn (q:=[u5' y9.gX,u5' y9.gY,u5' y9.gZ,u5' y9.gT]) rfl rfl rfl rfl rfl .here<|Zr<|bH h fun z2 e2 h=>Z1<|Z4 _ (iz e2 (Zb rfl rfl rfl))<|Z7 rfl<|Z2 ?_)
      rw [q3] at h
      exact ⟨n1,Nat.lt_succ_self _,z2,y9.gX,y9.gY,y9.gZ,y9.gT,h,⟨⟨rfl,rfl,rfl,rfl,rfl,rfl,rfl,trivial⟩,(.o (.o (.o (.o (.o (.o (.o (.o .nil))))))))⟩⟩
    ·exact Z0o _ rfl<|⟨a7,a8,a9,a10,h,⟨⟨rfl,rfl,trivial⟩,(.o (.o (.o (.o (.o (.o (.o (.o .nil))))))))⟩⟩
  ·rintro t m ⟨a3,a4,a5,a6,h,hF⟩
   refine Zo hF ?_
   clear hF
   subst q2
   refine Z0<|Z1<|Z4 _ (Z04 (p:=[u5' a3,u5' a4,u5' a5,u5' a6]) rfl .here rfl)<|Zc (Zn (q:=[u5' a3,u5' a4,u5' a5,u5' a6]) rfl rfl rfl rfl rfl .t4<|Z2<|Zd ?_)
   revert h; refine Z00 fun h=>?_
   subst h
   exact ⟨_,(.cons (.agg rfl .t4 rfl) .nil),rfl⟩
end Go.Proofs.YteefpkhngighgaaGreatDoor
namespace Go.Proofs.YteefpkhngighgaaGreatDoor
open Go Go.Sx Go.RowKit
set_option linter.all false
set_option maxHeartbeats 400000
set_option maxRecDepth 100000
def Zfn (p0:Za):Option (Za) :=
 opt (Z6e p0.gX) fun y1 =>
 opt (Z6e p0.gT) fun y2 =>
 some (⟨y1,p0.gY,p0.gZ,y2⟩:Za)
theorem Zoi {W:World} {r:Za} {p0:Za} (h:Zfn p0=some r)  :
    Calls Tryz.prog 242 [agg [u5' p0.gX,u5' p0.gY,u5' p0.gZ,u5' p0.gT]].toArray W (Z2d W (agg [u5' r.gX,u5' r.gY,u5' r.gZ,u5' r.gT])):=by
 unfold Zfn at h
 refine Z9 mo Z0q7 rfl ?_
 refine Z0<|Z1<|Zc (Z03 (s:=[u5' p0.gX,u5' p0.gY,u5' p0.gZ,u5' p0.gT]) rfl fun b1 u1=>Zc (Zs fun b2 u2=>Z2<|Z0<|oH h fun y1 f1 h=>oH h fun y2 f2 h=>Zj<|Z6 _ (Z1u rfl)<|Z6 _ (Z1u rfl)<|Z6 _ (Z1u rfl)<|Z6 _ (Z1u rfl)<|Zg _ (Z04 (p:=[u5' p0.gX]) rfl .t1 rfl)<|Z6 _ (Z1e rfl (Z7e f1))<|Zg _ (Z04 (p:=[u5' p0.gY]) rfl .t1 rfl)<|Zg _ (Z04 (p:=[u5' p0.gZ]) rfl .t1 rfl)<|Zg _ (Z04 (p:=[u5' p0.gT]) rfl .t1 rfl)<|Z6 _ (Z1e rfl (Z7e f2))<|Z6 _ (Ze2 (q:=[u5' y1,u5' p0.gY,u5' p0.gZ,u5' y2]) (.agg rfl rfl rfl (.agg rfl rfl rfl (.agg rfl rfl rfl (.agg rfl rfl rfl BdR.nil)))))<|Z1n rfl (Zn (q:=[u5' y1,u5' p0.gY,u5' p0.gZ,u5' y2]) rfl rfl rfl rfl rfl .here<|Zr<|Zd ?_)))
 revert h; refine Z00 fun h=>?_
 subst h
 exact ⟨_,(.cons (.agg rfl .here rfl) .nil),rfl⟩
def Z0t (p0:LI) (p1:LI) (p2:LI):Option Bool :=
 opt (Zca p0) fun y1 =>
 chk (decide (32<=(tk p2 32 (64-32)).length)) <|
 bnd (tk (tk p2 32 (64-32)) 0 32) fun z1 =>
 chk (imp (!(!y1.2)) ((Z5j z1).isSome)) <|
 br (((!y1.2)||(!((Z5j z1).getD false)))) (
 some false
 ) (
 jn (fun (a1:LI)=>opt (Zfn y1.1) fun y2 =>
 opt (Za9 a1 y2 z1) fun y3 =>
 opt (Z5n y3) fun y4 =>
 chk (decide (32<=(tk p2 0 32).length)) <|
 bnd (tk (tk p2 0 32) 0 32) fun z2 =>
 some (ieq 32 y4 z2)) fun k1=>opt (Zas [(tk p2 0 32),(tk p0 0 32),p1]) fun y5 =>
 k1 y5
 )
theorem Z4d {W:World} {r:Bool} {p0:LI} {p1:LI} {p2:LI} {v1:Value} (h:Z0t p0 p1 p2=some r) (hG:Globs W) (A1:Z5x (El.int .u8) W v1 p1) :
    Calls Tryz.prog 122 [agg [b3' p0],v1,agg [b6' p2]].toArray W (Z2d W (.bool (r))):=by
 unfold Z0t at h
 refine Z9 mo Z0o3 rfl ?_
 refine Z0<|Z1<|Zc (Z03 (s:=[b3' p0]) rfl fun b1 u1=>Zc (Z03 (s:=[b6' p2]) rfl fun b2 u2=>Z7 rfl<|Z2<|Z0<|oH h fun y1 f1 h=>Z1<|Z4 _ (Z04 (p:=[b3' p0]) rfl .t1 rfl)<|Z4 _ (Z1e rfl (Zl7 f1))<|Z7 rfl<|Z4 _ (Z0q rfl rfl)<|Z4 _ (Z0q rfl rfl)<|Zc (Zs fun b3 u3=>Zc (Zn (q:=[u5' y1.1.gX,u5' y1.1.gY,u5' y1.1.gZ,u5' y1.1.gT]) rfl rfl rfl rfl rfl .here<|Z7 rfl<|Z2<|Z0<|cH h fun c1 h=>bH h fun z1 e1 h=>Z1<|Z4 _ (Z9h rfl (.yes rfl) .no .no (by simp) (by decide))<|Z4 _ (Z009 rfl (Shp.blk (lo:=32) (hi:=64) (mz:=64) (by decide) (by simp [Z0k])) (by decide) c1)<|Z4 _ (az (fun z=>agg [.ints .u8 32 z]) e1 (Z08d rfl (Z1x (s:=[b6' p2]) (N:=64) (k:=.u8) (base:=0) (lo:=32) (hi:=64) (mz:=64) .t1 rfl (by decide)) (by decide) c1))<|Zc (Zs fun b4 u4=>Zc (Zn (q:=[b3' z1]) rfl rfl rfl rfl rfl .here<|Z2<|Z0<|Z0<|cH h fun c2 h=>Z1<|Z7 rfl<|Z4 _ (Zqa rfl rfl)<|Z7 rfl<|Zk3 rfl rfl rfl (fun hg1=>Z31 rfl _ (Z04 (p:=[b3' z1]) rfl .here rfl) (Z31 rfl _ (Z06 rfl (fun w hw=>Zib (getD_some (z:=false) (Z02g c2 hg1)) (hG.at hw (by simp)))) (Z31 rfl _ (Zqa rfl rfl) (Z2a)))) (fun hg1=>rfl) rfl<|Z2<|Z0w h rfl (fun h=>?_) (fun h=>?_)))))))
 ·refine Z0<|Z1<|Z7 rfl<|Z2<|Zd ?_
  revert h; refine Z00 fun h=>?_
  subst h
  exact ⟨_,(.cons (.tmp rfl) .nil),rfl⟩
 ·refine Zy<|Z0<|jH h fun k1 q1 h=>Zq (G:=fun t m=>∃ (a1:LI) (b5:Nat),k1 a1=some r/\Fit [(5,pt' b2),(7,pt' b3),(9,pt' b4),(10,pt' b5)] (ck b5 118 [b3' a1]::(ck b4 118 [b3' z1]::(ck b3 126 [u5' y1.1.gX,u5' y1.1.gY,u5' y1.1.gZ,u5' y1.1.gT]::(ck b2 27 [b6' p2]::(ck b1 43 [b3' p0] :: []))))) t m) ?_ ?_
  ·refine oH h fun y2 f2 h=>Zj<|Z6 _ (Z9h rfl .no (.yes rfl) .no (by simp) (by decide))<|Z6 _ (Z9h rfl .no .no .no (by simp) (by decide))<|Z6 _ (Z09 rfl)<|Zge (Z5b (E:=El.sl) (xs:=[unS (.slice (some (Z26 b2 0 0 64 1)) (32-0) (64-0)),unS (.slice (some (Z26 b1 0 0 32 1)) (32-0) (32-0)),unS v1]) (.one rfl (Z97.cells ⟨_,_,_,rfl⟩) rfl (.one rfl (Z97.cells ⟨_,_,_,rfl⟩) rfl (.one rfl (Z97.cells (Shp.isSl (Shp.rd A1))) rfl BdR.nil))) (.cons (p:=[.one (.slice (some (Z26 b2 0 0 64 1)) (32-0) (64-0))]) (Z29 ⟨_,_,_,rfl⟩) (.cons (p:=[.one (.slice (some (Z26 b1 0 0 32 1)) (32-0) (32-0))]) (Z29 ⟨_,_,_,rfl⟩) (.cons (p:=[.one v1]) (Z29 (Shp.isSl (Shp.rd A1))) .nil))) rfl fun v25 w1 O1=>⟨(by repeat (first | exact Sup.refl _ | apply Sup.cons | apply Sup.app)),?_⟩) (Zs fun b6 u5=>⟨(by repeat (first | exact Sup.refl _ | apply Sup.cons | apply Sup.app)),?_⟩)
   ·refine Zge (ef_q _ (Z06 rfl (fun w hw=>Z65 f2 (hG.at hw (by simp)) (Z0f O1 .here w hw) (.cons (Z2b ((Z1x (s:=[b6' p2]) (N:=64) (k:=.u8) (base:=0) (lo:=0) (hi:=32) (mz:=64) (.app .t2) rfl (by decide)) w hw)) (.cons (Z2b ((Z1x (s:=[b3' p0]) (N:=32) (k:=.u8) (base:=0) (lo:=0) (hi:=32) (mz:=32) (.app .t3) rfl (by decide)) w hw)) (.cons (Z2b ((Z0z A1 Z17) w hw)) .nil))))) ⟨(by repeat (first | exact Sup.refl _ | apply Sup.cons | apply Sup.app)),?_⟩) (Zs fun b6 u5=>⟨(by repeat (first | exact Sup.refl _ | apply Sup.cons | apply Sup.app)),?_⟩)
    ·exact Z2c (Zs fun b6 u5=>⟨(by repeat (first | exact Sup.refl _ | apply Sup.cons | apply Sup.app)),Z1n rfl (Zn (q:=[b3' y2]) rfl rfl rfl rfl rfl .here (Zr (⟨y2,b6,h,⟨⟨rfl,rfl,rfl,rfl,trivial⟩,(.o (.one (.app .here) (.one (.app .here) (.one (.app .here) (.one (.app .here) .nil)))))⟩⟩)))⟩)
    ·exact Z5w _ (Z06 rfl (fun w hw=>Z65 f2 (hG.at hw (by simp)) (Z0f O1 .t1 w hw) (.cons (Z2b ((Z1x (s:=[b6' p2]) (N:=64) (k:=.u8) (base:=0) (lo:=0) (hi:=32) (mz:=64) (.there (.app .t2)) rfl (by decide)) w hw)) (.cons (Z2b ((Z1x (s:=[b3' p0]) (N:=32) (k:=.u8) (base:=0) (lo:=0) (hi:=32) (mz:=32) (.there (.app .t3)) rfl (by decide)) w hw)) (.cons (Z2b ((Z0z A1 Z17) w hw)) .nil))))) (Z1n rfl (Zn (q:=[b3' y2]) rfl rfl rfl rfl rfl .here (Zr (⟨y2,b6,h,⟨⟨rfl,rfl,rfl,rfl,trivial⟩,(.o (.one (.app .here) (.one (.app .here) (.one (.app .here) (.one (.app .here) .nil)))))⟩⟩)))) (by repeat (first | exact Sup.refl _ | apply Sup.cons | apply Sup.app))
   ·exact Z2c (Z5b (E:=El.sl) (xs:=[unS (.slice (some (Z26 b2 0 0 64 1)) (32-0) (64-0)),unS (.slice (some (Z26 b1 0 0 32 1)) (32-0) (32-0)),unS v1]) (.one rfl (Z97.cells ⟨_,_,_,rfl⟩) rfl (.one rfl (Z97.cells ⟨_,_,_,rfl⟩) rfl (.one rfl (Z97.cells (Shp.isSl (Shp.rd A1))) rfl BdR.nil))) (.cons (p:=[.one (.slice (some (Z26 b2 0 0 64 1)) (32-0) (64-0))]) (Z29 ⟨_,_,_,rfl⟩) (.cons (p:=[.one (.slice (some (Z26 b1 0 0 32 1)) (32-0) (32-0))]) (Z29 ⟨_,_,_,rfl⟩) (.cons (p:=[.one v1]) (Z29 (Shp.isSl (Shp.rd A1))) .nil))) rfl fun v25 w1 O1=>⟨(by repeat (first | exact Sup.refl _ | apply Sup.cons | apply Sup.app)),Z5w _ (Z06 rfl (fun w hw=>Z65 f2 (hG.at hw (by simp)) (Z0f O1 .here w hw) (.cons (Z2b ((Z1x (s:=[b6' p2]) (N:=64) (k:=.u8) (base:=0) (lo:=0) (hi:=32) (mz:=64) (.app .t3) rfl (by decide)) w hw)) (.cons (Z2b ((Z1x (s:=[b3' p0]) (N:=32) (k:=.u8) (base:=0) (lo:=0) (hi:=32) (mz:=32) (.app .t4) rfl (by decide)) w hw)) (.cons (Z2b ((Z0z A1 Z17) w hw)) .nil))))) (Z1n rfl (Zn (q:=[b3' y2]) rfl rfl rfl rfl rfl (.app .here) (Zr (⟨y2,b6,h,⟨⟨rfl,rfl,rfl,rfl,trivial⟩,(.one (.app .here) (.one (.app .here) (.one (.app .here) (.one (.app .here) (.one (.app .here) .nil)))))⟩⟩)))) (by repeat (first | exact Sup.refl _ | apply Sup.cons | apply Sup.app))⟩)
  ·rintro t m ⟨a1,b5,h,hF⟩
   refine Zo hF ?_
   clear hF
   subst q1
   refine Z0<|oH h fun y3 f3 h=>oH h fun y4 f4 h=>oH h fun y5 f5 h=>Zj<|Zg _ (Z04 (p:=[b3' a1]) rfl .here rfl)<|Zg _ (Z04 (p:=[u5' y1.1.gX,u5' y1.1.gY,u5' y1.1.gZ,u5' y1.1.gT]) rfl .t2 rfl)<|Z6 _ (Z1e rfl (Zoi f3))<|Zg _ (Z04 (p:=[b3' z1]) rfl .t1 rfl)<|Z6 _ (Z1e rfl (Zke f4))<|Z6 _ (Z1e rfl (Z8m f5))<|Z2c (Zs fun b7 u6=>⟨(by repeat (first | exact Sup.refl _ | apply Sup.cons | apply Sup.app)),Z1n rfl (Zn (q:=[b3' y5]) rfl rfl rfl rfl rfl .here (Zr (Z0 (cH h fun c3 h=>bH h fun z2 e2 h=>Zj (Z6 _ (Z9h rfl .no (.yes rfl) .no (by simp) (by decide)) (Z6 _ (Z009 rfl (Shp.blk (lo:=0) (hi:=32) (mz:=64) (by decide) (by simp [Z0k])) (by decide) c3) (Zg _ (Z04 (p:=[b3' y5]) rfl .here rfl) (Zg _ (az (fun z=>agg [.ints .u8 32 z]) e2 (Z08d rfl (Z1x (s:=[b6' p2]) (N:=64) (k:=.u8) (base:=0) (lo:=0) (hi:=32) (mz:=64) .t4 rfl (by decide)) (by decide) c3)) (Z6 _ (Z03c rfl rfl rfl rfl _ (Zmm Zml)) (Z6 _ (Z09 rfl) (Zr (Zd ?_))))))))))))⟩)
   revert h; refine Z00 fun h=>?_
   subst h
   exact ⟨_,(.cons (.tmp rfl) .nil),rfl⟩
def Z8f (p0:LI):OL :=
 opt (Zbq p0) fun y1 =>
 some (tk y1 0 4)
theorem Zbt {W:World} {r:(LI)} {p0:LI} (h:Z8f p0=some r)  :
    Calls Tryz.prog 351 [agg [b3' p0]].toArray W (Z7t W [] (fun v Ms=>∃ (u0:Value) (M1:List Ze),v=u0/\Ms = [.all M1]/\Z0b (El.int .u64) u0 M1 r)):=by
 unfold Z8f at h
 refine Zv mo Z0rx rfl (Zg4 _) ?_
 refine Z0<|Z1<|Zc (Z03 (s:=[b3' p0]) rfl fun b1 hb1=>Z7 rfl<|Z2<|Z0<|oH h fun y1 f1 h=>Z1<|Z4 _ (Z04 (p:=[b3' p0]) rfl .here rfl)<|Z4 _ (Z1e rfl (Zh9 f1))<|Zc (Zs fun b2 hb2=>Zc (Zn (q:=[.ints .u64 4 (y1)]) rfl rfl rfl rfl rfl .here<|Z2<|Z0<|Z1<|Z4 _ (Z9h rfl .no .no .no (by simp) (by decide))<|Z7 rfl<|Z2<|Zd ?_)))
 revert h; refine Z00 fun h=>?_
 subst h
 exact ⟨_,_,(.cons (.tmp rfl) .nil),(.o .nil),⟨_,rfl,⟨(.slice (some (Z26 b2 0 0 4 1)) (4-0) (4-0)),[ck b2 393 [.ints .u64 4 (y1)]],rfl,rfl,(Zkk (s:=[.ints .u64 4 (y1)]) (N:=4) (k:=.u64) (base:=0) (lo:=0) (hi:=4) (mz:=4) rfl (by decide))⟩⟩⟩
def Zdl (p0:LI):OL :=
 opt (Z8f p0) fun y1 =>
 opt (Z4m y1) fun y2 =>
 some y2
theorem Zic {W:World} {r:(LI)} {p0:LI} (h:Zdl p0=some r) (hG:Globs W) :
    Calls Tryz.prog 348 [agg [b3' p0]].toArray W (Z2d W (agg [.ints .u64 4 (r)])):=by
 unfold Zdl at h
 refine Z9 mo Z0ru rfl ?_
 refine Z0<|Z1<|Zc (Z03 (s:=[b3' p0]) rfl fun b1 u1=>Zc (Zs fun b2 u2=>Z2<|Z0<|oH h fun y1 f1 h=>oH h fun y2 f2 h=>Z1<|Z4 _ (Z04 (p:=[b3' p0]) rfl .t1 rfl)<|Zc (Zh rfl (fun w hw=>Zbt  f1 ) fun v6 o1 R1=>?_)))
 obtain ⟨_,w1,rfl,rfl,O1⟩:=R1
 refine Z4 _ (Z06 rfl (fun w hw=>Zaq f2 (hG.at hw (by simp)) ((Z0f O1 .here) w hw)))<|Zc (Zn (q:=[.ints .u64 4 (y2)]) rfl rfl rfl rfl rfl (.app .here)<|Z2<|Zd ?_)
 revert h; refine Z00 fun h=>?_
 subst h
 exact ⟨_,(.cons (.agg rfl (.app .here) rfl) .nil),rfl⟩
def Zg5 (p0:LI) (p1:LI):OL :=
 opt (Zdl p0) fun y1 =>
 opt (Zdl p1) fun y2 =>
 opt (Z61 y1 y2) fun y3 =>
 opt (Z8a y3.1) fun y4 =>
 opt (Z6y y4) fun y5 =>
 some y5
theorem Znu {W:World} {r:(LI)} {p0:LI} {p1:LI} (h:Zg5 p0 p1=some r) (hG:Globs W) :
    Calls Tryz.prog 304 [agg [b3' p0],agg [b3' p1]].toArray W (Z2d W (agg [b3' r])):=by
 unfold Zg5 at h
 refine Z9 mo Z0r3 rfl ?_
 refine Z0<|Z1<|Zc (Z03 (s:=[b3' p0]) rfl fun b1 u1=>Zc (Z03 (s:=[b3' p1]) rfl fun b2 u2=>Zc (Zs fun b3 u3=>Z2<|Z0<|oH h fun y1 f1 h=>oH h fun y2 f2 h=>oH h fun y3 f3 h=>Zj<|Zg _ (Z04 (p:=[b3' p0]) rfl .t2 rfl)<|Z6 _ (Z06 rfl (fun w hw=>Zic f1 (hG.at hw (by simp))))<|Zg _ (Z04 (p:=[b3' p1]) rfl .t1 rfl)<|Z6 _ (Z06 rfl (fun w hw=>Zic f2 (hG.at hw (by simp))))<|Z6 _ (Z1e rfl (Z98 f3))<|Z6 _ (Z09 rfl)<|Z6 _ (Z0q rfl rfl)<|Z6 _ (Z0q rfl rfl)<|Z2c (Zs fun b4 u4=>⟨(by repeat (first | exact Sup.refl _ | apply Sup.cons | apply Sup.app)),Z1n rfl (Zn (q:=[.ints .u64 4 (y3.1)]) rfl rfl rfl rfl rfl .here (Z6 _ (Z09 rfl) (Zr (Z0 (oH h fun y4 f4 h=>oH h fun y5 f5 h=>Z1 (Z4 _ (Z04 (p:=[.ints .u64 4 (y3.1)]) rfl .here rfl) (Z4 _ (Z06 rfl (fun w hw=>Zg7 f4 (hG.at hw (by simp)))) (Z4 _ (Z1e rfl (Zbs f5)) (Zc (Zn (q:=[b3' y5]) rfl rfl rfl rfl rfl .t1 (Z2 (Zd ?_))))))))))))⟩))))
 revert h; refine Z00 fun h=>?_
 subst h
 exact ⟨_,(.cons (.agg rfl .t1 rfl) .nil),rfl⟩
def Zg6 (p0:LI) (p1:LI):OL :=
 opt (Z8f p0) fun y1 =>
 opt (Z8f p1) fun y2 =>
 opt (Z6z y1 y2) fun y3 =>
 opt (Z4m y3) fun y4 =>
 opt (Z6y y4) fun y5 =>
 some y5
theorem Znv {W:World} {r:(LI)} {p0:LI} {p1:LI} (h:Zg6 p0 p1=some r) (hG:Globs W) :
    Calls Tryz.prog 305 [agg [b3' p0],agg [b3' p1]].toArray W (Z2d W (agg [b3' r])):=by
 unfold Zg6 at h
 refine Z9 mo Z0r4 rfl ?_
 refine Z0<|Z1<|Zc (Z03 (s:=[b3' p0]) rfl fun b1 u1=>Zc (Z03 (s:=[b3' p1]) rfl fun b2 u2=>Zc (Zs fun b3 u3=>Z2<|Z0<|oH h fun y1 f1 h=>oH h fun y2 f2 h=>oH h fun y3 f3 h=>oH h fun y4 f4 h=>oH h fun y5 f5 h=>Zj<|Zg _ (Z04 (p:=[b3' p0]) rfl .t2 rfl)<|Zg _ (Z04 (p:=[b3' p1]) rfl .t1 rfl)<|Z2c (Zh rfl (fun w hw=>Zbt  f1 ) fun v7 o1 R1=>?_))))
 obtain ⟨_,w1,rfl,rfl,O1⟩:=R1
 refine ⟨(by repeat (first | exact Sup.refl _ | apply Sup.cons | apply Sup.app)),Z2c (Zh rfl (fun w hw=>Zbt  f2 ) fun v13 o2 R2=>?_)⟩
 obtain ⟨_,w2,rfl,rfl,O2⟩:=R2
 refine ⟨(by repeat (first | exact Sup.refl _ | apply Sup.cons | apply Sup.app)),Z2c (Zh rfl (fun w hw=>Zg8  f3 ((Z0f O1 (.app .here)) w hw) ((Z0f O2 .here) w hw)) fun v19 o3 R3=>?_)⟩
 obtain ⟨_,w3,rfl,rfl,O3⟩:=R3
 refine ⟨(by repeat (first | exact Sup.refl _ | apply Sup.cons | apply Sup.app)),Z5w _ (Z06 rfl (fun w hw=>Zaq f4 (hG.at hw (by simp)) ((Z0f O3 .here) w hw))) (Z6 _ (Z1e rfl (Zbs f5)) (Z1n rfl (Zn (q:=[b3' y5]) rfl rfl rfl rfl rfl (.app (.app (.app .here))) (Zr (Zd ?_))))) (by repeat (first | exact Sup.refl _ | apply Sup.cons | apply Sup.app))⟩
 revert h; refine Z00 fun h=>?_
 subst h
 exact ⟨_,(.cons (.agg rfl (.app (.app (.app .here))) rfl) .nil),rfl⟩
def Zao (p0:LI) (p1:LI) (p2:LI):OL :=
 opt (Zg6 p0 p1) fun y1 =>
 opt (Zg5 y1 p2) fun y2 =>
 some y2
theorem Zkt {W:World} {r:(LI)} {p0:LI} {p1:LI} {p2:LI} (h:Zao p0 p1 p2=some r) (hG:Globs W) :
    Calls Tryz.prog 205 [agg [b3' p0],agg [b3' p1],agg [b3' p2]].toArray W (Z2d W (agg [b3' r])):=by
 unfold Zao at h
 refine Z9 mo Z0pl rfl ?_
 refine Z0<|Z1<|Zc (Z03 (s:=[b3' p0]) rfl fun b1 u1=>Zc (Z03 (s:=[b3' p1]) rfl fun b2 u2=>Zc (Z03 (s:=[b3' p2]) rfl fun b3 u3=>Zc (Zs fun b4 u4=>Z2<|Z0<|oH h fun y1 f1 h=>oH h fun y2 f2 h=>Zj<|Zg _ (Z04 (p:=[b3' p0]) rfl .t3 rfl)<|Zg _ (Z04 (p:=[b3' p1]) rfl .t2 rfl)<|Z6 _ (Z06 rfl (fun w hw=>Znv f1 (hG.at hw (by simp))))<|Zg _ (Z04 (p:=[b3' p2]) rfl .t1 rfl)<|Z6 _ (Z06 rfl (fun w hw=>Znu f2 (hG.at hw (by simp))))<|Z1n rfl (Zn (q:=[b3' y2]) rfl rfl rfl rfl rfl .here<|Zr<|Zd ?_)))))
 revert h; refine Z00 fun h=>?_
 subst h
 exact ⟨_,(.cons (.agg rfl .here rfl) .nil),rfl⟩
def Z7b (p0:LI) (p1:LI):OL :=
 opt (Zbw p0) fun y1 =>
 opt (Z5o y1.1) fun y2 =>
 opt (Z5n y2) fun y3 =>
 opt (Zas [y1.2,p1]) fun y4 =>
 opt (Z5o y4) fun y5 =>
 opt (Z5n y5) fun y6 =>
 jn (fun (a1:LI)=>opt (Zao a1 y1.1 y4) fun y7 =>
 bnd (wr (List.replicate 64 0) 0 ((tk y6 0 32).take 32)) fun l1 =>
 bnd (wr l1 32 ((tk y7 0 32).take (64-32))) fun l2 =>
 some l2) fun k1=>opt (Zas [(tk y6 0 32),(tk y3 0 32),p1]) fun y8 =>
 k1 y8
theorem Z64 {W:World} {r:(LI)} {p0:LI} {p1:LI} {v1:Value} (h:Z7b p0 p1=some r) (hG:Globs W) (A1:Z5x (El.int .u8) W v1 p1) :
    Calls Tryz.prog 102 [agg [b3' p0],v1].toArray W (Z2d W (agg [b6' r])):=by
 unfold Z7b at h
 refine Z9 mo Z0nl rfl ?_
 refine Z0<|Z1<|Zc (Z03 (s:=[b3' p0]) rfl fun b1 u1=>Zc (Zs fun b2 u2=>Z2<|Z0<|oH h fun y1 f1 h=>Z1<|Z4 _ (Z04 (p:=[b3' p0]) rfl .t1 rfl)<|Zc (Zh rfl (fun w hw=>Zhc  f1 (hG.at hw (by simp))) fun v6 o1 R1=>?_)))
 obtain ⟨v8,w1,rfl,rfl,O1⟩:=R1
 refine Z7 rfl<|Z4 _ (Z0q rfl rfl)<|Z4 _ (Z0q rfl rfl)<|Zc (Zs fun b3 u3=>Zc (Zn (q:=[b3' y1.1]) rfl rfl rfl rfl rfl .here<|Z7 rfl<|Z2<|Z0<|oH h fun y2 f2 h=>oH h fun y3 f3 h=>Z1<|Z4 _ (Z04 (p:=[b3' y1.1]) rfl .here rfl)<|Z4 _ (Z1e rfl (Zaa f2))<|Z4 _ (Z1e rfl (Z8m f3))<|Zc (Zs fun b4 u4=>Zc (Zn (q:=[b3' y3]) rfl rfl rfl rfl rfl .here<|Z2<|Z0<|oH h fun y4 f4 h=>Z1<|Z7 rfl<|Z7 rfl<|Zc (Z5b (E:=El.sl) (xs:=[unS v8,unS v1]) (.one rfl (Z97.cells (Z0b.isSl O1)) rfl (.one rfl (Z97.cells (Shp.isSl (Shp.rd A1))) rfl BdR.nil)) (.cons (p:=[.one v8]) (Z29 (Z0b.isSl O1)) (.cons (p:=[.one v1]) (Z29 (Shp.isSl (Shp.rd A1))) .nil)) rfl fun v17 w2 O2=>Z4 _ (Z06 rfl (fun w hw=>Z65 f4 (hG.at hw (by simp)) (Z0f O2 .here w hw) (.cons (Z2b ((Z0f O1 (.app .t2)) w hw)) (.cons (Z2b ((Z0z A1 Z17) w hw)) .nil))))<|Zc (Zs fun b5 u5=>Zc (Zn (q:=[b3' y4]) rfl rfl rfl rfl rfl .here<|Z2<|Z0<|oH h fun y5 f5 h=>oH h fun y6 f6 h=>Z1<|Z4 _ (Z04 (p:=[b3' y4]) rfl .here rfl)<|Z4 _ (Z1e rfl (Zaa f5))<|Z4 _ (Z1e rfl (Z8m f6))<|Zc (Zs fun b6 u6=>Zc (Zn (q:=[b3' y6]) rfl rfl rfl rfl rfl .here<|Z2<|Z0<|jH h fun k1 q1 h=>Zq (G:=fun t m=>∃ (a1:LI) (b7:Nat),k1 a1=some r/\Fit [(4,pt' b2),(5,pt' b3),(8,pt' b5),(9,pt' b6),(10,pt' b7)] (ck b7 118 [b3' a1]::(ck b6 43 [b3' y6]::(ck b5 118 [b3' y4]::(ck b4 43 [b3' y3]::(ck b3 118 [b3' y1.1]::(ck b2 27 [b6' (List.replicate 64 0)]::(ck b1 23 [b3' p0] :: []))))))) t m) ?_ ?_)))))))))
 ·refine oH h fun y7 f7 h=>Zj<|Z6 _ (Z9h rfl .no .no .no (by simp) (by decide))<|Z6 _ (Z9h rfl .no .no .no (by simp) (by decide))<|Z6 _ (Z09 rfl)<|Zge (Z5b (E:=El.sl) (xs:=[unS (.slice (some (Z26 b6 0 0 32 1)) (32-0) (32-0)),unS (.slice (some (Z26 b4 0 0 32 1)) (32-0) (32-0)),unS v1]) (.one rfl (Z97.cells ⟨_,_,_,rfl⟩) rfl (.one rfl (Z97.cells ⟨_,_,_,rfl⟩) rfl (.one rfl (Z97.cells (Shp.isSl (Shp.rd A1))) rfl BdR.nil))) (.cons (p:=[.one (.slice (some (Z26 b6 0 0 32 1)) (32-0) (32-0))]) (Z29 ⟨_,_,_,rfl⟩) (.cons (p:=[.one (.slice (some (Z26 b4 0 0 32 1)) (32-0) (32-0))]) (Z29 ⟨_,_,_,rfl⟩) (.cons (p:=[.one v1]) (Z29 (Shp.isSl (Shp.rd A1))) .nil))) rfl fun v36 w3 O3=>⟨(by repeat (first | exact Sup.refl _ | apply Sup.cons | apply Sup.app)),?_⟩) (Zs fun b8 u7=>⟨(by repeat (first | exact Sup.refl _ | apply Sup.cons | apply Sup.app)),?_⟩)
  ·refine Zge (ef_q _ (Z06 rfl (fun w hw=>Z65 f7 (hG.at hw (by simp)) (Z0f O3 .here w hw) (.cons (Z2b ((Z1x (s:=[b3' y6]) (N:=32) (k:=.u8) (base:=0) (lo:=0) (hi:=32) (mz:=32) (.app .here) rfl (by decide)) w hw)) (.cons (Z2b ((Z1x (s:=[b3' y3]) (N:=32) (k:=.u8) (base:=0) (lo:=0) (hi:=32) (mz:=32) (.app (.there (.there (.app .here)))) rfl (by decide)) w hw)) (.cons (Z2b ((Z0z A1 Z17) w hw)) .nil))))) ⟨(by repeat (first | exact Sup.refl _ | apply Sup.cons | apply Sup.app)),?_⟩) (Zs fun b8 u7=>⟨(by repeat (first | exact Sup.refl _ | apply Sup.cons | apply Sup.app)),?_⟩)
   ·exact Z2c (Zs fun b8 u7=>⟨(by repeat (first | exact Sup.refl _ | apply Sup.cons | apply Sup.app)),Z1n rfl (Zn (q:=[b3' y7]) rfl rfl rfl rfl rfl .here (Zr (⟨y7,b8,h,⟨⟨rfl,rfl,rfl,rfl,rfl,trivial⟩,(.o (.one (.app .here) (.one (.app .here) (.one (.app (.app .here)) (.one (.app (.app .here)) (.one (.app (.app (.app .here))) (.one (.app (.app (.app .here))) .nil)))))))⟩⟩)))⟩)
   ·exact Z5w _ (Z06 rfl (fun w hw=>Z65 f7 (hG.at hw (by simp)) (Z0f O3 .t1 w hw) (.cons (Z2b ((Z1x (s:=[b3' y6]) (N:=32) (k:=.u8) (base:=0) (lo:=0) (hi:=32) (mz:=32) (.there (.app .here)) rfl (by decide)) w hw)) (.cons (Z2b ((Z1x (s:=[b3' y3]) (N:=32) (k:=.u8) (base:=0) (lo:=0) (hi:=32) (mz:=32) (.there (.app (.there (.there (.app .here))))) rfl (by decide)) w hw)) (.cons (Z2b ((Z0z A1 Z17) w hw)) .nil))))) (Z1n rfl (Zn (q:=[b3' y7]) rfl rfl rfl rfl rfl .here (Zr (⟨y7,b8,h,⟨⟨rfl,rfl,rfl,rfl,rfl,trivial⟩,(.o (.one (.app .here) (.one (.app .here) (.one (.app (.app .here)) (.one (.app (.app .here)) (.one (.app (.app (.app .here))) (.one (.app (.app (.app .here))) .nil)))))))⟩⟩)))) (by repeat (first | exact Sup.refl _ | apply Sup.cons | apply Sup.app))
  ·exact Z2c (Z5b (E:=El.sl) (xs:=[unS (.slice (some (Z26 b6 0 0 32 1)) (32-0) (32-0)),unS (.slice (some (Z26 b4 0 0 32 1)) (32-0) (32-0)),unS v1]) (.one rfl (Z97.cells ⟨_,_,_,rfl⟩) rfl (.one rfl (Z97.cells ⟨_,_,_,rfl⟩) rfl (.one rfl (Z97.cells (Shp.isSl (Shp.rd A1))) rfl BdR.nil))) (.cons (p:=[.one (.slice (some (Z26 b6 0 0 32 1)) (32-0) (32-0))]) (Z29 ⟨_,_,_,rfl⟩) (.cons (p:=[.one (.slice (some (Z26 b4 0 0 32 1)) (32-0) (32-0))]) (Z29 ⟨_,_,_,rfl⟩) (.cons (p:=[.one v1]) (Z29 (Shp.isSl (Shp.rd A1))) .nil))) rfl fun v36 w3 O3=>⟨(by repeat (first | exact Sup.refl _ | apply Sup.cons | apply Sup.app)),Z5w _ (Z06 rfl (fun w hw=>Z65 f7 (hG.at hw (by simp)) (Z0f O3 .here w hw) (.cons (Z2b ((Z1x (s:=[b3' y6]) (N:=32) (k:=.u8) (base:=0) (lo:=0) (hi:=32) (mz:=32) (.app .t1) rfl (by decide)) w hw)) (.cons (Z2b ((Z1x (s:=[b3' y3]) (N:=32) (k:=.u8) (base:=0) (lo:=0) (hi:=32) (mz:=32) (.app (.there (.there (.there (.app .here))))) rfl (by decide)) w hw)) (.cons (Z2b ((Z0z A1 Z17) w hw)) .nil))))) (Z1n rfl (Zn (q:=[b3' y7]) rfl rfl rfl rfl rfl (.app .here) (Zr (⟨y7,b8,h,⟨⟨rfl,rfl,rfl,rfl,rfl,trivial⟩,(.one (.app .here) (.one (.app .here) (.one (.app .here) (.one (.app (.app .here)) (.one (.app (.app .here)) (.one (.app (.app (.app .here))) (.one (.app (.app (.app .here))) .nil)))))))⟩⟩)))) (by repeat (first | exact Sup.refl _ | apply Sup.cons | apply Sup.app))⟩)
 ·rintro t m ⟨a1,b7,h,hF⟩
  refine Zo hF ?_
  clear hF
  subst q1
  refine Z0<|oH h fun y8 f8 h=>Z1<|Z4 _ (Z04 (p:=[b3' a1]) rfl .here rfl)<|Z4 _ (Z04 (p:=[b3' y1.1]) rfl .t4 rfl)<|Z4 _ (Z04 (p:=[b3' y4]) rfl .t2 rfl)<|Z4 _ (Z06 rfl (fun w hw=>Zkt f8 (hG.at hw (by simp))))<|Zc (Zs fun b9 u8=>Zc (Zn (q:=[b3' y8]) rfl rfl rfl rfl rfl .here<|Z2<|Z0<|Z1<|Zc (Zs fun b10 u9=>Z2<|Z0<|bH h fun l1 g1 h=>Zj<|Z6 _ (Z9h rfl .no (.yes rfl) .no (by simp) (by decide))<|Z6 _ (Z9h rfl .no .no .no (by simp) (by decide))<|Z1n rfl (Zgj (q:=[b6' l1]) (lo:=0) (hi:=32) (mz:=64) (base:=0) (cpy0 g1) rfl rfl (Z1x (s:=[b3' y6]) (N:=32) (k:=.u8) (base:=0) (lo:=0) (hi:=32) (mz:=32) .t3 rfl (by decide)) rfl (by decide) rfl .here<|Zr<|Z0<|bH h fun l2 g2 h=>Zj<|Z6 _ (Z9h rfl (.yes rfl) .no .no (by simp) (by decide))<|Z6 _ (Z9h rfl .no .no .no (by simp) (by decide))<|Z1n rfl (Zgj (q:=[b6' l2]) (lo:=32) (hi:=64) (mz:=64) (base:=0) g2 rfl rfl (Z1x (s:=[b3' y8]) (N:=32) (k:=.u8) (base:=0) (lo:=0) (hi:=32) (mz:=32) .t1 rfl (by decide)) rfl (by decide) rfl .here<|Zr<|Z0<|Z1<|Z4 _ (Z04 (p:=[b6' l2]) rfl .here rfl)<|Zc (Zn (q:=[b6' l2]) rfl rfl rfl rfl rfl .t7<|Z2<|Zd ?_))))))
  revert h; refine Z00 fun h=>?_
  subst h
  exact ⟨_,(.cons (.agg rfl .t7 rfl) .nil),rfl⟩
def Zdj:Option (Unit) :=
 some ()
theorem Zi9 {W:World} {r:Unit} (h:Zdj=some r)  :
    Calls Tryz.prog 44 [].toArray W (Z2d W (agg [.one (.func (.func 12) #[] #[]),.one (.func (.func 99) #[] #[]),.one (.func (.func 100) #[] #[]),.one (.func (.func 101) #[] #[])])):=by
 unfold Zdj at h
 refine Z9 mo ok44 rfl ?_
 refine Z0<|Z1<|Zc (Zs fun b1 u1=>Z2<|Z0<|Z1<|Z4 _ (Ze2 (q:=[.one (.func (.func 12) #[] #[]),.one (.func (.func 99) #[] #[]),.one (.func (.func 100) #[] #[]),.one (.func (.func 101) #[] #[])]) (.one rfl rfl rfl (.one rfl rfl rfl (.one rfl rfl rfl (.one rfl rfl rfl BdR.nil)))))<|Zc (Zn (q:=[.one (.func (.func 12) #[] #[]),.one (.func (.func 99) #[] #[]),.one (.func (.func 100) #[] #[]),.one (.func (.func 101) #[] #[])]) rfl rfl rfl rfl rfl .here<|Z2<|Zd ?_))
 revert h; refine Z00 fun h=>?_
 subst h
 exact ⟨_,(.cons (.agg rfl .here rfl) .nil),rfl⟩
def Z9w:Option (Unit) :=
 some ()
theorem Zg1 {W:World} {r:Unit} (h:Z9w=some r)  :
    Calls Tryz.prog 46 [].toArray W (Z2d W (agg [.one (.func (.func 33) #[] #[]),.one (.func (.func 103) #[] #[]),.one (.func (.func 104) #[] #[]),.one (.func (.func 105) #[] #[])])):=by
 unfold Z9w at h
 refine Z9 mo ok46 rfl ?_
 refine Z0<|Z1<|Zc (Zs fun b1 u1=>Z2<|Z0<|Z1<|Z4 _ (Ze2 (q:=[.one (.func (.func 33) #[] #[]),.one (.func (.func 103) #[] #[]),.one (.func (.func 104) #[] #[]),.one (.func (.func 105) #[] #[])]) (.one rfl rfl rfl (.one rfl rfl rfl (.one rfl rfl rfl (.one rfl rfl rfl BdR.nil)))))<|Zc (Zn (q:=[.one (.func (.func 33) #[] #[]),.one (.func (.func 103) #[] #[]),.one (.func (.func 104) #[] #[]),.one (.func (.func 105) #[] #[])]) rfl rfl rfl rfl rfl .here<|Z2<|Zd ?_))
 revert h; refine Z00 fun h=>?_
 subst h
 exact ⟨_,(.cons (.agg rfl .here rfl) .nil),rfl⟩
def Z5i:Option (Unit) :=
 some ()
theorem Zcm {W:World} {r:Unit} (h:Z5i=some r)  :
    Calls Tryz.prog 48 [].toArray W (Z2d W (agg [.one (.func (.func 35) #[] #[]),.one (.func (.func 106) #[] #[]),.one (.func (.func 107) #[] #[]),.one (.func (.func 108) #[] #[])])):=by
 unfold Z5i at h
 refine Z9 mo ok48 rfl ?_
 refine Z0<|Z1<|Zc (Zs fun b1 u1=>Z2<|Z0<|Z1<|Z4 _ (Ze2 (q:=[.one (.func (.func 35) #[] #[]),.one (.func (.func 106) #[] #[]),.one (.func (.func 107) #[] #[]),.one (.func (.func 108) #[] #[])]) (.one rfl rfl rfl (.one rfl rfl rfl (.one rfl rfl rfl (.one rfl rfl rfl BdR.nil)))))<|Zc (Zn (q:=[.one (.func (.func 35) #[] #[]),.one (.func (.func 106) #[] #[]),.one (.func (.func 107) #[] #[]),.one (.func (.func 108) #[] #[])]) rfl rfl rfl rfl rfl .here<|Z2<|Zd ?_))
 revert h; refine Z00 fun h=>?_
 subst h
 exact ⟨_,(.cons (.agg rfl .here rfl) .nil),rfl⟩
def Zg0:Option (Unit) :=
 some ()
theorem Zjk {W:World} {r:Unit} (h:Zg0=some r)  :
    Calls Tryz.prog 63 [].toArray W (Z2d W (agg [.one (.func (.func 34) #[] #[]),.one (.func (.func 125) #[] #[]),.one (.func (.func 126) #[] #[]),.one (.func (.func 127) #[] #[])])):=by
 unfold Zg0 at h
 refine Z9 mo ok63 rfl ?_
 refine Z0<|Z1<|Zc (Zs fun b1 u1=>Z2<|Z0<|Z1<|Z4 _ (Ze2 (q:=[.one (.func (.func 34) #[] #[]),.one (.func (.func 125) #[] #[]),.one (.func (.func 126) #[] #[]),.one (.func (.func 127) #[] #[])]) (.one rfl rfl rfl (.one rfl rfl rfl (.one rfl rfl rfl (.one rfl rfl rfl BdR.nil)))))<|Zc (Zn (q:=[.one (.func (.func 34) #[] #[]),.one (.func (.func 125) #[] #[]),.one (.func (.func 126) #[] #[]),.one (.func (.func 127) #[] #[])]) rfl rfl rfl rfl rfl .here<|Z2<|Zd ?_))
 revert h; refine Z00 fun h=>?_
 subst h
 exact ⟨_,(.cons (.agg rfl .here rfl) .nil),rfl⟩
def Z8p:Option (Unit) :=
 some ()
theorem Zev {W:World} {r:Unit} (h:Z8p=some r)  :
    Calls Tryz.prog 67 [].toArray W (Z2d W (agg [.one (.func (.func 37) #[] #[]),.one (.func (.func 128) #[] #[]),.one (.func (.func 129) #[] #[]),.one (.func (.func 130) #[] #[])])):=by
 unfold Z8p at h
 refine Z9 mo ok67 rfl ?_
 refine Z0<|Z1<|Zc (Zs fun b1 u1=>Z2<|Z0<|Z1<|Z4 _ (Ze2 (q:=[.one (.func (.func 37) #[] #[]),.one (.func (.func 128) #[] #[]),.one (.func (.func 129) #[] #[]),.one (.func (.func 130) #[] #[])]) (.one rfl rfl rfl (.one rfl rfl rfl (.one rfl rfl rfl (.one rfl rfl rfl BdR.nil)))))<|Zc (Zn (q:=[.one (.func (.func 37) #[] #[]),.one (.func (.func 128) #[] #[]),.one (.func (.func 129) #[] #[]),.one (.func (.func 130) #[] #[])]) rfl rfl rfl rfl rfl .here<|Z2<|Zd ?_))
 revert h; refine Z00 fun h=>?_
 subst h
 exact ⟨_,(.cons (.agg rfl .here rfl) .nil),rfl⟩
def Zdk:Option (Unit) :=
 some ()
theorem Zia {W:World} {r:Unit} (h:Zdk=some r)  :
    Calls Tryz.prog 70 [].toArray W (Z2d W (agg [.one (.func (.func 38) #[] #[]),.one (.func (.func 131) #[] #[]),.one (.func (.func 132) #[] #[]),.one (.func (.func 133) #[] #[])])):=by
 unfold Zdk at h
 refine Z9 mo ok70 rfl ?_
 refine Z0<|Z1<|Zc (Zs fun b1 u1=>Z2<|Z0<|Z1<|Z4 _ (Ze2 (q:=[.one (.func (.func 38) #[] #[]),.one (.func (.func 131) #[] #[]),.one (.func (.func 132) #[] #[]),.one (.func (.func 133) #[] #[])]) (.one rfl rfl rfl (.one rfl rfl rfl (.one rfl rfl rfl (.one rfl rfl rfl BdR.nil)))))<|Zc (Zn (q:=[.one (.func (.func 38) #[] #[]),.one (.func (.func 131) #[] #[]),.one (.func (.func 132) #[] #[]),.one (.func (.func 133) #[] #[])]) rfl rfl rfl rfl rfl .here<|Z2<|Zd ?_))
 revert h; refine Z00 fun h=>?_
 subst h
 exact ⟨_,(.cons (.agg rfl .here rfl) .nil),rfl⟩
structure Zb8 (α:Type) where
 put:Z05->α->Option Z05
 may:α->Bool
 sgn:Bool
abbrev wck (b:Nat) (T:TypeId) (u:Value) (f:Int):Ze:=ck b T [.one u,.one (.int .i64 f)]
section
variable {α:Type} (L:α->List Seg) (ms:List Ze)
def MayM (c:ClT) (may:α->Bool):Prop :=
 Zue Tryz.prog c.1=true /\ ∀ (W:World) (b:Nat) (x:α),Zct ms W->Mem W b 0 (L x)->Calls Tryz.prog c.1 (pt0 b::c.2).toArray W (Z2d W (.bool (may x)))
def HiM (c:ClT) (hi:α->Int):Prop :=
 Zue Tryz.prog c.1=true /\ ∀ (W:World) (b:Nat) (x:α),Zct ms W->Mem W b 0 (L x)->Calls Tryz.prog c.1 (pt0 b::c.2).toArray W (Z2d W (.int .i64 (hi x)))
def PutM (c:ClT) (put:Z05->α->Option Z05):Prop :=
 Zue Tryz.prog c.1=true /\ ∀ (W:World) (b:Nat) (x:α) (bw:Nat) (Tw:TypeId) (vw:Value) (Mw:List Ze) (p r:Z05),put p x=some r->Zct ms W->(∀ k∈ms,k.b∉bw::Mw.map (·.b)) ->
  Mem W b 0 (L x)->b∉bw::Mw.map (·.b)->Sat W (bw::Mw.map (·.b)) (wck bw Tw vw p.gfault::(Mw ++ [])) W->Z0b (El.int .u8) vw Mw p.gbytes ->
  Calls Tryz.prog c.1 (pt0 bw::pt0 b::c.2).toArray W (Z7t W (bw::Mw.map (·.b)) (fun v Ms=>∃ (uw:Value) (Mw:List Ze),v = .tuple #[]/\Ms = [.one (wck bw Tw uw r.gfault),.all Mw]/\Z0b (El.int .u8) uw Mw r.gbytes))
end
def AtF (c:FuncId) (off:Nat):Prop:=Zue Tryz.prog c=true /\ ∀ (W:World) (b:Nat),Calls Tryz.prog c [pt0 b].toArray W (Z2d W (.pointer (some ⟨b,0+off,none⟩)))
def SlF (c:FuncId) (off n:Nat):Prop:=Zue Tryz.prog c=true/\0<n /\ ∀ (W:World) (b:Nat),Calls Tryz.prog c [pt0 b].toArray W (Z2d W (.slice (some ⟨b,0+off,none⟩) n n))
section
variable {α:Type} {L:α->List Seg} {ms:List Ze} {F cb db eb tb:Nat} {td te:TypeId} {g g2:FuncId} {off off2:Nat}
theorem MayM.mono {ns:List Ze} {c:ClT} {f:α->Bool} (h:MayM L ms c f) (hs : ∀ k∈ms,k∈ns):MayM L ns c f:=⟨h.1,fun W b x hH=>h.2 W b x (hH.sub hs)⟩
theorem HiM.mono {ns:List Ze} {c:ClT} {f:α->Int} (h:HiM L ms c f) (hs : ∀ k∈ms,k∈ns):HiM L ns c f:=⟨h.1,fun W b x hH=>h.2 W b x (hH.sub hs)⟩
theorem PutM.mono {ns:List Ze} {c:ClT} {f:Z05->α->Option Z05} (h:PutM L ms c f) (hs : ∀ k∈ms,k∈ns):PutM L ns c f :=
 ⟨h.1,fun W b x bw Tw vw Mw p r hr hH hd=>h.2 W b x bw Tw vw Mw p r hr (hH.sub hs) fun k hk=>hd k (hs k hk)⟩
def dAt (os:List Nat) (n:Nat):FnD:=⟨n,[.tmp 2],.seq (.ops [oj 2 (.mv (.const (.pointer none)))]) (.seq (.ops (oj 3 (.mv 0)::oj 4 (.nilc 3)::os.zipIdx.map (fun p=>oj (5+p.2) (.fa p.1 (.tmp (4+p.2)))) ++ [oj 2 (.mv (.tmp (4+os.length)))])) .ret)⟩
theorem Zou {n o:Nat} (ok:okF Tryz.prog F (dAt [o] n)=true) (hn:Z6p Tryz.prog F=true) (h6:Nat.ble 1 n=true):AtF F o:=by
 refine ⟨Zdv ok hn,fun W b=>Z9 mo ok h6 ?_⟩
 exact Z0<|Z1<|Z4 _ (Z09 rfl)<|Z2<|Z0<|Z1<|Z4 _ (Z09 rfl)<|Z4 _ (Z1q rfl)<|Z4 _ (Z1u rfl)<|Z4 _ (Z09 rfl)<|Z2<|Zd ⟨_,.cons (.tmp rfl) .nil,rfl⟩
def dSl (o N:Nat):FnD:=⟨7,[.tmp 2],.seq (.ops [oj 2 (.mv (.const (.slice none 0 0)))]) (.seq (.ops [oj 3 (.mv 0),oj 4 (.nilc 3),oj 5 (.fa o 4),oj 6 (.sla N 1 5 none none none),oj 2 (.mv 6)]) .ret)⟩
theorem slF {o N:Nat} (ok:okF Tryz.prog F (dSl o N)=true) (hn:Z6p Tryz.prog F=true) (h0:0<N):SlF F o N:=by
 refine ⟨Zdv ok hn,h0,fun W b=>Z9 mo ok rfl ?_⟩
 have e:Z26 b (0+o) (0:Int).toNat (N:Int).toNat 1=⟨b,0+o,none⟩:=by unfold Z26; split <;> simp
 have e2:(N:Int).toNat-(0:Int).toNat=N:=by simp
 refine Z0<|Z1<|Z4 _ (Z09 rfl)<|Z2<|Z0<|Z1<|Z4 _ (Z09 rfl)<|Z4 _ (Z1q rfl)<|Z4 _ (Z1u rfl)<|Z4 (.slice (some ⟨b,0+o,none⟩) N N) ?_<|Z4 _ (Z09 rfl)<|Z2<|Zd ⟨_,.cons (.tmp rfl) .nil,rfl⟩
 have:=Z9h (C:=⟨Tryz.prog,7,W,[]⟩) (m:=[]) (t:=(5,.pointer (some ⟨b,0+o,none⟩))::(4,pt0 b)::(3,pt0 b)::(2,.slice none 0 0)::Zqw 0 [pt0 b]) (len:=N) (w:=1) (x:=5) (lo:=none) (hi:=none) (mx:=none) (lz:=0) (hz:=N) (mz:=N) rfl .no .no .no (by simp) ⟨by omega,by omega,by omega,by omega⟩
 rw [e,e2] at this
 exact this
def dAny:FnD:=⟨3,[.tmp 2],.seq (.ops [oj 2 (.mv (.const (.bool false)))]) (.seq (.ops [oj 2 (.mv (.const (.bool true)))]) .ret)⟩
theorem Z05f (ok:okF Tryz.prog F dAny=true) (hn:Z6p Tryz.prog F=true):MayM L ms (F,[]) (fun _=>true) :=
 ⟨Zdv ok hn,fun W b x _ _=>Z9 mo ok rfl<|Z0<|Z1<|Z4 _ (Z09 rfl)<|Z2<|Z0<|Z1<|Z4 _ (Z09 rfl)<|Z2<|Zd ⟨_,.cons (.tmp rfl) .nil,rfl⟩⟩
def Zt1:FnD:=⟨5,[.tmp 3],.seq (.ops [oj 3 (.mv (ci 0))]) (.seq (.ops [oj 4 (.ld 1 false 1),oj 3 (.mv 4)]) .ret)⟩
theorem Z0es {n:Int} (ok:okF Tryz.prog F Zt1=true) (hn:Z6p Tryz.prog F=true) (hc:ck cb tb [.one (.int .i64 n)]∈ms):HiM L ms (F,[pt0 cb]) (fun _=>n) :=
 ⟨Zdv ok hn,fun W b x hH _=>Z9 mo ok rfl<|Z0<|Z1<|Z4 _ (Z09 rfl)<|Z2<|Z0<|Z1<|Z4 _ (Zal rfl (Z5d (hH.cap hc) (by simp)))<|Z4 _ (Z09 rfl)<|Z2<|Zd ⟨_,.cons (.tmp rfl) .nil,rfl⟩⟩
def Zn8 (u:FuncId) (k:IntKind):FnD:=⟨13,[],.ops [oj 5 (.mv 0),oj 6 (.ld 1 false 2),oj 7 (.mv 1),oj 8 (.cv 6 [7]),oj 9 (.nilc 8),oj 10 (.ld 1 false 9),oj 11 (.conv k 10),oj 12 (.call u [5,11])]⟩
theorem Z07m {get:α->Int} (ok:okF Tryz.prog F (Zn8 185 .u32)=true) (hn:Z6p Tryz.prog F=true) (hat:AtF g off) (hg : ∀ x,Zc9 (L x) off=some (.int .i64 (get x))) (hc:ck cb tb [.one (clV (g,[]))]∈ms) :
  PutM L ms (F,[pt0 cb]) (fun w x=>Z6n w (IntKind.u32.wrap (get x))):=by
 refine ⟨Zdv ok hn,fun W b x bw Tw vw Mw p r h hH hd hm hb h0 hO=>Zv mo ok rfl h0 ?_⟩
 refine Z1<|Z4 _ (Z09 rfl)<|Z4 _ (Zal rfl (Z5d (hH.cap hc) (hd _ hc)))<|Z4 _ (Z09 rfl)<|Z4 _ (Zm9 (caps:=[]) hat.1 rfl rfl (fun w hw=>hat.2 w b))<|Z4 _ (Z1q rfl)<|Z4 _ (Zm0 rfl hm hb (hg x))<|Z4 _ (Z7a rfl) <|
  Zc (Z40 (mS:=_::Mw) rfl (Zfy .here .here) (fun w hw=>Zj9 h (Zc3 hw (Zfy .here .here)) hO) fun v Ms hR=>Z2 ?_)
 obtain ⟨uw,Mw',rfl,rfl,hO'⟩:=hR
 exact ⟨_,_,.nil,.one .here (.all .here .nil),⟨_,rfl,⟨uw,Mw',rfl,rfl,hO'⟩⟩⟩
theorem Z07d {get:α->Int} (ok:okF Tryz.prog F (Zn8 191 .u64)=true) (hn:Z6p Tryz.prog F=true) (hat:AtF g off) (hg : ∀ x,Zc9 (L x) off=some (.int .i64 (get x))) (hc:ck cb tb [.one (clV (g,[]))]∈ms) :
  PutM L ms (F,[pt0 cb]) (fun w x=>Z6o w (IntKind.u64.wrap (get x))):=by
 refine ⟨Zdv ok hn,fun W b x bw Tw vw Mw p r h hH hd hm hb h0 hO=>Zv mo ok rfl h0 ?_⟩
 refine Z1<|Z4 _ (Z09 rfl)<|Z4 _ (Zal rfl (Z5d (hH.cap hc) (hd _ hc)))<|Z4 _ (Z09 rfl)<|Z4 _ (Zm9 (caps:=[]) hat.1 rfl rfl (fun w hw=>hat.2 w b))<|Z4 _ (Z1q rfl)<|Z4 _ (Zm0 rfl hm hb (hg x))<|Z4 _ (Z7a rfl) <|
  Zc (Z40 (mS:=_::Mw) rfl (Zfy .here .here) (fun w hw=>Zja h (Zc3 hw (Zfy .here .here)) hO) fun v Ms hR=>Z2 ?_)
 obtain ⟨uw,Mw',rfl,rfl,hO'⟩:=hR
 exact ⟨_,_,.nil,.one .here (.all .here .nil),⟨_,rfl,⟨uw,Mw',rfl,rfl,hO'⟩⟩⟩
abbrev oG (d tc:Nat) (w:Bool) (i:IOp):J:=.op ⟨some d,some (tc,w),i⟩
def Zt2:FnD:=⟨24,[.tmp 5],.seq (.ops [oj 5 (.mv (.const (.bool false)))]) (.seq (.draw (.q [0] (oj 6 (.ld 1 false 1)) (.q [1] (oj 7 (.mv 0)) (.q [2] (oj 8 (.cv 6 [7])) (.q [3] (oj 9 (.nilc 8)) (.q [4] (oj 10 (.ld 1 false 9)) (.q [5] (oj 11 (.ld 1 false 2)) (.q [6] (oj 12 (.bin .geq 10 11)) (.q [7] (oj 13 (.mv 12))
 (.q [8,9,10,11,12,13,14,15,16,17] (.lg false 13 23 none [oG 14 13 true (.ld 1 false 1),oG 15 13 true (.mv 0),oG 16 13 true (.cv 14 [15]),oG 17 13 true (.nilc 16),oG 18 13 true (.ld 1 false 17),oG 19 13 true (.ld 1 false 3),oG 20 13 true (.mv 0),oG 21 13 true (.cv 19 [20]),oG 22 13 true (.bin .leq 18 21)] 22)
 (.q [18] (oj 5 (.mv 23)) .nil)))))))))) []) .ret)⟩
theorem Z07l {get:α->Int} {lo:Int} {c:ClT} {hi:α->Int} (ok:okF Tryz.prog F Zt2=true) (hn:Z6p Tryz.prog F=true) (hat:AtF g off) (hg : ∀ x,Zc9 (L x) off=some (.int .i64 (get x))) (hh:HiM L ms c hi)
  (hc:ck cb tb [.one (clV (g,[]))]∈ms) (hd:ck db td [.one (.int .i64 lo)]∈ms) (he:ck eb te [.one (clV c)]∈ms) :
  MayM L ms (F,[pt0 cb,pt0 db,pt0 eb]) (fun x=>decide (get x≥lo)&&decide (get x<=hi x)):=by
 refine ⟨Zdv ok hn,fun W b x hH hm=>Z9 mo ok rfl ?_⟩
 have qc:=fun (t:TS) (x:Operand) (hx:ev t x=some (pt0 cb))=>Zal (C:=⟨Tryz.prog,24,W,[]⟩) (m:=[]) (t:=t) hx (Z5d (C:=⟨Tryz.prog,24,W,[]⟩) (hH.cap hc) (by simp))
 refine Z0<|Z1<|Z4 _ (Z09 rfl)<|Z2<|Z0<|Zj<|Zg _ (qc _ _ rfl)<|Zg _ (Z09 rfl)<|Zg _ (Zm9 (caps:=[]) hat.1 rfl rfl (fun w hw=>hat.2 w b))<|Zg _ (Z1q rfl)<|Zg _ (Zm0 rfl hm (by simp) (hg x)) <|
  Zg _ (Zal rfl (Z5d (hH.cap hd) (by simp)))<|Zg _ (Zb rfl rfl rfl)<|Zg _ (Z09 rfl)<|Zw6 (v:=decide (get x<=hi x)) rfl rfl rfl (fun hg1=>Z31 rfl _ (qc _ _ rfl) (Z31 rfl _ (Z09 rfl) (Z31 rfl _ (Zm9 (caps:=[]) hat.1 rfl rfl (fun w hw=>hat.2 w b)) (Z31 rfl _ (Z1q rfl)
   (Z31 rfl _ (Zm0 rfl hm (by simp) (hg x)) (Z31 rfl _ (Zal rfl (Z5d (hH.cap he) (by simp))) (Z31 rfl _ (Z09 rfl) (Z31 rfl _ (Zm9 (caps:=c.2) hh.1 rfl rfl (fun w hw=>hh.2 w b x (hH.still0 hw) (Z86 hm (by simp) hw))) (Z31 rfl _ (Zb rfl rfl rfl) Z2a))))))))) (fun _=>rfl) rfl <|
  Zg _ (Z09 rfl)<|Zr<|Zd ⟨_,.cons (.tmp rfl) .nil,rfl⟩
def Z01y:FnD:=⟨20,[.tmp 4],.seq (.ops [oj 4 (.mv (.const (.bool false)))]) (.seq (.draw (.q [0] (oj 5 (.ld 1 false 1)) (.q [1] (oj 6 (.mv 0)) (.q [2] (oj 7 (.cv 5 [6])) (.q [3] (oj 8 (.nilc 7)) (.q [4] (oj 9 (.ld 1 false 8)) (.q [5] (oj 10 (.bin .geq 9 (ci 0))) (.q [6] (oj 11 (.mv 10))
 (.q [7,8,9,10,11,12,13,14] (.lg false 11 19 none [oG 12 11 true (.ld 1 false 1),oG 13 11 true (.mv 0),oG 14 11 true (.cv 12 [13]),oG 15 11 true (.nilc 14),oG 16 11 true (.ld 1 false 15),oG 17 11 true (.ld 1 false 2),oG 18 11 true (.bin .leq 16 17)] 18)
 (.q [15] (oj 4 (.mv 19)) .nil))))))))) []) .ret)⟩
theorem Z07c {get:α->Int} {hi:Int} (ok:okF Tryz.prog F Z01y=true) (hn:Z6p Tryz.prog F=true) (hat:AtF g off) (hg : ∀ x,Zc9 (L x) off=some (.int .i64 (get x)))
  (hc:ck cb tb [.one (clV (g,[]))]∈ms) (hd:ck db td [.one (.int .i64 hi)]∈ms) :
  MayM L ms (F,[pt0 cb,pt0 db]) (fun x=>decide (get x≥0)&&decide (get x<=hi)):=by
 refine ⟨Zdv ok hn,fun W b x hH hm=>Z9 mo ok rfl ?_⟩
 have qc:=fun (t:TS) (x:Operand) (hx:ev t x=some (pt0 cb))=>Zal (C:=⟨Tryz.prog,20,W,[]⟩) (m:=[]) (t:=t) hx (Z5d (C:=⟨Tryz.prog,20,W,[]⟩) (hH.cap hc) (by simp))
 refine Z0<|Z1<|Z4 _ (Z09 rfl)<|Z2<|Z0<|Zj<|Zg _ (qc _ _ rfl)<|Zg _ (Z09 rfl)<|Zg _ (Zm9 (caps:=[]) hat.1 rfl rfl (fun w hw=>hat.2 w b))<|Zg _ (Z1q rfl)<|Zg _ (Zm0 rfl hm (by simp) (hg x)) <|
  Zg _ (Zb rfl rfl rfl)<|Zg _ (Z09 rfl)<|Zw6 (v:=decide (get x<=hi)) rfl rfl rfl (fun hg1=>Z31 rfl _ (qc _ _ rfl) (Z31 rfl _ (Z09 rfl) (Z31 rfl _ (Zm9 (caps:=[]) hat.1 rfl rfl (fun w hw=>hat.2 w b)) (Z31 rfl _ (Z1q rfl)
   (Z31 rfl _ (Zm0 rfl hm (by simp) (hg x)) (Z31 rfl _ (Zal rfl (Z5d (hH.cap hd) (by simp))) (Z31 rfl _ (Zb rfl rfl rfl) Z2a))))))) (fun _=>rfl) rfl <|
  Zg _ (Z09 rfl)<|Zr<|Zd ⟨_,.cons (.tmp rfl) .nil,rfl⟩
theorem Z03f {w:World} {b o N:Nat} {k:IntKind} {xs:LI} {s:List Seg} (hm:Mem w b 0 s) (hs:Zep s o=some (.ints k N xs)):Z5x (El.int k) w (.slice (some ⟨b,0+o,none⟩) N N) (tk xs 0 N):=by
 refine .inr (.inl ⟨b,0+o,N,by rw [Z0k],by rw [Z0k]; exact Nat.le_refl _,fun i hi j hj=>?_⟩)
 rw [Z0k] at hi
 obtain rfl:j=0:=by simp only at hj; omega
 have h1:=Z8g hs i (by simpa [Seg.width] using hi)
 have h2:=Zec hs
 have h3:=hm.cell (o+i) (by simp only [Seg.width] at h2; omega)
 simp only [Nat.mul_one,Nat.add_zero] at h3 ⊢
 rw [Nat.zero_add] at h3 ⊢
 rw [h3,h1]
 simp only [Seg.cells,Z2q hi]
 rw [Zlp,if_pos hi,Nat.zero_add]
 rfl
theorem Z01l {b o n c:Nat} {xs:LI} {S:List Nat} (hb:b∉S):Zdq (.slice (some ⟨b,o,none⟩) n c) xs S:=by
 intro a n' c' e _
 injection e with e
 injection e with e
 subst e
 exact hb
theorem Zzk {W0:World} {S:List Nat} {m:List Ze} {w:World} {b:Nat} (hw:Sat W0 S m w) (h1:b<W0.heap.size) (h2:b∉S):b∉m.map (·.b):=by
 intro hm
 obtain ⟨c,hc,e⟩:=List.mem_map.1 hm
 rcases hw.base c hc with h | h
 ·omega
 ·exact h2 (e▸h)
def Zpx:FnD:=⟨10,[],.ops [oj 5 (.mv 0),oj 6 (.ld 1 false 2),oj 7 (.mv 1),oj 8 (.cv 6 [7]),oj 9 (.call 196 [5,8])]⟩
theorem Z078 {N:Nat} {get:α->LI} (ok:okF Tryz.prog F Zpx=true) (hn:Z6p Tryz.prog F=true) (hat:SlF g off N) (hg : ∀ x,Zep (L x) off=some (.ints .u8 N (get x))) (hc:ck cb tb [.one (clV (g,[]))]∈ms) :
  PutM L ms (F,[pt0 cb]) (fun w x=>Z3j w (tk (get x) 0 N)):=by
 refine ⟨Zdv ok hn,fun W b x bw Tw vw Mw p r h hH hd hm hb h0 hO=>Zv mo ok rfl h0 ?_⟩
 refine Z1<|Z4 _ (Z09 rfl)<|Z4 _ (Zal rfl (Z5d (hH.cap hc) (hd _ hc)))<|Z4 _ (Z09 rfl)<|Z4 _ (Zm9 (caps:=[]) hat.1 rfl rfl (fun w hw=>hat.2.2 w b)) <|
  Zc (Z40 (mS:=_::Mw) rfl (Zfy .here .here) (fun w hw=>Zb7 h (Zc3 hw (Zfy .here .here)) hO ⟨Z03f (Z86 hm hb hw) (hg x),Z01l hb⟩) fun v Ms hR=>Z2 ?_)
 obtain ⟨uw,Mw',rfl,rfl,hO'⟩:=hR
 exact ⟨_,_,.nil,.one .here (.all .here .nil),⟨_,rfl,⟨uw,Mw',rfl,rfl,hO'⟩⟩⟩
end
abbrev Cl4:=ClT×ClT×ClT×Bool
abbrev Z0n (x:Cl4):List Seg:=[.one (clV x.1),.one (clV x.2.1),.one (clV x.2.2.1),.one (.bool x.2.2.2)]
abbrev E4:El Cl4:=⟨4,fun x=>cells (Z0n x),fun x=>by rw [cells_length]; rfl,fun x=>(Z0r (Z3l rfl) (Z0r (Z3l rfl) (Z0r (Z3l rfl) (Z0r (Z3l rfl) Z43)))),by decide,((0,[]),(0,[]),(0,[]),false)⟩
def Zor {α:Type} (L:α->List Seg) (ms:List Ze) (x:Cl4) (s:Zb8 α):Prop:=PutM L ms x.1 s.put/\MayM L ms x.2.2.1 s.may/\x.2.2.2=s.sgn
inductive Z9l {α:Type} (L:α->List Seg) (ms:List Ze):List Cl4->List (Zb8 α)->Prop
 | nil:Z9l L ms [] []
 | cons {x:Cl4} {s:Zb8 α} {xs:List Cl4} {fs:List (Zb8 α)}:Zor L ms x s->Z9l L ms xs fs->Z9l L ms (x::xs) (s::fs)
section
variable {α:Type} {L:α->List Seg} {ms ns ms0:List Ze}
theorem Zor.mono {x:Cl4} {s:Zb8 α} (h:Zor L ms x s) (hs : ∀ k∈ms,k∈ns):Zor L ns x s:=⟨h.1.mono hs,h.2.1.mono hs,h.2.2⟩
theorem Z9l.mono {xs:List Cl4} {fs:List (Zb8 α)} (h:Z9l L ms xs fs) (hs : ∀ k∈ms,k∈ns):Z9l L ns xs fs:=by
 induction h with
 | nil=>exact .nil
 | cons h _ ih=>exact .cons (h.mono hs) ih
theorem Z9l.app {xs ys:List Cl4} {fs gs:List (Zb8 α)} (h:Z9l L ms xs fs) (h':Z9l L ms ys gs):Z9l L ms (xs++ys) (fs++gs):=by
 induction h with
 | nil=>exact h'
 | cons h _ ih=>exact .cons h ih
theorem Z9l.len {xs:List Cl4} {fs:List (Zb8 α)} (h:Z9l L ms xs fs):xs.length=fs.length:=by
 induction h with
 | nil=>rfl
 | cons _ _ ih=>simp [ih]
def fz:Zb8 α:=⟨fun w _=>some w,fun _=>true,false⟩
theorem Z9l.get {xs:List Cl4} {fs:List (Zb8 α)} (h:Z9l L ms xs fs) : ∀ i,i<fs.length->Zor L ms (xs.getD i E4.z) (fs.getD i fz):=by
 induction h with
 | nil=>intro i hi; simp at hi
 | cons h _ ih =>
  intro i hi
  cases i with
  | zero=>exact h
  | succ i=>exact ih i (by simpa using hi)
def RF (L:α->List Seg) (ms0:List Ze) (s:Zb8 α) (v:Value) (Ms:List Pc):Prop:=∃ (x:Cl4) (M:List Ze),v=agg (Z0n x)/\Ms = [.all M]/\Zor L (M++ms0) x s
abbrev zF:List Seg:=[.one .nilFunc,.one .nilFunc,.one .nilFunc,.one (.bool false)]
variable {F F1 F2 F3 g g2 off off2:Nat}
def Zyj (get:α->Int) (lo:Int) (hi:α->Int):Zb8 α:=⟨fun w x=>Z6n w (IntKind.u32.wrap (get x)),fun x=>decide (get x≥lo)&&decide (get x<=hi x),true⟩
def fMon (get:α->Int) (hi:Int):Zb8 α:=⟨fun w x=>Z6o w (IntKind.u64.wrap (get x)),fun x=>decide (get x≥0)&&decide (get x<=hi),true⟩
def Zxl (get:α->LI) (N:Nat) (s:Bool):Zb8 α:=⟨fun w x=>Z3j w (tk (get x) 0 N),fun _=>true,s⟩
def fInn {β:Type} (inn:α->β) (s:Zb8 β):Zb8 α:=⟨fun w x=>s.put w (inn x),fun x=>s.may (inn x),true⟩
def dLim (tb F1:Nat):FnD:=⟨4,[.tmp 2],.seq (.ops [oj 1 (.bx tb 0),oj 2 (.mv (.const .nilFunc))]) (.seq (.ops [oj 3 (.mf F1 [1]),oj 2 (.mv 3)]) .ret)⟩
theorem Zd9 {tb:Nat} {W:World} {n:Int} (ok:okF Tryz.prog F (dLim tb F1)=true) (ok1:okF Tryz.prog F1 Zt1=true) (hn1:Z6p Tryz.prog F1=true) :
  Calls Tryz.prog F [.int .i64 n].toArray W (Z7t W [] (fun v Ms=>∃ (c:ClT) (M:List Ze),v=clV c/\Ms = [.all M]/\HiM L M c (fun _=>n))):=by
 refine Zv mo ok rfl (Zg4 _) ?_
 refine Z0<|Z1<|Zc (Zgz rfl rfl fun b _=>Z4 _ (Z09 rfl)<|Z2<|Z0<|Z1<|Z4 _ (Zv9 rfl)<|Z4 _ (Z09 rfl)<|Z2<|Zd ?_)
 exact ⟨_,_,.cons (.tmp rfl) .nil,.all (ms:=[ck b tb [.one (.int .i64 n)]]) .here .nil,⟨_,rfl,(F1,[pt0 b]),[ck b tb [.one (.int .i64 n)]],rfl,rfl,Z0es (tb:=tb) ok1 hn1 (by simp)⟩⟩
def dNum (ta tb tc tf F1 F2 F3:Nat):FnD:=⟨11,[.cell 6 4 true],.seq (.ops [oj 3 (.bx ta 0),oj 4 (.bx tb 1),oj 5 (.bx tc 2),oj 6 (.al tf zF)]) (.seq (.ops [oj 7 (.mf F1 [3]),oj 8 (.mf F2 [3]),oj 9 (.mf F3 [3,4,5]),oj 10 (.bd zF [(0,1,7),(1,1,8),(2,1,9),(3,1,.const (.bool true))]),on_ (.st 4 6 10)]) .ret)⟩
theorem Zda {ta tb tc tf:Nat} {W:World} {get:α->Int} {lo:Int} {c:ClT} {hi:α->Int} (ok:okF Tryz.prog F (dNum ta tb tc tf F1 F2 F3)=true) (ok1:okF Tryz.prog F1 (Zn8 185 .u32)=true) (ok3:okF Tryz.prog F3 Zt2=true) (hn1:Z6p Tryz.prog F1=true) (hn3:Z6p Tryz.prog F3=true)
  (hat:AtF g off) (hg : ∀ x,Zc9 (L x) off=some (.int .i64 (get x))) (hh:HiM L ms0 c hi) :
  Calls Tryz.prog F [clV (g,[]),.int .i64 lo,clV c].toArray W (Z7t W [] (RF L ms0 (Zyj get lo hi))):=by
 refine Zv mo ok rfl (Zg4 _) ?_
 refine Z0<|Z1<|Zc (Zgz rfl rfl fun b1 _=>Zc (Zgz rfl rfl fun b2 _=>Zc (Zgz rfl rfl fun b3 _=>Zc (Zs fun b4 _=>Z2<|Z0<|Z1<|Z4 _ (Zv9 rfl)<|Z4 _ (Zv9 rfl)<|Z4 _ (Zv9 rfl) <|
  Z4 _ (Ze2 (q:=Z0n ((F1,[pt0 b1]),(F2,[pt0 b1]),(F3,[pt0 b1,pt0 b2,pt0 b3]),true)) (.one rfl rfl rfl (.one rfl rfl rfl (.one rfl rfl rfl (.one rfl rfl rfl BdR.nil))))) <|
  Zc (Zn (q:=Z0n ((F1,[pt0 b1]),(F2,[pt0 b1]),(F3,[pt0 b1,pt0 b2,pt0 b3]),true)) rfl rfl rfl rfl rfl .here<|Z2<|Zd ?_)))))
 exact ⟨_,_,.cons (.agg rfl .here rfl) .nil,.all (ms:=[ck b3 tc [.one (clV c)],ck b2 tb [.one (.int .i64 lo)],ck b1 ta [.one (clV (g,[]))]]) (.there .here) .nil,⟨_,rfl,_,_,rfl,rfl,
  Z07m (tb:=ta) ok1 hn1 hat hg (by simp),Z07l (tb:=ta) (td:=tb) (te:=tc) ok3 hn3 hat hg (hh.mono fun k hk=>List.mem_append_right _ hk) (by simp) (by simp) (by simp),rfl⟩⟩
def dMon (ta tb tf F1 F2 F3:Nat):FnD:=⟨9,[.cell 4 4 true],.seq (.ops [oj 2 (.bx ta 0),oj 3 (.bx tb 1),oj 4 (.al tf zF)]) (.seq (.ops [oj 5 (.mf F1 [2]),oj 6 (.mf F2 [2]),oj 7 (.mf F3 [2,3]),oj 8 (.bd zF [(0,1,5),(1,1,6),(2,1,7),(3,1,.const (.bool true))]),on_ (.st 4 4 8)]) .ret)⟩
theorem Zux {ta tb tf:Nat} {W:World} {get:α->Int} {hi:Int} (ok:okF Tryz.prog F (dMon ta tb tf F1 F2 F3)=true) (ok1:okF Tryz.prog F1 (Zn8 191 .u64)=true) (ok3:okF Tryz.prog F3 Z01y=true) (hn1:Z6p Tryz.prog F1=true) (hn3:Z6p Tryz.prog F3=true)
  (hat:AtF g off) (hg : ∀ x,Zc9 (L x) off=some (.int .i64 (get x))) :
  Calls Tryz.prog F [clV (g,[]),.int .i64 hi].toArray W (Z7t W [] (RF L [] (fMon get hi))):=by
 refine Zv mo ok rfl (Zg4 _) ?_
 refine Z0<|Z1<|Zc (Zgz rfl rfl fun b1 _=>Zc (Zgz rfl rfl fun b2 _=>Zc (Zs fun b4 _=>Z2<|Z0<|Z1<|Z4 _ (Zv9 rfl)<|Z4 _ (Zv9 rfl)<|Z4 _ (Zv9 rfl) <|
  Z4 _ (Ze2 (q:=Z0n ((F1,[pt0 b1]),(F2,[pt0 b1]),(F3,[pt0 b1,pt0 b2]),true)) (.one rfl rfl rfl (.one rfl rfl rfl (.one rfl rfl rfl (.one rfl rfl rfl BdR.nil))))) <|
  Zc (Zn (q:=Z0n ((F1,[pt0 b1]),(F2,[pt0 b1]),(F3,[pt0 b1,pt0 b2]),true)) rfl rfl rfl rfl rfl .here<|Z2<|Zd ?_))))
 exact ⟨_,_,.cons (.agg rfl .here rfl) .nil,.all (ms:=[ck b2 tb [.one (.int .i64 hi)],ck b1 ta [.one (clV (g,[]))]]) (.there .here) .nil,⟨_,rfl,_,_,rfl,rfl,
  Z07d (tb:=ta) ok1 hn1 hat hg (by simp),Z07c (tb:=ta) (td:=tb) ok3 hn3 hat hg (by simp) (by simp),rfl⟩⟩
def dLst (ta tf F1 F2 F3:Nat):FnD:=⟨9,[.cell 4 4 true],.seq (.ops [oj 2 (.bx ta 0),oj 4 (.al tf zF)]) (.seq (.ops [oj 5 (.mf F1 [2]),oj 6 (.mf F2 [2]),oj 7 (.mv 1),oj 8 (.bd zF [(0,1,5),(1,1,6),(2,1,.func F3),(3,1,7)]),on_ (.st 4 4 8)]) .ret)⟩
theorem Zc2 {ta tf N:Nat} {W:World} {get:α->LI} {s:Bool} (ok:okF Tryz.prog F (dLst ta tf F1 F2 F3)=true) (ok1:okF Tryz.prog F1 Zpx=true) (ok3:okF Tryz.prog F3 dAny=true) (hn1:Z6p Tryz.prog F1=true) (hn3:Z6p Tryz.prog F3=true)
  (hat:SlF g off N) (hg : ∀ x,Zep (L x) off=some (.ints .u8 N (get x))) :
  Calls Tryz.prog F [clV (g,[]),.bool s].toArray W (Z7t W [] (RF L [] (Zxl get N s))):=by
 refine Zv mo ok rfl (Zg4 _) ?_
 refine Z0<|Z1<|Zc (Zgz rfl rfl fun b1 _=>Zc (Zs fun b4 _=>Z2<|Z0<|Z1<|Z4 _ (Zv9 rfl)<|Z4 _ (Zv9 rfl)<|Z4 _ (Z09 rfl) <|
  Z4 _ (Ze2 (q:=Z0n ((F1,[pt0 b1]),(F2,[pt0 b1]),(F3,[]),s)) (.one rfl rfl rfl (.one rfl rfl rfl (.one rfl rfl rfl (.one rfl rfl rfl BdR.nil))))) <|
  Zc (Zn (q:=Z0n ((F1,[pt0 b1]),(F2,[pt0 b1]),(F3,[]),s)) rfl rfl rfl rfl rfl .here<|Z2<|Zd ?_)))
 exact ⟨_,_,.cons (.agg rfl .here rfl) .nil,.all (ms:=[ck b1 ta [.one (clV (g,[]))]]) (.there .here) .nil,⟨_,rfl,_,_,rfl,rfl,
  Z078 (tb:=ta) ok1 hn1 hat hg (by simp),Z05f ok3 hn3,rfl⟩⟩
end
end Go.Proofs.YteefpkhngighgaaGreatDoor
