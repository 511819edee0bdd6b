/- Texts of a proof, one behind the other: L3 L4 L5 L6 L7 L8 L9 L10. -/
import Derived.Test.YtiflckckekjbnaaGreatDoorMX3
namespace Go.Proofs.YtiflckckekjbnaaGreatDoor
open Go Go.Sx Go.RowKit
open List (replicate)
open Go.IntKind (wrap)
set_option linter.all false
set_option maxHeartbeats 400000
set_option maxRecDepth 100000
def Z5r (p0:Int) (p1:Int):Option (Int×Int) :=
 bnd (Z4 .and .u64 p0 4294967295) fun z1 =>
 bnd (Zq .u64 p0 32) fun z2 =>
 bnd (Z4 .and .u64 p1 4294967295) fun z3 =>
 bnd (Zq .u64 p1 32) fun z4 =>
 bnd (wrap .u64 (z1*z3)) fun z5 =>
 bnd (wrap .u64 (z2*z3)) fun z6 =>
 bnd (Zq .u64 z5 32) fun z7 =>
 bnd (wrap .u64 (z6+z7)) fun z8 =>
 bnd (Z4 .and .u64 z8 4294967295) fun z9 =>
 bnd (Zq .u64 z8 32) fun z10 =>
 bnd (wrap .u64 (z1*z4)) fun z11 =>
 bnd (wrap .u64 (z9+z11)) fun z12 =>
 bnd (wrap .u64 (z2*z4)) fun z13 =>
 bnd (wrap .u64 (z13+z10)) fun z14 =>
 bnd (Zq .u64 z12 32) fun z15 =>
 bnd (wrap .u64 (z14+z15)) fun z16 =>
 bnd (wrap .u64 (p0*p1)) fun z17 =>
 some (z16,z17)
theorem Zb5 {W:World} {r:Int×Int} {p0:Int} {p1:Int} (h:Z5r p0 p1=some r)  :
    Calls Tryz.prog 200 [.int .u64 (p0),.int .u64 (p1)].toArray W (Z36 W (.tuple #[.int .u64 (r.1),.int .u64 (r.2)])):=by
 unfold Z5r at h
 refine Zc mo Z0ov rfl ?_
 refine Z0<|Z2<|Z7 rfl<|Z7 rfl<|Z1<|Z0<|bH h fun z1 e1 h=>Z2<|Z7 rfl<|Z6 _ (iz e1 (Z9 rfl rfl rfl))<|Z7 rfl<|Z1<|Z0<|bH h fun z2 e2 h=>Z2<|Z7 rfl<|Z6 _ (iz e2 (Z5g rfl rfl (by decide)))<|Z7 rfl<|Z1<|Z0<|bH h fun z3 e3 h=>Z2<|Z7 rfl<|Z6 _ (iz e3 (Z9 rfl rfl rfl))<|Z7 rfl<|Z1<|Z0<|bH h fun z4 e4 h=>Z2<|Z7 rfl<|Z6 _ (iz e4 (Z5g rfl rfl (by decide)))<|Z7 rfl<|Z1<|Z0<|bH h fun z5 e5 h=>Z2<|Z7 rfl<|Z7 rfl<|Z6 _ (iz e5 (Z9 rfl rfl rfl))<|Z7 rfl<|Z1<|Z0<|bH h fun z6 e6 h=>bH h fun z7 e7 h=>bH h fun z8 e8 h=>Z2<|Z7 rfl<|Z7 rfl<|Z6 _ (iz e6 (Z9 rfl rfl rfl))<|Z7 rfl<|Z6 _ (iz e7 (Z5g rfl rfl (by decide)))<|Z6 _ (iz e8 (Z9 rfl rfl rfl))<|Z7 rfl<|Z1<|Z0<|bH h fun z9 e9 h=>Z2<|Z7 rfl<|Z6 _ (iz e9 (Z9 rfl rfl rfl))<|Z7 rfl<|Z1<|Z0<|bH h fun z10 e10 h=>Z2<|Z7 rfl<|Z6 _ (iz e10 (Z5g rfl rfl (by decide)))<|Z7 rfl<|Z1<|Z0<|bH h fun z11 e11 h=>bH h fun z12 e12 h=>Z2<|Z7 rfl<|Z7 rfl<|Z7 rfl<|Z6 _ (iz e11 (Z9 rfl rfl rfl))<|Z6 _ (iz e12 (Z9 rfl rfl rfl))<|Z7 rfl<|Z1<|Z0<|bH h fun z13 e13 h=>bH h fun z14 e14 h=>bH h fun z15 e15 h=>bH h fun z16 e16 h=>Z2<|Z7 rfl<|Z7 rfl<|Z6 _ (iz e13 (Z9 rfl rfl rfl))<|Z7 rfl<|Z6 _ (iz e14 (Z9 rfl rfl rfl))<|Z7 rfl<|Z6 _ (iz e15 (Z5g rfl rfl (by decide)))<|Z6 _ (iz e16 (Z9 rfl rfl rfl))<|Z7 rfl<|Z1<|Z0<|bH h fun z17 e17 h=>Z2<|Z7 rfl<|Z7 rfl<|Z6 _ (iz e17 (Z9 rfl rfl rfl))<|Z7 rfl<|Z1<|Zi ?_
 revert h; refine Zt fun h=>?_
 subst h
 exact ⟨_,(.cons (.tmp rfl) (.cons (.tmp rfl) .nil)),rfl⟩
def Z2x (p0:LI) (o:Nat) (L:Nat) (p1:Int) (p2:Int):OL :=
 opt (Z5r p1 p2) fun y1 =>
 chk (decide (o+1<L)) <|
 bnd (p0.getD (o+1) 0) fun z1 =>
 chk (Zep z1 y1.2 0) <|
 bnd (Zae z1 y1.2 0) fun z2 =>
 bnd (Zev z1 y1.2 0) fun z3 =>
 chk (decide (o+1<L)) <|
 bnd (Z2u p0 (o+1) z2) fun l1 =>
 chk (decide (o+0<L)) <|
 bnd (l1.getD (o+0) 0) fun z4 =>
 chk (Zep z4 y1.1 z3) <|
 bnd (Zae z4 y1.1 z3) fun z5 =>
 bnd (Zev z4 y1.1 z3) fun z6 =>
 chk (decide (o+0<L)) <|
 bnd (Z2u l1 (o+0) z5) fun l2 =>
 some l2
theorem Z88 {W:World} {r:(LI)} {p0:LI} {o:Nat} {L:Nat} {p1:Int} {p2:Int} {b:Nat} {T:TypeId} (h:Z2x p0 o L p1 p2=some r) (h0:Sat W [b] (ck b T [.ints .u64 L (p0)] :: []) W) :
    Calls Tryz.prog 157 [.pointer (some ⟨b,o,none⟩),.int .u64 (p1),.int .u64 (p2)].toArray W (Zc6 W [b] (fun v Ms=>v = .tuple #[]/\Ms = [.one (ck b T [.ints .u64 L (r)])])):=by
 unfold Z2x at h
 refine Z04 mo Z0nv rfl h0 ?_
 refine Z0<|oH h fun y1 f1 h=>Z2<|Z7 rfl<|Z7 rfl<|Z6 _ (Z0b rfl (Zb5 f1))<|Z7 rfl<|Z6 _ (Z2i rfl rfl)<|Z6 _ (Z2i rfl rfl)<|Z7 rfl<|Z7 rfl<|Z1<|Z0<|Z2<|Z7 rfl<|Z1<|Z0<|cH h fun c1 h=>bH h fun z1 e1 h=>cH h fun c2 h=>bH h fun z2 e2 h=>bH h fun z3 e3 h=>cH h fun c3 h=>bH h fun l1 g1 h=>Z2<|Z7 rfl<|Z7 rfl<|Z6 _ (Z5s rfl)<|Z6 _ (Z4f rfl)<|Z6 _ (Z04a (base:=0) (i:=o+1) e1 rfl .here rfl (by omega) c1)<|Z7 rfl<|Z6 _ (Zft rfl Zhb (xadd e2 e3 c2))<|Z7 rfl<|Z6 _ (Z2i rfl rfl)<|Z6 _ (Z2i rfl rfl)<|Z6 _ (Z5s rfl)<|Z6 _ (Z4f rfl)<|Zg (Zxa (base:=0) (i:=o+1) (q:=[.ints .u64 L l1]) g1 rfl rfl rfl (by omega) c3 (by simp [Zen,Seg.width]) .here<|Z7 rfl<|Z1<|cH h fun c4 h=>bH h fun z4 e4 h=>cH h fun c5 h=>bH h fun z5 e5 h=>bH h fun z6 e6 h=>cH h fun c6 h=>bH h fun l2 g2 h=>Z2<|Z7 rfl<|Z7 rfl<|Z6 _ (Z5s rfl)<|Z6 _ (Z4f rfl)<|Z6 _ (Z04a (base:=0) (i:=o+0) e4 rfl .here rfl (by omega) c4)<|Z7 rfl<|Z7 rfl<|Z6 _ (Zft rfl Zhb (xadd e5 e6 c5))<|Z7 rfl<|Z6 _ (Z2i rfl rfl)<|Z6 _ (Z2i rfl rfl)<|Z6 _ (Z5s rfl)<|Z6 _ (Z4f rfl)<|Zg (Zxa (base:=0) (i:=o+0) (q:=[.ints .u64 L l2]) g2 rfl rfl rfl (by omega) c6 (by simp [Zen,Seg.width]) .here<|Z1 ?_))
 revert h; refine Zt fun h=>?_
 subst h
 exact ⟨_,_,.nil,(.o .nil),⟨_,rfl,⟨rfl,rfl⟩⟩⟩
def Z6v (y1:(LI)) (i1:Int) (z1:Int) (k1:(LI)->OL) (k2:Int->(LI)->OL) (i2:Int) (a1:LI):OL :=
 br ((decide (i2<5))) (
 jn (fun (a2:LI)=>bnd (wrap .i64 (i2+1)) fun z2 =>
 k2 z2 a2) fun k3=>chk (inB i2 5) <|
 bnd (y1.getD (i2).toNat 0) fun z3 =>
 bnd (wrap .i64 (i1+i2)) fun z4 =>
 br ((decide (z4<5))) (
 bnd (wrap .i64 (i1+i2)) fun z5 =>
 chk (inB z5 5) <|
 opt (Z2x a1 (0+(z5).toNat*2) 10 z1 z3) fun y2 =>
 k3 y2
 ) (
 bnd (wrap .i64 (i1+i2)) fun z6 =>
 bnd (wrap .i64 (z6-5)) fun z7 =>
 chk (inB z7 5) <|
 bnd (wrap .u64 (19*z3)) fun z8 =>
 opt (Z2x a1 (0+(z7).toNat*2) 10 z1 z8) fun y3 =>
 k3 y3
 )
 ) (
 k1 a1
 )
def Z5x (y1:(LI)) (i1:Int) (z1:Int) (k1:(LI)->OL):Nat->Int->(LI)->OL
  | 0,_,_=>none
  | n+1,i2,a1=>Z6v y1 i1 z1 k1 (Z5x y1 i1 z1 k1 n) i2 a1
def Zai (y1:(LI)) (y2:(LI)) (k1:(LI)->OL) (k2:Int->(LI)->OL) (i1:Int) (a1:LI):OL :=
 br ((decide (i1<5))) (
 chk (inB i1 5) <|
 bnd (y1.getD (i1).toNat 0) fun z1 =>
 jn (fun (a2:LI)=>bnd (wrap .i64 (i1+1)) fun z2 =>
 k2 z2 a2) fun k3=>Z5x y2 i1 z1 k3 big 0 a1
 ) (
 k1 a1
 )
def Z3v (y1:(LI)) (y2:(LI)) (k1:(LI)->OL):Nat->Int->(LI)->OL
  | 0,_,_=>none
  | n+1,i1,a1=>Zai y1 y2 k1 (Z3v y1 y2 k1 n) i1 a1
def Z8n (a1:LI) (k1:Int->(LI)->OL) (k2:Int->Int->(LI)->OL) (i1:Int) (i2:Int) (a2:LI):OL :=
 br ((decide (i2<5))) (
 chk (inB i2 5) <|
 bnd (tk a1 ((i2).toNat*2) 2) fun l1 =>
 bnd (l1.getD 1 0) fun z1 =>
 chk (Zep z1 i1 0) <|
 bnd (Zae z1 i1 0) fun z2 =>
 bnd (Zev z1 i1 0) fun z3 =>
 bnd (Z4 .and .u64 z2 2251799813685247) fun z4 =>
 chk (inB i2 5) <|
 bnd (Z2u a2 (i2).toNat z4) fun l2 =>
 bnd (l1.getD 0 0) fun z5 =>
 bnd (wrap .u64 (z5+z3)) fun z6 =>
 bnd (Zl .u64 z6 13) fun z7 =>
 bnd (Zq .u64 z2 51) fun z8 =>
 bnd (Z4 .or .u64 z7 z8) fun z9 =>
 bnd (wrap .i64 (i2+1)) fun z10 =>
 k2 z9 z10 l2
 ) (
 k1 i1 a2
 )
def Z4h (a1:LI) (k1:Int->(LI)->OL):Nat->Int->Int->(LI)->OL
  | 0,_,_,_=>none
  | n+1,i1,i2,a2=>Z8n a1 k1 (Z4h a1 k1 n) i1 i2 a2
def Z0y (p0:LI) (p1:LI):OL :=
 opt (Z5c p0) fun y1 =>
 opt (Z5c p1) fun y2 =>
 jn (fun (a1:LI)=>jn (fun (i1:Int) (a2:LI)=>opt (Z2x (replicate 2 0) 0 2 i1 19) fun y3 =>
 bnd (y3.getD 1 0) fun z1 =>
 bnd (a2.getD 0 0) fun z2 =>
 chk (Zep z1 z2 0) <|
 bnd (Zae z1 z2 0) fun z3 =>
 bnd (Zev z1 z2 0) fun z4 =>
 bnd (Z4 .and .u64 z3 2251799813685247) fun z5 =>
 bnd (Z2u a2 0 z5) fun l1 =>
 bnd (l1.getD 1 0) fun z6 =>
 bnd (y3.getD 0 0) fun z7 =>
 bnd (wrap .u64 (z7+z4)) fun z8 =>
 bnd (Zl .u64 z8 13) fun z9 =>
 bnd (Zq .u64 z3 51) fun z10 =>
 bnd (Z4 .or .u64 z9 z10) fun z11 =>
 bnd (wrap .u64 (z6+z11)) fun z12 =>
 bnd (Z2u l1 1 z12) fun l2 =>
 opt (Z1v l2) fun y4 =>
 some y4) fun k1=>Z4h a1 k1 big 0 0 (replicate 5 0)) fun k2=>Z3v y1 y2 k2 big 0 (replicate 10 0)
theorem Z09 {W:World} {r:(LI)} {p0:LI} {p1:LI} (h:Z0y p0 p1=some r)  :
    Calls Tryz.prog 92 [agg [u5' p0],agg [u5' p1]].toArray W (Z36 W (agg [u5' r])):=by
 unfold Z0y at h
 refine Zc mo ok92 rfl ?_
 refine Z0<|Z2<|Zg (Z0k (s:=[u5' p0]) rfl fun b1 u1=>Zg (Z0k (s:=[u5' p1]) rfl fun b2 u2=>Zg (Zv fun b3 u3=>Z1<|Z0<|oH h fun y1 f1 h=>oH h fun y2 f2 h=>Zr<|Zn _ (Zy (p:=[u5' p0]) rfl .t2 rfl)<|Z8 _ (Z0b rfl (Z4y f1))<|Zn _ (Zy (p:=[u5' p1]) rfl .t1 rfl)<|Z8 _ (Z0b rfl (Z4y f2))<|Z1z rfl (Zs (q:=[u5' y1]) rfl rfl rfl rfl rfl .t2<|Z03k rfl (Zs (q:=[u5' y2]) rfl rfl rfl rfl rfl .t1<|Z00<|Z0<|Z2<|Zg (Zv fun b4 u4=>Z1<|Z0<|Z0<|Z2<|Z6 _ (Zy (p:=[u5' y1]) rfl .t3 rfl)<|Z7 rfl<|Z1<|jH h fun k1 q1 h=>Zm (G:=fun t m=>∃ (a1:LI),k1 a1=some r/\Fit [(4,pt' b3),(5,pt' b4)] (ck b4 188 [uA' a1]::(ck b3 80 [u5' (replicate 5 0)]::(ck b2 80 [u5' y2]::(ck b1 80 [u5' y1] :: [])))) t m) ?_ ?_))))))
 ·refine Za<|Zp (fun n1 t m=>∃ (i1:Int) (a2:LI),Z3v y1 y2 k1 n1 i1 a2=some r/\Fit [(3,pt' b2),(4,pt' b3),(5,pt' b4),(23,agg [u5' y1]),(24,.int .i64 (i1))] (ck b4 188 [uA' a2]::(ck b3 80 [u5' (replicate 5 0)]::(ck b2 80 [u5' y2]::(ck b1 80 [u5' y1] :: [])))) t m) big ?_ ?_
  ·exact ⟨0,(replicate 10 0),h,⟨⟨rfl,rfl,rfl,rfl,rfl,trivial⟩,(.o (.o (.o (.o .nil))))⟩⟩
  ·rintro n1 t m ⟨i1,a2,h,hF⟩
   refine Zk hF ?_
   clear hF
   rcases n1 with _ | n1
   · exact Z0a h
   have h:Zai y1 y2 k1 (Z3v y1 y2 k1 n1) i1 a2=some r:=h
   unfold Zai at h
   obtain ⟨k2,q2⟩ : ∃ k,k=Z3v y1 y2 k1 n1:=⟨_,rfl⟩
   try rw [<- q2] at h
   refine Z0<|Z2<|Z6 _ (Z9 rfl rfl rfl)<|Z1<|Z0<|Z02 h rfl (fun h=>?_) (fun h=>?_)
   ·refine Ze<|Z0<|Za<|Z0<|cH h fun c1 h=>bH h fun z1 e1 h=>Z2<|Z7 rfl<|Z6 _ (iz e1 (Zk5 (len:=5) rfl rfl (Z0j c1)))<|Z7 rfl<|Z7 rfl<|Z1<|Z0<|Z2<|Z6 _ (Zy (p:=[u5' y2]) rfl .t2 rfl)<|Z7 rfl<|Z1<|jH h fun k3 q3 h=>Zm (G:=fun t m=>∃ (a3:LI),k3 a3=some r/\Fit [(3,pt' b2),(4,pt' b3),(5,pt' b4),(23,agg [u5' y1]),(24,.int .i64 (i1))] (ck b4 188 [uA' a3]::(ck b3 80 [u5' (replicate 5 0)]::(ck b2 80 [u5' y2]::(ck b1 80 [u5' y1] :: [])))) t m) ?_ ?_
    ·refine Za<|Zp (fun n2 t m=>∃ (i2:Int) (a4:LI),Z5x y2 i1 z1 k3 n2 i2 a4=some r/\Fit [(3,pt' b2),(4,pt' b3),(5,pt' b4),(6,.int .i64 (i1)),(7,.int .u64 (z1)),(23,agg [u5' y1]),(24,.int .i64 (i1)),(28,agg [u5' y2]),(29,.int .i64 (i2))] (ck b4 188 [uA' a4]::(ck b3 80 [u5' (replicate 5 0)]::(ck b2 80 [u5' y2]::(ck b1 80 [u5' y1] :: [])))) t m) big ?_ ?_
     ·exact ⟨0,a2,h,⟨⟨rfl,rfl,rfl,rfl,rfl,rfl,rfl,rfl,rfl,trivial⟩,(.o (.o (.o (.o .nil))))⟩⟩
     ·rintro n2 t m ⟨i2,a4,h,hF⟩
      refine Zk hF ?_
      clear hF
      rcases n2 with _ | n2
      · exact Z0a h
      have h:Z6v y2 i1 z1 k3 (Z5x y2 i1 z1 k3 n2) i2 a4=some r:=h
      unfold Z6v at h
      obtain ⟨k4,q4⟩ : ∃ k,k=Z5x y2 i1 z1 k3 n2:=⟨_,rfl⟩
      try rw [<- q4] at h
      refine Z0<|Z2<|Z6 _ (Z9 rfl rfl rfl)<|Z1<|Z0<|Z02 h rfl (fun h=>?_) (fun h=>?_)
      ·refine Ze<|Z0<|jH h fun k5 q5 h=>Zm (G:=fun t m=>∃ (a5:LI),k5 a5=some r/\Fit [(3,pt' b2),(4,pt' b3),(5,pt' b4),(6,.int .i64 (i1)),(7,.int .u64 (z1)),(23,agg [u5' y1]),(24,.int .i64 (i1)),(28,agg [u5' y2]),(29,.int .i64 (i2))] (ck b4 188 [uA' a5]::(ck b3 80 [u5' (replicate 5 0)]::(ck b2 80 [u5' y2]::(ck b1 80 [u5' y1] :: [])))) t m) ?_ ?_
       ·refine Za<|Z0<|cH h fun c2 h=>bH h fun z2 e2 h=>Z2<|Z7 rfl<|Z6 _ (iz e2 (Zk5 (len:=5) rfl rfl (Z0j c2)))<|Z7 rfl<|Z7 rfl<|Z1<|Z0<|bH h fun z3 e3 h=>Z2<|Z7 rfl<|Z7 rfl<|Z6 _ (iz e3 (Z9 rfl rfl rfl))<|Z6 _ (Z9 rfl rfl rfl)<|Z1<|Z02 h rfl (fun h=>?_) (fun h=>?_)
        ·refine bH h fun z4 e4 h=>cH h fun c3 h=>oH h fun y3 f3 h=>Z2<|Z7 rfl<|Z7 rfl<|Z6 _ (iz e4 (Z9 rfl rfl rfl))<|Z6 _ (Z1s rfl rfl (Z0j c3))<|Z7 rfl<|Z7 rfl<|Zg (Z3l (mS:=[_]) rfl (Z34.perm .here) (fun w hw=>Z88  f3 (Zcq hw (mS:=[_]) (Z34.perm .here)) ) fun v1649 o1 R1=>?_)
         obtain ⟨rfl,rfl⟩:=R1
         exact Z1<|⟨y3,h,⟨⟨rfl,rfl,rfl,rfl,rfl,rfl,rfl,rfl,rfl,trivial⟩,(.o (.o (.o (.o .nil))))⟩⟩
        ·refine bH h fun z5 e5 h=>bH h fun z6 e6 h=>cH h fun c4 h=>bH h fun z7 e7 h=>oH h fun y4 f4 h=>Z2<|Z7 rfl<|Z7 rfl<|Z6 _ (iz e5 (Z9 rfl rfl rfl))<|Z6 _ (iz e6 (Z9 rfl rfl rfl))<|Z6 _ (Z1s rfl rfl (Z0j c4))<|Z7 rfl<|Z7 rfl<|Z6 _ (iz e7 (Z9 rfl rfl rfl))<|Zg (Z3l (mS:=[_]) rfl (Z34.perm .here) (fun w hw=>Z88  f4 (Zcq hw (mS:=[_]) (Z34.perm .here)) ) fun v1657 o2 R2=>?_)
         obtain ⟨rfl,rfl⟩:=R2
         exact Z1<|⟨y4,h,⟨⟨rfl,rfl,rfl,rfl,rfl,rfl,rfl,rfl,rfl,trivial⟩,(.o (.o (.o (.o .nil))))⟩⟩
       ·rintro t m ⟨a5,h,hF⟩
        refine Zk hF ?_
        clear hF
        subst q5
        refine bH h fun z8 e8 h=>Z2<|Z6 _ (iz e8 (Z9 rfl rfl rfl))<|Z7 rfl<|Z1 ?_
        rw [q4] at h
        exact ⟨n2,Nat.lt_succ_self _,z8,a5,h,⟨⟨rfl,rfl,rfl,rfl,rfl,rfl,rfl,rfl,rfl,trivial⟩,(.o (.o (.o (.o .nil))))⟩⟩
      ·exact Zx _ rfl<|⟨a4,h,⟨⟨rfl,rfl,rfl,rfl,rfl,trivial⟩,(.o (.o (.o (.o .nil))))⟩⟩
    ·rintro t m ⟨a3,h,hF⟩
     refine Zk hF ?_
     clear hF
     subst q3
     refine bH h fun z9 e9 h=>Z2<|Z6 _ (iz e9 (Z9 rfl rfl rfl))<|Z7 rfl<|Z1 ?_
     rw [q2] at h
     exact ⟨n1,Nat.lt_succ_self _,z9,a3,h,⟨⟨rfl,rfl,rfl,rfl,rfl,trivial⟩,(.o (.o (.o (.o .nil))))⟩⟩
   ·exact Zx _ rfl<|⟨a2,h,⟨⟨rfl,rfl,trivial⟩,(.o (.o (.o (.o .nil))))⟩⟩
 ·rintro t m ⟨a1,h,hF⟩
  refine Zk hF ?_
  clear hF
  subst q1
  refine Z0<|Z2<|Zg (Zv fun b5 u5=>Z1<|Z0<|Z2<|Z7 rfl<|Z1<|Z0<|Z0<|Z2<|Z6 _ (Zy (p:=[uA' a1]) rfl .t1 rfl)<|Z7 rfl<|Z1<|jH h fun k6 q6 h=>Zm (G:=fun t m=>∃ (i3:Int) (a6:LI),k6 i3 a6=some r/\Fit [(4,pt' b3),(10,pt' b5),(11,.int .u64 (i3))] (ck b5 80 [u5' a6]::(ck b4 188 [uA' a1]::(ck b3 80 [u5' (replicate 5 0)]::(ck b2 80 [u5' y2]::(ck b1 80 [u5' y1] :: []))))) t m) ?_ ?_)
  ·refine Za<|Zp (fun n3 t m=>∃ (i4:Int) (i5:Int) (a7:LI),Z4h a1 k6 n3 i4 i5 a7=some r/\Fit [(4,pt' b3),(10,pt' b5),(11,.int .u64 (i4)),(55,agg [uA' a1]),(56,.int .i64 (i5))] (ck b5 80 [u5' a7]::(ck b4 188 [uA' a1]::(ck b3 80 [u5' (replicate 5 0)]::(ck b2 80 [u5' y2]::(ck b1 80 [u5' y1] :: []))))) t m) big ?_ ?_
   ·exact ⟨0,0,(replicate 5 0),h,⟨⟨rfl,rfl,rfl,rfl,rfl,trivial⟩,(.o (.o (.o (.o (.o .nil)))))⟩⟩
   ·rintro n3 t m ⟨i4,i5,a7,h,hF⟩
    refine Zk hF ?_
    clear hF
    rcases n3 with _ | n3
    · exact Z0a h
    have h:Z8n a1 k6 (Z4h a1 k6 n3) i4 i5 a7=some r:=h
    unfold Z8n at h
    obtain ⟨k7,q7⟩ : ∃ k,k=Z4h a1 k6 n3:=⟨_,rfl⟩
    try rw [<- q7] at h
    refine Z0<|Z2<|Z6 _ (Z9 rfl rfl rfl)<|Z1<|Z0<|Z02 h rfl (fun h=>?_) (fun h=>?_)
    ·refine Ze<|Z0<|Za<|Z0<|cH h fun c5 h=>bH h fun l1 g1 h=>Z2<|Z7 rfl<|Z6 _ (az (fun z=>agg [.ints .u64 2 z]) g1 (Z0f1 (len:=5) (w:=2) rfl rfl (Z0j c5)))<|Zg (Zv fun b6 u6=>Z7 rfl<|Zg (Zs (q:=[.ints .u64 2 (l1)]) rfl rfl rfl rfl rfl .here<|Z1<|Z0<|bH h fun z10 e10 h=>cH h fun c6 h=>bH h fun z11 e11 h=>bH h fun z12 e12 h=>Z2<|Z6 _ (Z4f rfl)<|Z6 _ (iz e10 (Z1y rfl .here rfl))<|Z7 rfl<|Z6 _ (Zft rfl Zhb (xadd e11 e12 c6))<|Z7 rfl<|Z6 _ (Z2i rfl rfl)<|Z6 _ (Z2i rfl rfl)<|Z7 rfl<|Z7 rfl<|Z1<|Z0<|bH h fun z13 e13 h=>cH h fun c7 h=>bH h fun l2 g2 h=>Z2<|Z7 rfl<|Z7 rfl<|Z6 _ (iz e13 (Z9 rfl rfl rfl))<|Z6 _ (Z1s rfl rfl (Z0j c7))<|Zg (Z2l (q:=[u5' l2]) (base:=0) g2 rfl rfl rfl (Z03 c7) rfl .t1<|Z1<|bH h fun z14 e14 h=>bH h fun z15 e15 h=>bH h fun z16 e16 h=>bH h fun z17 e17 h=>bH h fun z18 e18 h=>Z2<|Z6 _ (Z4f rfl)<|Z6 _ (iz e14 (Z1y rfl .here rfl))<|Z7 rfl<|Z6 _ (iz e15 (Z9 rfl rfl rfl))<|Z6 _ (iz e16 (Zkk rfl rfl (by decide)))<|Z7 rfl<|Z6 _ (iz e17 (Z5g rfl rfl (by decide)))<|Z6 _ (iz e18 (Z9 rfl rfl rfl))<|Z7 rfl<|Z1<|bH h fun z19 e19 h=>Z2<|Z6 _ (iz e19 (Z9 rfl rfl rfl))<|Z7 rfl<|Z1 ?_)))
     rw [q7] at h
     exact ⟨n3,Nat.lt_succ_self _,z18,z19,l2,h,⟨⟨rfl,rfl,rfl,rfl,rfl,trivial⟩,(.one .t1 (.one .t1 (.one .t1 (.one .t1 (.one .t1 .nil)))))⟩⟩
    ·exact Zx _ rfl<|⟨i4,a7,h,⟨⟨rfl,rfl,rfl,trivial⟩,(.o (.o (.o (.o (.o .nil)))))⟩⟩
  ·rintro t m ⟨i3,a6,h,hF⟩
   refine Zk hF ?_
   clear hF
   subst q6
   refine Z0<|Z2<|Zg (Zv fun b7 u7=>Z1<|Z0<|oH h fun y5 f5 h=>Z2<|Z7 rfl<|Zg (Z3l (mS:=[_]) rfl (Z34.perm .here) (fun w hw=>Z88  f5 (Zcq hw (mS:=[_]) (Z34.perm .here)) ) fun v1820 o3 R3=>?_))
   obtain ⟨rfl,rfl⟩:=R3
   refine Z1<|Z0<|bH h fun z20 e20 h=>bH h fun z21 e21 h=>cH h fun c8 h=>bH h fun z22 e22 h=>bH h fun z23 e23 h=>Z2<|Z6 _ (Z4f rfl)<|Z6 _ (iz e20 (Z1y rfl .here rfl))<|Z6 _ (Z1s rfl rfl (by decide))<|Z6 _ (iz e21 (Z1y rfl .t1 rfl))<|Z6 _ (Zft rfl Zhb (xadd e22 e23 c8))<|Z7 rfl<|Z6 _ (Z2i rfl rfl)<|Z6 _ (Z2i rfl rfl)<|Z7 rfl<|Z7 rfl<|Z1<|Z0<|bH h fun z24 e24 h=>bH h fun l3 g3 h=>Z2<|Z7 rfl<|Z6 _ (iz e24 (Z9 rfl rfl rfl))<|Z6 _ (Z1s rfl rfl (by decide))<|Zg (Z85 (q:=[u5' l3]) (congrArg (fun z=>([u5' z]:List Seg)) g3.symm) rfl rfl rfl rfl .t1<|Z1<|Z0<|bH h fun z25 e25 h=>bH h fun z26 e26 h=>bH h fun z27 e27 h=>bH h fun z28 e28 h=>bH h fun z29 e29 h=>bH h fun z30 e30 h=>bH h fun z31 e31 h=>bH h fun l4 g4 h=>Z2<|Z6 _ (Z1s rfl rfl (by decide))<|Z6 _ (iz e25 (Z1y rfl .t1 rfl))<|Z6 _ (Z4f rfl)<|Z6 _ (iz e26 (Z1y rfl .here rfl))<|Z7 rfl<|Z6 _ (iz e27 (Z9 rfl rfl rfl))<|Z6 _ (iz e28 (Zkk rfl rfl (by decide)))<|Z7 rfl<|Z6 _ (iz e29 (Z5g rfl rfl (by decide)))<|Z6 _ (iz e30 (Z9 rfl rfl rfl))<|Z6 _ (iz e31 (Z9 rfl rfl rfl))<|Z6 _ (Z1s rfl rfl (by decide))<|Zg (Z85 (q:=[u5' l4]) (congrArg (fun z=>([u5' z]:List Seg)) g4.symm) rfl rfl rfl rfl .t1<|Z1<|Z0<|oH h fun y6 f6 h=>Z2<|Z6 _ (Zy (p:=[u5' l4]) rfl .t1 rfl)<|Z6 _ (Z0b rfl (Z19 f6))<|Zg (Zs (q:=[u5' y6]) rfl rfl rfl rfl rfl .t3<|Z1<|Zi ?_)))
   revert h; refine Zt fun h=>?_
   subst h
   exact ⟨_,(.cons (.agg rfl .t3 rfl) .nil),rfl⟩
def Z1u (p0:LI):OL :=
 opt (Z0y p0 p0) fun y1 =>
 some y1
theorem Z2k {W:World} {r:(LI)} {p0:LI} (h:Z1u p0=some r)  :
    Calls Tryz.prog 123 [agg [u5' p0]].toArray W (Z36 W (agg [u5' r])):=by
 unfold Z1u at h
 refine Zc mo Z0mx rfl ?_
 refine Z0<|Z2<|Zg (Z0k (s:=[u5' p0]) rfl fun b1 u1=>Zg (Zv fun b2 u2=>Z1<|Z0<|oH h fun y1 f1 h=>Z2<|Z6 _ (Zy (p:=[u5' p0]) rfl .t1 rfl)<|Z6 _ (Zy (p:=[u5' p0]) rfl .t1 rfl)<|Z6 _ (Z0b rfl (Z09 f1))<|Zg (Zs (q:=[u5' y1]) rfl rfl rfl rfl rfl .here<|Z1<|Zi ?_)))
 revert h; refine Zt fun h=>?_
 subst h
 exact ⟨_,(.cons (.agg rfl .here rfl) .nil),rfl⟩
def Z9v (p0:Int):OL :=
 bnd (([p0,0,0,0,0]:LI)) fun z1 =>
 opt (Z1v z1) fun y1 =>
 some y1
theorem Zek {W:World} {r:(LI)} {p0:Int} (h:Z9v p0=some r)  :
    Calls Tryz.prog 188 [.int .u64 (p0)].toArray W (Z36 W (agg [u5' r])):=by
 unfold Z9v at h
 refine Zc mo Z0ok rfl ?_
 refine Z0<|Z2<|Zg (Zv fun b1 u1=>Z1<|Z0<|bH h fun z1 e1 h=>oH h fun y1 f1 h=>Z2<|Z7 rfl<|Z6 _ (az (fun z=>agg [.ints .u64 5 z]) e1 (Zct (.one rfl rfl rfl BdR.nil)))<|Z6 _ (Z0b rfl (Z19 f1))<|Zg (Zs (q:=[u5' y1]) rfl rfl rfl rfl rfl .here<|Z1<|Zi ?_))
 revert h; refine Zt fun h=>?_
 subst h
 exact ⟨_,(.cons (.agg rfl .here rfl) .nil),rfl⟩
def Z8p (p0:LI) (p1:LI) (k1:(LI)->OL) (k2:Int->(LI)->OL) (i1:Int) (a1:LI):OL :=
 br ((decide (i1≥0))) (
 jn (fun (a2:LI)=>bnd (wrap .i64 (i1-1)) fun z1 =>
 k2 z1 a2) fun k3=>opt (Z1u a1) fun y1 =>
 bnd (wrap .i64 (Int.tdiv i1 8)) fun z2 =>
 chk (inB z2 32) <|
 bnd (p1.getD (z2).toNat 0) fun z3 =>
 bnd (Int.tmod i1 8) fun z4 =>
 chk (decide (0<=z4)) <|
 bnd (Zq .u8 z3 z4) fun z5 =>
 bnd (Z4 .and .u8 z5 1) fun z6 =>
 br ((z6==1)) (
 opt (Z0y y1 p0) fun y2 =>
 k3 y2
 ) (
 k3 y1
 )
 ) (
 k1 a1
 )
def Z55 (p0:LI) (p1:LI) (k1:(LI)->OL):Nat->Int->(LI)->OL
  | 0,_,_=>none
  | n+1,i1,a1=>Z8p p0 p1 k1 (Z55 p0 p1 k1 n) i1 a1
def Zaj (p0:LI) (p1:LI):OL :=
 opt (Z9v 1) fun y1 =>
 jn (fun (a1:LI)=>some a1) fun k1=>Z55 p0 p1 k1 big 255 y1
theorem Zcj {W:World} {r:(LI)} {p0:LI} {p1:LI} (h:Zaj p0 p1=some r)  :
    Calls Tryz.prog 153 [agg [u5' p0],agg [b3' p1]].toArray W (Z36 W (agg [u5' r])):=by
 unfold Zaj at h
 refine Zc mo Z0nr rfl ?_
 refine Z0<|Z2<|Zg (Z0k (s:=[u5' p0]) rfl fun b1 u1=>Zg (Z0k (s:=[b3' p1]) rfl fun b2 u2=>Zg (Zv fun b3 u3=>Z1<|Z0<|oH h fun y1 f1 h=>Z2<|Z6 _ (Z0b rfl (Zek f1))<|Zg (Zv fun b4 u4=>Zg (Zs (q:=[u5' y1]) rfl rfl rfl rfl rfl .here<|Z1<|Z0<|Z0<|Z2<|Z7 rfl<|Z1<|jH h fun k1 q1 h=>Zm (G:=fun t m=>∃ (a1:LI),k1 a1=some r/\Fit [(4,pt' b3),(5,pt' b4)] (ck b4 80 [u5' a1]::(ck b3 80 [u5' (replicate 5 0)]::(ck b2 22 [b3' p1]::(ck b1 80 [u5' p0] :: [])))) t m) ?_ ?_)))))
 ·refine Za<|Zp (fun n1 t m=>∃ (i1:Int) (a2:LI),Z55 p0 p1 k1 n1 i1 a2=some r/\Fit [(2,pt' b1),(3,pt' b2),(4,pt' b3),(5,pt' b4),(6,.int .i64 (i1))] (ck b4 80 [u5' a2]::(ck b3 80 [u5' (replicate 5 0)]::(ck b2 22 [b3' p1]::(ck b1 80 [u5' p0] :: [])))) t m) big ?_ ?_
  ·exact ⟨255,y1,h,⟨⟨rfl,rfl,rfl,rfl,rfl,trivial⟩,(.o (.o (.o (.o .nil))))⟩⟩
  ·rintro n1 t m ⟨i1,a2,h,hF⟩
   refine Zk hF ?_
   clear hF
   rcases n1 with _ | n1
   · exact Z0a h
   have h:Z8p p0 p1 k1 (Z55 p0 p1 k1 n1) i1 a2=some r:=h
   unfold Z8p at h
   obtain ⟨k2,q2⟩ : ∃ k,k=Z55 p0 p1 k1 n1:=⟨_,rfl⟩
   try rw [<- q2] at h
   refine Z0<|Z0<|Z2<|Z7 rfl<|Z6 _ (Z9 rfl rfl rfl)<|Z1<|Z02 h rfl (fun h=>?_) (fun h=>?_)
   ·refine Ze<|Z0<|jH h fun k3 q3 h=>Zm (G:=fun t m=>∃ (a3:LI),k3 a3=some r/\Fit [(2,pt' b1),(3,pt' b2),(4,pt' b3),(5,pt' b4),(6,.int .i64 (i1))] (ck b4 80 [u5' a3]::(ck b3 80 [u5' (replicate 5 0)]::(ck b2 22 [b3' p1]::(ck b1 80 [u5' p0] :: [])))) t m) ?_ ?_
    ·refine Za<|Z0<|oH h fun y2 f2 h=>Z2<|Z6 _ (Zy (p:=[u5' a2]) rfl .here rfl)<|Z6 _ (Z0b rfl (Z2k f2))<|Zg (Zs (q:=[u5' y2]) rfl rfl rfl rfl rfl .here<|Z1<|Z0<|bH h fun z1 e1 h=>cH h fun c1 h=>bH h fun z2 e2 h=>bH h fun z3 e3 h=>cH h fun c2 h=>bH h fun z4 e4 h=>bH h fun z5 e5 h=>Z2<|Z7 rfl<|Z6 _ (iz e1 (Zb8 rfl rfl (by decide)))<|Z6 _ (Z1s rfl rfl (Z0j c1))<|Z6 _ (iz e2 (Z3e (base:=0) rfl .t2 rfl (Z03 c1)))<|Z7 rfl<|Z6 _ (iz e3 (Zdl rfl rfl (by decide)))<|Z6 _ (iz e4 (Z5g rfl rfl (of_decide_eq_true c2)))<|Z6 _ (iz e5 (Z9 rfl rfl rfl))<|Z6 _ (Z9 rfl rfl rfl)<|Z1<|Z02 h rfl (fun h=>?_) (fun h=>?_))
     ·exact oH h fun y3 f3 h=>Z2<|Z6 _ (Zy (p:=[u5' y2]) rfl .here rfl)<|Z6 _ (Zy (p:=[u5' p0]) rfl .t3 rfl)<|Z6 _ (Z0b rfl (Z09 f3))<|Zg (Zs (q:=[u5' y3]) rfl rfl rfl rfl rfl .here<|Z1<|⟨y3,h,⟨⟨rfl,rfl,rfl,rfl,rfl,trivial⟩,(.o (.o (.o (.o .nil))))⟩⟩)
     ·exact Ze<|⟨y2,h,⟨⟨rfl,rfl,rfl,rfl,rfl,trivial⟩,(.o (.o (.o (.o .nil))))⟩⟩
    ·rintro t m ⟨a3,h,hF⟩
     refine Zk hF ?_
     clear hF
     subst q3
     refine bH h fun z6 e6 h=>Z2<|Z7 rfl<|Z6 _ (iz e6 (Z9 rfl rfl rfl))<|Z7 rfl<|Z1 ?_
     rw [q2] at h
     exact ⟨n1,Nat.lt_succ_self _,z6,a3,h,⟨⟨rfl,rfl,rfl,rfl,rfl,trivial⟩,(.o (.o (.o (.o .nil))))⟩⟩
   ·exact Zx _ rfl<|⟨a2,h,⟨⟨rfl,rfl,trivial⟩,(.o (.o (.o (.o .nil))))⟩⟩
 ·rintro t m ⟨a1,h,hF⟩
  refine Zk hF ?_
  clear hF
  subst q1
  refine Z0<|Z2<|Z6 _ (Zy (p:=[u5' a1]) rfl .here rfl)<|Zg (Zs (q:=[u5' a1]) rfl rfl rfl rfl rfl .t1<|Z1<|Zi ?_)
  revert h; refine Zt fun h=>?_
  subst h
  exact ⟨_,(.cons (.agg rfl .t1 rfl) .nil),rfl⟩
def Zck (k1:(LI)->OL) (k2:Int->(LI)->OL) (i1:Int) (a1:LI):OL :=
 br ((decide (i1<32))) (
 chk (inB i1 32) <|
 bnd (Z2u a1 (i1).toNat 255) fun l1 =>
 bnd (wrap .i64 (i1+1)) fun z1 =>
 k2 z1 l1
 ) (
 k1 a1
 )
def Z7r (k1:(LI)->OL):Nat->Int->(LI)->OL
  | 0,_,_=>none
  | n+1,i1,a1=>Zck k1 (Z7r k1 n) i1 a1
def Z6x (p0:Int) (p1:Int):OL :=
 jn (fun (a1:LI)=>bnd (Z2u a1 0 p0) fun l1 =>
 bnd (Z2u l1 31 p1) fun l2 =>
 some l2) fun k1=>Z7r k1 big 0 (replicate 32 0)
theorem Zaz {W:World} {r:(LI)} {p0:Int} {p1:Int} (h:Z6x p0 p1=some r)  :
    Calls Tryz.prog 154 [.int .u8 (p0),.int .u8 (p1)].toArray W (Z36 W (agg [b3' r])):=by
 unfold Z6x at h
 refine Zc mo Z0ns rfl ?_
 refine Z0<|Z2<|Zg (Zv fun b1 u1=>Z1<|Z0<|Z2<|Zg (Zv fun b2 u2=>Z1<|Z0<|Z0<|Z2<|Z7 rfl<|Z1<|jH h fun k1 q1 h=>Zm (G:=fun t m=>∃ (a1:LI),k1 a1=some r/\Fit [(0,.int .u8 (p0)),(1,.int .u8 (p1)),(4,pt' b1),(5,pt' b2)] (ck b2 22 [b3' a1]::(ck b1 22 [b3' (replicate 32 0)] :: [])) t m) ?_ ?_))
 ·refine Za<|Zp (fun n1 t m=>∃ (i1:Int) (a2:LI),Z7r k1 n1 i1 a2=some r/\Fit [(0,.int .u8 (p0)),(1,.int .u8 (p1)),(4,pt' b1),(5,pt' b2),(7,.int .i64 (i1))] (ck b2 22 [b3' a2]::(ck b1 22 [b3' (replicate 32 0)] :: [])) t m) big ?_ ?_
  ·exact ⟨0,(replicate 32 0),h,⟨⟨rfl,rfl,rfl,rfl,rfl,trivial⟩,(.o (.o .nil))⟩⟩
  ·rintro n1 t m ⟨i1,a2,h,hF⟩
   refine Zk hF ?_
   clear hF
   rcases n1 with _ | n1
   · exact Z0a h
   have h:Zck k1 (Z7r k1 n1) i1 a2=some r:=h
   unfold Zck at h
   obtain ⟨k2,q2⟩ : ∃ k,k=Z7r k1 n1:=⟨_,rfl⟩
   try rw [<- q2] at h
   refine Z0<|Z2<|Z6 _ (Z9 rfl rfl rfl)<|Z1<|Z0<|Z02 h rfl (fun h=>?_) (fun h=>?_)
   ·refine Ze<|Z0<|Za<|Z0<|Z2<|Z7 rfl<|Z7 rfl<|Z1<|cH h fun c1 h=>bH h fun l1 g1 h=>Z2<|Z7 rfl<|Z6 _ (Z1s rfl rfl (Z0j c1))<|Zg (Z2l (q:=[b3' l1]) (base:=0) g1 rfl rfl rfl (Z03 c1) rfl .here<|Z1<|bH h fun z1 e1 h=>Z2<|Z6 _ (iz e1 (Z9 rfl rfl rfl))<|Z7 rfl<|Z1 ?_)
    rw [q2] at h
    exact ⟨n1,Nat.lt_succ_self _,z1,l1,h,⟨⟨rfl,rfl,rfl,rfl,rfl,trivial⟩,(.o (.o .nil))⟩⟩
   ·exact Zx _ rfl<|⟨a2,h,⟨⟨rfl,rfl,rfl,rfl,trivial⟩,(.o (.o .nil))⟩⟩
 ·rintro t m ⟨a1,h,hF⟩
  refine Zk hF ?_
  clear hF
  subst q1
  refine Z0<|bH h fun l2 g2 h=>bH h fun l3 g3 h=>Z2<|Z7 rfl<|Z7 rfl<|Z6 _ (Z1s rfl rfl (by decide))<|Zg (Z85 (q:=[b3' l2]) (congrArg (fun z=>([b3' z]:List Seg)) g2.symm) rfl rfl rfl rfl .here<|Z6 _ (Z1s rfl rfl (by decide))<|Zg (Z85 (q:=[b3' l3]) (congrArg (fun z=>([b3' z]:List Seg)) g3.symm) rfl rfl rfl rfl .here<|Z1<|Z0<|Z2<|Z6 _ (Zy (p:=[b3' l3]) rfl .here rfl)<|Zg (Zs (q:=[b3' l3]) rfl rfl rfl rfl rfl .t1<|Z1<|Zi ?_)))
  revert h; refine Zt fun h=>?_
  subst h
  exact ⟨_,(.cons (.agg rfl .t1 rfl) .nil),rfl⟩
def Z8m (p0:LI):OL :=
 opt (Z6x 235 127) fun y1 =>
 opt (Zaj p0 y1) fun y2 =>
 some y2
theorem Zj2 {W:World} {r:(LI)} {p0:LI} (h:Z8m p0=some r)  :
    Calls Tryz.prog 90 [agg [u5' p0]].toArray W (Z36 W (agg [u5' r])):=by
 unfold Z8m at h
 refine Zc mo ok90 rfl ?_
 refine Z0<|Z2<|Zg (Z0k (s:=[u5' p0]) rfl fun b1 u1=>Zg (Zv fun b2 u2=>Z1<|Z0<|oH h fun y1 f1 h=>oH h fun y2 f2 h=>Zr<|Z8 _ (Z0b rfl (Zaz f1))<|Zn _ (Zy (p:=[u5' p0]) rfl .t1 rfl)<|Z8 _ (Z0b rfl (Zcj f2))<|Z1z rfl (Zs (q:=[u5' y2]) rfl rfl rfl rfl rfl .here<|Z00<|Zi ?_)))
 revert h; refine Zt fun h=>?_
 subst h
 exact ⟨_,(.cons (.agg rfl .here rfl) .nil),rfl⟩
def Zci (y1:(LI)) (k1:(LI)->OL) (k2:Int->(LI)->OL) (i1:Int) (a1:LI):OL :=
 br ((decide (i1<32))) (
 bnd (wrap .i64 (8*i1)) fun z1 =>
 bnd (wrap .i64 (Int.tdiv z1 51)) fun z2 =>
 bnd (wrap .i64 (8*i1)) fun z3 =>
 bnd (Int.tmod z3 51) fun z4 =>
 chk (inB z2 5) <|
 bnd (y1.getD (z2).toNat 0) fun z5 =>
 chk (decide (0<=z4)) <|
 bnd (Zq .u64 z5 z4) fun z6 =>
 jn (fun (i2:Int)=>bnd (wrap .u8 i2) fun z7 =>
 chk (inB i1 32) <|
 bnd (Z2u a1 (i1).toNat z7) fun l1 =>
 bnd (wrap .i64 (i1+1)) fun z8 =>
 k2 z8 l1) fun k3=>br (((decide (z4>43))&&(decide (z2<4)))) (
 bnd (wrap .i64 (z2+1)) fun z9 =>
 chk (inB z9 5) <|
 bnd (y1.getD (z9).toNat 0) fun z10 =>
 bnd (wrap .i64 (51-z4)) fun z11 =>
 chk (decide (0<=z11)) <|
 bnd (Zl .u64 z10 z11) fun z12 =>
 bnd (Z4 .or .u64 z6 z12) fun z13 =>
 k3 z13
 ) (
 k3 z6
 )
 ) (
 k1 a1
 )
def Z6h (y1:(LI)) (k1:(LI)->OL):Nat->Int->(LI)->OL
  | 0,_,_=>none
  | n+1,i1,a1=>Zci y1 k1 (Z6h y1 k1 n) i1 a1
def Z9t (p0:LI):OL :=
 opt (Z1v p0) fun y1 =>
 jn (fun (a1:LI)=>some a1) fun k1=>Z6h y1 k1 big 0 (replicate 32 0)
theorem Zeh {W:World} {r:(LI)} {p0:LI} (h:Z9t p0=some r)  :
    Calls Tryz.prog 91 [agg [u5' p0]].toArray W (Z36 W (agg [b3' r])):=by
 unfold Z9t at h
 refine Zc mo ok91 rfl ?_
 refine Z0<|Z2<|Zg (Z0k (s:=[u5' p0]) rfl fun b1 u1=>Zg (Zv fun b2 u2=>Z1<|Z0<|oH h fun y1 f1 h=>Z2<|Z6 _ (Zy (p:=[u5' p0]) rfl .t1 rfl)<|Z6 _ (Z0b rfl (Z19 f1))<|Zg (Zs (q:=[u5' y1]) rfl rfl rfl rfl rfl .t1<|Z1<|Z0<|Z2<|Zg (Zv fun b3 u3=>Z1<|Z0<|Z0<|Z2<|Z7 rfl<|Z1<|jH h fun k1 q1 h=>Zm (G:=fun t m=>∃ (a1:LI),k1 a1=some r/\Fit [(2,pt' b2),(3,pt' b3)] (ck b3 22 [b3' a1]::(ck b2 22 [b3' (replicate 32 0)]::(ck b1 80 [u5' y1] :: []))) t m) ?_ ?_))))
 ·refine Za<|Zp (fun n1 t m=>∃ (i1:Int) (a2:LI),Z6h y1 k1 n1 i1 a2=some r/\Fit [(1,pt' b1),(2,pt' b2),(3,pt' b3),(10,.int .i64 (i1))] (ck b3 22 [b3' a2]::(ck b2 22 [b3' (replicate 32 0)]::(ck b1 80 [u5' y1] :: []))) t m) big ?_ ?_
  ·exact ⟨0,(replicate 32 0),h,⟨⟨rfl,rfl,rfl,rfl,trivial⟩,(.o (.o (.o .nil)))⟩⟩
  ·rintro n1 t m ⟨i1,a2,h,hF⟩
   refine Zk hF ?_
   clear hF
   rcases n1 with _ | n1
   · exact Z0a h
   have h:Zci y1 k1 (Z6h y1 k1 n1) i1 a2=some r:=h
   unfold Zci at h
   obtain ⟨k2,q2⟩ : ∃ k,k=Z6h y1 k1 n1:=⟨_,rfl⟩
   try rw [<- q2] at h
   refine Z0<|Z2<|Z6 _ (Z9 rfl rfl rfl)<|Z1<|Z0<|Z02 h rfl (fun h=>?_) (fun h=>?_)
   ·refine Ze<|Z0<|Za<|Z0<|Z2<|Z7 rfl<|Z7 rfl<|Z1<|Z0<|bH h fun z1 e1 h=>bH h fun z2 e2 h=>bH h fun z3 e3 h=>bH h fun z4 e4 h=>Z2<|Z7 rfl<|Z6 _ (iz e1 (Z9 rfl rfl rfl))<|Z6 _ (iz e2 (Zb8 rfl rfl (by decide)))<|Z7 rfl<|Z6 _ (iz e3 (Z9 rfl rfl rfl))<|Z6 _ (iz e4 (Zdl rfl rfl (by decide)))<|Z7 rfl<|Z7 rfl<|Z1<|Z0<|cH h fun c1 h=>bH h fun z5 e5 h=>cH h fun c2 h=>bH h fun z6 e6 h=>Z2<|Z7 rfl<|Z6 _ (Z1s rfl rfl (Z0j c1))<|Z6 _ (iz e5 (Z3e (base:=0) rfl .t2 rfl (Z03 c1)))<|Z7 rfl<|Z6 _ (iz e6 (Z5g rfl rfl (of_decide_eq_true c2)))<|Z7 rfl<|Z1<|Z0<|Z0<|Z2<|Z7 rfl<|Z6 _ (Z9 rfl rfl rfl)<|Z7 rfl<|Zmn rfl rfl rfl (fun hg1=>Z5h rfl _ (Z0u rfl) (Z5h rfl _ (Z9 rfl rfl rfl) (Z5f))) (fun hg1=>rfl) rfl<|Z1<|jH h fun k3 q3 h=>Zm (G:=fun t m=>∃ (i2:Int),k3 i2=some r/\Fit [(1,pt' b1),(2,pt' b2),(3,pt' b3),(4,.int .i64 (i1)),(7,.int .u64 (i2)),(10,.int .i64 (i1))] (ck b3 22 [b3' a2]::(ck b2 22 [b3' (replicate 32 0)]::(ck b1 80 [u5' y1] :: []))) t m) ?_ ?_
    ·refine Z02 h rfl (fun h=>?_) (fun h=>?_)
     ·exact bH h fun z7 e7 h=>cH h fun c3 h=>bH h fun z8 e8 h=>bH h fun z9 e9 h=>cH h fun c4 h=>bH h fun z10 e10 h=>bH h fun z11 e11 h=>Z2<|Z7 rfl<|Z7 rfl<|Z6 _ (iz e7 (Z9 rfl rfl rfl))<|Z6 _ (Z1s rfl rfl (Z0j c3))<|Z6 _ (iz e8 (Z3e (base:=0) rfl .t2 rfl (Z03 c3)))<|Z7 rfl<|Z6 _ (iz e9 (Z9 rfl rfl rfl))<|Z6 _ (iz e10 (Zkk rfl rfl (of_decide_eq_true c4)))<|Z6 _ (iz e11 (Z9 rfl rfl rfl))<|Z7 rfl<|Z1<|⟨z11,h,⟨⟨rfl,rfl,rfl,rfl,rfl,rfl,trivial⟩,(.o (.o (.o .nil)))⟩⟩
     ·exact Ze<|⟨z6,h,⟨⟨rfl,rfl,rfl,rfl,rfl,rfl,trivial⟩,(.o (.o (.o .nil)))⟩⟩
    ·rintro t m ⟨i2,h,hF⟩
     refine Zk hF ?_
     clear hF
     subst q3
     refine bH h fun z12 e12 h=>cH h fun c5 h=>bH h fun l1 g1 h=>Z2<|Z7 rfl<|Z7 rfl<|Z6 _ (iz e12 (Z4k rfl))<|Z6 _ (Z1s rfl rfl (Z0j c5))<|Zg (Z2l (q:=[b3' l1]) (base:=0) g1 rfl rfl rfl (Z03 c5) rfl .here<|Z1<|bH h fun z13 e13 h=>Z2<|Z6 _ (iz e13 (Z9 rfl rfl rfl))<|Z7 rfl<|Z1 ?_)
     rw [q2] at h
     exact ⟨n1,Nat.lt_succ_self _,z13,l1,h,⟨⟨rfl,rfl,rfl,rfl,trivial⟩,(.o (.o (.o .nil)))⟩⟩
   ·exact Zx _ rfl<|⟨a2,h,⟨⟨rfl,rfl,trivial⟩,(.o (.o (.o .nil)))⟩⟩
 ·rintro t m ⟨a1,h,hF⟩
  refine Zk hF ?_
  clear hF
  subst q1
  refine Z0<|Z2<|Z6 _ (Zy (p:=[b3' a1]) rfl .here rfl)<|Zg (Zs (q:=[b3' a1]) rfl rfl rfl rfl rfl .t1<|Z1<|Zi ?_)
  revert h; refine Zt fun h=>?_
  subst h
  exact ⟨_,(.cons (.agg rfl .t1 rfl) .nil),rfl⟩
def Z87 (p0:LI):Option Bool :=
 opt (Z1v p0) fun y1 =>
 bnd (y1.getD 0 0) fun z1 =>
 bnd (Z4 .and .u64 z1 1) fun z2 =>
 some (z2==1)
theorem Zej {W:World} {r:Bool} {p0:LI} (h:Z87 p0=some r)  :
    Calls Tryz.prog 93 [agg [u5' p0]].toArray W (Z36 W (.bool (r))):=by
 unfold Z87 at h
 refine Zc mo ok93 rfl ?_
 refine Z0<|Z2<|Zg (Z0k (s:=[u5' p0]) rfl fun b1 u1=>Z7 rfl<|Z1<|Z0<|oH h fun y1 f1 h=>bH h fun z1 e1 h=>bH h fun z2 e2 h=>Z2<|Z6 _ (Zy (p:=[u5' p0]) rfl .here rfl)<|Z6 _ (Z0b rfl (Z19 f1))<|Z6 _ (iz e1 (Zk5 (len:=5) (z:=0) rfl rfl (by decide)))<|Z6 _ (iz e2 (Z9 rfl rfl rfl))<|Z6 _ (Z9 rfl rfl rfl)<|Z7 rfl<|Z1<|Zi ?_)
 revert h; refine Zt fun h=>?_
 subst h
 exact ⟨_,(.cons (.tmp rfl) .nil),rfl⟩
structure Zh where
  gX:LI
  gY:LI
  gZ:LI
  gT:LI
def Z1l:Zh:=⟨(replicate 5 0),(replicate 5 0),(replicate 5 0),(replicate 5 0)⟩
def Z8d (p0:Zh):OL :=
 opt (Z8m p0.gZ) fun y1 =>
 opt (Z0y p0.gY y1) fun y2 =>
 opt (Z9t y2) fun y3 =>
 opt (Z0y p0.gX y1) fun y4 =>
 opt (Z87 y4) fun y5 =>
 jn (fun (a1:LI)=>some a1) fun k1=>br (y5) (
 bnd (y3.getD 31 0) fun z1 =>
 bnd (Z4 .or .u8 z1 128) fun z2 =>
 bnd (Z2u y3 31 z2) fun l1 =>
 k1 l1
 ) (
 k1 y3
 )
theorem Ziz {W:World} {r:(LI)} {p0:Zh} (h:Z8d p0=some r)  :
    Calls Tryz.prog 50 [agg [u5' p0.gX,u5' p0.gY,u5' p0.gZ,u5' p0.gT]].toArray W (Z36 W (agg [b3' r])):=by
 unfold Z8d at h
 refine Zc mo ok50 rfl ?_
 refine Z0<|Z2<|Zg (Z0k (s:=[u5' p0.gX,u5' p0.gY,u5' p0.gZ,u5' p0.gT]) rfl fun b1 u1=>Zg (Zv fun b2 u2=>Z1<|Z0<|oH h fun y1 f1 h=>Z2<|Z6 _ (Z4f rfl)<|Z6 _ (Zy (p:=[u5' p0.gZ]) rfl .t1 rfl)<|Z6 _ (Z0b rfl (Zj2 f1))<|Zg (Zv fun b3 u3=>Zg (Zs (q:=[u5' y1]) rfl rfl rfl rfl rfl .here<|Z1<|Z0<|oH h fun y2 f2 h=>oH h fun y3 f3 h=>Z2<|Z6 _ (Z4f rfl)<|Z6 _ (Zy (p:=[u5' p0.gY]) rfl .t2 rfl)<|Z6 _ (Zy (p:=[u5' y1]) rfl .here rfl)<|Z6 _ (Z0b rfl (Z09 f2))<|Z6 _ (Z0b rfl (Zeh f3))<|Zg (Zv fun b4 u4=>Zg (Zs (q:=[b3' y3]) rfl rfl rfl rfl rfl .here<|Z1<|Z0<|Z0<|oH h fun y4 f4 h=>oH h fun y5 f5 h=>Z2<|Z6 _ (Z4f rfl)<|Z6 _ (Zy (p:=[u5' p0.gX]) rfl .t3 rfl)<|Z6 _ (Zy (p:=[u5' y1]) rfl .t1 rfl)<|Z6 _ (Z0b rfl (Z09 f4))<|Z6 _ (Z0b rfl (Zej f5))<|Z1<|jH h fun k1 q1 h=>Zm (G:=fun t m=>∃ (a1:LI),k1 a1=some r/\Fit [(2,pt' b2),(4,pt' b4)] (ck b4 29 [b3' a1]::(ck b3 80 [u5' y1]::(ck b2 29 [b3' (replicate 32 0)]::(ck b1 82 [u5' p0.gX,u5' p0.gY,u5' p0.gZ,u5' p0.gT] :: [])))) t m) ?_ ?_))))))
 ·refine Z02 h rfl (fun h=>?_) (fun h=>?_)
  ·exact bH h fun z1 e1 h=>bH h fun z2 e2 h=>bH h fun l1 g1 h=>Z2<|Z6 _ (Z1s rfl rfl (by decide))<|Z6 _ (iz e1 (Z1y rfl .here rfl))<|Z6 _ (iz e2 (Z9 rfl rfl rfl))<|Z6 _ (Z1s rfl rfl (by decide))<|Zg (Z85 (q:=[b3' l1]) (congrArg (fun z=>([b3' z]:List Seg)) g1.symm) rfl rfl rfl rfl .here<|Z1<|⟨l1,h,⟨⟨rfl,rfl,trivial⟩,(.o (.o (.o (.o .nil))))⟩⟩)
  ·exact Ze<|⟨y3,h,⟨⟨rfl,rfl,trivial⟩,(.o (.o (.o (.o .nil))))⟩⟩
 ·rintro t m ⟨a1,h,hF⟩
  refine Zk hF ?_
  clear hF
  subst q1
  refine Z0<|Z2<|Z6 _ (Zy (p:=[b3' a1]) rfl .here rfl)<|Zg (Zs (q:=[b3' a1]) rfl rfl rfl rfl rfl .t2<|Z1<|Zi ?_)
  revert h; refine Zt fun h=>?_
  subst h
  exact ⟨_,(.cons (.agg rfl .t2 rfl) .nil),rfl⟩
def Z8g:OL :=
 bnd (([1,0,0,0,0]:LI)) fun z1 =>
 some z1
theorem Z95 {W:World} {r:(LI)} (h:Z8g=some r)  :
    Calls Tryz.prog 124 [].toArray W (Z36 W (agg [u5' r])):=by
 unfold Z8g at h
 refine Zc mo Z0my rfl ?_
 refine Z0<|Z2<|Zg (Zv fun b1 u1=>Z1<|Z0<|bH h fun z1 e1 h=>Z2<|Z6 _ (az (fun z=>agg [.ints .u64 5 z]) e1 (Zct (.one rfl rfl rfl BdR.nil)))<|Zg (Zs (q:=[u5' z1]) rfl rfl rfl rfl rfl .here<|Z1<|Zi ?_))
 revert h; refine Zt fun h=>?_
 subst h
 exact ⟨_,(.cons (.agg rfl .here rfl) .nil),rfl⟩
def Zbb:Option (Zh) :=
 opt (Z8g) fun y1 =>
 opt (Z8g) fun y2 =>
 some (⟨(replicate 5 0),y1,y2,(replicate 5 0)⟩:Zh)
theorem Zey {W:World} {r:Zh} (h:Zbb=some r)  :
    Calls Tryz.prog 134 [].toArray W (Z36 W (agg [u5' r.gX,u5' r.gY,u5' r.gZ,u5' r.gT])):=by
 unfold Zbb at h
 refine Zc mo Z0n8 rfl ?_
 refine Z0<|Z2<|Zg (Zv fun b1 u1=>Z1<|Z0<|oH h fun y1 f1 h=>oH h fun y2 f2 h=>Z2<|Z6 _ (Z0b rfl (Z95 f1))<|Z6 _ (Z0b rfl (Z95 f2))<|Z6 _ (Zct (q:=[u5' (replicate 5 0),u5' y1,u5' y2,u5' (replicate 5 0)]) (.agg rfl rfl rfl (.agg rfl rfl rfl BdR.nil)))<|Zg (Zs (q:=[u5' (replicate 5 0),u5' y1,u5' y2,u5' (replicate 5 0)]) rfl rfl rfl rfl rfl .here<|Z1<|Zi ?_))
 revert h; refine Zt fun h=>?_
 subst h
 exact ⟨_,(.cons (.agg rfl .here rfl) .nil),rfl⟩
def Zf1 (y1:(LI)) (k1:(LI)->OL) (k2:Int->(LI)->OL) (i1:Int) (a1:LI):OL :=
 br ((decide (i1<5))) (
 chk (inB i1 5) <|
 chk (inB i1 5) <|
 bnd (a1.getD (i1).toNat 0) fun z1 =>
 bnd (y1.getD (i1).toNat 0) fun z2 =>
 bnd (wrap .u64 (z1+z2)) fun z3 =>
 chk (inB i1 5) <|
 bnd (Z2u a1 (i1).toNat z3) fun l1 =>
 bnd (wrap .i64 (i1+1)) fun z4 =>
 k2 z4 l1
 ) (
 k1 a1
 )
def Z8l (y1:(LI)) (k1:(LI)->OL):Nat->Int->(LI)->OL
  | 0,_,_=>none
  | n+1,i1,a1=>Zf1 y1 k1 (Z8l y1 k1 n) i1 a1
def Z2s (p0:LI) (p1:LI):OL :=
 opt (Z5c p0) fun y1 =>
 opt (Z5c p1) fun y2 =>
 jn (fun (a1:LI)=>opt (Z1v a1) fun y3 =>
 some y3) fun k1=>Z8l y2 k1 big 0 y1
theorem Z2p {W:World} {r:(LI)} {p0:LI} {p1:LI} (h:Z2s p0 p1=some r)  :
    Calls Tryz.prog 127 [agg [u5' p0],agg [u5' p1]].toArray W (Z36 W (agg [u5' r])):=by
 unfold Z2s at h
 refine Zc mo Z0n1 rfl ?_
 refine Z0<|Z2<|Zg (Z0k (s:=[u5' p0]) rfl fun b1 u1=>Zg (Z0k (s:=[u5' p1]) rfl fun b2 u2=>Zg (Zv fun b3 u3=>Z1<|Z0<|oH h fun y1 f1 h=>oH h fun y2 f2 h=>Zr<|Zn _ (Zy (p:=[u5' p0]) rfl .t2 rfl)<|Z8 _ (Z0b rfl (Z4y f1))<|Zn _ (Zy (p:=[u5' p1]) rfl .t1 rfl)<|Z8 _ (Z0b rfl (Z4y f2))<|Z1z rfl (Zs (q:=[u5' y1]) rfl rfl rfl rfl rfl .t2<|Z03k rfl (Zs (q:=[u5' y2]) rfl rfl rfl rfl rfl .t1<|Z00<|Z0<|Z0<|Z2<|Z7 rfl<|Z1<|jH h fun k1 q1 h=>Zm (G:=fun t m=>∃ (a1:LI),k1 a1=some r/\Fit [(2,pt' b1),(4,pt' b3)] (ck b3 80 [u5' (replicate 5 0)]::(ck b2 80 [u5' y2]::(ck b1 80 [u5' a1] :: []))) t m) ?_ ?_)))))
 ·refine Za<|Zp (fun n1 t m=>∃ (i1:Int) (a2:LI),Z8l y2 k1 n1 i1 a2=some r/\Fit [(2,pt' b1),(3,pt' b2),(4,pt' b3),(10,.int .i64 (i1))] (ck b3 80 [u5' (replicate 5 0)]::(ck b2 80 [u5' y2]::(ck b1 80 [u5' a2] :: []))) t m) big ?_ ?_
  ·exact ⟨0,y1,h,⟨⟨rfl,rfl,rfl,rfl,trivial⟩,(.o (.o (.o .nil)))⟩⟩
  ·rintro n1 t m ⟨i1,a2,h,hF⟩
   refine Zk hF ?_
   clear hF
   rcases n1 with _ | n1
   · exact Z0a h
   have h:Zf1 y2 k1 (Z8l y2 k1 n1) i1 a2=some r:=h
   unfold Zf1 at h
   obtain ⟨k2,q2⟩ : ∃ k,k=Z8l y2 k1 n1:=⟨_,rfl⟩
   try rw [<- q2] at h
   refine Z0<|Z2<|Z6 _ (Z9 rfl rfl rfl)<|Z1<|Z0<|Z02 h rfl (fun h=>?_) (fun h=>?_)
   ·refine Ze<|Z0<|Za<|Z0<|Z2<|Z7 rfl<|Z7 rfl<|Z1<|cH h fun c1 h=>cH h fun c2 h=>bH h fun z1 e1 h=>bH h fun z2 e2 h=>bH h fun z3 e3 h=>cH h fun c3 h=>bH h fun l1 g1 h=>Zr<|Z8 _ (Z0u rfl)<|Z8 _ (Z1s rfl rfl (Z0j c1))<|Z8 _ (Z0u rfl)<|Z8 _ (Z1s rfl rfl (Z0j c2))<|Zn _ (iz e1 (Z3e (base:=0) rfl .t2 rfl (Z03 c1)))<|Zn _ (iz e2 (Z3e (base:=0) rfl .t1 rfl (Z03 c2)))<|Z8 _ (iz e3 (Z9 rfl rfl rfl))<|Z8 _ (Z1s rfl rfl (Z0j c3))<|Z1z rfl (Z2l (q:=[u5' l1]) (base:=0) g1 rfl rfl rfl (Z03 c3) rfl .t2<|Z00<|bH h fun z4 e4 h=>Z2<|Z6 _ (iz e4 (Z9 rfl rfl rfl))<|Z7 rfl<|Z1 ?_)
    rw [q2] at h
    exact ⟨n1,Nat.lt_succ_self _,z4,l1,h,⟨⟨rfl,rfl,rfl,rfl,trivial⟩,(.o (.o (.o .nil)))⟩⟩
   ·exact Zx _ rfl<|⟨a2,h,⟨⟨rfl,rfl,trivial⟩,(.o (.o (.o .nil)))⟩⟩
 ·rintro t m ⟨a1,h,hF⟩
  refine Zk hF ?_
  clear hF
  subst q1
  refine Z0<|oH h fun y3 f3 h=>Z2<|Z6 _ (Zy (p:=[u5' a1]) rfl .t2 rfl)<|Z6 _ (Z0b rfl (Z19 f3))<|Zg (Zs (q:=[u5' y3]) rfl rfl rfl rfl rfl .here<|Z1<|Zi ?_)
  revert h; refine Zt fun h=>?_
  subst h
  exact ⟨_,(.cons (.agg rfl .here rfl) .nil),rfl⟩
def Zf2 (y1:(LI)) (k1:(LI)->OL) (k2:Int->(LI)->OL) (i1:Int) (a1:LI):OL :=
 br ((decide (i1<5))) (
 chk (inB i1 5) <|
 bnd (y1.getD (i1).toNat 0) fun z1 =>
 bnd (wrap .u64 (4503599627370494-z1)) fun z2 =>
 chk (inB i1 5) <|
 bnd (Z2u a1 (i1).toNat z2) fun l1 =>
 bnd (wrap .i64 (i1+1)) fun z3 =>
 k2 z3 l1
 ) (
 k1 a1
 )
def Z8o (y1:(LI)) (k1:(LI)->OL):Nat->Int->(LI)->OL
  | 0,_,_=>none
  | n+1,i1,a1=>Zf2 y1 k1 (Z8o y1 k1 n) i1 a1
def Z5o (p0:LI):OL :=
 opt (Z1v p0) fun y1 =>
 bnd (y1.getD 0 0) fun z1 =>
 bnd (wrap .u64 (4503599627370458-z1)) fun z2 =>
 bnd (([z2,0,0,0,0]:LI)) fun z3 =>
 jn (fun (a1:LI)=>opt (Z1v a1) fun y2 =>
 some y2) fun k1=>Z8o y1 k1 big 1 z3
theorem Z6i {W:World} {r:(LI)} {p0:LI} (h:Z5o p0=some r)  :
    Calls Tryz.prog 130 [agg [u5' p0]].toArray W (Z36 W (agg [u5' r])):=by
 unfold Z5o at h
 refine Zc mo Z0n4 rfl ?_
 refine Z0<|Z2<|Zg (Z0k (s:=[u5' p0]) rfl fun b1 u1=>Zg (Zv fun b2 u2=>Z1<|Z0<|oH h fun y1 f1 h=>Z2<|Z6 _ (Zy (p:=[u5' p0]) rfl .t1 rfl)<|Z6 _ (Z0b rfl (Z19 f1))<|Zg (Zs (q:=[u5' y1]) rfl rfl rfl rfl rfl .t1<|Z1<|Z0<|bH h fun z1 e1 h=>bH h fun z2 e2 h=>bH h fun z3 e3 h=>Z2<|Z6 _ (Z1s rfl rfl (by decide))<|Z6 _ (iz e1 (Z1y rfl .t1 rfl))<|Z6 _ (iz e2 (Z9 rfl rfl rfl))<|Z6 _ (az (fun z=>agg [.ints .u64 5 z]) e3 (Zct (.one rfl rfl rfl BdR.nil)))<|Zg (Zv fun b3 u3=>Zg (Zs (q:=[u5' z3]) rfl rfl rfl rfl rfl .here<|Z1<|Z0<|Z0<|Z2<|Z7 rfl<|Z1<|jH h fun k1 q1 h=>Zm (G:=fun t m=>∃ (a1:LI),k1 a1=some r/\Fit [(2,pt' b2),(3,pt' b3)] (ck b3 80 [u5' a1]::(ck b2 80 [u5' (replicate 5 0)]::(ck b1 80 [u5' y1] :: []))) t m) ?_ ?_)))))
 ·refine Za<|Zp (fun n1 t m=>∃ (i1:Int) (a2:LI),Z8o y1 k1 n1 i1 a2=some r/\Fit [(1,pt' b1),(2,pt' b2),(3,pt' b3),(4,.int .i64 (i1))] (ck b3 80 [u5' a2]::(ck b2 80 [u5' (replicate 5 0)]::(ck b1 80 [u5' y1] :: []))) t m) big ?_ ?_
  ·exact ⟨1,z3,h,⟨⟨rfl,rfl,rfl,rfl,trivial⟩,(.o (.o (.o .nil)))⟩⟩
  ·rintro n1 t m ⟨i1,a2,h,hF⟩
   refine Zk hF ?_
   clear hF
   rcases n1 with _ | n1
   · exact Z0a h
   have h:Zf2 y1 k1 (Z8o y1 k1 n1) i1 a2=some r:=h
   unfold Zf2 at h
   obtain ⟨k2,q2⟩ : ∃ k,k=Z8o y1 k1 n1:=⟨_,rfl⟩
   try rw [<- q2] at h
   refine Z0<|Z0<|Z2<|Z7 rfl<|Z6 _ (Z9 rfl rfl rfl)<|Z1<|Z02 h rfl (fun h=>?_) (fun h=>?_)
   ·refine Ze<|Z0<|Za<|cH h fun c1 h=>bH h fun z4 e4 h=>bH h fun z5 e5 h=>cH h fun c2 h=>bH h fun l1 g1 h=>Z2<|Z7 rfl<|Z7 rfl<|Z6 _ (Z1s rfl rfl (Z0j c1))<|Z6 _ (iz e4 (Z3e (base:=0) rfl .t2 rfl (Z03 c1)))<|Z6 _ (iz e5 (Z9 rfl rfl rfl))<|Z6 _ (Z1s rfl rfl (Z0j c2))<|Zg (Z2l (q:=[u5' l1]) (base:=0) g1 rfl rfl rfl (Z03 c2) rfl .here<|Z1<|bH h fun z6 e6 h=>Z2<|Z7 rfl<|Z6 _ (iz e6 (Z9 rfl rfl rfl))<|Z7 rfl<|Z1 ?_)
    rw [q2] at h
    exact ⟨n1,Nat.lt_succ_self _,z6,l1,h,⟨⟨rfl,rfl,rfl,rfl,trivial⟩,(.o (.o (.o .nil)))⟩⟩
   ·exact Zx _ rfl<|⟨a2,h,⟨⟨rfl,rfl,trivial⟩,(.o (.o (.o .nil)))⟩⟩
 ·rintro t m ⟨a1,h,hF⟩
  refine Zk hF ?_
  clear hF
  subst q1
  refine Z0<|oH h fun y2 f2 h=>Z2<|Z6 _ (Zy (p:=[u5' a1]) rfl .here rfl)<|Z6 _ (Z0b rfl (Z19 f2))<|Zg (Zs (q:=[u5' y2]) rfl rfl rfl rfl rfl .t1<|Z1<|Zi ?_)
  revert h; refine Zt fun h=>?_
  subst h
  exact ⟨_,(.cons (.agg rfl .t1 rfl) .nil),rfl⟩
def Z56 (p0:LI) (p1:LI):OL :=
 opt (Z5o p1) fun y1 =>
 opt (Z2s p0 y1) fun y2 =>
 some y2
theorem Z5b {W:World} {r:(LI)} {p0:LI} {p1:LI} (h:Z56 p0 p1=some r)  :
    Calls Tryz.prog 126 [agg [u5' p0],agg [u5' p1]].toArray W (Z36 W (agg [u5' r])):=by
 unfold Z56 at h
 refine Zc mo Z0n0 rfl ?_
 refine Z0<|Z2<|Zg (Z0k (s:=[u5' p0]) rfl fun b1 u1=>Zg (Z0k (s:=[u5' p1]) rfl fun b2 u2=>Zg (Zv fun b3 u3=>Z1<|Z0<|oH h fun y1 f1 h=>oH h fun y2 f2 h=>Zr<|Zn _ (Zy (p:=[u5' p0]) rfl .t2 rfl)<|Zn _ (Zy (p:=[u5' p1]) rfl .t1 rfl)<|Z8 _ (Z0b rfl (Z6i f1))<|Z8 _ (Z0b rfl (Z2p f2))<|Z1z rfl (Zs (q:=[u5' y2]) rfl rfl rfl rfl rfl .here<|Z00<|Zi ?_))))
 revert h; refine Zt fun h=>?_
 subst h
 exact ⟨_,(.cons (.agg rfl .here rfl) .nil),rfl⟩
def Z8e (p0:LI) (p1:LI) (p2:LI) (p3:LI):Option (Zh) :=
 opt (Z0y p0 p1) fun y1 =>
 opt (Z0y p2 p3) fun y2 =>
 opt (Z0y p1 p2) fun y3 =>
 opt (Z0y p0 p3) fun y4 =>
 some (⟨y1,y2,y3,y4⟩:Zh)
theorem Zcy {W:World} {r:Zh} {p0:LI} {p1:LI} {p2:LI} {p3:LI} (h:Z8e p0 p1 p2 p3=some r)  :
    Calls Tryz.prog 191 [agg [u5' p0],agg [u5' p1],agg [u5' p2],agg [u5' p3]].toArray W (Z36 W (agg [u5' r.gX,u5' r.gY,u5' r.gZ,u5' r.gT])):=by
 unfold Z8e at h
 refine Zc mo Z0om rfl ?_
 refine Z0<|Z2<|Zg (Z0k (s:=[u5' p0]) rfl fun b1 u1=>Zg (Z0k (s:=[u5' p1]) rfl fun b2 u2=>Zg (Z0k (s:=[u5' p2]) rfl fun b3 u3=>Zg (Z0k (s:=[u5' p3]) rfl fun b4 u4=>Zg (Zv fun b5 u5=>Z1<|Z0<|oH h fun y1 f1 h=>oH h fun y2 f2 h=>oH h fun y3 f3 h=>oH h fun y4 f4 h=>Zr<|Zn _ (Zy (p:=[u5' p0]) rfl .t4 rfl)<|Zn _ (Zy (p:=[u5' p1]) rfl .t3 rfl)<|Z8 _ (Z0b rfl (Z09 f1))<|Zn _ (Zy (p:=[u5' p2]) rfl .t2 rfl)<|Zn _ (Zy (p:=[u5' p3]) rfl .t1 rfl)<|Z8 _ (Z0b rfl (Z09 f2))<|Zn _ (Zy (p:=[u5' p1]) rfl .t3 rfl)<|Zn _ (Zy (p:=[u5' p2]) rfl .t2 rfl)<|Z8 _ (Z0b rfl (Z09 f3))<|Zn _ (Zy (p:=[u5' p0]) rfl .t4 rfl)<|Zn _ (Zy (p:=[u5' p3]) rfl .t1 rfl)<|Z8 _ (Z0b rfl (Z09 f4))<|Z8 _ (Zct (q:=[u5' y1,u5' y2,u5' y3,u5' y4]) (.agg rfl rfl rfl (.agg rfl rfl rfl (.agg rfl rfl rfl (.agg rfl rfl rfl BdR.nil)))))<|Z1z rfl (Zs (q:=[u5' y1,u5' y2,u5' y3,u5' y4]) rfl rfl rfl rfl rfl .here<|Z00<|Zi ?_))))))
 revert h; refine Zt fun h=>?_
 subst h
 exact ⟨_,(.cons (.agg rfl .here rfl) .nil),rfl⟩
def Z94:OL :=
 bnd (([1859910466990425,932731440258426,1072319116312658,1815898335770999,633789495995903]:LI)) fun z1 =>
 some z1
theorem Zhy {W:World} {r:(LI)} (h:Z94=some r)  :
    Calls Tryz.prog 192 [].toArray W (Z36 W (agg [u5' r])):=by
 unfold Z94 at h
 refine Zc mo Z0on rfl ?_
 refine Z0<|Z2<|Zg (Zv fun b1 u1=>Z1<|Z0<|bH h fun z1 e1 h=>Z2<|Z6 _ (az (fun z=>agg [.ints .u64 5 z]) e1 (Zct (.one rfl rfl rfl (.one rfl rfl rfl (.one rfl rfl rfl (.one rfl rfl rfl (.one rfl rfl rfl BdR.nil)))))))<|Zg (Zs (q:=[u5' z1]) rfl rfl rfl rfl rfl .here<|Z1<|Zi ?_))
 revert h; refine Zt fun h=>?_
 subst h
 exact ⟨_,(.cons (.agg rfl .here rfl) .nil),rfl⟩
def Zaf (p0:Zh) (p1:Zh):Option (Zh) :=
 opt (Z56 p0.gY p0.gX) fun y1 =>
 opt (Z56 p1.gY p1.gX) fun y2 =>
 opt (Z0y y1 y2) fun y3 =>
 opt (Z2s p0.gY p0.gX) fun y4 =>
 opt (Z2s p1.gY p1.gX) fun y5 =>
 opt (Z0y y4 y5) fun y6 =>
 opt (Z94) fun y7 =>
 opt (Z0y p0.gT y7) fun y8 =>
 opt (Z0y y8 p1.gT) fun y9 =>
 opt (Z2s p0.gZ p0.gZ) fun y10 =>
 opt (Z0y y10 p1.gZ) fun y11 =>
 opt (Z56 y6 y3) fun y12 =>
 opt (Z56 y11 y9) fun y13 =>
 opt (Z2s y11 y9) fun y14 =>
 opt (Z2s y6 y3) fun y15 =>
 opt (Z8e y12 y13 y14 y15) fun y16 =>
 some y16
theorem Zcg {W:World} {r:Zh} {p0:Zh} {p1:Zh} (h:Zaf p0 p1=some r)  :
    Calls Tryz.prog 136 [agg [u5' p0.gX,u5' p0.gY,u5' p0.gZ,u5' p0.gT],agg [u5' p1.gX,u5' p1.gY,u5' p1.gZ,u5' p1.gT]].toArray W (Z36 W (agg [u5' r.gX,u5' r.gY,u5' r.gZ,u5' r.gT])):=by
 unfold Zaf at h
 refine Zc mo Z0na rfl ?_
 refine Z0<|Z2<|Zg (Z0k (s:=[u5' p0.gX,u5' p0.gY,u5' p0.gZ,u5' p0.gT]) rfl fun b1 u1=>Zg (Z0k (s:=[u5' p1.gX,u5' p1.gY,u5' p1.gZ,u5' p1.gT]) rfl fun b2 u2=>Zg (Zv fun b3 u3=>Z1<|Z0<|oH h fun y1 f1 h=>oH h fun y2 f2 h=>oH h fun y3 f3 h=>Zr<|Z8 _ (Z4f rfl)<|Z8 _ (Z4f rfl)<|Z8 _ (Z4f rfl)<|Z8 _ (Z4f rfl)<|Zn _ (Zy (p:=[u5' p0.gY]) rfl .t2 rfl)<|Zn _ (Zy (p:=[u5' p0.gX]) rfl .t2 rfl)<|Z8 _ (Z0b rfl (Z5b f1))<|Zn _ (Zy (p:=[u5' p1.gY]) rfl .t1 rfl)<|Zn _ (Zy (p:=[u5' p1.gX]) rfl .t1 rfl)<|Z8 _ (Z0b rfl (Z5b f2))<|Z8 _ (Z0b rfl (Z09 f3))<|Z6o (Zv fun b4 u4=>⟨(by repeat (first | exact Sup.refl _ | apply Sup.cons | apply Sup.app)),Z1z rfl (Zs (q:=[u5' y3]) rfl rfl rfl rfl rfl .here (Z00 (Z0 (oH h fun y4 f4 h=>oH h fun y5 f5 h=>oH h fun y6 f6 h=>Zr (Z8 _ (Z4f rfl) (Z8 _ (Z4f rfl) (Z8 _ (Z4f rfl) (Z8 _ (Z4f rfl) (Zn _ (Zy (p:=[u5' p0.gY]) rfl .t3 rfl) (Zn _ (Zy (p:=[u5' p0.gX]) rfl .t3 rfl) (Z8 _ (Z0b rfl (Z2p f4)) (Zn _ (Zy (p:=[u5' p1.gY]) rfl .t2 rfl) (Zn _ (Zy (p:=[u5' p1.gX]) rfl .t2 rfl) (Z8 _ (Z0b rfl (Z2p f5)) (Z8 _ (Z0b rfl (Z09 f6)) (Z6o (Zv fun b5 u5=>⟨(by repeat (first | exact Sup.refl _ | apply Sup.cons | apply Sup.app)),Z1z rfl (Zs (q:=[u5' y6]) rfl rfl rfl rfl rfl .here (Z00 (Z0 (oH h fun y7 f7 h=>Z2 (Z6 _ (Z0b rfl (Zhy f7)) (Zg (Zv fun b6 u6=>Zg (Zs (q:=[u5' y7]) rfl rfl rfl rfl rfl .here (Z1 (Z0 (oH h fun y8 f8 h=>oH h fun y9 f9 h=>Zr (Z8 _ (Z4f rfl) (Z8 _ (Z4f rfl) (Zn _ (Zy (p:=[u5' p0.gT]) rfl .t5 rfl) (Zn _ (Zy (p:=[u5' y7]) rfl .here rfl) (Z8 _ (Z0b rfl (Z09 f8)) (Zn _ (Zy (p:=[u5' p1.gT]) rfl .t4 rfl) (Z8 _ (Z0b rfl (Z09 f9)) (Z6o (Zv fun b7 u7=>⟨(by repeat (first | exact Sup.refl _ | apply Sup.cons | apply Sup.app)),Z1z rfl (Zs (q:=[u5' y9]) rfl rfl rfl rfl rfl .here (Z00 (Z0 (oH h fun y10 f10 h=>oH h fun y11 f11 h=>Zr (Z8 _ (Z4f rfl) (Z8 _ (Z4f rfl) (Z8 _ (Z4f rfl) (Zn _ (Zy (p:=[u5' p0.gZ]) rfl .t6 rfl) (Zn _ (Zy (p:=[u5' p0.gZ]) rfl .t6 rfl) (Z8 _ (Z0b rfl (Z2p f10)) (Zn _ (Zy (p:=[u5' p1.gZ]) rfl .t5 rfl) (Z8 _ (Z0b rfl (Z09 f11)) (Z6o (Zv fun b8 u8=>⟨(by repeat (first | exact Sup.refl _ | apply Sup.cons | apply Sup.app)),Z1z rfl (Zs (q:=[u5' y11]) rfl rfl rfl rfl rfl .here (Z00 (Z0 (oH h fun y12 f12 h=>oH h fun y13 f13 h=>oH h fun y14 f14 h=>oH h fun y15 f15 h=>oH h fun y16 f16 h=>Zr (Zn _ (Zy (p:=[u5' y6]) rfl .t3 rfl) (Zn _ (Zy (p:=[u5' y3]) rfl .t4 rfl) (Z8 _ (Z0b rfl (Z5b f12)) (Zn _ (Zy (p:=[u5' y11]) rfl .here rfl) (Zn _ (Zy (p:=[u5' y9]) rfl .t1 rfl) (Z8 _ (Z0b rfl (Z5b f13)) (Zn _ (Zy (p:=[u5' y11]) rfl .here rfl) (Zn _ (Zy (p:=[u5' y9]) rfl .t1 rfl) (Z8 _ (Z0b rfl (Z2p f14)) (Zn _ (Zy (p:=[u5' y6]) rfl .t3 rfl) (Zn _ (Zy (p:=[u5' y3]) rfl .t4 rfl) (Z8 _ (Z0b rfl (Z2p f15)) (Z8 _ (Z0b rfl (Zcy f16)) (Z1z rfl (Zs (q:=[u5' y16.gX,u5' y16.gY,u5' y16.gZ,u5' y16.gT]) rfl rfl rfl rfl rfl .t5 (Z00 (Zi ?_)))))))))))))))))))))⟩))))))))))))))⟩))))))))))))))))))))⟩)))))))))))))))))⟩))))
 revert h; refine Zt fun h=>?_
 subst h
 exact ⟨_,(.cons (.agg rfl .t5 rfl) .nil),rfl⟩
abbrev Zz:El (Zh):=⟨20,fun x=>cells [u5' x.gX,u5' x.gY,u5' x.gZ,u5' x.gT],fun x=>by rw [cells_length]; rfl,fun x=>(Z30 Z6z (Z30 Z6z (Z30 Z6z (Z30 Z6z Z82)))),by decide,Z1l⟩
def Z41 (p0:Zh) (k1:(List (Zh))->Option ((List (Zh)))) (k2:Int->(List (Zh))->Option ((List (Zh)))) (i1:Int) (a1:List (Zh)):Option ((List (Zh))) :=
 br ((decide (i1<15))) (
 bnd (wrap .i64 (i1+1)) fun z1 =>
 chk (inB i1 16) <|
 bnd (a1.getD (i1).toNat Z1l) fun x1 =>
 opt (Zaf x1 p0) fun y1 =>
 chk (inB z1 16) <|
 bnd (Zdu Z1l a1 (z1).toNat y1) fun l1 =>
 bnd (wrap .i64 (i1+1)) fun z2 =>
 k2 z2 l1
 ) (
 k1 a1
 )
def Z2o (p0:Zh) (k1:(List (Zh))->Option ((List (Zh)))):Nat->Int->(List (Zh))->Option ((List (Zh)))
  | 0,_,_=>none
  | n+1,i1,a1=>Z41 p0 k1 (Z2o p0 k1 n) i1 a1
def Z5l (p0:Zh):Option ((List (Zh))) :=
 opt (Zbb) fun y1 =>
 bnd (Zdu Z1l (replicate 16 Z1l) 0 y1) fun l1 =>
 jn (fun (a1:List (Zh))=>some a1) fun k1=>Z2o p0 k1 big 0 l1
theorem Zb3 {W:World} {r:(List (Zh))} {p0:Zh} (h:Z5l p0=some r)  :
    Calls Tryz.prog 133 [agg [u5' p0.gX,u5' p0.gY,u5' p0.gZ,u5' p0.gT]].toArray W (Z36 W (agg [.rows 20 16 (Z90 Zz (r))])):=by
 unfold Z5l at h
 refine Zc mo Z0n7 rfl ?_
 refine Z0<|Z2<|Zg (Z0k (s:=[u5' p0.gX,u5' p0.gY,u5' p0.gZ,u5' p0.gT]) rfl fun b1 u1=>Zg (Zgy (z':=[.rows 20 16 (Z90 Zz ((replicate 16 Z1l)))]) (Za8 (E:=Zz) rfl rfl) fun b2 u2=>Z1<|Z0<|Z2<|Zg (Zgy (z':=[.rows 20 16 (Z90 Zz ((replicate 16 Z1l)))]) (Za8 (E:=Zz) rfl rfl) fun b3 u3=>Z1<|Z0<|oH h fun y1 f1 h=>bH h fun l1 g1 h=>Z2<|Z6 _ (Z0p (vs:=[]) (v:=agg [u5' y1.gX,u5' y1.gY,u5' y1.gZ,u5' y1.gT]) rfl (fun w hw=>Zey (r:=y1) f1 ))<|Z6 _ (Z1s rfl rfl (by decide))<|Zg (Zlg (q:=[.rows 20 16 (Z90 Zz (l1))]) (E:=Zz) (base:=0) (i:=0) (len:=16) g1 rfl rfl rfl rfl (by decide) rfl .here<|Z1<|Z0<|Z0<|Z2<|Z7 rfl<|Z1<|jH h fun k1 q1 h=>Zm (G:=fun t m=>∃ (a1:List (Zh)),k1 a1=some r/\Fit [(2,pt' b2),(3,pt' b3)] (ck b3 166 [.rows 20 16 (Z90 Zz (a1))]::(ck b2 166 [.rows 20 16 (Z90 Zz ((replicate 16 Z1l)))]::(ck b1 82 [u5' p0.gX,u5' p0.gY,u5' p0.gZ,u5' p0.gT] :: []))) t m) ?_ ?_))))
 ·refine Za<|Zp (fun n1 t m=>∃ (i1:Int) (a2:List (Zh)),Z2o p0 k1 n1 i1 a2=some r/\Fit [(1,pt' b1),(2,pt' b2),(3,pt' b3),(7,.int .i64 (i1))] (ck b3 166 [.rows 20 16 (Z90 Zz (a2))]::(ck b2 166 [.rows 20 16 (Z90 Zz ((replicate 16 Z1l)))]::(ck b1 82 [u5' p0.gX,u5' p0.gY,u5' p0.gZ,u5' p0.gT] :: []))) t m) big ?_ ?_
  ·exact ⟨0,l1,h,⟨⟨rfl,rfl,rfl,rfl,trivial⟩,(.o (.o (.o .nil)))⟩⟩
  ·rintro n1 t m ⟨i1,a2,h,hF⟩
   refine Zk hF ?_
   clear hF
   rcases n1 with _ | n1
   · exact Z0a h
   have h:Z41 p0 k1 (Z2o p0 k1 n1) i1 a2=some r:=h
   unfold Z41 at h
   obtain ⟨k2,q2⟩ : ∃ k,k=Z2o p0 k1 n1:=⟨_,rfl⟩
   try rw [<- q2] at h
   refine Z0<|Z2<|Z6 _ (Z9 rfl rfl rfl)<|Z1<|Z0<|Z02 h rfl (fun h=>?_) (fun h=>?_)
   ·refine Ze<|Z0<|Za<|Z0<|Z2<|Z7 rfl<|Z7 rfl<|Z1<|bH h fun z1 e1 h=>cH h fun c1 h=>bH h fun x1 j1 h=>oH h fun y2 f2 h=>cH h fun c2 h=>bH h fun l2 g2 h=>Zr<|Z8 _ (Z0u rfl)<|Z8 _ (iz e1 (Z9 rfl rfl rfl))<|Z8 _ (Z0u rfl)<|Z8 _ (Z1s rfl rfl (Z0j c1))<|Zn _ (az (fun x1=>agg [u5' x1.gX,u5' x1.gY,u5' x1.gZ,u5' x1.gT]) j1 (Zm7 (base:=0) (w:=20) rfl .here rfl (Z03 c1) rfl rfl rfl))<|Zn _ (Zy (p:=[u5' p0.gX,u5' p0.gY,u5' p0.gZ,u5' p0.gT]) rfl .t2 rfl)<|Z8 _ (Z0p (vs:=[agg [u5' x1.gX,u5' x1.gY,u5' x1.gZ,u5' x1.gT],agg [u5' p0.gX,u5' p0.gY,u5' p0.gZ,u5' p0.gT]]) (v:=agg [u5' y2.gX,u5' y2.gY,u5' y2.gZ,u5' y2.gT]) rfl (fun w hw=>Zcg (r:=y2) (p0:=x1) (p1:=p0) f2 ))<|Z8 _ (Z1s rfl rfl (Z0j c2))<|Z1z rfl (Zlg (q:=[.rows 20 16 (Z90 Zz (l2))]) (E:=Zz) (base:=0) g2 rfl rfl rfl rfl (Z03 c2) rfl .here<|Z00<|bH h fun z2 e2 h=>Z2<|Z6 _ (iz e2 (Z9 rfl rfl rfl))<|Z7 rfl<|Z1 ?_)
    rw [q2] at h
    exact ⟨n1,Nat.lt_succ_self _,z2,l2,h,⟨⟨rfl,rfl,rfl,rfl,trivial⟩,(.o (.o (.o .nil)))⟩⟩
   ·exact Zx _ rfl<|⟨a2,h,⟨⟨rfl,rfl,trivial⟩,(.o (.o (.o .nil)))⟩⟩
 ·rintro t m ⟨a1,h,hF⟩
  refine Zk hF ?_
  clear hF
  subst q1
  refine Z0<|Z2<|Z6 _ (Zy (p:=[.rows 20 16 (Z90 Zz (a1))]) rfl .here rfl)<|Zg (Zlf (q:=[.rows 20 16 (Z90 Zz (a1))]) rfl rfl rfl rfl (Z30 (Zbq (E:=Zz)) Z82) .t1<|Z1<|Zi ?_)
  revert h; refine Zt fun h=>?_
  subst h
  exact ⟨_,(.cons (.agg rfl .t1 rfl) .nil),rfl⟩
def Z8c (p0:Zh):Option (Zh) :=
 opt (Z1u p0.gX) fun y1 =>
 opt (Z1u p0.gY) fun y2 =>
 opt (Z1u p0.gZ) fun y3 =>
 opt (Z2s y1 y2) fun y4 =>
 opt (Z2s p0.gX p0.gY) fun y5 =>
 opt (Z1u y5) fun y6 =>
 opt (Z56 y4 y6) fun y7 =>
 opt (Z56 y1 y2) fun y8 =>
 opt (Z2s y3 y3) fun y9 =>
 opt (Z2s y9 y8) fun y10 =>
 opt (Z8e y7 y10 y8 y4) fun y11 =>
 some y11
theorem Ziy {W:World} {r:Zh} {p0:Zh} (h:Z8c p0=some r)  :
    Calls Tryz.prog 135 [agg [u5' p0.gX,u5' p0.gY,u5' p0.gZ,u5' p0.gT]].toArray W (Z36 W (agg [u5' r.gX,u5' r.gY,u5' r.gZ,u5' r.gT])):=by
 unfold Z8c at h
 refine Zc mo Z0n9 rfl ?_
 refine Z0<|Z2<|Zg (Z0k (s:=[u5' p0.gX,u5' p0.gY,u5' p0.gZ,u5' p0.gT]) rfl fun b1 u1=>Zg (Zv fun b2 u2=>Z1<|Z0<|oH h fun y1 f1 h=>Z2<|Z6 _ (Z4f rfl)<|Z6 _ (Zy (p:=[u5' p0.gX]) rfl .t1 rfl)<|Z6 _ (Z0b rfl (Z2k f1))<|Zg (Zv fun b3 u3=>Zg (Zs (q:=[u5' y1]) rfl rfl rfl rfl rfl .here<|Z1<|Z0<|oH h fun y2 f2 h=>Z2<|Z6 _ (Z4f rfl)<|Z6 _ (Zy (p:=[u5' p0.gY]) rfl .t2 rfl)<|Z6 _ (Z0b rfl (Z2k f2))<|Zg (Zv fun b4 u4=>Zg (Zs (q:=[u5' y2]) rfl rfl rfl rfl rfl .here<|Z1<|Z0<|oH h fun y3 f3 h=>Z2<|Z6 _ (Z4f rfl)<|Z6 _ (Zy (p:=[u5' p0.gZ]) rfl .t3 rfl)<|Z6 _ (Z0b rfl (Z2k f3))<|Zg (Zv fun b5 u5=>Zg (Zs (q:=[u5' y3]) rfl rfl rfl rfl rfl .here<|Z1<|Z0<|oH h fun y4 f4 h=>Z2<|Z6 _ (Zy (p:=[u5' y1]) rfl .t2 rfl)<|Z6 _ (Zy (p:=[u5' y2]) rfl .t1 rfl)<|Z6 _ (Z0b rfl (Z2p f4))<|Zg (Zv fun b6 u6=>Zg (Zs (q:=[u5' y4]) rfl rfl rfl rfl rfl .here<|Z1<|Z0<|oH h fun y5 f5 h=>oH h fun y6 f6 h=>oH h fun y7 f7 h=>Zr<|Z8 _ (Z4f rfl)<|Z8 _ (Z4f rfl)<|Zn _ (Zy (p:=[u5' y4]) rfl .here rfl)<|Zn _ (Zy (p:=[u5' p0.gX]) rfl .t5 rfl)<|Zn _ (Zy (p:=[u5' p0.gY]) rfl .t5 rfl)<|Z8 _ (Z0b rfl (Z2p f5))<|Z8 _ (Z0b rfl (Z2k f6))<|Z8 _ (Z0b rfl (Z5b f7))<|Z6o (Zv fun b7 u7=>⟨(by repeat (first | exact Sup.refl _ | apply Sup.cons | apply Sup.app)),Z1z rfl (Zs (q:=[u5' y7]) rfl rfl rfl rfl rfl .here (Z00 (Z0 (oH h fun y8 f8 h=>Z2 (Z6 _ (Zy (p:=[u5' y1]) rfl .t4 rfl) (Z6 _ (Zy (p:=[u5' y2]) rfl .t3 rfl) (Z6 _ (Z0b rfl (Z5b f8)) (Zg (Zv fun b8 u8=>Zg (Zs (q:=[u5' y8]) rfl rfl rfl rfl rfl .here (Z1 (Z0 (oH h fun y9 f9 h=>oH h fun y10 f10 h=>Zr (Zn _ (Zy (p:=[u5' y3]) rfl .t3 rfl) (Zn _ (Zy (p:=[u5' y3]) rfl .t3 rfl) (Z8 _ (Z0b rfl (Z2p f9)) (Zn _ (Zy (p:=[u5' y8]) rfl .here rfl) (Z8 _ (Z0b rfl (Z2p f10)) (Z6o (Zv fun b9 u9=>⟨(by repeat (first | exact Sup.refl _ | apply Sup.cons | apply Sup.app)),Z1z rfl (Zs (q:=[u5' y10]) rfl rfl rfl rfl rfl .here (Z00 (Z0 (oH h fun y11 f11 h=>Z2 (Z6 _ (Zy (p:=[u5' y7]) rfl .t2 rfl) (Z6 _ (Zy (p:=[u5' y10]) rfl .here rfl) (Z6 _ (Zy (p:=[u5' y8]) rfl .t1 rfl) (Z6 _ (Zy (p:=[u5' y4]) rfl .t3 rfl) (Z6 _ (Z0b rfl (Zcy f11)) (Zg (Zs (q:=[u5' y11.gX,u5' y11.gY,u5' y11.gZ,u5' y11.gT]) rfl rfl rfl rfl rfl .t7 (Z1 (Zi ?_)))))))))))))⟩))))))))))))))))))))⟩)))))))))))
 revert h; refine Zt fun h=>?_
 subst h
 exact ⟨_,(.cons (.agg rfl .t7 rfl) .nil),rfl⟩
def Z8f (p0:LI) (p1:Int):Option Int :=
 bnd (wrap .i64 (Int.tdiv p1 2)) fun z1 =>
 bnd (wrap .i64 (31-z1)) fun z2 =>
 chk (inB z2 32) <|
 bnd (p0.getD (z2).toNat 0) fun z3 =>
 bnd (Int.tmod p1 2) fun z4 =>
 bnd (wrap .i64 (1-z4)) fun z5 =>
 bnd (wrap .i64 (4*z5)) fun z6 =>
 chk (decide (0<=z6)) <|
 bnd (Zq .u8 z3 z6) fun z7 =>
 bnd (Z4 .and .u8 z7 15) fun z8 =>
 some z8
theorem Zcz {W:World} {r:Int} {p0:LI} {p1:Int} (h:Z8f p0 p1=some r)  :
    Calls Tryz.prog 137 [agg [b3' p0],.int .i64 (p1)].toArray W (Z36 W (.int .u8 (r))):=by
 unfold Z8f at h
 refine Zc mo Z0nb rfl ?_
 refine Z0<|Z2<|Zg (Z0k (s:=[b3' p0]) rfl fun b1 u1=>Z7 rfl<|Z1<|Z0<|bH h fun z1 e1 h=>bH h fun z2 e2 h=>cH h fun c1 h=>bH h fun z3 e3 h=>bH h fun z4 e4 h=>bH h fun z5 e5 h=>bH h fun z6 e6 h=>cH h fun c2 h=>bH h fun z7 e7 h=>bH h fun z8 e8 h=>Z2<|Z7 rfl<|Z6 _ (iz e1 (Zb8 rfl rfl (by decide)))<|Z6 _ (iz e2 (Z9 rfl rfl rfl))<|Z6 _ (Z1s rfl rfl (Z0j c1))<|Z6 _ (iz e3 (Z3e (base:=0) rfl .here rfl (Z03 c1)))<|Z7 rfl<|Z6 _ (iz e4 (Zdl rfl rfl (by decide)))<|Z6 _ (iz e5 (Z9 rfl rfl rfl))<|Z6 _ (iz e6 (Z9 rfl rfl rfl))<|Z6 _ (iz e7 (Z5g rfl rfl (of_decide_eq_true c2)))<|Z6 _ (iz e8 (Z9 rfl rfl rfl))<|Z7 rfl<|Z1<|Zi ?_)
 revert h; refine Zt fun h=>?_
 subst h
 exact ⟨_,(.cons (.tmp rfl) .nil),rfl⟩
def Z99 (p0:LI) (k1:(LI)->OL) (k2:Int->(LI)->OL) (i1:Int) (a1:LI):OL :=
 br ((decide (i1<32))) (
 jn (fun (a2:LI)=>bnd (wrap .i64 (i1+1)) fun z1 =>
 k2 z1 a2) fun k3=>chk (inB i1 32) <|
 bnd (p0.getD (i1).toNat 0) fun z2 =>
 jn (fun (i2:Int)=>bnd (wrap .i64 (8*i1)) fun z3 =>
 bnd (wrap .i64 (Int.tdiv z3 51)) fun z4 =>
 bnd (wrap .i64 (8*i1)) fun z5 =>
 bnd (Int.tmod z5 51) fun z6 =>
 chk (inB z4 5) <|
 bnd (wrap .u64 i2) fun z7 =>
 chk (decide (0<=z6)) <|
 bnd (Zl .u64 z7 z6) fun z8 =>
 bnd (Z4 .and .u64 z8 2251799813685247) fun z9 =>
 bnd (a1.getD (z4).toNat 0) fun z10 =>
 bnd (Z4 .or .u64 z10 z9) fun z11 =>
 chk (inB z4 5) <|
 bnd (Z2u a1 (z4).toNat z11) fun l1 =>
 br (((decide (z6>43))&&(decide (z4<4)))) (
 bnd (wrap .i64 (z4+1)) fun z12 =>
 chk (inB z12 5) <|
 bnd (wrap .u64 i2) fun z13 =>
 bnd (wrap .i64 (51-z6)) fun z14 =>
 chk (decide (0<=z14)) <|
 bnd (Zq .u64 z13 z14) fun z15 =>
 bnd (l1.getD (z12).toNat 0) fun z16 =>
 bnd (Z4 .or .u64 z16 z15) fun z17 =>
 chk (inB z12 5) <|
 bnd (Z2u l1 (z12).toNat z17) fun l2 =>
 k3 l2
 ) (
 k3 l1
 )) fun k4=>br ((i1==31)) (
 bnd (Z4 .and .u8 z2 127) fun z18 =>
 k4 z18
 ) (
 k4 z2
 )
 ) (
 k1 a1
 )
def Z44 (p0:LI) (k1:(LI)->OL):Nat->Int->(LI)->OL
  | 0,_,_=>none
  | n+1,i1,a1=>Z99 p0 k1 (Z44 p0 k1 n) i1 a1
def Z2z (p0:LI):OL :=
 jn (fun (a1:LI)=>opt (Z1v a1) fun y1 =>
 some y1) fun k1=>Z44 p0 k1 big 0 (replicate 5 0)
theorem Z5i {W:World} {r:(LI)} {p0:LI} (h:Z2z p0=some r)  :
    Calls Tryz.prog 122 [agg [b3' p0]].toArray W (Z36 W (agg [u5' r])):=by
 unfold Z2z at h
 refine Zc mo Z0mw rfl ?_
 refine Z0<|Z2<|Zg (Z0k (s:=[b3' p0]) rfl fun b1 u1=>Zg (Zv fun b2 u2=>Z1<|Z0<|Z2<|Zg (Zv fun b3 u3=>Z1<|Z0<|Z0<|Z2<|Z6 _ (Zy (p:=[b3' p0]) rfl .t2 rfl)<|Z7 rfl<|Z1<|jH h fun k1 q1 h=>Zm (G:=fun t m=>∃ (a1:LI),k1 a1=some r/\Fit [(2,pt' b2),(3,pt' b3)] (ck b3 80 [u5' a1]::(ck b2 80 [u5' (replicate 5 0)]::(ck b1 22 [b3' p0] :: []))) t m) ?_ ?_)))
 ·refine Za<|Zp (fun n1 t m=>∃ (i1:Int) (a2:LI),Z44 p0 k1 n1 i1 a2=some r/\Fit [(2,pt' b2),(3,pt' b3),(8,agg [b3' p0]),(9,.int .i64 (i1))] (ck b3 80 [u5' a2]::(ck b2 80 [u5' (replicate 5 0)]::(ck b1 22 [b3' p0] :: []))) t m) big ?_ ?_
  ·exact ⟨0,(replicate 5 0),h,⟨⟨rfl,rfl,rfl,rfl,trivial⟩,(.o (.o (.o .nil)))⟩⟩
  ·rintro n1 t m ⟨i1,a2,h,hF⟩
   refine Zk hF ?_
   clear hF
   rcases n1 with _ | n1
   · exact Z0a h
   have h:Z99 p0 k1 (Z44 p0 k1 n1) i1 a2=some r:=h
   unfold Z99 at h
   obtain ⟨k2,q2⟩ : ∃ k,k=Z44 p0 k1 n1:=⟨_,rfl⟩
   try rw [<- q2] at h
   refine Z0<|Z2<|Z6 _ (Z9 rfl rfl rfl)<|Z1<|Z0<|Z02 h rfl (fun h=>?_) (fun h=>?_)
   ·refine Ze<|Z0<|jH h fun k3 q3 h=>Zm (G:=fun t m=>∃ (a3:LI),k3 a3=some r/\Fit [(2,pt' b2),(3,pt' b3),(8,agg [b3' p0]),(9,.int .i64 (i1))] (ck b3 80 [u5' a3]::(ck b2 80 [u5' (replicate 5 0)]::(ck b1 22 [b3' p0] :: []))) t m) ?_ ?_
    ·refine Za<|Z0<|cH h fun c1 h=>bH h fun z1 e1 h=>Z2<|Z7 rfl<|Z6 _ (iz e1 (Zk5 (len:=32) rfl rfl (Z0j c1)))<|Z7 rfl<|Z7 rfl<|Z1<|Z0<|Z0<|Z2<|Z7 rfl<|Z6 _ (Z9 rfl rfl rfl)<|Z1<|jH h fun k4 q4 h=>Zm (G:=fun t m=>∃ (i2:Int),k4 i2=some r/\Fit [(2,pt' b2),(3,pt' b3),(4,.int .i64 (i1)),(5,.int .u8 (i2)),(8,agg [b3' p0]),(9,.int .i64 (i1))] (ck b3 80 [u5' a2]::(ck b2 80 [u5' (replicate 5 0)]::(ck b1 22 [b3' p0] :: []))) t m) ?_ ?_
     ·refine Z02 h rfl (fun h=>?_) (fun h=>?_)
      ·exact bH h fun z2 e2 h=>Z2<|Z7 rfl<|Z6 _ (iz e2 (Z9 rfl rfl rfl))<|Z7 rfl<|Z1<|⟨z2,h,⟨⟨rfl,rfl,rfl,rfl,rfl,rfl,trivial⟩,(.o (.o (.o .nil)))⟩⟩
      ·exact Ze<|⟨z1,h,⟨⟨rfl,rfl,rfl,rfl,rfl,rfl,trivial⟩,(.o (.o (.o .nil)))⟩⟩
     ·rintro t m ⟨i2,h,hF⟩
      refine Zk hF ?_
      clear hF
      subst q4
      refine Z0<|bH h fun z3 e3 h=>bH h fun z4 e4 h=>bH h fun z5 e5 h=>bH h fun z6 e6 h=>Z2<|Z7 rfl<|Z6 _ (iz e3 (Z9 rfl rfl rfl))<|Z6 _ (iz e4 (Zb8 rfl rfl (by decide)))<|Z7 rfl<|Z6 _ (iz e5 (Z9 rfl rfl rfl))<|Z6 _ (iz e6 (Zdl rfl rfl (by decide)))<|Z7 rfl<|Z7 rfl<|Z1<|Z0<|cH h fun c2 h=>bH h fun z7 e7 h=>cH h fun c3 h=>bH h fun z8 e8 h=>bH h fun z9 e9 h=>bH h fun z10 e10 h=>bH h fun z11 e11 h=>cH h fun c4 h=>bH h fun l1 g1 h=>Zr<|Z8 _ (Z0u rfl)<|Z8 _ (Z1s rfl rfl (Z0j c2))<|Z8 _ (Z0u rfl)<|Z8 _ (iz e7 (Z4k rfl))<|Z8 _ (Z0u rfl)<|Z8 _ (iz e8 (Zkk rfl rfl (of_decide_eq_true c3)))<|Z8 _ (iz e9 (Z9 rfl rfl rfl))<|Zn _ (iz e10 (Z3e (base:=0) rfl .here rfl (Z03 c2)))<|Z8 _ (iz e11 (Z9 rfl rfl rfl))<|Z8 _ (Z1s rfl rfl (Z0j c4))<|Z1z rfl (Z2l (q:=[u5' l1]) (base:=0) g1 rfl rfl rfl (Z03 c4) rfl .here<|Z00<|Z0<|Z2<|Z7 rfl<|Z6 _ (Z9 rfl rfl rfl)<|Z7 rfl<|Zmn rfl rfl rfl (fun hg1=>Z5h rfl _ (Z0u rfl) (Z5h rfl _ (Z9 rfl rfl rfl) (Z5f))) (fun hg1=>rfl) rfl<|Z1<|Z02 h rfl (fun h=>?_) (fun h=>?_))
      ·exact bH h fun z12 e12 h=>cH h fun c5 h=>bH h fun z13 e13 h=>bH h fun z14 e14 h=>cH h fun c6 h=>bH h fun z15 e15 h=>bH h fun z16 e16 h=>bH h fun z17 e17 h=>cH h fun c7 h=>bH h fun l2 g2 h=>Zr<|Z8 _ (Z0u rfl)<|Z8 _ (iz e12 (Z9 rfl rfl rfl))<|Z8 _ (Z1s rfl rfl (Z0j c5))<|Z8 _ (Z0u rfl)<|Z8 _ (iz e13 (Z4k rfl))<|Z8 _ (Z0u rfl)<|Z8 _ (iz e14 (Z9 rfl rfl rfl))<|Z8 _ (iz e15 (Z5g rfl rfl (of_decide_eq_true c6)))<|Zn _ (iz e16 (Z3e (base:=0) rfl .here rfl (Z03 c5)))<|Z8 _ (iz e17 (Z9 rfl rfl rfl))<|Z8 _ (Z1s rfl rfl (Z0j c7))<|Z1z rfl (Z2l (q:=[u5' l2]) (base:=0) g2 rfl rfl rfl (Z03 c7) rfl .here<|Z00<|⟨l2,h,⟨⟨rfl,rfl,rfl,rfl,trivial⟩,(.o (.o (.o .nil)))⟩⟩)
      ·exact Ze<|⟨l1,h,⟨⟨rfl,rfl,rfl,rfl,trivial⟩,(.o (.o (.o .nil)))⟩⟩
    ·rintro t m ⟨a3,h,hF⟩
     refine Zk hF ?_
     clear hF
     subst q3
     refine bH h fun z18 e18 h=>Z2<|Z6 _ (iz e18 (Z9 rfl rfl rfl))<|Z7 rfl<|Z1 ?_
     rw [q2] at h
     exact ⟨n1,Nat.lt_succ_self _,z18,a3,h,⟨⟨rfl,rfl,rfl,rfl,trivial⟩,(.o (.o (.o .nil)))⟩⟩
   ·exact Zx _ rfl<|⟨a2,h,⟨⟨rfl,rfl,trivial⟩,(.o (.o (.o .nil)))⟩⟩
 ·rintro t m ⟨a1,h,hF⟩
  refine Zk hF ?_
  clear hF
  subst q1
  refine Z0<|oH h fun y1 f1 h=>Z2<|Z6 _ (Zy (p:=[u5' a1]) rfl .here rfl)<|Z6 _ (Z0b rfl (Z19 f1))<|Zg (Zs (q:=[u5' y1]) rfl rfl rfl rfl rfl .t1<|Z1<|Zi ?_)
  revert h; refine Zt fun h=>?_
  subst h
  exact ⟨_,(.cons (.agg rfl .t1 rfl) .nil),rfl⟩
def Zch (k1:(LI)->Option (Zh)) (k2:Int->(LI)->Option (Zh)) (i1:Int) (a1:LI):Option (Zh) :=
 br ((decide (i1<31))) (
 bnd (wrap .i64 (i1+1)) fun z1 =>
 chk (inB z1 32) <|
 bnd (Z2u a1 (z1).toNat 102) fun l1 =>
 bnd (wrap .i64 (i1+1)) fun z2 =>
 k2 z2 l1
 ) (
 k1 a1
 )
def Z6g (k1:(LI)->Option (Zh)):Nat->Int->(LI)->Option (Zh)
  | 0,_,_=>none
  | n+1,i1,a1=>Zch k1 (Z6g k1 n) i1 a1
def Zbm:Option (Zh) :=
 bnd (([26,213,37,143,96,45,86,201,178,167,37,149,96,199,44,105,92,220,214,253,49,226,164,192,254,83,110,205,211,54,105,33]:LI)) fun z1 =>
 opt (Z2z z1) fun y1 =>
 bnd (([88,0,0,0,0,0,0,0,0,0,0,0,0,0,0,0,0,0,0,0,0,0,0,0,0,0,0,0,0,0,0,0]:LI)) fun z2 =>
 jn (fun (a1:LI)=>opt (Z2z a1) fun y2 =>
 opt (Z8g) fun y3 =>
 opt (Z0y y1 y2) fun y4 =>
 some (⟨y1,y2,y3,y4⟩:Zh)) fun k1=>Z6g k1 big 0 z2
theorem Zkh {W:World} {r:Zh} (h:Zbm=some r)  :
    Calls Tryz.prog 95 [].toArray W (Z36 W (agg [u5' r.gX,u5' r.gY,u5' r.gZ,u5' r.gT])):=by
 unfold Zbm at h
 refine Zc mo ok95 rfl ?_
 refine Z0<|Z2<|Zg (Zv fun b1 u1=>Z1<|Z0<|bH h fun z1 e1 h=>oH h fun y1 f1 h=>Z2<|Z6 _ (az (fun z=>agg [.ints .u8 32 z]) e1 (Zct (.one rfl rfl rfl (.one rfl rfl rfl (.one rfl rfl rfl (.one rfl rfl rfl (.one rfl rfl rfl (.one rfl rfl rfl (.one rfl rfl rfl (.one rfl rfl rfl (.one rfl rfl rfl (.one rfl rfl rfl (.one rfl rfl rfl (.one rfl rfl rfl (.one rfl rfl rfl (.one rfl rfl rfl (.one rfl rfl rfl (.one rfl rfl rfl (.one rfl rfl rfl (.one rfl rfl rfl (.one rfl rfl rfl (.one rfl rfl rfl (.one rfl rfl rfl (.one rfl rfl rfl (.one rfl rfl rfl (.one rfl rfl rfl (.one rfl rfl rfl (.one rfl rfl rfl (.one rfl rfl rfl (.one rfl rfl rfl (.one rfl rfl rfl (.one rfl rfl rfl (.one rfl rfl rfl (.one rfl rfl rfl BdR.nil))))))))))))))))))))))))))))))))))<|Z6 _ (Z0b rfl (Z5i f1))<|Zg (Zv fun b2 u2=>Zg (Zs (q:=[u5' y1]) rfl rfl rfl rfl rfl .here<|Z1<|Z0<|bH h fun z2 e2 h=>Z2<|Z6 _ (az (fun z=>agg [.ints .u8 32 z]) e2 (Zct (.one rfl rfl rfl BdR.nil)))<|Zg (Zv fun b3 u3=>Zg (Zs (q:=[b3' z2]) rfl rfl rfl rfl rfl .here<|Z1<|Z0<|Z0<|Z2<|Z7 rfl<|Z1<|jH h fun k1 q1 h=>Zm (G:=fun t m=>∃ (a1:LI),k1 a1=some r/\Fit [(0,pt' b1),(1,pt' b2),(2,pt' b3)] (ck b3 22 [b3' a1]::(ck b2 80 [u5' y1]::(ck b1 82 [u5' (replicate 5 0),u5' (replicate 5 0),u5' (replicate 5 0),u5' (replicate 5 0)] :: []))) t m) ?_ ?_)))))
 ·refine Za<|Zp (fun n1 t m=>∃ (i1:Int) (a2:LI),Z6g k1 n1 i1 a2=some r/\Fit [(0,pt' b1),(1,pt' b2),(2,pt' b3),(8,.int .i64 (i1))] (ck b3 22 [b3' a2]::(ck b2 80 [u5' y1]::(ck b1 82 [u5' (replicate 5 0),u5' (replicate 5 0),u5' (replicate 5 0),u5' (replicate 5 0)] :: []))) t m) big ?_ ?_
  ·exact ⟨0,z2,h,⟨⟨rfl,rfl,rfl,rfl,trivial⟩,(.o (.o (.o .nil)))⟩⟩
  ·rintro n1 t m ⟨i1,a2,h,hF⟩
   refine Zk hF ?_
   clear hF
   rcases n1 with _ | n1
   · exact Z0a h
   have h:Zch k1 (Z6g k1 n1) i1 a2=some r:=h
   unfold Zch at h
   obtain ⟨k2,q2⟩ : ∃ k,k=Z6g k1 n1:=⟨_,rfl⟩
   try rw [<- q2] at h
   refine Z0<|Z2<|Z6 _ (Z9 rfl rfl rfl)<|Z1<|Z0<|Z02 h rfl (fun h=>?_) (fun h=>?_)
   ·refine Ze<|Z0<|Za<|Z0<|Z2<|Z7 rfl<|Z7 rfl<|Z1<|bH h fun z3 e3 h=>cH h fun c1 h=>bH h fun l1 g1 h=>Z2<|Z7 rfl<|Z6 _ (iz e3 (Z9 rfl rfl rfl))<|Z6 _ (Z1s rfl rfl (Z0j c1))<|Zg (Z2l (q:=[b3' l1]) (base:=0) g1 rfl rfl rfl (Z03 c1) rfl .here<|Z1<|bH h fun z4 e4 h=>Z2<|Z6 _ (iz e4 (Z9 rfl rfl rfl))<|Z7 rfl<|Z1 ?_)
    rw [q2] at h
    exact ⟨n1,Nat.lt_succ_self _,z4,l1,h,⟨⟨rfl,rfl,rfl,rfl,trivial⟩,(.o (.o (.o .nil)))⟩⟩
   ·exact Zx _ rfl<|⟨a2,h,⟨⟨rfl,rfl,rfl,trivial⟩,(.o (.o (.o .nil)))⟩⟩
 ·rintro t m ⟨a1,h,hF⟩
  refine Zk hF ?_
  clear hF
  subst q1
  refine Z0<|oH h fun y2 f2 h=>Z2<|Z6 _ (Zy (p:=[b3' a1]) rfl .here rfl)<|Z6 _ (Z0b rfl (Z5i f2))<|Zg (Zv fun b4 u4=>Zg (Zs (q:=[u5' y2]) rfl rfl rfl rfl rfl .here<|Z1<|Z0<|oH h fun y3 f3 h=>oH h fun y4 f4 h=>Zr<|Z8 _ (Z0b rfl (Z95 f3))<|Zn _ (Zy (p:=[u5' y1]) rfl .t2 rfl)<|Zn _ (Zy (p:=[u5' y2]) rfl .here rfl)<|Zn _ (Zy (p:=[u5' y1]) rfl .t2 rfl)<|Zn _ (Zy (p:=[u5' y2]) rfl .here rfl)<|Z8 _ (Z0b rfl (Z09 f4))<|Z8 _ (Zct (q:=[u5' y1,u5' y2,u5' y3,u5' y4]) (.agg rfl rfl rfl (.agg rfl rfl rfl (.agg rfl rfl rfl (.agg rfl rfl rfl BdR.nil)))))<|Z1z rfl (Zs (q:=[u5' y1,u5' y2,u5' y3,u5' y4]) rfl rfl rfl rfl rfl .t3<|Z00<|Zi ?_)))
  revert h; refine Zt fun h=>?_
  subst h
  exact ⟨_,(.cons (.agg rfl .t3 rfl) .nil),rfl⟩
def Z6u (y1:(Bool×LI)) (k1:Int->Option (Int×Bool)) (k2:Int->Int->Option (Int×Bool)) (i1:Int) (i2:Int):Option (Int×Bool) :=
 br ((decide (i2<(y1.2.length:Int)))) (
 chk (inB i2 y1.2.length) <|
 bnd (y1.2.getD (i2).toNat 0) fun z1 =>
 bnd (wrap .u64 z1) fun z2 =>
 bnd (wrap .i64 (8*i2)) fun z3 =>
 chk (decide (0<=z3)) <|
 bnd (Zl .u64 z2 z3) fun z4 =>
 bnd (Z4 .or .u64 i1 z4) fun z5 =>
 bnd (wrap .i64 (i2+1)) fun z6 =>
 k2 z5 z6
 ) (
 k1 i1
 )
def Z3t (y1:(Bool×LI)) (k1:Int->Option (Int×Bool)):Nat->Int->Int->Option (Int×Bool)
  | 0,_,_=>none
  | n+1,i1,i2=>Z6u y1 k1 (Z3t y1 k1 n) i1 i2
def Z6p (p0:LI) (p1:Int):Option (Int×Bool) :=
 opt (Z4l p0 p1) fun y1 =>
 jn (fun (i1:Int)=>some (i1,(!y1.1))) fun k1=>Z3t y1 k1 big 0 0
theorem Z92 {W:World} {r:Int×Bool} {p0:LI} {p1:Int} {v0:Value} (h:Z6p p0 p1=some r) (A0:RdSl (El.int .u8) W v0 p0) :
    Calls Tryz.prog 160 [v0,.int .i64 (p1)].toArray W (Z36 W (.tuple #[.int .u64 (r.1),.bool (r.2)])):=by
 unfold Z6p at h
 refine Zc mo Z0nx rfl ?_
 refine Z0<|Z2<|Z7 rfl<|Z7 rfl<|Z1<|Z0<|Z2<|Z7 rfl<|Z1<|Z0<|oH h fun y1 f1 h=>Z2<|Z7 rfl<|Z7 rfl<|Zg (Z06 rfl (fun w hw=>Z9n  f1 ((Z0d A0 Z0h) w hw)) fun v5 o1 R1=>?_)
 obtain ⟨_,rfl,rfl,P10,N8,H9⟩:=R1
 refine Z7 rfl<|Z1<|Z0<|Z0<|Z2<|Z7 rfl<|Z6 _ (Z22 rfl P10)<|Z7 rfl<|Z1<|jH h fun k1 q1 h=>Zm (G:=fun t m=>∃ (i1:Int),k1 i1=some r/\Fit [(6,.int .u64 (i1)),(7,v5)] [] t m) ?_ ?_
 ·refine Za<|Zp (fun n1 t m=>∃ (i2:Int) (i3:Int),Z3t y1 k1 n1 i2 i3=some r/\Fit [(6,.int .u64 (i2)),(7,v5),(13,v5),(14,.int .i64 ((y1.2.length:Int))),(15,.int .i64 (i3))] [] t m) big ?_ ?_
  ·exact ⟨0,0,h,⟨⟨rfl,rfl,rfl,rfl,rfl,trivial⟩,.nil⟩⟩
  ·rintro n1 t m ⟨i2,i3,h,hF⟩
   refine Zk hF ?_
   clear hF
   rcases n1 with _ | n1
   · exact Z0a h
   have h:Z6u y1 k1 (Z3t y1 k1 n1) i2 i3=some r:=h
   unfold Z6u at h
   obtain ⟨k2,q2⟩ : ∃ k,k=Z3t y1 k1 n1:=⟨_,rfl⟩
   try rw [<- q2] at h
   refine Z0<|Z2<|Z6 _ (Z9 rfl rfl rfl)<|Z1<|Z0<|Z02 h rfl (fun h=>?_) (fun h=>?_)
   ·refine Ze<|Z0<|Za<|Z0<|cH h fun c1 h=>bH h fun z1 e1 h=>Z2<|Z7 rfl<|Z6 _ (Z2t rfl rfl P10 c1)<|Z6 _ (iz e1 (Z5e (E:=(El.int .u8)) (s:=[.one (.int .u8 (y1.2.getD (i3).toNat 0))]) rfl (Zz3 H9 (Z0d A0 Z0h)) (Z03 c1) rfl rfl))<|Z7 rfl<|Z7 rfl<|Z1<|bH h fun z2 e2 h=>bH h fun z3 e3 h=>cH h fun c2 h=>bH h fun z4 e4 h=>bH h fun z5 e5 h=>Z2<|Z7 rfl<|Z7 rfl<|Z6 _ (iz e2 (Z4k rfl))<|Z7 rfl<|Z6 _ (iz e3 (Z9 rfl rfl rfl))<|Z6 _ (iz e4 (Zkk rfl rfl (of_decide_eq_true c2)))<|Z6 _ (iz e5 (Z9 rfl rfl rfl))<|Z7 rfl<|Z1<|bH h fun z6 e6 h=>Z2<|Z6 _ (iz e6 (Z9 rfl rfl rfl))<|Z7 rfl<|Z1 ?_
    rw [q2] at h
    exact ⟨n1,Nat.lt_succ_self _,z5,z6,h,⟨⟨rfl,rfl,rfl,rfl,rfl,trivial⟩,.nil⟩⟩
   ·exact Zx _ rfl<|⟨i2,h,⟨⟨rfl,rfl,trivial⟩,.nil⟩⟩
 ·rintro t m ⟨i1,h,hF⟩
  refine Zk hF ?_
  clear hF
  subst q1
  refine Z0<|Z2<|Z7 rfl<|Z7 rfl<|Z6 _ (Zyt rfl P10 N8)<|Z7 rfl<|Z7 rfl<|Z1<|Zi ?_
  revert h; refine Zt fun h=>?_
  subst h
  exact ⟨_,(.cons (.tmp rfl) (.cons (.tmp rfl) .nil)),rfl⟩
def Z6n (z1:Int) (k1:(LI)->OL) (k2:Int->(LI)->Int->OL) (i1:Int) (l1:LI) (i2:Int):OL :=
 br ((decide (i2<((replicate (z1).toNat 0:LI).length:Int)))) (
 bnd (wrap .u8 i1) fun z2 =>
 chk (inB i2 l1.length) <|
 bnd (Zdu 0 l1 (i2).toNat z2) fun l2 =>
 bnd (Zq .u64 i1 8) fun z3 =>
 bnd (wrap .i64 (i2+1)) fun z4 =>
 k2 z3 l2 z4
 ) (
 k1 l1
 )
def Z3c (z1:Int) (k1:(LI)->OL):Nat->Int->(LI)->Int->OL
  | 0,_,_,_=>none
  | n+1,i1,l1,i2=>Z6n z1 k1 (Z3c z1 k1 n) i1 l1 i2
def Z84 (p0:Int):OL :=
 opt (Z3f) fun y1 =>
 bnd (wrap .i64 (Int.tdiv y1 8)) fun z1 =>
 chk (mkB 1 z1 z1) <|
 jn (fun (l1:LI)=>some l1) fun k1=>Z3c z1 k1 big p0 (replicate (z1).toNat 0:LI) 0
theorem Zcv {W:World} {r:(LI)} {p0:Int} (h:Z84 p0=some r)  :
    Calls Tryz.prog 204 [.int .u64 (p0)].toArray W (Zc6 W [] (fun v Ms=>∃ (u0:Value) (M1:List Zf),v=u0/\Ms = [.all M1]/\Z0m (El.int .u8) u0 M1 r)):=by
 unfold Z84 at h
 refine Z04 mo Z0oz rfl (Zh8 _) ?_
 refine Z0<|Z2<|Z7 rfl<|Z1<|Z0<|oH h fun y1 f1 h=>bH h fun z1 e1 h=>cH h fun c1 h=>Z2<|Z6 _ (Z0b rfl (Z4w f1))<|Z6 _ (iz e1 (Zb8 rfl rfl (by decide)))<|Zg (Zj0 (E:=(El.int .u8)) rfl rfl rfl c1 fun v6 w1 O1=>Z7 rfl<|Z1<|Z0<|Z0<|Z2<|Z7 rfl<|Z6 _ (Z22 rfl (Shp.own O1))<|Z7 rfl<|Z1<|jH h fun k1 q1 h=>Zm (G:=fun t m=>∃ (l1:LI) (v62:Value) (w2:List Zf),k1 l1=some r/\Z0m (El.int .u8) v62 w2 l1/\Fit [(3,v62)] (w2 ++ []) t m) ?_ ?_)
 ·refine Za<|Zp (fun n1 t m=>∃ (i1:Int) (l2:LI) (i2:Int) (v99:Value) (w3:List Zf),Z3c z1 k1 n1 i1 l2 i2=some r/\Z0m (El.int .u8) v99 w3 l2/\Fit [(0,.int .u64 (i1)),(3,v99),(9,.int .i64 (((replicate (z1).toNat 0:LI).length:Int))),(10,.int .i64 (i2))] (w3 ++ []) t m) big ?_ ?_
  ·exact ⟨p0,(replicate (z1).toNat 0:LI),0,v6,w1,h,O1,⟨⟨rfl,rfl,rfl,rfl,trivial⟩,(.all .here .nil)⟩⟩
  ·rintro n1 t m ⟨i1,l2,i2,v99,w3,h,O2,hF⟩
   refine Zk hF ?_
   clear hF
   rcases n1 with _ | n1
   · exact Z0a h
   have h:Z6n z1 k1 (Z3c z1 k1 n1) i1 l2 i2=some r:=h
   unfold Z6n at h
   obtain ⟨k2,q2⟩ : ∃ k,k=Z3c z1 k1 n1:=⟨_,rfl⟩
   try rw [<- q2] at h
   refine Z0<|Z2<|Z6 _ (Z9 rfl rfl rfl)<|Z1<|Z0<|Z02 h rfl (fun h=>?_) (fun h=>?_)
   ·refine Ze<|Z0<|Za<|Z0<|Z2<|Z7 rfl<|Z7 rfl<|Z1<|Z0<|bH h fun z2 e2 h=>cH h fun c2 h=>bH h fun l3 g1 h=>Z2<|Z7 rfl<|Z7 rfl<|Z7 rfl<|Z6 _ (iz e2 (Z4k rfl))<|Z6 _ (Z2t rfl rfl (Shp.own O2) c2)<|Zg (Zhz (E:=(El.int .u8)) g1 O2 .here rfl rfl rfl (Z03 c2) fun w4 O3=>Z1<|bH h fun z3 e3 h=>Z2<|Z7 rfl<|Z6 _ (iz e3 (Z5g rfl rfl (by decide)))<|Z7 rfl<|Z1<|bH h fun z4 e4 h=>Z2<|Z6 _ (iz e4 (Z9 rfl rfl rfl))<|Z7 rfl<|Z1 ?_)
    rw [q2] at h
    exact ⟨n1,Nat.lt_succ_self _,z3,l3,z4,v99,w4,h,O3,⟨⟨rfl,rfl,rfl,rfl,trivial⟩,(.all .here .nil)⟩⟩
   ·exact Zx _ rfl<|⟨l2,v99,w3,h,O2,⟨⟨rfl,trivial⟩,(.all .here .nil)⟩⟩
 ·rintro t m ⟨l1,v62,w2,h,O4,hF⟩
  refine Zk hF ?_
  clear hF
  subst q1
  refine Z0<|Z2<|Z7 rfl<|Z7 rfl<|Z1<|Zi ?_
  revert h; refine Zt fun h=>?_
  subst h
  exact ⟨_,_,(.cons (.tmp rfl) .nil),(.all .here .nil),⟨_,rfl,⟨v62,w2,rfl,rfl,O4⟩⟩⟩
def Zc2 (p0:LI) (k1:(LI)->OL) (k2:Int->(LI)->OL) (i1:Int) (a1:LI):OL :=
 br ((decide (i1<4))) (
 chk (inB i1 4) <|
 bnd (p0.getD (i1).toNat 0) fun z1 =>
 bnd (wrap .i64 (8*i1)) fun z2 =>
 chk (Z97 z2 32 32) <|
 opt (Z84 z1) fun y1 =>
 bnd (wr a1 (z2).toNat (y1.take (32-(z2).toNat))) fun l1 =>
 bnd (wrap .i64 (i1+1)) fun z3 =>
 k2 z3 l1
 ) (
 k1 a1
 )
def Z7b (p0:LI) (k1:(LI)->OL):Nat->Int->(LI)->OL
  | 0,_,_=>none
  | n+1,i1,a1=>Zc2 p0 k1 (Z7b p0 k1 n) i1 a1
def Z8x (p0:LI):OL :=
 jn (fun (a1:LI)=>some a1) fun k1=>Z7b p0 k1 big 0 (replicate 32 0)
theorem Zjr {W:World} {r:(LI)} {p0:LI} (h:Z8x p0=some r)  :
    Calls Tryz.prog 161 [agg [.ints .u64 4 (p0)]].toArray W (Z36 W (agg [b3' r])):=by
 unfold Z8x at h
 refine Zc mo Z0ny rfl ?_
 refine Z0<|Z2<|Zg (Z0k (s:=[.ints .u64 4 (p0)]) rfl fun b1 u1=>Zg (Zv fun b2 u2=>Z1<|Z0<|Z2<|Zg (Zv fun b3 u3=>Z1<|Z0<|Z0<|Z2<|Z6 _ (Zy (p:=[.ints .u64 4 (p0)]) rfl .t2 rfl)<|Z7 rfl<|Z1<|jH h fun k1 q1 h=>Zm (G:=fun t m=>∃ (a1:LI),k1 a1=some r/\Fit [(2,pt' b2),(3,pt' b3)] (ck b3 74 [b3' a1]::(ck b2 74 [b3' (replicate 32 0)]::(ck b1 162 [.ints .u64 4 (p0)] :: []))) t m) ?_ ?_)))
 ·refine Za<|Zp (fun n1 t m=>∃ (i1:Int) (a2:LI),Z7b p0 k1 n1 i1 a2=some r/\Fit [(2,pt' b2),(3,pt' b3),(6,agg [.ints .u64 4 (p0)]),(7,.int .i64 (i1))] (ck b3 74 [b3' a2]::(ck b2 74 [b3' (replicate 32 0)]::(ck b1 162 [.ints .u64 4 (p0)] :: []))) t m) big ?_ ?_
  ·exact ⟨0,(replicate 32 0),h,⟨⟨rfl,rfl,rfl,rfl,trivial⟩,(.o (.o (.o .nil)))⟩⟩
  ·rintro n1 t m ⟨i1,a2,h,hF⟩
   refine Zk hF ?_
   clear hF
   rcases n1 with _ | n1
   · exact Z0a h
   have h:Zc2 p0 k1 (Z7b p0 k1 n1) i1 a2=some r:=h
   unfold Zc2 at h
   obtain ⟨k2,q2⟩ : ∃ k,k=Z7b p0 k1 n1:=⟨_,rfl⟩
   try rw [<- q2] at h
   refine Z0<|Z2<|Z6 _ (Z9 rfl rfl rfl)<|Z1<|Z0<|Z02 h rfl (fun h=>?_) (fun h=>?_)
   ·refine Ze<|Z0<|Za<|Z0<|cH h fun c1 h=>bH h fun z1 e1 h=>Z2<|Z7 rfl<|Z6 _ (iz e1 (Zk5 (len:=4) rfl rfl (Z0j c1)))<|Z7 rfl<|Z7 rfl<|Z1<|bH h fun z2 e2 h=>cH h fun c2 h=>oH h fun y1 f1 h=>bH h fun l1 g1 h=>Zr<|Z8 _ (Z0u rfl)<|Z8 _ (iz e2 (Z9 rfl rfl rfl))<|Z8 _ (Ze8 rfl (.yes rfl) .no .no (by simp) (cut4 c2))<|Z8 _ (Z0u rfl)<|Z6o (Z06 rfl (fun w hw=>Zcv  f1 ) fun v105 o1 R1=>?_)
    obtain ⟨_,w1,rfl,rfl,O1⟩:=R1
    refine ⟨(by repeat (first | exact Sup.refl _ | apply Sup.cons | apply Sup.app)),Z1z rfl (Zol (q:=[b3' l1]) (lo:=(z2).toNat) (hi:=32) (mz:=32) (base:=0) g1 rfl rfl (Z0f O1 .here) rfl (cutn c2) rfl (.app .here) (Z00 (bH h fun z3 e3 h=>Z2 (Z6 _ (iz e3 (Z9 rfl rfl rfl)) (Z7 rfl (Z1 ?_))))))⟩
    rw [q2] at h
    exact ⟨n1,Nat.lt_succ_self _,z3,l1,h,⟨⟨rfl,rfl,rfl,rfl,trivial⟩,(.one (.app .here) (.one (.app .here) (.one (.app .here) .nil)))⟩⟩
   ·exact Zx _ rfl<|⟨a2,h,⟨⟨rfl,rfl,trivial⟩,(.o (.o (.o .nil)))⟩⟩
 ·rintro t m ⟨a1,h,hF⟩
  refine Zk hF ?_
  clear hF
  subst q1
  refine Z0<|Z2<|Z6 _ (Zy (p:=[b3' a1]) rfl .here rfl)<|Zg (Zs (q:=[b3' a1]) rfl rfl rfl rfl rfl .t1<|Z1<|Zi ?_)
  revert h; refine Zt fun h=>?_
  subst h
  exact ⟨_,(.cons (.agg rfl .t1 rfl) .nil),rfl⟩
def Z7a (p1:LI) (k1:Int->(LI)->Option ((LI)×Int)) (k2:Int->Int->(LI)->Option ((LI)×Int)) (i1:Int) (i2:Int) (a1:LI):Option ((LI)×Int) :=
 br ((decide (i2<4))) (
 chk (inB i2 4) <|
 chk (inB i2 4) <|
 bnd (a1.getD (i2).toNat 0) fun z1 =>
 bnd (p1.getD (i2).toNat 0) fun z2 =>
 chk (Zzz z1 z2 i1) <|
 bnd (Z035 z1 z2 i1) fun z3 =>
 bnd (Z034 z1 z2 i1) fun z4 =>
 chk (inB i2 4) <|
 bnd (Z2u a1 (i2).toNat z3) fun l1 =>
 bnd (wrap .i64 (i2+1)) fun z5 =>
 k2 z4 z5 l1
 ) (
 k1 i1 a1
 )
def Z32 (p1:LI) (k1:Int->(LI)->Option ((LI)×Int)):Nat->Int->Int->(LI)->Option ((LI)×Int)
  | 0,_,_,_=>none
  | n+1,i1,i2,a1=>Z7a p1 k1 (Z32 p1 k1 n) i1 i2 a1
def Z61 (p0:LI) (p1:LI):Option ((LI)×Int) :=
 jn (fun (i1:Int) (a1:LI)=>some (a1,i1)) fun k1=>Z32 p1 k1 big 0 0 p0
theorem Za2 {W:World} {r:(LI)×Int} {p0:LI} {p1:LI} (h:Z61 p0 p1=some r)  :
    Calls Tryz.prog 131 [agg [.ints .u64 4 (p0)],agg [.ints .u64 4 (p1)]].toArray W (Z36 W (.tuple #[agg [.ints .u64 4 (r.1)],.int .u64 (r.2)])):=by
 unfold Z61 at h
 refine Zc mo Z0n5 rfl ?_
 refine Z0<|Z2<|Zg (Z0k (s:=[.ints .u64 4 (p0)]) rfl fun b1 u1=>Zg (Z0k (s:=[.ints .u64 4 (p1)]) rfl fun b2 u2=>Zg (Zv fun b3 u3=>Z7 rfl<|Z1<|Z0<|Z2<|Z7 rfl<|Z1<|Z0<|Z0<|Z2<|Z7 rfl<|Z1<|jH h fun k1 q1 h=>Zm (G:=fun t m=>∃ (i1:Int) (a1:LI),k1 i1 a1=some r/\Fit [(2,pt' b1),(4,pt' b3),(6,.int .u64 (i1))] (ck b3 162 [.ints .u64 4 ((replicate 4 0))]::(ck b2 162 [.ints .u64 4 (p1)]::(ck b1 162 [.ints .u64 4 (a1)] :: []))) t m) ?_ ?_)))
 ·refine Za<|Zp (fun n1 t m=>∃ (i2:Int) (i3:Int) (a2:LI),Z32 p1 k1 n1 i2 i3 a2=some r/\Fit [(2,pt' b1),(3,pt' b2),(4,pt' b3),(6,.int .u64 (i2)),(8,.int .i64 (i3))] (ck b3 162 [.ints .u64 4 ((replicate 4 0))]::(ck b2 162 [.ints .u64 4 (p1)]::(ck b1 162 [.ints .u64 4 (a2)] :: []))) t m) big ?_ ?_
  ·exact ⟨0,0,p0,h,⟨⟨rfl,rfl,rfl,rfl,rfl,trivial⟩,(.o (.o (.o .nil)))⟩⟩
  ·rintro n1 t m ⟨i2,i3,a2,h,hF⟩
   refine Zk hF ?_
   clear hF
   rcases n1 with _ | n1
   · exact Z0a h
   have h:Z7a p1 k1 (Z32 p1 k1 n1) i2 i3 a2=some r:=h
   unfold Z7a at h
   obtain ⟨k2,q2⟩ : ∃ k,k=Z32 p1 k1 n1:=⟨_,rfl⟩
   try rw [<- q2] at h
   refine Z0<|Z2<|Z6 _ (Z9 rfl rfl rfl)<|Z1<|Z0<|Z02 h rfl (fun h=>?_) (fun h=>?_)
   ·refine Ze<|Z0<|Za<|Z0<|Z2<|Z7 rfl<|Z7 rfl<|Z1<|cH h fun c1 h=>cH h fun c2 h=>bH h fun z1 e1 h=>bH h fun z2 e2 h=>cH h fun c3 h=>bH h fun z3 e3 h=>bH h fun z4 e4 h=>cH h fun c4 h=>bH h fun l1 g1 h=>Zr<|Z8 _ (Z0u rfl)<|Z8 _ (Z0u rfl)<|Z8 _ (Z1s rfl rfl (Z0j c1))<|Z8 _ (Z0u rfl)<|Z8 _ (Z1s rfl rfl (Z0j c2))<|Z8 _ (Z0u rfl)<|Zn _ (iz e1 (Z3e (base:=0) rfl .t2 rfl (Z03 c1)))<|Zn _ (iz e2 (Z3e (base:=0) rfl .t1 rfl (Z03 c2)))<|Z8 _ (Zft rfl Z063 (xsub e3 e4 c3))<|Z8 _ (Z0u rfl)<|Z8 _ (Z2i rfl rfl)<|Z8 _ (Z2i rfl rfl)<|Z8 _ (Z1s rfl rfl (Z0j c4))<|Z1z rfl (Z2l (q:=[.ints .u64 4 (l1)]) (base:=0) g1 rfl rfl rfl (Z03 c4) rfl .t2<|Z8 _ (Z0u rfl)<|Z00<|bH h fun z5 e5 h=>Z2<|Z6 _ (iz e5 (Z9 rfl rfl rfl))<|Z7 rfl<|Z1 ?_)
    rw [q2] at h
    exact ⟨n1,Nat.lt_succ_self _,z4,z5,l1,h,⟨⟨rfl,rfl,rfl,rfl,rfl,trivial⟩,(.o (.o (.o .nil)))⟩⟩
   ·exact Zx _ rfl<|⟨i2,a2,h,⟨⟨rfl,rfl,rfl,trivial⟩,(.o (.o (.o .nil)))⟩⟩
 ·rintro t m ⟨i1,a1,h,hF⟩
  refine Zk hF ?_
  clear hF
  subst q1
  refine Z0<|Z2<|Z6 _ (Zy (p:=[.ints .u64 4 (a1)]) rfl .t2 rfl)<|Z7 rfl<|Zg (Zs (q:=[.ints .u64 4 (a1)]) rfl rfl rfl rfl rfl .here<|Z7 rfl<|Z1<|Zi ?_)
  revert h; refine Zt fun h=>?_
  subst h
  exact ⟨_,(.cons (.agg rfl .here rfl) (.cons (.tmp rfl) .nil)),rfl⟩
def Z80 (p1:LI) (k1:Int->(LI)->Option ((LI)×Int)) (k2:Int->Int->(LI)->Option ((LI)×Int)) (i1:Int) (i2:Int) (a1:LI):Option ((LI)×Int) :=
 br ((decide (i2<4))) (
 chk (inB i2 4) <|
 chk (inB i2 4) <|
 bnd (a1.getD (i2).toNat 0) fun z1 =>
 bnd (p1.getD (i2).toNat 0) fun z2 =>
 chk (Zep z1 z2 i1) <|
 bnd (Zae z1 z2 i1) fun z3 =>
 bnd (Zev z1 z2 i1) fun z4 =>
 chk (inB i2 4) <|
 bnd (Z2u a1 (i2).toNat z3) fun l1 =>
 bnd (wrap .i64 (i2+1)) fun z5 =>
 k2 z4 z5 l1
 ) (
 k1 i1 a1
 )
def Z3r (p1:LI) (k1:Int->(LI)->Option ((LI)×Int)):Nat->Int->Int->(LI)->Option ((LI)×Int)
  | 0,_,_,_=>none
  | n+1,i1,i2,a1=>Z80 p1 k1 (Z3r p1 k1 n) i1 i2 a1
def Z69 (p0:LI) (p1:LI):Option ((LI)×Int) :=
 jn (fun (i1:Int) (a1:LI)=>some (a1,i1)) fun k1=>Z3r p1 k1 big 0 0 p0
theorem Zb1 {W:World} {r:(LI)×Int} {p0:LI} {p1:LI} (h:Z69 p0 p1=some r)  :
    Calls Tryz.prog 165 [agg [.ints .u64 4 (p0)],agg [.ints .u64 4 (p1)]].toArray W (Z36 W (.tuple #[agg [.ints .u64 4 (r.1)],.int .u64 (r.2)])):=by
 unfold Z69 at h
 refine Zc mo Z0o2 rfl ?_
 refine Z0<|Z2<|Zg (Z0k (s:=[.ints .u64 4 (p0)]) rfl fun b1 u1=>Zg (Z0k (s:=[.ints .u64 4 (p1)]) rfl fun b2 u2=>Zg (Zv fun b3 u3=>Z7 rfl<|Z1<|Z0<|Z2<|Z7 rfl<|Z1<|Z0<|Z0<|Z2<|Z7 rfl<|Z1<|jH h fun k1 q1 h=>Zm (G:=fun t m=>∃ (i1:Int) (a1:LI),k1 i1 a1=some r/\Fit [(2,pt' b1),(4,pt' b3),(6,.int .u64 (i1))] (ck b3 162 [.ints .u64 4 ((replicate 4 0))]::(ck b2 162 [.ints .u64 4 (p1)]::(ck b1 162 [.ints .u64 4 (a1)] :: []))) t m) ?_ ?_)))
 ·refine Za<|Zp (fun n1 t m=>∃ (i2:Int) (i3:Int) (a2:LI),Z3r p1 k1 n1 i2 i3 a2=some r/\Fit [(2,pt' b1),(3,pt' b2),(4,pt' b3),(6,.int .u64 (i2)),(8,.int .i64 (i3))] (ck b3 162 [.ints .u64 4 ((replicate 4 0))]::(ck b2 162 [.ints .u64 4 (p1)]::(ck b1 162 [.ints .u64 4 (a2)] :: []))) t m) big ?_ ?_
  ·exact ⟨0,0,p0,h,⟨⟨rfl,rfl,rfl,rfl,rfl,trivial⟩,(.o (.o (.o .nil)))⟩⟩
  ·rintro n1 t m ⟨i2,i3,a2,h,hF⟩
   refine Zk hF ?_
   clear hF
   rcases n1 with _ | n1
   · exact Z0a h
   have h:Z80 p1 k1 (Z3r p1 k1 n1) i2 i3 a2=some r:=h
   unfold Z80 at h
   obtain ⟨k2,q2⟩ : ∃ k,k=Z3r p1 k1 n1:=⟨_,rfl⟩
   try rw [<- q2] at h
   refine Z0<|Z2<|Z6 _ (Z9 rfl rfl rfl)<|Z1<|Z0<|Z02 h rfl (fun h=>?_) (fun h=>?_)
   ·refine Ze<|Z0<|Za<|Z0<|Z2<|Z7 rfl<|Z7 rfl<|Z1<|cH h fun c1 h=>cH h fun c2 h=>bH h fun z1 e1 h=>bH h fun z2 e2 h=>cH h fun c3 h=>bH h fun z3 e3 h=>bH h fun z4 e4 h=>cH h fun c4 h=>bH h fun l1 g1 h=>Zr<|Z8 _ (Z0u rfl)<|Z8 _ (Z0u rfl)<|Z8 _ (Z1s rfl rfl (Z0j c1))<|Z8 _ (Z0u rfl)<|Z8 _ (Z1s rfl rfl (Z0j c2))<|Z8 _ (Z0u rfl)<|Zn _ (iz e1 (Z3e (base:=0) rfl .t2 rfl (Z03 c1)))<|Zn _ (iz e2 (Z3e (base:=0) rfl .t1 rfl (Z03 c2)))<|Z8 _ (Zft rfl Zhb (xadd e3 e4 c3))<|Z8 _ (Z0u rfl)<|Z8 _ (Z2i rfl rfl)<|Z8 _ (Z2i rfl rfl)<|Z8 _ (Z1s rfl rfl (Z0j c4))<|Z1z rfl (Z2l (q:=[.ints .u64 4 (l1)]) (base:=0) g1 rfl rfl rfl (Z03 c4) rfl .t2<|Z8 _ (Z0u rfl)<|Z00<|bH h fun z5 e5 h=>Z2<|Z6 _ (iz e5 (Z9 rfl rfl rfl))<|Z7 rfl<|Z1 ?_)
    rw [q2] at h
    exact ⟨n1,Nat.lt_succ_self _,z4,z5,l1,h,⟨⟨rfl,rfl,rfl,rfl,rfl,trivial⟩,(.o (.o (.o .nil)))⟩⟩
   ·exact Zx _ rfl<|⟨i2,a2,h,⟨⟨rfl,rfl,rfl,trivial⟩,(.o (.o (.o .nil)))⟩⟩
 ·rintro t m ⟨i1,a1,h,hF⟩
  refine Zk hF ?_
  clear hF
  subst q1
  refine Z0<|Z2<|Z6 _ (Zy (p:=[.ints .u64 4 (a1)]) rfl .t2 rfl)<|Z7 rfl<|Zg (Zs (q:=[.ints .u64 4 (a1)]) rfl rfl rfl rfl rfl .here<|Z7 rfl<|Z1<|Zi ?_)
  revert h; refine Zt fun h=>?_
  subst h
  exact ⟨_,(.cons (.agg rfl .here rfl) (.cons (.tmp rfl) .nil)),rfl⟩
def Z79 (k1:(LI)->OL) (a1:LI) (k2:Unit->OL) (k3:Int->OL) (i1:Int):OL :=
 br ((decide (i1≥0))) (
 chk (inB i1 4) <|
 chk (inB i1 4) <|
 bnd (a1.getD (i1).toNat 0) fun z1 =>
 bnd (G_order.getD (i1).toNat 0) fun z2 =>
 br ((decide (z1<z2))) (
 k1 a1
 ) (
 chk (inB i1 4) <|
 chk (inB i1 4) <|
 bnd (a1.getD (i1).toNat 0) fun z3 =>
 bnd (G_order.getD (i1).toNat 0) fun z4 =>
 br ((decide (z3>z4))) (
 k2 ()
 ) (
 bnd (wrap .i64 (i1-1)) fun z5 =>
 k3 z5
 )
 )
 ) (
 k2 ()
 )
def Z0z (k1:(LI)->OL) (a1:LI) (k2:Unit->OL):Nat->Int->OL
  | 0,_=>none
  | n+1,i1=>Z79 k1 a1 k2 (Z0z k1 a1 k2 n) i1
def Z78 (k1:(LI)->OL) (k2:(LI)->OL) (a1:LI):OL :=
 jn (fun (_:Unit)=>opt (Z61 a1 G_order) fun y1 =>
 k2 y1.1) fun k3=>Z0z k1 a1 k3 big 3
def Z3z (k1:(LI)->OL):Nat->(LI)->OL
  | 0,_=>none
  | n+1,a1=>Z78 k1 (Z3z k1 n) a1
def Z8w (p0:LI):OL :=
 jn (fun (a1:LI)=>some a1) fun k1=>Z3z k1 big p0
theorem Zjp {W:World} {r:(LI)} {p0:LI} (h:Z8w p0=some r) (hG:Globs W) :
    Calls Tryz.prog 167 [agg [.ints .u64 4 (p0)]].toArray W (Z36 W (agg [.ints .u64 4 (r)])):=by
 unfold Z8w at h
 refine Zc mo Z0o3 rfl ?_
 refine Z0<|Z2<|Zg (Z0k (s:=[.ints .u64 4 (p0)]) rfl fun b1 u1=>Zg (Zv fun b2 u2=>Z1<|Z03e<|Z0<|Z0jd<|Z0<|jH h fun k1 q1 h=>Zm (G:=fun t m=>∃ (a1:LI),k1 a1=some r/\Fit [(1,pt' b1),(2,pt' b2)] (ck b2 162 [.ints .u64 4 ((replicate 4 0))]::(ck b1 162 [.ints .u64 4 (a1)] :: [])) t m) ?_ ?_))
 ·refine Za<|Zp (fun n1 t m=>∃ (a2:LI),Z3z k1 n1 a2=some r/\Fit [(1,pt' b1),(2,pt' b2)] (ck b2 162 [.ints .u64 4 ((replicate 4 0))]::(ck b1 162 [.ints .u64 4 (a2)] :: [])) t m) big ?_ ?_
  ·exact ⟨p0,h,⟨⟨rfl,rfl,trivial⟩,(.o (.o .nil))⟩⟩
  ·rintro n1 t m ⟨a2,h,hF⟩
   refine Zk hF ?_
   clear hF
   rcases n1 with _ | n1
   · exact Z0a h
   have h:Z78 k1 (Z3z k1 n1) a2=some r:=h
   unfold Z78 at h
   obtain ⟨k2,q2⟩ : ∃ k,k=Z3z k1 n1:=⟨_,rfl⟩
   try rw [<- q2] at h
   refine Za<|Z0<|Z0<|Z2<|Z7 rfl<|Z1<|jH h fun k3 q3 h=>Zm (G:=fun t m=>k3 ()=some r/\Fit [(1,pt' b1),(2,pt' b2)] (ck b2 162 [.ints .u64 4 ((replicate 4 0))]::(ck b1 162 [.ints .u64 4 (a2)] :: [])) t m) ?_ ?_
   ·refine Za<|Zp (fun n2 t m=>∃ (i1:Int),Z0z k1 a2 k3 n2 i1=some r/\Fit [(1,pt' b1),(2,pt' b2),(3,.int .i64 (i1))] (ck b2 162 [.ints .u64 4 ((replicate 4 0))]::(ck b1 162 [.ints .u64 4 (a2)] :: [])) t m) big ?_ ?_
    ·exact ⟨3,h,⟨⟨rfl,rfl,rfl,trivial⟩,(.o (.o .nil))⟩⟩
    ·rintro n2 t m ⟨i1,h,hF⟩
     refine Zk hF ?_
     clear hF
     rcases n2 with _ | n2
     · exact Z0a h
     have h:Z79 k1 a2 k3 (Z0z k1 a2 k3 n2) i1=some r:=h
     unfold Z79 at h
     obtain ⟨k4,q4⟩ : ∃ k,k=Z0z k1 a2 k3 n2:=⟨_,rfl⟩
     try rw [<- q4] at h
     refine Z0<|Z0<|Z2<|Z7 rfl<|Z6 _ (Z9 rfl rfl rfl)<|Z1<|Z02 h rfl (fun h=>?_) (fun h=>?_)
     ·refine Ze<|Z0<|Za<|Z0<|Z0<|cH h fun c1 h=>cH h fun c2 h=>bH h fun z1 e1 h=>bH h fun z2 e2 h=>Zr<|Z8 _ (Z0u rfl)<|Z8 _ (Z1s rfl rfl (Z0j c1))<|Z8 _ (Z0u rfl)<|Z8 _ (Z1s rfl rfl (Z0j c2))<|Zn _ (iz e1 (Z3e (base:=0) rfl .t1 rfl (Z03 c1)))<|Zn _ (iz e2 (Zyv rfl (hG.g1) (by simp) (Z03 c2)))<|Z8 _ (Z9 rfl rfl rfl)<|Z00<|Z02 h rfl (fun h=>?_) (fun h=>?_)
      ·exact Zx _ rfl<|⟨a2,h,⟨⟨rfl,rfl,trivial⟩,(.o (.o .nil))⟩⟩
      ·refine Ze<|Z0<|cH h fun c3 h=>cH h fun c4 h=>bH h fun z3 e3 h=>bH h fun z4 e4 h=>Zr<|Z8 _ (Z0u rfl)<|Z8 _ (Z1s rfl rfl (Z0j c3))<|Z8 _ (Z0u rfl)<|Z8 _ (Z1s rfl rfl (Z0j c4))<|Zn _ (iz e3 (Z3e (base:=0) rfl .t1 rfl (Z03 c3)))<|Zn _ (iz e4 (Zyv rfl (hG.g1) (by simp) (Z03 c4)))<|Z8 _ (Z9 rfl rfl rfl)<|Z00<|Z02 h rfl (fun h=>?_) (fun h=>?_)
       ·exact Zx _ rfl<|⟨h,⟨⟨rfl,rfl,trivial⟩,(.o (.o .nil))⟩⟩
       ·refine Ze<|bH h fun z5 e5 h=>Z2<|Z7 rfl<|Z6 _ (iz e5 (Z9 rfl rfl rfl))<|Z7 rfl<|Z1 ?_
        rw [q4] at h
        exact ⟨n2,Nat.lt_succ_self _,z5,h,⟨⟨rfl,rfl,rfl,trivial⟩,(.o (.o .nil))⟩⟩
     ·exact Zx _ rfl<|⟨h,⟨⟨rfl,rfl,trivial⟩,(.o (.o .nil))⟩⟩
   ·rintro t m ⟨h,hF⟩
    refine Zk hF ?_
    clear hF
    subst q3
    refine oH h fun y1 f1 h=>Z2<|Z6 _ (Zy (p:=[.ints .u64 4 (a2)]) rfl .t1 rfl)<|Z6 _ (Zsu (o0:=0) (off:=0) rfl (hG.g1) (by simp) rfl)<|Z6 _ (Z0b rfl (Za2 f1))<|Z7 rfl<|Z6 _ (Z2i rfl rfl)<|Z6 _ (Z2i rfl rfl)<|Zg (Zs (q:=[.ints .u64 4 (y1.1)]) rfl rfl rfl rfl rfl .t1<|Z1 ?_)
    rw [q2] at h
    exact ⟨n1,Nat.lt_succ_self _,y1.1,h,⟨⟨rfl,rfl,trivial⟩,(.o (.o .nil))⟩⟩
 ·rintro t m ⟨a1,h,hF⟩
  refine Zk hF ?_
  clear hF
  subst q1
  refine Z0<|Z2<|Z6 _ (Zy (p:=[.ints .u64 4 (a1)]) rfl .t1 rfl)<|Zg (Zs (q:=[.ints .u64 4 (a1)]) rfl rfl rfl rfl rfl .here<|Z1<|Zi ?_)
  revert h; refine Zt fun h=>?_
  subst h
  exact ⟨_,(.cons (.agg rfl .here rfl) .nil),rfl⟩
def Z4r (p1:LI) (i1:Int) (z1:Int) (k1:(LI)->Int->OL) (k2:(LI)->Int->Int->OL) (l1:LI) (i2:Int) (i3:Int):OL :=
 br ((decide (i3<(p1.length:Int)))) (
 chk (inB i3 p1.length) <|
 bnd (p1.getD (i3).toNat 0) fun z2 =>
 opt (Z5r z1 z2) fun y1 =>
 bnd (wrap .i64 (i1+i3)) fun z3 =>
 chk (inB z3 l1.length) <|
 bnd (l1.getD (z3).toNat 0) fun z4 =>
 chk (Zep y1.2 z4 0) <|
 bnd (Zae y1.2 z4 0) fun z5 =>
 bnd (Zev y1.2 z4 0) fun z6 =>
 bnd (wrap .u64 (y1.1+z6)) fun z7 =>
 chk (Zep z5 i2 0) <|
 bnd (Zae z5 i2 0) fun z8 =>
 bnd (Zev z5 i2 0) fun z9 =>
 bnd (wrap .i64 (i1+i3)) fun z10 =>
 bnd (wrap .u64 (z7+z9)) fun z11 =>
 chk (inB z10 l1.length) <|
 bnd (Zdu 0 l1 (z10).toNat z8) fun l2 =>
 bnd (wrap .i64 (i3+1)) fun z12 =>
 k2 l2 z11 z12
 ) (
 k1 l1 i2
 )
def Z2g (p1:LI) (i1:Int) (z1:Int) (k1:(LI)->Int->OL):Nat->(LI)->Int->Int->OL
  | 0,_,_,_=>none
  | n+1,l1,i2,i3=>Z4r p1 i1 z1 k1 (Z2g p1 i1 z1 k1 n) l1 i2 i3
def Z4q (p0:LI) (p1:LI) (k1:(LI)->OL) (k2:(LI)->Int->OL) (l1:LI) (i1:Int):OL :=
 br ((decide (i1<(p0.length:Int)))) (
 chk (inB i1 p0.length) <|
 bnd (p0.getD (i1).toNat 0) fun z1 =>
 jn (fun (l2:LI) (i2:Int)=>bnd (wrap .i64 (i1+(p1.length:Int))) fun z2 =>
 chk (inB z2 l2.length) <|
 bnd (Zdu 0 l2 (z2).toNat i2) fun l3 =>
 bnd (wrap .i64 (i1+1)) fun z3 =>
 k2 l3 z3) fun k3=>Z2g p1 i1 z1 k3 big l1 0 0
 ) (
 k1 l1
 )
def Z2f (p0:LI) (p1:LI) (k1:(LI)->OL):Nat->(LI)->Int->OL
  | 0,_,_=>none
  | n+1,l1,i1=>Z4q p0 p1 k1 (Z2f p0 p1 k1 n) l1 i1
def Z7c (p0:LI) (p1:LI):OL :=
 bnd (wrap .i64 ((p0.length:Int)+(p1.length:Int))) fun z1 =>
 chk (mkB 8 z1 z1) <|
 jn (fun (l1:LI)=>some l1) fun k1=>Z2f p0 p1 k1 big (replicate (z1).toNat 0:LI) 0
theorem Zjs {W:World} {r:(LI)} {p0:LI} {p1:LI} {v0:Value} {v1:Value} (h:Z7c p0 p1=some r) (A0:RdSl (El.int .u64) W v0 p0) (A1:RdSl (El.int .u64) W v1 p1) :
    Calls Tryz.prog 168 [v0,v1].toArray W (Zc6 W [] (fun v Ms=>∃ (u0:Value) (M1:List Zf),v=u0/\Ms = [.all M1]/\Z0m (El.int .u64) u0 M1 r)):=by
 unfold Z7c at h
 refine Z04 mo Z0o4 rfl (Zh8 _) ?_
 refine Z0<|Z2<|Z7 rfl<|Z1<|Z0<|bH h fun z1 e1 h=>cH h fun c1 h=>Z2<|Z7 rfl<|Z6 _ (Z22 rfl (Shp.rd A0))<|Z7 rfl<|Z6 _ (Z22 rfl (Shp.rd A1))<|Z6 _ (iz e1 (Z9 rfl rfl rfl))<|Zg (Zj0 (E:=(El.int .u64)) rfl rfl rfl c1 fun v5 w1 O1=>Z7 rfl<|Z1<|Z0<|Z0<|Z2<|Z7 rfl<|Z6 _ (Z22 rfl (Shp.rd A0))<|Z7 rfl<|Z1<|jH h fun k1 q1 h=>Zm (G:=fun t m=>∃ (l1:LI) (v679:Value) (w2:List Zf),k1 l1=some r/\Z0m (El.int .u64) v679 w2 l1/\Fit [(5,v679)] (w2 ++ []) t m) ?_ ?_)
 ·refine Za<|Zp (fun n1 t m=>∃ (l2:LI) (i1:Int) (v1126:Value) (w3:List Zf),Z2f p0 p1 k1 n1 l2 i1=some r/\Z0m (El.int .u64) v1126 w3 l2/\Fit [(1,v1),(5,v1126),(20,v0),(21,.int .i64 ((p0.length:Int))),(22,.int .i64 (i1))] (w3 ++ []) t m) big ?_ ?_
  ·exact ⟨(replicate (z1).toNat 0:LI),0,v5,w1,h,O1,⟨⟨rfl,rfl,rfl,rfl,rfl,trivial⟩,(.all .here .nil)⟩⟩
  ·rintro n1 t m ⟨l2,i1,v1126,w3,h,O2,hF⟩
   refine Zk hF ?_
   clear hF
   rcases n1 with _ | n1
   · exact Z0a h
   have h:Z4q p0 p1 k1 (Z2f p0 p1 k1 n1) l2 i1=some r:=h
   unfold Z4q at h
   obtain ⟨k2,q2⟩ : ∃ k,k=Z2f p0 p1 k1 n1:=⟨_,rfl⟩
   try rw [<- q2] at h
   refine Z0<|Z2<|Z6 _ (Z9 rfl rfl rfl)<|Z1<|Z0<|Z02 h rfl (fun h=>?_) (fun h=>?_)
   ·refine Ze<|Z0<|Za<|Z0<|cH h fun c2 h=>bH h fun z2 e2 h=>Z2<|Z7 rfl<|Z6 _ (Z2t rfl rfl (Shp.rd A0) c2)<|Z6 _ (iz e2 (Z5e (E:=(El.int .u64)) (s:=[.one (.int .u64 (p0.getD (i1).toNat 0))]) rfl (Z0d A0 Z0h) (Z03 c2) rfl rfl))<|Z7 rfl<|Z7 rfl<|Z1<|Z0<|Z2<|Z7 rfl<|Z1<|Z0<|Z0<|Z2<|Z7 rfl<|Z6 _ (Z22 rfl (Shp.rd A1))<|Z7 rfl<|Z1<|jH h fun k3 q3 h=>Zm (G:=fun t m=>∃ (l3:LI) (i2:Int) (v1240:Value) (w4:List Zf),k3 l3 i2=some r/\Z0m (El.int .u64) v1240 w4 l3/\Fit [(1,v1),(5,v1240),(6,.int .i64 (i1)),(8,.int .u64 (i2)),(20,v0),(21,.int .i64 ((p0.length:Int))),(22,.int .i64 (i1))] (w4 ++ []) t m) ?_ ?_
    ·refine Za<|Zp (fun n2 t m=>∃ (l4:LI) (i3:Int) (i4:Int) (v1309:Value) (w5:List Zf),Z2g p1 i1 z2 k3 n2 l4 i3 i4=some r/\Z0m (El.int .u64) v1309 w5 l4/\Fit [(1,v1),(5,v1309),(6,.int .i64 (i1)),(7,.int .u64 (z2)),(8,.int .u64 (i3)),(20,v0),(21,.int .i64 ((p0.length:Int))),(22,.int .i64 (i1)),(27,v1),(28,.int .i64 ((p1.length:Int))),(29,.int .i64 (i4))] (w5 ++ []) t m) big ?_ ?_
     ·exact ⟨l2,0,0,v1126,w3,h,O2,⟨⟨rfl,rfl,rfl,rfl,rfl,rfl,rfl,rfl,rfl,rfl,rfl,trivial⟩,(.all .here .nil)⟩⟩
     ·rintro n2 t m ⟨l4,i3,i4,v1309,w5,h,O3,hF⟩
      refine Zk hF ?_
      clear hF
      rcases n2 with _ | n2
      · exact Z0a h
      have h:Z4r p1 i1 z2 k3 (Z2g p1 i1 z2 k3 n2) l4 i3 i4=some r:=h
      unfold Z4r at h
      obtain ⟨k4,q4⟩ : ∃ k,k=Z2g p1 i1 z2 k3 n2:=⟨_,rfl⟩
      try rw [<- q4] at h
      refine Z0<|Z2<|Z6 _ (Z9 rfl rfl rfl)<|Z1<|Z0<|Z02 h rfl (fun h=>?_) (fun h=>?_)
      ·refine Ze<|Z0<|Za<|Z0<|cH h fun c3 h=>bH h fun z3 e3 h=>Z2<|Z7 rfl<|Z6 _ (Z2t rfl rfl (Shp.rd A1) c3)<|Z6 _ (iz e3 (Z5e (E:=(El.int .u64)) (s:=[.one (.int .u64 (p1.getD (i4).toNat 0))]) rfl (Z0d A1 Z0h) (Z03 c3) rfl rfl))<|Z7 rfl<|Z7 rfl<|Z1<|Z0<|oH h fun y1 f1 h=>Z2<|Z7 rfl<|Z7 rfl<|Z6 _ (Z0b rfl (Zb5 f1))<|Z7 rfl<|Z6 _ (Z2i rfl rfl)<|Z6 _ (Z2i rfl rfl)<|Z7 rfl<|Z7 rfl<|Z1<|Z0<|bH h fun z4 e4 h=>cH h fun c4 h=>bH h fun z5 e5 h=>cH h fun c5 h=>bH h fun z6 e6 h=>bH h fun z7 e7 h=>Z2<|Z7 rfl<|Z7 rfl<|Z7 rfl<|Z7 rfl<|Z6 _ (iz e4 (Z9 rfl rfl rfl))<|Z6 _ (Z2t rfl rfl (Shp.own O3) c4)<|Z6 _ (iz e5 (Z5e (E:=(El.int .u64)) (s:=[.one (.int .u64 (l4.getD (z4).toNat 0))]) rfl (Z0f O3 .here) (Z03 c4) rfl rfl))<|Z6 _ (Zft rfl Zhb (xadd e6 e7 c5))<|Z7 rfl<|Z6 _ (Z2i rfl rfl)<|Z6 _ (Z2i rfl rfl)<|Z7 rfl<|Z7 rfl<|Z1<|Z0<|bH h fun z8 e8 h=>Z2<|Z7 rfl<|Z7 rfl<|Z6 _ (iz e8 (Z9 rfl rfl rfl))<|Z7 rfl<|Z1<|Z0<|cH h fun c6 h=>bH h fun z9 e9 h=>bH h fun z10 e10 h=>Z2<|Z7 rfl<|Z7 rfl<|Z6 _ (Zft rfl Zhb (xadd e9 e10 c6))<|Z7 rfl<|Z6 _ (Z2i rfl rfl)<|Z6 _ (Z2i rfl rfl)<|Z7 rfl<|Z7 rfl<|Z1<|bH h fun z11 e11 h=>bH h fun z12 e12 h=>cH h fun c7 h=>bH h fun l5 g1 h=>Z2<|Z7 rfl<|Z7 rfl<|Z7 rfl<|Z6 _ (iz e11 (Z9 rfl rfl rfl))<|Z7 rfl<|Z7 rfl<|Z7 rfl<|Z6 _ (iz e12 (Z9 rfl rfl rfl))<|Z6 _ (Z2t rfl rfl (Shp.own O3) c7)<|Zg (Zhz (E:=(El.int .u64)) g1 O3 .here rfl rfl rfl (Z03 c7) fun w6 O4=>Z7 rfl<|Z1<|bH h fun z13 e13 h=>Z2<|Z6 _ (iz e13 (Z9 rfl rfl rfl))<|Z7 rfl<|Z1 ?_)
       rw [q4] at h
       exact ⟨n2,Nat.lt_succ_self _,l5,z12,z13,v1309,w6,h,O4,⟨⟨rfl,rfl,rfl,rfl,rfl,rfl,rfl,rfl,rfl,rfl,rfl,trivial⟩,(.all .here .nil)⟩⟩
      ·exact Zx _ rfl<|⟨l4,i3,v1309,w5,h,O3,⟨⟨rfl,rfl,rfl,rfl,rfl,rfl,rfl,trivial⟩,(.all .here .nil)⟩⟩
    ·rintro t m ⟨l3,i2,v1240,w4,h,O5,hF⟩
     refine Zk hF ?_
     clear hF
     subst q3
     refine bH h fun z14 e14 h=>cH h fun c8 h=>bH h fun l6 g2 h=>Z2<|Z7 rfl<|Z7 rfl<|Z7 rfl<|Z6 _ (Z22 rfl (Shp.rd A1))<|Z6 _ (iz e14 (Z9 rfl rfl rfl))<|Z7 rfl<|Z6 _ (Z2t rfl rfl (Shp.own O5) c8)<|Zg (Zhz (E:=(El.int .u64)) g2 O5 .here rfl rfl rfl (Z03 c8) fun w7 O6=>Z1<|bH h fun z15 e15 h=>Z2<|Z6 _ (iz e15 (Z9 rfl rfl rfl))<|Z7 rfl<|Z1 ?_)
     rw [q2] at h
     exact ⟨n1,Nat.lt_succ_self _,l6,z15,v1240,w7,h,O6,⟨⟨rfl,rfl,rfl,rfl,rfl,trivial⟩,(.all .here .nil)⟩⟩
   ·exact Zx _ rfl<|⟨l2,v1126,w3,h,O2,⟨⟨rfl,trivial⟩,(.all .here .nil)⟩⟩
 ·rintro t m ⟨l1,v679,w2,h,O7,hF⟩
  refine Zk hF ?_
  clear hF
  subst q1
  refine Z0<|Z2<|Z7 rfl<|Z7 rfl<|Z1<|Zi ?_
  revert h; refine Zt fun h=>?_
  subst h
  exact ⟨_,_,(.cons (.tmp rfl) .nil),(.all .here .nil),⟨_,rfl,⟨v679,w2,rfl,rfl,O7⟩⟩⟩
def Z2q (p0:LI) (k1:(LI)->Option ((LI)×(LI))) (k2:(LI)->Int->Option ((LI)×(LI))) (l1:LI) (i1:Int):Option ((LI)×(LI)) :=
 br ((decide (i1<(p0.length:Int)))) (
 chk (inB i1 p0.length) <|
 bnd (p0.getD (i1).toNat 0) fun z1 =>
 bnd (Zq .u64 z1 60) fun z2 =>
 bnd (wrap .i64 (i1+1)) fun z3 =>
 jn (fun (i2:Int)=>chk (decide ((l1.length+([i2]:LI).length)*8<=140737488355328)) <|
 bnd (l1++([i2]:LI)) fun l2 =>
 bnd (wrap .i64 (i1+1)) fun z4 =>
 k2 l2 z4) fun k3=>br ((decide (z3<(p0.length:Int)))) (
 bnd (wrap .i64 (i1+1)) fun z5 =>
 chk (inB z5 p0.length) <|
 bnd (p0.getD (z5).toNat 0) fun z6 =>
 bnd (Zl .u64 z6 4) fun z7 =>
 bnd (Z4 .or .u64 z2 z7) fun z8 =>
 k3 z8
 ) (
 k3 z2
 )
 ) (
 k1 l1
 )
def Z1i (p0:LI) (k1:(LI)->Option ((LI)×(LI))):Nat->(LI)->Int->Option ((LI)×(LI))
  | 0,_,_=>none
  | n+1,l1,i1=>Z2q p0 k1 (Z1i p0 k1 n) l1 i1
def Z62 (p0:LI):Option ((LI)×(LI)) :=
 bnd (wr (replicate 4 0) 0 (p0.take 4)) fun l1 =>
 bnd (l1.getD 3 0) fun z1 =>
 bnd (Z4 .and .u64 z1 1152921504606846975) fun z2 =>
 bnd (Z2u l1 3 z2) fun l2 =>
 jn (fun (l3:LI)=>some (l2,l3)) fun k1=>Z1i p0 k1 big [] 3
theorem Zjq {W:World} {r:(LI)×(LI)} {p0:LI} {v0:Value} (h:Z62 p0=some r) (A0:RdSl (El.int .u64) W v0 p0) :
    Calls Tryz.prog 205 [v0].toArray W (Zc6 W [] (fun v Ms=>∃ (u1:Value) (M1:List Zf),v = .tuple #[agg [.ints .u64 4 (r.1)],u1]/\Ms = [.all M1]/\Z0m (El.int .u64) u1 M1 r.2)):=by
 unfold Z62 at h
 refine Z04 mo Z0p0 rfl (Zh8 _) ?_
 refine Z0<|Z2<|Zg (Zv fun b1 hb1=>Z7 rfl<|Z1<|Z0<|Z2<|Zg (Zv fun b2 hb2=>Z1<|Z0<|bH h fun l1 g1 h=>Z2<|Z6 _ (Ze8 rfl .no .no .no (by simp) (by decide))<|Z7 rfl<|Zg (Zol (q:=[.ints .u64 4 (l1)]) (lo:=0) (hi:=4) (mz:=4) (base:=0) (cpy0 g1) rfl rfl (Z0d A0 Z0h) rfl (by decide) rfl .here<|Z1<|Z0<|bH h fun z1 e1 h=>bH h fun z2 e2 h=>bH h fun l2 g2 h=>Z2<|Z6 _ (Z1s rfl rfl (by decide))<|Z6 _ (iz e1 (Z1y rfl .here rfl))<|Z6 _ (iz e2 (Z9 rfl rfl rfl))<|Z6 _ (Z1s rfl rfl (by decide))<|Zg (Z85 (q:=[.ints .u64 4 (l2)]) (congrArg (fun z=>([.ints .u64 4 (z)]:List Seg)) g2.symm) rfl rfl rfl rfl .here<|Z1<|Z0<|Z2<|Z7 rfl<|Z1<|Z0<|Z0<|Z2<|Z7 rfl<|Z1<|jH h fun k1 q1 h=>Zm (G:=fun t m=>∃ (l3:LI) (v126:Value) (w1:List Zf),k1 l3=some r/\Z0m (El.int .u64) v126 w1 l3/\Fit [(2,pt' b1),(4,pt' b2),(5,v126)] (ck b2 162 [.ints .u64 4 (l2)]::(ck b1 162 [.ints .u64 4 ((replicate 4 0))]::(w1 ++ []))) t m) ?_ ?_))))
 ·refine Za<|Zp (fun n1 t m=>∃ (l4:LI) (i1:Int) (v202:Value) (w2:List Zf),Z1i p0 k1 n1 l4 i1=some r/\Z0m (El.int .u64) v202 w2 l4/\Fit [(0,v0),(2,pt' b1),(4,pt' b2),(5,v202),(6,.int .i64 (i1))] (ck b2 162 [.ints .u64 4 (l2)]::(ck b1 162 [.ints .u64 4 ((replicate 4 0))]::(w2 ++ []))) t m) big ?_ ?_
  ·exact ⟨[],3,(.slice none 0 0),[],h,Z39,⟨⟨rfl,rfl,rfl,rfl,rfl,trivial⟩,(.o (.o (.no .nil)))⟩⟩
  ·rintro n1 t m ⟨l4,i1,v202,w2,h,O1,hF⟩
   refine Zk hF ?_
   clear hF
   rcases n1 with _ | n1
   · exact Z0a h
   have h:Z2q p0 k1 (Z1i p0 k1 n1) l4 i1=some r:=h
   unfold Z2q at h
   obtain ⟨k2,q2⟩ : ∃ k,k=Z1i p0 k1 n1:=⟨_,rfl⟩
   try rw [<- q2] at h
   refine Z0<|Z0<|Z2<|Z7 rfl<|Z7 rfl<|Z6 _ (Z22 rfl (Shp.rd A0))<|Z6 _ (Z9 rfl rfl rfl)<|Z1<|Z02 h rfl (fun h=>?_) (fun h=>?_)
   ·refine Ze<|Z0<|Za<|Z0<|cH h fun c1 h=>bH h fun z3 e3 h=>bH h fun z4 e4 h=>Z2<|Z7 rfl<|Z7 rfl<|Z6 _ (Z2t rfl rfl (Shp.rd A0) c1)<|Z6 _ (iz e3 (Z5e (E:=(El.int .u64)) (s:=[.one (.int .u64 (p0.getD (i1).toNat 0))]) rfl (Z0d A0 Z0h) (Z03 c1) rfl rfl))<|Z6 _ (iz e4 (Z5g rfl rfl (by decide)))<|Z7 rfl<|Z1<|Z0<|Z0<|bH h fun z5 e5 h=>Z2<|Z7 rfl<|Z6 _ (iz e5 (Z9 rfl rfl rfl))<|Z7 rfl<|Z6 _ (Z22 rfl (Shp.rd A0))<|Z6 _ (Z9 rfl rfl rfl)<|Z1<|jH h fun k3 q3 h=>Zm (G:=fun t m=>∃ (i2:Int),k3 i2=some r/\Fit [(0,v0),(2,pt' b1),(4,pt' b2),(5,v202),(6,.int .i64 (i1)),(7,.int .u64 (i2))] (ck b2 162 [.ints .u64 4 (l2)]::(ck b1 162 [.ints .u64 4 ((replicate 4 0))]::(w2 ++ []))) t m) ?_ ?_
    ·refine Z02 h rfl (fun h=>?_) (fun h=>?_)
     ·exact bH h fun z6 e6 h=>cH h fun c2 h=>bH h fun z7 e7 h=>bH h fun z8 e8 h=>bH h fun z9 e9 h=>Z2<|Z7 rfl<|Z7 rfl<|Z7 rfl<|Z6 _ (iz e6 (Z9 rfl rfl rfl))<|Z6 _ (Z2t rfl rfl (Shp.rd A0) c2)<|Z6 _ (iz e7 (Z5e (E:=(El.int .u64)) (s:=[.one (.int .u64 (p0.getD (z6).toNat 0))]) rfl (Z0d A0 Z0h) (Z03 c2) rfl rfl))<|Z6 _ (iz e8 (Zkk rfl rfl (by decide)))<|Z6 _ (iz e9 (Z9 rfl rfl rfl))<|Z7 rfl<|Z1<|⟨z9,h,⟨⟨rfl,rfl,rfl,rfl,rfl,rfl,trivial⟩,(.o (.o (.all .here .nil)))⟩⟩
     ·exact Ze<|⟨z4,h,⟨⟨rfl,rfl,rfl,rfl,rfl,rfl,trivial⟩,(.o (.o (.all .here .nil)))⟩⟩
    ·rintro t m ⟨i2,h,hF⟩
     refine Zk hF ?_
     clear hF
     subst q3
     refine cH h fun c3 h=>bH h fun l5 g3 h=>Z2<|Z7 rfl<|Z7 rfl<|Zg (Z5m (E:=(El.int .u64)) (xs:=[i2]) (.one rfl rfl rfl BdR.nil) (.cons (p:=[.one (.int .u64 (i2))]) rfl .nil) rfl fun v234 w3 O2=>Zg (Z38 (E:=(El.int .u64)) g3 rfl O1 (.app .t2) rfl (Z0f O2 .here) c3 fun v239 w4 O3=>Z7 rfl<|Z1<|bH h fun z10 e10 h=>Z2<|Z7 rfl<|Z6 _ (iz e10 (Z9 rfl rfl rfl))<|Z7 rfl<|Z1 ?_))
     rw [q2] at h
     exact ⟨n1,Nat.lt_succ_self _,l5,z10,v239,w4,h,O3,⟨⟨rfl,rfl,rfl,rfl,rfl,trivial⟩,(.one (.app (.app .here)) (.one (.app (.app .here)) (.all .here .nil)))⟩⟩
   ·exact Zx _ rfl<|⟨l4,v202,w2,h,O1,⟨⟨rfl,rfl,rfl,trivial⟩,(.o (.o (.all .here .nil)))⟩⟩
 ·rintro t m ⟨l3,v126,w1,h,O4,hF⟩
  refine Zk hF ?_
  clear hF
  subst q1
  refine Z0<|Z2<|Z6 _ (Zy (p:=[.ints .u64 4 (l2)]) rfl .here rfl)<|Z7 rfl<|Zg (Zs (q:=[.ints .u64 4 (l2)]) rfl rfl rfl rfl rfl .t1<|Z7 rfl<|Z1<|Zi ?_)
  revert h; refine Zt fun h=>?_
  subst h
  exact ⟨_,_,(.cons (.agg rfl .t1 rfl) (.cons (.tmp rfl) .nil)),(.all .t2 .nil),⟨_,rfl,⟨v126,w1,rfl,rfl,O4⟩⟩⟩
def Zc1:OL :=
 some ([6346243789798364141,1503914060200516822]:LI)
theorem Zkm {W:World} {r:(LI)} (h:Zc1=some r)  :
    Calls Tryz.prog 206 [].toArray W (Zc6 W [] (fun v Ms=>∃ (u0:Value) (M1:List Zf),v=u0/\Ms = [.all M1]/\Z0m (El.int .u64) u0 M1 r)):=by
 unfold Zc1 at h
 refine Z04 mo Z0p1 rfl (Zh8 _) ?_
 refine Z0<|Z2<|Z7 rfl<|Z1<|Z0<|Z2<|Zg (Z5m (E:=(El.int .u64)) (xs:=[6346243789798364141,1503914060200516822]) (.one rfl rfl rfl (.one rfl rfl rfl BdR.nil)) (.cons (p:=[.one (.int .u64 (6346243789798364141))]) rfl (.cons (p:=[.one (.int .u64 (1503914060200516822))]) rfl .nil)) rfl fun v3 w1 O1=>Z7 rfl<|Z1<|Zi ?_)
 revert h; refine Zt fun h=>?_
 subst h
 exact ⟨_,_,(.cons (.tmp rfl) .nil),(.all .here .nil),⟨_,rfl,⟨v3,w1,rfl,rfl,O1⟩⟩⟩
abbrev Z5j:El (LI):=⟨4,fun x=>cells [.ints .u64 4 (x)],fun x=>by rw [cells_length]; rfl,fun x=>(Z30 Z6z Z82),by decide,(replicate 4 0)⟩
def Z4b (k1:(List (LI))->OL) (k2:(LI)->Int->(List (LI))->OL) (l1:LI) (i1:Int) (a1:List (LI)):OL :=
 br ((decide (i1<4))) (
 opt (Z62 l1) fun y1 =>
 bnd (Int.tmod i1 2) fun z1 =>
 bnd (Int.tmod i1 2) fun z2 =>
 chk (inB z2 2) <|
 bnd (a1.getD (z2).toNat (replicate 4 0)) fun x1 =>
 opt (Z69 x1 y1.1) fun y2 =>
 chk (inB z1 2) <|
 bnd (Zdu (replicate 4 0) a1 (z1).toNat y2.1) fun l2 =>
 opt (Zc1 ) fun y3 =>
 opt (Z7c y1.2 y3) fun y4 =>
 bnd (wrap .i64 (i1+1)) fun z3 =>
 k2 y4 z3 l2
 ) (
 k1 a1
 )
def Z1g (k1:(List (LI))->OL):Nat->(LI)->Int->(List (LI))->OL
  | 0,_,_,_=>none
  | n+1,l1,i1,a1=>Z4b k1 (Z1g k1 n) l1 i1 a1
def Z6a (p0:LI):OL :=
 jn (fun (a1:List (LI))=>opt (Z69 G_order G_order) fun y1 =>
 bnd (a1.getD 0 (replicate 4 0)) fun x1 =>
 opt (Z69 x1 y1.1) fun y2 =>
 bnd (a1.getD 1 (replicate 4 0)) fun x2 =>
 opt (Z61 y2.1 x2) fun y3 =>
 opt (Z8w y3.1) fun y4 =>
 some y4) fun k1=>Z1g k1 big p0 0 (replicate 2 (replicate 4 0))
theorem Zin {W:World} {r:(LI)} {p0:LI} {v0:Value} (h:Z6a p0=some r) (hG:Globs W) (A0:RdSl (El.int .u64) W v0 p0) :
    Calls Tryz.prog 162 [v0].toArray W (Z36 W (agg [.ints .u64 4 (r)])):=by
 unfold Z6a at h
 refine Zc mo Z0nz rfl ?_
 refine Z0<|Z2<|Zg (Zv fun b1 u1=>Z1<|Z0<|Z2<|Zg (Zgy (z':=[.rows 4 2 (Z90 Z5j ((replicate 2 (replicate 4 0))))]) (Za8 (E:=Z5j) rfl rfl) fun b2 u2=>Z1<|Z0<|Z0<|Z2<|Z7 rfl<|Z1<|jH h fun k1 q1 h=>Zm (G:=fun t m=>∃ (a1:List (LI)),k1 a1=some r/\Fit [(2,pt' b1),(3,pt' b2)] (ck b2 229 [.rows 4 2 (Z90 Z5j (a1))]::(ck b1 162 [.ints .u64 4 ((replicate 4 0))] :: [])) t m) ?_ ?_))
 ·refine Za<|Zp (fun n1 t m=>∃ (l1:LI) (i1:Int) (a2:List (LI)) (v194:Value) (w1:List Zf),Z1g k1 n1 l1 i1 a2=some r/\Zit (⟨Tryz.prog,d162.n,W,[]⟩:Cfg) w1 (El.int .u64) v194 l1/\Shp v194 l1.length/\Fit [(0,v194),(2,pt' b1),(3,pt' b2),(10,.int .i64 (i1))] (ck b2 229 [.rows 4 2 (Z90 Z5j (a2))]::(ck b1 162 [.ints .u64 4 ((replicate 4 0))]::(w1 ++ []))) t m) big ?_ ?_
  ·exact ⟨p0,0,(replicate 2 (replicate 4 0)),v0,[],h,(Z0d A0 Z0h),(Shp.rd A0),⟨⟨rfl,rfl,rfl,rfl,trivial⟩,(.o (.o (.no .nil)))⟩⟩
  ·rintro n1 t m ⟨l1,i1,a2,v194,w1,h,H197,Z198,hF⟩
   refine Zk hF ?_
   clear hF
   rcases n1 with _ | n1
   · exact Z0a h
   have h:Z4b k1 (Z1g k1 n1) l1 i1 a2=some r:=h
   unfold Z4b at h
   obtain ⟨k2,q2⟩ : ∃ k,k=Z1g k1 n1:=⟨_,rfl⟩
   try rw [<- q2] at h
   refine Z0<|Z2<|Z6 _ (Z9 rfl rfl rfl)<|Z1<|Z0<|Z02 h rfl (fun h=>?_) (fun h=>?_)
   ·refine Ze<|Z0<|Za<|Z0<|Z2<|Z7 rfl<|Z7 rfl<|Z1<|Z0<|Z2<|Zg (Zv fun b3 u3=>Z1<|Z0<|oH h fun y1 f1 h=>Z2<|Z7 rfl<|Zg (Z06 rfl (fun w hw=>Zjq (r:=y1) (p0:=l1) f1 ((Z0s2 H197 .t3) w hw)) fun v210 Msv1 R1=>?_))
    obtain ⟨v212,w2,rfl,rfl,O1⟩:=R1
    refine Z7 rfl<|Z6 _ (Z2i rfl rfl)<|Z6 _ (Z2i rfl rfl)<|Zg (Zs (q:=[.ints .u64 4 (y1.1)]) rfl rfl rfl rfl rfl (.app .here)<|Z7 rfl<|Z1<|Z0<|bH h fun z1 e1 h=>bH h fun z2 e2 h=>cH h fun c1 h=>bH h fun x1 j1 h=>oH h fun y2 f2 h=>cH h fun c2 h=>bH h fun l2 g1 h=>Zr<|Z8 _ (Z0u rfl)<|Z8 _ (iz e1 (Zdl rfl rfl (by decide)))<|Z8 _ (Z0u rfl)<|Z8 _ (iz e2 (Zdl rfl rfl (by decide)))<|Z8 _ (Z1s rfl rfl (Z0j c1))<|Zn _ (az (fun x1=>agg [.ints .u64 4 (x1)]) j1 (Zm7 (base:=0) (w:=4) rfl (.app .t1) rfl (Z03 c1) rfl rfl rfl))<|Zn _ (Zy (p:=[.ints .u64 4 (y1.1)]) rfl (.app .here) rfl)<|Z8 _ (Z0p (vs:=[agg [.ints .u64 4 (x1)],agg [.ints .u64 4 (y1.1)]]) (v:=.tuple #[agg [.ints .u64 4 (y2.1)],.int .u64 (y2.2)]) rfl (fun w hw=>Zb1 (r:=y2) (p0:=x1) (p1:=y1.1) f2 ))<|Z8 _ (Z0u rfl)<|Z8 _ (Z2i rfl rfl)<|Z8 _ (Z2i rfl rfl)<|Z8 _ (Z1s rfl rfl (Z0j c2))<|Z1z rfl (Zlg (q:=[.rows 4 2 (Z90 Z5j (l2))]) (E:=Z5j) (base:=0) g1 rfl rfl rfl rfl (Z03 c2) rfl (.app .t1)<|Z00<|oH h fun y3 f3 h=>oH h fun y4 f4 h=>Z2<|Z7 rfl<|Zg (Z06 rfl (fun w hw=>Zkm (r:=y3) f3 ) fun v225 Msv2 R2=>?_)))
    obtain ⟨_,w3,rfl,rfl,O2⟩:=R2
    refine Zg (Z06 rfl (fun w hw=>Zjs (r:=y4) (p0:=y1.2) (p1:=y3) f4 ((Z0f O1 (.app .here)) w hw) ((Z0f O2 .here) w hw)) fun v231 Msv3 R3=>?_)
    obtain ⟨_,w4,rfl,rfl,O3⟩:=R3
    refine Z7 rfl<|Z1<|bH h fun z3 e3 h=>Z2<|Z6 _ (iz e3 (Z9 rfl rfl rfl))<|Z7 rfl<|Z1 ?_
    rw [q2] at h
    exact ⟨n1,Nat.lt_succ_self _,y4,z3,l2,v231,w4,h,(Z07h O3),(Shp.own O3),⟨⟨rfl,rfl,rfl,rfl,trivial⟩,(.one (.app (.app (.app .t1))) (.one (.app (.app (.app .t1))) (.all .here .nil)))⟩⟩
   ·exact Zx _ rfl<|⟨a2,h,⟨⟨rfl,rfl,trivial⟩,(.o (.o .nil))⟩⟩
 ·rintro t m ⟨a1,h,hF⟩
  refine Zk hF ?_
  clear hF
  subst q1
  refine Z0<|oH h fun y5 f5 h=>Z2<|Z6 _ (Zsu (o0:=0) (off:=0) rfl (hG.g1) (by simp) rfl)<|Z6 _ (Zsu (o0:=0) (off:=0) rfl (hG.g1) (by simp) rfl)<|Z6 _ (Z0p (vs:=[agg [.ints .u64 4 (G_order)],agg [.ints .u64 4 (G_order)]]) (v:=.tuple #[agg [.ints .u64 4 (y5.1)],.int .u64 (y5.2)]) rfl (fun w hw=>Zb1 (r:=y5) (p0:=G_order) (p1:=G_order) f5 ))<|Z7 rfl<|Z6 _ (Z2i rfl rfl)<|Z6 _ (Z2i rfl rfl)<|Zg (Zv fun b4 u4=>Zg (Zs (q:=[.ints .u64 4 (y5.1)]) rfl rfl rfl rfl rfl .here<|Z7 rfl<|Z1<|Z0<|bH h fun x2 j2 h=>oH h fun y6 f6 h=>Z2<|Z6 _ (Z1s rfl rfl (by decide))<|Z6 _ (az (fun x2=>agg [.ints .u64 4 (x2)]) j2 (Z06w (base:=0) (i:=0) (c:=0) (w:=4) (len:=2) rfl .t1 rfl (by decide) rfl rfl rfl))<|Z6 _ (Zy (p:=[.ints .u64 4 (y5.1)]) rfl .here rfl)<|Z6 _ (Z0p (vs:=[agg [.ints .u64 4 (x2)],agg [.ints .u64 4 (y5.1)]]) (v:=.tuple #[agg [.ints .u64 4 (y6.1)],.int .u64 (y6.2)]) rfl (fun w hw=>Zb1 (r:=y6) (p0:=x2) (p1:=y5.1) f6 ))<|Z7 rfl<|Z6 _ (Z2i rfl rfl)<|Z6 _ (Z2i rfl rfl)<|Zg (Zv fun b5 u5=>Zg (Zs (q:=[.ints .u64 4 (y6.1)]) rfl rfl rfl rfl rfl .here<|Z7 rfl<|Z1<|Z0<|bH h fun x3 j3 h=>oH h fun y7 f7 h=>Z2<|Z6 _ (Zy (p:=[.ints .u64 4 (y6.1)]) rfl .here rfl)<|Z6 _ (Z1s rfl rfl (by decide))<|Z6 _ (az (fun x3=>agg [.ints .u64 4 (x3)]) j3 (Z06w (base:=0) (i:=1) (c:=0) (w:=4) (len:=2) rfl .t2 rfl (by decide) rfl rfl rfl))<|Z6 _ (Z0p (vs:=[agg [.ints .u64 4 (y6.1)],agg [.ints .u64 4 (x3)]]) (v:=.tuple #[agg [.ints .u64 4 (y7.1)],.int .u64 (y7.2)]) rfl (fun w hw=>Za2 (r:=y7) (p0:=y6.1) (p1:=x3) f7 ))<|Z7 rfl<|Z6 _ (Z2i rfl rfl)<|Z6 _ (Z2i rfl rfl)<|Zg (Zs (q:=[.ints .u64 4 (y7.1)]) rfl rfl rfl rfl rfl .here<|Z1<|Z0<|oH h fun y8 f8 h=>Z2<|Z6 _ (Zy (p:=[.ints .u64 4 (y7.1)]) rfl .here rfl)<|Z6 _ (Z0p (vs:=[agg [.ints .u64 4 (y7.1)]]) (v:=agg [.ints .u64 4 (y8)]) rfl (fun w hw=>Zjp (r:=y8) (p0:=y7.1) f8 (hG.at hw (by simp))))<|Zg (Zs (q:=[.ints .u64 4 (y8)]) rfl rfl rfl rfl rfl .t3<|Z1<|Zi ?_))))))
  revert h; refine Zt fun h=>?_
  subst h
  exact ⟨_,(.cons (.agg rfl .t3 rfl) .nil),rfl⟩
def Zb0 (p0:LI) (k1:(LI)->OL) (k2:Int->(LI)->OL) (i1:Int) (a1:LI):OL :=
 br ((decide (i1<8))) (
 bnd (wrap .i64 (8*i1)) fun z1 =>
 opt (Z6p (tk p0 0 64) z1) fun y1 =>
 chk (inB i1 8) <|
 bnd (Z2u a1 (i1).toNat y1.1) fun l1 =>
 bnd (wrap .i64 (i1+1)) fun z2 =>
 k2 z2 l1
 ) (
 k1 a1
 )
def Z50 (p0:LI) (k1:(LI)->OL):Nat->Int->(LI)->OL
  | 0,_,_=>none
  | n+1,i1,a1=>Zb0 p0 k1 (Z50 p0 k1 n) i1 a1
def Z4g (p0:LI):OL :=
 jn (fun (a1:LI)=>opt (Z6a (tk a1 0 8)) fun y1 =>
 opt (Z8x y1) fun y2 =>
 some y2) fun k1=>Z50 p0 k1 big 0 (replicate 8 0)
theorem Zim {W:World} {r:(LI)} {p0:LI} (h:Z4g p0=some r) (hG:Globs W) :
    Calls Tryz.prog 98 [agg [b6' p0]].toArray W (Z36 W (agg [b3' r])):=by
 unfold Z4g at h
 refine Zc mo ok98 rfl ?_
 refine Z0<|Z2<|Zg (Z0k (s:=[b6' p0]) rfl fun b1 u1=>Zg (Zv fun b2 u2=>Z1<|Z0<|Z2<|Zg (Zv fun b3 u3=>Z1<|Z0<|Z0<|Z2<|Z7 rfl<|Z1<|jH h fun k1 q1 h=>Zm (G:=fun t m=>∃ (a1:LI),k1 a1=some r/\Fit [(2,pt' b2),(3,pt' b3)] (ck b3 144 [u8' a1]::(ck b2 74 [b3' (replicate 32 0)]::(ck b1 94 [b6' p0] :: []))) t m) ?_ ?_)))
 ·refine Za<|Zp (fun n1 t m=>∃ (i1:Int) (a2:LI),Z50 p0 k1 n1 i1 a2=some r/\Fit [(1,pt' b1),(2,pt' b2),(3,pt' b3),(5,.int .i64 (i1))] (ck b3 144 [u8' a2]::(ck b2 74 [b3' (replicate 32 0)]::(ck b1 94 [b6' p0] :: []))) t m) big ?_ ?_
  ·exact ⟨0,(replicate 8 0),h,⟨⟨rfl,rfl,rfl,rfl,trivial⟩,(.o (.o (.o .nil)))⟩⟩
  ·rintro n1 t m ⟨i1,a2,h,hF⟩
   refine Zk hF ?_
   clear hF
   rcases n1 with _ | n1
   · exact Z0a h
   have h:Zb0 p0 k1 (Z50 p0 k1 n1) i1 a2=some r:=h
   unfold Zb0 at h
   obtain ⟨k2,q2⟩ : ∃ k,k=Z50 p0 k1 n1:=⟨_,rfl⟩
   try rw [<- q2] at h
   refine Z0<|Z2<|Z6 _ (Z9 rfl rfl rfl)<|Z1<|Z0<|Z02 h rfl (fun h=>?_) (fun h=>?_)
   ·refine Ze<|Z0<|Za<|Z0<|Z2<|Z7 rfl<|Z7 rfl<|Z1<|bH h fun z1 e1 h=>oH h fun y1 f1 h=>cH h fun c1 h=>bH h fun l1 g1 h=>Z2<|Z7 rfl<|Z6 _ (Ze8 rfl .no .no .no (by simp) (by decide))<|Z7 rfl<|Z6 _ (iz e1 (Z9 rfl rfl rfl))<|Z6 _ (Z0p rfl (fun w hw=>Z92 f1 ((Z3q (s:=[b6' p0]) (N:=64) (k:=.u8) (base:=0) (lo:=0) (hi:=64) (mz:=64) .t2 rfl (by decide)) w hw)))<|Z7 rfl<|Z6 _ (Z2i rfl rfl)<|Z6 _ (Z2i rfl rfl)<|Z6 _ (Z1s rfl rfl (Z0j c1))<|Zg (Z2l (q:=[u8' l1]) (base:=0) g1 rfl rfl rfl (Z03 c1) rfl .here<|Z1<|bH h fun z2 e2 h=>Z2<|Z6 _ (iz e2 (Z9 rfl rfl rfl))<|Z7 rfl<|Z1 ?_)
    rw [q2] at h
    exact ⟨n1,Nat.lt_succ_self _,z2,l1,h,⟨⟨rfl,rfl,rfl,rfl,trivial⟩,(.o (.o (.o .nil)))⟩⟩
   ·exact Zx _ rfl<|⟨a2,h,⟨⟨rfl,rfl,trivial⟩,(.o (.o (.o .nil)))⟩⟩
 ·rintro t m ⟨a1,h,hF⟩
  refine Zk hF ?_
  clear hF
  subst q1
  refine Z0<|oH h fun y2 f2 h=>oH h fun y3 f3 h=>Z2<|Z6 _ (Ze8 rfl .no .no .no (by simp) (by decide))<|Z6 _ (Z0p rfl (fun w hw=>Zin f2 (hG.at hw (by simp)) ((Z3q (s:=[u8' a1]) (N:=8) (k:=.u64) (base:=0) (lo:=0) (hi:=8) (mz:=8) .here rfl (by decide)) w hw)))<|Z6 _ (Z0b rfl (Zjr f3))<|Zg (Zs (q:=[b3' y3]) rfl rfl rfl rfl rfl .t1<|Z1<|Zi ?_)
  revert h; refine Zt fun h=>?_
  subst h
  exact ⟨_,(.cons (.agg rfl .t1 rfl) .nil),rfl⟩
def Z7f (p0:List (LI)) (k1:(LI)->(LI)->Int->Int->OL) (k2:Int->(LI)->(LI)->Int->Int->OL) (i1:Int) (a1:LI) (a2:LI) (i2:Int) (i3:Int):OL :=
 br ((decide (i1<(p0.length:Int)))) (
 chk (inB i1 p0.length) <|
 opt (Z1r (⟨a1,a2,i2,i3⟩:Zu) (p0.getD (i1).toNat [])) fun y1 =>
 bnd (wrap .i64 (i1+1)) fun z1 =>
 k2 z1 y1.gstate y1.gheld y1.ghave y1.glength
 ) (
 k1 a1 a2 i2 i3
 )
def Z40 (p0:List (LI)) (k1:(LI)->(LI)->Int->Int->OL):Nat->Int->(LI)->(LI)->Int->Int->OL
  | 0,_,_,_,_,_=>none
  | n+1,i1,a1,a2,i2,i3=>Z7f p0 k1 (Z40 p0 k1 n) i1 a1 a2 i2 i3
def Z9i (p0:List (LI)):OL :=
 opt (Zdq ) fun y1 =>
 jn (fun (a1:LI) (a2:LI) (i1:Int) (i2:Int)=>opt (Z2v (⟨a1,a2,i1,i2⟩:Zu)) fun y2 =>
 opt (Z4g y2.1) fun y3 =>
 some y3) fun k1=>Z40 p0 k1 big 0 y1.gstate y1.gheld y1.ghave y1.glength
theorem Zcs {W:World} {r:(LI)} {p0:List (LI)} {v0:Value} {us0:List SlT} (h:Z9i p0=some r) (hG:Globs W) (A0:RdSl El.sl W v0 us0) (B0:Zhq (El.int .u8) W us0 p0) :
    Calls Tryz.prog 52 [v0].toArray W (Z36 W (agg [b3' r])):=by
 unfold Z9i at h
 refine Zc mo ok52 rfl ?_
 refine Z0<|Z2<|Zg (Zv fun b1 u1=>Z1<|Z0<|oH h fun y1 f1 h=>Z2<|Zg (Z06 rfl (fun w hw=>Zmg  f1 (hG.at hw (by simp))) fun v5 o1 R1=>?_))
 obtain ⟨b2,T8,rfl,rfl⟩:=R1
 refine Z7 rfl<|Z1<|Z0<|Z0<|Z2<|Z7 rfl<|Z6 _ ((Zxt (Z22 rfl (Shp.rd A0)) (Zhq.len B0)))<|Z7 rfl<|Z1<|jH h fun k1 q1 h=>Zm (G:=fun t m=>∃ (a1:LI) (a2:LI) (i1:Int) (i2:Int),k1 a1 a2 i1 i2=some r/\Fit [(2,pt' b1),(3,pt' b2)] (ck b2 T8 [u8' a1,.ints .u8 128 (a2),.one (.int .i64 (i1)),.one (.int .u64 (i2))]::(ck b1 74 [b3' (replicate 32 0)] :: [])) t m) ?_ ?_
 ·refine Za<|Zp (fun n1 t m=>∃ (i3:Int) (a3:LI) (a4:LI) (i4:Int) (i5:Int),Z40 p0 k1 n1 i3 a3 a4 i4 i5=some r/\Fit [(2,pt' b1),(3,pt' b2),(7,v0),(8,.int .i64 ((p0.length:Int))),(9,.int .i64 (i3))] (ck b2 T8 [u8' a3,.ints .u8 128 (a4),.one (.int .i64 (i4)),.one (.int .u64 (i5))]::(ck b1 74 [b3' (replicate 32 0)] :: [])) t m) big ?_ ?_
  ·exact ⟨0,y1.gstate,y1.gheld,y1.ghave,y1.glength,h,⟨⟨rfl,rfl,rfl,rfl,rfl,trivial⟩,(.o (.o .nil))⟩⟩
  ·rintro n1 t m ⟨i3,a3,a4,i4,i5,h,hF⟩
   refine Zk hF ?_
   clear hF
   rcases n1 with _ | n1
   · exact Z0a h
   have h:Z7f p0 k1 (Z40 p0 k1 n1) i3 a3 a4 i4 i5=some r:=h
   unfold Z7f at h
   obtain ⟨k2,q2⟩ : ∃ k,k=Z40 p0 k1 n1:=⟨_,rfl⟩
   try rw [<- q2] at h
   refine Z0<|Z2<|Z6 _ (Z9 rfl rfl rfl)<|Z1<|Z0<|Z02 h rfl (fun h=>?_) (fun h=>?_)
   ·refine Ze<|Z0<|Za<|Z0<|cH h fun c1 h=>Z2<|Z6 _ (Z2t rfl rfl (Shp.rd A0) (Zod B0 c1))<|Z6 _ (Z5e (E:=El.sl) (s:=[.one (slV (us0.getD (i3).toNat (none,0,0)))]) rfl (Z0d A0 Z0h) (Z03 (Zod B0 c1)) rfl rfl)<|Z7 rfl<|Z1<|oH h fun y2 f2 h=>Z2<|Z7 rfl<|Z7 rfl<|Zg (Z3l (mS:=[_]) rfl (Z34.perm .here) (fun w hw=>Z8z (p0:=(⟨a3,a4,i4,i5⟩:Zu)) f2 (Zcq hw (mS:=[_]) (Z34.perm .here)) (hG.at hw (by simp)) (hG.ap (by simp) .here hw) ⟨(Z0d (Zhq.get B0 _ (Z03 c1)) Z0h) w hw,(Zwn (E:=(El.int .u8)) (Zhq.get B0 _ (Z03 c1)) .here hw)⟩) fun v93 o2 R2=>?_)
    obtain ⟨rfl,rfl⟩:=R2
    refine Z1<|bH h fun z1 e1 h=>Z2<|Z6 _ (iz e1 (Z9 rfl rfl rfl))<|Z7 rfl<|Z1 ?_
    rw [q2] at h
    exact ⟨n1,Nat.lt_succ_self _,z1,y2.gstate,y2.gheld,y2.ghave,y2.glength,h,⟨⟨rfl,rfl,rfl,rfl,rfl,trivial⟩,(.o (.o .nil))⟩⟩
   ·exact Zx _ rfl<|⟨a3,a4,i4,i5,h,⟨⟨rfl,rfl,trivial⟩,(.o (.o .nil))⟩⟩
 ·rintro t m ⟨a1,a2,i1,i2,h,hF⟩
  refine Zk hF ?_
  clear hF
  subst q1
  refine Z0<|oH h fun y3 f3 h=>oH h fun y4 f4 h=>Z2<|Z7 rfl<|Zg (Z3l (mS:=[_]) rfl (Z34.perm .here) (fun w hw=>Zet (p0:=(⟨a1,a2,i1,i2⟩:Zu)) f3 (Zcq hw (mS:=[_]) (Z34.perm .here)) (hG.at hw (by simp)) (hG.ap (by simp) .here hw)) fun v99 o3 R3=>?_)
  obtain ⟨rfl,rfl⟩:=R3
  refine Z6 _ (Z0p rfl (fun w hw=>Zim f4 (hG.at hw (by simp))))<|Zg (Zs (q:=[b3' y4]) rfl rfl rfl rfl rfl .t1<|Z1<|Zi ?_)
  revert h; refine Zt fun h=>?_
  subst h
  exact ⟨_,(.cons (.agg rfl .t1 rfl) .nil),rfl⟩
def Zcr (p0:LI) (k1:(LI)->OL) (k2:Int->(LI)->OL) (i1:Int) (a1:LI):OL :=
 br ((decide (i1<4))) (
 bnd (wrap .i64 (8*i1)) fun z1 =>
 opt (Z6p (tk p0 0 32) z1) fun y1 =>
 chk (inB i1 4) <|
 bnd (Z2u a1 (i1).toNat y1.1) fun l1 =>
 bnd (wrap .i64 (i1+1)) fun z2 =>
 k2 z2 l1
 ) (
 k1 a1
 )
def Z7z (p0:LI) (k1:(LI)->OL):Nat->Int->(LI)->OL
  | 0,_,_=>none
  | n+1,i1,a1=>Zcr p0 k1 (Z7z p0 k1 n) i1 a1
def Za1 (p0:LI):OL :=
 jn (fun (a1:LI)=>some a1) fun k1=>Z7z p0 k1 big 0 (replicate 4 0)
theorem Zkl {W:World} {r:(LI)} {p0:LI} (h:Za1 p0=some r)  :
    Calls Tryz.prog 132 [agg [b3' p0]].toArray W (Z36 W (agg [.ints .u64 4 (r)])):=by
 unfold Za1 at h
 refine Zc mo Z0n6 rfl ?_
 refine Z0<|Z2<|Zg (Z0k (s:=[b3' p0]) rfl fun b1 u1=>Zg (Zv fun b2 u2=>Z1<|Z0<|Z2<|Zg (Zv fun b3 u3=>Z1<|Z0<|Z0<|Z2<|Z7 rfl<|Z1<|jH h fun k1 q1 h=>Zm (G:=fun t m=>∃ (a1:LI),k1 a1=some r/\Fit [(2,pt' b2),(3,pt' b3)] (ck b3 162 [.ints .u64 4 (a1)]::(ck b2 162 [.ints .u64 4 ((replicate 4 0))]::(ck b1 74 [b3' p0] :: []))) t m) ?_ ?_)))
 ·refine Za<|Zp (fun n1 t m=>∃ (i1:Int) (a2:LI),Z7z p0 k1 n1 i1 a2=some r/\Fit [(1,pt' b1),(2,pt' b2),(3,pt' b3),(5,.int .i64 (i1))] (ck b3 162 [.ints .u64 4 (a2)]::(ck b2 162 [.ints .u64 4 ((replicate 4 0))]::(ck b1 74 [b3' p0] :: []))) t m) big ?_ ?_
  ·exact ⟨0,(replicate 4 0),h,⟨⟨rfl,rfl,rfl,rfl,trivial⟩,(.o (.o (.o .nil)))⟩⟩
  ·rintro n1 t m ⟨i1,a2,h,hF⟩
   refine Zk hF ?_
   clear hF
   rcases n1 with _ | n1
   · exact Z0a h
   have h:Zcr p0 k1 (Z7z p0 k1 n1) i1 a2=some r:=h
   unfold Zcr at h
   obtain ⟨k2,q2⟩ : ∃ k,k=Z7z p0 k1 n1:=⟨_,rfl⟩
   try rw [<- q2] at h
   refine Z0<|Z2<|Z6 _ (Z9 rfl rfl rfl)<|Z1<|Z0<|Z02 h rfl (fun h=>?_) (fun h=>?_)
   ·refine Ze<|Z0<|Za<|Z0<|Z2<|Z7 rfl<|Z7 rfl<|Z1<|bH h fun z1 e1 h=>oH h fun y1 f1 h=>cH h fun c1 h=>bH h fun l1 g1 h=>Z2<|Z7 rfl<|Z6 _ (Ze8 rfl .no .no .no (by simp) (by decide))<|Z7 rfl<|Z6 _ (iz e1 (Z9 rfl rfl rfl))<|Z6 _ (Z0p rfl (fun w hw=>Z92 f1 ((Z3q (s:=[b3' p0]) (N:=32) (k:=.u8) (base:=0) (lo:=0) (hi:=32) (mz:=32) .t2 rfl (by decide)) w hw)))<|Z7 rfl<|Z6 _ (Z2i rfl rfl)<|Z6 _ (Z2i rfl rfl)<|Z6 _ (Z1s rfl rfl (Z0j c1))<|Zg (Z2l (q:=[.ints .u64 4 (l1)]) (base:=0) g1 rfl rfl rfl (Z03 c1) rfl .here<|Z1<|bH h fun z2 e2 h=>Z2<|Z6 _ (iz e2 (Z9 rfl rfl rfl))<|Z7 rfl<|Z1 ?_)
    rw [q2] at h
    exact ⟨n1,Nat.lt_succ_self _,z2,l1,h,⟨⟨rfl,rfl,rfl,rfl,trivial⟩,(.o (.o (.o .nil)))⟩⟩
   ·exact Zx _ rfl<|⟨a2,h,⟨⟨rfl,rfl,trivial⟩,(.o (.o (.o .nil)))⟩⟩
 ·rintro t m ⟨a1,h,hF⟩
  refine Zk hF ?_
  clear hF
  subst q1
  refine Z0<|Z2<|Z6 _ (Zy (p:=[.ints .u64 4 (a1)]) rfl .here rfl)<|Zg (Zs (q:=[.ints .u64 4 (a1)]) rfl rfl rfl rfl rfl .t1<|Z1<|Zi ?_)
  revert h; refine Zt fun h=>?_
  subst h
  exact ⟨_,(.cons (.agg rfl .t1 rfl) .nil),rfl⟩
def Z7w (p1:LI) (k1:(LI)->OL) (k2:Int->Int->(LI)->OL) (i1:Int) (i2:Int) (a1:LI):OL :=
 br ((decide (i2<10))) (
 chk (inB i2 10) <|
 chk (inB i2 10) <|
 bnd (a1.getD (i2).toNat 0) fun z1 =>
 bnd (wrap .u64 (z1+67108863)) fun z2 =>
 bnd (wrap .u64 (z2+1)) fun z3 =>
 bnd (p1.getD (i2).toNat 0) fun z4 =>
 bnd (wrap .u64 (z3-z4)) fun z5 =>
 bnd (wrap .u64 (z5-i1)) fun z6 =>
 bnd (Zq .u64 z6 26) fun z7 =>
 bnd (wrap .u64 (1-z7)) fun z8 =>
 bnd (Z4 .and .u64 z6 67108863) fun z9 =>
 chk (inB i2 10) <|
 bnd (Z2u a1 (i2).toNat z9) fun l1 =>
 bnd (wrap .i64 (i2+1)) fun z10 =>
 k2 z8 z10 l1
 ) (
 k1 a1
 )
def Z4i (p1:LI) (k1:(LI)->OL):Nat->Int->Int->(LI)->OL
  | 0,_,_,_=>none
  | n+1,i1,i2,a1=>Z7w p1 k1 (Z4i p1 k1 n) i1 i2 a1
def Z89 (p0:LI) (p1:LI):OL :=
 jn (fun (a1:LI)=>some a1) fun k1=>Z4i p1 k1 big 0 0 p0
theorem Zem {W:World} {r:(LI)} {p0:LI} {p1:LI} (h:Z89 p0 p1=some r)  :
    Calls Tryz.prog 197 [agg [uA' p0],agg [uA' p1]].toArray W (Z36 W (agg [uA' r])):=by
 unfold Z89 at h
 refine Zc mo Z0os rfl ?_
 refine Z0<|Z2<|Zg (Z0k (s:=[uA' p0]) rfl fun b1 u1=>Zg (Z0k (s:=[uA' p1]) rfl fun b2 u2=>Zg (Zv fun b3 u3=>Z1<|Z0<|Z2<|Z7 rfl<|Z1<|Z0<|Z0<|Z2<|Z7 rfl<|Z1<|jH h fun k1 q1 h=>Zm (G:=fun t m=>∃ (a1:LI),k1 a1=some r/\Fit [(2,pt' b1),(4,pt' b3)] (ck b3 88 [uA' (replicate 10 0)]::(ck b2 88 [uA' p1]::(ck b1 88 [uA' a1] :: []))) t m) ?_ ?_)))
 ·refine Za<|Zp (fun n1 t m=>∃ (i1:Int) (i2:Int) (a2:LI),Z4i p1 k1 n1 i1 i2 a2=some r/\Fit [(2,pt' b1),(3,pt' b2),(4,pt' b3),(5,.int .u64 (i1)),(6,.int .i64 (i2))] (ck b3 88 [uA' (replicate 10 0)]::(ck b2 88 [uA' p1]::(ck b1 88 [uA' a2] :: []))) t m) big ?_ ?_
  ·exact ⟨0,0,p0,h,⟨⟨rfl,rfl,rfl,rfl,rfl,trivial⟩,(.o (.o (.o .nil)))⟩⟩
  ·rintro n1 t m ⟨i1,i2,a2,h,hF⟩
   refine Zk hF ?_
   clear hF
   rcases n1 with _ | n1
   · exact Z0a h
   have h:Z7w p1 k1 (Z4i p1 k1 n1) i1 i2 a2=some r:=h
   unfold Z7w at h
   obtain ⟨k2,q2⟩ : ∃ k,k=Z4i p1 k1 n1:=⟨_,rfl⟩
   try rw [<- q2] at h
   refine Z0<|Z0<|Z2<|Z7 rfl<|Z6 _ (Z9 rfl rfl rfl)<|Z1<|Z02 h rfl (fun h=>?_) (fun h=>?_)
   ·refine Ze<|Z0<|Za<|Z0<|cH h fun c1 h=>cH h fun c2 h=>bH h fun z1 e1 h=>bH h fun z2 e2 h=>bH h fun z3 e3 h=>bH h fun z4 e4 h=>bH h fun z5 e5 h=>bH h fun z6 e6 h=>Zr<|Z8 _ (Z0u rfl)<|Z8 _ (Z1s rfl rfl (Z0j c1))<|Z8 _ (Z0u rfl)<|Z8 _ (Z1s rfl rfl (Z0j c2))<|Z8 _ (Z0u rfl)<|Zn _ (iz e1 (Z3e (base:=0) rfl .t2 rfl (Z03 c1)))<|Z8 _ (iz e2 (Z9 rfl rfl rfl))<|Z8 _ (iz e3 (Z9 rfl rfl rfl))<|Zn _ (iz e4 (Z3e (base:=0) rfl .t1 rfl (Z03 c2)))<|Z8 _ (iz e5 (Z9 rfl rfl rfl))<|Z8 _ (iz e6 (Z9 rfl rfl rfl))<|Z8 _ (Z0u rfl)<|Z00<|Z0<|bH h fun z7 e7 h=>bH h fun z8 e8 h=>Z2<|Z7 rfl<|Z6 _ (iz e7 (Z5g rfl rfl (by decide)))<|Z6 _ (iz e8 (Z9 rfl rfl rfl))<|Z7 rfl<|Z1<|bH h fun z9 e9 h=>cH h fun c3 h=>bH h fun l1 g1 h=>Z2<|Z7 rfl<|Z7 rfl<|Z6 _ (iz e9 (Z9 rfl rfl rfl))<|Z6 _ (Z1s rfl rfl (Z0j c3))<|Zg (Z2l (q:=[uA' l1]) (base:=0) g1 rfl rfl rfl (Z03 c3) rfl .t2<|Z1<|bH h fun z10 e10 h=>Z2<|Z7 rfl<|Z6 _ (iz e10 (Z9 rfl rfl rfl))<|Z7 rfl<|Z1 ?_)
    rw [q2] at h
    exact ⟨n1,Nat.lt_succ_self _,z8,z10,l1,h,⟨⟨rfl,rfl,rfl,rfl,rfl,trivial⟩,(.o (.o (.o .nil)))⟩⟩
   ·exact Zx _ rfl<|⟨a2,h,⟨⟨rfl,rfl,trivial⟩,(.o (.o (.o .nil)))⟩⟩
 ·rintro t m ⟨a1,h,hF⟩
  refine Zk hF ?_
  clear hF
  subst q1
  refine Z0<|Z2<|Z6 _ (Zy (p:=[uA' a1]) rfl .t2 rfl)<|Zg (Zs (q:=[uA' a1]) rfl rfl rfl rfl rfl .here<|Z1<|Zi ?_)
  revert h; refine Zt fun h=>?_
  subst h
  exact ⟨_,(.cons (.agg rfl .here rfl) .nil),rfl⟩
def Ze6:OL :=
 bnd (([67108845,67108863,67108863,67108863,67108863,67108863,67108863,67108863,67108863,2097151]:LI)) fun z1 =>
 some z1
theorem Zib {W:World} {r:(LI)} (h:Ze6=some r)  :
    Calls Tryz.prog 198 [].toArray W (Z36 W (agg [uA' r])):=by
 unfold Ze6 at h
 refine Zc mo Z0ot rfl ?_
 refine Z0<|Z2<|Zg (Zv fun b1 u1=>Z1<|Z0<|bH h fun z1 e1 h=>Z2<|Z6 _ (az (fun z=>agg [.ints .u64 10 z]) e1 (Zct (.one rfl rfl rfl (.one rfl rfl rfl (.one rfl rfl rfl (.one rfl rfl rfl (.one rfl rfl rfl (.one rfl rfl rfl (.one rfl rfl rfl (.one rfl rfl rfl (.one rfl rfl rfl (.one rfl rfl rfl BdR.nil))))))))))))<|Zg (Zs (q:=[uA' z1]) rfl rfl rfl rfl rfl .here<|Z1<|Zi ?_))
 revert h; refine Zt fun h=>?_
 subst h
 exact ⟨_,(.cons (.agg rfl .here rfl) .nil),rfl⟩
def Z9e (k1:(LI)->OL) (k2:Int->(LI)->OL) (i1:Int) (a1:LI):OL :=
 br ((decide (i1<9))) (
 bnd (wrap .i64 (i1+1)) fun z1 =>
 bnd (wrap .i64 (i1+1)) fun z2 =>
 chk (inB z2 10) <|
 chk (inB i1 10) <|
 bnd (a1.getD (z2).toNat 0) fun z3 =>
 bnd (a1.getD (i1).toNat 0) fun z4 =>
 bnd (Zq .u64 z4 26) fun z5 =>
 bnd (wrap .u64 (z3+z5)) fun z6 =>
 chk (inB z1 10) <|
 bnd (Z2u a1 (z1).toNat z6) fun l1 =>
 chk (inB i1 10) <|
 bnd (l1.getD (i1).toNat 0) fun z7 =>
 bnd (Z4 .and .u64 z7 67108863) fun z8 =>
 chk (inB i1 10) <|
 bnd (Z2u l1 (i1).toNat z8) fun l2 =>
 bnd (wrap .i64 (i1+1)) fun z9 =>
 k2 z9 l2
 ) (
 k1 a1
 )
def Z58 (k1:(LI)->OL):Nat->Int->(LI)->OL
  | 0,_,_=>none
  | n+1,i1,a1=>Z9e k1 (Z58 k1 n) i1 a1
def Zbd (p0:LI):OL :=
 jn (fun (a1:LI)=>some a1) fun k1=>Z58 k1 big 0 p0
theorem Zfi {W:World} {r:(LI)} {p0:LI} (h:Zbd p0=some r)  :
    Calls Tryz.prog 207 [agg [uA' p0]].toArray W (Z36 W (agg [uA' r])):=by
 unfold Zbd at h
 refine Zc mo Z0p2 rfl ?_
 refine Z0<|Z2<|Zg (Z0k (s:=[uA' p0]) rfl fun b1 u1=>Zg (Zv fun b2 u2=>Z1<|Z0<|Z0<|Z2<|Z7 rfl<|Z1<|jH h fun k1 q1 h=>Zm (G:=fun t m=>∃ (a1:LI),k1 a1=some r/\Fit [(1,pt' b1),(2,pt' b2)] (ck b2 88 [uA' (replicate 10 0)]::(ck b1 88 [uA' a1] :: [])) t m) ?_ ?_))
 ·refine Za<|Zp (fun n1 t m=>∃ (i1:Int) (a2:LI),Z58 k1 n1 i1 a2=some r/\Fit [(1,pt' b1),(2,pt' b2),(3,.int .i64 (i1))] (ck b2 88 [uA' (replicate 10 0)]::(ck b1 88 [uA' a2] :: [])) t m) big ?_ ?_
  ·exact ⟨0,p0,h,⟨⟨rfl,rfl,rfl,trivial⟩,(.o (.o .nil))⟩⟩
  ·rintro n1 t m ⟨i1,a2,h,hF⟩
   refine Zk hF ?_
   clear hF
   rcases n1 with _ | n1
   · exact Z0a h
   have h:Z9e k1 (Z58 k1 n1) i1 a2=some r:=h
   unfold Z9e at h
   obtain ⟨k2,q2⟩ : ∃ k,k=Z58 k1 n1:=⟨_,rfl⟩
   try rw [<- q2] at h
   refine Z0<|Z0<|Z2<|Z7 rfl<|Z6 _ (Z9 rfl rfl rfl)<|Z1<|Z02 h rfl (fun h=>?_) (fun h=>?_)
   ·refine Ze<|Z0<|Za<|Z0<|bH h fun z1 e1 h=>bH h fun z2 e2 h=>cH h fun c1 h=>cH h fun c2 h=>bH h fun z3 e3 h=>bH h fun z4 e4 h=>bH h fun z5 e5 h=>bH h fun z6 e6 h=>cH h fun c3 h=>bH h fun l1 g1 h=>Zr<|Z8 _ (Z0u rfl)<|Z8 _ (iz e1 (Z9 rfl rfl rfl))<|Z8 _ (Z0u rfl)<|Z8 _ (iz e2 (Z9 rfl rfl rfl))<|Z8 _ (Z1s rfl rfl (Z0j c1))<|Z8 _ (Z0u rfl)<|Z8 _ (Z1s rfl rfl (Z0j c2))<|Zn _ (iz e3 (Z3e (base:=0) rfl .t1 rfl (Z03 c1)))<|Zn _ (iz e4 (Z3e (base:=0) rfl .t1 rfl (Z03 c2)))<|Z8 _ (iz e5 (Z5g rfl rfl (by decide)))<|Z8 _ (iz e6 (Z9 rfl rfl rfl))<|Z8 _ (Z1s rfl rfl (Z0j c3))<|Z1z rfl (Z2l (q:=[uA' l1]) (base:=0) g1 rfl rfl rfl (Z03 c3) rfl .t1<|Z00<|cH h fun c4 h=>bH h fun z7 e7 h=>bH h fun z8 e8 h=>cH h fun c5 h=>bH h fun l2 g2 h=>Z2<|Z7 rfl<|Z7 rfl<|Z6 _ (Z1s rfl rfl (Z0j c4))<|Z6 _ (iz e7 (Z3e (base:=0) rfl .t1 rfl (Z03 c4)))<|Z6 _ (iz e8 (Z9 rfl rfl rfl))<|Z6 _ (Z1s rfl rfl (Z0j c5))<|Zg (Z2l (q:=[uA' l2]) (base:=0) g2 rfl rfl rfl (Z03 c5) rfl .t1<|Z1<|bH h fun z9 e9 h=>Z2<|Z7 rfl<|Z6 _ (iz e9 (Z9 rfl rfl rfl))<|Z7 rfl<|Z1 ?_))
    rw [q2] at h
    exact ⟨n1,Nat.lt_succ_self _,z9,l2,h,⟨⟨rfl,rfl,rfl,trivial⟩,(.o (.o .nil))⟩⟩
   ·exact Zx _ rfl<|⟨a2,h,⟨⟨rfl,rfl,trivial⟩,(.o (.o .nil))⟩⟩
 ·rintro t m ⟨a1,h,hF⟩
  refine Zk hF ?_
  clear hF
  subst q1
  refine Z0<|Z2<|Z6 _ (Zy (p:=[uA' a1]) rfl .t1 rfl)<|Zg (Zs (q:=[uA' a1]) rfl rfl rfl rfl rfl .here<|Z1<|Zi ?_)
  revert h; refine Zt fun h=>?_
  subst h
  exact ⟨_,(.cons (.agg rfl .here rfl) .nil),rfl⟩
def Zbw (p0:LI) (p1:LI) (k1:Unit->Option Bool) (k2:Int->Option Bool) (i1:Int):Option Bool :=
 br ((decide (i1≥0))) (
 chk (inB i1 10) <|
 chk (inB i1 10) <|
 bnd (p0.getD (i1).toNat 0) fun z1 =>
 bnd (p1.getD (i1).toNat 0) fun z2 =>
 br ((z1 != z2)) (
 chk (inB i1 10) <|
 chk (inB i1 10) <|
 bnd (p0.getD (i1).toNat 0) fun z3 =>
 bnd (p1.getD (i1).toNat 0) fun z4 =>
 some (decide (z3<z4))
 ) (
 bnd (wrap .i64 (i1-1)) fun z5 =>
 k2 z5
 )
 ) (
 k1 ()
 )
def Z74 (p0:LI) (p1:LI) (k1:Unit->Option Bool):Nat->Int->Option Bool
  | 0,_=>none
  | n+1,i1=>Zbw p0 p1 k1 (Z74 p0 p1 k1 n) i1
def Zgg (p0:LI) (p1:LI):Option Bool :=
 jn (fun (_:Unit)=>some false) fun k1=>Z74 p0 p1 k1 big 9
theorem Zp7 {W:World} {r:Bool} {p0:LI} {p1:LI} (h:Zgg p0 p1=some r)  :
    Calls Tryz.prog 208 [agg [uA' p0],agg [uA' p1]].toArray W (Z36 W (.bool (r))):=by
 unfold Zgg at h
 refine Zc mo Z0p3 rfl ?_
 refine Z0<|Z2<|Zg (Z0k (s:=[uA' p0]) rfl fun b1 u1=>Zg (Z0k (s:=[uA' p1]) rfl fun b2 u2=>Z7 rfl<|Z1<|Z0<|Z0<|Z2<|Z7 rfl<|Z1<|jH h fun k1 q1 h=>Zm (G:=fun t m=>k1 ()=some r/\Fit [] (ck b2 88 [uA' p1]::(ck b1 88 [uA' p0] :: [])) t m) ?_ ?_))
 ·refine Za<|Zp (fun n1 t m=>∃ (i1:Int),Z74 p0 p1 k1 n1 i1=some r/\Fit [(2,pt' b1),(3,pt' b2),(5,.int .i64 (i1))] (ck b2 88 [uA' p1]::(ck b1 88 [uA' p0] :: [])) t m) big ?_ ?_
  ·exact ⟨9,h,⟨⟨rfl,rfl,rfl,trivial⟩,(.o (.o .nil))⟩⟩
  ·rintro n1 t m ⟨i1,h,hF⟩
   refine Zk hF ?_
   clear hF
   rcases n1 with _ | n1
   · exact Z0a h
   have h:Zbw p0 p1 k1 (Z74 p0 p1 k1 n1) i1=some r:=h
   unfold Zbw at h
   obtain ⟨k2,q2⟩ : ∃ k,k=Z74 p0 p1 k1 n1:=⟨_,rfl⟩
   try rw [<- q2] at h
   refine Z0<|Z0<|Z2<|Z7 rfl<|Z6 _ (Z9 rfl rfl rfl)<|Z1<|Z02 h rfl (fun h=>?_) (fun h=>?_)
   ·refine Ze<|Z0<|Za<|Z0<|cH h fun c1 h=>cH h fun c2 h=>bH h fun z1 e1 h=>bH h fun z2 e2 h=>Zr<|Z8 _ (Z0u rfl)<|Z8 _ (Z1s rfl rfl (Z0j c1))<|Z8 _ (Z0u rfl)<|Z8 _ (Z1s rfl rfl (Z0j c2))<|Zn _ (iz e1 (Z3e (base:=0) rfl .t1 rfl (Z03 c1)))<|Zn _ (iz e2 (Z3e (base:=0) rfl .here rfl (Z03 c2)))<|Z8 _ (Z9 rfl rfl rfl)<|Z00<|Z02 h rfl (fun h=>?_) (fun h=>?_)
    ·refine Z0<|cH h fun c3 h=>cH h fun c4 h=>bH h fun z3 e3 h=>bH h fun z4 e4 h=>Zr<|Z8 _ (Z0u rfl)<|Z8 _ (Z1s rfl rfl (Z0j c3))<|Z8 _ (Z0u rfl)<|Z8 _ (Z1s rfl rfl (Z0j c4))<|Zn _ (iz e3 (Z3e (base:=0) rfl .t1 rfl (Z03 c3)))<|Zn _ (iz e4 (Z3e (base:=0) rfl .here rfl (Z03 c4)))<|Z8 _ (Z9 rfl rfl rfl)<|Z8 _ (Z0u rfl)<|Z00<|Zi ?_
     revert h; refine Zt fun h=>?_
     subst h
     exact ⟨_,(.cons (.tmp rfl) .nil),rfl⟩
    ·refine Ze<|bH h fun z5 e5 h=>Z2<|Z7 rfl<|Z6 _ (iz e5 (Z9 rfl rfl rfl))<|Z7 rfl<|Z1 ?_
     rw [q2] at h
     exact ⟨n1,Nat.lt_succ_self _,z5,h,⟨⟨rfl,rfl,rfl,trivial⟩,(.o (.o .nil))⟩⟩
   ·exact Zx _ rfl<|⟨h,⟨trivial,(.o (.o .nil))⟩⟩
 ·rintro t m ⟨h,hF⟩
  refine Zk hF ?_
  clear hF
  subst q1
  refine Z0<|Z2<|Z7 rfl<|Z1<|Zi ?_
  revert h; refine Zt fun h=>?_
  subst h
  exact ⟨_,(.cons (.tmp rfl) .nil),rfl⟩
def Zbu (k1:(LI)->OL) (k2:(LI)->OL) (a1:LI):OL :=
 bnd (a1.getD 9 0) fun z1 =>
 br ((decide (z1>2097151))) (
 bnd (a1.getD 0 0) fun z2 =>
 bnd (a1.getD 9 0) fun z3 =>
 bnd (Zq .u64 z3 21) fun z4 =>
 bnd (wrap .u64 (19*z4)) fun z5 =>
 bnd (wrap .u64 (z2+z5)) fun z6 =>
 bnd (Z2u a1 0 z6) fun l1 =>
 bnd (l1.getD 9 0) fun z7 =>
 bnd (Z4 .and .u64 z7 2097151) fun z8 =>
 bnd (Z2u l1 9 z8) fun l2 =>
 opt (Zbd l2) fun y1 =>
 k2 y1
 ) (
 k1 a1
 )
def Z4p (k1:(LI)->OL):Nat->(LI)->OL
  | 0,_=>none
  | n+1,a1=>Zbu k1 (Z4p k1 n) a1
def Z9b (p0:LI):OL :=
 opt (Zbd p0) fun y1 =>
 jn (fun (a1:LI)=>opt (Ze6) fun y2 =>
 opt (Zgg a1 y2) fun y3 =>
 jn (fun (a2:LI)=>some a2) fun k1=>br ((!y3)) (
 opt (Z89 a1 y2) fun y4 =>
 k1 y4
 ) (
 k1 a1
 )) fun k2=>Z4p k2 big y1
theorem Zb7 {W:World} {r:(LI)} {p0:LI} (h:Z9b p0=some r)  :
    Calls Tryz.prog 172 [agg [uA' p0]].toArray W (Z36 W (agg [uA' r])):=by
 unfold Z9b at h
 refine Zc mo Z0o7 rfl ?_
 refine Z0<|Z2<|Zg (Z0k (s:=[uA' p0]) rfl fun b1 u1=>Zg (Zv fun b2 u2=>Z1<|Z0<|oH h fun y1 f1 h=>Z2<|Z6 _ (Zy (p:=[uA' p0]) rfl .t1 rfl)<|Z6 _ (Z0b rfl (Zfi f1))<|Zg (Zs (q:=[uA' y1]) rfl rfl rfl rfl rfl .t1<|Z1<|Z0<|jH h fun k1 q1 h=>Zm (G:=fun t m=>∃ (a1:LI),k1 a1=some r/\Fit [(1,pt' b1),(2,pt' b2)] (ck b2 88 [uA' (replicate 10 0)]::(ck b1 88 [uA' a1] :: [])) t m) ?_ ?_)))
 ·refine Za<|Zp (fun n1 t m=>∃ (a2:LI),Z4p k1 n1 a2=some r/\Fit [(1,pt' b1),(2,pt' b2)] (ck b2 88 [uA' (replicate 10 0)]::(ck b1 88 [uA' a2] :: [])) t m) big ?_ ?_
  ·exact ⟨y1,h,⟨⟨rfl,rfl,trivial⟩,(.o (.o .nil))⟩⟩
  ·rintro n1 t m ⟨a2,h,hF⟩
   refine Zk hF ?_
   clear hF
   rcases n1 with _ | n1
   · exact Z0a h
   have h:Zbu k1 (Z4p k1 n1) a2=some r:=h
   unfold Zbu at h
   obtain ⟨k2,q2⟩ : ∃ k,k=Z4p k1 n1:=⟨_,rfl⟩
   try rw [<- q2] at h
   refine Z0<|Z0<|bH h fun z1 e1 h=>Z2<|Z6 _ (Z1s rfl rfl (by decide))<|Z6 _ (iz e1 (Z1y rfl .t1 rfl))<|Z6 _ (Z9 rfl rfl rfl)<|Z1<|Z02 h rfl (fun h=>?_) (fun h=>?_)
   ·refine Ze<|Za<|Z0<|bH h fun z2 e2 h=>bH h fun z3 e3 h=>bH h fun z4 e4 h=>bH h fun z5 e5 h=>bH h fun z6 e6 h=>bH h fun l1 g1 h=>Z2<|Z6 _ (Z1s rfl rfl (by decide))<|Z6 _ (iz e2 (Z1y rfl .t1 rfl))<|Z6 _ (Z1s rfl rfl (by decide))<|Z6 _ (iz e3 (Z1y rfl .t1 rfl))<|Z6 _ (iz e4 (Z5g rfl rfl (by decide)))<|Z6 _ (iz e5 (Z9 rfl rfl rfl))<|Z6 _ (iz e6 (Z9 rfl rfl rfl))<|Z6 _ (Z1s rfl rfl (by decide))<|Zg (Z85 (q:=[uA' l1]) (congrArg (fun z=>([uA' z]:List Seg)) g1.symm) rfl rfl rfl rfl .t1<|Z1<|Z0<|bH h fun z7 e7 h=>bH h fun z8 e8 h=>bH h fun l2 g2 h=>Z2<|Z6 _ (Z1s rfl rfl (by decide))<|Z6 _ (iz e7 (Z1y rfl .t1 rfl))<|Z6 _ (iz e8 (Z9 rfl rfl rfl))<|Z6 _ (Z1s rfl rfl (by decide))<|Zg (Z85 (q:=[uA' l2]) (congrArg (fun z=>([uA' z]:List Seg)) g2.symm) rfl rfl rfl rfl .t1<|Z1<|oH h fun y2 f2 h=>Z2<|Z6 _ (Zy (p:=[uA' l2]) rfl .t1 rfl)<|Z6 _ (Z0b rfl (Zfi f2))<|Zg (Zs (q:=[uA' y2]) rfl rfl rfl rfl rfl .t1<|Z1 ?_)))
    rw [q2] at h
    exact ⟨n1,Nat.lt_succ_self _,y2,h,⟨⟨rfl,rfl,trivial⟩,(.o (.o .nil))⟩⟩
   ·exact Zx _ rfl<|⟨a2,h,⟨⟨rfl,rfl,trivial⟩,(.o (.o .nil))⟩⟩
 ·rintro t m ⟨a1,h,hF⟩
  refine Zk hF ?_
  clear hF
  subst q1
  refine Z0<|oH h fun y3 f3 h=>Z2<|Z6 _ (Z0b rfl (Zib f3))<|Zg (Zv fun b3 u3=>Zg (Zs (q:=[uA' y3]) rfl rfl rfl rfl rfl .here<|Z1<|Z0<|Z0<|oH h fun y4 f4 h=>Z2<|Z6 _ (Zy (p:=[uA' a1]) rfl .t2 rfl)<|Z6 _ (Zy (p:=[uA' y3]) rfl .here rfl)<|Z6 _ (Z0b rfl (Zp7 f4))<|Z6 _ (Zl0 rfl rfl)<|Z1<|jH h fun k3 q3 h=>Zm (G:=fun t m=>∃ (a3:LI),k3 a3=some r/\Fit [(1,pt' b1),(2,pt' b2)] (ck b3 88 [uA' y3]::(ck b2 88 [uA' (replicate 10 0)]::(ck b1 88 [uA' a3] :: []))) t m) ?_ ?_))
  ·refine Z02 h rfl (fun h=>?_) (fun h=>?_)
   ·exact oH h fun y5 f5 h=>Z2<|Z6 _ (Zy (p:=[uA' a1]) rfl .t2 rfl)<|Z6 _ (Zy (p:=[uA' y3]) rfl .here rfl)<|Z6 _ (Z0b rfl (Zem f5))<|Zg (Zs (q:=[uA' y5]) rfl rfl rfl rfl rfl .t2<|Z1<|⟨y5,h,⟨⟨rfl,rfl,trivial⟩,(.o (.o (.o .nil)))⟩⟩)
   ·exact Ze<|⟨a1,h,⟨⟨rfl,rfl,trivial⟩,(.o (.o (.o .nil)))⟩⟩
  ·rintro t m ⟨a3,h,hF⟩
   refine Zk hF ?_
   clear hF
   subst q3
   refine Z0<|Z2<|Z6 _ (Zy (p:=[uA' a3]) rfl .t2 rfl)<|Zg (Zs (q:=[uA' a3]) rfl rfl rfl rfl rfl .t1<|Z1<|Zi ?_)
   revert h; refine Zt fun h=>?_
   subst h
   exact ⟨_,(.cons (.agg rfl .t1 rfl) .nil),rfl⟩
def Zfg (p0:LI) (p1:LI) (i1:Int) (k1:(LI)->OL) (k2:Int->(LI)->OL) (i2:Int) (a1:LI):OL :=
 br ((decide (i2<10))) (
 bnd (wrap .i64 (i1+i2)) fun z1 =>
 bnd (wrap .i64 (i1+i2)) fun z2 =>
 chk (inB z2 20) <|
 chk (inB i1 10) <|
 chk (inB i2 10) <|
 bnd (a1.getD (z2).toNat 0) fun z3 =>
 bnd (p0.getD (i1).toNat 0) fun z4 =>
 bnd (p1.getD (i2).toNat 0) fun z5 =>
 bnd (wrap .u64 (z4*z5)) fun z6 =>
 bnd (wrap .u64 (z3+z6)) fun z7 =>
 chk (inB z1 20) <|
 bnd (Z2u a1 (z1).toNat z7) fun l1 =>
 bnd (wrap .i64 (i2+1)) fun z8 =>
 k2 z8 l1
 ) (
 k1 a1
 )
def Zar (p0:LI) (p1:LI) (i1:Int) (k1:(LI)->OL):Nat->Int->(LI)->OL
  | 0,_,_=>none
  | n+1,i2,a1=>Zfg p0 p1 i1 k1 (Zar p0 p1 i1 k1 n) i2 a1
def Zff (p0:LI) (p1:LI) (k1:(LI)->OL) (k2:Int->(LI)->OL) (i1:Int) (a1:LI):OL :=
 br ((decide (i1<10))) (
 jn (fun (a2:LI)=>bnd (wrap .i64 (i1+1)) fun z1 =>
 k2 z1 a2) fun k3=>Zar p0 p1 i1 k3 big 0 a1
 ) (
 k1 a1
 )
def Z9c (p0:LI) (p1:LI) (k1:(LI)->OL):Nat->Int->(LI)->OL
  | 0,_,_=>none
  | n+1,i1,a1=>Zff p0 p1 k1 (Z9c p0 p1 k1 n) i1 a1
def Zfh (k1:(LI)->OL) (k2:Int->(LI)->OL) (i1:Int) (a1:LI):OL :=
 br ((decide (i1<19))) (
 bnd (wrap .i64 (i1+1)) fun z1 =>
 bnd (wrap .i64 (i1+1)) fun z2 =>
 chk (inB z2 20) <|
 chk (inB i1 20) <|
 bnd (a1.getD (z2).toNat 0) fun z3 =>
 bnd (a1.getD (i1).toNat 0) fun z4 =>
 bnd (Zq .u64 z4 26) fun z5 =>
 bnd (wrap .u64 (z3+z5)) fun z6 =>
 chk (inB z1 20) <|
 bnd (Z2u a1 (z1).toNat z6) fun l1 =>
 chk (inB i1 20) <|
 bnd (l1.getD (i1).toNat 0) fun z7 =>
 bnd (Z4 .and .u64 z7 67108863) fun z8 =>
 chk (inB i1 20) <|
 bnd (Z2u l1 (i1).toNat z8) fun l2 =>
 bnd (wrap .i64 (i1+1)) fun z9 =>
 k2 z9 l2
 ) (
 k1 a1
 )
def Z7v (k1:(LI)->OL):Nat->Int->(LI)->OL
  | 0,_,_=>none
  | n+1,i1,a1=>Zfh k1 (Z7v k1 n) i1 a1
def Zly (a1:LI) (k1:(LI)->OL) (k2:Int->(LI)->OL) (i1:Int) (a2:LI):OL :=
 br ((decide (i1<10))) (
 chk (inB i1 20) <|
 bnd (wrap .i64 (i1+10)) fun z1 =>
 chk (inB z1 20) <|
 bnd (a1.getD (i1).toNat 0) fun z2 =>
 bnd (a1.getD (z1).toNat 0) fun z3 =>
 bnd (wrap .u64 (608*z3)) fun z4 =>
 bnd (wrap .u64 (z2+z4)) fun z5 =>
 chk (inB i1 10) <|
 bnd (Z2u a2 (i1).toNat z5) fun l1 =>
 bnd (wrap .i64 (i1+1)) fun z6 =>
 k2 z6 l1
 ) (
 k1 a2
 )
def Zas (a1:LI) (k1:(LI)->OL):Nat->Int->(LI)->OL
  | 0,_,_=>none
  | n+1,i1,a2=>Zly a1 k1 (Zas a1 k1 n) i1 a2
def Z2j (p0:LI) (p1:LI):OL :=
 jn (fun (a1:LI)=>jn (fun (a2:LI)=>jn (fun (a3:LI)=>opt (Z9b a3) fun y1 =>
 some y1) fun k1=>Zas a2 k1 big 0 (replicate 10 0)) fun k2=>Z7v k2 big 0 a1) fun k3=>Z9c p0 p1 k3 big 0 (replicate 20 0)
theorem Z0c {W:World} {r:(LI)} {p0:LI} {p1:LI} (h:Z2j p0 p1=some r)  :
    Calls Tryz.prog 104 [agg [uA' p0],agg [uA' p1]].toArray W (Z36 W (agg [uA' r])):=by
 unfold Z2j at h
 refine Zc mo Z0mk rfl ?_
 refine Z0<|Z2<|Zg (Z0k (s:=[uA' p0]) rfl fun b1 u1=>Zg (Z0k (s:=[uA' p1]) rfl fun b2 u2=>Zg (Zv fun b3 u3=>Z1<|Z0<|Z2<|Zg (Zv fun b4 u4=>Z1<|Z0<|Z0<|Z2<|Z7 rfl<|Z1<|jH h fun k1 q1 h=>Zm (G:=fun t m=>∃ (a1:LI),k1 a1=some r/\Fit [(4,pt' b3),(5,pt' b4)] (ck b4 205 [.ints .u64 20 (a1)]::(ck b3 88 [uA' (replicate 10 0)]::(ck b2 88 [uA' p1]::(ck b1 88 [uA' p0] :: [])))) t m) ?_ ?_))))
 ·refine Za<|Zp (fun n1 t m=>∃ (i1:Int) (a2:LI),Z9c p0 p1 k1 n1 i1 a2=some r/\Fit [(2,pt' b1),(3,pt' b2),(4,pt' b3),(5,pt' b4),(6,.int .i64 (i1))] (ck b4 205 [.ints .u64 20 (a2)]::(ck b3 88 [uA' (replicate 10 0)]::(ck b2 88 [uA' p1]::(ck b1 88 [uA' p0] :: [])))) t m) big ?_ ?_
  ·exact ⟨0,(replicate 20 0),h,⟨⟨rfl,rfl,rfl,rfl,rfl,trivial⟩,(.o (.o (.o (.o .nil))))⟩⟩
  ·rintro n1 t m ⟨i1,a2,h,hF⟩
   refine Zk hF ?_
   clear hF
   rcases n1 with _ | n1
   · exact Z0a h
   have h:Zff p0 p1 k1 (Z9c p0 p1 k1 n1) i1 a2=some r:=h
   unfold Zff at h
   obtain ⟨k2,q2⟩ : ∃ k,k=Z9c p0 p1 k1 n1:=⟨_,rfl⟩
   try rw [<- q2] at h
   refine Z0<|Z0<|Z2<|Z7 rfl<|Z6 _ (Z9 rfl rfl rfl)<|Z1<|Z02 h rfl (fun h=>?_) (fun h=>?_)
   ·refine Ze<|Z0<|Za<|Z0<|Z2<|Z7 rfl<|Z1<|jH h fun k3 q3 h=>Zm (G:=fun t m=>∃ (a3:LI),k3 a3=some r/\Fit [(2,pt' b1),(3,pt' b2),(4,pt' b3),(5,pt' b4),(6,.int .i64 (i1))] (ck b4 205 [.ints .u64 20 (a3)]::(ck b3 88 [uA' (replicate 10 0)]::(ck b2 88 [uA' p1]::(ck b1 88 [uA' p0] :: [])))) t m) ?_ ?_
    ·refine Za<|Zp (fun n2 t m=>∃ (i2:Int) (a4:LI),Zar p0 p1 i1 k3 n2 i2 a4=some r/\Fit [(2,pt' b1),(3,pt' b2),(4,pt' b3),(5,pt' b4),(6,.int .i64 (i1)),(7,.int .i64 (i2))] (ck b4 205 [.ints .u64 20 (a4)]::(ck b3 88 [uA' (replicate 10 0)]::(ck b2 88 [uA' p1]::(ck b1 88 [uA' p0] :: [])))) t m) big ?_ ?_
     ·exact ⟨0,a2,h,⟨⟨rfl,rfl,rfl,rfl,rfl,rfl,trivial⟩,(.o (.o (.o (.o .nil))))⟩⟩
     ·rintro n2 t m ⟨i2,a4,h,hF⟩
      refine Zk hF ?_
      clear hF
      rcases n2 with _ | n2
      · exact Z0a h
      have h:Zfg p0 p1 i1 k3 (Zar p0 p1 i1 k3 n2) i2 a4=some r:=h
      unfold Zfg at h
      obtain ⟨k4,q4⟩ : ∃ k,k=Zar p0 p1 i1 k3 n2:=⟨_,rfl⟩
      try rw [<- q4] at h
      refine Z0<|Z0<|Z2<|Z7 rfl<|Z6 _ (Z9 rfl rfl rfl)<|Z1<|Z02 h rfl (fun h=>?_) (fun h=>?_)
      ·refine Ze<|Z0<|Za<|bH h fun z1 e1 h=>bH h fun z2 e2 h=>cH h fun c1 h=>cH h fun c2 h=>cH h fun c3 h=>bH h fun z3 e3 h=>bH h fun z4 e4 h=>bH h fun z5 e5 h=>bH h fun z6 e6 h=>bH h fun z7 e7 h=>cH h fun c4 h=>bH h fun l1 g1 h=>Zr<|Z8 _ (Z0u rfl)<|Z8 _ (Z0u rfl)<|Z8 _ (iz e1 (Z9 rfl rfl rfl))<|Z8 _ (Z0u rfl)<|Z8 _ (Z0u rfl)<|Z8 _ (iz e2 (Z9 rfl rfl rfl))<|Z8 _ (Z1s rfl rfl (Z0j c1))<|Z8 _ (Z0u rfl)<|Z8 _ (Z1s rfl rfl (Z0j c2))<|Z8 _ (Z0u rfl)<|Z8 _ (Z1s rfl rfl (Z0j c3))<|Zn _ (iz e3 (Z3e (base:=0) rfl .here rfl (Z03 c1)))<|Zn _ (iz e4 (Z3e (base:=0) rfl .t3 rfl (Z03 c2)))<|Zn _ (iz e5 (Z3e (base:=0) rfl .t2 rfl (Z03 c3)))<|Z8 _ (iz e6 (Z9 rfl rfl rfl))<|Z8 _ (iz e7 (Z9 rfl rfl rfl))<|Z8 _ (Z1s rfl rfl (Z0j c4))<|Z1z rfl (Z2l (q:=[.ints .u64 20 (l1)]) (base:=0) g1 rfl rfl rfl (Z03 c4) rfl .here<|Z00<|bH h fun z8 e8 h=>Z2<|Z7 rfl<|Z6 _ (iz e8 (Z9 rfl rfl rfl))<|Z7 rfl<|Z1 ?_)
       rw [q4] at h
       exact ⟨n2,Nat.lt_succ_self _,z8,l1,h,⟨⟨rfl,rfl,rfl,rfl,rfl,rfl,trivial⟩,(.o (.o (.o (.o .nil))))⟩⟩
      ·exact Zx _ rfl<|⟨a4,h,⟨⟨rfl,rfl,rfl,rfl,rfl,trivial⟩,(.o (.o (.o (.o .nil))))⟩⟩
    ·rintro t m ⟨a3,h,hF⟩
     refine Zk hF ?_
     clear hF
     subst q3
     refine bH h fun z9 e9 h=>Z2<|Z7 rfl<|Z6 _ (iz e9 (Z9 rfl rfl rfl))<|Z7 rfl<|Z1 ?_
     rw [q2] at h
     exact ⟨n1,Nat.lt_succ_self _,z9,a3,h,⟨⟨rfl,rfl,rfl,rfl,rfl,trivial⟩,(.o (.o (.o (.o .nil))))⟩⟩
   ·exact Zx _ rfl<|⟨a2,h,⟨⟨rfl,rfl,trivial⟩,(.o (.o (.o (.o .nil))))⟩⟩
 ·rintro t m ⟨a1,h,hF⟩
  refine Zk hF ?_
  clear hF
  subst q1
  refine Z0<|Z0<|Z2<|Z7 rfl<|Z1<|jH h fun k5 q5 h=>Zm (G:=fun t m=>∃ (a5:LI),k5 a5=some r/\Fit [(4,pt' b3),(5,pt' b4)] (ck b4 205 [.ints .u64 20 (a5)]::(ck b3 88 [uA' (replicate 10 0)]::(ck b2 88 [uA' p1]::(ck b1 88 [uA' p0] :: [])))) t m) ?_ ?_
  ·refine Za<|Zp (fun n3 t m=>∃ (i3:Int) (a6:LI),Z7v k5 n3 i3 a6=some r/\Fit [(4,pt' b3),(5,pt' b4),(8,.int .i64 (i3))] (ck b4 205 [.ints .u64 20 (a6)]::(ck b3 88 [uA' (replicate 10 0)]::(ck b2 88 [uA' p1]::(ck b1 88 [uA' p0] :: [])))) t m) big ?_ ?_
   ·exact ⟨0,a1,h,⟨⟨rfl,rfl,rfl,trivial⟩,(.o (.o (.o (.o .nil))))⟩⟩
   ·rintro n3 t m ⟨i3,a6,h,hF⟩
    refine Zk hF ?_
    clear hF
    rcases n3 with _ | n3
    · exact Z0a h
    have h:Zfh k5 (Z7v k5 n3) i3 a6=some r:=h
    unfold Zfh at h
    obtain ⟨k6,q6⟩ : ∃ k,k=Z7v k5 n3:=⟨_,rfl⟩
    try rw [<- q6] at h
    refine Z0<|Z0<|Z2<|Z7 rfl<|Z6 _ (Z9 rfl rfl rfl)<|Z1<|Z02 h rfl (fun h=>?_) (fun h=>?_)
    ·refine Ze<|Z0<|Za<|Z0<|bH h fun z10 e10 h=>bH h fun z11 e11 h=>cH h fun c5 h=>cH h fun c6 h=>bH h fun z12 e12 h=>bH h fun z13 e13 h=>bH h fun z14 e14 h=>bH h fun z15 e15 h=>cH h fun c7 h=>bH h fun l2 g2 h=>Zr<|Z8 _ (Z0u rfl)<|Z8 _ (iz e10 (Z9 rfl rfl rfl))<|Z8 _ (Z0u rfl)<|Z8 _ (iz e11 (Z9 rfl rfl rfl))<|Z8 _ (Z1s rfl rfl (Z0j c5))<|Z8 _ (Z0u rfl)<|Z8 _ (Z1s rfl rfl (Z0j c6))<|Zn _ (iz e12 (Z3e (base:=0) rfl .here rfl (Z03 c5)))<|Zn _ (iz e13 (Z3e (base:=0) rfl .here rfl (Z03 c6)))<|Z8 _ (iz e14 (Z5g rfl rfl (by decide)))<|Z8 _ (iz e15 (Z9 rfl rfl rfl))<|Z8 _ (Z1s rfl rfl (Z0j c7))<|Z1z rfl (Z2l (q:=[.ints .u64 20 (l2)]) (base:=0) g2 rfl rfl rfl (Z03 c7) rfl .here<|Z00<|cH h fun c8 h=>bH h fun z16 e16 h=>bH h fun z17 e17 h=>cH h fun c9 h=>bH h fun l3 g3 h=>Z2<|Z7 rfl<|Z7 rfl<|Z6 _ (Z1s rfl rfl (Z0j c8))<|Z6 _ (iz e16 (Z3e (base:=0) rfl .here rfl (Z03 c8)))<|Z6 _ (iz e17 (Z9 rfl rfl rfl))<|Z6 _ (Z1s rfl rfl (Z0j c9))<|Zg (Z2l (q:=[.ints .u64 20 (l3)]) (base:=0) g3 rfl rfl rfl (Z03 c9) rfl .here<|Z1<|bH h fun z18 e18 h=>Z2<|Z7 rfl<|Z6 _ (iz e18 (Z9 rfl rfl rfl))<|Z7 rfl<|Z1 ?_))
     rw [q6] at h
     exact ⟨n3,Nat.lt_succ_self _,z18,l3,h,⟨⟨rfl,rfl,rfl,trivial⟩,(.o (.o (.o (.o .nil))))⟩⟩
    ·exact Zx _ rfl<|⟨a6,h,⟨⟨rfl,rfl,trivial⟩,(.o (.o (.o (.o .nil))))⟩⟩
  ·rintro t m ⟨a5,h,hF⟩
   refine Zk hF ?_
   clear hF
   subst q5
   refine Z0<|Z2<|Zg (Zv fun b5 u5=>Z1<|Z0<|Z0<|Z2<|Z7 rfl<|Z1<|jH h fun k7 q7 h=>Zm (G:=fun t m=>∃ (a7:LI),k7 a7=some r/\Fit [(4,pt' b3),(9,pt' b5)] (ck b5 88 [uA' a7]::(ck b4 205 [.ints .u64 20 (a5)]::(ck b3 88 [uA' (replicate 10 0)]::(ck b2 88 [uA' p1]::(ck b1 88 [uA' p0] :: []))))) t m) ?_ ?_)
   ·refine Za<|Zp (fun n4 t m=>∃ (i4:Int) (a8:LI),Zas a5 k7 n4 i4 a8=some r/\Fit [(4,pt' b3),(5,pt' b4),(9,pt' b5),(10,.int .i64 (i4))] (ck b5 88 [uA' a8]::(ck b4 205 [.ints .u64 20 (a5)]::(ck b3 88 [uA' (replicate 10 0)]::(ck b2 88 [uA' p1]::(ck b1 88 [uA' p0] :: []))))) t m) big ?_ ?_
    ·exact ⟨0,(replicate 10 0),h,⟨⟨rfl,rfl,rfl,rfl,trivial⟩,(.o (.o (.o (.o (.o .nil)))))⟩⟩
    ·rintro n4 t m ⟨i4,a8,h,hF⟩
     refine Zk hF ?_
     clear hF
     rcases n4 with _ | n4
     · exact Z0a h
     have h:Zly a5 k7 (Zas a5 k7 n4) i4 a8=some r:=h
     unfold Zly at h
     obtain ⟨k8,q8⟩ : ∃ k,k=Zas a5 k7 n4:=⟨_,rfl⟩
     try rw [<- q8] at h
     refine Z0<|Z0<|Z2<|Z7 rfl<|Z6 _ (Z9 rfl rfl rfl)<|Z1<|Z02 h rfl (fun h=>?_) (fun h=>?_)
     ·refine Ze<|Z0<|Za<|cH h fun c10 h=>bH h fun z19 e19 h=>cH h fun c11 h=>bH h fun z20 e20 h=>bH h fun z21 e21 h=>bH h fun z22 e22 h=>bH h fun z23 e23 h=>cH h fun c12 h=>bH h fun l4 g4 h=>Zr<|Z8 _ (Z0u rfl)<|Z8 _ (Z0u rfl)<|Z8 _ (Z1s rfl rfl (Z0j c10))<|Z8 _ (Z0u rfl)<|Z8 _ (iz e19 (Z9 rfl rfl rfl))<|Z8 _ (Z1s rfl rfl (Z0j c11))<|Zn _ (iz e20 (Z3e (base:=0) rfl .t1 rfl (Z03 c10)))<|Zn _ (iz e21 (Z3e (base:=0) rfl .t1 rfl (Z03 c11)))<|Z8 _ (iz e22 (Z9 rfl rfl rfl))<|Z8 _ (iz e23 (Z9 rfl rfl rfl))<|Z8 _ (Z1s rfl rfl (Z0j c12))<|Z1z rfl (Z2l (q:=[uA' l4]) (base:=0) g4 rfl rfl rfl (Z03 c12) rfl .here<|Z00<|bH h fun z24 e24 h=>Z2<|Z7 rfl<|Z6 _ (iz e24 (Z9 rfl rfl rfl))<|Z7 rfl<|Z1 ?_)
      rw [q8] at h
      exact ⟨n4,Nat.lt_succ_self _,z24,l4,h,⟨⟨rfl,rfl,rfl,rfl,trivial⟩,(.o (.o (.o (.o (.o .nil)))))⟩⟩
     ·exact Zx _ rfl<|⟨a8,h,⟨⟨rfl,rfl,trivial⟩,(.o (.o (.o (.o (.o .nil)))))⟩⟩
   ·rintro t m ⟨a7,h,hF⟩
    refine Zk hF ?_
    clear hF
    subst q7
    refine Z0<|oH h fun y1 f1 h=>Z2<|Z6 _ (Zy (p:=[uA' a7]) rfl .here rfl)<|Z6 _ (Z0b rfl (Zb7 f1))<|Zg (Zs (q:=[uA' y1]) rfl rfl rfl rfl rfl .t2<|Z1<|Zi ?_)
    revert h; refine Zt fun h=>?_
    subst h
    exact ⟨_,(.cons (.agg rfl .t2 rfl) .nil),rfl⟩
def Z6s (p0:Int):OL :=
 bnd (Z4 .and .u64 p0 67108863) fun z1 =>
 bnd (Zq .u64 p0 26) fun z2 =>
 bnd (Z4 .and .u64 z2 67108863) fun z3 =>
 bnd (Zq .u64 p0 52) fun z4 =>
 bnd (([z1,z3,z4,0,0,0,0,0,0,0]:LI)) fun z5 =>
 some z5
theorem Z3p {W:World} {r:(LI)} {p0:Int} (h:Z6s p0=some r)  :
    Calls Tryz.prog 176 [.int .u64 (p0)].toArray W (Z36 W (agg [uA' r])):=by
 unfold Z6s at h
 refine Zc mo Z0ob rfl ?_
 refine Z0<|Z2<|Zg (Zv fun b1 u1=>Z1<|Z0<|bH h fun z1 e1 h=>bH h fun z2 e2 h=>bH h fun z3 e3 h=>bH h fun z4 e4 h=>bH h fun z5 e5 h=>Z2<|Z7 rfl<|Z6 _ (iz e1 (Z9 rfl rfl rfl))<|Z7 rfl<|Z6 _ (iz e2 (Z5g rfl rfl (by decide)))<|Z6 _ (iz e3 (Z9 rfl rfl rfl))<|Z7 rfl<|Z6 _ (iz e4 (Z5g rfl rfl (by decide)))<|Z6 _ (az (fun z=>agg [.ints .u64 10 z]) e5 (Zct (.one rfl rfl rfl (.one rfl rfl rfl (.one rfl rfl rfl BdR.nil)))))<|Zg (Zs (q:=[uA' z5]) rfl rfl rfl rfl rfl .here<|Z1<|Zi ?_))
 revert h; refine Zt fun h=>?_
 subst h
 exact ⟨_,(.cons (.agg rfl .here rfl) .nil),rfl⟩
def Zdc (p0:LI) (p1:LI) (k1:(LI)->OL) (k2:Int->(LI)->OL) (i1:Int) (a1:LI):OL :=
 br ((decide (i1≥0))) (
 jn (fun (a2:LI)=>bnd (wrap .i64 (i1-1)) fun z1 =>
 k2 z1 a2) fun k3=>opt (Z2j a1 a1) fun y1 =>
 bnd (wrap .i64 (Int.tdiv i1 8)) fun z2 =>
 chk (inB z2 32) <|
 bnd (p1.getD (z2).toNat 0) fun z3 =>
 bnd (Int.tmod i1 8) fun z4 =>
 chk (decide (0<=z4)) <|
 bnd (Zq .u8 z3 z4) fun z5 =>
 bnd (Z4 .and .u8 z5 1) fun z6 =>
 br ((z6==1)) (
 opt (Z2j y1 p0) fun y2 =>
 k3 y2
 ) (
 k3 y1
 )
 ) (
 k1 a1
 )
def Z9d (p0:LI) (p1:LI) (k1:(LI)->OL):Nat->Int->(LI)->OL
  | 0,_,_=>none
  | n+1,i1,a1=>Zdc p0 p1 k1 (Z9d p0 p1 k1 n) i1 a1
def Zlz (p0:LI) (p1:LI):OL :=
 opt (Z6s 1) fun y1 =>
 jn (fun (a1:LI)=>some a1) fun k1=>Z9d p0 p1 k1 big 255 y1
theorem Zhg {W:World} {r:(LI)} {p0:LI} {p1:LI} (h:Zlz p0 p1=some r)  :
    Calls Tryz.prog 170 [agg [uA' p0],agg [b3' p1]].toArray W (Z36 W (agg [uA' r])):=by
 unfold Zlz at h
 refine Zc mo Z0o5 rfl ?_
 refine Z0<|Z2<|Zg (Z0k (s:=[uA' p0]) rfl fun b1 u1=>Zg (Z0k (s:=[b3' p1]) rfl fun b2 u2=>Zg (Zv fun b3 u3=>Z1<|Z0<|oH h fun y1 f1 h=>Z2<|Z6 _ (Z0b rfl (Z3p f1))<|Zg (Zv fun b4 u4=>Zg (Zs (q:=[uA' y1]) rfl rfl rfl rfl rfl .here<|Z1<|Z0<|Z0<|Z2<|Z7 rfl<|Z1<|jH h fun k1 q1 h=>Zm (G:=fun t m=>∃ (a1:LI),k1 a1=some r/\Fit [(4,pt' b3),(5,pt' b4)] (ck b4 88 [uA' a1]::(ck b3 88 [uA' (replicate 10 0)]::(ck b2 22 [b3' p1]::(ck b1 88 [uA' p0] :: [])))) t m) ?_ ?_)))))
 ·refine Za<|Zp (fun n1 t m=>∃ (i1:Int) (a2:LI),Z9d p0 p1 k1 n1 i1 a2=some r/\Fit [(2,pt' b1),(3,pt' b2),(4,pt' b3),(5,pt' b4),(6,.int .i64 (i1))] (ck b4 88 [uA' a2]::(ck b3 88 [uA' (replicate 10 0)]::(ck b2 22 [b3' p1]::(ck b1 88 [uA' p0] :: [])))) t m) big ?_ ?_
  ·exact ⟨255,y1,h,⟨⟨rfl,rfl,rfl,rfl,rfl,trivial⟩,(.o (.o (.o (.o .nil))))⟩⟩
  ·rintro n1 t m ⟨i1,a2,h,hF⟩
   refine Zk hF ?_
   clear hF
   rcases n1 with _ | n1
   · exact Z0a h
   have h:Zdc p0 p1 k1 (Z9d p0 p1 k1 n1) i1 a2=some r:=h
   unfold Zdc at h
   obtain ⟨k2,q2⟩ : ∃ k,k=Z9d p0 p1 k1 n1:=⟨_,rfl⟩
   try rw [<- q2] at h
   refine Z0<|Z0<|Z2<|Z7 rfl<|Z6 _ (Z9 rfl rfl rfl)<|Z1<|Z02 h rfl (fun h=>?_) (fun h=>?_)
   ·refine Ze<|Z0<|jH h fun k3 q3 h=>Zm (G:=fun t m=>∃ (a3:LI),k3 a3=some r/\Fit [(2,pt' b1),(3,pt' b2),(4,pt' b3),(5,pt' b4),(6,.int .i64 (i1))] (ck b4 88 [uA' a3]::(ck b3 88 [uA' (replicate 10 0)]::(ck b2 22 [b3' p1]::(ck b1 88 [uA' p0] :: [])))) t m) ?_ ?_
    ·refine Za<|Z0<|oH h fun y2 f2 h=>Z2<|Z6 _ (Zy (p:=[uA' a2]) rfl .here rfl)<|Z6 _ (Zy (p:=[uA' a2]) rfl .here rfl)<|Z6 _ (Z0b rfl (Z0c f2))<|Zg (Zs (q:=[uA' y2]) rfl rfl rfl rfl rfl .here<|Z1<|Z0<|bH h fun z1 e1 h=>cH h fun c1 h=>bH h fun z2 e2 h=>bH h fun z3 e3 h=>cH h fun c2 h=>bH h fun z4 e4 h=>bH h fun z5 e5 h=>Z2<|Z7 rfl<|Z6 _ (iz e1 (Zb8 rfl rfl (by decide)))<|Z6 _ (Z1s rfl rfl (Z0j c1))<|Z6 _ (iz e2 (Z3e (base:=0) rfl .t2 rfl (Z03 c1)))<|Z7 rfl<|Z6 _ (iz e3 (Zdl rfl rfl (by decide)))<|Z6 _ (iz e4 (Z5g rfl rfl (of_decide_eq_true c2)))<|Z6 _ (iz e5 (Z9 rfl rfl rfl))<|Z6 _ (Z9 rfl rfl rfl)<|Z1<|Z02 h rfl (fun h=>?_) (fun h=>?_))
     ·exact oH h fun y3 f3 h=>Z2<|Z6 _ (Zy (p:=[uA' y2]) rfl .here rfl)<|Z6 _ (Zy (p:=[uA' p0]) rfl .t3 rfl)<|Z6 _ (Z0b rfl (Z0c f3))<|Zg (Zs (q:=[uA' y3]) rfl rfl rfl rfl rfl .here<|Z1<|⟨y3,h,⟨⟨rfl,rfl,rfl,rfl,rfl,trivial⟩,(.o (.o (.o (.o .nil))))⟩⟩)
     ·exact Ze<|⟨y2,h,⟨⟨rfl,rfl,rfl,rfl,rfl,trivial⟩,(.o (.o (.o (.o .nil))))⟩⟩
    ·rintro t m ⟨a3,h,hF⟩
     refine Zk hF ?_
     clear hF
     subst q3
     refine bH h fun z6 e6 h=>Z2<|Z7 rfl<|Z6 _ (iz e6 (Z9 rfl rfl rfl))<|Z7 rfl<|Z1 ?_
     rw [q2] at h
     exact ⟨n1,Nat.lt_succ_self _,z6,a3,h,⟨⟨rfl,rfl,rfl,rfl,rfl,trivial⟩,(.o (.o (.o (.o .nil))))⟩⟩
   ·exact Zx _ rfl<|⟨a2,h,⟨⟨rfl,rfl,trivial⟩,(.o (.o (.o (.o .nil))))⟩⟩
 ·rintro t m ⟨a1,h,hF⟩
  refine Zk hF ?_
  clear hF
  subst q1
  refine Z0<|Z2<|Z6 _ (Zy (p:=[uA' a1]) rfl .here rfl)<|Zg (Zs (q:=[uA' a1]) rfl rfl rfl rfl rfl .t1<|Z1<|Zi ?_)
  revert h; refine Zt fun h=>?_
  subst h
  exact ⟨_,(.cons (.agg rfl .t1 rfl) .nil),rfl⟩
def Zhh (k1:(LI)->OL) (k2:Int->(LI)->OL) (i1:Int) (a1:LI):OL :=
 br ((decide (i1<32))) (
 chk (inB i1 32) <|
 bnd (Z2u a1 (i1).toNat 255) fun l1 =>
 bnd (wrap .i64 (i1+1)) fun z1 =>
 k2 z1 l1
 ) (
 k1 a1
 )
def Zbv (k1:(LI)->OL):Nat->Int->(LI)->OL
  | 0,_,_=>none
  | n+1,i1,a1=>Zhh k1 (Zbv k1 n) i1 a1
def Zca (p0:Int) (p1:Int):OL :=
 jn (fun (a1:LI)=>bnd (Z2u a1 0 p0) fun l1 =>
 bnd (Z2u l1 31 p1) fun l2 =>
 some l2) fun k1=>Zbv k1 big 0 (replicate 32 0)
theorem Ze4 {W:World} {r:(LI)} {p0:Int} {p1:Int} (h:Zca p0 p1=some r)  :
    Calls Tryz.prog 171 [.int .u8 (p0),.int .u8 (p1)].toArray W (Z36 W (agg [b3' r])):=by
 unfold Zca at h
 refine Zc mo Z0o6 rfl ?_
 refine Z0<|Z2<|Zg (Zv fun b1 u1=>Z1<|Z0<|Z2<|Zg (Zv fun b2 u2=>Z1<|Z0<|Z0<|Z2<|Z7 rfl<|Z1<|jH h fun k1 q1 h=>Zm (G:=fun t m=>∃ (a1:LI),k1 a1=some r/\Fit [(0,.int .u8 (p0)),(1,.int .u8 (p1)),(4,pt' b1),(5,pt' b2)] (ck b2 22 [b3' a1]::(ck b1 22 [b3' (replicate 32 0)] :: [])) t m) ?_ ?_))
 ·refine Za<|Zp (fun n1 t m=>∃ (i1:Int) (a2:LI),Zbv k1 n1 i1 a2=some r/\Fit [(0,.int .u8 (p0)),(1,.int .u8 (p1)),(4,pt' b1),(5,pt' b2),(6,.int .i64 (i1))] (ck b2 22 [b3' a2]::(ck b1 22 [b3' (replicate 32 0)] :: [])) t m) big ?_ ?_
  ·exact ⟨0,(replicate 32 0),h,⟨⟨rfl,rfl,rfl,rfl,rfl,trivial⟩,(.o (.o .nil))⟩⟩
  ·rintro n1 t m ⟨i1,a2,h,hF⟩
   refine Zk hF ?_
   clear hF
   rcases n1 with _ | n1
   · exact Z0a h
   have h:Zhh k1 (Zbv k1 n1) i1 a2=some r:=h
   unfold Zhh at h
   obtain ⟨k2,q2⟩ : ∃ k,k=Zbv k1 n1:=⟨_,rfl⟩
   try rw [<- q2] at h
   refine Z0<|Z0<|Z2<|Z7 rfl<|Z6 _ (Z9 rfl rfl rfl)<|Z1<|Z02 h rfl (fun h=>?_) (fun h=>?_)
   ·refine Ze<|Z0<|Za<|cH h fun c1 h=>bH h fun l1 g1 h=>Z2<|Z7 rfl<|Z6 _ (Z1s rfl rfl (Z0j c1))<|Zg (Z2l (q:=[b3' l1]) (base:=0) g1 rfl rfl rfl (Z03 c1) rfl .here<|Z1<|bH h fun z1 e1 h=>Z2<|Z7 rfl<|Z6 _ (iz e1 (Z9 rfl rfl rfl))<|Z7 rfl<|Z1 ?_)
    rw [q2] at h
    exact ⟨n1,Nat.lt_succ_self _,z1,l1,h,⟨⟨rfl,rfl,rfl,rfl,rfl,trivial⟩,(.o (.o .nil))⟩⟩
   ·exact Zx _ rfl<|⟨a2,h,⟨⟨rfl,rfl,rfl,rfl,trivial⟩,(.o (.o .nil))⟩⟩
 ·rintro t m ⟨a1,h,hF⟩
  refine Zk hF ?_
  clear hF
  subst q1
  refine Z0<|bH h fun l2 g2 h=>Z2<|Z7 rfl<|Z6 _ (Z1s rfl rfl (by decide))<|Zg (Z85 (q:=[b3' l2]) (congrArg (fun z=>([b3' z]:List Seg)) g2.symm) rfl rfl rfl rfl .here<|Z1<|Z0<|bH h fun l3 g3 h=>Z2<|Z7 rfl<|Z6 _ (Z1s rfl rfl (by decide))<|Zg (Z85 (q:=[b3' l3]) (congrArg (fun z=>([b3' z]:List Seg)) g3.symm) rfl rfl rfl rfl .here<|Z1<|Z0<|Z2<|Z6 _ (Zy (p:=[b3' l3]) rfl .here rfl)<|Zg (Zs (q:=[b3' l3]) rfl rfl rfl rfl rfl .t1<|Z1<|Zi ?_)))
  revert h; refine Zt fun h=>?_
  subst h
  exact ⟨_,(.cons (.agg rfl .t1 rfl) .nil),rfl⟩
def Zap (p0:LI):OL :=
 opt (Zca 235 127) fun y1 =>
 opt (Zlz p0 y1) fun y2 =>
 some y2
theorem Zcm {W:World} {r:(LI)} {p0:LI} (h:Zap p0=some r)  :
    Calls Tryz.prog 102 [agg [uA' p0]].toArray W (Z36 W (agg [uA' r])):=by
 unfold Zap at h
 refine Zc mo Z0mi rfl ?_
 refine Z0<|Z2<|Zg (Z0k (s:=[uA' p0]) rfl fun b1 u1=>Zg (Zv fun b2 u2=>Z1<|Z0<|oH h fun y1 f1 h=>oH h fun y2 f2 h=>Zr<|Z8 _ (Z0b rfl (Ze4 f1))<|Zn _ (Zy (p:=[uA' p0]) rfl .t1 rfl)<|Z8 _ (Z0b rfl (Zhg f2))<|Z1z rfl (Zs (q:=[uA' y2]) rfl rfl rfl rfl rfl .here<|Z00<|Zi ?_)))
 revert h; refine Zt fun h=>?_
 subst h
 exact ⟨_,(.cons (.agg rfl .here rfl) .nil),rfl⟩
def Zbt (p0:LI) (k1:(LI)->OL) (k2:Int->(LI)->OL) (i1:Int) (a1:LI):OL :=
 br ((decide (i1<255))) (
 bnd (wrap .i64 (Int.tdiv i1 26)) fun z1 =>
 chk (inB z1 10) <|
 bnd (p0.getD (z1).toNat 0) fun z2 =>
 bnd (Int.tmod i1 26) fun z3 =>
 chk (decide (0<=z3)) <|
 bnd (Zq .u64 z2 z3) fun z4 =>
 bnd (Z4 .and .u64 z4 1) fun z5 =>
 bnd (wrap .u8 z5) fun z6 =>
 bnd (wrap .i64 (Int.tdiv i1 8)) fun z7 =>
 bnd (wrap .i64 (Int.tdiv i1 8)) fun z8 =>
 chk (inB z8 32) <|
 bnd (Int.tmod i1 8) fun z9 =>
 chk (decide (0<=z9)) <|
 bnd (Zl .u8 z6 z9) fun z10 =>
 bnd (a1.getD (z8).toNat 0) fun z11 =>
 bnd (wrap .u8 (z11+z10)) fun z12 =>
 chk (inB z7 32) <|
 bnd (Z2u a1 (z7).toNat z12) fun l1 =>
 bnd (wrap .i64 (i1+1)) fun z13 =>
 k2 z13 l1
 ) (
 k1 a1
 )
def Z72 (p0:LI) (k1:(LI)->OL):Nat->Int->(LI)->OL
  | 0,_,_=>none
  | n+1,i1,a1=>Zbt p0 k1 (Z72 p0 k1 n) i1 a1
def Zge (p0:LI):OL :=
 jn (fun (a1:LI)=>some a1) fun k1=>Z72 p0 k1 big 0 (replicate 32 0)
theorem Zi8 {W:World} {r:(LI)} {p0:LI} (h:Zge p0=some r)  :
    Calls Tryz.prog 103 [agg [uA' p0]].toArray W (Z36 W (agg [b3' r])):=by
 unfold Zge at h
 refine Zc mo Z0mj rfl ?_
 refine Z0<|Z2<|Zg (Z0k (s:=[uA' p0]) rfl fun b1 u1=>Zg (Zv fun b2 u2=>Z1<|Z0<|Z2<|Zg (Zv fun b3 u3=>Z1<|Z0<|Z0<|Z2<|Z7 rfl<|Z1<|jH h fun k1 q1 h=>Zm (G:=fun t m=>∃ (a1:LI),k1 a1=some r/\Fit [(2,pt' b2),(3,pt' b3)] (ck b3 22 [b3' a1]::(ck b2 22 [b3' (replicate 32 0)]::(ck b1 88 [uA' p0] :: []))) t m) ?_ ?_)))
 ·refine Za<|Zp (fun n1 t m=>∃ (i1:Int) (a2:LI),Z72 p0 k1 n1 i1 a2=some r/\Fit [(1,pt' b1),(2,pt' b2),(3,pt' b3),(4,.int .i64 (i1))] (ck b3 22 [b3' a2]::(ck b2 22 [b3' (replicate 32 0)]::(ck b1 88 [uA' p0] :: []))) t m) big ?_ ?_
  ·exact ⟨0,(replicate 32 0),h,⟨⟨rfl,rfl,rfl,rfl,trivial⟩,(.o (.o (.o .nil)))⟩⟩
  ·rintro n1 t m ⟨i1,a2,h,hF⟩
   refine Zk hF ?_
   clear hF
   rcases n1 with _ | n1
   · exact Z0a h
   have h:Zbt p0 k1 (Z72 p0 k1 n1) i1 a2=some r:=h
   unfold Zbt at h
   obtain ⟨k2,q2⟩ : ∃ k,k=Z72 p0 k1 n1:=⟨_,rfl⟩
   try rw [<- q2] at h
   refine Z0<|Z0<|Z2<|Z7 rfl<|Z6 _ (Z9 rfl rfl rfl)<|Z1<|Z02 h rfl (fun h=>?_) (fun h=>?_)
   ·refine Ze<|Z0<|Za<|Z0<|bH h fun z1 e1 h=>cH h fun c1 h=>bH h fun z2 e2 h=>bH h fun z3 e3 h=>cH h fun c2 h=>bH h fun z4 e4 h=>bH h fun z5 e5 h=>bH h fun z6 e6 h=>Z2<|Z7 rfl<|Z6 _ (iz e1 (Zb8 rfl rfl (by decide)))<|Z6 _ (Z1s rfl rfl (Z0j c1))<|Z6 _ (iz e2 (Z3e (base:=0) rfl .t2 rfl (Z03 c1)))<|Z7 rfl<|Z6 _ (iz e3 (Zdl rfl rfl (by decide)))<|Z6 _ (iz e4 (Z5g rfl rfl (of_decide_eq_true c2)))<|Z6 _ (iz e5 (Z9 rfl rfl rfl))<|Z6 _ (iz e6 (Z4k rfl))<|Z7 rfl<|Z1<|bH h fun z7 e7 h=>bH h fun z8 e8 h=>cH h fun c3 h=>bH h fun z9 e9 h=>cH h fun c4 h=>bH h fun z10 e10 h=>bH h fun z11 e11 h=>bH h fun z12 e12 h=>cH h fun c5 h=>bH h fun l1 g1 h=>Zr<|Z8 _ (Z0u rfl)<|Z8 _ (iz e7 (Zb8 rfl rfl (by decide)))<|Z8 _ (Z0u rfl)<|Z8 _ (iz e8 (Zb8 rfl rfl (by decide)))<|Z8 _ (Z1s rfl rfl (Z0j c3))<|Z8 _ (Z0u rfl)<|Z8 _ (Z0u rfl)<|Z8 _ (iz e9 (Zdl rfl rfl (by decide)))<|Z8 _ (iz e10 (Zkk rfl rfl (of_decide_eq_true c4)))<|Zn _ (iz e11 (Z3e (base:=0) rfl .here rfl (Z03 c3)))<|Z8 _ (iz e12 (Z9 rfl rfl rfl))<|Z8 _ (Z1s rfl rfl (Z0j c5))<|Z1z rfl (Z2l (q:=[b3' l1]) (base:=0) g1 rfl rfl rfl (Z03 c5) rfl .here<|Z00<|bH h fun z13 e13 h=>Z2<|Z7 rfl<|Z6 _ (iz e13 (Z9 rfl rfl rfl))<|Z7 rfl<|Z1 ?_)
    rw [q2] at h
    exact ⟨n1,Nat.lt_succ_self _,z13,l1,h,⟨⟨rfl,rfl,rfl,rfl,trivial⟩,(.o (.o (.o .nil)))⟩⟩
   ·exact Zx _ rfl<|⟨a2,h,⟨⟨rfl,rfl,trivial⟩,(.o (.o (.o .nil)))⟩⟩
 ·rintro t m ⟨a1,h,hF⟩
  refine Zk hF ?_
  clear hF
  subst q1
  refine Z0<|Z2<|Z6 _ (Zy (p:=[b3' a1]) rfl .here rfl)<|Zg (Zs (q:=[b3' a1]) rfl rfl rfl rfl rfl .t1<|Z1<|Zi ?_)
  revert h; refine Zt fun h=>?_
  subst h
  exact ⟨_,(.cons (.agg rfl .t1 rfl) .nil),rfl⟩
def Zgf (p0:LI):Option Bool :=
 bnd (p0.getD 0 0) fun z1 =>
 bnd (Z4 .and .u64 z1 1) fun z2 =>
 some (z2==1)
theorem Zi9 {W:World} {r:Bool} {p0:LI} (h:Zgf p0=some r)  :
    Calls Tryz.prog 105 [agg [uA' p0]].toArray W (Z36 W (.bool (r))):=by
 unfold Zgf at h
 refine Zc mo Z0ml rfl ?_
 refine Z0<|Z2<|Zg (Z0k (s:=[uA' p0]) rfl fun b1 u1=>Z7 rfl<|Z1<|Z0<|bH h fun z1 e1 h=>bH h fun z2 e2 h=>Z2<|Z6 _ (Z1s rfl rfl (by decide))<|Z6 _ (iz e1 (Z1y rfl .here rfl))<|Z6 _ (iz e2 (Z9 rfl rfl rfl))<|Z6 _ (Z9 rfl rfl rfl)<|Z7 rfl<|Z1<|Zi ?_)
 revert h; refine Zt fun h=>?_
 subst h
 exact ⟨_,(.cons (.tmp rfl) .nil),rfl⟩
structure Z21 where
  gX:LI
  gY:LI
  gZ:LI
def Z76:Z21:=⟨(replicate 10 0),(replicate 10 0),(replicate 10 0)⟩
def Zfo (p0:Z21):OL :=
 opt (Zap p0.gZ) fun y1 =>
 opt (Z2j p0.gY y1) fun y2 =>
 opt (Zge y2) fun y3 =>
 opt (Z2j p0.gX y1) fun y4 =>
 opt (Zgf y4) fun y5 =>
 jn (fun (a1:LI)=>some a1) fun k1=>br (y5) (
 bnd (y3.getD 31 0) fun z1 =>
 bnd (wrap .u8 (z1+128)) fun z2 =>
 bnd (Z2u y3 31 z2) fun l1 =>
 k1 l1
 ) (
 k1 y3
 )
theorem Zn1 {W:World} {r:(LI)} {p0:Z21} (h:Zfo p0=some r)  :
    Calls Tryz.prog 54 [agg [uA' p0.gX,uA' p0.gY,uA' p0.gZ]].toArray W (Z36 W (agg [b3' r])):=by
 unfold Zfo at h
 refine Zc mo ok54 rfl ?_
 refine Z0<|Z2<|Zg (Z0k (s:=[uA' p0.gX,uA' p0.gY,uA' p0.gZ]) rfl fun b1 u1=>Zg (Zv fun b2 u2=>Z1<|Z0<|oH h fun y1 f1 h=>Z2<|Z6 _ (Z4f rfl)<|Z6 _ (Zy (p:=[uA' p0.gZ]) rfl .t1 rfl)<|Z6 _ (Z0b rfl (Zcm f1))<|Zg (Zv fun b3 u3=>Zg (Zs (q:=[uA' y1]) rfl rfl rfl rfl rfl .here<|Z1<|Z0<|oH h fun y2 f2 h=>oH h fun y3 f3 h=>Z2<|Z6 _ (Z4f rfl)<|Z6 _ (Zy (p:=[uA' p0.gY]) rfl .t2 rfl)<|Z6 _ (Zy (p:=[uA' y1]) rfl .here rfl)<|Z6 _ (Z0b rfl (Z0c f2))<|Z6 _ (Z0b rfl (Zi8 f3))<|Zg (Zv fun b4 u4=>Zg (Zs (q:=[b3' y3]) rfl rfl rfl rfl rfl .here<|Z1<|Z0<|Z0<|oH h fun y4 f4 h=>oH h fun y5 f5 h=>Z2<|Z6 _ (Z4f rfl)<|Z6 _ (Zy (p:=[uA' p0.gX]) rfl .t3 rfl)<|Z6 _ (Zy (p:=[uA' y1]) rfl .t1 rfl)<|Z6 _ (Z0b rfl (Z0c f4))<|Z6 _ (Z0b rfl (Zi9 f5))<|Z1<|jH h fun k1 q1 h=>Zm (G:=fun t m=>∃ (a1:LI),k1 a1=some r/\Fit [(2,pt' b2),(4,pt' b4)] (ck b4 22 [b3' a1]::(ck b3 88 [uA' y1]::(ck b2 29 [b3' (replicate 32 0)]::(ck b1 90 [uA' p0.gX,uA' p0.gY,uA' p0.gZ] :: [])))) t m) ?_ ?_))))))
 ·refine Z02 h rfl (fun h=>?_) (fun h=>?_)
  ·exact bH h fun z1 e1 h=>bH h fun z2 e2 h=>bH h fun l1 g1 h=>Z2<|Z6 _ (Z1s rfl rfl (by decide))<|Z6 _ (iz e1 (Z1y rfl .here rfl))<|Z6 _ (iz e2 (Z9 rfl rfl rfl))<|Z6 _ (Z1s rfl rfl (by decide))<|Zg (Z85 (q:=[b3' l1]) (congrArg (fun z=>([b3' z]:List Seg)) g1.symm) rfl rfl rfl rfl .here<|Z1<|⟨l1,h,⟨⟨rfl,rfl,trivial⟩,(.o (.o (.o (.o .nil))))⟩⟩)
  ·exact Ze<|⟨y3,h,⟨⟨rfl,rfl,trivial⟩,(.o (.o (.o (.o .nil))))⟩⟩
 ·rintro t m ⟨a1,h,hF⟩
  refine Zk hF ?_
  clear hF
  subst q1
  refine Z0<|Z2<|Z6 _ (Zy (p:=[b3' a1]) rfl .here rfl)<|Zg (Zs (q:=[b3' a1]) rfl rfl rfl rfl rfl .t2<|Z1<|Zi ?_)
  revert h; refine Zt fun h=>?_
  subst h
  exact ⟨_,(.cons (.agg rfl .t2 rfl) .nil),rfl⟩
def Zia (p0:LI):OL :=
 opt (Ze6) fun y1 =>
 opt (Z89 y1 p0) fun y2 =>
 opt (Z9b y2) fun y3 =>
 some y3
theorem Ze3 {W:World} {r:(LI)} {p0:LI} (h:Zia p0=some r)  :
    Calls Tryz.prog 142 [agg [uA' p0]].toArray W (Z36 W (agg [uA' r])):=by
 unfold Zia at h
 refine Zc mo Z0ng rfl ?_
 refine Z0<|Z2<|Zg (Z0k (s:=[uA' p0]) rfl fun b1 u1=>Zg (Zv fun b2 u2=>Z1<|Z0<|oH h fun y1 f1 h=>oH h fun y2 f2 h=>oH h fun y3 f3 h=>Zr<|Z8 _ (Z0b rfl (Zib f1))<|Zn _ (Zy (p:=[uA' p0]) rfl .t1 rfl)<|Z8 _ (Z0b rfl (Zem f2))<|Z8 _ (Z0b rfl (Zb7 f3))<|Z1z rfl (Zs (q:=[uA' y3]) rfl rfl rfl rfl rfl .here<|Z00<|Zi ?_)))
 revert h; refine Zt fun h=>?_
 subst h
 exact ⟨_,(.cons (.agg rfl .here rfl) .nil),rfl⟩
def Zlx (p1:LI) (k1:(LI)->OL) (k2:Int->(LI)->OL) (i1:Int) (a1:LI):OL :=
 br ((decide (i1<10))) (
 chk (inB i1 10) <|
 chk (inB i1 10) <|
 bnd (a1.getD (i1).toNat 0) fun z1 =>
 bnd (p1.getD (i1).toNat 0) fun z2 =>
 bnd (wrap .u64 (z1+z2)) fun z3 =>
 chk (inB i1 10) <|
 bnd (Z2u a1 (i1).toNat z3) fun l1 =>
 bnd (wrap .i64 (i1+1)) fun z4 =>
 k2 z4 l1
 ) (
 k1 a1
 )
def Zdb (p1:LI) (k1:(LI)->OL):Nat->Int->(LI)->OL
  | 0,_,_=>none
  | n+1,i1,a1=>Zlx p1 k1 (Zdb p1 k1 n) i1 a1
def Zel (p0:LI) (p1:LI):OL :=
 jn (fun (a1:LI)=>opt (Z9b a1) fun y1 =>
 some y1) fun k1=>Zdb p1 k1 big 0 p0
theorem Z71 {W:World} {r:(LI)} {p0:LI} {p1:LI} (h:Zel p0 p1=some r)  :
    Calls Tryz.prog 194 [agg [uA' p0],agg [uA' p1]].toArray W (Z36 W (agg [uA' r])):=by
 unfold Zel at h
 refine Zc mo Z0op rfl ?_
 refine Z0<|Z2<|Zg (Z0k (s:=[uA' p0]) rfl fun b1 u1=>Zg (Z0k (s:=[uA' p1]) rfl fun b2 u2=>Zg (Zv fun b3 u3=>Z1<|Z0<|Z0<|Z2<|Z7 rfl<|Z1<|jH h fun k1 q1 h=>Zm (G:=fun t m=>∃ (a1:LI),k1 a1=some r/\Fit [(2,pt' b1),(4,pt' b3)] (ck b3 88 [uA' (replicate 10 0)]::(ck b2 88 [uA' p1]::(ck b1 88 [uA' a1] :: []))) t m) ?_ ?_)))
 ·refine Za<|Zp (fun n1 t m=>∃ (i1:Int) (a2:LI),Zdb p1 k1 n1 i1 a2=some r/\Fit [(2,pt' b1),(3,pt' b2),(4,pt' b3),(5,.int .i64 (i1))] (ck b3 88 [uA' (replicate 10 0)]::(ck b2 88 [uA' p1]::(ck b1 88 [uA' a2] :: []))) t m) big ?_ ?_
  ·exact ⟨0,p0,h,⟨⟨rfl,rfl,rfl,rfl,trivial⟩,(.o (.o (.o .nil)))⟩⟩
  ·rintro n1 t m ⟨i1,a2,h,hF⟩
   refine Zk hF ?_
   clear hF
   rcases n1 with _ | n1
   · exact Z0a h
   have h:Zlx p1 k1 (Zdb p1 k1 n1) i1 a2=some r:=h
   unfold Zlx at h
   obtain ⟨k2,q2⟩ : ∃ k,k=Zdb p1 k1 n1:=⟨_,rfl⟩
   try rw [<- q2] at h
   refine Z0<|Z0<|Z2<|Z7 rfl<|Z6 _ (Z9 rfl rfl rfl)<|Z1<|Z02 h rfl (fun h=>?_) (fun h=>?_)
   ·refine Ze<|Z0<|Za<|cH h fun c1 h=>cH h fun c2 h=>bH h fun z1 e1 h=>bH h fun z2 e2 h=>bH h fun z3 e3 h=>cH h fun c3 h=>bH h fun l1 g1 h=>Zr<|Z8 _ (Z0u rfl)<|Z8 _ (Z0u rfl)<|Z8 _ (Z1s rfl rfl (Z0j c1))<|Z8 _ (Z0u rfl)<|Z8 _ (Z1s rfl rfl (Z0j c2))<|Zn _ (iz e1 (Z3e (base:=0) rfl .t2 rfl (Z03 c1)))<|Zn _ (iz e2 (Z3e (base:=0) rfl .t1 rfl (Z03 c2)))<|Z8 _ (iz e3 (Z9 rfl rfl rfl))<|Z8 _ (Z1s rfl rfl (Z0j c3))<|Z1z rfl (Z2l (q:=[uA' l1]) (base:=0) g1 rfl rfl rfl (Z03 c3) rfl .t2<|Z00<|bH h fun z4 e4 h=>Z2<|Z7 rfl<|Z6 _ (iz e4 (Z9 rfl rfl rfl))<|Z7 rfl<|Z1 ?_)
    rw [q2] at h
    exact ⟨n1,Nat.lt_succ_self _,z4,l1,h,⟨⟨rfl,rfl,rfl,rfl,trivial⟩,(.o (.o (.o .nil)))⟩⟩
   ·exact Zx _ rfl<|⟨a2,h,⟨⟨rfl,rfl,trivial⟩,(.o (.o (.o .nil)))⟩⟩
 ·rintro t m ⟨a1,h,hF⟩
  refine Zk hF ?_
  clear hF
  subst q1
  refine Z0<|oH h fun y1 f1 h=>Z2<|Z6 _ (Zy (p:=[uA' a1]) rfl .t2 rfl)<|Z6 _ (Z0b rfl (Zb7 f1))<|Zg (Zs (q:=[uA' y1]) rfl rfl rfl rfl rfl .here<|Z1<|Zi ?_)
  revert h; refine Zt fun h=>?_
  subst h
  exact ⟨_,(.cons (.agg rfl .here rfl) .nil),rfl⟩
def Zjz (p0:LI) (p1:LI):OL :=
 opt (Zia p1) fun y1 =>
 opt (Zel p0 y1) fun y2 =>
 some y2
theorem Ze5 {W:World} {r:(LI)} {p0:LI} {p1:LI} (h:Zjz p0 p1=some r)  :
    Calls Tryz.prog 193 [agg [uA' p0],agg [uA' p1]].toArray W (Z36 W (agg [uA' r])):=by
 unfold Zjz at h
 refine Zc mo Z0oo rfl ?_
 refine Z0<|Z2<|Zg (Z0k (s:=[uA' p0]) rfl fun b1 u1=>Zg (Z0k (s:=[uA' p1]) rfl fun b2 u2=>Zg (Zv fun b3 u3=>Z1<|Z0<|oH h fun y1 f1 h=>oH h fun y2 f2 h=>Zr<|Zn _ (Zy (p:=[uA' p0]) rfl .t2 rfl)<|Zn _ (Zy (p:=[uA' p1]) rfl .t1 rfl)<|Z8 _ (Z0b rfl (Ze3 f1))<|Z8 _ (Z0b rfl (Z71 f2))<|Z1z rfl (Zs (q:=[uA' y2]) rfl rfl rfl rfl rfl .here<|Z00<|Zi ?_))))
 revert h; refine Zt fun h=>?_
 subst h
 exact ⟨_,(.cons (.agg rfl .here rfl) .nil),rfl⟩
def Z73 (p0:LI) (k1:(LI)->OL) (k2:Int->(LI)->OL) (i1:Int) (a1:LI):OL :=
 br ((decide (i1<255))) (
 bnd (wrap .i64 (Int.tdiv i1 8)) fun z1 =>
 chk (inB z1 32) <|
 bnd (p0.getD (z1).toNat 0) fun z2 =>
 bnd (Int.tmod i1 8) fun z3 =>
 chk (decide (0<=z3)) <|
 bnd (Zq .u8 z2 z3) fun z4 =>
 bnd (Z4 .and .u8 z4 1) fun z5 =>
 bnd (wrap .u64 z5) fun z6 =>
 bnd (wrap .i64 (Int.tdiv i1 26)) fun z7 =>
 bnd (wrap .i64 (Int.tdiv i1 26)) fun z8 =>
 chk (inB z8 10) <|
 bnd (Int.tmod i1 26) fun z9 =>
 chk (decide (0<=z9)) <|
 bnd (Zl .u64 z6 z9) fun z10 =>
 bnd (a1.getD (z8).toNat 0) fun z11 =>
 bnd (wrap .u64 (z11+z10)) fun z12 =>
 chk (inB z7 10) <|
 bnd (Z2u a1 (z7).toNat z12) fun l1 =>
 bnd (wrap .i64 (i1+1)) fun z13 =>
 k2 z13 l1
 ) (
 k1 a1
 )
def Z3x (p0:LI) (k1:(LI)->OL):Nat->Int->(LI)->OL
  | 0,_,_=>none
  | n+1,i1,a1=>Z73 p0 k1 (Z3x p0 k1 n) i1 a1
def Z5z (p0:LI):OL :=
 jn (fun (a1:LI)=>opt (Z9b a1) fun y1 =>
 some y1) fun k1=>Z3x p0 k1 big 0 (replicate 10 0)
theorem Z9x {W:World} {r:(LI)} {p0:LI} (h:Z5z p0=some r)  :
    Calls Tryz.prog 139 [agg [b3' p0]].toArray W (Z36 W (agg [uA' r])):=by
 unfold Z5z at h
 refine Zc mo Z0nd rfl ?_
 refine Z0<|Z2<|Zg (Z0k (s:=[b3' p0]) rfl fun b1 u1=>Zg (Zv fun b2 u2=>Z1<|Z0<|Z2<|Zg (Zv fun b3 u3=>Z1<|Z0<|Z0<|Z2<|Z7 rfl<|Z1<|jH h fun k1 q1 h=>Zm (G:=fun t m=>∃ (a1:LI),k1 a1=some r/\Fit [(2,pt' b2),(3,pt' b3)] (ck b3 88 [uA' a1]::(ck b2 88 [uA' (replicate 10 0)]::(ck b1 22 [b3' p0] :: []))) t m) ?_ ?_)))
 ·refine Za<|Zp (fun n1 t m=>∃ (i1:Int) (a2:LI),Z3x p0 k1 n1 i1 a2=some r/\Fit [(1,pt' b1),(2,pt' b2),(3,pt' b3),(4,.int .i64 (i1))] (ck b3 88 [uA' a2]::(ck b2 88 [uA' (replicate 10 0)]::(ck b1 22 [b3' p0] :: []))) t m) big ?_ ?_
  ·exact ⟨0,(replicate 10 0),h,⟨⟨rfl,rfl,rfl,rfl,trivial⟩,(.o (.o (.o .nil)))⟩⟩
  ·rintro n1 t m ⟨i1,a2,h,hF⟩
   refine Zk hF ?_
   clear hF
   rcases n1 with _ | n1
   · exact Z0a h
   have h:Z73 p0 k1 (Z3x p0 k1 n1) i1 a2=some r:=h
   unfold Z73 at h
   obtain ⟨k2,q2⟩ : ∃ k,k=Z3x p0 k1 n1:=⟨_,rfl⟩
   try rw [<- q2] at h
   refine Z0<|Z0<|Z2<|Z7 rfl<|Z6 _ (Z9 rfl rfl rfl)<|Z1<|Z02 h rfl (fun h=>?_) (fun h=>?_)
   ·refine Ze<|Z0<|Za<|Z0<|bH h fun z1 e1 h=>cH h fun c1 h=>bH h fun z2 e2 h=>bH h fun z3 e3 h=>cH h fun c2 h=>bH h fun z4 e4 h=>bH h fun z5 e5 h=>bH h fun z6 e6 h=>Z2<|Z7 rfl<|Z6 _ (iz e1 (Zb8 rfl rfl (by decide)))<|Z6 _ (Z1s rfl rfl (Z0j c1))<|Z6 _ (iz e2 (Z3e (base:=0) rfl .t2 rfl (Z03 c1)))<|Z7 rfl<|Z6 _ (iz e3 (Zdl rfl rfl (by decide)))<|Z6 _ (iz e4 (Z5g rfl rfl (of_decide_eq_true c2)))<|Z6 _ (iz e5 (Z9 rfl rfl rfl))<|Z6 _ (iz e6 (Z4k rfl))<|Z7 rfl<|Z1<|bH h fun z7 e7 h=>bH h fun z8 e8 h=>cH h fun c3 h=>bH h fun z9 e9 h=>cH h fun c4 h=>bH h fun z10 e10 h=>bH h fun z11 e11 h=>bH h fun z12 e12 h=>cH h fun c5 h=>bH h fun l1 g1 h=>Zr<|Z8 _ (Z0u rfl)<|Z8 _ (iz e7 (Zb8 rfl rfl (by decide)))<|Z8 _ (Z0u rfl)<|Z8 _ (iz e8 (Zb8 rfl rfl (by decide)))<|Z8 _ (Z1s rfl rfl (Z0j c3))<|Z8 _ (Z0u rfl)<|Z8 _ (Z0u rfl)<|Z8 _ (iz e9 (Zdl rfl rfl (by decide)))<|Z8 _ (iz e10 (Zkk rfl rfl (of_decide_eq_true c4)))<|Zn _ (iz e11 (Z3e (base:=0) rfl .here rfl (Z03 c3)))<|Z8 _ (iz e12 (Z9 rfl rfl rfl))<|Z8 _ (Z1s rfl rfl (Z0j c5))<|Z1z rfl (Z2l (q:=[uA' l1]) (base:=0) g1 rfl rfl rfl (Z03 c5) rfl .here<|Z00<|bH h fun z13 e13 h=>Z2<|Z7 rfl<|Z6 _ (iz e13 (Z9 rfl rfl rfl))<|Z7 rfl<|Z1 ?_)
    rw [q2] at h
    exact ⟨n1,Nat.lt_succ_self _,z13,l1,h,⟨⟨rfl,rfl,rfl,rfl,trivial⟩,(.o (.o (.o .nil)))⟩⟩
   ·exact Zx _ rfl<|⟨a2,h,⟨⟨rfl,rfl,trivial⟩,(.o (.o (.o .nil)))⟩⟩
 ·rintro t m ⟨a1,h,hF⟩
  refine Zk hF ?_
  clear hF
  subst q1
  refine Z0<|oH h fun y1 f1 h=>Z2<|Z6 _ (Zy (p:=[uA' a1]) rfl .here rfl)<|Z6 _ (Z0b rfl (Zb7 f1))<|Zg (Zs (q:=[uA' y1]) rfl rfl rfl rfl rfl .t1<|Z1<|Zi ?_)
  revert h; refine Zt fun h=>?_
  subst h
  exact ⟨_,(.cons (.agg rfl .t1 rfl) .nil),rfl⟩
def q7_D:OL :=
 bnd (([163,120,89,19,202,77,235,117,171,216,65,65,77,10,112,0,152,232,121,119,121,64,199,140,115,254,111,43,238,108,3,82]:LI)) fun z1 =>
 opt (Z5z z1) fun y1 =>
 some y1
theorem Zqu {W:World} {r:(LI)} (h:q7_D=some r)  :
    Calls Tryz.prog 195 [].toArray W (Z36 W (agg [uA' r])):=by
 unfold q7_D at h
 refine Zc mo Z0oq rfl ?_
 refine Z0<|Z2<|Zg (Zv fun b1 u1=>Z1<|Z0<|bH h fun z1 e1 h=>oH h fun y1 f1 h=>Z2<|Z6 _ (az (fun z=>agg [.ints .u8 32 z]) e1 (Zct (.one rfl rfl rfl (.one rfl rfl rfl (.one rfl rfl rfl (.one rfl rfl rfl (.one rfl rfl rfl (.one rfl rfl rfl (.one rfl rfl rfl (.one rfl rfl rfl (.one rfl rfl rfl (.one rfl rfl rfl (.one rfl rfl rfl (.one rfl rfl rfl (.one rfl rfl rfl (.one rfl rfl rfl (.one rfl rfl rfl (.one rfl rfl rfl (.one rfl rfl rfl (.one rfl rfl rfl (.one rfl rfl rfl (.one rfl rfl rfl (.one rfl rfl rfl (.one rfl rfl rfl (.one rfl rfl rfl (.one rfl rfl rfl (.one rfl rfl rfl (.one rfl rfl rfl (.one rfl rfl rfl (.one rfl rfl rfl (.one rfl rfl rfl (.one rfl rfl rfl (.one rfl rfl rfl (.one rfl rfl rfl BdR.nil))))))))))))))))))))))))))))))))))<|Z6 _ (Z0b rfl (Z9x f1))<|Zg (Zs (q:=[uA' y1]) rfl rfl rfl rfl rfl .here<|Z1<|Zi ?_))
 revert h; refine Zt fun h=>?_
 subst h
 exact ⟨_,(.cons (.agg rfl .here rfl) .nil),rfl⟩
def Zk2 (p0:Z21) (p1:Z21):Option (Z21) :=
 opt (Z2j p0.gZ p1.gZ) fun y1 =>
 opt (Z2j y1 y1) fun y2 =>
 opt (Z2j p0.gX p1.gX) fun y3 =>
 opt (Z2j p0.gY p1.gY) fun y4 =>
 opt (q7_D) fun y5 =>
 opt (Z2j y3 y4) fun y6 =>
 opt (Z2j y5 y6) fun y7 =>
 opt (Zjz y2 y7) fun y8 =>
 opt (Zel y2 y7) fun y9 =>
 opt (Z2j p0.gX p1.gY) fun y10 =>
 opt (Z2j p0.gY p1.gX) fun y11 =>
 opt (Zel y10 y11) fun y12 =>
 opt (Z2j y1 y8) fun y13 =>
 opt (Z2j y13 y12) fun y14 =>
 opt (Z2j y1 y9) fun y15 =>
 opt (Zel y4 y3) fun y16 =>
 opt (Z2j y15 y16) fun y17 =>
 opt (Z2j y8 y9) fun y18 =>
 some (⟨y14,y17,y18⟩:Z21)
theorem Ze7 {W:World} {r:Z21} {p0:Z21} {p1:Z21} (h:Zk2 p0 p1=some r)  :
    Calls Tryz.prog 146 [agg [uA' p0.gX,uA' p0.gY,uA' p0.gZ],agg [uA' p1.gX,uA' p1.gY,uA' p1.gZ]].toArray W (Z36 W (agg [uA' r.gX,uA' r.gY,uA' r.gZ])):=by
 unfold Zk2 at h
 refine Zc mo Z0nk rfl ?_
 refine Z0<|Z2<|Zg (Z0k (s:=[uA' p0.gX,uA' p0.gY,uA' p0.gZ]) rfl fun b1 u1=>Zg (Z0k (s:=[uA' p1.gX,uA' p1.gY,uA' p1.gZ]) rfl fun b2 u2=>Zg (Zv fun b3 u3=>Z1<|Z0<|oH h fun y1 f1 h=>Z2<|Z6 _ (Z4f rfl)<|Z6 _ (Zy (p:=[uA' p0.gZ]) rfl .t2 rfl)<|Z6 _ (Z4f rfl)<|Z6 _ (Zy (p:=[uA' p1.gZ]) rfl .t1 rfl)<|Z6 _ (Z0b rfl (Z0c f1))<|Zg (Zv fun b4 u4=>Zg (Zs (q:=[uA' y1]) rfl rfl rfl rfl rfl .here<|Z1<|Z0<|oH h fun y2 f2 h=>Z2<|Z6 _ (Zy (p:=[uA' y1]) rfl .here rfl)<|Z6 _ (Zy (p:=[uA' y1]) rfl .here rfl)<|Z6 _ (Z0b rfl (Z0c f2))<|Zg (Zv fun b5 u5=>Zg (Zs (q:=[uA' y2]) rfl rfl rfl rfl rfl .here<|Z1<|Z0<|oH h fun y3 f3 h=>Z2<|Z6 _ (Z4f rfl)<|Z6 _ (Zy (p:=[uA' p0.gX]) rfl .t4 rfl)<|Z6 _ (Z4f rfl)<|Z6 _ (Zy (p:=[uA' p1.gX]) rfl .t3 rfl)<|Z6 _ (Z0b rfl (Z0c f3))<|Zg (Zv fun b6 u6=>Zg (Zs (q:=[uA' y3]) rfl rfl rfl rfl rfl .here<|Z1<|Z0<|oH h fun y4 f4 h=>Z2<|Z6 _ (Z4f rfl)<|Z6 _ (Zy (p:=[uA' p0.gY]) rfl .t5 rfl)<|Z6 _ (Z4f rfl)<|Z6 _ (Zy (p:=[uA' p1.gY]) rfl .t4 rfl)<|Z6 _ (Z0b rfl (Z0c f4))<|Zg (Zv fun b7 u7=>Zg (Zs (q:=[uA' y4]) rfl rfl rfl rfl rfl .here<|Z1<|Z0<|oH h fun y5 f5 h=>oH h fun y6 f6 h=>oH h fun y7 f7 h=>Zr<|Z8 _ (Z0b rfl (Zqu f5))<|Zn _ (Zy (p:=[uA' y3]) rfl .t1 rfl)<|Zn _ (Zy (p:=[uA' y4]) rfl .here rfl)<|Z8 _ (Z0b rfl (Z0c f6))<|Z8 _ (Z0b rfl (Z0c f7))<|Z6o (Zv fun b8 u8=>⟨(by repeat (first | exact Sup.refl _ | apply Sup.cons | apply Sup.app)),Z1z rfl (Zs (q:=[uA' y7]) rfl rfl rfl rfl rfl .here (Z00 (Z0 (oH h fun y8 f8 h=>Z2 (Z6 _ (Zy (p:=[uA' y2]) rfl .t3 rfl) (Z6 _ (Zy (p:=[uA' y7]) rfl .here rfl) (Z6 _ (Z0b rfl (Ze5 f8)) (Zg (Zv fun b9 u9=>Zg (Zs (q:=[uA' y8]) rfl rfl rfl rfl rfl .here (Z1 (Z0 (oH h fun y9 f9 h=>Z2 (Z6 _ (Zy (p:=[uA' y2]) rfl .t4 rfl) (Z6 _ (Zy (p:=[uA' y7]) rfl .t1 rfl) (Z6 _ (Z0b rfl (Z71 f9)) (Zg (Zv fun b10 u10=>Zg (Zs (q:=[uA' y9]) rfl rfl rfl rfl rfl .here (Z1 (Z0 (oH h fun y10 f10 h=>oH h fun y11 f11 h=>oH h fun y12 f12 h=>Zr (Z8 _ (Z4f rfl) (Z8 _ (Z4f rfl) (Z8 _ (Z4f rfl) (Z8 _ (Z4f rfl) (Zn _ (Zy (p:=[uA' p0.gX]) rfl .t9 rfl) (Zn _ (Zy (p:=[uA' p1.gY]) rfl .t8 rfl) (Z8 _ (Z0b rfl (Z0c f10)) (Zn _ (Zy (p:=[uA' p0.gY]) rfl .t9 rfl) (Zn _ (Zy (p:=[uA' p1.gX]) rfl .t8 rfl) (Z8 _ (Z0b rfl (Z0c f11)) (Z8 _ (Z0b rfl (Z71 f12)) (Z6o (Zv fun b11 u11=>⟨(by repeat (first | exact Sup.refl _ | apply Sup.cons | apply Sup.app)),Z1z rfl (Zs (q:=[uA' y12]) rfl rfl rfl rfl rfl .here (Z00 (Z0 (oH h fun y13 f13 h=>oH h fun y14 f14 h=>Zr (Zn _ (Zy (p:=[uA' y1]) rfl .t7 rfl) (Zn _ (Zy (p:=[uA' y8]) rfl .t2 rfl) (Z8 _ (Z0b rfl (Z0c f13)) (Zn _ (Zy (p:=[uA' y12]) rfl .here rfl) (Z8 _ (Z0b rfl (Z0c f14)) (Z6o (Zv fun b12 u12=>⟨(by repeat (first | exact Sup.refl _ | apply Sup.cons | apply Sup.app)),Z1z rfl (Zs (q:=[uA' y14]) rfl rfl rfl rfl rfl .here (Z00 (Z0 (oH h fun y15 f15 h=>oH h fun y16 f16 h=>oH h fun y17 f17 h=>Zr (Zn _ (Zy (p:=[uA' y1]) rfl .t8 rfl) (Zn _ (Zy (p:=[uA' y9]) rfl .t2 rfl) (Z8 _ (Z0b rfl (Z0c f15)) (Zn _ (Zy (p:=[uA' y4]) rfl .t5 rfl) (Zn _ (Zy (p:=[uA' y3]) rfl .t6 rfl) (Z8 _ (Z0b rfl (Z71 f16)) (Z8 _ (Z0b rfl (Z0c f17)) (Z6o (Zv fun b13 u13=>⟨(by repeat (first | exact Sup.refl _ | apply Sup.cons | apply Sup.app)),Z1z rfl (Zs (q:=[uA' y17]) rfl rfl rfl rfl rfl .here (Z00 (Z0 (oH h fun y18 f18 h=>Zr (Zn _ (Zy (p:=[uA' y14]) rfl .t1 rfl) (Zn _ (Zy (p:=[uA' y17]) rfl .here rfl) (Zn _ (Zy (p:=[uA' y8]) rfl .t4 rfl) (Zn _ (Zy (p:=[uA' y9]) rfl .t3 rfl) (Z8 _ (Z0b rfl (Z0c f18)) (Z8 _ (Zct (q:=[uA' y14,uA' y17,uA' y18]) (.agg rfl rfl rfl (.agg rfl rfl rfl (.agg rfl rfl rfl BdR.nil)))) (Z1z rfl (Zs (q:=[uA' y14,uA' y17,uA' y18]) rfl rfl rfl rfl rfl (.there .t9) (Z00 (Zi ?_))))))))))))))⟩)))))))))))))⟩)))))))))))⟩)))))))))))))))))))))))))))))))))))⟩))))))))))))
 revert h; refine Zt fun h=>?_
 subst h
 exact ⟨_,(.cons (.agg rfl (.there .t9) rfl) .nil),rfl⟩
def Zjg:Option (Z21) :=
 opt (Z6s 0) fun y1 =>
 opt (Z6s 1) fun y2 =>
 opt (Z6s 1) fun y3 =>
 some (⟨y1,y2,y3⟩:Z21)
theorem Zk3 {W:World} {r:Z21} (h:Zjg=some r)  :
    Calls Tryz.prog 174 [].toArray W (Z36 W (agg [uA' r.gX,uA' r.gY,uA' r.gZ])):=by
 unfold Zjg at h
 refine Zc mo Z0o9 rfl ?_
 refine Z0<|Z2<|Zg (Zv fun b1 u1=>Z1<|Z0<|oH h fun y1 f1 h=>oH h fun y2 f2 h=>oH h fun y3 f3 h=>Z2<|Z6 _ (Z0b rfl (Z3p f1))<|Z6 _ (Z0b rfl (Z3p f2))<|Z6 _ (Z0b rfl (Z3p f3))<|Z6 _ (Zct (q:=[uA' y1,uA' y2,uA' y3]) (.agg rfl rfl rfl (.agg rfl rfl rfl (.agg rfl rfl rfl BdR.nil))))<|Zg (Zs (q:=[uA' y1,uA' y2,uA' y3]) rfl rfl rfl rfl rfl .here<|Z1<|Zi ?_))
 revert h; refine Zt fun h=>?_
 subst h
 exact ⟨_,(.cons (.agg rfl .here rfl) .nil),rfl⟩
abbrev Z01:El (Z21):=⟨30,fun x=>cells [uA' x.gX,uA' x.gY,uA' x.gZ],fun x=>by rw [cells_length]; rfl,fun x=>(Z30 Z6z (Z30 Z6z (Z30 Z6z Z82))),by decide,Z76⟩
def Zaw (p0:Z21) (k1:(List (Z21))->Option ((List (Z21)))) (k2:Int->(List (Z21))->Option ((List (Z21)))) (i1:Int) (a1:List (Z21)):Option ((List (Z21))) :=
 br ((decide (i1<16))) (
 bnd (wrap .i64 (i1-1)) fun z1 =>
 chk (inB z1 16) <|
 bnd (a1.getD (z1).toNat Z76) fun x1 =>
 opt (Zk2 x1 p0) fun y1 =>
 chk (inB i1 16) <|
 bnd (Zdu Z76 a1 (i1).toNat y1) fun l1 =>
 bnd (wrap .i64 (i1+1)) fun z2 =>
 k2 z2 l1
 ) (
 k1 a1
 )
def Z60 (p0:Z21) (k1:(List (Z21))->Option ((List (Z21)))):Nat->Int->(List (Z21))->Option ((List (Z21)))
  | 0,_,_=>none
  | n+1,i1,a1=>Zaw p0 k1 (Z60 p0 k1 n) i1 a1
def Zfq (p0:Z21):Option ((List (Z21))) :=
 opt (Zjg) fun y1 =>
 bnd (Zdu Z76 (replicate 16 Z76) 0 y1) fun l1 =>
 jn (fun (a1:List (Z21))=>some a1) fun k1=>Z60 p0 k1 big 1 l1
theorem Zn2 {W:World} {r:(List (Z21))} {p0:Z21} (h:Zfq p0=some r)  :
    Calls Tryz.prog 173 [agg [uA' p0.gX,uA' p0.gY,uA' p0.gZ]].toArray W (Z36 W (agg [.rows 30 16 (Z90 Z01 (r))])):=by
 unfold Zfq at h
 refine Zc mo Z0o8 rfl ?_
 refine Z0<|Z2<|Zg (Z0k (s:=[uA' p0.gX,uA' p0.gY,uA' p0.gZ]) rfl fun b1 u1=>Zg (Zgy (z':=[.rows 30 16 (Z90 Z01 ((replicate 16 Z76)))]) (Za8 (E:=Z01) rfl rfl) fun b2 u2=>Z1<|Z0<|Z2<|Zg (Zgy (z':=[.rows 30 16 (Z90 Z01 ((replicate 16 Z76)))]) (Za8 (E:=Z01) rfl rfl) fun b3 u3=>Z1<|Z0<|oH h fun y1 f1 h=>bH h fun l1 g1 h=>Z2<|Z6 _ (Z0p (vs:=[]) (v:=agg [uA' y1.gX,uA' y1.gY,uA' y1.gZ]) rfl (fun w hw=>Zk3 (r:=y1) f1 ))<|Z6 _ (Z1s rfl rfl (by decide))<|Zg (Zlg (q:=[.rows 30 16 (Z90 Z01 (l1))]) (E:=Z01) (base:=0) (i:=0) (len:=16) g1 rfl rfl rfl rfl (by decide) rfl .here<|Z1<|Z0<|Z0<|Z2<|Z7 rfl<|Z1<|jH h fun k1 q1 h=>Zm (G:=fun t m=>∃ (a1:List (Z21)),k1 a1=some r/\Fit [(2,pt' b2),(3,pt' b3)] (ck b3 206 [.rows 30 16 (Z90 Z01 (a1))]::(ck b2 206 [.rows 30 16 (Z90 Z01 ((replicate 16 Z76)))]::(ck b1 90 [uA' p0.gX,uA' p0.gY,uA' p0.gZ] :: []))) t m) ?_ ?_))))
 ·refine Za<|Zp (fun n1 t m=>∃ (i1:Int) (a2:List (Z21)),Z60 p0 k1 n1 i1 a2=some r/\Fit [(1,pt' b1),(2,pt' b2),(3,pt' b3),(4,.int .i64 (i1))] (ck b3 206 [.rows 30 16 (Z90 Z01 (a2))]::(ck b2 206 [.rows 30 16 (Z90 Z01 ((replicate 16 Z76)))]::(ck b1 90 [uA' p0.gX,uA' p0.gY,uA' p0.gZ] :: []))) t m) big ?_ ?_
  ·exact ⟨1,l1,h,⟨⟨rfl,rfl,rfl,rfl,trivial⟩,(.o (.o (.o .nil)))⟩⟩
  ·rintro n1 t m ⟨i1,a2,h,hF⟩
   refine Zk hF ?_
   clear hF
   rcases n1 with _ | n1
   · exact Z0a h
   have h:Zaw p0 k1 (Z60 p0 k1 n1) i1 a2=some r:=h
   unfold Zaw at h
   obtain ⟨k2,q2⟩ : ∃ k,k=Z60 p0 k1 n1:=⟨_,rfl⟩
   try rw [<- q2] at h
   refine Z0<|Z0<|Z2<|Z7 rfl<|Z6 _ (Z9 rfl rfl rfl)<|Z1<|Z02 h rfl (fun h=>?_) (fun h=>?_)
   ·refine Ze<|Z0<|Za<|bH h fun z1 e1 h=>cH h fun c1 h=>bH h fun x1 j1 h=>oH h fun y2 f2 h=>cH h fun c2 h=>bH h fun l2 g2 h=>Zr<|Z8 _ (Z0u rfl)<|Z8 _ (Z0u rfl)<|Z8 _ (iz e1 (Z9 rfl rfl rfl))<|Z8 _ (Z1s rfl rfl (Z0j c1))<|Zn _ (az (fun x1=>agg [uA' x1.gX,uA' x1.gY,uA' x1.gZ]) j1 (Zm7 (base:=0) (w:=30) rfl .here rfl (Z03 c1) rfl rfl rfl))<|Zn _ (Zy (p:=[uA' p0.gX,uA' p0.gY,uA' p0.gZ]) rfl .t2 rfl)<|Z8 _ (Z0p (vs:=[agg [uA' x1.gX,uA' x1.gY,uA' x1.gZ],agg [uA' p0.gX,uA' p0.gY,uA' p0.gZ]]) (v:=agg [uA' y2.gX,uA' y2.gY,uA' y2.gZ]) rfl (fun w hw=>Ze7 (r:=y2) (p0:=x1) (p1:=p0) f2 ))<|Z8 _ (Z1s rfl rfl (Z0j c2))<|Z1z rfl (Zlg (q:=[.rows 30 16 (Z90 Z01 (l2))]) (E:=Z01) (base:=0) g2 rfl rfl rfl rfl (Z03 c2) rfl .here<|Z00<|bH h fun z2 e2 h=>Z2<|Z7 rfl<|Z6 _ (iz e2 (Z9 rfl rfl rfl))<|Z7 rfl<|Z1 ?_)
    rw [q2] at h
    exact ⟨n1,Nat.lt_succ_self _,z2,l2,h,⟨⟨rfl,rfl,rfl,rfl,trivial⟩,(.o (.o (.o .nil)))⟩⟩
   ·exact Zx _ rfl<|⟨a2,h,⟨⟨rfl,rfl,trivial⟩,(.o (.o (.o .nil)))⟩⟩
 ·rintro t m ⟨a1,h,hF⟩
  refine Zk hF ?_
  clear hF
  subst q1
  refine Z0<|Z2<|Z6 _ (Zy (p:=[.rows 30 16 (Z90 Z01 (a1))]) rfl .here rfl)<|Zg (Zlf (q:=[.rows 30 16 (Z90 Z01 (a1))]) rfl rfl rfl rfl (Z30 (Zbq (E:=Z01)) Z82) .t1<|Z1<|Zi ?_)
  revert h; refine Zt fun h=>?_
  subst h
  exact ⟨_,(.cons (.agg rfl .t1 rfl) .nil),rfl⟩
def Z6f (p0:Z21):Option (Z21) :=
 opt (Z2j p0.gX p0.gX) fun y1 =>
 opt (Z2j p0.gY p0.gY) fun y2 =>
 opt (Z2j p0.gZ p0.gZ) fun y3 =>
 opt (Zjz y2 y1) fun y4 =>
 opt (Zel y3 y3) fun y5 =>
 opt (Zjz y5 y4) fun y6 =>
 opt (Z2j p0.gX p0.gY) fun y7 =>
 opt (Zel y7 y7) fun y8 =>
 opt (Z2j y8 y6) fun y9 =>
 opt (Zel y1 y2) fun y10 =>
 opt (Z2j y10 y4) fun y11 =>
 opt (Z2j y4 y6) fun y12 =>
 some (⟨y9,y11,y12⟩:Z21)
theorem Z4j {W:World} {r:Z21} {p0:Z21} (h:Z6f p0=some r)  :
    Calls Tryz.prog 175 [agg [uA' p0.gX,uA' p0.gY,uA' p0.gZ]].toArray W (Z36 W (agg [uA' r.gX,uA' r.gY,uA' r.gZ])):=by
 unfold Z6f at h
 refine Zc mo Z0oa rfl ?_
 refine Z0<|Z2<|Zg (Z0k (s:=[uA' p0.gX,uA' p0.gY,uA' p0.gZ]) rfl fun b1 u1=>Zg (Zv fun b2 u2=>Z1<|Z0<|oH h fun y1 f1 h=>Z2<|Z6 _ (Z4f rfl)<|Z6 _ (Zy (p:=[uA' p0.gX]) rfl .t1 rfl)<|Z6 _ (Z4f rfl)<|Z6 _ (Zy (p:=[uA' p0.gX]) rfl .t1 rfl)<|Z6 _ (Z0b rfl (Z0c f1))<|Zg (Zv fun b3 u3=>Zg (Zs (q:=[uA' y1]) rfl rfl rfl rfl rfl .here<|Z1<|Z0<|oH h fun y2 f2 h=>Z2<|Z6 _ (Z4f rfl)<|Z6 _ (Zy (p:=[uA' p0.gY]) rfl .t2 rfl)<|Z6 _ (Z4f rfl)<|Z6 _ (Zy (p:=[uA' p0.gY]) rfl .t2 rfl)<|Z6 _ (Z0b rfl (Z0c f2))<|Zg (Zv fun b4 u4=>Zg (Zs (q:=[uA' y2]) rfl rfl rfl rfl rfl .here<|Z1<|Z0<|oH h fun y3 f3 h=>Z2<|Z6 _ (Z4f rfl)<|Z6 _ (Zy (p:=[uA' p0.gZ]) rfl .t3 rfl)<|Z6 _ (Z4f rfl)<|Z6 _ (Zy (p:=[uA' p0.gZ]) rfl .t3 rfl)<|Z6 _ (Z0b rfl (Z0c f3))<|Zg (Zv fun b5 u5=>Zg (Zs (q:=[uA' y3]) rfl rfl rfl rfl rfl .here<|Z1<|Z0<|oH h fun y4 f4 h=>Z2<|Z6 _ (Zy (p:=[uA' y2]) rfl .t1 rfl)<|Z6 _ (Zy (p:=[uA' y1]) rfl .t2 rfl)<|Z6 _ (Z0b rfl (Ze5 f4))<|Zg (Zv fun b6 u6=>Zg (Zs (q:=[uA' y4]) rfl rfl rfl rfl rfl .here<|Z1<|Z0<|oH h fun y5 f5 h=>oH h fun y6 f6 h=>Zr<|Zn _ (Zy (p:=[uA' y3]) rfl .t1 rfl)<|Zn _ (Zy (p:=[uA' y3]) rfl .t1 rfl)<|Z8 _ (Z0b rfl (Z71 f5))<|Zn _ (Zy (p:=[uA' y4]) rfl .here rfl)<|Z8 _ (Z0b rfl (Ze5 f6))<|Z6o (Zv fun b7 u7=>⟨(by repeat (first | exact Sup.refl _ | apply Sup.cons | apply Sup.app)),Z1z rfl (Zs (q:=[uA' y6]) rfl rfl rfl rfl rfl .here (Z00 (Z0 (oH h fun y7 f7 h=>Z2 (Z6 _ (Z4f rfl) (Z6 _ (Zy (p:=[uA' p0.gX]) rfl .t6 rfl) (Z6 _ (Z4f rfl) (Z6 _ (Zy (p:=[uA' p0.gY]) rfl .t6 rfl) (Z6 _ (Z0b rfl (Z0c f7)) (Zg (Zv fun b8 u8=>Zg (Zs (q:=[uA' y7]) rfl rfl rfl rfl rfl .here (Z1 (Z0 (oH h fun y8 f8 h=>oH h fun y9 f9 h=>Zr (Zn _ (Zy (p:=[uA' y7]) rfl .here rfl) (Zn _ (Zy (p:=[uA' y7]) rfl .here rfl) (Z8 _ (Z0b rfl (Z71 f8)) (Zn _ (Zy (p:=[uA' y6]) rfl .t1 rfl) (Z8 _ (Z0b rfl (Z0c f9)) (Z6o (Zv fun b9 u9=>⟨(by repeat (first | exact Sup.refl _ | apply Sup.cons | apply Sup.app)),Z1z rfl (Zs (q:=[uA' y9]) rfl rfl rfl rfl rfl .here (Z00 (Z0 (oH h fun y10 f10 h=>oH h fun y11 f11 h=>Zr (Zn _ (Zy (p:=[uA' y1]) rfl .t6 rfl) (Zn _ (Zy (p:=[uA' y2]) rfl .t5 rfl) (Z8 _ (Z0b rfl (Z71 f10)) (Zn _ (Zy (p:=[uA' y4]) rfl .t3 rfl) (Z8 _ (Z0b rfl (Z0c f11)) (Z6o (Zv fun b10 u10=>⟨(by repeat (first | exact Sup.refl _ | apply Sup.cons | apply Sup.app)),Z1z rfl (Zs (q:=[uA' y11]) rfl rfl rfl rfl rfl .here (Z00 (Z0 (oH h fun y12 f12 h=>Zr (Zn _ (Zy (p:=[uA' y9]) rfl .t1 rfl) (Zn _ (Zy (p:=[uA' y11]) rfl .here rfl) (Zn _ (Zy (p:=[uA' y4]) rfl .t4 rfl) (Zn _ (Zy (p:=[uA' y6]) rfl .t3 rfl) (Z8 _ (Z0b rfl (Z0c f12)) (Z8 _ (Zct (q:=[uA' y9,uA' y11,uA' y12]) (.agg rfl rfl rfl (.agg rfl rfl rfl (.agg rfl rfl rfl BdR.nil)))) (Z1z rfl (Zs (q:=[uA' y9,uA' y11,uA' y12]) rfl rfl rfl rfl rfl .t8 (Z00 (Zi ?_))))))))))))))⟩)))))))))))⟩))))))))))))))))))))))⟩)))))))))))
 revert h; refine Zt fun h=>?_
 subst h
 exact ⟨_,(.cons (.agg rfl .t8 rfl) .nil),rfl⟩
def Zfp (p0:LI) (y1:(List (Z21))) (k1:(LI)->(LI)->(LI)->Option (Z21)) (k2:Int->(LI)->(LI)->(LI)->Option (Z21)) (i1:Int) (a1:LI) (a2:LI) (a3:LI):Option (Z21) :=
 br ((decide (i1≥0))) (
 chk (inB i1 32) <|
 opt (Z6f (⟨a1,a2,a3⟩:Z21)) fun y2 =>
 opt (Z6f y2) fun y3 =>
 opt (Z6f y3) fun y4 =>
 opt (Z6f y4) fun y5 =>
 bnd (p0.getD (i1).toNat 0) fun z1 =>
 bnd (wrap .u8 (Int.tdiv z1 16)) fun z2 =>
 chk (inB z2 16) <|
 bnd (y1.getD (z2).toNat Z76) fun x1 =>
 opt (Zk2 y5 x1) fun y6 =>
 chk (inB i1 32) <|
 opt (Z6f y6) fun y7 =>
 opt (Z6f y7) fun y8 =>
 opt (Z6f y8) fun y9 =>
 opt (Z6f y9) fun y10 =>
 bnd (p0.getD (i1).toNat 0) fun z3 =>
 bnd (Int.tmod z3 16) fun z4 =>
 chk (inB z4 16) <|
 bnd (y1.getD (z4).toNat Z76) fun x2 =>
 opt (Zk2 y10 x2) fun y11 =>
 bnd (wrap .i64 (i1-1)) fun z5 =>
 k2 z5 y11.gX y11.gY y11.gZ
 ) (
 k1 a1 a2 a3
 )
def Zav (p0:LI) (y1:(List (Z21))) (k1:(LI)->(LI)->(LI)->Option (Z21)):Nat->Int->(LI)->(LI)->(LI)->Option (Z21)
  | 0,_,_,_,_=>none
  | n+1,i1,a1,a2,a3=>Zfp p0 y1 k1 (Zav p0 y1 k1 n) i1 a1 a2 a3
def Znq (p0:LI) (p1:Z21):Option (Z21) :=
 opt (Zfq p1) fun y1 =>
 opt (Zjg) fun y2 =>
 jn (fun (a1:LI) (a2:LI) (a3:LI)=>some (⟨a1,a2,a3⟩:Z21)) fun k1=>Zav p0 y1 k1 big 31 y2.gX y2.gY y2.gZ
theorem Zm5 {W:World} {r:Z21} {p0:LI} {p1:Z21} (h:Znq p0 p1=some r)  :
    Calls Tryz.prog 106 [agg [b3' p0],agg [uA' p1.gX,uA' p1.gY,uA' p1.gZ]].toArray W (Z36 W (agg [uA' r.gX,uA' r.gY,uA' r.gZ])):=by
 unfold Znq at h
 refine Zc mo Z0mm rfl ?_
 refine Z0<|Z2<|Zg (Z0k (s:=[b3' p0]) rfl fun b1 u1=>Zg (Z0k (s:=[uA' p1.gX,uA' p1.gY,uA' p1.gZ]) rfl fun b2 u2=>Zg (Zv fun b3 u3=>Z1<|Z0<|oH h fun y1 f1 h=>Z2<|Z6 _ (Zy (p:=[uA' p1.gX,uA' p1.gY,uA' p1.gZ]) rfl .t1 rfl)<|Z6 _ (Z0b rfl (Zn2 f1))<|Zg (Zgy (z':=[.rows 30 16 (Z90 Z01 ((replicate 16 Z76)))]) (Za8 (E:=Z01) rfl rfl) fun b4 u4=>Zg (Zlf (q:=[.rows 30 16 (Z90 Z01 (y1))]) rfl rfl rfl rfl (Z30 (Zbq (E:=Z01)) Z82) .here<|Z1<|Z0<|oH h fun y2 f2 h=>Z2<|Z6 _ (Z0p (vs:=[]) (v:=agg [uA' y2.gX,uA' y2.gY,uA' y2.gZ]) rfl (fun w hw=>Zk3 (r:=y2) f2 ))<|Zg (Zv fun b5 u5=>Zg (Zs (q:=[uA' y2.gX,uA' y2.gY,uA' y2.gZ]) rfl rfl rfl rfl rfl .here<|Z1<|Z0<|Z0<|Z2<|Z7 rfl<|Z1<|jH h fun k1 q1 h=>Zm (G:=fun t m=>∃ (a1:LI) (a2:LI) (a3:LI),k1 a1 a2 a3=some r/\Fit [(4,pt' b3),(6,pt' b5)] (ck b5 90 [uA' a1,uA' a2,uA' a3]::(ck b4 206 [.rows 30 16 (Z90 Z01 (y1))]::(ck b3 90 [uA' (replicate 10 0),uA' (replicate 10 0),uA' (replicate 10 0)]::(ck b2 90 [uA' p1.gX,uA' p1.gY,uA' p1.gZ]::(ck b1 74 [b3' p0] :: []))))) t m) ?_ ?_)))))))
 ·refine Za<|Zp (fun n1 t m=>∃ (i1:Int) (a4:LI) (a5:LI) (a6:LI),Zav p0 y1 k1 n1 i1 a4 a5 a6=some r/\Fit [(2,pt' b1),(4,pt' b3),(5,pt' b4),(6,pt' b5),(7,.int .i64 (i1))] (ck b5 90 [uA' a4,uA' a5,uA' a6]::(ck b4 206 [.rows 30 16 (Z90 Z01 (y1))]::(ck b3 90 [uA' (replicate 10 0),uA' (replicate 10 0),uA' (replicate 10 0)]::(ck b2 90 [uA' p1.gX,uA' p1.gY,uA' p1.gZ]::(ck b1 74 [b3' p0] :: []))))) t m) big ?_ ?_
  ·exact ⟨31,y2.gX,y2.gY,y2.gZ,h,⟨⟨rfl,rfl,rfl,rfl,rfl,trivial⟩,(.o (.o (.o (.o (.o .nil)))))⟩⟩
  ·rintro n1 t m ⟨i1,a4,a5,a6,h,hF⟩
   refine Zk hF ?_
   clear hF
   rcases n1 with _ | n1
   · exact Z0a h
   have h:Zfp p0 y1 k1 (Zav p0 y1 k1 n1) i1 a4 a5 a6=some r:=h
   unfold Zfp at h
   obtain ⟨k2,q2⟩ : ∃ k,k=Zav p0 y1 k1 n1:=⟨_,rfl⟩
   try rw [<- q2] at h
   refine Z0<|Z0<|Z2<|Z7 rfl<|Z6 _ (Z9 rfl rfl rfl)<|Z1<|Z02 h rfl (fun h=>?_) (fun h=>?_)
   ·refine Ze<|Z0<|Za<|Z0<|cH h fun c1 h=>oH h fun y3 f3 h=>oH h fun y4 f4 h=>oH h fun y5 f5 h=>oH h fun y6 f6 h=>bH h fun z1 e1 h=>bH h fun z2 e2 h=>cH h fun c2 h=>bH h fun x1 j1 h=>oH h fun y7 f7 h=>Zr<|Z8 _ (Z0u rfl)<|Z8 _ (Z1s rfl rfl (Z0j c1))<|Zn _ (Zy (p:=[uA' a4,uA' a5,uA' a6]) rfl .here rfl)<|Z8 _ (Z0p (vs:=[agg [uA' a4,uA' a5,uA' a6]]) (v:=agg [uA' y3.gX,uA' y3.gY,uA' y3.gZ]) rfl (fun w hw=>Z4j (r:=y3) (p0:=(⟨a4,a5,a6⟩:Z21)) f3 ))<|Z8 _ (Z0p (vs:=[agg [uA' y3.gX,uA' y3.gY,uA' y3.gZ]]) (v:=agg [uA' y4.gX,uA' y4.gY,uA' y4.gZ]) rfl (fun w hw=>Z4j (r:=y4) (p0:=y3) f4 ))<|Z8 _ (Z0p (vs:=[agg [uA' y4.gX,uA' y4.gY,uA' y4.gZ]]) (v:=agg [uA' y5.gX,uA' y5.gY,uA' y5.gZ]) rfl (fun w hw=>Z4j (r:=y5) (p0:=y4) f5 ))<|Z8 _ (Z0p (vs:=[agg [uA' y5.gX,uA' y5.gY,uA' y5.gZ]]) (v:=agg [uA' y6.gX,uA' y6.gY,uA' y6.gZ]) rfl (fun w hw=>Z4j (r:=y6) (p0:=y5) f6 ))<|Zn _ (iz e1 (Z3e (base:=0) rfl .t4 rfl (Z03 c1)))<|Z8 _ (iz e2 (Zb8 rfl rfl (by decide)))<|Z8 _ (Z1s rfl rfl (Z0j c2))<|Zn _ (az (fun x1=>agg [uA' x1.gX,uA' x1.gY,uA' x1.gZ]) j1 (Zm7 (base:=0) (w:=30) rfl .t1 rfl (Z03 c2) rfl rfl rfl))<|Z8 _ (Z0p (vs:=[agg [uA' y6.gX,uA' y6.gY,uA' y6.gZ],agg [uA' x1.gX,uA' x1.gY,uA' x1.gZ]]) (v:=agg [uA' y7.gX,uA' y7.gY,uA' y7.gZ]) rfl (fun w hw=>Ze7 (r:=y7) (p0:=y6) (p1:=x1) f7 ))<|Z1z rfl (Zs (q:=[uA' y7.gX,uA' y7.gY,uA' y7.gZ]) rfl rfl rfl rfl rfl .here<|Z00<|cH h fun c3 h=>oH h fun y8 f8 h=>oH h fun y9 f9 h=>oH h fun y10 f10 h=>oH h fun y11 f11 h=>bH h fun z3 e3 h=>bH h fun z4 e4 h=>cH h fun c4 h=>bH h fun x2 j2 h=>oH h fun y12 f12 h=>Zr<|Z8 _ (Z0u rfl)<|Z8 _ (Z1s rfl rfl (Z0j c3))<|Zn _ (Zy (p:=[uA' y7.gX,uA' y7.gY,uA' y7.gZ]) rfl .here rfl)<|Z8 _ (Z0p (vs:=[agg [uA' y7.gX,uA' y7.gY,uA' y7.gZ]]) (v:=agg [uA' y8.gX,uA' y8.gY,uA' y8.gZ]) rfl (fun w hw=>Z4j (r:=y8) (p0:=y7) f8 ))<|Z8 _ (Z0p (vs:=[agg [uA' y8.gX,uA' y8.gY,uA' y8.gZ]]) (v:=agg [uA' y9.gX,uA' y9.gY,uA' y9.gZ]) rfl (fun w hw=>Z4j (r:=y9) (p0:=y8) f9 ))<|Z8 _ (Z0p (vs:=[agg [uA' y9.gX,uA' y9.gY,uA' y9.gZ]]) (v:=agg [uA' y10.gX,uA' y10.gY,uA' y10.gZ]) rfl (fun w hw=>Z4j (r:=y10) (p0:=y9) f10 ))<|Z8 _ (Z0p (vs:=[agg [uA' y10.gX,uA' y10.gY,uA' y10.gZ]]) (v:=agg [uA' y11.gX,uA' y11.gY,uA' y11.gZ]) rfl (fun w hw=>Z4j (r:=y11) (p0:=y10) f11 ))<|Zn _ (iz e3 (Z3e (base:=0) rfl .t4 rfl (Z03 c3)))<|Z8 _ (iz e4 (Zdl rfl rfl (by decide)))<|Z8 _ (Z1s rfl rfl (Z0j c4))<|Zn _ (az (fun x2=>agg [uA' x2.gX,uA' x2.gY,uA' x2.gZ]) j2 (Zm7 (base:=0) (w:=30) rfl .t1 rfl (Z03 c4) rfl rfl rfl))<|Z8 _ (Z0p (vs:=[agg [uA' y11.gX,uA' y11.gY,uA' y11.gZ],agg [uA' x2.gX,uA' x2.gY,uA' x2.gZ]]) (v:=agg [uA' y12.gX,uA' y12.gY,uA' y12.gZ]) rfl (fun w hw=>Ze7 (r:=y12) (p0:=y11) (p1:=x2) f12 ))<|Z1z rfl (Zs (q:=[uA' y12.gX,uA' y12.gY,uA' y12.gZ]) rfl rfl rfl rfl rfl .here<|Z00<|bH h fun z5 e5 h=>Z2<|Z7 rfl<|Z6 _ (iz e5 (Z9 rfl rfl rfl))<|Z7 rfl<|Z1 ?_))
    rw [q2] at h
    exact ⟨n1,Nat.lt_succ_self _,z5,y12.gX,y12.gY,y12.gZ,h,⟨⟨rfl,rfl,rfl,rfl,rfl,trivial⟩,(.o (.o (.o (.o (.o .nil)))))⟩⟩
   ·exact Zx _ rfl<|⟨a4,a5,a6,h,⟨⟨rfl,rfl,trivial⟩,(.o (.o (.o (.o (.o .nil)))))⟩⟩
 ·rintro t m ⟨a1,a2,a3,h,hF⟩
  refine Zk hF ?_
  clear hF
  subst q1
  refine Z0<|Z2<|Z6 _ (Zy (p:=[uA' a1,uA' a2,uA' a3]) rfl .here rfl)<|Zg (Zs (q:=[uA' a1,uA' a2,uA' a3]) rfl rfl rfl rfl rfl .t2<|Z1<|Zi ?_)
  revert h; refine Zt fun h=>?_
  subst h
  exact ⟨_,(.cons (.agg rfl .t2 rfl) .nil),rfl⟩
end Go.Proofs.YtiflckckekjbnaaGreatDoor
namespace Go.Proofs.YtiflckckekjbnaaGreatDoor
open Go Go.Sx Go.RowKit
open Go.IntKind (wrap)
set_option linter.all false
set_option maxHeartbeats 400000
set_option maxRecDepth 100000
def Zaq (p0:LI):Option Bool :=
 bnd (([0,0,0,0,0,0,0,0,0,0]:LI)) fun z1 =>
 some (ieq 10 p0 z1)
theorem Zcn {W:World} {r:Bool} {p0:LI} (h:Zaq p0=some r)  :
    Calls Tryz.prog 141 [agg [uA' p0]].toArray W (Z36 W (.bool (r))):=by
 unfold Zaq at h
 refine Zc mo Z0nf rfl ?_
 refine Z0<|Z2<|Zg (Z0k (s:=[uA' p0]) rfl fun b1 u1=>Z7 rfl<|Z1<|Z0<|bH h fun z1 e1 h=>Z2<|Z6 _ (Zy (p:=[uA' p0]) rfl .here rfl)<|Z6 _ (az (fun z=>agg [.ints .u64 10 z]) e1 (Zct BdR.nil))<|Z6 _ (Zhj rfl rfl rfl rfl _ (Z63 Z4e))<|Z7 rfl<|Z1<|Zi ?_)
 revert h; refine Zt fun h=>?_
 subst h
 exact ⟨_,(.cons (.tmp rfl) .nil),rfl⟩
def Zje (p0:LI):OL :=
 opt (Zgf p0) fun y1 =>
 br (y1) (
 opt (Zia p0) fun y2 =>
 some y2
 ) (
 some p0
 )
theorem Zk0 {W:World} {r:(LI)} {p0:LI} (h:Zje p0=some r)  :
    Calls Tryz.prog 217 [agg [uA' p0]].toArray W (Z36 W (agg [uA' r])):=by
 unfold Zje at h
 refine Zc mo Z0p8 rfl ?_
 refine Z0<|Z2<|Zg (Z0k (s:=[uA' p0]) rfl fun b1 u1=>Zg (Zv fun b2 u2=>Z1<|Z0<|Z0<|oH h fun y1 f1 h=>Z2<|Z6 _ (Zy (p:=[uA' p0]) rfl .t1 rfl)<|Z6 _ (Z0b rfl (Zi9 f1))<|Z1<|Z02 h rfl (fun h=>?_) (fun h=>?_)))
 ·refine Z0<|oH h fun y2 f2 h=>Z2<|Z6 _ (Zy (p:=[uA' p0]) rfl .t1 rfl)<|Z6 _ (Z0b rfl (Ze3 f2))<|Zg (Zs (q:=[uA' y2]) rfl rfl rfl rfl rfl .here<|Z1<|Zi ?_)
  revert h; refine Zt fun h=>?_
  subst h
  exact ⟨_,(.cons (.agg rfl .here rfl) .nil),rfl⟩
 ·refine Ze<|Z0<|Z2<|Z6 _ (Zy (p:=[uA' p0]) rfl .t1 rfl)<|Zg (Zs (q:=[uA' p0]) rfl rfl rfl rfl rfl .here<|Z1<|Zi ?_)
  revert h; refine Zt fun h=>?_
  subst h
  exact ⟨_,(.cons (.agg rfl .here rfl) .nil),rfl⟩
def Zat (p0:LI) (p1:LI):Option ((LI)×Bool) :=
 opt (Zaq p1) fun y1 =>
 br (y1) (
 bnd (([0,0,0,0,0,0,0,0,0,0]:LI)) fun z1 =>
 opt (Zaq p0) fun y2 =>
 some (z1,y2)
 ) (
 opt (Zap p1) fun y3 =>
 opt (Z2j p0 y3) fun y4 =>
 opt (Zca 254 15) fun y5 =>
 opt (Zlz y4 y5) fun y6 =>
 opt (Z2j y6 y6) fun y7 =>
 br ((ieq 10 y7 y4)) (
 opt (Zje y6) fun y8 =>
 some (y8,true)
 ) (
 opt (Z6s 2) fun y9 =>
 opt (Zca 251 31) fun y10 =>
 opt (Zlz y9 y10) fun y11 =>
 opt (Z2j y6 y11) fun y12 =>
 opt (Z2j y12 y12) fun y13 =>
 br ((ieq 10 y13 y4)) (
 opt (Zje y12) fun y14 =>
 some (y14,true)
 ) (
 bnd (([0,0,0,0,0,0,0,0,0,0]:LI)) fun z2 =>
 some (z2,false)
 )
 )
 )
theorem Zjd {W:World} {r:(LI)×Bool} {p0:LI} {p1:LI} (h:Zat p0 p1=some r)  :
    Calls Tryz.prog 196 [agg [uA' p0],agg [uA' p1]].toArray W (Z36 W (.tuple #[agg [uA' r.1],.bool (r.2)])):=by
 unfold Zat at h
 refine Zc mo Z0or rfl ?_
 refine Z0<|Z2<|Zg (Z0k (s:=[uA' p0]) rfl fun b1 u1=>Zg (Z0k (s:=[uA' p1]) rfl fun b2 u2=>Zg (Zv fun b3 u3=>Z7 rfl<|Z1<|Z0<|Z0<|oH h fun y1 f1 h=>Z2<|Z6 _ (Zy (p:=[uA' p1]) rfl .t1 rfl)<|Z6 _ (Z0b rfl (Zcn f1))<|Z1<|Z02 h rfl (fun h=>?_) (fun h=>?_))))
 ·refine Z0<|bH h fun z1 e1 h=>oH h fun y2 f2 h=>Z2<|Z6 _ (az (fun z=>agg [.ints .u64 10 z]) e1 (Zct BdR.nil))<|Z6 _ (Zy (p:=[uA' p0]) rfl .t2 rfl)<|Z6 _ (Z0b rfl (Zcn f2))<|Zg (Zs (q:=[uA' z1]) rfl rfl rfl rfl rfl .here<|Z7 rfl<|Z1<|Zi ?_)
  revert h; refine Zt fun h=>?_
  subst h
  exact ⟨_,(.cons (.agg rfl .here rfl) (.cons (.tmp rfl) .nil)),rfl⟩
 ·refine Ze<|Z0<|oH h fun y3 f3 h=>oH h fun y4 f4 h=>Zr<|Zn _ (Zy (p:=[uA' p0]) rfl .t2 rfl)<|Zn _ (Zy (p:=[uA' p1]) rfl .t1 rfl)<|Z8 _ (Z0b rfl (Zcm f3))<|Z8 _ (Z0b rfl (Z0c f4))<|Z6o (Zv fun b4 u4=>⟨(by repeat (first | exact Sup.refl _ | apply Sup.cons | apply Sup.app)),Z1z rfl (Zs (q:=[uA' y4]) rfl rfl rfl rfl rfl .here (Z00 (Z0 (oH h fun y5 f5 h=>oH h fun y6 f6 h=>Zr (Z8 _ (Z0b rfl (Ze4 f5)) (Zn _ (Zy (p:=[uA' y4]) rfl .here rfl) (Z8 _ (Z0b rfl (Zhg f6)) (Z6o (Zv fun b5 u5=>⟨(by repeat (first | exact Sup.refl _ | apply Sup.cons | apply Sup.app)),Z1z rfl (Zs (q:=[uA' y6]) rfl rfl rfl rfl rfl .here (Z00 (Z0 (Z0 (oH h fun y7 f7 h=>Zr (Zn _ (Zy (p:=[uA' y6]) rfl .here rfl) (Zn _ (Zy (p:=[uA' y6]) rfl .here rfl) (Z8 _ (Z0b rfl (Z0c f7)) (Zn _ (Zy (p:=[uA' y4]) rfl .t1 rfl) (Z8 _ (Zhj rfl rfl rfl rfl _ (Z63 Z4e)) (Z00 (Z02 h rfl (fun h=>?_) (fun h=>?_)))))))))))))⟩)))))))))⟩)
  ·refine Z0<|oH h fun y8 f8 h=>Z2<|Z6 _ (Zy (p:=[uA' y6]) rfl .here rfl)<|Z6 _ (Z0b rfl (Zk0 f8))<|Zg (Zs (q:=[uA' y8]) rfl rfl rfl rfl rfl .t2<|Z7 rfl<|Z1<|Zi ?_)
   revert h; refine Zt fun h=>?_
   subst h
   exact ⟨_,(.cons (.agg rfl .t2 rfl) (.cons (.tmp rfl) .nil)),rfl⟩
  ·refine Ze<|Z0<|oH h fun y9 f9 h=>oH h fun y10 f10 h=>oH h fun y11 f11 h=>oH h fun y12 f12 h=>Zr<|Z8 _ (Z0b rfl (Z3p f9))<|Z8 _ (Z0b rfl (Ze4 f10))<|Z8 _ (Z0b rfl (Zhg f11))<|Zn _ (Zy (p:=[uA' y6]) rfl .here rfl)<|Z8 _ (Z0b rfl (Z0c f12))<|Z1z rfl (Zs (q:=[uA' y12]) rfl rfl rfl rfl rfl .here<|Z00<|Z0<|Z0<|oH h fun y13 f13 h=>Zr<|Zn _ (Zy (p:=[uA' y12]) rfl .here rfl)<|Zn _ (Zy (p:=[uA' y12]) rfl .here rfl)<|Z8 _ (Z0b rfl (Z0c f13))<|Zn _ (Zy (p:=[uA' y4]) rfl .t1 rfl)<|Z8 _ (Zhj rfl rfl rfl rfl _ (Z63 Z4e))<|Z00<|Z02 h rfl (fun h=>?_) (fun h=>?_))
   ·refine Z0<|oH h fun y14 f14 h=>Z2<|Z6 _ (Zy (p:=[uA' y12]) rfl .here rfl)<|Z6 _ (Z0b rfl (Zk0 f14))<|Zg (Zs (q:=[uA' y14]) rfl rfl rfl rfl rfl .t2<|Z7 rfl<|Z1<|Zi ?_)
    revert h; refine Zt fun h=>?_
    subst h
    exact ⟨_,(.cons (.agg rfl .t2 rfl) (.cons (.tmp rfl) .nil)),rfl⟩
   ·refine Ze<|Z0<|bH h fun z2 e2 h=>Z2<|Z6 _ (az (fun z=>agg [.ints .u64 10 z]) e2 (Zct BdR.nil))<|Zg (Zs (q:=[uA' z2]) rfl rfl rfl rfl rfl .t2<|Z7 rfl<|Z1<|Zi ?_)
    revert h; refine Zt fun h=>?_
    subst h
    exact ⟨_,(.cons (.agg rfl .t2 rfl) (.cons (.tmp rfl) .nil)),rfl⟩
def Zdi (p0:LI):Option ((LI)×Bool) :=
 opt (Z2j p0 p0) fun y1 =>
 opt (Z6s 1) fun y2 =>
 opt (Zjz y1 y2) fun y3 =>
 opt (q7_D) fun y4 =>
 opt (Z2j y4 y1) fun y5 =>
 opt (Z6s 1) fun y6 =>
 opt (Zel y5 y6) fun y7 =>
 opt (Zat y3 y7) fun y8 =>
 some (y8.1,y8.2)
theorem Zh2 {W:World} {r:(LI)×Bool} {p0:LI} (h:Zdi p0=some r)  :
    Calls Tryz.prog 140 [agg [uA' p0]].toArray W (Z36 W (.tuple #[agg [uA' r.1],.bool (r.2)])):=by
 unfold Zdi at h
 refine Zc mo Z0ne rfl ?_
 refine Z0<|Z2<|Zg (Z0k (s:=[uA' p0]) rfl fun b1 u1=>Zg (Zv fun b2 u2=>Z7 rfl<|Z1<|Z0<|oH h fun y1 f1 h=>Z2<|Z6 _ (Zy (p:=[uA' p0]) rfl .t1 rfl)<|Z6 _ (Zy (p:=[uA' p0]) rfl .t1 rfl)<|Z6 _ (Z0b rfl (Z0c f1))<|Zg (Zv fun b3 u3=>Zg (Zs (q:=[uA' y1]) rfl rfl rfl rfl rfl .here<|Z1<|Z0<|oH h fun y2 f2 h=>oH h fun y3 f3 h=>Zr<|Z8 _ (Z0b rfl (Z3p f2))<|Zn _ (Zy (p:=[uA' y1]) rfl .here rfl)<|Z8 _ (Z0b rfl (Ze5 f3))<|Z6o (Zv fun b4 u4=>⟨(by repeat (first | exact Sup.refl _ | apply Sup.cons | apply Sup.app)),Z1z rfl (Zs (q:=[uA' y3]) rfl rfl rfl rfl rfl .here (Z00 (Z0 (oH h fun y4 f4 h=>oH h fun y5 f5 h=>oH h fun y6 f6 h=>oH h fun y7 f7 h=>Zr (Z8 _ (Z0b rfl (Zqu f4)) (Zn _ (Zy (p:=[uA' y1]) rfl .t1 rfl) (Z8 _ (Z0b rfl (Z0c f5)) (Z8 _ (Z0b rfl (Z3p f6)) (Z8 _ (Z0b rfl (Z71 f7)) (Z6o (Zv fun b5 u5=>⟨(by repeat (first | exact Sup.refl _ | apply Sup.cons | apply Sup.app)),Z1z rfl (Zs (q:=[uA' y7]) rfl rfl rfl rfl rfl .here (Z00 (Z0 (oH h fun y8 f8 h=>Z2 (Z6 _ (Zy (p:=[uA' y3]) rfl .t1 rfl) (Z6 _ (Zy (p:=[uA' y7]) rfl .here rfl) (Z6 _ (Z0b rfl (Zjd f8)) (Z6 _ (Z2i rfl rfl) (Z6 _ (Z2i rfl rfl) (Zg (Zs (q:=[uA' y8.1]) rfl rfl rfl rfl rfl .t3 (Z7 rfl (Z1 (Zi ?_))))))))))))))⟩)))))))))))⟩)))))
 revert h; refine Zt fun h=>?_
 subst h
 exact ⟨_,(.cons (.agg rfl .t3 rfl) (.cons (.tmp rfl) .nil)),rfl⟩
def Zby (p0:LI) (p1:LI):Option (Z21) :=
 opt (Z6s 1) fun y1 =>
 some (⟨p0,p1,y1⟩:Z21)
theorem Zh3 {W:World} {r:Z21} {p0:LI} {p1:LI} (h:Zby p0 p1=some r)  :
    Calls Tryz.prog 143 [agg [uA' p0],agg [uA' p1]].toArray W (Z36 W (agg [uA' r.gX,uA' r.gY,uA' r.gZ])):=by
 unfold Zby at h
 refine Zc mo Z0nh rfl ?_
 refine Z0<|Z2<|Zg (Z0k (s:=[uA' p0]) rfl fun b1 u1=>Zg (Z0k (s:=[uA' p1]) rfl fun b2 u2=>Zg (Zv fun b3 u3=>Z1<|Z0<|oH h fun y1 f1 h=>Zr<|Z8 _ (Z0b rfl (Z3p f1))<|Zn _ (Zy (p:=[uA' p0]) rfl .t2 rfl)<|Zn _ (Zy (p:=[uA' p1]) rfl .t1 rfl)<|Z8 _ (Zct (q:=[uA' p0,uA' p1,uA' y1]) (.agg rfl rfl rfl (.agg rfl rfl rfl (.agg rfl rfl rfl BdR.nil))))<|Z1z rfl (Zs (q:=[uA' p0,uA' p1,uA' y1]) rfl rfl rfl rfl rfl .here<|Z00<|Zi ?_))))
 revert h; refine Zt fun h=>?_
 subst h
 exact ⟨_,(.cons (.agg rfl .here rfl) .nil),rfl⟩
def Zm2:Option (Z21) :=
 opt (Z6s 4) fun y1 =>
 opt (Z6s 5) fun y2 =>
 opt (Zap y2) fun y3 =>
 opt (Z2j y1 y3) fun y4 =>
 opt (Zdi y4) fun y5 =>
 opt (Zby y5.1 y4) fun y6 =>
 some y6
theorem Zqt {W:World} {r:Z21} (h:Zm2=some r)  :
    Calls Tryz.prog 107 [].toArray W (Z36 W (agg [uA' r.gX,uA' r.gY,uA' r.gZ])):=by
 unfold Zm2 at h
 refine Zc mo Z0mn rfl ?_
 refine Z0<|Z2<|Zg (Zv fun b1 u1=>Z1<|Z0<|oH h fun y1 f1 h=>oH h fun y2 f2 h=>oH h fun y3 f3 h=>oH h fun y4 f4 h=>Z2<|Z6 _ (Z0b rfl (Z3p f1))<|Z6 _ (Z0b rfl (Z3p f2))<|Z6 _ (Z0b rfl (Zcm f3))<|Z6 _ (Z0b rfl (Z0c f4))<|Zg (Zv fun b2 u2=>Zg (Zs (q:=[uA' y4]) rfl rfl rfl rfl rfl .here<|Z1<|Z0<|oH h fun y5 f5 h=>Z2<|Z6 _ (Zy (p:=[uA' y4]) rfl .here rfl)<|Z6 _ (Z0b rfl (Zh2 f5))<|Z7 rfl<|Z6 _ (Z2i rfl rfl)<|Z6 _ (Z2i rfl rfl)<|Zg (Zv fun b3 u3=>Zg (Zs (q:=[uA' y5.1]) rfl rfl rfl rfl rfl .here<|Z7 rfl<|Z1<|Z0<|oH h fun y6 f6 h=>Z2<|Z6 _ (Zy (p:=[uA' y5.1]) rfl .here rfl)<|Z6 _ (Zy (p:=[uA' y4]) rfl .t1 rfl)<|Z6 _ (Z0b rfl (Zh3 f6))<|Zg (Zs (q:=[uA' y6.gX,uA' y6.gY,uA' y6.gZ]) rfl rfl rfl rfl rfl .t2<|Z1<|Zi ?_))))))
 revert h; refine Zt fun h=>?_
 subst h
 exact ⟨_,(.cons (.agg rfl .t2 rfl) .nil),rfl⟩
def Zdh (p0:LI):Option (Z21) :=
 opt (Zm2) fun y1 =>
 opt (Znq p0 y1) fun y2 =>
 some y2
theorem Zm4 {W:World} {r:Z21} {p0:LI} (h:Zdh p0=some r)  :
    Calls Tryz.prog 55 [agg [b3' p0]].toArray W (Z36 W (agg [uA' r.gX,uA' r.gY,uA' r.gZ])):=by
 unfold Zdh at h
 refine Zc mo ok55 rfl ?_
 refine Z0<|Z2<|Zg (Z0k (s:=[b3' p0]) rfl fun b1 u1=>Zg (Zv fun b2 u2=>Z1<|Z0<|oH h fun y1 f1 h=>oH h fun y2 f2 h=>Zr<|Z8 _ (Z0b rfl (Zqt f1))<|Zn _ (Zy (p:=[b3' p0]) rfl .t1 rfl)<|Z8 _ (Z0b rfl (Zm5 f2))<|Z1z rfl (Zs (q:=[uA' y2.gX,uA' y2.gY,uA' y2.gZ]) rfl rfl rfl rfl rfl .here<|Z00<|Zi ?_)))
 revert h; refine Zt fun h=>?_
 subst h
 exact ⟨_,(.cons (.agg rfl .here rfl) .nil),rfl⟩
def Zji (p0:LI) (p1:Bool) (k1:(LI)->OL) (k2:Int->(LI)->OL) (i1:Int) (a1:LI):OL :=
 br ((decide (i1<32))) (
 jn (fun (a2:LI)=>bnd (wrap .i64 (i1+1)) fun z1 =>
 k2 z1 a2) fun k3=>chk (inB i1 64) <|
 bnd (p0.getD (i1).toNat 0) fun z2 =>
 chk (inB i1 32) <|
 bnd (Z2u a1 (i1).toNat z2) fun l1 =>
 br (p1) (
 bnd (wrap .i64 (32+i1)) fun z3 =>
 chk (inB z3 64) <|
 bnd (p0.getD (z3).toNat 0) fun z4 =>
 chk (inB i1 32) <|
 bnd (Z2u l1 (i1).toNat z4) fun l2 =>
 k3 l2
 ) (
 k3 l1
 )
 ) (
 k1 a1
 )
def Zdj (p0:LI) (p1:Bool) (k1:(LI)->OL):Nat->Int->(LI)->OL
  | 0,_,_=>none
  | n+1,i1,a1=>Zji p0 p1 k1 (Zdj p0 p1 k1 n) i1 a1
def Zjh (p0:LI) (p1:Bool):OL :=
 jn (fun (a1:LI)=>some a1) fun k1=>Zdj p0 p1 k1 big 0 (List.replicate 32 0)
theorem Zk4 {W:World} {r:(LI)} {p0:LI} {p1:Bool} (h:Zjh p0 p1=some r)  :
    Calls Tryz.prog 57 [agg [b6' p0],.bool (p1)].toArray W (Z36 W (agg [b3' r])):=by
 unfold Zjh at h
 refine Zc mo ok57 rfl ?_
 refine Z0<|Z2<|Zg (Z0k (s:=[b6' p0]) rfl fun b1 u1=>Zg (Zv fun b2 u2=>Z1<|Z0<|Z2<|Zg (Zv fun b3 u3=>Z1<|Z0<|Z0<|Z2<|Z7 rfl<|Z1<|jH h fun k1 q1 h=>Zm (G:=fun t m=>∃ (a1:LI),k1 a1=some r/\Fit [(4,pt' b2),(5,pt' b3)] (ck b3 22 [b3' a1]::(ck b2 22 [b3' (List.replicate 32 0)]::(ck b1 94 [b6' p0] :: []))) t m) ?_ ?_)))
 ·refine Za<|Zp (fun n1 t m=>∃ (i1:Int) (a2:LI),Zdj p0 p1 k1 n1 i1 a2=some r/\Fit [(1,.bool (p1)),(2,pt' b1),(4,pt' b2),(5,pt' b3),(6,.int .i64 (i1))] (ck b3 22 [b3' a2]::(ck b2 22 [b3' (List.replicate 32 0)]::(ck b1 94 [b6' p0] :: []))) t m) big ?_ ?_
  ·exact ⟨0,(List.replicate 32 0),h,⟨⟨rfl,rfl,rfl,rfl,rfl,trivial⟩,(.o (.o (.o .nil)))⟩⟩
  ·rintro n1 t m ⟨i1,a2,h,hF⟩
   refine Zk hF ?_
   clear hF
   rcases n1 with _ | n1
   · exact Z0a h
   have h:Zji p0 p1 k1 (Zdj p0 p1 k1 n1) i1 a2=some r:=h
   unfold Zji at h
   obtain ⟨k2,q2⟩ : ∃ k,k=Zdj p0 p1 k1 n1:=⟨_,rfl⟩
   try rw [<- q2] at h
   refine Z0<|Z0<|Z2<|Z7 rfl<|Z6 _ (Z9 rfl rfl rfl)<|Z1<|Z02 h rfl (fun h=>?_) (fun h=>?_)
   ·refine Ze<|Z0<|jH h fun k3 q3 h=>Zm (G:=fun t m=>∃ (a3:LI),k3 a3=some r/\Fit [(1,.bool (p1)),(2,pt' b1),(4,pt' b2),(5,pt' b3),(6,.int .i64 (i1))] (ck b3 22 [b3' a3]::(ck b2 22 [b3' (List.replicate 32 0)]::(ck b1 94 [b6' p0] :: []))) t m) ?_ ?_
    ·refine Za<|Z0<|cH h fun c1 h=>bH h fun z1 e1 h=>cH h fun c2 h=>bH h fun l1 g1 h=>Z2<|Z7 rfl<|Z7 rfl<|Z6 _ (Z1s rfl rfl (Z0j c1))<|Z6 _ (iz e1 (Z3e (base:=0) rfl .t2 rfl (Z03 c1)))<|Z6 _ (Z1s rfl rfl (Z0j c2))<|Zg (Z2l (q:=[b3' l1]) (base:=0) g1 rfl rfl rfl (Z03 c2) rfl .here<|Z1<|Z0<|Z2<|Z7 rfl<|Z1<|Z02 h rfl (fun h=>?_) (fun h=>?_))
     ·exact bH h fun z2 e2 h=>cH h fun c3 h=>bH h fun z3 e3 h=>cH h fun c4 h=>bH h fun l2 g2 h=>Z2<|Z7 rfl<|Z7 rfl<|Z6 _ (iz e2 (Z9 rfl rfl rfl))<|Z6 _ (Z1s rfl rfl (Z0j c3))<|Z6 _ (iz e3 (Z3e (base:=0) rfl .t2 rfl (Z03 c3)))<|Z6 _ (Z1s rfl rfl (Z0j c4))<|Zg (Z2l (q:=[b3' l2]) (base:=0) g2 rfl rfl rfl (Z03 c4) rfl .here<|Z1<|⟨l2,h,⟨⟨rfl,rfl,rfl,rfl,rfl,trivial⟩,(.o (.o (.o .nil)))⟩⟩)
     ·exact Ze<|⟨l1,h,⟨⟨rfl,rfl,rfl,rfl,rfl,trivial⟩,(.o (.o (.o .nil)))⟩⟩
    ·rintro t m ⟨a3,h,hF⟩
     refine Zk hF ?_
     clear hF
     subst q3
     refine bH h fun z4 e4 h=>Z2<|Z7 rfl<|Z6 _ (iz e4 (Z9 rfl rfl rfl))<|Z7 rfl<|Z1 ?_
     rw [q2] at h
     exact ⟨n1,Nat.lt_succ_self _,z4,a3,h,⟨⟨rfl,rfl,rfl,rfl,rfl,trivial⟩,(.o (.o (.o .nil)))⟩⟩
   ·exact Zx _ rfl<|⟨a2,h,⟨⟨rfl,rfl,trivial⟩,(.o (.o (.o .nil)))⟩⟩
 ·rintro t m ⟨a1,h,hF⟩
  refine Zk hF ?_
  clear hF
  subst q1
  refine Z0<|Z2<|Z6 _ (Zy (p:=[b3' a1]) rfl .here rfl)<|Zg (Zs (q:=[b3' a1]) rfl rfl rfl rfl rfl .t1<|Z1<|Zi ?_)
  revert h; refine Zt fun h=>?_
  subst h
  exact ⟨_,(.cons (.agg rfl .t1 rfl) .nil),rfl⟩
def Zjb (p0:Int) (k1:(LI)->OL) (k2:(LI)->Int->OL) (l1:LI) (i1:Int):OL :=
 br ((decide (i1<8))) (
 bnd (wrap .i64 (8*i1)) fun z1 =>
 bnd (wrap .i64 (56-z1)) fun z2 =>
 bnd (wrap .u64 z2) fun z3 =>
 chk (decide (0<=z3)) <|
 bnd (Zq .u64 p0 z3) fun z4 =>
 bnd (wrap .u8 z4) fun z5 =>
 chk (decide ((l1.length+([z5]:LI).length)*1<=140737488355328)) <|
 bnd (l1++([z5]:LI)) fun l2 =>
 bnd (wrap .i64 (i1+1)) fun z6 =>
 k2 l2 z6
 ) (
 k1 l1
 )
def Zd9 (p0:Int) (k1:(LI)->OL):Nat->(LI)->Int->OL
  | 0,_,_=>none
  | n+1,l1,i1=>Zjb p0 k1 (Zd9 p0 k1 n) l1 i1
def Zhf (p0:Int):OL :=
 jn (fun (l1:LI)=>some l1) fun k1=>Zd9 p0 k1 big [] 0
theorem Zfe {W:World} {r:(LI)} {p0:Int} (h:Zhf p0=some r)  :
    Calls Tryz.prog 111 [.int .u64 (p0)].toArray W (Zc6 W [] (fun v Ms=>∃ (u0:Value) (M1:List Zf),v=u0/\Ms = [.all M1]/\Z0m (El.int .u8) u0 M1 r)):=by
 unfold Zhf at h
 refine Z04 mo Z0mq rfl (Zh8 _) ?_
 refine Z0<|Z2<|Z7 rfl<|Z1<|Z0<|Z2<|Z7 rfl<|Z1<|Z0<|Z0<|Z2<|Z7 rfl<|Z1<|jH h fun k1 q1 h=>Zm (G:=fun t m=>∃ (l1:LI) (v70:Value) (w1:List Zf),k1 l1=some r/\Z0m (El.int .u8) v70 w1 l1/\Fit [(3,v70)] (w1 ++ []) t m) ?_ ?_
 ·refine Za<|Zp (fun n1 t m=>∃ (l2:LI) (i1:Int) (v114:Value) (w2:List Zf),Zd9 p0 k1 n1 l2 i1=some r/\Z0m (El.int .u8) v114 w2 l2/\Fit [(0,.int .u64 (p0)),(3,v114),(4,.int .i64 (i1))] (w2 ++ []) t m) big ?_ ?_
  ·exact ⟨[],0,(.slice none 0 0),[],h,Z39,⟨⟨rfl,rfl,rfl,trivial⟩,(.no .nil)⟩⟩
  ·rintro n1 t m ⟨l2,i1,v114,w2,h,O1,hF⟩
   refine Zk hF ?_
   clear hF
   rcases n1 with _ | n1
   · exact Z0a h
   have h:Zjb p0 k1 (Zd9 p0 k1 n1) l2 i1=some r:=h
   unfold Zjb at h
   obtain ⟨k2,q2⟩ : ∃ k,k=Zd9 p0 k1 n1:=⟨_,rfl⟩
   try rw [<- q2] at h
   refine Z0<|Z0<|Z2<|Z7 rfl<|Z6 _ (Z9 rfl rfl rfl)<|Z1<|Z02 h rfl (fun h=>?_) (fun h=>?_)
   ·refine Ze<|Z0<|Za<|Z0<|bH h fun z1 e1 h=>bH h fun z2 e2 h=>bH h fun z3 e3 h=>Z2<|Z7 rfl<|Z6 _ (iz e1 (Z9 rfl rfl rfl))<|Z6 _ (iz e2 (Z9 rfl rfl rfl))<|Z6 _ (iz e3 (Z4k rfl))<|Z7 rfl<|Z1<|cH h fun c1 h=>bH h fun z4 e4 h=>bH h fun z5 e5 h=>cH h fun c2 h=>bH h fun l3 g1 h=>Z2<|Z7 rfl<|Z7 rfl<|Z7 rfl<|Z6 _ (iz e4 (Z5g rfl rfl (of_decide_eq_true c1)))<|Z6 _ (iz e5 (Z4k rfl))<|Zg (Z5m (E:=(El.int .u8)) (xs:=[z5]) (.one rfl rfl rfl BdR.nil) (.cons (p:=[.one (.int .u8 (z5))]) rfl .nil) rfl fun v131 w3 O2=>Zg (Z38 (E:=(El.int .u8)) g1 rfl O1 (.app .here) rfl (Z0f O2 .here) c2 fun v136 w4 O3=>Z7 rfl<|Z1<|bH h fun z6 e6 h=>Z2<|Z7 rfl<|Z6 _ (iz e6 (Z9 rfl rfl rfl))<|Z7 rfl<|Z1 ?_))
    rw [q2] at h
    exact ⟨n1,Nat.lt_succ_self _,l3,z6,v136,w4,h,O3,⟨⟨rfl,rfl,rfl,trivial⟩,(.all .here .nil)⟩⟩
   ·exact Zx _ rfl<|⟨l2,v114,w2,h,O1,⟨⟨rfl,trivial⟩,(.all .here .nil)⟩⟩
 ·rintro t m ⟨l1,v70,w1,h,O4,hF⟩
  refine Zk hF ?_
  clear hF
  subst q1
  refine Z0<|Z2<|Z7 rfl<|Z7 rfl<|Z1<|Zi ?_
  revert h; refine Zt fun h=>?_
  subst h
  exact ⟨_,_,(.cons (.tmp rfl) .nil),(.all .here .nil),⟨_,rfl,⟨v70,w1,rfl,rfl,O4⟩⟩⟩
def Zfb (z1:Int) (k1:(LI)->OL) (k2:(LI)->OL) (l1:LI):OL :=
 bnd (wrap .i64 (z1+(l1.length:Int))) fun z2 =>
 bnd (wrap .i64 (z2+16)) fun z3 =>
 bnd (Int.tmod z3 128) fun z4 =>
 br ((z4 != 0)) (
 chk (decide ((l1.length+([0]:LI).length)*1<=140737488355328)) <|
 bnd (l1++([0]:LI)) fun l2 =>
 k2 l2
 ) (
 k1 l1
 )
def Zao (z1:Int) (k1:(LI)->OL):Nat->(LI)->OL
  | 0,_=>none
  | n+1,l1=>Zfb z1 k1 (Zao z1 k1 n) l1
def Zqm (p0:Int):OL :=
 bnd (Int.tmod p0 128) fun z1 =>
 bnd (wrap .i64 z1) fun z2 =>
 jn (fun (l1:LI)=>bnd (wrap .u64 (Int.tdiv p0 2305843009213693952)) fun z3 =>
 opt (Zhf z3) fun y1 =>
 chk (decide ((l1.length+y1.length)*1<=140737488355328)) <|
 bnd (l1++y1) fun l2 =>
 bnd (wrap .u64 (p0*8)) fun z4 =>
 opt (Zhf z4) fun y2 =>
 chk (decide ((l2.length+y2.length)*1<=140737488355328)) <|
 bnd (l2++y2) fun l3 =>
 some l3) fun k1=>Zao z2 k1 big ([128]:LI)
theorem Zsp {W:World} {r:(LI)} {p0:Int} (h:Zqm p0=some r)  :
    Calls Tryz.prog 109 [.int .u64 (p0)].toArray W (Zc6 W [] (fun v Ms=>∃ (u0:Value) (M1:List Zf),v=u0/\Ms = [.all M1]/\Z0m (El.int .u8) u0 M1 r)):=by
 unfold Zqm at h
 refine Z04 mo Z0mo rfl (Zh8 _) ?_
 refine Z0<|Z2<|Z7 rfl<|Z1<|Z0<|Z2<|Zg (Z5m (E:=(El.int .u8)) (xs:=[128]) (.one rfl rfl rfl BdR.nil) (.cons (p:=[.one (.int .u8 (128))]) rfl .nil) rfl fun v3 w1 O1=>Z7 rfl<|Z1<|Z0<|bH h fun z1 e1 h=>bH h fun z2 e2 h=>Z2<|Z7 rfl<|Z6 _ (iz e1 (Zdl rfl rfl (by decide)))<|Z6 _ (iz e2 (Z4k rfl))<|Z7 rfl<|Z1<|Z0<|jH h fun k1 q1 h=>Zm (G:=fun t m=>∃ (l1:LI) (v61:Value) (w2:List Zf),k1 l1=some r/\Z0m (El.int .u8) v61 w2 l1/\Fit [(0,.int .u64 (p0)),(3,v61)] (w2 ++ []) t m) ?_ ?_)
 ·refine Za<|Zp (fun n1 t m=>∃ (l2:LI) (v98:Value) (w3:List Zf),Zao z2 k1 n1 l2=some r/\Z0m (El.int .u8) v98 w3 l2/\Fit [(0,.int .u64 (p0)),(3,v98),(4,.int .i64 (z2))] (w3 ++ []) t m) big ?_ ?_
  ·exact ⟨([128]:LI),v3,w1,h,O1,⟨⟨rfl,rfl,rfl,trivial⟩,(.all .here .nil)⟩⟩
  ·rintro n1 t m ⟨l2,v98,w3,h,O2,hF⟩
   refine Zk hF ?_
   clear hF
   rcases n1 with _ | n1
   · exact Z0a h
   have h:Zfb z2 k1 (Zao z2 k1 n1) l2=some r:=h
   unfold Zfb at h
   obtain ⟨k2,q2⟩ : ∃ k,k=Zao z2 k1 n1:=⟨_,rfl⟩
   try rw [<- q2] at h
   refine Z0<|Z0<|bH h fun z3 e3 h=>bH h fun z4 e4 h=>bH h fun z5 e5 h=>Z2<|Z7 rfl<|Z7 rfl<|Z6 _ (Z22 rfl (Shp.own O2))<|Z6 _ (iz e3 (Z9 rfl rfl rfl))<|Z6 _ (iz e4 (Z9 rfl rfl rfl))<|Z6 _ (iz e5 (Zdl rfl rfl (by decide)))<|Z6 _ (Z9 rfl rfl rfl)<|Z1<|Z02 h rfl (fun h=>?_) (fun h=>?_)
   ·refine Ze<|Za<|cH h fun c1 h=>bH h fun l3 g1 h=>Z2<|Z7 rfl<|Zg (Z5m (E:=(El.int .u8)) (xs:=[0]) (.one rfl rfl rfl BdR.nil) (.cons (p:=[.one (.int .u8 (0))]) rfl .nil) rfl fun v110 w4 O3=>Zg (Z38 (E:=(El.int .u8)) g1 rfl O2 (.app .here) rfl (Z0f O3 .here) c1 fun v115 w5 O4=>Z7 rfl<|Z1 ?_))
    rw [q2] at h
    exact ⟨n1,Nat.lt_succ_self _,l3,v115,w5,h,O4,⟨⟨rfl,rfl,rfl,trivial⟩,(.all .here .nil)⟩⟩
   ·exact Zx _ rfl<|⟨l2,v98,w3,h,O2,⟨⟨rfl,rfl,trivial⟩,(.all .here .nil)⟩⟩
 ·rintro t m ⟨l1,v61,w2,h,O5,hF⟩
  refine Zk hF ?_
  clear hF
  subst q1
  refine Z0<|bH h fun z6 e6 h=>oH h fun y1 f1 h=>cH h fun c2 h=>bH h fun l4 g2 h=>Z2<|Z7 rfl<|Z7 rfl<|Z6 _ (iz e6 (Zb8 rfl rfl (by decide)))<|Zg (Z06 rfl (fun w hw=>Zfe  f1 ) fun v121 o1 R1=>?_)
  obtain ⟨_,w6,rfl,rfl,O6⟩:=R1
  refine Zg (Z38 (E:=(El.int .u8)) g2 rfl O5 (.app .here) rfl (Z0f O6 .here) c2 fun v128 w7 O7=>Z7 rfl<|Z1<|Z0<|bH h fun z7 e7 h=>oH h fun y2 f2 h=>cH h fun c3 h=>bH h fun l5 g3 h=>Z2<|Z7 rfl<|Z7 rfl<|Z6 _ (iz e7 (Z9 rfl rfl rfl))<|Zg (Z06 rfl (fun w hw=>Zfe  f2 ) fun v134 o2 R2=>?_))
  obtain ⟨_,w8,rfl,rfl,O8⟩:=R2
  refine Zg (Z38 (E:=(El.int .u8)) g3 rfl O7 (.app .here) rfl (Z0f O8 .here) c3 fun v141 w9 O9=>Z7 rfl<|Z1<|Zi ?_)
  revert h; refine Zt fun h=>?_
  subst h
  exact ⟨_,_,(.cons (.tmp rfl) .nil),(.all .here .nil),⟨_,rfl,⟨v141,w9,rfl,rfl,O9⟩⟩⟩
def Zda (p0:LI) (k1:Int->Option Int) (k2:Int->Int->Option Int) (i1:Int) (i2:Int):Option Int :=
 br ((decide (i2<8))) (
 bnd (wrap .u64 (i1*256)) fun z1 =>
 chk (inB i2 p0.length) <|
 bnd (p0.getD (i2).toNat 0) fun z2 =>
 bnd (wrap .u64 z2) fun z3 =>
 bnd (wrap .u64 (z1+z3)) fun z4 =>
 bnd (wrap .i64 (i2+1)) fun z5 =>
 k2 z4 z5
 ) (
 k1 i1
 )
def Z7k (p0:LI) (k1:Int->Option Int):Nat->Int->Int->Option Int
  | 0,_,_=>none
  | n+1,i1,i2=>Zda p0 k1 (Z7k p0 k1 n) i1 i2
def Zlw (p0:LI):Option Int :=
 jn (fun (i1:Int)=>some i1) fun k1=>Z7k p0 k1 big 0 0
theorem Zqp {W:World} {r:Int} {p0:LI} {v0:Value} (h:Zlw p0=some r) (A0:RdSl (El.int .u8) W v0 p0) :
    Calls Tryz.prog 209 [v0].toArray W (Z36 W (.int .u64 (r))):=by
 unfold Zlw at h
 refine Zc mo Z0p4 rfl ?_
 refine Z0<|Z2<|Z7 rfl<|Z1<|Z0<|Z2<|Z7 rfl<|Z1<|Z0<|Z0<|Z2<|Z7 rfl<|Z1<|jH h fun k1 q1 h=>Zm (G:=fun t m=>∃ (i1:Int),k1 i1=some r/\Fit [(3,.int .u64 (i1))] [] t m) ?_ ?_
 ·refine Za<|Zp (fun n1 t m=>∃ (i2:Int) (i3:Int),Z7k p0 k1 n1 i2 i3=some r/\Fit [(0,v0),(3,.int .u64 (i2)),(4,.int .i64 (i3))] [] t m) big ?_ ?_
  ·exact ⟨0,0,h,⟨⟨rfl,rfl,rfl,trivial⟩,.nil⟩⟩
  ·rintro n1 t m ⟨i2,i3,h,hF⟩
   refine Zk hF ?_
   clear hF
   rcases n1 with _ | n1
   · exact Z0a h
   have h:Zda p0 k1 (Z7k p0 k1 n1) i2 i3=some r:=h
   unfold Zda at h
   obtain ⟨k2,q2⟩ : ∃ k,k=Z7k p0 k1 n1:=⟨_,rfl⟩
   try rw [<- q2] at h
   refine Z0<|Z0<|Z2<|Z7 rfl<|Z6 _ (Z9 rfl rfl rfl)<|Z1<|Z02 h rfl (fun h=>?_) (fun h=>?_)
   ·refine Ze<|Z0<|Za<|bH h fun z1 e1 h=>cH h fun c1 h=>bH h fun z2 e2 h=>bH h fun z3 e3 h=>bH h fun z4 e4 h=>Z2<|Z7 rfl<|Z6 _ (iz e1 (Z9 rfl rfl rfl))<|Z7 rfl<|Z7 rfl<|Z6 _ (Z2t rfl rfl (Shp.rd A0) c1)<|Z6 _ (iz e2 (Z5e (E:=(El.int .u8)) (s:=[.one (.int .u8 (p0.getD (i3).toNat 0))]) rfl (Z0d A0 Z0h) (Z03 c1) rfl rfl))<|Z6 _ (iz e3 (Z4k rfl))<|Z6 _ (iz e4 (Z9 rfl rfl rfl))<|Z7 rfl<|Z1<|bH h fun z5 e5 h=>Z2<|Z7 rfl<|Z6 _ (iz e5 (Z9 rfl rfl rfl))<|Z7 rfl<|Z1 ?_
    rw [q2] at h
    exact ⟨n1,Nat.lt_succ_self _,z4,z5,h,⟨⟨rfl,rfl,rfl,trivial⟩,.nil⟩⟩
   ·exact Zx _ rfl<|⟨i2,h,⟨⟨rfl,trivial⟩,.nil⟩⟩
 ·rintro t m ⟨i1,h,hF⟩
  refine Zk hF ?_
  clear hF
  subst q1
  refine Z0<|Z2<|Z7 rfl<|Z7 rfl<|Z1<|Zi ?_
  revert h; refine Zt fun h=>?_
  subst h
  exact ⟨_,(.cons (.tmp rfl) .nil),rfl⟩
def Zwf (p0:Int) (p1:Int):Option Int :=
 chk (decide (0<=p1)) <|
 bnd (Zq .u64 p0 p1) fun z1 =>
 bnd (wrap .u64 (64-p1)) fun z2 =>
 chk (decide (0<=z2)) <|
 bnd (Zl .u64 p0 z2) fun z3 =>
 bnd (Z4 .or .u64 z1 z3) fun z4 =>
 some z4
theorem Z7t {W:World} {r:Int} {p0:Int} {p1:Int} (h:Zwf p0 p1=some r)  :
    Calls Tryz.prog 212 [.int .u64 (p0),.int .u64 (p1)].toArray W (Z36 W (.int .u64 (r))):=by
 unfold Zwf at h
 refine Zc mo Z0p7 rfl ?_
 refine Z0<|Z2<|Z7 rfl<|Z1<|Z0<|cH h fun c1 h=>bH h fun z1 e1 h=>bH h fun z2 e2 h=>cH h fun c2 h=>bH h fun z3 e3 h=>bH h fun z4 e4 h=>Z2<|Z7 rfl<|Z7 rfl<|Z6 _ (iz e1 (Z5g rfl rfl (of_decide_eq_true c1)))<|Z7 rfl<|Z7 rfl<|Z6 _ (iz e2 (Z9 rfl rfl rfl))<|Z6 _ (iz e3 (Zkk rfl rfl (of_decide_eq_true c2)))<|Z6 _ (iz e4 (Z9 rfl rfl rfl))<|Z7 rfl<|Z1<|Zi ?_
 revert h; refine Zt fun h=>?_
 subst h
 exact ⟨_,(.cons (.tmp rfl) .nil),rfl⟩
def Z02b (p0:Int):Option Int :=
 opt (Zwf p0 19) fun y1 =>
 opt (Zwf p0 61) fun y2 =>
 bnd (Z4 .xor .u64 y1 y2) fun z1 =>
 bnd (Zq .u64 p0 6) fun z2 =>
 bnd (Z4 .xor .u64 z1 z2) fun z3 =>
 some z3
theorem Zvo {W:World} {r:Int} {p0:Int} (h:Z02b p0=some r)  :
    Calls Tryz.prog 210 [.int .u64 (p0)].toArray W (Z36 W (.int .u64 (r))):=by
 unfold Z02b at h
 refine Zc mo Z0p5 rfl ?_
 refine Z0<|Z2<|Z7 rfl<|Z1<|Z0<|oH h fun y1 f1 h=>oH h fun y2 f2 h=>bH h fun z1 e1 h=>bH h fun z2 e2 h=>bH h fun z3 e3 h=>Z2<|Z7 rfl<|Z6 _ (Z0b rfl (Z7t f1))<|Z7 rfl<|Z6 _ (Z0b rfl (Z7t f2))<|Z6 _ (iz e1 (Z9 rfl rfl rfl))<|Z7 rfl<|Z6 _ (iz e2 (Z5g rfl rfl (by decide)))<|Z6 _ (iz e3 (Z9 rfl rfl rfl))<|Z7 rfl<|Z1<|Zi ?_
 revert h; refine Zt fun h=>?_
 subst h
 exact ⟨_,(.cons (.tmp rfl) .nil),rfl⟩
def Z02a (p0:Int):Option Int :=
 opt (Zwf p0 1) fun y1 =>
 opt (Zwf p0 8) fun y2 =>
 bnd (Z4 .xor .u64 y1 y2) fun z1 =>
 bnd (Zq .u64 p0 7) fun z2 =>
 bnd (Z4 .xor .u64 z1 z2) fun z3 =>
 some z3
theorem Zvn {W:World} {r:Int} {p0:Int} (h:Z02a p0=some r)  :
    Calls Tryz.prog 211 [.int .u64 (p0)].toArray W (Z36 W (.int .u64 (r))):=by
 unfold Z02a at h
 refine Zc mo Z0p6 rfl ?_
 refine Z0<|Z2<|Z7 rfl<|Z1<|Z0<|oH h fun y1 f1 h=>oH h fun y2 f2 h=>bH h fun z1 e1 h=>bH h fun z2 e2 h=>bH h fun z3 e3 h=>Z2<|Z7 rfl<|Z6 _ (Z0b rfl (Z7t f1))<|Z7 rfl<|Z6 _ (Z0b rfl (Z7t f2))<|Z6 _ (iz e1 (Z9 rfl rfl rfl))<|Z7 rfl<|Z6 _ (iz e2 (Z5g rfl rfl (by decide)))<|Z6 _ (iz e3 (Z9 rfl rfl rfl))<|Z7 rfl<|Z1<|Zi ?_
 revert h; refine Zt fun h=>?_
 subst h
 exact ⟨_,(.cons (.tmp rfl) .nil),rfl⟩
def Zbr (p0:LI) (k1:(LI)->OL) (k2:(LI)->Int->OL) (l1:LI) (i1:Int):OL :=
 br ((decide (i1<16))) (
 bnd (wrap .i64 (8*i1)) fun z1 =>
 bnd (wrap .i64 (8*i1)) fun z2 =>
 bnd (wrap .i64 (z2+8)) fun z3 =>
 chk (Z97 z1 z3 p0.length) <|
 opt (Zlw ((p0.drop (z1).toNat).take ((z3).toNat-(z1).toNat))) fun y1 =>
 chk (decide ((l1.length+([y1]:LI).length)*8<=140737488355328)) <|
 bnd (l1++([y1]:LI)) fun l2 =>
 bnd (wrap .i64 (i1+1)) fun z4 =>
 k2 l2 z4
 ) (
 k1 l1
 )
def Z64 (p0:LI) (k1:(LI)->OL):Nat->(LI)->Int->OL
  | 0,_,_=>none
  | n+1,l1,i1=>Zbr p0 k1 (Z64 p0 k1 n) l1 i1
def Zbs (k1:(LI)->OL) (k2:(LI)->Int->OL) (l1:LI) (i1:Int):OL :=
 br ((decide (i1<80))) (
 bnd (wrap .i64 (i1-2)) fun z1 =>
 chk (inB z1 l1.length) <|
 bnd (wrap .i64 (i1-7)) fun z2 =>
 chk (inB z2 l1.length) <|
 bnd (wrap .i64 (i1-15)) fun z3 =>
 chk (inB z3 l1.length) <|
 bnd (wrap .i64 (i1-16)) fun z4 =>
 chk (inB z4 l1.length) <|
 bnd (l1.getD (z1).toNat 0) fun z5 =>
 opt (Z02b z5) fun y1 =>
 bnd (l1.getD (z2).toNat 0) fun z6 =>
 bnd (wrap .u64 (y1+z6)) fun z7 =>
 bnd (l1.getD (z3).toNat 0) fun z8 =>
 opt (Z02a z8) fun y2 =>
 bnd (wrap .u64 (z7+y2)) fun z9 =>
 bnd (l1.getD (z4).toNat 0) fun z10 =>
 bnd (wrap .u64 (z9+z10)) fun z11 =>
 chk (decide ((l1.length+([z11]:LI).length)*8<=140737488355328)) <|
 bnd (l1++([z11]:LI)) fun l2 =>
 bnd (wrap .i64 (i1+1)) fun z12 =>
 k2 l2 z12
 ) (
 k1 l1
 )
def Z65 (k1:(LI)->OL):Nat->(LI)->Int->OL
  | 0,_,_=>none
  | n+1,l1,i1=>Zbs k1 (Z65 k1 n) l1 i1
def Zi7 (p0:LI):OL :=
 jn (fun (l1:LI)=>jn (fun (l2:LI)=>some l2) fun k1=>Z65 k1 big l1 16) fun k2=>Z64 p0 k2 big [] 0
theorem Zp6 {W:World} {r:(LI)} {p0:LI} {v0:Value} (h:Zi7 p0=some r) (A0:RdSl (El.int .u8) W v0 p0) :
    Calls Tryz.prog 177 [v0].toArray W (Zc6 W [] (fun v Ms=>∃ (u0:Value) (M1:List Zf),v=u0/\Ms = [.all M1]/\Z0m (El.int .u64) u0 M1 r)):=by
 unfold Zi7 at h
 refine Z04 mo Z0oc rfl (Zh8 _) ?_
 refine Z0<|Z2<|Z7 rfl<|Z1<|Z0<|Z2<|Z7 rfl<|Z1<|Z0<|Z0<|Z2<|Z7 rfl<|Z1<|jH h fun k1 q1 h=>Zm (G:=fun t m=>∃ (l1:LI) (v65:Value) (w1:List Zf),k1 l1=some r/\Z0m (El.int .u64) v65 w1 l1/\Fit [(3,v65)] (w1 ++ []) t m) ?_ ?_
 ·refine Za<|Zp (fun n1 t m=>∃ (l2:LI) (i1:Int) (v106:Value) (w2:List Zf),Z64 p0 k1 n1 l2 i1=some r/\Z0m (El.int .u64) v106 w2 l2/\Fit [(0,v0),(3,v106),(4,.int .i64 (i1))] (w2 ++ []) t m) big ?_ ?_
  ·exact ⟨[],0,(.slice none 0 0),[],h,Z39,⟨⟨rfl,rfl,rfl,trivial⟩,(.no .nil)⟩⟩
  ·rintro n1 t m ⟨l2,i1,v106,w2,h,O1,hF⟩
   refine Zk hF ?_
   clear hF
   rcases n1 with _ | n1
   · exact Z0a h
   have h:Zbr p0 k1 (Z64 p0 k1 n1) l2 i1=some r:=h
   unfold Zbr at h
   obtain ⟨k2,q2⟩ : ∃ k,k=Z64 p0 k1 n1:=⟨_,rfl⟩
   try rw [<- q2] at h
   refine Z0<|Z0<|Z2<|Z7 rfl<|Z6 _ (Z9 rfl rfl rfl)<|Z1<|Z02 h rfl (fun h=>?_) (fun h=>?_)
   ·refine Ze<|Z0<|Za<|bH h fun z1 e1 h=>bH h fun z2 e2 h=>bH h fun z3 e3 h=>cH h fun c1 h=>oH h fun y1 f1 h=>cH h fun c2 h=>bH h fun l3 g1 h=>Z2<|Z7 rfl<|Z7 rfl<|Z7 rfl<|Z6 _ (iz e1 (Z9 rfl rfl rfl))<|Z7 rfl<|Z6 _ (iz e2 (Z9 rfl rfl rfl))<|Z6 _ (iz e3 (Z9 rfl rfl rfl))<|Z6 _ (Zqx (lz:=z1) (hz:=z3) rfl (Shp.rd A0) (.yes rfl) (.yes rfl) c1)<|Z6 _ (Z0p rfl (fun w hw=>Zqp f1 ((Zuj (Z0d A0 Z0h) (lz:=z1) (hz:=z3) c1) w hw)))<|Zg (Z5m (E:=(El.int .u64)) (xs:=[y1]) (.one rfl rfl rfl BdR.nil) (.cons (p:=[.one (.int .u64 (y1))]) rfl .nil) rfl fun v121 w3 O2=>Zg (Z38 (E:=(El.int .u64)) g1 rfl O1 (.app .here) rfl (Z0f O2 .here) c2 fun v126 w4 O3=>Z7 rfl<|Z1<|bH h fun z4 e4 h=>Z2<|Z7 rfl<|Z6 _ (iz e4 (Z9 rfl rfl rfl))<|Z7 rfl<|Z1 ?_))
    rw [q2] at h
    exact ⟨n1,Nat.lt_succ_self _,l3,z4,v126,w4,h,O3,⟨⟨rfl,rfl,rfl,trivial⟩,(.all .here .nil)⟩⟩
   ·exact Zx _ rfl<|⟨l2,v106,w2,h,O1,⟨⟨rfl,trivial⟩,(.all .here .nil)⟩⟩
 ·rintro t m ⟨l1,v65,w1,h,O4,hF⟩
  refine Zk hF ?_
  clear hF
  subst q1
  refine Z0<|Z0<|Z2<|Z7 rfl<|Z1<|jH h fun k3 q3 h=>Zm (G:=fun t m=>∃ (l4:LI) (v228:Value) (w5:List Zf),k3 l4=some r/\Z0m (El.int .u64) v228 w5 l4/\Fit [(3,v228)] (w5 ++ []) t m) ?_ ?_
  ·refine Za<|Zp (fun n2 t m=>∃ (l5:LI) (i2:Int) (v292:Value) (w6:List Zf),Z65 k3 n2 l5 i2=some r/\Z0m (El.int .u64) v292 w6 l5/\Fit [(3,v292),(5,.int .i64 (i2))] (w6 ++ []) t m) big ?_ ?_
   ·exact ⟨l1,16,v65,w1,h,O4,⟨⟨rfl,rfl,trivial⟩,(.all .here .nil)⟩⟩
   ·rintro n2 t m ⟨l5,i2,v292,w6,h,O5,hF⟩
    refine Zk hF ?_
    clear hF
    rcases n2 with _ | n2
    · exact Z0a h
    have h:Zbs k3 (Z65 k3 n2) l5 i2=some r:=h
    unfold Zbs at h
    obtain ⟨k4,q4⟩ : ∃ k,k=Z65 k3 n2:=⟨_,rfl⟩
    try rw [<- q4] at h
    refine Z0<|Z0<|Z2<|Z7 rfl<|Z6 _ (Z9 rfl rfl rfl)<|Z1<|Z02 h rfl (fun h=>?_) (fun h=>?_)
    ·refine Ze<|Z0<|Za<|bH h fun z5 e5 h=>cH h fun c3 h=>bH h fun z6 e6 h=>cH h fun c4 h=>bH h fun z7 e7 h=>cH h fun c5 h=>bH h fun z8 e8 h=>cH h fun c6 h=>bH h fun z9 e9 h=>oH h fun y2 f2 h=>bH h fun z10 e10 h=>bH h fun z11 e11 h=>bH h fun z12 e12 h=>oH h fun y3 f3 h=>bH h fun z13 e13 h=>bH h fun z14 e14 h=>bH h fun z15 e15 h=>cH h fun c7 h=>bH h fun l6 g2 h=>Zr<|Z8 _ (Z0u rfl)<|Z8 _ (Z0u rfl)<|Z8 _ (Z0u rfl)<|Z8 _ (iz e5 (Z9 rfl rfl rfl))<|Z8 _ (Z2t rfl rfl (Shp.own O5) c3)<|Z8 _ (Z0u rfl)<|Z8 _ (Z0u rfl)<|Z8 _ (iz e6 (Z9 rfl rfl rfl))<|Z8 _ (Z2t rfl rfl (Shp.own O5) c4)<|Z8 _ (Z0u rfl)<|Z8 _ (Z0u rfl)<|Z8 _ (iz e7 (Z9 rfl rfl rfl))<|Z8 _ (Z2t rfl rfl (Shp.own O5) c5)<|Z8 _ (Z0u rfl)<|Z8 _ (Z0u rfl)<|Z8 _ (iz e8 (Z9 rfl rfl rfl))<|Z8 _ (Z2t rfl rfl (Shp.own O5) c6)<|Zn _ (iz e9 (Z5e (E:=(El.int .u64)) (s:=[.one (.int .u64 (l5.getD (z5).toNat 0))]) rfl (Z0f O5 .here) (Z03 c3) rfl rfl))<|Z8 _ (Z0b rfl (Zvo f2))<|Zn _ (iz e10 (Z5e (E:=(El.int .u64)) (s:=[.one (.int .u64 (l5.getD (z6).toNat 0))]) rfl (Z0f O5 .here) (Z03 c4) rfl rfl))<|Z8 _ (iz e11 (Z9 rfl rfl rfl))<|Zn _ (iz e12 (Z5e (E:=(El.int .u64)) (s:=[.one (.int .u64 (l5.getD (z7).toNat 0))]) rfl (Z0f O5 .here) (Z03 c5) rfl rfl))<|Z8 _ (Z0b rfl (Zvn f3))<|Z8 _ (iz e13 (Z9 rfl rfl rfl))<|Zn _ (iz e14 (Z5e (E:=(El.int .u64)) (s:=[.one (.int .u64 (l5.getD (z8).toNat 0))]) rfl (Z0f O5 .here) (Z03 c6) rfl rfl))<|Z8 _ (iz e15 (Z9 rfl rfl rfl))<|Z6o (Z5m (E:=(El.int .u64)) (xs:=[z15]) (.one rfl rfl rfl BdR.nil) (.cons (p:=[.one (.int .u64 (z15))]) rfl .nil) rfl fun v319 w7 O6=>⟨(by repeat (first | exact Sup.refl _ | apply Sup.cons | apply Sup.app)),Z1z rfl (Z38 (E:=(El.int .u64)) g2 rfl O5 (.app .here) rfl (Z0f O6 .here) c7 fun v324 w8 O7=>Z8 _ (Z0u rfl) (Z00 (bH h fun z16 e16 h=>Z2 (Z7 rfl (Z6 _ (iz e16 (Z9 rfl rfl rfl)) (Z7 rfl (Z1 ?_)))))))⟩)
     rw [q4] at h
     exact ⟨n2,Nat.lt_succ_self _,l6,z16,v324,w8,h,O7,⟨⟨rfl,rfl,trivial⟩,(.all .here .nil)⟩⟩
    ·exact Zx _ rfl<|⟨l5,v292,w6,h,O5,⟨⟨rfl,trivial⟩,(.all .here .nil)⟩⟩
  ·rintro t m ⟨l4,v228,w5,h,O8,hF⟩
   refine Zk hF ?_
   clear hF
   subst q3
   refine Z0<|Z2<|Z7 rfl<|Z7 rfl<|Z1<|Zi ?_
   revert h; refine Zt fun h=>?_
   subst h
   exact ⟨_,_,(.cons (.tmp rfl) .nil),(.all .here .nil),⟨_,rfl,⟨v228,w5,rfl,rfl,O8⟩⟩⟩
end Go.Proofs.YtiflckckekjbnaaGreatDoor
