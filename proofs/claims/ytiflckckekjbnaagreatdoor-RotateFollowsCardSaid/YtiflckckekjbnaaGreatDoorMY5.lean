/- Texts of a proof, one behind the other: L11 L12 L13 L14 L15 L16 L17 L18 L19 L20 L21 LZ F0 F1 F2. -/
import Derived.Test.YtiflckckekjbnaaGreatDoorMY4
namespace Go.Proofs.YtiflckckekjbnaaGreatDoor
open Go Go.Sx Go.RowKit
open List (replicate)
open Go.IntKind (wrap)
set_option linter.all false
set_option maxHeartbeats 400000
set_option maxRecDepth 100000
def Zkq (p0:LI) (p1:Int) (p2:Int):OL :=
 bnd (p0.getD 4 0) fun z1 =>
 bnd (p0.getD 0 0) fun z2 =>
 bnd (p0.getD 5 0) fun z3 =>
 bnd (Z4 .and .u64 z1 z3) fun z4 =>
 bnd (Z4 .xor .u64 18446744073709551615 z1) fun z5 =>
 bnd (p0.getD 6 0) fun z6 =>
 bnd (Z4 .and .u64 z5 z6) fun z7 =>
 bnd (Z4 .xor .u64 z4 z7) fun z8 =>
 bnd (p0.getD 1 0) fun z9 =>
 bnd (Z4 .and .u64 z2 z9) fun z10 =>
 bnd (p0.getD 2 0) fun z11 =>
 bnd (Z4 .and .u64 z2 z11) fun z12 =>
 bnd (Z4 .xor .u64 z10 z12) fun z13 =>
 bnd (p0.getD 1 0) fun z14 =>
 bnd (p0.getD 2 0) fun z15 =>
 bnd (Z4 .and .u64 z14 z15) fun z16 =>
 bnd (Z4 .xor .u64 z13 z16) fun z17 =>
 opt (Zw4 z1 14) fun y1 =>
 opt (Zw4 z1 18) fun y2 =>
 bnd (Z4 .xor .u64 y1 y2) fun z18 =>
 opt (Zw4 z1 41) fun y3 =>
 bnd (Z4 .xor .u64 z18 y3) fun z19 =>
 bnd (p0.getD 7 0) fun z20 =>
 bnd (wrap .u64 (z20+z19)) fun z21 =>
 bnd (wrap .u64 (z21+z8)) fun z22 =>
 bnd (wrap .u64 (z22+p1)) fun z23 =>
 bnd (wrap .u64 (z23+p2)) fun z24 =>
 opt (Zw4 z2 28) fun y4 =>
 opt (Zw4 z2 34) fun y5 =>
 bnd (Z4 .xor .u64 y4 y5) fun z25 =>
 opt (Zw4 z2 39) fun y6 =>
 bnd (Z4 .xor .u64 z25 y6) fun z26 =>
 bnd (wrap .u64 (z26+z17)) fun z27 =>
 bnd (wrap .u64 (z24+z27)) fun z28 =>
 bnd (p0.getD 0 0) fun z29 =>
 bnd (p0.getD 1 0) fun z30 =>
 bnd (p0.getD 2 0) fun z31 =>
 bnd (p0.getD 3 0) fun z32 =>
 bnd (wrap .u64 (z32+z24)) fun z33 =>
 bnd (p0.getD 4 0) fun z34 =>
 bnd (p0.getD 5 0) fun z35 =>
 bnd (p0.getD 6 0) fun z36 =>
 bnd (([z28,z29,z30,z31,z33,z34,z35,z36]:LI)) fun z37 =>
 some z37
theorem Zos {W:World} {r:(LI)} {p0:LI} {p1:Int} {p2:Int} (h:Zkq p0 p1 p2=some r)  :
    Calls Tryz.prog 178 [agg [u8' p0],.int .u64 (p1),.int .u64 (p2)].toArray W (Z39 W (agg [u8' r])):=by
 unfold Zkq at h
 refine Zc mo Z0nw rfl ?_
 refine Z0<|Z2<|Zg (Z0j (s:=[u8' p0]) rfl fun b1 u1=>Zg (Zw fun b2 u2=>Z1<|Z0<|bH h fun z1 e1 h=>Z2<|Z6 _ (Z1s rfl rfl (by decide))<|Z6 _ (iz e1 (Z23 rfl .t1 rfl))<|Z7 rfl<|Z1<|Z0<|bH h fun z2 e2 h=>Z2<|Z6 _ (Z1s rfl rfl (by decide))<|Z6 _ (iz e2 (Z23 rfl .t1 rfl))<|Z7 rfl<|Z1<|Z0<|bH h fun z3 e3 h=>bH h fun z4 e4 h=>bH h fun z5 e5 h=>bH h fun z6 e6 h=>bH h fun z7 e7 h=>bH h fun z8 e8 h=>Z2<|Z7 rfl<|Z6 _ (Z1s rfl rfl (by decide))<|Z6 _ (iz e3 (Z23 rfl .t1 rfl))<|Z6 _ (iz e4 (Z9 rfl rfl rfl))<|Z7 rfl<|Z6 _ (iz e5 (Zhc rfl rfl))<|Z6 _ (Z1s rfl rfl (by decide))<|Z6 _ (iz e6 (Z23 rfl .t1 rfl))<|Z6 _ (iz e7 (Z9 rfl rfl rfl))<|Z6 _ (iz e8 (Z9 rfl rfl rfl))<|Z7 rfl<|Z1<|Z0<|bH h fun z9 e9 h=>bH h fun z10 e10 h=>bH h fun z11 e11 h=>bH h fun z12 e12 h=>bH h fun z13 e13 h=>bH h fun z14 e14 h=>bH h fun z15 e15 h=>bH h fun z16 e16 h=>bH h fun z17 e17 h=>Z2<|Z7 rfl<|Z6 _ (Z1s rfl rfl (by decide))<|Z6 _ (iz e9 (Z23 rfl .t1 rfl))<|Z6 _ (iz e10 (Z9 rfl rfl rfl))<|Z7 rfl<|Z6 _ (Z1s rfl rfl (by decide))<|Z6 _ (iz e11 (Z23 rfl .t1 rfl))<|Z6 _ (iz e12 (Z9 rfl rfl rfl))<|Z6 _ (iz e13 (Z9 rfl rfl rfl))<|Z6 _ (Z1s rfl rfl (by decide))<|Z6 _ (iz e14 (Z23 rfl .t1 rfl))<|Z6 _ (Z1s rfl rfl (by decide))<|Z6 _ (iz e15 (Z23 rfl .t1 rfl))<|Z6 _ (iz e16 (Z9 rfl rfl rfl))<|Z6 _ (iz e17 (Z9 rfl rfl rfl))<|Z7 rfl<|Z1<|Z0<|oH h fun y1 f1 h=>oH h fun y2 f2 h=>bH h fun z18 e18 h=>oH h fun y3 f3 h=>bH h fun z19 e19 h=>bH h fun z20 e20 h=>bH h fun z21 e21 h=>bH h fun z22 e22 h=>bH h fun z23 e23 h=>bH h fun z24 e24 h=>Zs<|Z8 _ (Z1s rfl rfl (by decide))<|Z8 _ (Z0e rfl)<|Z8 _ (Z0b rfl (Z7t f1))<|Z8 _ (Z0e rfl)<|Z8 _ (Z0b rfl (Z7t f2))<|Z8 _ (iz e18 (Z9 rfl rfl rfl))<|Z8 _ (Z0e rfl)<|Z8 _ (Z0b rfl (Z7t f3))<|Z8 _ (iz e19 (Z9 rfl rfl rfl))<|Z8 _ (Z0e rfl)<|Z8 _ (Z0e rfl)<|Z8 _ (Z0e rfl)<|Zo _ (iz e20 (Z23 rfl .t1 rfl))<|Z8 _ (iz e21 (Z9 rfl rfl rfl))<|Z8 _ (iz e22 (Z9 rfl rfl rfl))<|Z8 _ (iz e23 (Z9 rfl rfl rfl))<|Z8 _ (iz e24 (Z9 rfl rfl rfl))<|Z8 _ (Z0e rfl)<|Z01<|Z0<|oH h fun y4 f4 h=>oH h fun y5 f5 h=>bH h fun z25 e25 h=>oH h fun y6 f6 h=>bH h fun z26 e26 h=>bH h fun z27 e27 h=>Z2<|Z7 rfl<|Z6 _ (Z0b rfl (Z7t f4))<|Z7 rfl<|Z6 _ (Z0b rfl (Z7t f5))<|Z6 _ (iz e25 (Z9 rfl rfl rfl))<|Z7 rfl<|Z6 _ (Z0b rfl (Z7t f6))<|Z6 _ (iz e26 (Z9 rfl rfl rfl))<|Z7 rfl<|Z6 _ (iz e27 (Z9 rfl rfl rfl))<|Z7 rfl<|Z1<|Z0<|bH h fun z28 e28 h=>bH h fun z29 e29 h=>bH h fun z30 e30 h=>bH h fun z31 e31 h=>bH h fun z32 e32 h=>bH h fun z33 e33 h=>bH h fun z34 e34 h=>bH h fun z35 e35 h=>bH h fun z36 e36 h=>bH h fun z37 e37 h=>Z2<|Z7 rfl<|Z7 rfl<|Z6 _ (iz e28 (Z9 rfl rfl rfl))<|Z6 _ (Z1s rfl rfl (by decide))<|Z6 _ (iz e29 (Z23 rfl .t1 rfl))<|Z6 _ (Z1s rfl rfl (by decide))<|Z6 _ (iz e30 (Z23 rfl .t1 rfl))<|Z6 _ (Z1s rfl rfl (by decide))<|Z6 _ (iz e31 (Z23 rfl .t1 rfl))<|Z6 _ (Z1s rfl rfl (by decide))<|Z6 _ (iz e32 (Z23 rfl .t1 rfl))<|Z7 rfl<|Z6 _ (iz e33 (Z9 rfl rfl rfl))<|Z6 _ (Z1s rfl rfl (by decide))<|Z6 _ (iz e34 (Z23 rfl .t1 rfl))<|Z6 _ (Z1s rfl rfl (by decide))<|Z6 _ (iz e35 (Z23 rfl .t1 rfl))<|Z6 _ (Z1s rfl rfl (by decide))<|Z6 _ (iz e36 (Z23 rfl .t1 rfl))<|Z6 _ (az (fun z=>agg [.ints .u64 8 z]) e37 (Zcj (.one rfl rfl rfl (.one rfl rfl rfl (.one rfl rfl rfl (.one rfl rfl rfl (.one rfl rfl rfl (.one rfl rfl rfl (.one rfl rfl rfl (.one rfl rfl rfl BdR.nil))))))))))<|Zg (Zu (q:=[u8' z37]) rfl rfl rfl rfl rfl .here<|Z1<|Zh ?_)))
 revert h; refine Zt fun h=>?_
 subst h
 exact ⟨_,(.cons (.agg rfl .here rfl) .nil),rfl⟩
def Zd0 (y1:(LI)) (k1:(LI)->OL) (k2:Int->(LI)->OL) (i1:Int) (a1:LI):OL :=
 br ((decide (i1<80))) (
 chk (inB i1 80) <|
 chk (inB i1 y1.length) <|
 bnd (G_rtable.getD (i1).toNat 0) fun z1 =>
 bnd (y1.getD (i1).toNat 0) fun z2 =>
 opt (Zkq a1 z1 z2) fun y2 =>
 bnd (wrap .i64 (i1+1)) fun z3 =>
 k2 z3 y2
 ) (
 k1 a1
 )
def Z7k (y1:(LI)) (k1:(LI)->OL):Nat->Int->(LI)->OL
  | 0,_,_=>none
  | n+1,i1,a1=>Zd0 y1 k1 (Z7k y1 k1 n) i1 a1
def Ziz (p0:LI) (k1:(LI)->OL) (k2:Int->(LI)->OL) (i1:Int) (a1:LI):OL :=
 br ((decide (i1<8))) (
 chk (inB i1 8) <|
 chk (inB i1 8) <|
 bnd (a1.getD (i1).toNat 0) fun z1 =>
 bnd (p0.getD (i1).toNat 0) fun z2 =>
 bnd (wrap .u64 (z1+z2)) fun z3 =>
 chk (inB i1 8) <|
 bnd (Z2z a1 (i1).toNat z3) fun l1 =>
 bnd (wrap .i64 (i1+1)) fun z4 =>
 k2 z4 l1
 ) (
 k1 a1
 )
def Zb7 (p0:LI) (k1:(LI)->OL):Nat->Int->(LI)->OL
  | 0,_,_=>none
  | n+1,i1,a1=>Ziz p0 k1 (Zb7 p0 k1 n) i1 a1
def Zlk (p0:LI) (p1:LI):OL :=
 opt (Zhy p1) fun y1 =>
 jn (fun (a1:LI)=>jn (fun (a2:LI)=>some a2) fun k1=>Zb7 p0 k1 big 0 a1) fun k2=>Z7k y1 k2 big 0 p0
theorem Zqc {W:World} {r:(LI)} {p0:LI} {p1:LI} {v1:Value} (h:Zlk p0 p1=some r) (hG:Globs W) (A1:RdSl (El.int .u8) W v1 p1) :
    Calls Tryz.prog 110 [agg [u8' p0],v1].toArray W (Z39 W (agg [u8' r])):=by
 unfold Zlk at h
 refine Zc mo Z0m8 rfl ?_
 refine Z0<|Z2<|Zg (Z0j (s:=[u8' p0]) rfl fun b1 u1=>Zg (Zw fun b2 u2=>Z1<|Z0<|oH h fun y1 f1 h=>Z2<|Z7 rfl<|Zg (Z0g rfl (fun w hw=>Zot  f1 ((Z0p A1 Z0w) w hw)) fun v6 o1 R1=>?_)))
 obtain ⟨_,w1,rfl,rfl,O1⟩:=R1
 refine Z7 rfl<|Z1<|Z0<|Z2<|Z6 _ (Zy (p:=[u8' p0]) rfl (.app .t1) rfl)<|Zg (Zw fun b3 u3=>Zg (Zu (q:=[u8' p0]) rfl rfl rfl rfl rfl .here<|Z1<|Z0<|Z0<|Z2<|Z7 rfl<|Z1<|jH h fun k1 q1 h=>Zn (G:=fun t m=>∃ (a1:LI),k1 a1=some r/\Fit [(2,pt' b1),(4,pt' b2),(6,pt' b3)] (ck b3 144 [u8' a1]::(ck b2 144 [u8' (replicate 8 0)]::(ck b1 144 [u8' p0] :: []))) t m) ?_ ?_))
 ·refine Za<|Zr (fun n1 t m=>∃ (i1:Int) (a2:LI),Z7k y1 k1 n1 i1 a2=some r/\Fit [(2,pt' b1),(4,pt' b2),(5,v6),(6,pt' b3),(7,.int .i64 (i1))] (ck b3 144 [u8' a2]::(w1++(ck b2 144 [u8' (replicate 8 0)]::(ck b1 144 [u8' p0] :: [])))) t m) big ?_ ?_
  ·exact ⟨0,p0,h,⟨⟨rfl,rfl,rfl,rfl,rfl,trivial⟩,(.o (.all .here (.o (.o .nil))))⟩⟩
  ·rintro n1 t m ⟨i1,a2,h,hF⟩
   refine Zk hF ?_
   clear hF
   rcases n1 with _ | n1
   · exact Z0c h
   have h:Zd0 y1 k1 (Z7k y1 k1 n1) i1 a2=some r:=h
   unfold Zd0 at h
   obtain ⟨k2,q2⟩ : ∃ k,k=Z7k y1 k1 n1:=⟨_,rfl⟩
   try rw [<- q2] at h
   refine Z0<|Z0<|Z2<|Z7 rfl<|Z6 _ (Z9 rfl rfl rfl)<|Z1<|Z03 h rfl (fun h=>?_) (fun h=>?_)
   ·refine Ze<|Z0<|Za<|cH h fun c1 h=>cH h fun c2 h=>bH h fun z1 e1 h=>bH h fun z2 e2 h=>oH h fun y2 f2 h=>Zs<|Z8 _ (Z0e rfl)<|Z8 _ (Z1s rfl rfl (Z0o c1))<|Z8 _ (Z0e rfl)<|Z8 _ (Z0e rfl)<|Z8 _ (Z2u rfl rfl (Shp.own O1) c2)<|Zo _ (Zy (p:=[u8' a2]) rfl .here rfl)<|Zo _ (iz e1 (Zye rfl (hG.g3) (by simp) (Z04 c1)))<|Zo _ (iz e2 (Z3y (E:=(El.int .u64)) (s:=[.one (.int .u64 (y1.getD (i1).toNat 0))]) rfl (Z05 O1 .t1) (Z04 c2) rfl rfl))<|Z8 _ (Z0b rfl (Zos f2))<|Z24 rfl (Zu (q:=[u8' y2]) rfl rfl rfl rfl rfl .here<|Z01<|bH h fun z3 e3 h=>Z2<|Z7 rfl<|Z6 _ (iz e3 (Z9 rfl rfl rfl))<|Z7 rfl<|Z1 ?_)
    rw [q2] at h
    exact ⟨n1,Nat.lt_succ_self _,z3,y2,h,⟨⟨rfl,rfl,rfl,rfl,rfl,trivial⟩,(.o (.all .here (.o (.o .nil))))⟩⟩
   ·exact Zz _ rfl<|⟨a2,h,⟨⟨rfl,rfl,rfl,trivial⟩,(.o (.one (.app .here) (.one (.app .here) .nil)))⟩⟩
 ·rintro t m ⟨a1,h,hF⟩
  refine Zk hF ?_
  clear hF
  subst q1
  refine Z0<|Z0<|Z2<|Z7 rfl<|Z1<|jH h fun k3 q3 h=>Zn (G:=fun t m=>∃ (a3:LI),k3 a3=some r/\Fit [(4,pt' b2),(6,pt' b3)] (ck b3 144 [u8' a3]::(ck b2 144 [u8' (replicate 8 0)]::(ck b1 144 [u8' p0] :: []))) t m) ?_ ?_
  ·refine Za<|Zr (fun n2 t m=>∃ (i2:Int) (a4:LI),Zb7 p0 k3 n2 i2 a4=some r/\Fit [(2,pt' b1),(4,pt' b2),(6,pt' b3),(8,.int .i64 (i2))] (ck b3 144 [u8' a4]::(ck b2 144 [u8' (replicate 8 0)]::(ck b1 144 [u8' p0] :: []))) t m) big ?_ ?_
   ·exact ⟨0,a1,h,⟨⟨rfl,rfl,rfl,rfl,trivial⟩,(.o (.o (.o .nil)))⟩⟩
   ·rintro n2 t m ⟨i2,a4,h,hF⟩
    refine Zk hF ?_
    clear hF
    rcases n2 with _ | n2
    · exact Z0c h
    have h:Ziz p0 k3 (Zb7 p0 k3 n2) i2 a4=some r:=h
    unfold Ziz at h
    obtain ⟨k4,q4⟩ : ∃ k,k=Zb7 p0 k3 n2:=⟨_,rfl⟩
    try rw [<- q4] at h
    refine Z0<|Z0<|Z2<|Z7 rfl<|Z6 _ (Z9 rfl rfl rfl)<|Z1<|Z03 h rfl (fun h=>?_) (fun h=>?_)
    ·refine Ze<|Z0<|Za<|cH h fun c3 h=>cH h fun c4 h=>bH h fun z4 e4 h=>bH h fun z5 e5 h=>bH h fun z6 e6 h=>cH h fun c5 h=>bH h fun l1 g1 h=>Zs<|Z8 _ (Z0e rfl)<|Z8 _ (Z0e rfl)<|Z8 _ (Z1s rfl rfl (Z0o c3))<|Z8 _ (Z0e rfl)<|Z8 _ (Z1s rfl rfl (Z0o c4))<|Zo _ (iz e4 (Z3i (base:=0) rfl .here rfl (Z04 c3)))<|Zo _ (iz e5 (Z3i (base:=0) rfl .t2 rfl (Z04 c4)))<|Z8 _ (iz e6 (Z9 rfl rfl rfl))<|Z8 _ (Z1s rfl rfl (Z0o c5))<|Z24 rfl (Z2n (q:=[u8' l1]) (base:=0) g1 rfl rfl rfl (Z04 c5) rfl .here<|Z01<|bH h fun z7 e7 h=>Z2<|Z7 rfl<|Z6 _ (iz e7 (Z9 rfl rfl rfl))<|Z7 rfl<|Z1 ?_)
     rw [q4] at h
     exact ⟨n2,Nat.lt_succ_self _,z7,l1,h,⟨⟨rfl,rfl,rfl,rfl,trivial⟩,(.o (.o (.o .nil)))⟩⟩
    ·exact Zz _ rfl<|⟨a4,h,⟨⟨rfl,rfl,trivial⟩,(.o (.o (.o .nil)))⟩⟩
  ·rintro t m ⟨a3,h,hF⟩
   refine Zk hF ?_
   clear hF
   subst q3
   refine Z0<|Z2<|Z6 _ (Zy (p:=[u8' a3]) rfl .here rfl)<|Zg (Zu (q:=[u8' a3]) rfl rfl rfl rfl rfl .t1<|Z1<|Zh ?_)
   revert h; refine Zt fun h=>?_
   subst h
   exact ⟨_,(.cons (.agg rfl .t1 rfl) .nil),rfl⟩
def Zf8 (l1:LI) (k1:(LI)->OL) (k2:Int->(LI)->OL) (i1:Int) (a1:LI):OL :=
 br ((decide (i1<(l1.length:Int)))) (
 bnd (wrap .i64 (i1+128)) fun z1 =>
 chk (Z9i i1 z1 l1.length) <|
 opt (Zlk a1 ((l1.drop (i1).toNat).take ((z1).toNat-(i1).toNat))) fun y1 =>
 bnd (wrap .i64 (i1+128)) fun z2 =>
 k2 z2 y1
 ) (
 k1 a1
 )
def Z7u (l1:LI) (k1:(LI)->OL):Nat->Int->(LI)->OL
  | 0,_,_=>none
  | n+1,i1,a1=>Zf8 l1 k1 (Z7u l1 k1 n) i1 a1
def Zlj (i1:Int) (y1:(LI)) (k1:(LI)->OL) (k2:Int->(LI)->OL) (i2:Int) (a1:LI):OL :=
 br ((decide (i2<8))) (
 bnd (wrap .i64 (8*i1)) fun z1 =>
 bnd (wrap .i64 (z1+i2)) fun z2 =>
 chk (inB i2 y1.length) <|
 bnd (y1.getD (i2).toNat 0) fun z3 =>
 chk (inB z2 64) <|
 bnd (Z2z a1 (z2).toNat z3) fun l1 =>
 bnd (wrap .i64 (i2+1)) fun z4 =>
 k2 z4 l1
 ) (
 k1 a1
 )
def Zf9 (i1:Int) (y1:(LI)) (k1:(LI)->OL):Nat->Int->(LI)->OL
  | 0,_,_=>none
  | n+1,i2,a1=>Zlj i1 y1 k1 (Zf9 i1 y1 k1 n) i2 a1
def Zli (a1:LI) (k1:(LI)->OL) (k2:Int->(LI)->OL) (i1:Int) (a2:LI):OL :=
 br ((decide (i1<8))) (
 chk (inB i1 8) <|
 bnd (a1.getD (i1).toNat 0) fun z1 =>
 opt (Zh8 z1) fun y1 =>
 jn (fun (a3:LI)=>bnd (wrap .i64 (i1+1)) fun z2 =>
 k2 z2 a3) fun k3=>Zf9 i1 y1 k3 big 0 a2
 ) (
 k1 a2
 )
def Zcz (a1:LI) (k1:(LI)->OL):Nat->Int->(LI)->OL
  | 0,_,_=>none
  | n+1,i1,a2=>Zli a1 k1 (Zcz a1 k1 n) i1 a2
def Zqb (p0:LI):OL :=
 chk (decide ((([]:LI).length+p0.length)*1<=140737488355328)) <|
 bnd (([]:LI)++p0) fun l1 =>
 bnd (wrap .u64 (p0.length:Int)) fun z1 =>
 opt (Zqa z1) fun y1 =>
 chk (decide ((l1.length+y1.length)*1<=140737488355328)) <|
 bnd (l1++y1) fun l2 =>
 jn (fun (a1:LI)=>jn (fun (a2:LI)=>some a2) fun k1=>Zcz a1 k1 big 0 (replicate 64 0)) fun k2=>Z7u l2 k2 big 0 G_rfirst
theorem Zh7 {W:World} {r:(LI)} {p0:LI} {v0:Value} (h:Zqb p0=some r) (hG:Globs W) (A0:RdSl (El.int .u8) W v0 p0) :
    Calls Tryz.prog 58 [v0].toArray W (Z39 W (agg [b6' r])):=by
 unfold Zqb at h
 refine Zc mo ok58 rfl ?_
 refine Z0<|Z2<|Zg (Zw fun b1 u1=>Z1<|Z0<|Z2<|Z7 rfl<|Z1<|Z0<|cH h fun c1 h=>bH h fun l1 g1 h=>Z2<|Z7 rfl<|Z7 rfl<|Zg (Z32 (E:=(El.int .u8)) g1 rfl Z3l .here rfl (Z0p A0 Z0w) c1 fun v7 w1 O1=>Z7 rfl<|Z1<|Z0<|bH h fun z1 e1 h=>oH h fun y1 f1 h=>cH h fun c2 h=>bH h fun l2 g2 h=>Z2<|Z7 rfl<|Z7 rfl<|Z6 _ (Z1f rfl (Shp.rd A0))<|Z6 _ (iz e1 (Z4k rfl))<|Zg (Z0g rfl (fun w hw=>Zse  f1 ) fun v13 Msv1 R1=>?_)))
 obtain ⟨_,w2,rfl,rfl,O2⟩:=R1
 refine Zg (Z32 (E:=(El.int .u8)) g2 rfl O1 (.app .here) rfl (Z05 O2 .here) c2 fun v20 w3 O3=>Z7 rfl<|Z1<|Z0<|Z2<|Z6 _ (Zsj (o0:=0) (off:=0) rfl (hG.g0) (by simp) rfl)<|Zg (Zw fun b2 u2=>Zg (Zu (q:=[u8' G_rfirst]) rfl rfl rfl rfl rfl .here<|Z1<|Z0<|Z0<|Z2<|Z7 rfl<|Z1<|jH h fun k1 q1 h=>Zn (G:=fun t m=>∃ (a1:LI),k1 a1=some r/\Fit [(2,pt' b1),(4,pt' b2)] (ck b2 144 [u8' a1]::(ck b1 94 [b6' (replicate 64 0)] :: [])) t m) ?_ ?_)))
 ·refine Za<|Zr (fun n1 t m=>∃ (i1:Int) (a2:LI),Z7u l2 k1 n1 i1 a2=some r/\Fit [(2,pt' b1),(3,v20),(4,pt' b2),(5,.int .i64 (i1))] (ck b2 144 [u8' a2]::(w3++(ck b1 94 [b6' (replicate 64 0)] :: []))) t m) big ?_ ?_
  ·exact ⟨0,G_rfirst,h,⟨⟨rfl,rfl,rfl,rfl,trivial⟩,(.o (.all .here (.one (.app .here) .nil)))⟩⟩
  ·rintro n1 t m ⟨i1,a2,h,hF⟩
   refine Zk hF ?_
   clear hF
   rcases n1 with _ | n1
   · exact Z0c h
   have h:Zf8 l2 k1 (Z7u l2 k1 n1) i1 a2=some r:=h
   unfold Zf8 at h
   obtain ⟨k2,q2⟩ : ∃ k,k=Z7u l2 k1 n1:=⟨_,rfl⟩
   try rw [<- q2] at h
   refine Z0<|Z0<|Z2<|Z7 rfl<|Z7 rfl<|Z6 _ (Z1f rfl (Shp.own O3))<|Z6 _ (Z9 rfl rfl rfl)<|Z1<|Z03 h rfl (fun h=>?_) (fun h=>?_)
   ·refine Ze<|Z0<|Za<|bH h fun z2 e2 h=>cH h fun c3 h=>oH h fun y2 f2 h=>Zs<|Z8 _ (Z0e rfl)<|Z8 _ (Z0e rfl)<|Z8 _ (Z0e rfl)<|Z8 _ (iz e2 (Z9 rfl rfl rfl))<|Z8 _ (Znh (lz:=i1) (hz:=z2) rfl (Shp.own O3) (.yes rfl) (.yes rfl) c3)<|Zo _ (Zy (p:=[u8' a2]) rfl .here rfl)<|Zo _ (Z0f rfl (fun w hw=>Zqc f2 (hG.at hw (by simp)) ((Zua (Z05 O3 .t1) (lz:=i1) (hz:=z2) c3) w hw)))<|Z24 rfl (Zu (q:=[u8' y2]) rfl rfl rfl rfl rfl .here<|Z01<|bH h fun z3 e3 h=>Z2<|Z7 rfl<|Z6 _ (iz e3 (Z9 rfl rfl rfl))<|Z7 rfl<|Z1 ?_)
    rw [q2] at h
    exact ⟨n1,Nat.lt_succ_self _,z3,y2,h,⟨⟨rfl,rfl,rfl,rfl,trivial⟩,(.o (.all .here (.o .nil)))⟩⟩
   ·exact Zz _ rfl<|⟨a2,h,⟨⟨rfl,rfl,trivial⟩,(.o (.one (.app .here) .nil))⟩⟩
 ·rintro t m ⟨a1,h,hF⟩
  refine Zk hF ?_
  clear hF
  subst q1
  refine Z0<|Z2<|Zg (Zw fun b3 u3=>Z1<|Z0<|Z0<|Z2<|Z7 rfl<|Z1<|jH h fun k3 q3 h=>Zn (G:=fun t m=>∃ (a3:LI),k3 a3=some r/\Fit [(2,pt' b1),(6,pt' b3)] (ck b3 94 [b6' a3]::(ck b2 144 [u8' a1]::(ck b1 94 [b6' (replicate 64 0)] :: []))) t m) ?_ ?_)
  ·refine Za<|Zr (fun n2 t m=>∃ (i2:Int) (a4:LI),Zcz a1 k3 n2 i2 a4=some r/\Fit [(2,pt' b1),(4,pt' b2),(6,pt' b3),(7,.int .i64 (i2))] (ck b3 94 [b6' a4]::(ck b2 144 [u8' a1]::(ck b1 94 [b6' (replicate 64 0)] :: []))) t m) big ?_ ?_
   ·exact ⟨0,(replicate 64 0),h,⟨⟨rfl,rfl,rfl,rfl,trivial⟩,(.o (.o (.o .nil)))⟩⟩
   ·rintro n2 t m ⟨i2,a4,h,hF⟩
    refine Zk hF ?_
    clear hF
    rcases n2 with _ | n2
    · exact Z0c h
    have h:Zli a1 k3 (Zcz a1 k3 n2) i2 a4=some r:=h
    unfold Zli at h
    obtain ⟨k4,q4⟩ : ∃ k,k=Zcz a1 k3 n2:=⟨_,rfl⟩
    try rw [<- q4] at h
    refine Z0<|Z0<|Z2<|Z7 rfl<|Z6 _ (Z9 rfl rfl rfl)<|Z1<|Z03 h rfl (fun h=>?_) (fun h=>?_)
    ·refine Ze<|Z0<|Za<|Z0<|cH h fun c4 h=>bH h fun z4 e4 h=>oH h fun y3 f3 h=>Z2<|Z7 rfl<|Z6 _ (Z1s rfl rfl (Z0o c4))<|Z6 _ (iz e4 (Z3i (base:=0) rfl .t1 rfl (Z04 c4)))<|Zg (Z0g rfl (fun w hw=>Zfa  f3 ) fun v531 Msv2 R2=>?_)
     obtain ⟨_,w4,rfl,rfl,O4⟩:=R2
     refine Z7 rfl<|Z1<|Z0<|Z2<|Z7 rfl<|Z1<|jH h fun k5 q5 h=>Zn (G:=fun t m=>∃ (a5:LI),k5 a5=some r/\Fit [(2,pt' b1),(4,pt' b2),(6,pt' b3),(7,.int .i64 (i2))] (ck b3 94 [b6' a5]::(ck b2 144 [u8' a1]::(ck b1 94 [b6' (replicate 64 0)] :: []))) t m) ?_ ?_
     ·refine Za<|Zr (fun n3 t m=>∃ (i3:Int) (a6:LI),Zf9 i2 y3 k5 n3 i3 a6=some r/\Fit [(2,pt' b1),(4,pt' b2),(6,pt' b3),(7,.int .i64 (i2)),(8,v531),(9,.int .i64 (i3))] (w4++(ck b3 94 [b6' a6]::(ck b2 144 [u8' a1]::(ck b1 94 [b6' (replicate 64 0)] :: [])))) t m) big ?_ ?_
      ·exact ⟨0,a4,h,⟨⟨rfl,rfl,rfl,rfl,rfl,rfl,trivial⟩,(.all .here (.o (.o (.o .nil))))⟩⟩
      ·rintro n3 t m ⟨i3,a6,h,hF⟩
       refine Zk hF ?_
       clear hF
       rcases n3 with _ | n3
       · exact Z0c h
       have h:Zlj i2 y3 k5 (Zf9 i2 y3 k5 n3) i3 a6=some r:=h
       unfold Zlj at h
       obtain ⟨k6,q6⟩ : ∃ k,k=Zf9 i2 y3 k5 n3:=⟨_,rfl⟩
       try rw [<- q6] at h
       refine Z0<|Z0<|Z2<|Z7 rfl<|Z6 _ (Z9 rfl rfl rfl)<|Z1<|Z03 h rfl (fun h=>?_) (fun h=>?_)
       ·refine Ze<|Z0<|Za<|bH h fun z5 e5 h=>bH h fun z6 e6 h=>cH h fun c5 h=>bH h fun z7 e7 h=>cH h fun c6 h=>bH h fun l3 g3 h=>Z2<|Z7 rfl<|Z6 _ (iz e5 (Z9 rfl rfl rfl))<|Z7 rfl<|Z6 _ (iz e6 (Z9 rfl rfl rfl))<|Z7 rfl<|Z7 rfl<|Z6 _ (Z2u rfl rfl (Shp.own O4) c5)<|Z6 _ (iz e7 (Z3y (E:=(El.int .u8)) (s:=[.one (.int .u8 (y3.getD (i3).toNat 0))]) rfl (Z05 O4 .here) (Z04 c5) rfl rfl))<|Z6 _ (Z1s rfl rfl (Z0o c6))<|Zg (Z2n (q:=[b6' l3]) (base:=0) g3 rfl rfl rfl (Z04 c6) rfl (.app .here)<|Z1<|bH h fun z8 e8 h=>Z2<|Z7 rfl<|Z6 _ (iz e8 (Z9 rfl rfl rfl))<|Z7 rfl<|Z1 ?_)
        rw [q6] at h
        exact ⟨n3,Nat.lt_succ_self _,z8,l3,h,⟨⟨rfl,rfl,rfl,rfl,rfl,rfl,trivial⟩,(.all .here (.o (.o (.o .nil))))⟩⟩
       ·exact Zz _ rfl<|⟨a6,h,⟨⟨rfl,rfl,rfl,rfl,trivial⟩,(.one (.app .here) (.one (.app .here) (.one (.app .here) .nil)))⟩⟩
     ·rintro t m ⟨a5,h,hF⟩
      refine Zk hF ?_
      clear hF
      subst q5
      refine bH h fun z9 e9 h=>Z2<|Z7 rfl<|Z6 _ (iz e9 (Z9 rfl rfl rfl))<|Z7 rfl<|Z1 ?_
      rw [q4] at h
      exact ⟨n2,Nat.lt_succ_self _,z9,a5,h,⟨⟨rfl,rfl,rfl,rfl,trivial⟩,(.o (.o (.o .nil)))⟩⟩
    ·exact Zz _ rfl<|⟨a4,h,⟨⟨rfl,rfl,trivial⟩,(.o (.o (.o .nil)))⟩⟩
  ·rintro t m ⟨a3,h,hF⟩
   refine Zk hF ?_
   clear hF
   subst q3
   refine Z0<|Z2<|Z6 _ (Zy (p:=[b6' a3]) rfl .here rfl)<|Zg (Zu (q:=[b6' a3]) rfl rfl rfl rfl rfl .t2<|Z1<|Zh ?_)
   revert h; refine Zt fun h=>?_
   subst h
   exact ⟨_,(.cons (.agg rfl .t2 rfl) .nil),rfl⟩
def Zlq (p0:LI) (p1:Int):Option Int :=
 br ((decide (p1<(p0.length:Int)))) (
 chk (inB p1 p0.length) <|
 bnd (p0.getD (p1).toNat 0) fun z1 =>
 some z1
 ) (
 some 0
 )
theorem Z9v {W:World} {r:Int} {p0:LI} {p1:Int} {v0:Value} (h:Zlq p0 p1=some r) (A0:RdSl (El.int .i64) W v0 p0) :
    Calls Tryz.prog 179 [v0,.int .i64 (p1)].toArray W (Z39 W (.int .i64 (r))):=by
 unfold Zlq at h
 refine Zc mo Z0nx rfl ?_
 refine Z0<|Z2<|Z7 rfl<|Z1<|Z0<|Z0<|Z2<|Z7 rfl<|Z7 rfl<|Z6 _ (Z1f rfl (Shp.rd A0))<|Z6 _ (Z9 rfl rfl rfl)<|Z1<|Z03 h rfl (fun h=>?_) (fun h=>?_)
 ·refine Z0<|cH h fun c1 h=>bH h fun z1 e1 h=>Z2<|Z7 rfl<|Z7 rfl<|Z6 _ (Z2u rfl rfl (Shp.rd A0) c1)<|Z6 _ (iz e1 (Z3y (E:=(El.int .i64)) (s:=[.one (.int .i64 (p0.getD (p1).toNat 0))]) rfl (Z0p A0 Z0w) (Z04 c1) rfl rfl))<|Z7 rfl<|Z1<|Zh ?_
  revert h; refine Zt fun h=>?_
  subst h
  exact ⟨_,(.cons (.tmp rfl) .nil),rfl⟩
 ·refine Ze<|Z0<|Z2<|Z7 rfl<|Z1<|Zh ?_
  revert h; refine Zt fun h=>?_
  subst h
  exact ⟨_,(.cons (.tmp rfl) .nil),rfl⟩
def Zd7 (p0:LI) (k1:(LI)->OL) (k2:Int->(LI)->OL) (i1:Int) (a1:LI):OL :=
 br ((decide (i1<32))) (
 opt (Zlq p0 i1) fun y1 =>
 bnd (wrap .u8 y1) fun z1 =>
 chk (inB i1 32) <|
 bnd (Z2z a1 (i1).toNat z1) fun l1 =>
 bnd (wrap .i64 (i1+1)) fun z2 =>
 k2 z2 l1
 ) (
 k1 a1
 )
def Z8q (p0:LI) (k1:(LI)->OL):Nat->Int->(LI)->OL
  | 0,_,_=>none
  | n+1,i1,a1=>Zd7 p0 k1 (Z8q p0 k1 n) i1 a1
def Zlp (p0:LI):OL :=
 jn (fun (a1:LI)=>some a1) fun k1=>Z8q p0 k1 big 0 (replicate 32 0)
theorem Zqf {W:World} {r:(LI)} {p0:LI} {v0:Value} (h:Zlp p0=some r) (A0:RdSl (El.int .i64) W v0 p0) :
    Calls Tryz.prog 112 [v0].toArray W (Z39 W (agg [b3' r])):=by
 unfold Zlp at h
 refine Zc mo Z0ma rfl ?_
 refine Z0<|Z2<|Zg (Zw fun b1 u1=>Z1<|Z0<|Z2<|Zg (Zw fun b2 u2=>Z1<|Z0<|Z0<|Z2<|Z7 rfl<|Z1<|jH h fun k1 q1 h=>Zn (G:=fun t m=>∃ (a1:LI),k1 a1=some r/\Fit [(2,pt' b1),(3,pt' b2)] (ck b2 74 [b3' a1]::(ck b1 74 [b3' (replicate 32 0)] :: [])) t m) ?_ ?_))
 ·refine Za<|Zr (fun n1 t m=>∃ (i1:Int) (a2:LI),Z8q p0 k1 n1 i1 a2=some r/\Fit [(0,v0),(2,pt' b1),(3,pt' b2),(4,.int .i64 (i1))] (ck b2 74 [b3' a2]::(ck b1 74 [b3' (replicate 32 0)] :: [])) t m) big ?_ ?_
  ·exact ⟨0,(replicate 32 0),h,⟨⟨rfl,rfl,rfl,rfl,trivial⟩,(.o (.o .nil))⟩⟩
  ·rintro n1 t m ⟨i1,a2,h,hF⟩
   refine Zk hF ?_
   clear hF
   rcases n1 with _ | n1
   · exact Z0c h
   have h:Zd7 p0 k1 (Z8q p0 k1 n1) i1 a2=some r:=h
   unfold Zd7 at h
   obtain ⟨k2,q2⟩ : ∃ k,k=Z8q p0 k1 n1:=⟨_,rfl⟩
   try rw [<- q2] at h
   refine Z0<|Z0<|Z2<|Z7 rfl<|Z6 _ (Z9 rfl rfl rfl)<|Z1<|Z03 h rfl (fun h=>?_) (fun h=>?_)
   ·refine Ze<|Z0<|Za<|oH h fun y1 f1 h=>bH h fun z1 e1 h=>cH h fun c1 h=>bH h fun l1 g1 h=>Z2<|Z7 rfl<|Z7 rfl<|Z7 rfl<|Z6 _ (Z0f rfl (fun w hw=>Z9v f1 ((Z0p A0 Z0w) w hw)))<|Z6 _ (iz e1 (Z4k rfl))<|Z6 _ (Z1s rfl rfl (Z0o c1))<|Zg (Z2n (q:=[b3' l1]) (base:=0) g1 rfl rfl rfl (Z04 c1) rfl .here<|Z1<|bH h fun z2 e2 h=>Z2<|Z7 rfl<|Z6 _ (iz e2 (Z9 rfl rfl rfl))<|Z7 rfl<|Z1 ?_)
    rw [q2] at h
    exact ⟨n1,Nat.lt_succ_self _,z2,l1,h,⟨⟨rfl,rfl,rfl,rfl,trivial⟩,(.o (.o .nil))⟩⟩
   ·exact Zz _ rfl<|⟨a2,h,⟨⟨rfl,rfl,trivial⟩,(.o (.o .nil))⟩⟩
 ·rintro t m ⟨a1,h,hF⟩
  refine Zk hF ?_
  clear hF
  subst q1
  refine Z0<|Z2<|Z6 _ (Zy (p:=[b3' a1]) rfl .here rfl)<|Zg (Zu (q:=[b3' a1]) rfl rfl rfl rfl rfl .t1<|Z1<|Zh ?_)
  revert h; refine Zt fun h=>?_
  subst h
  exact ⟨_,(.cons (.agg rfl .t1 rfl) .nil),rfl⟩
end Go.Proofs.YtiflckckekjbnaaGreatDoor
namespace Go.Proofs.YtiflckckekjbnaaGreatDoor
open Go Go.Sx Go.RowKit
open Go.IntKind (wrap)
set_option linter.all false
set_option maxHeartbeats 400000
set_option maxRecDepth 100000
def Zfi (p0:LI) (p1:LI):Option Int :=
 br ((decide ((p0.length:Int)<(p1.length:Int)))) (
 some (p1.length:Int)
 ) (
 some (p0.length:Int)
 )
theorem Zmr {W:World} {r:Int} {p0:LI} {p1:LI} {v0:Value} {v1:Value} (h:Zfi p0 p1=some r) (A0:RdSl (El.int .i64) W v0 p0) (A1:RdSl (El.int .i64) W v1 p1) :
    Calls Tryz.prog 182 [v0,v1].toArray W (Z39 W (.int .i64 (r))):=by
 unfold Zfi at h
 refine Zc mo Z0o0 rfl ?_
 refine Z0<|Z2<|Z7 rfl<|Z1<|Z0<|Z0<|Z2<|Z7 rfl<|Z6 _ (Z1f rfl (Shp.rd A0))<|Z7 rfl<|Z6 _ (Z1f rfl (Shp.rd A1))<|Z6 _ (Z9 rfl rfl rfl)<|Z1<|Z03 h rfl (fun h=>?_) (fun h=>?_)
 ·refine Z0<|Z2<|Z7 rfl<|Z6 _ (Z1f rfl (Shp.rd A1))<|Z7 rfl<|Z1<|Zh ?_
  revert h; refine Zt fun h=>?_
  subst h
  exact ⟨_,(.cons (.tmp rfl) .nil),rfl⟩
 ·refine Ze<|Z0<|Z2<|Z7 rfl<|Z6 _ (Z1f rfl (Shp.rd A0))<|Z7 rfl<|Z1<|Zh ?_
  revert h; refine Zt fun h=>?_
  subst h
  exact ⟨_,(.cons (.tmp rfl) .nil),rfl⟩
def Zd5 (p0:LI) (p1:LI) (k1:Unit->Option Bool) (k2:Int->Option Bool) (i1:Int):Option Bool :=
 br ((decide (i1≥0))) (
 opt (Zlq p0 i1) fun y1 =>
 opt (Zlq p1 i1) fun y2 =>
 br ((y1 != y2)) (
 opt (Zlq p0 i1) fun y3 =>
 opt (Zlq p1 i1) fun y4 =>
 some (decide (y3<y4))
 ) (
 bnd (wrap .i64 (i1-1)) fun z1 =>
 k2 z1
 )
 ) (
 k1 ()
 )
def Z8p (p0:LI) (p1:LI) (k1:Unit->Option Bool):Nat->Int->Option Bool
  | 0,_=>none
  | n+1,i1=>Zd5 p0 p1 k1 (Z8p p0 p1 k1 n) i1
def Zhb (p0:LI) (p1:LI):Option Bool :=
 opt (Zfi p0 p1) fun y1 =>
 bnd (wrap .i64 (y1-1)) fun z1 =>
 jn (fun (_:Unit)=>some false) fun k1=>Z8p p0 p1 k1 big z1
theorem Zjt {W:World} {r:Bool} {p0:LI} {p1:LI} {v0:Value} {v1:Value} (h:Zhb p0 p1=some r) (A0:RdSl (El.int .i64) W v0 p0) (A1:RdSl (El.int .i64) W v1 p1) :
    Calls Tryz.prog 144 [v0,v1].toArray W (Z39 W (.bool (r))):=by
 unfold Zhb at h
 refine Zc mo Z0n1 rfl ?_
 refine Z0<|Z2<|Z7 rfl<|Z1<|Z0<|Z0<|oH h fun y1 f1 h=>bH h fun z1 e1 h=>Z2<|Z7 rfl<|Z7 rfl<|Z6 _ (Z0f rfl (fun w hw=>Zmr f1 ((Z0p A0 Z0w) w hw) ((Z0p A1 Z0w) w hw)))<|Z6 _ (iz e1 (Z9 rfl rfl rfl))<|Z7 rfl<|Z1<|jH h fun k1 q1 h=>Zn (G:=fun t m=>k1 ()=some r/\Fit [] [] t m) ?_ ?_
 ·refine Za<|Zr (fun n1 t m=>∃ (i1:Int),Z8p p0 p1 k1 n1 i1=some r/\Fit [(0,v0),(1,v1),(5,.int .i64 (i1))] [] t m) big ?_ ?_
  ·exact ⟨z1,h,⟨⟨rfl,rfl,rfl,trivial⟩,.nil⟩⟩
  ·rintro n1 t m ⟨i1,h,hF⟩
   refine Zk hF ?_
   clear hF
   rcases n1 with _ | n1
   · exact Z0c h
   have h:Zd5 p0 p1 k1 (Z8p p0 p1 k1 n1) i1=some r:=h
   unfold Zd5 at h
   obtain ⟨k2,q2⟩ : ∃ k,k=Z8p p0 p1 k1 n1:=⟨_,rfl⟩
   try rw [<- q2] at h
   refine Z0<|Z0<|Z2<|Z7 rfl<|Z6 _ (Z9 rfl rfl rfl)<|Z1<|Z03 h rfl (fun h=>?_) (fun h=>?_)
   ·refine Ze<|Z0<|Za<|Z0<|oH h fun y2 f2 h=>oH h fun y3 f3 h=>Z2<|Z7 rfl<|Z7 rfl<|Z6 _ (Z0f rfl (fun w hw=>Z9v f2 ((Z0p A0 Z0w) w hw)))<|Z7 rfl<|Z7 rfl<|Z6 _ (Z0f rfl (fun w hw=>Z9v f3 ((Z0p A1 Z0w) w hw)))<|Z6 _ (Z9 rfl rfl rfl)<|Z1<|Z03 h rfl (fun h=>?_) (fun h=>?_)
    ·refine Z0<|oH h fun y4 f4 h=>oH h fun y5 f5 h=>Z2<|Z7 rfl<|Z7 rfl<|Z6 _ (Z0f rfl (fun w hw=>Z9v f4 ((Z0p A0 Z0w) w hw)))<|Z7 rfl<|Z7 rfl<|Z6 _ (Z0f rfl (fun w hw=>Z9v f5 ((Z0p A1 Z0w) w hw)))<|Z6 _ (Z9 rfl rfl rfl)<|Z7 rfl<|Z1<|Zh ?_
     revert h; refine Zt fun h=>?_
     subst h
     exact ⟨_,(.cons (.tmp rfl) .nil),rfl⟩
    ·refine Ze<|bH h fun z2 e2 h=>Z2<|Z7 rfl<|Z6 _ (iz e2 (Z9 rfl rfl rfl))<|Z7 rfl<|Z1 ?_
     rw [q2] at h
     exact ⟨n1,Nat.lt_succ_self _,z2,h,⟨⟨rfl,rfl,rfl,trivial⟩,.nil⟩⟩
   ·exact Zz _ rfl<|⟨h,⟨trivial,.nil⟩⟩
 ·rintro t m ⟨h,hF⟩
  refine Zk hF ?_
  clear hF
  subst q1
  refine Z0<|Z2<|Z7 rfl<|Z1<|Zh ?_
  revert h; refine Zt fun h=>?_
  subst h
  exact ⟨_,(.cons (.tmp rfl) .nil),rfl⟩
def Zi4:OL :=
 some ([237,211,245,92,26,99,18,88,214,156,247,162,222,249,222,20,0,0,0,0,0,0,0,0,0,0,0,0,0,0,0,16]:LI)
theorem Zi5 {W:World} {r:(LI)} (h:Zi4=some r)  :
    Calls Tryz.prog 145 [].toArray W (Zde W [] (fun v Ms=>∃ (u0:Value) (M1:List Zf),v=u0/\Ms = [.all M1]/\Z0q (El.int .i64) u0 M1 r)):=by
 unfold Zi4 at h
 refine Z07 mo Z0n2 rfl (Zie _) ?_
 refine Z0<|Z2<|Z7 rfl<|Z1<|Z0<|Z2<|Zg (Z5j (E:=(El.int .i64)) (xs:=[237,211,245,92,26,99,18,88,214,156,247,162,222,249,222,20,0,0,0,0,0,0,0,0,0,0,0,0,0,0,0,16]) (.one rfl rfl rfl (.one rfl rfl rfl (.one rfl rfl rfl (.one rfl rfl rfl (.one rfl rfl rfl (.one rfl rfl rfl (.one rfl rfl rfl (.one rfl rfl rfl (.one rfl rfl rfl (.one rfl rfl rfl (.one rfl rfl rfl (.one rfl rfl rfl (.one rfl rfl rfl (.one rfl rfl rfl (.one rfl rfl rfl (.one rfl rfl rfl (.one rfl rfl rfl (.one rfl rfl rfl (.one rfl rfl rfl (.one rfl rfl rfl (.one rfl rfl rfl (.one rfl rfl rfl (.one rfl rfl rfl (.one rfl rfl rfl (.one rfl rfl rfl (.one rfl rfl rfl (.one rfl rfl rfl (.one rfl rfl rfl (.one rfl rfl rfl (.one rfl rfl rfl (.one rfl rfl rfl (.one rfl rfl rfl BdR.nil)))))))))))))))))))))))))))))))) (.cons (p:=[.one (.int .i64 (237))]) rfl (.cons (p:=[.one (.int .i64 (211))]) rfl (.cons (p:=[.one (.int .i64 (245))]) rfl (.cons (p:=[.one (.int .i64 (92))]) rfl (.cons (p:=[.one (.int .i64 (26))]) rfl (.cons (p:=[.one (.int .i64 (99))]) rfl (.cons (p:=[.one (.int .i64 (18))]) rfl (.cons (p:=[.one (.int .i64 (88))]) rfl (.cons (p:=[.one (.int .i64 (214))]) rfl (.cons (p:=[.one (.int .i64 (156))]) rfl (.cons (p:=[.one (.int .i64 (247))]) rfl (.cons (p:=[.one (.int .i64 (162))]) rfl (.cons (p:=[.one (.int .i64 (222))]) rfl (.cons (p:=[.one (.int .i64 (249))]) rfl (.cons (p:=[.one (.int .i64 (222))]) rfl (.cons (p:=[.one (.int .i64 (20))]) rfl (.cons (p:=[.one (.int .i64 (0))]) rfl (.cons (p:=[.one (.int .i64 (0))]) rfl (.cons (p:=[.one (.int .i64 (0))]) rfl (.cons (p:=[.one (.int .i64 (0))]) rfl (.cons (p:=[.one (.int .i64 (0))]) rfl (.cons (p:=[.one (.int .i64 (0))]) rfl (.cons (p:=[.one (.int .i64 (0))]) rfl (.cons (p:=[.one (.int .i64 (0))]) rfl (.cons (p:=[.one (.int .i64 (0))]) rfl (.cons (p:=[.one (.int .i64 (0))]) rfl (.cons (p:=[.one (.int .i64 (0))]) rfl (.cons (p:=[.one (.int .i64 (0))]) rfl (.cons (p:=[.one (.int .i64 (0))]) rfl (.cons (p:=[.one (.int .i64 (0))]) rfl (.cons (p:=[.one (.int .i64 (0))]) rfl (.cons (p:=[.one (.int .i64 (16))]) rfl .nil)))))))))))))))))))))))))))))))) rfl fun v3 w1 O1=>Z7 rfl<|Z1<|Zh ?_)
 revert h; refine Zt fun h=>?_
 subst h
 exact ⟨_,_,(.cons (.tmp rfl) .nil),(.all .here .nil),⟨_,rfl,⟨v3,w1,rfl,rfl,O1⟩⟩⟩
def Zfh (p1:Int) (k1:Int->Option Int) (k2:Int->Int->Option Int) (i1:Int) (i2:Int):Option Int :=
 bnd (Int.tmod p1 8) fun z1 =>
 br ((decide (i2<z1))) (
 bnd (wrap .i64 (Int.tdiv i1 2)) fun z2 =>
 bnd (wrap .i64 (i2+1)) fun z3 =>
 k2 z2 z3
 ) (
 k1 i1
 )
def Zap (p1:Int) (k1:Int->Option Int):Nat->Int->Int->Option Int
  | 0,_,_=>none
  | n+1,i1,i2=>Zfh p1 k1 (Zap p1 k1 n) i1 i2
def Zqg (p0:LI) (p1:Int):Option Int :=
 bnd (wrap .i64 (Int.tdiv p1 8)) fun z1 =>
 opt (Zlq p0 z1) fun y1 =>
 jn (fun (i1:Int)=>bnd (Int.tmod i1 2) fun z2 =>
 some z2) fun k1=>Zap p1 k1 big y1 0
theorem Zsg {W:World} {r:Int} {p0:LI} {p1:Int} {v0:Value} (h:Zqg p0 p1=some r) (A0:RdSl (El.int .i64) W v0 p0) :
    Calls Tryz.prog 180 [v0,.int .i64 (p1)].toArray W (Z39 W (.int .i64 (r))):=by
 unfold Zqg at h
 refine Zc mo Z0ny rfl ?_
 refine Z0<|Z2<|Z7 rfl<|Z1<|Z0<|bH h fun z1 e1 h=>oH h fun y1 f1 h=>Z2<|Z7 rfl<|Z7 rfl<|Z6 _ (iz e1 (Zbu rfl rfl (by decide)))<|Z6 _ (Z0f rfl (fun w hw=>Z9v f1 ((Z0p A0 Z0w) w hw)))<|Z7 rfl<|Z1<|Z0<|Z0<|Z2<|Z7 rfl<|Z1<|jH h fun k1 q1 h=>Zn (G:=fun t m=>∃ (i1:Int),k1 i1=some r/\Fit [(5,.int .i64 (i1))] [] t m) ?_ ?_
 ·refine Za<|Zr (fun n1 t m=>∃ (i2:Int) (i3:Int),Zap p1 k1 n1 i2 i3=some r/\Fit [(1,.int .i64 (p1)),(5,.int .i64 (i2)),(6,.int .i64 (i3))] [] t m) big ?_ ?_
  ·exact ⟨y1,0,h,⟨⟨rfl,rfl,rfl,trivial⟩,.nil⟩⟩
  ·rintro n1 t m ⟨i2,i3,h,hF⟩
   refine Zk hF ?_
   clear hF
   rcases n1 with _ | n1
   · exact Z0c h
   have h:Zfh p1 k1 (Zap p1 k1 n1) i2 i3=some r:=h
   unfold Zfh at h
   obtain ⟨k2,q2⟩ : ∃ k,k=Zap p1 k1 n1:=⟨_,rfl⟩
   try rw [<- q2] at h
   refine Z0<|Z0<|bH h fun z2 e2 h=>Z2<|Z7 rfl<|Z7 rfl<|Z6 _ (iz e2 (Zdd rfl rfl (by decide)))<|Z6 _ (Z9 rfl rfl rfl)<|Z1<|Z03 h rfl (fun h=>?_) (fun h=>?_)
   ·refine Ze<|Z0<|Za<|bH h fun z3 e3 h=>Z2<|Z7 rfl<|Z6 _ (iz e3 (Zbu rfl rfl (by decide)))<|Z7 rfl<|Z1<|bH h fun z4 e4 h=>Z2<|Z7 rfl<|Z6 _ (iz e4 (Z9 rfl rfl rfl))<|Z7 rfl<|Z1 ?_
    rw [q2] at h
    exact ⟨n1,Nat.lt_succ_self _,z3,z4,h,⟨⟨rfl,rfl,rfl,trivial⟩,.nil⟩⟩
   ·exact Zz _ rfl<|⟨i2,h,⟨⟨rfl,trivial⟩,.nil⟩⟩
 ·rintro t m ⟨i1,h,hF⟩
  refine Zk hF ?_
  clear hF
  subst q1
  refine Z0<|bH h fun z5 e5 h=>Z2<|Z7 rfl<|Z6 _ (iz e5 (Zdd rfl rfl (by decide)))<|Z7 rfl<|Z1<|Zh ?_
  revert h; refine Zt fun h=>?_
  subst h
  exact ⟨_,(.cons (.tmp rfl) .nil),rfl⟩
def Zbr (p0:LI) (p1:LI) (k1:(LI)->OL) (k2:(LI)->Int->Int->OL) (l1:LI) (i1:Int) (i2:Int):OL :=
 br ((decide (i2<(p0.length:Int)))) (
 chk (inB i2 p0.length) <|
 bnd (p0.getD (i2).toNat 0) fun z1 =>
 opt (Zlq p1 i2) fun y1 =>
 bnd (wrap .i64 (z1-y1)) fun z2 =>
 bnd (wrap .i64 (z2-i1)) fun z3 =>
 jn (fun (i3:Int) (i4:Int)=>chk (decide ((l1.length+([i4]:LI).length)*8<=140737488355328)) <|
 bnd (l1++([i4]:LI)) fun l2 =>
 bnd (wrap .i64 (i2+1)) fun z4 =>
 k2 l2 i3 z4) fun k3=>br ((decide (z3<0))) (
 bnd (wrap .i64 (z3+256)) fun z5 =>
 k3 1 z5
 ) (
 k3 0 z3
 )
 ) (
 k1 l1
 )
def Z76 (p0:LI) (p1:LI) (k1:(LI)->OL):Nat->(LI)->Int->Int->OL
  | 0,_,_,_=>none
  | n+1,l1,i1,i2=>Zbr p0 p1 k1 (Z76 p0 p1 k1 n) l1 i1 i2
def Zgb (p0:LI) (p1:LI):OL :=
 jn (fun (l1:LI)=>some l1) fun k1=>Z76 p0 p1 k1 big [] 0 0
theorem Zov {W:World} {r:(LI)} {p0:LI} {p1:LI} {v0:Value} {v1:Value} (h:Zgb p0 p1=some r) (A0:RdSl (El.int .i64) W v0 p0) (A1:RdSl (El.int .i64) W v1 p1) :
    Calls Tryz.prog 181 [v0,v1].toArray W (Zde W [] (fun v Ms=>∃ (u0:Value) (M1:List Zf),v=u0/\Ms = [.all M1]/\Z0q (El.int .i64) u0 M1 r)):=by
 unfold Zgb at h
 refine Z07 mo Z0nz rfl (Zie _) ?_
 refine Z0<|Z2<|Z7 rfl<|Z1<|Z0<|Z2<|Z7 rfl<|Z1<|Z0<|Z2<|Z7 rfl<|Z1<|Z0<|Z0<|Z2<|Z7 rfl<|Z1<|jH h fun k1 q1 h=>Zn (G:=fun t m=>∃ (l1:LI) (v114:Value) (w1:List Zf),k1 l1=some r/\Z0q (El.int .i64) v114 w1 l1/\Fit [(5,v114)] (w1 ++ []) t m) ?_ ?_
 ·refine Za<|Zr (fun n1 t m=>∃ (l2:LI) (i1:Int) (i2:Int) (v188:Value) (w2:List Zf),Z76 p0 p1 k1 n1 l2 i1 i2=some r/\Z0q (El.int .i64) v188 w2 l2/\Fit [(0,v0),(1,v1),(5,v188),(6,.int .i64 (i1)),(7,.int .i64 (i2))] (w2 ++ []) t m) big ?_ ?_
  ·exact ⟨[],0,0,(.slice none 0 0),[],h,Z3l,⟨⟨rfl,rfl,rfl,rfl,rfl,trivial⟩,(.no .nil)⟩⟩
  ·rintro n1 t m ⟨l2,i1,i2,v188,w2,h,O1,hF⟩
   refine Zk hF ?_
   clear hF
   rcases n1 with _ | n1
   · exact Z0c h
   have h:Zbr p0 p1 k1 (Z76 p0 p1 k1 n1) l2 i1 i2=some r:=h
   unfold Zbr at h
   obtain ⟨k2,q2⟩ : ∃ k,k=Z76 p0 p1 k1 n1:=⟨_,rfl⟩
   try rw [<- q2] at h
   refine Z0<|Z0<|Z2<|Z7 rfl<|Z7 rfl<|Z6 _ (Z1f rfl (Shp.rd A0))<|Z6 _ (Z9 rfl rfl rfl)<|Z1<|Z03 h rfl (fun h=>?_) (fun h=>?_)
   ·refine Ze<|Z0<|Za<|Z0<|cH h fun c1 h=>bH h fun z1 e1 h=>oH h fun y1 f1 h=>bH h fun z2 e2 h=>bH h fun z3 e3 h=>Zs<|Z8 _ (Z0e rfl)<|Z8 _ (Z0e rfl)<|Z8 _ (Z2u rfl rfl (Shp.rd A0) c1)<|Z8 _ (Z0e rfl)<|Z8 _ (Z0e rfl)<|Z8 _ (Z0e rfl)<|Zo _ (iz e1 (Z3y (E:=(El.int .i64)) (s:=[.one (.int .i64 (p0.getD (i2).toNat 0))]) rfl (Z0p A0 Z0w) (Z04 c1) rfl rfl))<|Zo _ (Z0f rfl (fun w hw=>Z9v f1 ((Z0p A1 Z0w) w hw)))<|Z8 _ (iz e2 (Z9 rfl rfl rfl))<|Z8 _ (iz e3 (Z9 rfl rfl rfl))<|Z8 _ (Z0e rfl)<|Z01<|Z0<|Z2<|Z7 rfl<|Z1<|Z0<|Z0<|Z2<|Z7 rfl<|Z6 _ (Z9 rfl rfl rfl)<|Z1<|jH h fun k3 q3 h=>Zn (G:=fun t m=>∃ (i3:Int) (i4:Int),k3 i3 i4=some r/\Fit [(0,v0),(1,v1),(5,v188),(6,.int .i64 (i3)),(7,.int .i64 (i2)),(8,.int .i64 (i4))] (w2 ++ []) t m) ?_ ?_
    ·refine Z03 h rfl (fun h=>?_) (fun h=>?_)
     ·exact Z0<|bH h fun z4 e4 h=>Z2<|Z7 rfl<|Z6 _ (iz e4 (Z9 rfl rfl rfl))<|Z7 rfl<|Z1<|Z2<|Z7 rfl<|Z1<|⟨1,z4,h,⟨⟨rfl,rfl,rfl,rfl,rfl,rfl,trivial⟩,(.all .here .nil)⟩⟩
     ·exact Ze<|⟨0,z3,h,⟨⟨rfl,rfl,rfl,rfl,rfl,rfl,trivial⟩,(.all .here .nil)⟩⟩
    ·rintro t m ⟨i3,i4,h,hF⟩
     refine Zk hF ?_
     clear hF
     subst q3
     refine cH h fun c2 h=>bH h fun l3 g1 h=>Z2<|Z7 rfl<|Z7 rfl<|Zg (Z5j (E:=(El.int .i64)) (xs:=[i4]) (.one rfl rfl rfl BdR.nil) (.cons (p:=[.one (.int .i64 (i4))]) rfl .nil) rfl fun v218 w3 O2=>Zg (Z32 (E:=(El.int .i64)) g1 rfl O1 (.app .here) rfl (Z05 O2 .here) c2 fun v223 w4 O3=>Z7 rfl<|Z1<|bH h fun z5 e5 h=>Z2<|Z7 rfl<|Z6 _ (iz e5 (Z9 rfl rfl rfl))<|Z7 rfl<|Z1 ?_))
     rw [q2] at h
     exact ⟨n1,Nat.lt_succ_self _,l3,i3,z5,v223,w4,h,O3,⟨⟨rfl,rfl,rfl,rfl,rfl,trivial⟩,(.all .here .nil)⟩⟩
   ·exact Zz _ rfl<|⟨l2,v188,w2,h,O1,⟨⟨rfl,trivial⟩,(.all .here .nil)⟩⟩
 ·rintro t m ⟨l1,v114,w1,h,O4,hF⟩
  refine Zk hF ?_
  clear hF
  subst q1
  refine Z0<|Z2<|Z7 rfl<|Z7 rfl<|Z1<|Zh ?_
  revert h; refine Zt fun h=>?_
  subst h
  exact ⟨_,_,(.cons (.tmp rfl) .nil),(.all .here .nil),⟨_,rfl,⟨v114,w1,rfl,rfl,O4⟩⟩⟩
def Zfg (k1:(LI)->OL) (k2:(LI)->Int->Int->OL) (l1:LI) (i1:Int) (i2:Int):OL :=
 br ((decide (i2<33))) (
 chk (inB i2 l1.length) <|
 bnd (l1.getD (i2).toNat 0) fun z1 =>
 bnd (wrap .i64 (2*z1)) fun z2 =>
 bnd (wrap .i64 (z2+i1)) fun z3 =>
 bnd (Int.tmod z3 256) fun z4 =>
 chk (inB i2 l1.length) <|
 bnd (Zdn 0 l1 (i2).toNat z4) fun l2 =>
 bnd (wrap .i64 (Int.tdiv z3 256)) fun z5 =>
 bnd (wrap .i64 (i2+1)) fun z6 =>
 k2 l2 z5 z6
 ) (
 k1 l1
 )
def Z99 (k1:(LI)->OL):Nat->(LI)->Int->Int->OL
  | 0,_,_,_=>none
  | n+1,l1,i1,i2=>Zfg k1 (Z99 k1 n) l1 i1 i2
def Zff (p0:LI) (y1:(LI)) (k1:(LI)->OL) (k2:(LI)->Int->OL) (l1:LI) (i1:Int):OL :=
 br ((decide (i1≥0))) (
 jn (fun (l2:LI)=>bnd (wrap .i64 (i1-1)) fun z1 =>
 k2 l2 z1) fun k3=>opt (Zqg p0 i1) fun y2 =>
 jn (fun (l3:LI)=>opt (Zhb l3 y1) fun y3 =>
 br ((!y3)) (
 opt (Zgb l3 y1) fun y4 =>
 k3 y4
 ) (
 k3 l3
 )) fun k4=>Z99 k4 big l1 y2 0
 ) (
 k1 l1
 )
def Z7x (p0:LI) (y1:(LI)) (k1:(LI)->OL):Nat->(LI)->Int->OL
  | 0,_,_=>none
  | n+1,l1,i1=>Zff p0 y1 k1 (Z7x p0 y1 k1 n) l1 i1
def Zqe (p0:LI):OL :=
 opt (Zi4 ) fun y1 =>
 chk (mkB 8 33 33) <|
 bnd (wrap .i64 (8*(p0.length:Int))) fun z1 =>
 bnd (wrap .i64 (z1-1)) fun z2 =>
 jn (fun (l1:LI)=>some l1) fun k1=>Z7x p0 y1 k1 big (List.replicate 33 0:LI) z2
theorem Zsf {W:World} {r:(LI)} {p0:LI} {v0:Value} (h:Zqe p0=some r) (A0:RdSl (El.int .i64) W v0 p0) :
    Calls Tryz.prog 113 [v0].toArray W (Zde W [] (fun v Ms=>∃ (u0:Value) (M1:List Zf),v=u0/\Ms = [.all M1]/\Z0q (El.int .i64) u0 M1 r)):=by
 unfold Zqe at h
 refine Z07 mo Z0mb rfl (Zie _) ?_
 refine Z0<|Z2<|Z7 rfl<|Z1<|Z0<|oH h fun y1 f1 h=>Z2<|Zg (Z0g rfl (fun w hw=>Zi5  f1 ) fun v4 o1 R1=>?_)
 obtain ⟨_,w1,rfl,rfl,O1⟩:=R1
 refine Z7 rfl<|Z1<|Z0<|cH h fun c1 h=>Z2<|Zg (Ziq (E:=(El.int .i64)) rfl rfl rfl c1 fun v11 w2 O2=>Z7 rfl<|Z1<|Z0<|Z0<|bH h fun z1 e1 h=>bH h fun z2 e2 h=>Z2<|Z7 rfl<|Z6 _ (Z1f rfl (Shp.rd A0))<|Z6 _ (iz e1 (Z9 rfl rfl rfl))<|Z6 _ (iz e2 (Z9 rfl rfl rfl))<|Z7 rfl<|Z1<|jH h fun k1 q1 h=>Zn (G:=fun t m=>∃ (l1:LI) (v920:Value) (w3:List Zf),k1 l1=some r/\Z0q (El.int .i64) v920 w3 l1/\Fit [(4,v920)] (w3 ++ []) t m) ?_ ?_)
 ·refine Za<|Zr (fun n1 t m=>∃ (l2:LI) (i1:Int) (v1524:Value) (w4:List Zf),Z7x p0 y1 k1 n1 l2 i1=some r/\Z0q (El.int .i64) v1524 w4 l2/\Fit [(0,v0),(3,v4),(4,v1524),(5,.int .i64 (i1))] (w1++(w4 ++ [])) t m) big ?_ ?_
  ·exact ⟨(List.replicate 33 0:LI),z2,v11,w2,h,O2,⟨⟨rfl,rfl,rfl,rfl,trivial⟩,(.all (.app .here) (.all .here .nil))⟩⟩
  ·rintro n1 t m ⟨l2,i1,v1524,w4,h,O3,hF⟩
   refine Zk hF ?_
   clear hF
   rcases n1 with _ | n1
   · exact Z0c h
   have h:Zff p0 y1 k1 (Z7x p0 y1 k1 n1) l2 i1=some r:=h
   unfold Zff at h
   obtain ⟨k2,q2⟩ : ∃ k,k=Z7x p0 y1 k1 n1:=⟨_,rfl⟩
   try rw [<- q2] at h
   refine Z0<|Z0<|Z2<|Z7 rfl<|Z6 _ (Z9 rfl rfl rfl)<|Z1<|Z03 h rfl (fun h=>?_) (fun h=>?_)
   ·refine Ze<|Z0<|jH h fun k3 q3 h=>Zn (G:=fun t m=>∃ (l3:LI) (v1677:Value) (w5:List Zf),k3 l3=some r/\Z0q (El.int .i64) v1677 w5 l3/\Fit [(0,v0),(3,v4),(4,v1677),(5,.int .i64 (i1))] (w1++(w5 ++ [])) t m) ?_ ?_
    ·refine Za<|Z0<|oH h fun y2 f2 h=>Z2<|Z7 rfl<|Z7 rfl<|Z6 _ (Z0f rfl (fun w hw=>Zsg f2 ((Z0p A0 Z0w) w hw)))<|Z7 rfl<|Z1<|Z0<|Z0<|Z2<|Z7 rfl<|Z1<|jH h fun k4 q4 h=>Zn (G:=fun t m=>∃ (l4:LI) (v1748:Value) (w6:List Zf),k4 l4=some r/\Z0q (El.int .i64) v1748 w6 l4/\Fit [(0,v0),(3,v4),(4,v1748),(5,.int .i64 (i1))] (w1++(w6 ++ [])) t m) ?_ ?_
     ·refine Za<|Zr (fun n2 t m=>∃ (l5:LI) (i2:Int) (i3:Int) (v1791:Value) (w7:List Zf),Z99 k4 n2 l5 i2 i3=some r/\Z0q (El.int .i64) v1791 w7 l5/\Fit [(0,v0),(3,v4),(4,v1791),(5,.int .i64 (i1)),(6,.int .i64 (i2)),(7,.int .i64 (i3))] (w1++(w7 ++ [])) t m) big ?_ ?_
      ·exact ⟨l2,y2,0,v1524,w4,h,O3,⟨⟨rfl,rfl,rfl,rfl,rfl,rfl,trivial⟩,(.all .here (.all .here .nil))⟩⟩
      ·rintro n2 t m ⟨l5,i2,i3,v1791,w7,h,O4,hF⟩
       refine Zk hF ?_
       clear hF
       rcases n2 with _ | n2
       · exact Z0c h
       have h:Zfg k4 (Z99 k4 n2) l5 i2 i3=some r:=h
       unfold Zfg at h
       obtain ⟨k5,q5⟩ : ∃ k,k=Z99 k4 n2:=⟨_,rfl⟩
       try rw [<- q5] at h
       refine Z0<|Z0<|Z2<|Z7 rfl<|Z6 _ (Z9 rfl rfl rfl)<|Z1<|Z03 h rfl (fun h=>?_) (fun h=>?_)
       ·refine Ze<|Z0<|Za<|Z0<|cH h fun c2 h=>bH h fun z3 e3 h=>bH h fun z4 e4 h=>bH h fun z5 e5 h=>Z2<|Z7 rfl<|Z7 rfl<|Z6 _ (Z2u rfl rfl (Shp.own O4) c2)<|Z6 _ (iz e3 (Z3y (E:=(El.int .i64)) (s:=[.one (.int .i64 (l5.getD (i3).toNat 0))]) rfl (Z05 O4 (.app .here)) (Z04 c2) rfl rfl))<|Z6 _ (iz e4 (Z9 rfl rfl rfl))<|Z7 rfl<|Z6 _ (iz e5 (Z9 rfl rfl rfl))<|Z7 rfl<|Z1<|Z0<|bH h fun z6 e6 h=>cH h fun c3 h=>bH h fun l6 g1 h=>Z2<|Z7 rfl<|Z7 rfl<|Z7 rfl<|Z6 _ (iz e6 (Zdd rfl rfl (by decide)))<|Z6 _ (Z2u rfl rfl (Shp.own O4) c3)<|Zg (Zjm (E:=(El.int .i64)) g1 O4 (.app .here) rfl rfl rfl (Z04 c3) fun w8 O5=>Z1<|bH h fun z7 e7 h=>Z2<|Z7 rfl<|Z6 _ (iz e7 (Zbu rfl rfl (by decide)))<|Z7 rfl<|Z1<|bH h fun z8 e8 h=>Z2<|Z7 rfl<|Z6 _ (iz e8 (Z9 rfl rfl rfl))<|Z7 rfl<|Z1 ?_)
        rw [q5] at h
        exact ⟨n2,Nat.lt_succ_self _,l6,z7,z8,v1791,w8,h,O5,⟨⟨rfl,rfl,rfl,rfl,rfl,rfl,trivial⟩,(.all (.app .here) (.all .here .nil))⟩⟩
       ·exact Zz _ rfl<|⟨l5,v1791,w7,h,O4,⟨⟨rfl,rfl,rfl,rfl,trivial⟩,(.all .here (.all .here .nil))⟩⟩
     ·rintro t m ⟨l4,v1748,w6,h,O6,hF⟩
      refine Zk hF ?_
      clear hF
      subst q4
      refine Z0<|oH h fun y3 f3 h=>Z2<|Z7 rfl<|Z7 rfl<|Z6 _ (Z0f rfl (fun w hw=>Zjt f3 ((Z05 O6 (.app .here)) w hw) ((Z05 O1 .here) w hw)))<|Z6 _ (Zhc rfl rfl)<|Z1<|Z03 h rfl (fun h=>?_) (fun h=>?_)
      ·refine oH h fun y4 f4 h=>Z2<|Z7 rfl<|Z7 rfl<|Zg (Z0g rfl (fun w hw=>Zov  f4 ((Z05 O6 (.app .here)) w hw) ((Z05 O1 .here) w hw)) fun v1821 o2 R2=>?_)
       obtain ⟨_,w9,rfl,rfl,O7⟩:=R2
       exact Z7 rfl<|Z1<|⟨y4,v1821,w9,h,O7,⟨⟨rfl,rfl,rfl,rfl,trivial⟩,(.all (.app .here) (.all .here .nil))⟩⟩
      ·exact Ze<|⟨l4,v1748,w6,h,O6,⟨⟨rfl,rfl,rfl,rfl,trivial⟩,(.all .here (.all .here .nil))⟩⟩
    ·rintro t m ⟨l3,v1677,w5,h,O8,hF⟩
     refine Zk hF ?_
     clear hF
     subst q3
     refine bH h fun z9 e9 h=>Z2<|Z7 rfl<|Z6 _ (iz e9 (Z9 rfl rfl rfl))<|Z7 rfl<|Z1 ?_
     rw [q2] at h
     exact ⟨n1,Nat.lt_succ_self _,l3,z9,v1677,w5,h,O8,⟨⟨rfl,rfl,rfl,rfl,trivial⟩,(.all .here (.all .here .nil))⟩⟩
   ·exact Zz _ rfl<|⟨l2,v1524,w4,h,O3,⟨⟨rfl,trivial⟩,(.all (.app .here) .nil)⟩⟩
 ·rintro t m ⟨l1,v920,w3,h,O9,hF⟩
  refine Zk hF ?_
  clear hF
  subst q1
  refine Z0<|Z2<|Z7 rfl<|Z7 rfl<|Z1<|Zh ?_
  revert h; refine Zt fun h=>?_
  subst h
  exact ⟨_,_,(.cons (.tmp rfl) .nil),(.all .here .nil),⟨_,rfl,⟨v920,w3,rfl,rfl,O9⟩⟩⟩
def Zi3 (p0:LI) (k1:(LI)->OL) (k2:(LI)->Int->OL) (l1:LI) (i1:Int):OL :=
 br ((decide (i1<(p0.length:Int)))) (
 chk (inB i1 p0.length) <|
 bnd (p0.getD (i1).toNat 0) fun z1 =>
 bnd (wrap .i64 z1) fun z2 =>
 chk (decide ((l1.length+([z2]:LI).length)*8<=140737488355328)) <|
 bnd (l1++([z2]:LI)) fun l2 =>
 bnd (wrap .i64 (i1+1)) fun z3 =>
 k2 l2 z3
 ) (
 k1 l1
 )
def Zc4 (p0:LI) (k1:(LI)->OL):Nat->(LI)->Int->OL
  | 0,_,_=>none
  | n+1,l1,i1=>Zi3 p0 k1 (Zc4 p0 k1 n) l1 i1
def Zvd (p0:LI):OL :=
 jn (fun (l1:LI)=>some l1) fun k1=>Zc4 p0 k1 big [] 0
theorem Zne {W:World} {r:(LI)} {p0:LI} {v0:Value} (h:Zvd p0=some r) (A0:RdSl (El.int .u8) W v0 p0) :
    Calls Tryz.prog 114 [v0].toArray W (Zde W [] (fun v Ms=>∃ (u0:Value) (M1:List Zf),v=u0/\Ms = [.all M1]/\Z0q (El.int .i64) u0 M1 r)):=by
 unfold Zvd at h
 refine Z07 mo Z0mc rfl (Zie _) ?_
 refine Z0<|Z2<|Z7 rfl<|Z1<|Z0<|Z2<|Z7 rfl<|Z1<|Z0<|Z0<|Z2<|Z7 rfl<|Z1<|jH h fun k1 q1 h=>Zn (G:=fun t m=>∃ (l1:LI) (v63:Value) (w1:List Zf),k1 l1=some r/\Z0q (El.int .i64) v63 w1 l1/\Fit [(3,v63)] (w1 ++ []) t m) ?_ ?_
 ·refine Za<|Zr (fun n1 t m=>∃ (l2:LI) (i1:Int) (v104:Value) (w2:List Zf),Zc4 p0 k1 n1 l2 i1=some r/\Z0q (El.int .i64) v104 w2 l2/\Fit [(0,v0),(3,v104),(4,.int .i64 (i1))] (w2 ++ []) t m) big ?_ ?_
  ·exact ⟨[],0,(.slice none 0 0),[],h,Z3l,⟨⟨rfl,rfl,rfl,trivial⟩,(.no .nil)⟩⟩
  ·rintro n1 t m ⟨l2,i1,v104,w2,h,O1,hF⟩
   refine Zk hF ?_
   clear hF
   rcases n1 with _ | n1
   · exact Z0c h
   have h:Zi3 p0 k1 (Zc4 p0 k1 n1) l2 i1=some r:=h
   unfold Zi3 at h
   obtain ⟨k2,q2⟩ : ∃ k,k=Zc4 p0 k1 n1:=⟨_,rfl⟩
   try rw [<- q2] at h
   refine Z0<|Z0<|Z2<|Z7 rfl<|Z7 rfl<|Z6 _ (Z1f rfl (Shp.rd A0))<|Z6 _ (Z9 rfl rfl rfl)<|Z1<|Z03 h rfl (fun h=>?_) (fun h=>?_)
   ·refine Ze<|Z0<|Za<|cH h fun c1 h=>bH h fun z1 e1 h=>bH h fun z2 e2 h=>cH h fun c2 h=>bH h fun l3 g1 h=>Z2<|Z7 rfl<|Z7 rfl<|Z7 rfl<|Z6 _ (Z2u rfl rfl (Shp.rd A0) c1)<|Z6 _ (iz e1 (Z3y (E:=(El.int .u8)) (s:=[.one (.int .u8 (p0.getD (i1).toNat 0))]) rfl (Z0p A0 Z0w) (Z04 c1) rfl rfl))<|Z6 _ (iz e2 (Z4k rfl))<|Zg (Z5j (E:=(El.int .i64)) (xs:=[z2]) (.one rfl rfl rfl BdR.nil) (.cons (p:=[.one (.int .i64 (z2))]) rfl .nil) rfl fun v117 w3 O2=>Zg (Z32 (E:=(El.int .i64)) g1 rfl O1 (.app .here) rfl (Z05 O2 .here) c2 fun v122 w4 O3=>Z7 rfl<|Z1<|bH h fun z3 e3 h=>Z2<|Z7 rfl<|Z6 _ (iz e3 (Z9 rfl rfl rfl))<|Z7 rfl<|Z1 ?_))
    rw [q2] at h
    exact ⟨n1,Nat.lt_succ_self _,l3,z3,v122,w4,h,O3,⟨⟨rfl,rfl,rfl,trivial⟩,(.all .here .nil)⟩⟩
   ·exact Zz _ rfl<|⟨l2,v104,w2,h,O1,⟨⟨rfl,trivial⟩,(.all .here .nil)⟩⟩
 ·rintro t m ⟨l1,v63,w1,h,O4,hF⟩
  refine Zk hF ?_
  clear hF
  subst q1
  refine Z0<|Z2<|Z7 rfl<|Z7 rfl<|Z1<|Zh ?_
  revert h; refine Zt fun h=>?_
  subst h
  exact ⟨_,_,(.cons (.tmp rfl) .nil),(.all .here .nil),⟨_,rfl,⟨v63,w1,rfl,rfl,O4⟩⟩⟩
def Zd6 (p0:LI):OL :=
 opt (Zvd (tk p0 0 64)) fun y1 =>
 opt (Zqe y1) fun y2 =>
 opt (Zlp y2) fun y3 =>
 some y3
theorem Zcf {W:World} {r:(LI)} {p0:LI} (h:Zd6 p0=some r)  :
    Calls Tryz.prog 59 [agg [b6' p0]].toArray W (Z39 W (agg [b3' r])):=by
 unfold Zd6 at h
 refine Zc mo ok59 rfl ?_
 refine Z0<|Z2<|Zg (Z0j (s:=[b6' p0]) rfl fun b1 u1=>Zg (Zw fun b2 u2=>Z1<|Z0<|oH h fun y1 f1 h=>oH h fun y2 f2 h=>oH h fun y3 f3 h=>Z2<|Z6 _ (Ze0 rfl .no .no .no (by simp) (by decide))<|Zg (Z0g rfl (fun w hw=>Zne  f1 ((Z3p (s:=[b6' p0]) (N:=64) (k:=.u8) (base:=0) (lo:=0) (hi:=64) (mz:=64) .t1 rfl (by decide)) w hw)) fun v6 o1 R1=>?_)))
 obtain ⟨_,w1,rfl,rfl,O1⟩:=R1
 refine Zg (Z0g rfl (fun w hw=>Zsf  f2 ((Z05 O1 .here) w hw)) fun v12 o2 R2=>?_)
 obtain ⟨_,w2,rfl,rfl,O2⟩:=R2
 refine Z6 _ (Z0f rfl (fun w hw=>Zqf f3 ((Z05 O2 .here) w hw)))<|Zg (Zu (q:=[b3' y3]) rfl rfl rfl rfl rfl (.app (.app .here))<|Z1<|Zh ?_)
 revert h; refine Zt fun h=>?_
 subst h
 exact ⟨_,(.cons (.agg rfl (.app (.app .here)) rfl) .nil),rfl⟩
def Zfn (p0:LI) (p1:LI) (p2:LI):OL :=
 chk (decide ((([]:LI).length+p0.length)*1<=140737488355328)) <|
 bnd (([]:LI)++p0) fun l1 =>
 chk (decide ((l1.length+p1.length)*1<=140737488355328)) <|
 bnd (l1++p1) fun l2 =>
 chk (decide ((l2.length+p2.length)*1<=140737488355328)) <|
 bnd (l2++p2) fun l3 =>
 some l3
theorem Zgy {W:World} {r:(LI)} {p0:LI} {p1:LI} {p2:LI} {v0:Value} {v1:Value} {v2:Value} (h:Zfn p0 p1 p2=some r) (A0:RdSl (El.int .u8) W v0 p0) (A1:RdSl (El.int .u8) W v1 p1) (A2:RdSl (El.int .u8) W v2 p2) :
    Calls Tryz.prog 60 [v0,v1,v2].toArray W (Zde W [] (fun v Ms=>∃ (u0:Value) (M1:List Zf),v=u0/\Ms = [.all M1]/\Z0q (El.int .u8) u0 M1 r)):=by
 unfold Zfn at h
 refine Z07 mo ok60 rfl (Zie _) ?_
 refine Z0<|Z2<|Z7 rfl<|Z1<|Z0<|Z2<|Z7 rfl<|Z1<|Z0<|cH h fun c1 h=>bH h fun l1 g1 h=>Z2<|Z7 rfl<|Z7 rfl<|Zg (Z32 (E:=(El.int .u8)) g1 rfl Z3l .here rfl (Z0p A0 Z0w) c1 fun v6 w1 O1=>Z7 rfl<|Z1<|Z0<|cH h fun c2 h=>bH h fun l2 g2 h=>Z2<|Z7 rfl<|Z7 rfl<|Zg (Z32 (E:=(El.int .u8)) g2 rfl O1 .here rfl (Z0p A1 Z0w) c2 fun v12 w2 O2=>Z7 rfl<|Z1<|Z0<|cH h fun c3 h=>bH h fun l3 g3 h=>Z2<|Z7 rfl<|Z7 rfl<|Zg (Z32 (E:=(El.int .u8)) g3 rfl O2 .here rfl (Z0p A2 Z0w) c3 fun v18 w3 O3=>Z7 rfl<|Z1<|Z0<|Z2<|Z7 rfl<|Z7 rfl<|Z1<|Zh ?_)))
 revert h; refine Zt fun h=>?_
 subst h
 exact ⟨_,_,(.cons (.tmp rfl) .nil),(.all .here .nil),⟨_,rfl,⟨v18,w3,rfl,rfl,O3⟩⟩⟩
end Go.Proofs.YtiflckckekjbnaaGreatDoor
namespace Go.Proofs.YtiflckckekjbnaaGreatDoor
open Go Go.Sx Go.RowKit
set_option linter.all false
set_option maxHeartbeats 400000
set_option maxRecDepth 100000
end Go.Proofs.YtiflckckekjbnaaGreatDoor
namespace Go.Proofs.YtiflckckekjbnaaGreatDoor
open Go Go.Sx Go.RowKit
open List (replicate)
set_option linter.all false
set_option maxHeartbeats 400000
set_option maxRecDepth 100000
def Z5l (p0:LI):Option Bool :=
 opt (Z34 p0) fun y1 =>
 opt (Z9q y1) fun y2 =>
 some (ieq 32 y2 p0)
theorem Zgj {W:World} {r:Bool} {p0:LI} (h:Z5l p0=some r)  :
    Calls Tryz.prog 121 [agg [b3' p0]].toArray W (Z39 W (.bool (r))):=by
 unfold Z5l at h
 refine Zc mo Z0me rfl ?_
 refine Z0<|Z2<|Zg (Z0j (s:=[b3' p0]) rfl fun b1 u1=>Z7 rfl<|Z1<|Z0<|oH h fun y1 f1 h=>oH h fun y2 f2 h=>Zs<|Zo _ (Zy (p:=[b3' p0]) rfl .here rfl)<|Z8 _ (Z0b rfl (Z5f f1))<|Z8 _ (Z0b rfl (Zea f2))<|Zo _ (Zy (p:=[b3' p0]) rfl .here rfl)<|Z8 _ (Zi6 rfl rfl rfl rfl _ (Z6q Z63))<|Z8 _ (Z0e rfl)<|Z01<|Zh ?_)
 revert h; refine Zt fun h=>?_
 subst h
 exact ⟨_,(.cons (.tmp rfl) .nil),rfl⟩
def Z53 (p0:LI):Option Bool :=
 opt (Z1u p0) fun y1 =>
 bnd (([0,0,0,0,0]:LI)) fun z1 =>
 some (ieq 5 y1 z1)
theorem Z9r {W:World} {r:Bool} {p0:LI} (h:Z53 p0=some r)  :
    Calls Tryz.prog 129 [agg [u5' p0]].toArray W (Z39 W (.bool (r))):=by
 unfold Z53 at h
 refine Zc mo Z0mm rfl ?_
 refine Z0<|Z2<|Zg (Z0j (s:=[u5' p0]) rfl fun b1 u1=>Z7 rfl<|Z1<|Z0<|oH h fun y1 f1 h=>bH h fun z1 e1 h=>Z2<|Z6 _ (Zy (p:=[u5' p0]) rfl .here rfl)<|Z6 _ (Z0b rfl (Z18 f1))<|Z6 _ (az (fun z=>agg [.ints .u64 5 z]) e1 (Zcj BdR.nil))<|Z6 _ (Zi6 rfl rfl rfl rfl _ (Z6q Z63))<|Z7 rfl<|Z1<|Zh ?_)
 revert h; refine Zt fun h=>?_
 subst h
 exact ⟨_,(.cons (.tmp rfl) .nil),rfl⟩
def Z86 (p0:LI) (p1:LI):Option Bool :=
 opt (Z1u p0) fun y1 =>
 opt (Z1u p1) fun y2 =>
 some (ieq 5 y1 y2)
theorem Zeb {W:World} {r:Bool} {p0:LI} {p1:LI} (h:Z86 p0 p1=some r)  :
    Calls Tryz.prog 187 [agg [u5' p0],agg [u5' p1]].toArray W (Z39 W (.bool (r))):=by
 unfold Z86 at h
 refine Zc mo Z0o2 rfl ?_
 refine Z0<|Z2<|Zg (Z0j (s:=[u5' p0]) rfl fun b1 u1=>Zg (Z0j (s:=[u5' p1]) rfl fun b2 u2=>Z7 rfl<|Z1<|Z0<|oH h fun y1 f1 h=>oH h fun y2 f2 h=>Zs<|Zo _ (Zy (p:=[u5' p0]) rfl .t1 rfl)<|Z8 _ (Z0b rfl (Z18 f1))<|Zo _ (Zy (p:=[u5' p1]) rfl .here rfl)<|Z8 _ (Z0b rfl (Z18 f2))<|Z8 _ (Zi6 rfl rfl rfl rfl _ (Z6q Z63))<|Z8 _ (Z0e rfl)<|Z01<|Zh ?_))
 revert h; refine Zt fun h=>?_
 subst h
 exact ⟨_,(.cons (.tmp rfl) .nil),rfl⟩
def Z8m (p0:Bool) (p1:LI) (p2:LI):OL :=
 br (p0) (
 opt (Z1u p1) fun y1 =>
 some y1
 ) (
 opt (Z1u p2) fun y2 =>
 some y2
 )
theorem Zit {W:World} {r:(LI)} {p0:Bool} {p1:LI} {p2:LI} (h:Z8m p0 p1 p2=some r)  :
    Calls Tryz.prog 189 [.bool (p0),agg [u5' p1],agg [u5' p2]].toArray W (Z39 W (agg [u5' r])):=by
 unfold Z8m at h
 refine Zc mo Z0o4 rfl ?_
 refine Z0<|Z2<|Zg (Z0j (s:=[u5' p1]) rfl fun b1 u1=>Zg (Z0j (s:=[u5' p2]) rfl fun b2 u2=>Zg (Zw fun b3 u3=>Z1<|Z0<|Z0<|Z2<|Z7 rfl<|Z1<|Z03 h rfl (fun h=>?_) (fun h=>?_))))
 ·refine Z0<|oH h fun y1 f1 h=>Z2<|Z6 _ (Zy (p:=[u5' p1]) rfl .t2 rfl)<|Z6 _ (Z0b rfl (Z18 f1))<|Zg (Zu (q:=[u5' y1]) rfl rfl rfl rfl rfl .here<|Z1<|Zh ?_)
  revert h; refine Zt fun h=>?_
  subst h
  exact ⟨_,(.cons (.agg rfl .here rfl) .nil),rfl⟩
 ·refine Ze<|Z0<|oH h fun y2 f2 h=>Z2<|Z6 _ (Zy (p:=[u5' p2]) rfl .t1 rfl)<|Z6 _ (Z0b rfl (Z18 f2))<|Zg (Zu (q:=[u5' y2]) rfl rfl rfl rfl rfl .here<|Z1<|Zh ?_)
  revert h; refine Zt fun h=>?_
  subst h
  exact ⟨_,(.cons (.agg rfl .here rfl) .nil),rfl⟩
def Z6x (p0:LI) (p1:LI):Option ((LI)×Bool) :=
 opt (Z53 p1) fun y1 =>
 br (y1) (
 bnd (([0,0,0,0,0]:LI)) fun z1 =>
 opt (Z53 p0) fun y2 =>
 some (z1,y2)
 ) (
 opt (Z1t p1) fun y3 =>
 opt (Z13 y3 p1) fun y4 =>
 opt (Z1t y4) fun y5 =>
 opt (Z13 p0 y5) fun y6 =>
 opt (Z13 y6 p1) fun y7 =>
 opt (Z13 p0 y4) fun y8 =>
 opt (Z6y 253 15) fun y9 =>
 opt (Zaf y7 y9) fun y10 =>
 opt (Z13 y8 y10) fun y11 =>
 opt (Z1t y11) fun y12 =>
 opt (Z13 p1 y12) fun y13 =>
 jn (fun (a1:LI)=>opt (Z87 a1) fun y14 =>
 opt (Z5m a1) fun y15 =>
 opt (Z8m y14 y15 a1) fun y16 =>
 some (y16,true)) fun k1=>opt (Z86 y13 p0) fun y17 =>
 br (y17) (
 k1 y11
 ) (
 opt (Z5m p0) fun y18 =>
 opt (Z86 y13 y18) fun y19 =>
 br (y19) (
 opt (Z9s 2) fun y20 =>
 opt (Z6y 251 31) fun y21 =>
 opt (Zaf y20 y21) fun y22 =>
 opt (Z13 y11 y22) fun y23 =>
 k1 y23
 ) (
 bnd (([0,0,0,0,0]:LI)) fun z2 =>
 some (z2,false)
 )
 )
 )
theorem Zgk {W:World} {r:(LI)×Bool} {p0:LI} {p1:LI} (h:Z6x p0 p1=some r)  :
    Calls Tryz.prog 125 [agg [u5' p0],agg [u5' p1]].toArray W (Z39 W (.tuple #[agg [u5' r.1],.bool (r.2)])):=by
 unfold Z6x at h
 refine Zc mo Z0mi rfl ?_
 refine Z0<|Z2<|Zg (Z0j (s:=[u5' p0]) rfl fun b1 u1=>Zg (Z0j (s:=[u5' p1]) rfl fun b2 u2=>Zg (Zw fun b3 u3=>Z7 rfl<|Z1<|Z0<|Z0<|oH h fun y1 f1 h=>Z2<|Z6 _ (Zy (p:=[u5' p1]) rfl .t1 rfl)<|Z6 _ (Z0b rfl (Z9r f1))<|Z1<|Z03 h rfl (fun h=>?_) (fun h=>?_))))
 ·refine Z0<|bH h fun z1 e1 h=>oH h fun y2 f2 h=>Z2<|Z6 _ (az (fun z=>agg [.ints .u64 5 z]) e1 (Zcj BdR.nil))<|Z6 _ (Zy (p:=[u5' p0]) rfl .t2 rfl)<|Z6 _ (Z0b rfl (Z9r f2))<|Zg (Zu (q:=[u5' z1]) rfl rfl rfl rfl rfl .here<|Z7 rfl<|Z1<|Zh ?_)
  revert h; refine Zt fun h=>?_
  subst h
  exact ⟨_,(.cons (.agg rfl .here rfl) (.cons (.tmp rfl) .nil)),rfl⟩
 ·refine Ze<|Z0<|oH h fun y3 f3 h=>oH h fun y4 f4 h=>Zs<|Zo _ (Zy (p:=[u5' p1]) rfl .t1 rfl)<|Z8 _ (Z0b rfl (Z2l f3))<|Zo _ (Zy (p:=[u5' p1]) rfl .t1 rfl)<|Z8 _ (Z0b rfl (Z0a f4))<|Z6o (Zw fun b4 u4=>⟨(by repeat (first | exact Sup.refl _ | apply Sup.cons | apply Sup.app)),Z24 rfl (Zu (q:=[u5' y4]) rfl rfl rfl rfl rfl .here (Z01 (Z0 (oH h fun y5 f5 h=>oH h fun y6 f6 h=>oH h fun y7 f7 h=>Zs (Zo _ (Zy (p:=[u5' p0]) rfl .t3 rfl) (Zo _ (Zy (p:=[u5' y4]) rfl .here rfl) (Z8 _ (Z0b rfl (Z2l f5)) (Z8 _ (Z0b rfl (Z0a f6)) (Zo _ (Zy (p:=[u5' p1]) rfl .t2 rfl) (Z8 _ (Z0b rfl (Z0a f7)) (Z6o (Zw fun b5 u5=>⟨(by repeat (first | exact Sup.refl _ | apply Sup.cons | apply Sup.app)),Z24 rfl (Zu (q:=[u5' y7]) rfl rfl rfl rfl rfl .here (Z01 (Z0 (oH h fun y8 f8 h=>oH h fun y9 f9 h=>oH h fun y10 f10 h=>oH h fun y11 f11 h=>Zs (Zo _ (Zy (p:=[u5' p0]) rfl .t4 rfl) (Zo _ (Zy (p:=[u5' y4]) rfl .t1 rfl) (Z8 _ (Z0b rfl (Z0a f8)) (Z8 _ (Z0b rfl (Zau f9)) (Zo _ (Zy (p:=[u5' y7]) rfl .here rfl) (Z8 _ (Z0b rfl (Zcb f10)) (Z8 _ (Z0b rfl (Z0a f11)) (Z6o (Zw fun b6 u6=>⟨(by repeat (first | exact Sup.refl _ | apply Sup.cons | apply Sup.app)),Z24 rfl (Zu (q:=[u5' y11]) rfl rfl rfl rfl rfl .here (Z01 (Z0 (Z0 (oH h fun y12 f12 h=>oH h fun y13 f13 h=>Zs (Zo _ (Zy (p:=[u5' p1]) rfl .t4 rfl) (Zo _ (Zy (p:=[u5' y11]) rfl .here rfl) (Z8 _ (Z0b rfl (Z2l f12)) (Z8 _ (Z0b rfl (Z0a f13)) (Z6o (Zw fun b7 u7=>⟨(by repeat (first | exact Sup.refl _ | apply Sup.cons | apply Sup.app)),Z24 rfl (Zu (q:=[u5' y13]) rfl rfl rfl rfl rfl .here (Z01 (jH h fun k1 q1 h=>Zn (G:=fun t m=>∃ (a1:LI),k1 a1=some r/\Fit [(4,pt' b3),(8,pt' b6)] (ck b7 80 [u5' y13]::(ck b6 80 [u5' a1]::(ck b5 80 [u5' y7]::(ck b4 80 [u5' y4]::(ck b3 80 [u5' (replicate 5 0)]::(ck b2 80 [u5' p1]::(ck b1 80 [u5' p0] :: []))))))) t m) ?_ ?_)))⟩)))))))))))⟩)))))))))))))⟩))))))))))))⟩)
  ·refine Za<|Z0<|oH h fun y14 f14 h=>Z2<|Z6 _ (Zy (p:=[u5' y13]) rfl .here rfl)<|Z6 _ (Zy (p:=[u5' p0]) rfl .t6 rfl)<|Z6 _ (Z0b rfl (Zeb f14))<|Z7 rfl<|Z1<|Z03 h rfl (fun h=>?_) (fun h=>?_)
   ·exact Ze<|⟨y11,h,⟨⟨rfl,rfl,trivial⟩,(.o (.o (.o (.o (.o (.o (.o .nil)))))))⟩⟩
   ·refine Z0<|oH h fun y15 f15 h=>oH h fun y16 f16 h=>Zs<|Zo _ (Zy (p:=[u5' y13]) rfl .here rfl)<|Zo _ (Zy (p:=[u5' p0]) rfl .t6 rfl)<|Z8 _ (Z0b rfl (Z6i f15))<|Z8 _ (Z0b rfl (Zeb f16))<|Z8 _ (Z0e rfl)<|Z01<|Z03 h rfl (fun h=>?_) (fun h=>?_)
    ·exact oH h fun y17 f17 h=>oH h fun y18 f18 h=>oH h fun y19 f19 h=>oH h fun y20 f20 h=>Zs<|Z8 _ (Z0b rfl (Zed f17))<|Z8 _ (Z0b rfl (Zau f18))<|Z8 _ (Z0b rfl (Zcb f19))<|Zo _ (Zy (p:=[u5' y11]) rfl .t1 rfl)<|Z8 _ (Z0b rfl (Z0a f20))<|Z24 rfl (Zu (q:=[u5' y20]) rfl rfl rfl rfl rfl .t1<|Z01<|⟨y20,h,⟨⟨rfl,rfl,trivial⟩,(.o (.o (.o (.o (.o (.o (.o .nil)))))))⟩⟩)
    ·refine Z0<|bH h fun z2 e2 h=>Z2<|Z6 _ (az (fun z=>agg [.ints .u64 5 z]) e2 (Zcj BdR.nil))<|Zg (Zu (q:=[u5' z2]) rfl rfl rfl rfl rfl .t4<|Z7 rfl<|Z1<|Zh ?_)
     revert h; refine Zt fun h=>?_
     subst h
     exact ⟨_,(.cons (.agg rfl .t4 rfl) (.cons (.tmp rfl) .nil)),rfl⟩
  ·rintro t m ⟨a1,h,hF⟩
   refine Zk hF ?_
   clear hF
   subst q1
   refine Z0<|oH h fun y21 f21 h=>oH h fun y22 f22 h=>oH h fun y23 f23 h=>Zs<|Zo _ (Zy (p:=[u5' a1]) rfl .t1 rfl)<|Z8 _ (Z0b rfl (Zec f21))<|Zo _ (Zy (p:=[u5' a1]) rfl .t1 rfl)<|Z8 _ (Z0b rfl (Z6i f22))<|Zo _ (Zy (p:=[u5' a1]) rfl .t1 rfl)<|Z8 _ (Z0b rfl (Zit f23))<|Z24 rfl (Zu (q:=[u5' y23]) rfl rfl rfl rfl rfl .t4<|Z8 _ (Z0e rfl)<|Z01<|Zh ?_)
   revert h; refine Zt fun h=>?_
   subst h
   exact ⟨_,(.cons (.agg rfl .t4 rfl) (.cons (.tmp rfl) .nil)),rfl⟩
def Zbf:OL :=
 bnd (([929955233495203,466365720129213,1662059464998953,2033849074728123,1442794654840575]:LI)) fun z1 =>
 some z1
theorem Zk9 {W:World} {r:(LI)} (h:Zbf=some r)  :
    Calls Tryz.prog 128 [].toArray W (Z39 W (agg [u5' r])):=by
 unfold Zbf at h
 refine Zc mo Z0ml rfl ?_
 refine Z0<|Z2<|Zg (Zw fun b1 u1=>Z1<|Z0<|bH h fun z1 e1 h=>Z2<|Z6 _ (az (fun z=>agg [.ints .u64 5 z]) e1 (Zcj (.one rfl rfl rfl (.one rfl rfl rfl (.one rfl rfl rfl (.one rfl rfl rfl (.one rfl rfl rfl BdR.nil)))))))<|Zg (Zu (q:=[u5' z1]) rfl rfl rfl rfl rfl .here<|Z1<|Zh ?_))
 revert h; refine Zt fun h=>?_
 subst h
 exact ⟨_,(.cons (.agg rfl .here rfl) .nil),rfl⟩
def Zac (p0:LI):Option (Zi×Bool) :=
 bnd (p0.getD 31 0) fun z1 =>
 bnd (Zq .u8 z1 7) fun z2 =>
 bnd (p0.getD 31 0) fun z3 =>
 bnd (Z4 .and .u8 z3 127) fun z4 =>
 bnd (Z2z p0 31 z4) fun l1 =>
 opt (Z5l l1) fun y1 =>
 br ((!y1)) (
 some ((⟨(replicate 5 0),(replicate 5 0),(replicate 5 0),(replicate 5 0)⟩:Zi),false)
 ) (
 opt (Z34 l1) fun y2 =>
 opt (Z1t y2) fun y3 =>
 opt (Z8g) fun y4 =>
 opt (Z55 y3 y4) fun y5 =>
 opt (Zbf) fun y6 =>
 opt (Z13 y6 y3) fun y7 =>
 opt (Z2y y7 y4) fun y8 =>
 opt (Z6x y5 y8) fun y9 =>
 chk (imp (!(!y9.2)) (imp (z2==1) ((Z53 y9.1).isSome))) <|
 br (((!y9.2)||((z2==1)&&((Z53 y9.1).getD false)))) (
 some ((⟨(replicate 5 0),(replicate 5 0),(replicate 5 0),(replicate 5 0)⟩:Zi),false)
 ) (
 jn (fun (a1:LI)=>opt (Z13 a1 y2) fun y10 =>
 some ((⟨a1,y2,y4,y10⟩:Zi),true)) fun k1=>br ((z2==1)) (
 opt (Z5m y9.1) fun y11 =>
 k1 y11
 ) (
 k1 y9.1
 )
 )
 )
theorem Zin {W:World} {r:Zi×Bool} {p0:LI} (h:Zac p0=some r)  :
    Calls Tryz.prog 66 [agg [b3' p0]].toArray W (Z39 W (.tuple #[agg [u5' r.1.gX,u5' r.1.gY,u5' r.1.gZ,u5' r.1.gT],.bool (r.2)])):=by
 unfold Zac at h
 refine Zc mo ok66 rfl ?_
 refine Z0<|Z2<|Zg (Z0j (s:=[b3' p0]) rfl fun b1 u1=>Zg (Zw fun b2 u2=>Z7 rfl<|Z1<|Z0<|bH h fun z1 e1 h=>bH h fun z2 e2 h=>Z2<|Z6 _ (Z1s rfl rfl (by decide))<|Z6 _ (iz e1 (Z23 rfl .t1 rfl))<|Z6 _ (iz e2 (Z5e rfl rfl (by decide)))<|Z6 _ (Z9 rfl rfl rfl)<|Z7 rfl<|Z1<|Z0<|bH h fun z3 e3 h=>bH h fun z4 e4 h=>bH h fun l1 g1 h=>Z2<|Z6 _ (Z1s rfl rfl (by decide))<|Z6 _ (iz e3 (Z23 rfl .t1 rfl))<|Z6 _ (iz e4 (Z9 rfl rfl rfl))<|Z6 _ (Z1s rfl rfl (by decide))<|Zg (Z85 (q:=[b3' l1]) (congrArg (fun z=>([b3' z]:List Seg)) g1.symm) rfl rfl rfl rfl .t1<|Z1<|Z0<|Z0<|oH h fun y1 f1 h=>Z2<|Z6 _ (Zy (p:=[b3' l1]) rfl .t1 rfl)<|Z6 _ (Z0b rfl (Zgj f1))<|Z6 _ (Zhc rfl rfl)<|Z1<|Z03 h rfl (fun h=>?_) (fun h=>?_))))
 ·refine Z0<|Z2<|Z6 _ (Zcj (q:=[u5' (replicate 5 0),u5' (replicate 5 0),u5' (replicate 5 0),u5' (replicate 5 0)]) BdR.nil)<|Zg (Zu (q:=[u5' (replicate 5 0),u5' (replicate 5 0),u5' (replicate 5 0),u5' (replicate 5 0)]) rfl rfl rfl rfl rfl .here<|Z7 rfl<|Z1<|Zh ?_)
  revert h; refine Zt fun h=>?_
  subst h
  exact ⟨_,(.cons (.agg rfl .here rfl) (.cons (.tmp rfl) .nil)),rfl⟩
 ·refine Ze<|Z0<|oH h fun y2 f2 h=>Z2<|Z6 _ (Zy (p:=[b3' l1]) rfl .t1 rfl)<|Z6 _ (Z0b rfl (Z5f f2))<|Zg (Zw fun b3 u3=>Zg (Zu (q:=[u5' y2]) rfl rfl rfl rfl rfl .here<|Z1<|Z0<|oH h fun y3 f3 h=>Z2<|Z6 _ (Zy (p:=[u5' y2]) rfl .here rfl)<|Z6 _ (Z0b rfl (Z2l f3))<|Zg (Zw fun b4 u4=>Zg (Zu (q:=[u5' y3]) rfl rfl rfl rfl rfl .here<|Z1<|Z0<|oH h fun y4 f4 h=>Z2<|Z6 _ (Z0b rfl (Z91 f4))<|Zg (Zw fun b5 u5=>Zg (Zu (q:=[u5' y4]) rfl rfl rfl rfl rfl .here<|Z1<|Z0<|oH h fun y5 f5 h=>oH h fun y6 f6 h=>oH h fun y7 f7 h=>oH h fun y8 f8 h=>oH h fun y9 f9 h=>Zs<|Zo _ (Zy (p:=[u5' y3]) rfl .t1 rfl)<|Zo _ (Zy (p:=[u5' y4]) rfl .here rfl)<|Z8 _ (Z0b rfl (Z5b f5))<|Z8 _ (Z0b rfl (Zk9 f6))<|Zo _ (Zy (p:=[u5' y3]) rfl .t1 rfl)<|Z8 _ (Z0b rfl (Z0a f7))<|Zo _ (Zy (p:=[u5' y4]) rfl .here rfl)<|Z8 _ (Z0b rfl (Z2t f8))<|Z8 _ (Z0b rfl (Zgk f9))<|Z8 _ (Z0e rfl)<|Z8 _ (Z2m rfl rfl)<|Z8 _ (Z2m rfl rfl)<|Z6o (Zw fun b6 u6=>⟨(by repeat (first | exact Sup.refl _ | apply Sup.cons | apply Sup.app)),Z24 rfl (Zu (q:=[u5' y9.1]) rfl rfl rfl rfl rfl .here (Z8 _ (Z0e rfl) (Z01 (Z0 (Z0 (cH h fun c1 h=>Z2 (Z7 rfl (Z6 _ (Zhc rfl rfl) (Z7 rfl (Z9j rfl rfl rfl (fun hg1=>Z2j rfl _ (Z0e rfl) (Z2j rfl _ (Z0e rfl) (Z03z rfl (fun _ h=>by cases h; rfl) rfl rfl (fun hg2=>Z2j rfl _ (Zy (p:=[u5' y9.1]) rfl .here rfl) (Z2j rfl _ (Z0f rfl (fun _ _=>Z9r (getD_some (z:=false) (Zs6 (Zav c1 hg1) hg2)))) (Z3j))) (fun hg2=>rfl) rfl (Z3j)))) (fun hg1=>rfl) rfl (Z1 (Z03 h rfl (fun h=>?_) (fun h=>?_)))))))))))))⟩)))))))
  ·refine Z0<|Z2<|Z6 _ (Zcj (q:=[u5' (replicate 5 0),u5' (replicate 5 0),u5' (replicate 5 0),u5' (replicate 5 0)]) BdR.nil)<|Zg (Zu (q:=[u5' (replicate 5 0),u5' (replicate 5 0),u5' (replicate 5 0),u5' (replicate 5 0)]) rfl rfl rfl rfl rfl .t4<|Z7 rfl<|Z1<|Zh ?_)
   revert h; refine Zt fun h=>?_
   subst h
   exact ⟨_,(.cons (.agg rfl .t4 rfl) (.cons (.tmp rfl) .nil)),rfl⟩
  ·refine Ze<|Z0<|Z0<|Z2<|Z7 rfl<|Z1<|jH h fun k1 q1 h=>Zn (G:=fun t m=>∃ (a1:LI),k1 a1=some r/\Fit [(2,pt' b2),(5,pt' b3),(7,pt' b5),(8,pt' b6)] (ck b6 80 [u5' a1]::(ck b5 80 [u5' y4]::(ck b4 80 [u5' y3]::(ck b3 80 [u5' y2]::(ck b2 82 [u5' (replicate 5 0),u5' (replicate 5 0),u5' (replicate 5 0),u5' (replicate 5 0)]::(ck b1 29 [b3' l1] :: [])))))) t m) ?_ ?_
   ·refine Z03 h rfl (fun h=>?_) (fun h=>?_)
    ·exact oH h fun y10 f10 h=>Z2<|Z6 _ (Zy (p:=[u5' y9.1]) rfl .here rfl)<|Z6 _ (Z0b rfl (Z6i f10))<|Zg (Zu (q:=[u5' y10]) rfl rfl rfl rfl rfl .here<|Z1<|⟨y10,h,⟨⟨rfl,rfl,rfl,rfl,trivial⟩,(.o (.o (.o (.o (.o (.o .nil))))))⟩⟩)
    ·exact Ze<|⟨y9.1,h,⟨⟨rfl,rfl,rfl,rfl,trivial⟩,(.o (.o (.o (.o (.o (.o .nil))))))⟩⟩
   ·rintro t m ⟨a1,h,hF⟩
    refine Zk hF ?_
    clear hF
    subst q1
    refine Z0<|oH h fun y11 f11 h=>Zs<|Zo _ (Zy (p:=[u5' a1]) rfl .here rfl)<|Zo _ (Zy (p:=[u5' y2]) rfl .t3 rfl)<|Zo _ (Zy (p:=[u5' y4]) rfl .t1 rfl)<|Zo _ (Zy (p:=[u5' a1]) rfl .here rfl)<|Zo _ (Zy (p:=[u5' y2]) rfl .t3 rfl)<|Z8 _ (Z0b rfl (Z0a f11))<|Z8 _ (Zcj (q:=[u5' a1,u5' y2,u5' y4,u5' y11]) (.agg rfl rfl rfl (.agg rfl rfl rfl (.agg rfl rfl rfl (.agg rfl rfl rfl BdR.nil)))))<|Z24 rfl (Zu (q:=[u5' a1,u5' y2,u5' y4,u5' y11]) rfl rfl rfl rfl rfl .t4<|Z8 _ (Z0e rfl)<|Z01<|Zh ?_)
    revert h; refine Zt fun h=>?_
    subst h
    exact ⟨_,(.cons (.agg rfl .t4 rfl) (.cons (.tmp rfl) .nil)),rfl⟩
def Z3c (p0:LI):Option Bool :=
 opt (Z9x p0) fun y1 =>
 opt (Z61 y1 G_order) fun y2 =>
 some (y2.2==1)
theorem Zft {W:World} {r:Bool} {p0:LI} (h:Z3c p0=some r) (hG:Globs W) :
    Calls Tryz.prog 67 [agg [b3' p0]].toArray W (Z39 W (.bool (r))):=by
 unfold Z3c at h
 refine Zc mo ok67 rfl ?_
 refine Z0<|Z2<|Zg (Z0j (s:=[b3' p0]) rfl fun b1 u1=>Z7 rfl<|Z1<|Z0<|oH h fun y1 f1 h=>oH h fun y2 f2 h=>Zs<|Zo _ (Zy (p:=[b3' p0]) rfl .here rfl)<|Z8 _ (Z0b rfl (Zke f1))<|Zo _ (Zsj (o0:=0) (off:=0) rfl (hG.g1) (by simp) rfl)<|Z8 _ (Z0b rfl (Z9y f2))<|Z8 _ (Z0e rfl)<|Z8 _ (Z2m rfl rfl)<|Z8 _ (Z2m rfl rfl)<|Z6o (Zw fun b2 u2=>⟨(by repeat (first | exact Sup.refl _ | apply Sup.cons | apply Sup.app)),Z24 rfl (Zu (q:=[.ints .u64 4 (y2.1)]) rfl rfl rfl rfl rfl .here (Z8 _ (Z0e rfl) (Z01 (Z0 (Z2 (Z7 rfl (Z6 _ (Z9 rfl rfl rfl) (Z7 rfl (Z1 (Zh ?_))))))))))⟩))
 revert h; refine Zt fun h=>?_
 subst h
 exact ⟨_,(.cons (.tmp rfl) .nil),rfl⟩
def Z6d (k1:(LI)->(LI)->(LI)->(LI)->Option (Zi)) (k2:Int->(LI)->(LI)->(LI)->(LI)->Option (Zi)) (i1:Int) (a1:LI) (a2:LI) (a3:LI) (a4:LI):Option (Zi) :=
 br ((decide (i1<4))) (
 opt (Z8c (⟨a1,a2,a3,a4⟩:Zi)) fun y1 =>
 bnd (IntKind.wrap .i64 (i1+1)) fun z1 =>
 k2 z1 y1.gX y1.gY y1.gZ y1.gT
 ) (
 k1 a1 a2 a3 a4
 )
def Z2i (k1:(LI)->(LI)->(LI)->(LI)->Option (Zi)):Nat->Int->(LI)->(LI)->(LI)->(LI)->Option (Zi)
  | 0,_,_,_,_,_=>none
  | n+1,i1,a1,a2,a3,a4=>Z6d k1 (Z2i k1 n) i1 a1 a2 a3 a4
def Z6c (p0:LI) (p2:LI) (a1:List (Zi)) (a2:List (Zi)) (k1:(LI)->(LI)->(LI)->(LI)->Option (Zi)) (k2:Int->(LI)->(LI)->(LI)->(LI)->Option (Zi)) (i1:Int) (a3:LI) (a4:LI) (a5:LI) (a6:LI):Option (Zi) :=
 br ((decide (i1<64))) (
 jn (fun (a7:LI) (a8:LI) (a9:LI) (a10:LI)=>opt (Z8f p0 i1) fun y1 =>
 chk (inB y1 16) <|
 bnd (a1.getD (y1).toNat Z1n) fun x1 =>
 opt (Zab (⟨a7,a8,a9,a10⟩:Zi) x1) fun y2 =>
 opt (Z8f p2 i1) fun y3 =>
 chk (inB y3 16) <|
 bnd (a2.getD (y3).toNat Z1n) fun x2 =>
 opt (Zab y2 x2) fun y4 =>
 bnd (IntKind.wrap .i64 (i1+1)) fun z1 =>
 k2 z1 y4.gX y4.gY y4.gZ y4.gT) fun k3=>Z2i k3 big 0 a3 a4 a5 a6
 ) (
 k1 a3 a4 a5 a6
 )
def Z3b (p0:LI) (p2:LI) (a1:List (Zi)) (a2:List (Zi)) (k1:(LI)->(LI)->(LI)->(LI)->Option (Zi)):Nat->Int->(LI)->(LI)->(LI)->(LI)->Option (Zi)
  | 0,_,_,_,_,_=>none
  | n+1,i1,a3,a4,a5,a6=>Z6c p0 p2 a1 a2 k1 (Z3b p0 p2 a1 a2 k1 n) i1 a3 a4 a5 a6
def Z8z (p0:LI) (p1:Zi) (p2:LI):Option (Zi) :=
 opt (Zbg) fun y1 =>
 jn (fun (a1:List (Zi)) (a2:List (Zi))=>opt (Zb6) fun y2 =>
 jn (fun (a3:LI) (a4:LI) (a5:LI) (a6:LI)=>some (⟨a3,a4,a5,a6⟩:Zi)) fun k1=>Z3b p0 p2 a1 a2 k1 big 0 y2.gX y2.gY y2.gZ y2.gT) fun k2=>opt (Z5i p1) fun y3 =>
 opt (Z5i y1) fun y4 =>
 k2 y3 y4
theorem Zhp {W:World} {r:Zi} {p0:LI} {p1:Zi} {p2:LI} (h:Z8z p0 p1 p2=some r)  :
    Calls Tryz.prog 68 [agg [b3' p0],agg [u5' p1.gX,u5' p1.gY,u5' p1.gZ,u5' p1.gT],agg [b3' p2]].toArray W (Z39 W (agg [u5' r.gX,u5' r.gY,u5' r.gZ,u5' r.gT])):=by
 unfold Z8z at h
 refine Zc mo ok68 rfl ?_
 refine Z0<|Z2<|Zg (Z0j (s:=[b3' p0]) rfl fun b1 u1=>Zg (Z0j (s:=[u5' p1.gX,u5' p1.gY,u5' p1.gZ,u5' p1.gT]) rfl fun b2 u2=>Zg (Z0j (s:=[b3' p2]) rfl fun b3 u3=>Zg (Zw fun b4 u4=>Z1<|Z0<|oH h fun y1 f1 h=>Z2<|Z6 _ (Z0b rfl (Zka f1))<|Zg (Zw fun b5 u5=>Zg (Zu (q:=[u5' y1.gX,u5' y1.gY,u5' y1.gZ,u5' y1.gT]) rfl rfl rfl rfl rfl .here<|Z1<|Z0<|jH h fun k1 q1 h=>Zn (G:=fun t m=>∃ (a1:List (Zi)) (a2:List (Zi)) (b6:Nat) (b7:Nat),k1 a1 a2=some r/\Fit [(3,pt' b1),(5,pt' b3),(6,pt' b4),(8,pt' b6),(9,pt' b7)] (ck b7 166 [.rows 20 16 (Z8w Z00 (a2))]::(ck b6 166 [.rows 20 16 (Z8w Z00 (a1))]::(ck b5 82 [u5' y1.gX,u5' y1.gY,u5' y1.gZ,u5' y1.gT]::(ck b4 82 [u5' (replicate 5 0),u5' (replicate 5 0),u5' (replicate 5 0),u5' (replicate 5 0)]::(ck b3 74 [b3' p2]::(ck b2 82 [u5' p1.gX,u5' p1.gY,u5' p1.gZ,u5' p1.gT]::(ck b1 74 [b3' p0] :: []))))))) t m) ?_ ?_))))))
 ·refine oH h fun y2 f2 h=>oH h fun y3 f3 h=>Zs<|Zo _ (Zy (p:=[u5' p1.gX,u5' p1.gY,u5' p1.gZ,u5' p1.gT]) rfl .t3 rfl)<|Z8 _ (Z0b rfl (Zaz f2))<|Zo _ (Zy (p:=[u5' y1.gX,u5' y1.gY,u5' y1.gZ,u5' y1.gT]) rfl .here rfl)<|Z8 _ (Z0b rfl (Zaz f3))<|Zrf (Zgr (z':=[.rows 20 16 (Z8w Z00 ((replicate 16 Z1n)))]) (Za4 (E:=Z00) rfl rfl) fun b8 u6=>⟨(by repeat (first | exact Sup.refl _ | apply Sup.cons | apply Sup.app)),?_⟩) (Zgr (z':=[.rows 20 16 (Z8w Z00 ((replicate 16 Z1n)))]) (Za4 (E:=Z00) rfl rfl) fun b9 u7=>⟨(by repeat (first | exact Sup.refl _ | apply Sup.cons | apply Sup.app)),?_⟩)
  ·exact Z6o (Zgr (z':=[.rows 20 16 (Z8w Z00 ((replicate 16 Z1n)))]) (Za4 (E:=Z00) rfl rfl) fun b9 u7=>⟨(by repeat (first | exact Sup.refl _ | apply Sup.cons | apply Sup.app)),Z24 rfl (Zl7 (q:=[.rows 20 16 (Z8w Z00 (y2))]) rfl rfl rfl rfl (Z36 (Zbk (E:=Z00)) Z82) .t1 (Z032 rfl (Zl7 (q:=[.rows 20 16 (Z8w Z00 (y3))]) rfl rfl rfl rfl (Z36 (Zbk (E:=Z00)) Z82) .here (Z01 (⟨y2,y3,b8,b9,h,⟨⟨rfl,rfl,rfl,rfl,rfl,trivial⟩,(.o (.o (.o (.o (.o (.o (.o .nil)))))))⟩⟩)))))⟩)
  ·exact Z6o (Zgr (z':=[.rows 20 16 (Z8w Z00 ((replicate 16 Z1n)))]) (Za4 (E:=Z00) rfl rfl) fun b8 u6=>⟨(by repeat (first | exact Sup.refl _ | apply Sup.cons | apply Sup.app)),Z24 rfl (Zl7 (q:=[.rows 20 16 (Z8w Z00 (y2))]) rfl rfl rfl rfl (Z36 (Zbk (E:=Z00)) Z82) .here (Z032 rfl (Zl7 (q:=[.rows 20 16 (Z8w Z00 (y3))]) rfl rfl rfl rfl (Z36 (Zbk (E:=Z00)) Z82) .t1 (Z01 (⟨y2,y3,b8,b9,h,⟨⟨rfl,rfl,rfl,rfl,rfl,trivial⟩,(.one .t1 (.o (.o (.o (.o (.o (.o .nil)))))))⟩⟩)))))⟩)
 ·rintro t m ⟨a1,a2,b6,b7,h,hF⟩
  refine Zk hF ?_
  clear hF
  subst q1
  refine Z0<|oH h fun y4 f4 h=>Z2<|Z6 _ (Z0f (vs:=[]) (v:=agg [u5' y4.gX,u5' y4.gY,u5' y4.gZ,u5' y4.gT]) rfl (fun w hw=>Zeu (r:=y4) f4 ))<|Zg (Zw fun b10 u8=>Zg (Zu (q:=[u5' y4.gX,u5' y4.gY,u5' y4.gZ,u5' y4.gT]) rfl rfl rfl rfl rfl .here<|Z1<|Z0<|Z0<|Z2<|Z7 rfl<|Z1<|jH h fun k2 q2 h=>Zn (G:=fun t m=>∃ (a3:LI) (a4:LI) (a5:LI) (a6:LI),k2 a3 a4 a5 a6=some r/\Fit [(6,pt' b4),(10,pt' b10)] (ck b10 82 [u5' a3,u5' a4,u5' a5,u5' a6]::(ck b7 166 [.rows 20 16 (Z8w Z00 (a2))]::(ck b6 166 [.rows 20 16 (Z8w Z00 (a1))]::(ck b5 82 [u5' y1.gX,u5' y1.gY,u5' y1.gZ,u5' y1.gT]::(ck b4 82 [u5' (replicate 5 0),u5' (replicate 5 0),u5' (replicate 5 0),u5' (replicate 5 0)]::(ck b3 74 [b3' p2]::(ck b2 82 [u5' p1.gX,u5' p1.gY,u5' p1.gZ,u5' p1.gT]::(ck b1 74 [b3' p0] :: [])))))))) t m) ?_ ?_))
  ·refine Za<|Zr (fun n1 t m=>∃ (i1:Int) (a7:LI) (a8:LI) (a9:LI) (a10:LI),Z3b p0 p2 a1 a2 k2 n1 i1 a7 a8 a9 a10=some r/\Fit [(3,pt' b1),(5,pt' b3),(6,pt' b4),(8,pt' b6),(9,pt' b7),(10,pt' b10),(18,.int .i64 (i1))] (ck b10 82 [u5' a7,u5' a8,u5' a9,u5' a10]::(ck b7 166 [.rows 20 16 (Z8w Z00 (a2))]::(ck b6 166 [.rows 20 16 (Z8w Z00 (a1))]::(ck b5 82 [u5' y1.gX,u5' y1.gY,u5' y1.gZ,u5' y1.gT]::(ck b4 82 [u5' (replicate 5 0),u5' (replicate 5 0),u5' (replicate 5 0),u5' (replicate 5 0)]::(ck b3 74 [b3' p2]::(ck b2 82 [u5' p1.gX,u5' p1.gY,u5' p1.gZ,u5' p1.gT]::(ck b1 74 [b3' p0] :: [])))))))) t m) big ?_ ?_
   ·exact ⟨0,y4.gX,y4.gY,y4.gZ,y4.gT,h,⟨⟨rfl,rfl,rfl,rfl,rfl,rfl,rfl,trivial⟩,(.o (.o (.o (.o (.o (.o (.o (.o .nil))))))))⟩⟩
   ·rintro n1 t m ⟨i1,a7,a8,a9,a10,h,hF⟩
    refine Zk hF ?_
    clear hF
    rcases n1 with _ | n1
    · exact Z0c h
    have h:Z6c p0 p2 a1 a2 k2 (Z3b p0 p2 a1 a2 k2 n1) i1 a7 a8 a9 a10=some r:=h
    unfold Z6c at h
    obtain ⟨k3,q3⟩ : ∃ k,k=Z3b p0 p2 a1 a2 k2 n1:=⟨_,rfl⟩
    try rw [<- q3] at h
    refine Z0<|Z2<|Z6 _ (Z9 rfl rfl rfl)<|Z1<|Z0<|Z03 h rfl (fun h=>?_) (fun h=>?_)
    ·refine Ze<|Z0<|Za<|Z0<|Z2<|Z7 rfl<|Z7 rfl<|Z1<|Z0<|Z0<|Z2<|Z7 rfl<|Z1<|jH h fun k4 q4 h=>Zn (G:=fun t m=>∃ (a11:LI) (a12:LI) (a13:LI) (a14:LI),k4 a11 a12 a13 a14=some r/\Fit [(3,pt' b1),(5,pt' b3),(6,pt' b4),(8,pt' b6),(9,pt' b7),(10,pt' b10),(11,.int .i64 (i1)),(18,.int .i64 (i1))] (ck b10 82 [u5' a11,u5' a12,u5' a13,u5' a14]::(ck b7 166 [.rows 20 16 (Z8w Z00 (a2))]::(ck b6 166 [.rows 20 16 (Z8w Z00 (a1))]::(ck b5 82 [u5' y1.gX,u5' y1.gY,u5' y1.gZ,u5' y1.gT]::(ck b4 82 [u5' (replicate 5 0),u5' (replicate 5 0),u5' (replicate 5 0),u5' (replicate 5 0)]::(ck b3 74 [b3' p2]::(ck b2 82 [u5' p1.gX,u5' p1.gY,u5' p1.gZ,u5' p1.gT]::(ck b1 74 [b3' p0] :: [])))))))) t m) ?_ ?_
     ·refine Za<|Zr (fun n2 t m=>∃ (i2:Int) (a15:LI) (a16:LI) (a17:LI) (a18:LI),Z2i k4 n2 i2 a15 a16 a17 a18=some r/\Fit [(3,pt' b1),(5,pt' b3),(6,pt' b4),(8,pt' b6),(9,pt' b7),(10,pt' b10),(11,.int .i64 (i1)),(18,.int .i64 (i1)),(21,.int .i64 (i2))] (ck b10 82 [u5' a15,u5' a16,u5' a17,u5' a18]::(ck b7 166 [.rows 20 16 (Z8w Z00 (a2))]::(ck b6 166 [.rows 20 16 (Z8w Z00 (a1))]::(ck b5 82 [u5' y1.gX,u5' y1.gY,u5' y1.gZ,u5' y1.gT]::(ck b4 82 [u5' (replicate 5 0),u5' (replicate 5 0),u5' (replicate 5 0),u5' (replicate 5 0)]::(ck b3 74 [b3' p2]::(ck b2 82 [u5' p1.gX,u5' p1.gY,u5' p1.gZ,u5' p1.gT]::(ck b1 74 [b3' p0] :: [])))))))) t m) big ?_ ?_
      ·exact ⟨0,a7,a8,a9,a10,h,⟨⟨rfl,rfl,rfl,rfl,rfl,rfl,rfl,rfl,rfl,trivial⟩,(.o (.o (.o (.o (.o (.o (.o (.o .nil))))))))⟩⟩
      ·rintro n2 t m ⟨i2,a15,a16,a17,a18,h,hF⟩
       refine Zk hF ?_
       clear hF
       rcases n2 with _ | n2
       · exact Z0c h
       have h:Z6d k4 (Z2i k4 n2) i2 a15 a16 a17 a18=some r:=h
       unfold Z6d at h
       obtain ⟨k5,q5⟩ : ∃ k,k=Z2i k4 n2:=⟨_,rfl⟩
       try rw [<- q5] at h
       refine Z0<|Z2<|Z6 _ (Z9 rfl rfl rfl)<|Z1<|Z0<|Z03 h rfl (fun h=>?_) (fun h=>?_)
       ·refine Ze<|Z0<|Za<|oH h fun y5 f5 h=>Z2<|Z6 _ (Zy (p:=[u5' a15,u5' a16,u5' a17,u5' a18]) rfl .here rfl)<|Z6 _ (Z0f (vs:=[agg [u5' a15,u5' a16,u5' a17,u5' a18]]) (v:=agg [u5' y5.gX,u5' y5.gY,u5' y5.gZ,u5' y5.gT]) rfl (fun w hw=>Zio (r:=y5) (p0:=(⟨a15,a16,a17,a18⟩:Zi)) f5 ))<|Zg (Zu (q:=[u5' y5.gX,u5' y5.gY,u5' y5.gZ,u5' y5.gT]) rfl rfl rfl rfl rfl .here<|Z1<|bH h fun z1 e1 h=>Z2<|Z6 _ (iz e1 (Z9 rfl rfl rfl))<|Z7 rfl<|Z1 ?_)
        rw [q5] at h
        exact ⟨n2,Nat.lt_succ_self _,z1,y5.gX,y5.gY,y5.gZ,y5.gT,h,⟨⟨rfl,rfl,rfl,rfl,rfl,rfl,rfl,rfl,rfl,trivial⟩,(.o (.o (.o (.o (.o (.o (.o (.o .nil))))))))⟩⟩
       ·exact Zz _ rfl<|⟨a15,a16,a17,a18,h,⟨⟨rfl,rfl,rfl,rfl,rfl,rfl,rfl,rfl,trivial⟩,(.o (.o (.o (.o (.o (.o (.o (.o .nil))))))))⟩⟩
     ·rintro t m ⟨a11,a12,a13,a14,h,hF⟩
      refine Zk hF ?_
      clear hF
      subst q4
      refine oH h fun y6 f6 h=>cH h fun c1 h=>bH h fun x1 j1 h=>oH h fun y7 f7 h=>oH h fun y8 f8 h=>cH h fun c2 h=>bH h fun x2 j2 h=>oH h fun y9 f9 h=>Zs<|Z8 _ (Z0e rfl)<|Z8 _ (Z0e rfl)<|Zo _ (Zy (p:=[u5' a11,u5' a12,u5' a13,u5' a14]) rfl .here rfl)<|Zo _ (Zy (p:=[b3' p0]) rfl .t7 rfl)<|Z8 _ (Z0f (vs:=[agg [b3' p0],.int .i64 (i1)]) (v:=.int .u8 (y6)) rfl (fun w hw=>Zcp (r:=y6) (p0:=p0) (p1:=i1) f6 ))<|Z8 _ (Z1s rfl rfl (Z0o c1))<|Zo _ (az (fun x1=>agg [u5' x1.gX,u5' x1.gY,u5' x1.gZ,u5' x1.gT]) j1 (Zlw (base:=0) (w:=20) rfl .t2 rfl (Z04 c1) rfl rfl rfl))<|Z8 _ (Z0f (vs:=[agg [u5' a11,u5' a12,u5' a13,u5' a14],agg [u5' x1.gX,u5' x1.gY,u5' x1.gZ,u5' x1.gT]]) (v:=agg [u5' y7.gX,u5' y7.gY,u5' y7.gZ,u5' y7.gT]) rfl (fun w hw=>Zc8 (r:=y7) (p0:=(⟨a11,a12,a13,a14⟩:Zi)) (p1:=x1) f7 ))<|Zo _ (Zy (p:=[b3' p2]) rfl .t5 rfl)<|Z8 _ (Z0f (vs:=[agg [b3' p2],.int .i64 (i1)]) (v:=.int .u8 (y8)) rfl (fun w hw=>Zcp (r:=y8) (p0:=p2) (p1:=i1) f8 ))<|Z8 _ (Z1s rfl rfl (Z0o c2))<|Zo _ (az (fun x2=>agg [u5' x2.gX,u5' x2.gY,u5' x2.gZ,u5' x2.gT]) j2 (Zlw (base:=0) (w:=20) rfl .t1 rfl (Z04 c2) rfl rfl rfl))<|Z8 _ (Z0f (vs:=[agg [u5' y7.gX,u5' y7.gY,u5' y7.gZ,u5' y7.gT],agg [u5' x2.gX,u5' x2.gY,u5' x2.gZ,u5' x2.gT]]) (v:=agg [u5' y9.gX,u5' y9.gY,u5' y9.gZ,u5' y9.gT]) rfl (fun w hw=>Zc8 (r:=y9) (p0:=y7) (p1:=x2) f9 ))<|Z24 rfl (Zu (q:=[u5' y9.gX,u5' y9.gY,u5' y9.gZ,u5' y9.gT]) rfl rfl rfl rfl rfl .here<|Z01<|bH h fun z2 e2 h=>Z2<|Z6 _ (iz e2 (Z9 rfl rfl rfl))<|Z7 rfl<|Z1 ?_)
      rw [q3] at h
      exact ⟨n1,Nat.lt_succ_self _,z2,y9.gX,y9.gY,y9.gZ,y9.gT,h,⟨⟨rfl,rfl,rfl,rfl,rfl,rfl,rfl,trivial⟩,(.o (.o (.o (.o (.o (.o (.o (.o .nil))))))))⟩⟩
    ·exact Zz _ rfl<|⟨a7,a8,a9,a10,h,⟨⟨rfl,rfl,trivial⟩,(.o (.o (.o (.o (.o (.o (.o (.o .nil))))))))⟩⟩
  ·rintro t m ⟨a3,a4,a5,a6,h,hF⟩
   refine Zk hF ?_
   clear hF
   subst q2
   refine Z0<|Z2<|Z6 _ (Zy (p:=[u5' a3,u5' a4,u5' a5,u5' a6]) rfl .here rfl)<|Zg (Zu (q:=[u5' a3,u5' a4,u5' a5,u5' a6]) rfl rfl rfl rfl rfl .t4<|Z1<|Zh ?_)
   revert h; refine Zt fun h=>?_
   subst h
   exact ⟨_,(.cons (.agg rfl .t4 rfl) .nil),rfl⟩
def Zbe (p0:Zi):Option (Zi) :=
 opt (Z5m p0.gX) fun y1 =>
 opt (Z5m p0.gT) fun y2 =>
 some (⟨y1,p0.gY,p0.gZ,y2⟩:Zi)
theorem Zmn {W:World} {r:Zi} {p0:Zi} (h:Zbe p0=some r)  :
    Calls Tryz.prog 69 [agg [u5' p0.gX,u5' p0.gY,u5' p0.gZ,u5' p0.gT]].toArray W (Z39 W (agg [u5' r.gX,u5' r.gY,u5' r.gZ,u5' r.gT])):=by
 unfold Zbe at h
 refine Zc mo ok69 rfl ?_
 refine Z0<|Z2<|Zg (Z0j (s:=[u5' p0.gX,u5' p0.gY,u5' p0.gZ,u5' p0.gT]) rfl fun b1 u1=>Zg (Zw fun b2 u2=>Z1<|Z0<|oH h fun y1 f1 h=>oH h fun y2 f2 h=>Zs<|Z8 _ (Z4e rfl)<|Z8 _ (Z4e rfl)<|Z8 _ (Z4e rfl)<|Z8 _ (Z4e rfl)<|Zo _ (Zy (p:=[u5' p0.gX]) rfl .t1 rfl)<|Z8 _ (Z0b rfl (Z6i f1))<|Zo _ (Zy (p:=[u5' p0.gY]) rfl .t1 rfl)<|Zo _ (Zy (p:=[u5' p0.gZ]) rfl .t1 rfl)<|Zo _ (Zy (p:=[u5' p0.gT]) rfl .t1 rfl)<|Z8 _ (Z0b rfl (Z6i f2))<|Z8 _ (Zcj (q:=[u5' y1,u5' p0.gY,u5' p0.gZ,u5' y2]) (.agg rfl rfl rfl (.agg rfl rfl rfl (.agg rfl rfl rfl (.agg rfl rfl rfl BdR.nil)))))<|Z24 rfl (Zu (q:=[u5' y1,u5' p0.gY,u5' p0.gZ,u5' y2]) rfl rfl rfl rfl rfl .here<|Z01<|Zh ?_)))
 revert h; refine Zt fun h=>?_
 subst h
 exact ⟨_,(.cons (.agg rfl .here rfl) .nil),rfl⟩
def Z4a (p0:LI) (p1:LI) (p2:LI):Option Bool :=
 opt (Zac p0) fun y1 =>
 chk (decide (32<=(tk p2 32 (64-32)).length)) <|
 bnd (tk (tk p2 32 (64-32)) 0 32) fun z1 =>
 chk (imp (!(!y1.2)) ((Z3c z1).isSome)) <|
 br (((!y1.2)||(!((Z3c z1).getD false)))) (
 some false
 ) (
 jn (fun (a1:LI)=>opt (Zbe y1.1) fun y2 =>
 opt (Z8z a1 y2 z1) fun y3 =>
 opt (Z8d y3) fun y4 =>
 chk (decide (32<=(tk p2 0 32).length)) <|
 bnd (tk (tk p2 0 32) 0 32) fun z2 =>
 some (ieq 32 y4 z2)) fun k1=>opt (Z9d [(tk p2 0 32),(tk p0 0 32),p1]) fun y5 =>
 k1 y5
 )
theorem Zej {W:World} {r:Bool} {p0:LI} {p1:LI} {p2:LI} {v1:Value} (h:Z4a p0 p1 p2=some r) (hG:Globs W) (A1:RdSl (El.int .u8) W v1 p1) :
    Calls Tryz.prog 25 [agg [b3' p0],v1,agg [b6' p2]].toArray W (Z39 W (.bool (r))):=by
 unfold Z4a at h
 refine Zc mo ok25 rfl ?_
 refine Z0<|Z2<|Zg (Z0j (s:=[b3' p0]) rfl fun b1 u1=>Zg (Z0j (s:=[b6' p2]) rfl fun b2 u2=>Z7 rfl<|Z1<|Z0<|oH h fun y1 f1 h=>Z2<|Z6 _ (Zy (p:=[b3' p0]) rfl .t1 rfl)<|Z6 _ (Z0b rfl (Zin f1))<|Z7 rfl<|Z6 _ (Z2m rfl rfl)<|Z6 _ (Z2m rfl rfl)<|Zg (Zw fun b3 u3=>Zg (Zu (q:=[u5' y1.1.gX,u5' y1.1.gY,u5' y1.1.gZ,u5' y1.1.gT]) rfl rfl rfl rfl rfl .here<|Z7 rfl<|Z1<|Z0<|cH h fun c1 h=>bH h fun z1 e1 h=>Z2<|Z6 _ (Ze0 rfl (.yes rfl) .no .no (by simp) (by decide))<|Z6 _ (Z03w rfl (Shp.blk (lo:=32) (hi:=64) (mz:=64) (by decide) (by simp [Z0y])) (by decide) c1)<|Z6 _ (az (fun z=>agg [.ints .u8 32 z]) e1 (Z0es rfl (Z3p (s:=[b6' p2]) (N:=64) (k:=.u8) (base:=0) (lo:=32) (hi:=64) (mz:=64) .t1 rfl (by decide)) (by decide) c1))<|Zg (Zw fun b4 u4=>Zg (Zu (q:=[b3' z1]) rfl rfl rfl rfl rfl .here<|Z1<|Z0<|Z0<|cH h fun c2 h=>Z2<|Z7 rfl<|Z6 _ (Zhc rfl rfl)<|Z7 rfl<|Z9j rfl rfl rfl (fun hg1=>Z2j rfl _ (Zy (p:=[b3' z1]) rfl .here rfl) (Z2j rfl _ (Z0f rfl (fun w hw=>Zft (getD_some (z:=false) (Zav c2 hg1)) (hG.at hw (by simp)))) (Z2j rfl _ (Zhc rfl rfl) (Z3j)))) (fun hg1=>rfl) rfl<|Z1<|Z03 h rfl (fun h=>?_) (fun h=>?_)))))))
 ·refine Z0<|Z2<|Z7 rfl<|Z1<|Zh ?_
  revert h; refine Zt fun h=>?_
  subst h
  exact ⟨_,(.cons (.tmp rfl) .nil),rfl⟩
 ·refine Ze<|Z0<|jH h fun k1 q1 h=>Zn (G:=fun t m=>∃ (a1:LI) (b5:Nat),k1 a1=some r/\Fit [(5,pt' b2),(7,pt' b3),(9,pt' b4),(10,pt' b5)] (ck b5 74 [b3' a1]::(ck b4 74 [b3' z1]::(ck b3 82 [u5' y1.1.gX,u5' y1.1.gY,u5' y1.1.gZ,u5' y1.1.gT]::(ck b2 27 [b6' p2]::(ck b1 29 [b3' p0] :: []))))) t m) ?_ ?_
  ·refine oH h fun y2 f2 h=>Zs<|Z8 _ (Ze0 rfl .no (.yes rfl) .no (by simp) (by decide))<|Z8 _ (Ze0 rfl .no .no .no (by simp) (by decide))<|Z8 _ (Z0e rfl)<|Zrf (Z5j (E:=El.sl) (xs:=[unS (.slice (some (Z4t b2 0 0 64 1)) (32-0) (64-0)),unS (.slice (some (Z4t b1 0 0 32 1)) (32-0) (32-0)),unS v1]) (.one rfl (Zmh.cells ⟨_,_,_,rfl⟩) rfl (.one rfl (Zmh.cells ⟨_,_,_,rfl⟩) rfl (.one rfl (Zmh.cells (Shp.isSl (Shp.rd A1))) rfl BdR.nil))) (.cons (p:=[.one (.slice (some (Z4t b2 0 0 64 1)) (32-0) (64-0))]) (Zjj ⟨_,_,_,rfl⟩) (.cons (p:=[.one (.slice (some (Z4t b1 0 0 32 1)) (32-0) (32-0))]) (Zjj ⟨_,_,_,rfl⟩) (.cons (p:=[.one v1]) (Zjj (Shp.isSl (Shp.rd A1))) .nil))) rfl fun v25 w1 O1=>⟨(by repeat (first | exact Sup.refl _ | apply Sup.cons | apply Sup.app)),?_⟩) (Zw fun b6 u5=>⟨(by repeat (first | exact Sup.refl _ | apply Sup.cons | apply Sup.app)),?_⟩)
   ·refine Zrf (ef_q _ (Z0f rfl (fun w hw=>Zci f2 (hG.at hw (by simp)) (Z05 O1 .here w hw) (.cons (Zi7 ((Z3p (s:=[b6' p2]) (N:=64) (k:=.u8) (base:=0) (lo:=0) (hi:=32) (mz:=64) (.app .t2) rfl (by decide)) w hw)) (.cons (Zi7 ((Z3p (s:=[b3' p0]) (N:=32) (k:=.u8) (base:=0) (lo:=0) (hi:=32) (mz:=32) (.app .t3) rfl (by decide)) w hw)) (.cons (Zi7 ((Z0p A1 Z0w) w hw)) .nil))))) ⟨(by repeat (first | exact Sup.refl _ | apply Sup.cons | apply Sup.app)),?_⟩) (Zw fun b6 u5=>⟨(by repeat (first | exact Sup.refl _ | apply Sup.cons | apply Sup.app)),?_⟩)
    ·exact Z6o (Zw fun b6 u5=>⟨(by repeat (first | exact Sup.refl _ | apply Sup.cons | apply Sup.app)),Z24 rfl (Zu (q:=[b3' y2]) rfl rfl rfl rfl rfl .here (Z01 (⟨y2,b6,h,⟨⟨rfl,rfl,rfl,rfl,trivial⟩,(.o (.one (.app .here) (.one (.app .here) (.one (.app .here) (.one (.app .here) .nil)))))⟩⟩)))⟩)
    ·exact Zw3 _ (Z0f rfl (fun w hw=>Zci f2 (hG.at hw (by simp)) (Z05 O1 .t1 w hw) (.cons (Zi7 ((Z3p (s:=[b6' p2]) (N:=64) (k:=.u8) (base:=0) (lo:=0) (hi:=32) (mz:=64) (.there (.app .t2)) rfl (by decide)) w hw)) (.cons (Zi7 ((Z3p (s:=[b3' p0]) (N:=32) (k:=.u8) (base:=0) (lo:=0) (hi:=32) (mz:=32) (.there (.app .t3)) rfl (by decide)) w hw)) (.cons (Zi7 ((Z0p A1 Z0w) w hw)) .nil))))) (Z24 rfl (Zu (q:=[b3' y2]) rfl rfl rfl rfl rfl .here (Z01 (⟨y2,b6,h,⟨⟨rfl,rfl,rfl,rfl,trivial⟩,(.o (.one (.app .here) (.one (.app .here) (.one (.app .here) (.one (.app .here) .nil)))))⟩⟩)))) (by repeat (first | exact Sup.refl _ | apply Sup.cons | apply Sup.app))
   ·exact Z6o (Z5j (E:=El.sl) (xs:=[unS (.slice (some (Z4t b2 0 0 64 1)) (32-0) (64-0)),unS (.slice (some (Z4t b1 0 0 32 1)) (32-0) (32-0)),unS v1]) (.one rfl (Zmh.cells ⟨_,_,_,rfl⟩) rfl (.one rfl (Zmh.cells ⟨_,_,_,rfl⟩) rfl (.one rfl (Zmh.cells (Shp.isSl (Shp.rd A1))) rfl BdR.nil))) (.cons (p:=[.one (.slice (some (Z4t b2 0 0 64 1)) (32-0) (64-0))]) (Zjj ⟨_,_,_,rfl⟩) (.cons (p:=[.one (.slice (some (Z4t b1 0 0 32 1)) (32-0) (32-0))]) (Zjj ⟨_,_,_,rfl⟩) (.cons (p:=[.one v1]) (Zjj (Shp.isSl (Shp.rd A1))) .nil))) rfl fun v25 w1 O1=>⟨(by repeat (first | exact Sup.refl _ | apply Sup.cons | apply Sup.app)),Zw3 _ (Z0f rfl (fun w hw=>Zci f2 (hG.at hw (by simp)) (Z05 O1 .here w hw) (.cons (Zi7 ((Z3p (s:=[b6' p2]) (N:=64) (k:=.u8) (base:=0) (lo:=0) (hi:=32) (mz:=64) (.app .t3) rfl (by decide)) w hw)) (.cons (Zi7 ((Z3p (s:=[b3' p0]) (N:=32) (k:=.u8) (base:=0) (lo:=0) (hi:=32) (mz:=32) (.app .t4) rfl (by decide)) w hw)) (.cons (Zi7 ((Z0p A1 Z0w) w hw)) .nil))))) (Z24 rfl (Zu (q:=[b3' y2]) rfl rfl rfl rfl rfl (.app .here) (Z01 (⟨y2,b6,h,⟨⟨rfl,rfl,rfl,rfl,trivial⟩,(.one (.app .here) (.one (.app .here) (.one (.app .here) (.one (.app .here) (.one (.app .here) .nil)))))⟩⟩)))) (by repeat (first | exact Sup.refl _ | apply Sup.cons | apply Sup.app))⟩)
  ·rintro t m ⟨a1,b5,h,hF⟩
   refine Zk hF ?_
   clear hF
   subst q1
   refine Z0<|oH h fun y3 f3 h=>oH h fun y4 f4 h=>oH h fun y5 f5 h=>Zs<|Zo _ (Zy (p:=[b3' a1]) rfl .here rfl)<|Zo _ (Zy (p:=[u5' y1.1.gX,u5' y1.1.gY,u5' y1.1.gZ,u5' y1.1.gT]) rfl .t2 rfl)<|Z8 _ (Z0b rfl (Zmn f3))<|Zo _ (Zy (p:=[b3' z1]) rfl .t1 rfl)<|Z8 _ (Z0b rfl (Zhp f4))<|Z8 _ (Z0b rfl (Zip f5))<|Z6o (Zw fun b7 u6=>⟨(by repeat (first | exact Sup.refl _ | apply Sup.cons | apply Sup.app)),Z24 rfl (Zu (q:=[b3' y5]) rfl rfl rfl rfl rfl .here (Z01 (Z0 (cH h fun c3 h=>bH h fun z2 e2 h=>Zs (Z8 _ (Ze0 rfl .no (.yes rfl) .no (by simp) (by decide)) (Z8 _ (Z03w rfl (Shp.blk (lo:=0) (hi:=32) (mz:=64) (by decide) (by simp [Z0y])) (by decide) c3) (Zo _ (Zy (p:=[b3' y5]) rfl .here rfl) (Zo _ (az (fun z=>agg [.ints .u8 32 z]) e2 (Z0es rfl (Z3p (s:=[b6' p2]) (N:=64) (k:=.u8) (base:=0) (lo:=0) (hi:=32) (mz:=64) .t4 rfl (by decide)) (by decide) c3)) (Z8 _ (Zi6 rfl rfl rfl rfl _ (Z6q Z63)) (Z8 _ (Z0e rfl) (Z01 (Zh ?_))))))))))))⟩)
   revert h; refine Zt fun h=>?_
   subst h
   exact ⟨_,(.cons (.tmp rfl) .nil),rfl⟩
def Z8n (p0:LI):Option Bool :=
 opt (Z5z p0) fun y1 =>
 opt (Zg8 y1) fun y2 =>
 some (ieq 32 y2 p0)
theorem Zj1 {W:World} {r:Bool} {p0:LI} (h:Z8n p0=some r)  :
    Calls Tryz.prog 138 [agg [b3' p0]].toArray W (Z39 W (.bool (r))):=by
 unfold Z8n at h
 refine Zc mo Z0mv rfl ?_
 refine Z0<|Z2<|Zg (Z0j (s:=[b3' p0]) rfl fun b1 u1=>Z7 rfl<|Z1<|Z0<|oH h fun y1 f1 h=>oH h fun y2 f2 h=>Zs<|Zo _ (Zy (p:=[b3' p0]) rfl .here rfl)<|Z8 _ (Z0b rfl (Z9u f1))<|Z8 _ (Z0b rfl (Zhz f2))<|Zo _ (Zy (p:=[b3' p0]) rfl .here rfl)<|Z8 _ (Zi6 rfl rfl rfl rfl _ (Z6q Z63))<|Z8 _ (Z0e rfl)<|Z01<|Zh ?_)
 revert h; refine Zt fun h=>?_
 subst h
 exact ⟨_,(.cons (.tmp rfl) .nil),rfl⟩
def Zfj (p0:LI):Option (Z27×Bool) :=
 bnd (p0.getD 31 0) fun z1 =>
 bnd (p0.getD 31 0) fun z2 =>
 bnd (Int.tmod z2 128) fun z3 =>
 bnd (Z2z p0 31 z3) fun l1 =>
 opt (Z8n l1) fun y1 =>
 br ((!y1)) (
 some ((⟨(replicate 10 0),(replicate 10 0),(replicate 10 0)⟩:Z27),false)
 ) (
 opt (Z5z l1) fun y2 =>
 opt (Zda y2) fun y3 =>
 chk (imp (!(!y3.2)) (imp (decide (z1≥128)) ((Zal y3.1).isSome))) <|
 br (((!y3.2)||((decide (z1≥128))&&((Zal y3.1).getD false)))) (
 some ((⟨(replicate 10 0),(replicate 10 0),(replicate 10 0)⟩:Z27),false)
 ) (
 jn (fun (a1:LI)=>opt (Zbs a1 y2) fun y4 =>
 some (y4,true)) fun k1=>br ((decide (z1≥128))) (
 opt (Zi1 y3.1) fun y5 =>
 k1 y5
 ) (
 k1 y3.1
 )
 )
 )
theorem Zms {W:World} {r:Z27×Bool} {p0:LI} (h:Zfj p0=some r)  :
    Calls Tryz.prog 70 [agg [b3' p0]].toArray W (Z39 W (.tuple #[agg [uA' r.1.gX,uA' r.1.gY,uA' r.1.gZ],.bool (r.2)])):=by
 unfold Zfj at h
 refine Zc mo ok70 rfl ?_
 refine Z0<|Z2<|Zg (Z0j (s:=[b3' p0]) rfl fun b1 u1=>Zg (Zw fun b2 u2=>Z7 rfl<|Z1<|Z0<|bH h fun z1 e1 h=>Z2<|Z6 _ (Z1s rfl rfl (by decide))<|Z6 _ (iz e1 (Z23 rfl .t1 rfl))<|Z6 _ (Z9 rfl rfl rfl)<|Z7 rfl<|Z1<|Z0<|bH h fun z2 e2 h=>bH h fun z3 e3 h=>bH h fun l1 g1 h=>Z2<|Z6 _ (Z1s rfl rfl (by decide))<|Z6 _ (iz e2 (Z23 rfl .t1 rfl))<|Z6 _ (iz e3 (Zdd rfl rfl (by decide)))<|Z6 _ (Z1s rfl rfl (by decide))<|Zg (Z85 (q:=[b3' l1]) (congrArg (fun z=>([b3' z]:List Seg)) g1.symm) rfl rfl rfl rfl .t1<|Z1<|Z0<|Z0<|oH h fun y1 f1 h=>Z2<|Z6 _ (Zy (p:=[b3' l1]) rfl .t1 rfl)<|Z6 _ (Z0b rfl (Zj1 f1))<|Z6 _ (Zhc rfl rfl)<|Z1<|Z03 h rfl (fun h=>?_) (fun h=>?_))))
 ·refine Z0<|Z2<|Z6 _ (Zcj (q:=[uA' (replicate 10 0),uA' (replicate 10 0),uA' (replicate 10 0)]) BdR.nil)<|Zg (Zu (q:=[uA' (replicate 10 0),uA' (replicate 10 0),uA' (replicate 10 0)]) rfl rfl rfl rfl rfl .here<|Z7 rfl<|Z1<|Zh ?_)
  revert h; refine Zt fun h=>?_
  subst h
  exact ⟨_,(.cons (.agg rfl .here rfl) (.cons (.tmp rfl) .nil)),rfl⟩
 ·refine Ze<|Z0<|oH h fun y2 f2 h=>Z2<|Z6 _ (Zy (p:=[b3' l1]) rfl .t1 rfl)<|Z6 _ (Z0b rfl (Z9u f2))<|Zg (Zw fun b3 u3=>Zg (Zu (q:=[uA' y2]) rfl rfl rfl rfl rfl .here<|Z1<|Z0<|oH h fun y3 f3 h=>Z2<|Z6 _ (Zy (p:=[uA' y2]) rfl .here rfl)<|Z6 _ (Z0b rfl (Zgv f3))<|Z7 rfl<|Z6 _ (Z2m rfl rfl)<|Z6 _ (Z2m rfl rfl)<|Zg (Zw fun b4 u4=>Zg (Zu (q:=[uA' y3.1]) rfl rfl rfl rfl rfl .here<|Z7 rfl<|Z1<|Z0<|Z0<|cH h fun c1 h=>Z2<|Z7 rfl<|Z6 _ (Zhc rfl rfl)<|Z7 rfl<|Z9j rfl rfl rfl (fun hg1=>Z2j rfl _ (Z0e rfl) (Z2j rfl _ (Z0e rfl) (Z03z rfl (fun _ h=>by cases h; rfl) rfl rfl (fun hg2=>Z2j rfl _ (Zy (p:=[uA' y3.1]) rfl .here rfl) (Z2j rfl _ (Z0f rfl (fun _ _=>Zce (getD_some (z:=false) (Zs6 (Zav c1 hg1) hg2)))) (Z3j))) (fun hg2=>rfl) rfl (Z3j)))) (fun hg1=>rfl) rfl<|Z1<|Z03 h rfl (fun h=>?_) (fun h=>?_)))))
  ·refine Z0<|Z2<|Z6 _ (Zcj (q:=[uA' (replicate 10 0),uA' (replicate 10 0),uA' (replicate 10 0)]) BdR.nil)<|Zg (Zu (q:=[uA' (replicate 10 0),uA' (replicate 10 0),uA' (replicate 10 0)]) rfl rfl rfl rfl rfl .t2<|Z7 rfl<|Z1<|Zh ?_)
   revert h; refine Zt fun h=>?_
   subst h
   exact ⟨_,(.cons (.agg rfl .t2 rfl) (.cons (.tmp rfl) .nil)),rfl⟩
  ·refine Ze<|Z0<|Z0<|Z2<|Z7 rfl<|Z1<|jH h fun k1 q1 h=>Zn (G:=fun t m=>∃ (a1:LI),k1 a1=some r/\Fit [(2,pt' b2),(5,pt' b3),(6,pt' b4)] (ck b4 88 [uA' a1]::(ck b3 88 [uA' y2]::(ck b2 90 [uA' (replicate 10 0),uA' (replicate 10 0),uA' (replicate 10 0)]::(ck b1 29 [b3' l1] :: [])))) t m) ?_ ?_
   ·refine Z03 h rfl (fun h=>?_) (fun h=>?_)
    ·exact oH h fun y4 f4 h=>Z2<|Z6 _ (Zy (p:=[uA' y3.1]) rfl .here rfl)<|Z6 _ (Z0b rfl (Zdv f4))<|Zg (Zu (q:=[uA' y4]) rfl rfl rfl rfl rfl .here<|Z1<|⟨y4,h,⟨⟨rfl,rfl,rfl,trivial⟩,(.o (.o (.o (.o .nil))))⟩⟩)
    ·exact Ze<|⟨y3.1,h,⟨⟨rfl,rfl,rfl,trivial⟩,(.o (.o (.o (.o .nil))))⟩⟩
   ·rintro t m ⟨a1,h,hF⟩
    refine Zk hF ?_
    clear hF
    subst q1
    refine Z0<|oH h fun y5 f5 h=>Z2<|Z6 _ (Zy (p:=[uA' a1]) rfl .here rfl)<|Z6 _ (Zy (p:=[uA' y2]) rfl .t1 rfl)<|Z6 _ (Z0b rfl (Zgw f5))<|Zg (Zu (q:=[uA' y5.gX,uA' y5.gY,uA' y5.gZ]) rfl rfl rfl rfl rfl .t2<|Z7 rfl<|Z1<|Zh ?_)
    revert h; refine Zt fun h=>?_
    subst h
    exact ⟨_,(.cons (.agg rfl .t2 rfl) (.cons (.tmp rfl) .nil)),rfl⟩
def Z8o (p0:LI):Option Bool :=
 opt (Zvd (tk p0 0 32)) fun y1 =>
 opt (Zi4 ) fun y2 =>
 opt (Zhb y1 y2) fun y3 =>
 some y3
theorem Zj4 {W:World} {r:Bool} {p0:LI} (h:Z8o p0=some r)  :
    Calls Tryz.prog 71 [agg [b3' p0]].toArray W (Z39 W (.bool (r))):=by
 unfold Z8o at h
 refine Zc mo ok71 rfl ?_
 refine Z0<|Z2<|Zg (Z0j (s:=[b3' p0]) rfl fun b1 u1=>Z7 rfl<|Z1<|Z0<|oH h fun y1 f1 h=>oH h fun y2 f2 h=>oH h fun y3 f3 h=>Z2<|Z6 _ (Ze0 rfl .no .no .no (by simp) (by decide))<|Zg (Z0g rfl (fun w hw=>Zne  f1 ((Z3p (s:=[b3' p0]) (N:=32) (k:=.u8) (base:=0) (lo:=0) (hi:=32) (mz:=32) .here rfl (by decide)) w hw)) fun v5 o1 R1=>?_))
 obtain ⟨_,w1,rfl,rfl,O1⟩:=R1
 refine Zg (Z0g rfl (fun w hw=>Zi5  f2 ) fun v11 o2 R2=>?_)
 obtain ⟨_,w2,rfl,rfl,O2⟩:=R2
 refine Z6 _ (Z0f rfl (fun w hw=>Zjt f3 ((Z05 O1 (.app .here)) w hw) ((Z05 O2 .here) w hw)))<|Z7 rfl<|Z1<|Zh ?_
 revert h; refine Zt fun h=>?_
 subst h
 exact ⟨_,(.cons (.tmp rfl) .nil),rfl⟩
def Zd8 (p0:LI) (p1:Z27) (p2:LI):Option (Z27) :=
 opt (Znf p0 p1) fun y1 =>
 opt (Zd9 p2) fun y2 =>
 opt (Zju y1 y2) fun y3 =>
 some y3
theorem Zls {W:World} {r:Z27} {p0:LI} {p1:Z27} {p2:LI} (h:Zd8 p0 p1 p2=some r)  :
    Calls Tryz.prog 72 [agg [b3' p0],agg [uA' p1.gX,uA' p1.gY,uA' p1.gZ],agg [b3' p2]].toArray W (Z39 W (agg [uA' r.gX,uA' r.gY,uA' r.gZ])):=by
 unfold Zd8 at h
 refine Zc mo ok72 rfl ?_
 refine Z0<|Z2<|Zg (Z0j (s:=[b3' p0]) rfl fun b1 u1=>Zg (Z0j (s:=[uA' p1.gX,uA' p1.gY,uA' p1.gZ]) rfl fun b2 u2=>Zg (Z0j (s:=[b3' p2]) rfl fun b3 u3=>Zg (Zw fun b4 u4=>Z1<|Z0<|oH h fun y1 f1 h=>oH h fun y2 f2 h=>oH h fun y3 f3 h=>Zs<|Zo _ (Zy (p:=[b3' p0]) rfl .t3 rfl)<|Zo _ (Zy (p:=[uA' p1.gX,uA' p1.gY,uA' p1.gZ]) rfl .t2 rfl)<|Z8 _ (Z0b rfl (Zlu f1))<|Zo _ (Zy (p:=[b3' p2]) rfl .t1 rfl)<|Z8 _ (Z0b rfl (Zlt f2))<|Z8 _ (Z0b rfl (Zdz f3))<|Z24 rfl (Zu (q:=[uA' y3.gX,uA' y3.gY,uA' y3.gZ]) rfl rfl rfl rfl rfl .here<|Z01<|Zh ?_)))))
 revert h; refine Zt fun h=>?_
 subst h
 exact ⟨_,(.cons (.agg rfl .here rfl) .nil),rfl⟩
def Zng (p0:Z27):Option (Z27) :=
 opt (Zi1 p0.gX) fun y1 =>
 some (⟨y1,p0.gY,p0.gZ⟩:Z27)
theorem Zsh {W:World} {r:Z27} {p0:Z27} (h:Zng p0=some r)  :
    Calls Tryz.prog 73 [agg [uA' p0.gX,uA' p0.gY,uA' p0.gZ]].toArray W (Z39 W (agg [uA' r.gX,uA' r.gY,uA' r.gZ])):=by
 unfold Zng at h
 refine Zc mo ok73 rfl ?_
 refine Z0<|Z2<|Zg (Z0j (s:=[uA' p0.gX,uA' p0.gY,uA' p0.gZ]) rfl fun b1 u1=>Zg (Zw fun b2 u2=>Z1<|Z0<|oH h fun y1 f1 h=>Zs<|Z8 _ (Z4e rfl)<|Z8 _ (Z4e rfl)<|Z8 _ (Z4e rfl)<|Zo _ (Zy (p:=[uA' p0.gX]) rfl .t1 rfl)<|Z8 _ (Z0b rfl (Zdv f1))<|Zo _ (Zy (p:=[uA' p0.gY]) rfl .t1 rfl)<|Zo _ (Zy (p:=[uA' p0.gZ]) rfl .t1 rfl)<|Z8 _ (Zcj (q:=[uA' y1,uA' p0.gY,uA' p0.gZ]) (.agg rfl rfl rfl (.agg rfl rfl rfl (.agg rfl rfl rfl BdR.nil))))<|Z24 rfl (Zu (q:=[uA' y1,uA' p0.gY,uA' p0.gZ]) rfl rfl rfl rfl rfl .here<|Z01<|Zh ?_)))
 revert h; refine Zt fun h=>?_
 subst h
 exact ⟨_,(.cons (.agg rfl .here rfl) .nil),rfl⟩
def Zas (p0:LI) (p1:LI) (p2:LI):Option Bool :=
 opt (Zj6 p2 false) fun y1 =>
 opt (Zj6 p2 true) fun y2 =>
 opt (Zfj p0) fun y3 =>
 chk (imp (!(!y3.2)) ((Z8o y2).isSome)) <|
 br (((!y3.2)||(!((Z8o y2).getD false)))) (
 some false
 ) (
 jn (fun (a1:LI)=>opt (Zng y3.1) fun y4 =>
 opt (Zd8 a1 y4 y2) fun y5 =>
 opt (Zfk y5) fun y6 =>
 some (ieq 32 y6 y1)) fun k1=>opt (Zfn (tk y1 0 32) (tk p0 0 32) p1) fun y7 =>
 opt (Zqb y7) fun y8 =>
 opt (Zd6 y8) fun y9 =>
 k1 y9
 )
theorem Zgx {W:World} {r:Bool} {p0:LI} {p1:LI} {p2:LI} {v1:Value} (h:Zas p0 p1 p2=some r) (hG:Globs W) (A1:RdSl (El.int .u8) W v1 p1) :
    Calls Tryz.prog 26 [agg [b3' p0],v1,agg [b6' p2]].toArray W (Z39 W (.bool (r))):=by
 unfold Zas at h
 refine Zc mo ok26 rfl ?_
 refine Z0<|Z2<|Zg (Z0j (s:=[b3' p0]) rfl fun b1 u1=>Zg (Z0j (s:=[b6' p2]) rfl fun b2 u2=>Z7 rfl<|Z1<|Z0<|oH h fun y1 f1 h=>Z2<|Z6 _ (Zy (p:=[b6' p2]) rfl .here rfl)<|Z6 _ (Z0b rfl (Zjw f1))<|Zg (Zw fun b3 u3=>Zg (Zu (q:=[b3' y1]) rfl rfl rfl rfl rfl .here<|Z1<|Z0<|oH h fun y2 f2 h=>Z2<|Z6 _ (Zy (p:=[b6' p2]) rfl .t1 rfl)<|Z6 _ (Z0b rfl (Zjw f2))<|Zg (Zw fun b4 u4=>Zg (Zu (q:=[b3' y2]) rfl rfl rfl rfl rfl .here<|Z1<|Z0<|oH h fun y3 f3 h=>Z2<|Z6 _ (Zy (p:=[b3' p0]) rfl .t3 rfl)<|Z6 _ (Z0b rfl (Zms f3))<|Z7 rfl<|Z6 _ (Z2m rfl rfl)<|Z6 _ (Z2m rfl rfl)<|Zg (Zw fun b5 u5=>Zg (Zu (q:=[uA' y3.1.gX,uA' y3.1.gY,uA' y3.1.gZ]) rfl rfl rfl rfl rfl .here<|Z7 rfl<|Z1<|Z0<|Z0<|cH h fun c1 h=>Z2<|Z7 rfl<|Z6 _ (Zhc rfl rfl)<|Z7 rfl<|Z9j rfl rfl rfl (fun hg1=>Z2j rfl _ (Zy (p:=[b3' y2]) rfl .t1 rfl) (Z2j rfl _ (Z0f rfl (fun _ _=>Zj4 (getD_some (z:=false) (Zav c1 hg1)))) (Z2j rfl _ (Zhc rfl rfl) (Z3j)))) (fun hg1=>rfl) rfl<|Z1<|Z03 h rfl (fun h=>?_) (fun h=>?_)))))))))
 ·refine Z0<|Z2<|Z7 rfl<|Z1<|Zh ?_
  revert h; refine Zt fun h=>?_
  subst h
  exact ⟨_,(.cons (.tmp rfl) .nil),rfl⟩
 ·refine Ze<|Z0<|jH h fun k1 q1 h=>Zn (G:=fun t m=>∃ (a1:LI) (b6:Nat),k1 a1=some r/\Fit [(7,pt' b3),(8,pt' b4),(9,pt' b5),(11,pt' b6)] (ck b6 74 [b3' a1]::(ck b5 90 [uA' y3.1.gX,uA' y3.1.gY,uA' y3.1.gZ]::(ck b4 74 [b3' y2]::(ck b3 22 [b3' y1]::(ck b2 27 [b6' p2]::(ck b1 29 [b3' p0] :: [])))))) t m) ?_ ?_
  ·refine oH h fun y4 f4 h=>oH h fun y5 f5 h=>oH h fun y6 f6 h=>Zs<|Z8 _ (Ze0 rfl .no .no .no (by simp) (by decide))<|Z8 _ (Ze0 rfl .no .no .no (by simp) (by decide))<|Z8 _ (Z0e rfl)<|Zrf (Z0g rfl (fun w hw=>Zgy  f4 ((Z3p (s:=[b3' y1]) (N:=32) (k:=.u8) (base:=0) (lo:=0) (hi:=32) (mz:=32) .t2 rfl (by decide)) w hw) ((Z3p (s:=[b3' p0]) (N:=32) (k:=.u8) (base:=0) (lo:=0) (hi:=32) (mz:=32) .t4 rfl (by decide)) w hw) ((Z0p A1 Z0w) w hw)) fun v32 o1 R1=>?_) (Zw fun b7 u6=>?_)
   ·obtain ⟨_,w1,rfl,rfl,O1⟩:=R1
    refine ⟨(by repeat (first | exact Sup.refl _ | apply Sup.cons | apply Sup.app)),Zrf (ef_q _ (Z0f rfl (fun w hw=>Zh7 f5 (hG.at hw (by simp)) ((Z05 O1 .here) w hw))) ⟨(by repeat (first | exact Sup.refl _ | apply Sup.cons | apply Sup.app)),?_⟩) (Zw fun b7 u6=>⟨(by repeat (first | exact Sup.refl _ | apply Sup.cons | apply Sup.app)),?_⟩)⟩
    ·exact Z8 _ (Z0b rfl (Zcf f6))<|Z6o (Zw fun b7 u6=>⟨(by repeat (first | exact Sup.refl _ | apply Sup.cons | apply Sup.app)),Z24 rfl (Zu (q:=[b3' y6]) rfl rfl rfl rfl rfl .here (Z01 (⟨y6,b7,h,⟨⟨rfl,rfl,rfl,rfl,trivial⟩,(.o (.one (.app .here) (.one (.app .here) (.one (.app .here) (.one (.app .here) (.one (.app .here) .nil))))))⟩⟩)))⟩)
    ·exact Zw3 _ (Z0f rfl (fun w hw=>Zh7 f5 (hG.at hw (by simp)) ((Z05 O1 .t1) w hw))) (Z8 _ (Z0b rfl (Zcf f6)) (Z24 rfl (Zu (q:=[b3' y6]) rfl rfl rfl rfl rfl .here (Z01 (⟨y6,b7,h,⟨⟨rfl,rfl,rfl,rfl,trivial⟩,(.o (.one (.app .here) (.one (.app .here) (.one (.app .here) (.one (.app .here) (.one (.app .here) .nil))))))⟩⟩))))) (by repeat (first | exact Sup.refl _ | apply Sup.cons | apply Sup.app))
   ·refine ⟨(by repeat (first | exact Sup.refl _ | apply Sup.cons | apply Sup.app)),Z6o (Z0g rfl (fun w hw=>Zgy  f4 ((Z3p (s:=[b3' y1]) (N:=32) (k:=.u8) (base:=0) (lo:=0) (hi:=32) (mz:=32) .t3 rfl (by decide)) w hw) ((Z3p (s:=[b3' p0]) (N:=32) (k:=.u8) (base:=0) (lo:=0) (hi:=32) (mz:=32) .t5 rfl (by decide)) w hw) ((Z0p A1 Z0w) w hw)) fun v32 o1 R1=>?_)⟩
    obtain ⟨_,w1,rfl,rfl,O1⟩:=R1
    exact ⟨(by repeat (first | exact Sup.refl _ | apply Sup.cons | apply Sup.app)),Zw3 _ (Z0f rfl (fun w hw=>Zh7 f5 (hG.at hw (by simp)) ((Z05 O1 .here) w hw))) (Z8 _ (Z0b rfl (Zcf f6)) (Z24 rfl (Zu (q:=[b3' y6]) rfl rfl rfl rfl rfl (.app .here) (Z01 (⟨y6,b7,h,⟨⟨rfl,rfl,rfl,rfl,trivial⟩,(.one (.app .here) (.one (.app .here) (.one (.app .here) (.one (.app .here) (.one (.app .here) (.one (.app .here) .nil))))))⟩⟩))))) (by repeat (first | exact Sup.refl _ | apply Sup.cons | apply Sup.app))⟩
  ·rintro t m ⟨a1,b6,h,hF⟩
   refine Zk hF ?_
   clear hF
   subst q1
   refine Z0<|oH h fun y7 f7 h=>oH h fun y8 f8 h=>Zs<|Zo _ (Zy (p:=[b3' a1]) rfl .here rfl)<|Zo _ (Zy (p:=[uA' y3.1.gX,uA' y3.1.gY,uA' y3.1.gZ]) rfl .t1 rfl)<|Z8 _ (Z0b rfl (Zsh f7))<|Zo _ (Zy (p:=[b3' y2]) rfl .t2 rfl)<|Z8 _ (Z0b rfl (Zls f8))<|Z6o (Zw fun b8 u7=>⟨(by repeat (first | exact Sup.refl _ | apply Sup.cons | apply Sup.app)),Z24 rfl (Zu (q:=[uA' y8.gX,uA' y8.gY,uA' y8.gZ]) rfl rfl rfl rfl rfl .here (Z01 (Z0 (oH h fun y9 f9 h=>Zs (Zo _ (Zy (p:=[uA' y8.gX,uA' y8.gY,uA' y8.gZ]) rfl .here rfl) (Z8 _ (Z0b rfl (Zmt f9)) (Zo _ (Zy (p:=[b3' y1]) rfl .t4 rfl) (Z8 _ (Zi6 rfl rfl rfl rfl _ (Z6q Z63)) (Z8 _ (Z0e rfl) (Z01 (Zh ?_)))))))))))⟩)
   revert h; refine Zt fun h=>?_
   subst h
   exact ⟨_,(.cons (.tmp rfl) .nil),rfl⟩
structure Z22 where
  gbytes:LI
  gfault:Int
def Za8:Option (Z22) :=
 some (⟨[],0⟩:Z22)
theorem Zhh {W:World} {r:Z22} (h:Za8=some r)  :
    Calls Tryz.prog 74 [].toArray W (Zde W [] (fun v Ms=>∃ (b1:Nat) (T0:TypeId) (u0:Value) (M1:List Zf),v = pt' b1/\Ms = [.one (ck b1 T0 [.one (u0),.one (.int .i64 (r.gfault))]),.all M1]/\Z0q (El.int .u8) u0 M1 r.gbytes)):=by
 unfold Za8 at h
 refine Z07 mo ok74 rfl (Zie _) ?_
 refine Z0<|Z2<|Z7 rfl<|Z1<|Z0<|Z2<|Z6 _ (Zcj (q:=[.one (.slice none 0 0),.one (.int .i64 (0))]) BdR.nil)<|Zg (Z0j (s:=[.one (.slice none 0 0),.one (.int .i64 (0))]) rfl fun b2 hb1=>Z7 rfl<|Z1<|Zh ?_)
 revert h; refine Zt fun h=>?_
 subst h
 exact ⟨_,_,(.cons (.tmp rfl) .nil),(.o (.no .nil)),⟨_,rfl,⟨b2,178,(.slice none 0 0),[],rfl,rfl,Z3l⟩⟩⟩
def Z5v (p0:Z22) (p1:LI):Option (Z22) :=
 br ((p0.gfault==0)) (
 chk (decide ((p0.gbytes.length+p1.length)*1<=140737488355328)) <|
 bnd (p0.gbytes++p1) fun l1 =>
 some (⟨l1,p0.gfault⟩:Z22)
 ) (
 some p0
 )
theorem Zb2 {W:World} {r:Z22} {p0:Z22} {p1:LI} {v0:Value} {M1:List Zf} {v1:Value} {b:Nat} {T:TypeId} (h:Z5v p0 p1=some r) (h0:Sat W (b::M1.map (·.b)) (ck b T [.one (v0),.one (.int .i64 (p0.gfault))]::(M1 ++ [])) W) (O1:Z0q (El.int .u8) v0 M1 p0.gbytes) (A1:RdSl (El.int .u8) W v1 p1/\Za9 v1 p1 (b::M1.map (·.b))) :
    Calls Tryz.prog 147 [.pointer (some ⟨b,0,none⟩),v1].toArray W (Zde W (b::M1.map (·.b)) (fun v Ms=>∃ (uw:Value) (Mw:List Zf),v = .tuple #[]/\Ms = [.one (ck b T [.one (uw),.one (.int .i64 (r.gfault))]),.all Mw]/\Z0q (El.int .u8) uw Mw r.gbytes)):=by
 unfold Z5v at h
 refine Z07 mo Z0n4 rfl h0 ?_
 refine Z0<|Z2<|Z7 rfl<|Z6 _ (Z5q rfl)<|Z6 _ (Z4e rfl)<|Z6 _ (Z23 rfl .here rfl)<|Z6 _ (Z9 rfl rfl rfl)<|Z1<|Z03 h rfl (fun h=>?_) (fun h=>?_)
 ·refine cH h fun c1 h=>bH h fun l1 g1 h=>Z2<|Z7 rfl<|Z7 rfl<|Z6 _ (Z5q rfl)<|Z6 _ (Z4e rfl)<|Z6 _ (Z23 rfl .here rfl)<|Z7 rfl<|Zg (Z32 (E:=(El.int .u8)) g1 rfl O1 .t1 rfl (Z0p A1.1 A1.2) c1 fun v6 w1 O2=>Z6 _ (Z5q rfl)<|Z6 _ (Z4e rfl)<|Zg (Zb0 (q:=[.one (v6),.one (.int .i64 (p0.gfault))]) rfl rfl (Zmh.one1 (Z0q.isSl O2)) rfl (.app .here)<|Z1 ?_))
  revert h; refine Zt fun h=>?_
  subst h
  exact ⟨_,_,.nil,(.one (.app .here) (.all .here .nil)),⟨_,rfl,⟨v6,w1,rfl,rfl,O2⟩⟩⟩
 ·refine Ze ?_
  revert h; refine Zt fun h=>?_
  subst h
  exact ⟨_,_,.nil,(.o (.all .here .nil)),⟨_,rfl,⟨v0,M1,rfl,rfl,O1⟩⟩⟩
def Z4m (p0:Z22) (p1:LI):Option (Z22) :=
 opt (Z5v p0 p1) fun y1 =>
 some y1
theorem Z9n {W:World} {r:Z22} {p0:Z22} {p1:LI} {v0:Value} {M1:List Zf} {v1:Value} {b:Nat} {T:TypeId} (h:Z4m p0 p1=some r) (h0:Sat W (b::M1.map (·.b)) (ck b T [.one (v0),.one (.int .i64 (p0.gfault))]::(M1 ++ [])) W) (O1:Z0q (El.int .u8) v0 M1 p0.gbytes) (A1:RdSl (El.int .u8) W v1 p1/\Za9 v1 p1 (b::M1.map (·.b))) :
    Calls Tryz.prog 75 [.pointer (some ⟨b,0,none⟩),v1].toArray W (Zde W (b::M1.map (·.b)) (fun v Ms=>∃ (uw:Value) (Mw:List Zf),v = .tuple #[]/\Ms = [.one (ck b T [.one (uw),.one (.int .i64 (r.gfault))]),.all Mw]/\Z0q (El.int .u8) uw Mw r.gbytes)):=by
 unfold Z4m at h
 refine Z07 mo ok75 rfl h0 ?_
 refine oH h fun y1 f1 h=>Z2<|Z7 rfl<|Z7 rfl<|Zg (Z4f (mS:=_::M1) rfl (Zcy .here .here) (fun w hw=>Zb2  f1 (Z9c hw (Zcy .here .here)) O1 ⟨(Z0p A1.1 A1.2) w hw,(Zjl (Zmz (E:=(El.int .u8)) A1.1 A1.2 .here hw) (Zn0 (E:=(El.int .u8)) A1.1 A1.2 .t1 hw))⟩) fun v3 o1 R1=>?_)
 obtain ⟨v5,w1,rfl,rfl,O2⟩:=R1
 refine Z1 ?_
 revert h; refine Zt fun h=>?_
 subst h
 exact ⟨_,_,.nil,(.o (.all .here .nil)),⟨_,rfl,⟨v5,w1,rfl,rfl,O2⟩⟩⟩
end Go.Proofs.YtiflckckekjbnaaGreatDoor
namespace Go.Proofs.YtiflckckekjbnaaGreatDoor
open Go Go.Sx Go.RowKit
open Go.IntKind (wrap)
set_option linter.all false
set_option maxHeartbeats 400000
set_option maxRecDepth 100000
def Zii (p0:Int):Option ((Bool×LI)) :=
 br (((decide (p0<1))||(decide (p0>255)))) (
 some (true,[])
 ) (
 bnd (wrap .u8 p0) fun z1 =>
 chk (decide (0<([70,66,1,z1]:LI).length)) <|
 some (false,([70,66,1,z1]:LI))
 )
theorem Zmw {W:World} {r:(Bool×LI)} {p0:Int} (h:Zii p0=some r)  :
    Calls Tryz.prog 76 [.int .i64 (p0)].toArray W (Zde W [] (fun v Ms=>∃ (u0:Value) (M1:List Zf),v=u0/\Ms = [.all M1]/\Z0q (El.int .u8) u0 M1 r.2/\Zpz u0=r.1)):=by
 unfold Zii at h
 refine Z07 mo ok76 rfl (Zie _) ?_
 refine Z0<|Z2<|Z7 rfl<|Z1<|Z0<|Z0<|Z2<|Z7 rfl<|Z6 _ (Z9 rfl rfl rfl)<|Z7 rfl<|Z9j rfl rfl rfl (fun hg1=>Z2j rfl _ (Z0e rfl) (Z2j rfl _ (Z9 rfl rfl rfl) (Z3j))) (fun hg1=>rfl) rfl<|Z1<|Z03 h rfl (fun h=>?_) (fun h=>?_)
 ·refine Z0<|Z2<|Z7 rfl<|Z1<|Zh ?_
  revert h; refine Zt fun h=>?_
  subst h
  exact ⟨_,_,(.cons (.tmp rfl) .nil),(.no .nil),⟨_,rfl,⟨(.slice none 0 0),[],rfl,rfl,Z3l,rfl⟩⟩⟩
 ·refine Ze<|Z0<|bH h fun z1 e1 h=>Z2<|Z7 rfl<|Z6 _ (iz e1 (Z4k rfl))<|Zg (Z5j (E:=(El.int .u8)) (xs:=[70,66,1,z1]) (.one rfl rfl rfl (.one rfl rfl rfl (.one rfl rfl rfl (.one rfl rfl rfl BdR.nil)))) (.cons (p:=[.one (.int .u8 (70))]) rfl (.cons (p:=[.one (.int .u8 (66))]) rfl (.cons (p:=[.one (.int .u8 (1))]) rfl (.cons (p:=[.one (.int .u8 (z1))]) rfl .nil)))) rfl fun v7 w1 O1=>Z7 rfl<|Z1<|Zh<|cH h fun c1 h=>?_)
  revert h; refine Zt fun h=>?_
  subst h
  exact ⟨_,_,(.cons (.tmp rfl) .nil),(.all .here .nil),⟨_,rfl,⟨v7,w1,rfl,rfl,O1,(Shp.notnil (Shp.own O1) c1)⟩⟩⟩
def Z7o (k1:Int->Option Int) (k2:Int->Int->Option Int) (i1:Int) (i2:Int):Option Int :=
 br ((i2 != 0)) (
 bnd (wrap .i64 (i1+1)) fun z1 =>
 bnd (Zq .u32 i2 1) fun z2 =>
 k2 z1 z2
 ) (
 k1 i1
 )
def Z4b (k1:Int->Option Int):Nat->Int->Int->Option Int
  | 0,_,_=>none
  | n+1,i1,i2=>Z7o k1 (Z4b k1 n) i1 i2
def Z9o:Option Int :=
 bnd (Z4 .xor .u32 4294967295 0) fun z1 =>
 jn (fun (i1:Int)=>some i1) fun k1=>Z4b k1 big 0 z1
theorem Zel {W:World} {r:Int} (h:Z9o=some r)  :
    Calls Tryz.prog 199 [].toArray W (Z39 W (.int .i64 (r))):=by
 unfold Z9o at h
 refine Zc mo Z0od rfl ?_
 refine Z0<|Z2<|Z7 rfl<|Z1<|Z0<|Z2<|Z7 rfl<|Z1<|Z0<|Z0<|bH h fun z1 e1 h=>Z2<|Z6 _ (Z4k rfl)<|Z6 _ (iz e1 (Zhc rfl rfl))<|Z7 rfl<|Z1<|jH h fun k1 q1 h=>Zn (G:=fun t m=>∃ (i1:Int),k1 i1=some r/\Fit [(1,.int .i64 (i1))] [] t m) ?_ ?_
 ·refine Za<|Zr (fun n1 t m=>∃ (i2:Int) (i3:Int),Z4b k1 n1 i2 i3=some r/\Fit [(1,.int .i64 (i2)),(2,.int .u32 (i3))] [] t m) big ?_ ?_
  ·exact ⟨0,z1,h,⟨⟨rfl,rfl,trivial⟩,.nil⟩⟩
  ·rintro n1 t m ⟨i2,i3,h,hF⟩
   refine Zk hF ?_
   clear hF
   rcases n1 with _ | n1
   · exact Z0c h
   have h:Z7o k1 (Z4b k1 n1) i2 i3=some r:=h
   unfold Z7o at h
   obtain ⟨k2,q2⟩ : ∃ k,k=Z4b k1 n1:=⟨_,rfl⟩
   try rw [<- q2] at h
   refine Z0<|Z0<|Z2<|Z7 rfl<|Z6 _ (Z9 rfl rfl rfl)<|Z1<|Z03 h rfl (fun h=>?_) (fun h=>?_)
   ·refine Ze<|Z0<|Za<|bH h fun z2 e2 h=>Z2<|Z7 rfl<|Z6 _ (iz e2 (Z9 rfl rfl rfl))<|Z7 rfl<|Z1<|bH h fun z3 e3 h=>Z2<|Z7 rfl<|Z6 _ (iz e3 (Z5e rfl rfl (by decide)))<|Z7 rfl<|Z1 ?_
    rw [q2] at h
    exact ⟨n1,Nat.lt_succ_self _,z2,z3,h,⟨⟨rfl,rfl,trivial⟩,.nil⟩⟩
   ·exact Zz _ rfl<|⟨i2,h,⟨⟨rfl,trivial⟩,.nil⟩⟩
 ·rintro t m ⟨i1,h,hF⟩
  refine Zk hF ?_
  clear hF
  subst q1
  refine Z0<|Z2<|Z7 rfl<|Z7 rfl<|Z1<|Zh ?_
  revert h; refine Zt fun h=>?_
  subst h
  exact ⟨_,(.cons (.tmp rfl) .nil),rfl⟩
def Z6k (k1:(LI)->OL) (k2:Int->(LI)->Int->OL) (i1:Int) (l1:LI) (i2:Int):OL :=
 br ((decide (i2≥0))) (
 bnd (wrap .u8 i1) fun z1 =>
 chk (inB i2 l1.length) <|
 bnd (Zdn 0 l1 (i2).toNat z1) fun l2 =>
 bnd (Zq .u32 i1 8) fun z2 =>
 bnd (wrap .i64 (i2-1)) fun z3 =>
 k2 z2 l2 z3
 ) (
 k1 l1
 )
def Z3e (k1:(LI)->OL):Nat->Int->(LI)->Int->OL
  | 0,_,_,_=>none
  | n+1,i1,l1,i2=>Z6k k1 (Z3e k1 n) i1 l1 i2
def Z4n (p0:Int):OL :=
 opt (Z9o) fun y1 =>
 bnd (wrap .i64 (Int.tdiv y1 8)) fun z1 =>
 chk (mkB 1 z1 z1) <|
 bnd (wrap .i64 (((List.replicate (z1).toNat 0:LI).length:Int)-1)) fun z2 =>
 jn (fun (l1:LI)=>some l1) fun k1=>Z3e k1 big p0 (List.replicate (z1).toNat 0:LI) z2
theorem Zck {W:World} {r:(LI)} {p0:Int} (h:Z4n p0=some r)  :
    Calls Tryz.prog 148 [.int .u32 (p0)].toArray W (Zde W [] (fun v Ms=>∃ (u0:Value) (M1:List Zf),v=u0/\Ms = [.all M1]/\Z0q (El.int .u8) u0 M1 r)):=by
 unfold Z4n at h
 refine Z07 mo Z0n5 rfl (Zie _) ?_
 refine Z0<|Z2<|Z7 rfl<|Z1<|Z0<|oH h fun y1 f1 h=>bH h fun z1 e1 h=>cH h fun c1 h=>Z2<|Z6 _ (Z0b rfl (Zel f1))<|Z6 _ (iz e1 (Zbu rfl rfl (by decide)))<|Zg (Ziq (E:=(El.int .u8)) rfl rfl rfl c1 fun v6 w1 O1=>Z7 rfl<|Z1<|Z0<|Z0<|bH h fun z2 e2 h=>Z2<|Z7 rfl<|Z6 _ (Z1f rfl (Shp.own O1))<|Z6 _ (iz e2 (Z9 rfl rfl rfl))<|Z7 rfl<|Z1<|jH h fun k1 q1 h=>Zn (G:=fun t m=>∃ (l1:LI) (v61:Value) (w2:List Zf),k1 l1=some r/\Z0q (El.int .u8) v61 w2 l1/\Fit [(3,v61)] (w2 ++ []) t m) ?_ ?_)
 ·refine Za<|Zr (fun n1 t m=>∃ (i1:Int) (l2:LI) (i2:Int) (v97:Value) (w3:List Zf),Z3e k1 n1 i1 l2 i2=some r/\Z0q (El.int .u8) v97 w3 l2/\Fit [(0,.int .u32 (i1)),(3,v97),(4,.int .i64 (i2))] (w3 ++ []) t m) big ?_ ?_
  ·exact ⟨p0,(List.replicate (z1).toNat 0:LI),z2,v6,w1,h,O1,⟨⟨rfl,rfl,rfl,trivial⟩,(.all .here .nil)⟩⟩
  ·rintro n1 t m ⟨i1,l2,i2,v97,w3,h,O2,hF⟩
   refine Zk hF ?_
   clear hF
   rcases n1 with _ | n1
   · exact Z0c h
   have h:Z6k k1 (Z3e k1 n1) i1 l2 i2=some r:=h
   unfold Z6k at h
   obtain ⟨k2,q2⟩ : ∃ k,k=Z3e k1 n1:=⟨_,rfl⟩
   try rw [<- q2] at h
   refine Z0<|Z0<|Z2<|Z7 rfl<|Z6 _ (Z9 rfl rfl rfl)<|Z1<|Z03 h rfl (fun h=>?_) (fun h=>?_)
   ·refine Ze<|Z0<|Za<|Z0<|bH h fun z3 e3 h=>cH h fun c2 h=>bH h fun l3 g1 h=>Z2<|Z7 rfl<|Z7 rfl<|Z7 rfl<|Z6 _ (iz e3 (Z4k rfl))<|Z6 _ (Z2u rfl rfl (Shp.own O2) c2)<|Zg (Zjm (E:=(El.int .u8)) g1 O2 .here rfl rfl rfl (Z04 c2) fun w4 O3=>Z1<|bH h fun z4 e4 h=>Z2<|Z7 rfl<|Z6 _ (iz e4 (Z5e rfl rfl (by decide)))<|Z7 rfl<|Z1<|bH h fun z5 e5 h=>Z2<|Z7 rfl<|Z6 _ (iz e5 (Z9 rfl rfl rfl))<|Z7 rfl<|Z1 ?_)
    rw [q2] at h
    exact ⟨n1,Nat.lt_succ_self _,z4,l3,z5,v97,w4,h,O3,⟨⟨rfl,rfl,rfl,trivial⟩,(.all .here .nil)⟩⟩
   ·exact Zz _ rfl<|⟨l2,v97,w3,h,O2,⟨⟨rfl,trivial⟩,(.all .here .nil)⟩⟩
 ·rintro t m ⟨l1,v61,w2,h,O4,hF⟩
  refine Zk hF ?_
  clear hF
  subst q1
  refine Z0<|Z2<|Z7 rfl<|Z7 rfl<|Z1<|Zh ?_
  revert h; refine Zt fun h=>?_
  subst h
  exact ⟨_,_,(.cons (.tmp rfl) .nil),(.all .here .nil),⟨_,rfl,⟨v61,w2,rfl,rfl,O4⟩⟩⟩
def Z9g (p0:Z22) (p1:Int):Option (Z22) :=
 opt (Z4n p1) fun y1 =>
 opt (Z5v p0 y1) fun y2 =>
 some y2
theorem Zgp {W:World} {r:Z22} {p0:Z22} {p1:Int} {v0:Value} {M1:List Zf} {b:Nat} {T:TypeId} (h:Z9g p0 p1=some r) (h0:Sat W (b::M1.map (·.b)) (ck b T [.one (v0),.one (.int .i64 (p0.gfault))]::(M1 ++ [])) W) (O1:Z0q (El.int .u8) v0 M1 p0.gbytes) :
    Calls Tryz.prog 77 [.pointer (some ⟨b,0,none⟩),.int .u32 (p1)].toArray W (Zde W (b::M1.map (·.b)) (fun v Ms=>∃ (uw:Value) (Mw:List Zf),v = .tuple #[]/\Ms = [.one (ck b T [.one (uw),.one (.int .i64 (r.gfault))]),.all Mw]/\Z0q (El.int .u8) uw Mw r.gbytes)):=by
 unfold Z9g at h
 refine Z07 mo ok77 rfl h0 ?_
 refine oH h fun y1 f1 h=>oH h fun y2 f2 h=>Z2<|Z7 rfl<|Z7 rfl<|Zg (Z0g rfl (fun w hw=>Zck  f1 ) fun v3 o1 R1=>?_)
 obtain ⟨_,w1,rfl,rfl,O2⟩:=R1
 refine Zg (Z4f (mS:=_::M1) rfl (Zcy (.app .here) (.app .here)) (fun w hw=>Zb2  f2 (Z9c hw (Zcy (.app .here) (.app .here))) O1 ⟨(Z05 O2 .here) w hw,(Zjl (Zes (E:=(El.int .u8)) O2 .here .here hw) (Zil (E:=(El.int .u8)) O2 .here .t1 hw))⟩) fun v9 o2 R2=>?_)
 obtain ⟨v11,w2,rfl,rfl,O3⟩:=R2
 refine Z1 ?_
 revert h; refine Zt fun h=>?_
 subst h
 exact ⟨_,_,.nil,(.o (.all .here .nil)),⟨_,rfl,⟨v11,w2,rfl,rfl,O3⟩⟩⟩
def Z83 (p0:Z22):Option ((LI)×Int×Z22) :=
 br ((p0.gfault != 0)) (
 some ([],p0.gfault,p0)
 ) (
 chk (decide ((([]:LI).length+p0.gbytes.length)*1<=140737488355328)) <|
 bnd (([]:LI)++p0.gbytes) fun l1 =>
 some (l1,0,p0)
 )
theorem Zfy {W:World} {r:(LI)×Int×Z22} {p0:Z22} {v0:Value} {M1:List Zf} {b:Nat} {T:TypeId} (h:Z83 p0=some r) (h0:Sat W (b::M1.map (·.b)) (ck b T [.one (v0),.one (.int .i64 (p0.gfault))]::(M1 ++ [])) W) (O1:Z0q (El.int .u8) v0 M1 p0.gbytes) :
    Calls Tryz.prog 78 [.pointer (some ⟨b,0,none⟩)].toArray W (Zde W (b::M1.map (·.b)) (fun v Ms=>∃ (u0:Value) (M1:List Zf) (uw:Value) (Mw:List Zf),v = .tuple #[u0,.int .i64 (r.2.1)]/\Ms = [.all M1,.one (ck b T [.one (uw),.one (.int .i64 (r.2.2.gfault))]),.all Mw]/\Z0q (El.int .u8) u0 M1 r.1/\Z0q (El.int .u8) uw Mw r.2.2.gbytes)):=by
 unfold Z83 at h
 refine Z07 mo ok78 rfl h0 ?_
 refine Z0<|Z2<|Z7 rfl<|Z7 rfl<|Z1<|Z0<|Z0<|Z2<|Z7 rfl<|Z6 _ (Z5q rfl)<|Z6 _ (Z4e rfl)<|Z6 _ (Z23 rfl .here rfl)<|Z6 _ (Z9 rfl rfl rfl)<|Z1<|Z03 h rfl (fun h=>?_) (fun h=>?_)
 ·refine Z0<|Zs<|Z8 _ (Z0e rfl)<|Z8 _ (Z5q rfl)<|Z8 _ (Z4e rfl)<|Z8 _ (Z0e rfl)<|Zo _ (Z23 rfl .here rfl)<|Z8 _ (Z0e rfl)<|Z01<|Zh ?_
  revert h; refine Zt fun h=>?_
  subst h
  exact ⟨_,_,(.cons (.tmp rfl) (.cons (.tmp rfl) .nil)),(.no (.o (.all .here .nil))),⟨_,rfl,⟨(.slice none 0 0),[],v0,M1,rfl,rfl,Z3l,O1⟩⟩⟩
 ·refine Ze<|Z0<|cH h fun c1 h=>bH h fun l1 g1 h=>Z2<|Zg (Z5j (E:=(El.int .u8)) (xs:=[]) BdR.nil .nil rfl fun v6 w1 O2=>Z7 rfl<|Z6 _ (Z5q rfl)<|Z6 _ (Z4e rfl)<|Z6 _ (Z23 rfl (.app .here) rfl)<|Zg (Z32 (E:=(El.int .u8)) g1 rfl O2 .here rfl (Z05 O1 (.app .t1)) c1 fun v11 w2 O3=>Z7 rfl<|Z7 rfl<|Z1<|Zh ?_))
  revert h; refine Zt fun h=>?_
  subst h
  exact ⟨_,_,(.cons (.tmp rfl) (.cons (.tmp rfl) .nil)),(.all .here (.o (.all .here .nil))),⟨_,rfl,⟨v11,w2,v0,M1,rfl,rfl,O3,O1⟩⟩⟩
structure api_Link where
  gEpoch:Int
  gKey:LI
  gSig:LI
def api_Link_z:api_Link:=⟨0,(List.replicate 32 0),(List.replicate 64 0)⟩
def Zdf (p0:api_Link):Option ((Bool×LI)) :=
 br (((decide (p0.gEpoch<1))||(decide (p0.gEpoch>64)))) (
 some (true,[])
 ) (
 opt (Za8 ) fun y1 =>
 opt (Zii 11) fun y2 =>
 opt (Z4m y1 y2.2) fun y3 =>
 bnd (wrap .u32 p0.gEpoch) fun z1 =>
 opt (Z9g y3 z1) fun y4 =>
 opt (Z4m y4 (tk p0.gKey 0 32)) fun y5 =>
 opt (Z83 y5) fun y6 =>
 chk (decide (0<y6.1.length)) <|
 some (false,y6.1)
 )
theorem Zm1 {W:World} {r:(Bool×LI)} {p0:api_Link} (h:Zdf p0=some r)  :
    Calls Tryz.prog 29 [agg [.one (.int .i64 (p0.gEpoch)),b3' p0.gKey,b6' p0.gSig]].toArray W (Zde W [] (fun v Ms=>∃ (u0:Value) (M1:List Zf),v=u0/\Ms = [.all M1]/\Z0q (El.int .u8) u0 M1 r.2/\Zpz u0=r.1)):=by
 unfold Zdf at h
 refine Z07 mo ok29 rfl (Zie _) ?_
 refine Z0<|Z2<|Zg (Z0j (s:=[.one (.int .i64 (p0.gEpoch)),b3' p0.gKey,b6' p0.gSig]) rfl fun b1 hb1=>Z7 rfl<|Z1<|Z0<|Z0<|Z2<|Z6 _ (Z4e rfl)<|Z6 _ (Z23 rfl .here rfl)<|Z6 _ (Z9 rfl rfl rfl)<|Z7 rfl<|Z9j rfl rfl rfl (fun hg1=>Z2j rfl _ (Z4e rfl) (Z2j rfl _ (Z23 rfl .here rfl) (Z2j rfl _ (Z9 rfl rfl rfl) (Z3j)))) (fun hg1=>rfl) rfl<|Z1<|Z03 h rfl (fun h=>?_) (fun h=>?_))
 ·refine Z0<|Z2<|Z7 rfl<|Z1<|Zh ?_
  revert h; refine Zt fun h=>?_
  subst h
  exact ⟨_,_,(.cons (.tmp rfl) .nil),(.no .nil),⟨_,rfl,⟨(.slice none 0 0),[],rfl,rfl,Z3l,rfl⟩⟩⟩
 ·refine Ze<|Z0<|oH h fun y1 f1 h=>Z2<|Zg (Z0g rfl (fun w hw=>Zhh  f1 ) fun v8 o1 R1=>?_)
  obtain ⟨b2,T11,v12,w1,rfl,rfl,O1⟩:=R1
  refine Z7 rfl<|Z1<|Z0<|oH h fun y2 f2 h=>oH h fun y3 f3 h=>Z2<|Z7 rfl<|Zg (Z0g rfl (fun w hw=>Zmw  f2 ) fun v17 o2 R2=>?_)
  obtain ⟨_,w2,rfl,rfl,O2,N22⟩:=R2
  refine Zg (Z4f (mS:=_::w1) rfl (Zcy (.app .here) (.app .here)) (fun w hw=>Z9n  f3 (Z9c hw (Zcy (.app .here) (.app .here))) O1 ⟨(Z05 O2 .here) w hw,(Zjl (Zes (E:=(El.int .u8)) O2 .here .here hw) (Zil (E:=(El.int .u8)) O2 .here .t1 hw))⟩) fun v24 o3 R3=>?_)
  obtain ⟨v26,w3,rfl,rfl,O3⟩:=R3
  refine Z1<|Z0<|bH h fun z1 e1 h=>oH h fun y4 f4 h=>Z2<|Z7 rfl<|Z6 _ (Z4e rfl)<|Z6 _ (Z23 rfl (.there (.app (.app .here))) rfl)<|Z6 _ (iz e1 (Z4k rfl))<|Zg (Z4f (mS:=_::w3) rfl (Zcy .here .here) (fun w hw=>Zgp  f4 (Z9c hw (Zcy .here .here)) O3) fun v32 o4 R4=>?_)
  obtain ⟨v34,w4,rfl,rfl,O4⟩:=R4
  refine Z1<|Z0<|oH h fun y5 f5 h=>Z2<|Z7 rfl<|Z6 _ (Z4e rfl)<|Z6 _ (Ze0 rfl .no .no .no (by simp) (by decide))<|Zg (Z4f (mS:=_::w4) rfl (Zcy .here .here) (fun w hw=>Z9n  f5 (Z9c hw (Zcy .here .here)) O4 ⟨(Z3p (s:=[.one (.int .i64 (p0.gEpoch)),b3' p0.gKey,b6' p0.gSig]) (N:=32) (k:=.u8) (base:=1) (lo:=0) (hi:=32) (mz:=32) (.there (.app (.app .here))) rfl (by decide)) w hw,(Zjl (Zn1 (.there (.app (.app .here))) .here hw Zat) (Zn2 (.there (.app (.app .here))) .t1 hw Zat))⟩) fun v39 o5 R5=>?_)
  obtain ⟨v41,w5,rfl,rfl,O5⟩:=R5
  refine Z1<|Z0<|oH h fun y6 f6 h=>Z2<|Z7 rfl<|Zg (Z4f (mS:=_::w5) rfl (Zcy .here .here) (fun w hw=>Zfy  f6 (Z9c hw (Zcy .here .here)) O5) fun v46 o6 R6=>?_)
  obtain ⟨v48,w6,v51,w7,rfl,rfl,O6,O7⟩:=R6
  refine Z7 rfl<|Z6 _ (Z2m rfl rfl)<|Z6 _ (Z2m rfl rfl)<|Z7 rfl<|Z7 rfl<|Z1<|Z0<|Z2<|Z7 rfl<|Z7 rfl<|Z1<|Zh<|cH h fun c1 h=>?_
  revert h; refine Zt fun h=>?_
  subst h
  exact ⟨_,_,(.cons (.tmp rfl) .nil),(.all .here .nil),⟨_,rfl,⟨v48,w6,rfl,rfl,O6,(Shp.notnil (Shp.own O6) c1)⟩⟩⟩
structure Zbt where
  gB:LI
  gE:Int
def Zb9 (p0:Zbt) (p1:LI):Option (Zbt) :=
 br ((p0.gE==0)) (
 chk (decide ((([]:LI).length+p0.gB.length)*1<=140737488355328)) <|
 bnd (([]:LI)++p0.gB) fun l1 =>
 chk (decide ((l1.length+p1.length)*1<=140737488355328)) <|
 bnd (l1++p1) fun l2 =>
 some (⟨l2,p0.gE⟩:Zbt)
 ) (
 some p0
 )
theorem Zfo {W:World} {r:Zbt} {p0:Zbt} {p1:LI} {v0:Value} {M1:List Zf} {v1:Value} {b:Nat} {T:TypeId} (h:Zb9 p0 p1=some r) (h0:Sat W (b::M1.map (·.b)) (ck b T [.one (v0),.one (.int .i64 (p0.gE))]::(M1 ++ [])) W) (O1:Z0q (El.int .u8) v0 M1 p0.gB) (A1:RdSl (El.int .u8) W v1 p1/\Za9 v1 p1 (b::M1.map (·.b))) :
    Calls Tryz.prog 149 [.pointer (some ⟨b,0,none⟩),v1].toArray W (Zde W (b::M1.map (·.b)) (fun v Ms=>∃ (uw:Value) (Mw:List Zf),v = .tuple #[]/\Ms = [.one (ck b T [.one (uw),.one (.int .i64 (r.gE))]),.all Mw]/\Z0q (El.int .u8) uw Mw r.gB)):=by
 unfold Zb9 at h
 refine Z07 mo Z0n6 rfl h0 ?_
 refine Z0<|Z2<|Z7 rfl<|Z6 _ (Z5q rfl)<|Z6 _ (Z4e rfl)<|Z6 _ (Z23 rfl .here rfl)<|Z6 _ (Z9 rfl rfl rfl)<|Z1<|Z03 h rfl (fun h=>?_) (fun h=>?_)
 ·refine Z0<|Z2<|Z7 rfl<|Z1<|Z0<|cH h fun c1 h=>bH h fun l1 g1 h=>Z2<|Z7 rfl<|Z7 rfl<|Z6 _ (Z5q rfl)<|Z6 _ (Z4e rfl)<|Z6 _ (Z23 rfl .here rfl)<|Zg (Z32 (E:=(El.int .u8)) g1 rfl Z3l .here rfl (Z05 O1 .t1) c1 fun v7 w1 O2=>Z7 rfl<|Z1<|cH h fun c2 h=>bH h fun l2 g2 h=>Z2<|Z7 rfl<|Z7 rfl<|Z7 rfl<|Zg (Z32 (E:=(El.int .u8)) g2 rfl O2 .here rfl (Z0p A1.1 A1.2) c2 fun v13 w2 O3=>Z6 _ (Z5q rfl)<|Z6 _ (Z4e rfl)<|Zg (Zb0 (q:=[.one (v13),.one (.int .i64 (p0.gE))]) rfl rfl (Zmh.one1 (Z0q.isSl O3)) rfl (.app .here)<|Z1 ?_)))
  revert h; refine Zt fun h=>?_
  subst h
  exact ⟨_,_,.nil,(.one (.app .here) (.all .here .nil)),⟨_,rfl,⟨v13,w2,rfl,rfl,O3⟩⟩⟩
 ·refine Ze ?_
  revert h; refine Zt fun h=>?_
  subst h
  exact ⟨_,_,.nil,(.o (.all .here .nil)),⟨_,rfl,⟨v0,M1,rfl,rfl,O1⟩⟩⟩
def Z8r (p0:Zbt) (p1:LI):Option (Zbt) :=
 opt (Zb9 p0 p1) fun y1 =>
 some y1
theorem Zdc {W:World} {r:Zbt} {p0:Zbt} {p1:LI} {v0:Value} {M1:List Zf} {v1:Value} {b:Nat} {T:TypeId} (h:Z8r p0 p1=some r) (h0:Sat W (b::M1.map (·.b)) (ck b T [.one (v0),.one (.int .i64 (p0.gE))]::(M1 ++ [])) W) (O1:Z0q (El.int .u8) v0 M1 p0.gB) (A1:RdSl (El.int .u8) W v1 p1/\Za9 v1 p1 (b::M1.map (·.b))) :
    Calls Tryz.prog 79 [.pointer (some ⟨b,0,none⟩),v1].toArray W (Zde W (b::M1.map (·.b)) (fun v Ms=>∃ (uw:Value) (Mw:List Zf),v = .tuple #[]/\Ms = [.one (ck b T [.one (uw),.one (.int .i64 (r.gE))]),.all Mw]/\Z0q (El.int .u8) uw Mw r.gB)):=by
 unfold Z8r at h
 refine Z07 mo ok79 rfl h0 ?_
 refine oH h fun y1 f1 h=>Z2<|Z7 rfl<|Z7 rfl<|Zg (Z4f (mS:=_::M1) rfl (Zcy .here .here) (fun w hw=>Zfo  f1 (Z9c hw (Zcy .here .here)) O1 ⟨(Z0p A1.1 A1.2) w hw,(Zjl (Zmz (E:=(El.int .u8)) A1.1 A1.2 .here hw) (Zn0 (E:=(El.int .u8)) A1.1 A1.2 .t1 hw))⟩) fun v3 o1 R1=>?_)
 obtain ⟨v5,w1,rfl,rfl,O2⟩:=R1
 refine Z1 ?_
 revert h; refine Zt fun h=>?_
 subst h
 exact ⟨_,_,.nil,(.o (.all .here .nil)),⟨_,rfl,⟨v5,w1,rfl,rfl,O2⟩⟩⟩
def Zow (p0:Int):OL :=
 br (((decide (p0<1))||(decide (p0>255)))) (
 some []
 ) (
 bnd (wrap .u8 p0) fun z1 =>
 some ([70,66,1,z1]:LI)
 )
theorem Zqj {W:World} {r:(LI)} {p0:Int} (h:Zow p0=some r)  :
    Calls Tryz.prog 80 [.int .i64 (p0)].toArray W (Zde W [] (fun v Ms=>∃ (u0:Value) (M1:List Zf),v=u0/\Ms = [.all M1]/\Z0q (El.int .u8) u0 M1 r)):=by
 unfold Zow at h
 refine Z07 mo ok80 rfl (Zie _) ?_
 refine Z0<|Z2<|Z7 rfl<|Z1<|Z0<|Z0<|Z2<|Z7 rfl<|Z6 _ (Z9 rfl rfl rfl)<|Z7 rfl<|Z9j rfl rfl rfl (fun hg1=>Z2j rfl _ (Z0e rfl) (Z2j rfl _ (Z9 rfl rfl rfl) (Z3j))) (fun hg1=>rfl) rfl<|Z1<|Z03 h rfl (fun h=>?_) (fun h=>?_)
 ·refine Z0<|Z2<|Z7 rfl<|Z1<|Zh ?_
  revert h; refine Zt fun h=>?_
  subst h
  exact ⟨_,_,(.cons (.tmp rfl) .nil),(.no .nil),⟨_,rfl,⟨(.slice none 0 0),[],rfl,rfl,Z3l⟩⟩⟩
 ·refine Ze<|Z0<|bH h fun z1 e1 h=>Z2<|Z7 rfl<|Z6 _ (iz e1 (Z4k rfl))<|Zg (Z5j (E:=(El.int .u8)) (xs:=[70,66,1,z1]) (.one rfl rfl rfl (.one rfl rfl rfl (.one rfl rfl rfl (.one rfl rfl rfl BdR.nil)))) (.cons (p:=[.one (.int .u8 (70))]) rfl (.cons (p:=[.one (.int .u8 (66))]) rfl (.cons (p:=[.one (.int .u8 (1))]) rfl (.cons (p:=[.one (.int .u8 (z1))]) rfl .nil)))) rfl fun v7 w1 O1=>Z7 rfl<|Z1<|Zh ?_)
  revert h; refine Zt fun h=>?_
  subst h
  exact ⟨_,_,(.cons (.tmp rfl) .nil),(.all .here .nil),⟨_,rfl,⟨v7,w1,rfl,rfl,O1⟩⟩⟩
def Zqk (p0:Int):OL :=
 bnd (wrap .u32 (Int.tdiv p0 16777216)) fun z1 =>
 bnd (wrap .u8 z1) fun z2 =>
 bnd (wrap .u32 (Int.tdiv p0 65536)) fun z3 =>
 bnd (wrap .u8 z3) fun z4 =>
 bnd (wrap .u32 (Int.tdiv p0 256)) fun z5 =>
 bnd (wrap .u8 z5) fun z6 =>
 bnd (wrap .u8 p0) fun z7 =>
 some ([z2,z4,z6,z7]:LI)
theorem Zsi {W:World} {r:(LI)} {p0:Int} (h:Zqk p0=some r)  :
    Calls Tryz.prog 150 [.int .u32 (p0)].toArray W (Zde W [] (fun v Ms=>∃ (u0:Value) (M1:List Zf),v=u0/\Ms = [.all M1]/\Z0q (El.int .u8) u0 M1 r)):=by
 unfold Zqk at h
 refine Z07 mo Z0n7 rfl (Zie _) ?_
 refine Z0<|Z2<|Z7 rfl<|Z1<|Z0<|bH h fun z1 e1 h=>bH h fun z2 e2 h=>bH h fun z3 e3 h=>bH h fun z4 e4 h=>bH h fun z5 e5 h=>bH h fun z6 e6 h=>bH h fun z7 e7 h=>Z2<|Z7 rfl<|Z6 _ (iz e1 (Zbu rfl rfl (by decide)))<|Z6 _ (iz e2 (Z4k rfl))<|Z7 rfl<|Z6 _ (iz e3 (Zbu rfl rfl (by decide)))<|Z6 _ (iz e4 (Z4k rfl))<|Z7 rfl<|Z6 _ (iz e5 (Zbu rfl rfl (by decide)))<|Z6 _ (iz e6 (Z4k rfl))<|Z7 rfl<|Z6 _ (iz e7 (Z4k rfl))<|Zg (Z5j (E:=(El.int .u8)) (xs:=[z2,z4,z6,z7]) (.one rfl rfl rfl (.one rfl rfl rfl (.one rfl rfl rfl (.one rfl rfl rfl BdR.nil)))) (.cons (p:=[.one (.int .u8 (z2))]) rfl (.cons (p:=[.one (.int .u8 (z4))]) rfl (.cons (p:=[.one (.int .u8 (z6))]) rfl (.cons (p:=[.one (.int .u8 (z7))]) rfl .nil)))) rfl fun v10 w1 O1=>Z7 rfl<|Z1<|Zh ?_)
 revert h; refine Zt fun h=>?_
 subst h
 exact ⟨_,_,(.cons (.tmp rfl) .nil),(.all .here .nil),⟨_,rfl,⟨v10,w1,rfl,rfl,O1⟩⟩⟩
def Zgc (p0:Zbt) (p1:Int):Option (Zbt) :=
 opt (Zqk p1) fun y1 =>
 opt (Zb9 p0 y1) fun y2 =>
 some y2
theorem Zlv {W:World} {r:Zbt} {p0:Zbt} {p1:Int} {v0:Value} {M1:List Zf} {b:Nat} {T:TypeId} (h:Zgc p0 p1=some r) (h0:Sat W (b::M1.map (·.b)) (ck b T [.one (v0),.one (.int .i64 (p0.gE))]::(M1 ++ [])) W) (O1:Z0q (El.int .u8) v0 M1 p0.gB) :
    Calls Tryz.prog 81 [.pointer (some ⟨b,0,none⟩),.int .u32 (p1)].toArray W (Zde W (b::M1.map (·.b)) (fun v Ms=>∃ (uw:Value) (Mw:List Zf),v = .tuple #[]/\Ms = [.one (ck b T [.one (uw),.one (.int .i64 (r.gE))]),.all Mw]/\Z0q (El.int .u8) uw Mw r.gB)):=by
 unfold Zgc at h
 refine Z07 mo ok81 rfl h0 ?_
 refine oH h fun y1 f1 h=>oH h fun y2 f2 h=>Z2<|Z7 rfl<|Z7 rfl<|Zg (Z0g rfl (fun w hw=>Zsi  f1 ) fun v3 o1 R1=>?_)
 obtain ⟨_,w1,rfl,rfl,O2⟩:=R1
 refine Zg (Z4f (mS:=_::M1) rfl (Zcy (.app .here) (.app .here)) (fun w hw=>Zfo  f2 (Z9c hw (Zcy (.app .here) (.app .here))) O1 ⟨(Z05 O2 .here) w hw,(Zjl (Zes (E:=(El.int .u8)) O2 .here .here hw) (Zil (E:=(El.int .u8)) O2 .here .t1 hw))⟩) fun v9 o2 R2=>?_)
 obtain ⟨v11,w2,rfl,rfl,O3⟩:=R2
 refine Z1 ?_
 revert h; refine Zt fun h=>?_
 subst h
 exact ⟨_,_,.nil,(.o (.all .here .nil)),⟨_,rfl,⟨v11,w2,rfl,rfl,O3⟩⟩⟩
def Z6e (p0:api_Link):OL :=
 br (((decide (p0.gEpoch<1))||(decide (p0.gEpoch>64)))) (
 some []
 ) (
 opt (Zow 11) fun y1 =>
 opt (Z8r (⟨[],0⟩:Zbt) y1) fun y2 =>
 bnd (wrap .u32 p0.gEpoch) fun z1 =>
 opt (Zgc y2 z1) fun y3 =>
 opt (Z8r y3 (tk p0.gKey 0 32)) fun y4 =>
 some y4.gB
 )
theorem Zew {W:World} {r:(LI)} {p0:api_Link} (h:Z6e p0=some r)  :
    Calls Tryz.prog 31 [agg [.one (.int .i64 (p0.gEpoch)),b3' p0.gKey,b6' p0.gSig]].toArray W (Zde W [] (fun v Ms=>∃ (u0:Value) (M1:List Zf),v=u0/\Ms = [.all M1]/\Z0q (El.int .u8) u0 M1 r)):=by
 unfold Z6e at h
 refine Z07 mo ok31 rfl (Zie _) ?_
 refine Z0<|Z2<|Zg (Z0j (s:=[.one (.int .i64 (p0.gEpoch)),b3' p0.gKey,b6' p0.gSig]) rfl fun b1 hb1=>Z7 rfl<|Z1<|Z0<|Z0<|Z2<|Z6 _ (Z4e rfl)<|Z6 _ (Z23 rfl .here rfl)<|Z6 _ (Z9 rfl rfl rfl)<|Z7 rfl<|Z9j rfl rfl rfl (fun hg1=>Z2j rfl _ (Z4e rfl) (Z2j rfl _ (Z23 rfl .here rfl) (Z2j rfl _ (Z9 rfl rfl rfl) (Z3j)))) (fun hg1=>rfl) rfl<|Z1<|Z03 h rfl (fun h=>?_) (fun h=>?_))
 ·refine Z0<|Z2<|Z7 rfl<|Z1<|Zh ?_
  revert h; refine Zt fun h=>?_
  subst h
  exact ⟨_,_,(.cons (.tmp rfl) .nil),(.no .nil),⟨_,rfl,⟨(.slice none 0 0),[],rfl,rfl,Z3l⟩⟩⟩
 ·refine Ze<|Z0<|Z2<|Zg (Zw fun b2 hb2=>Z1<|Z0<|oH h fun y1 f1 h=>oH h fun y2 f2 h=>Z2<|Zg (Z0g rfl (fun w hw=>Zqj  f1 ) fun v10 o1 R1=>?_))
  obtain ⟨_,w1,rfl,rfl,O1⟩:=R1
  refine Zg (Z4f (mS:=_ :: []) rfl (Z0eh (.app .here)) (fun w hw=>Zdc (p0:=(⟨[],0⟩:Zbt)) f2 (Z9c hw (Z0eh (.app .here))) Z3l ⟨(Z05 O1 .here) w hw,(Zjl (Zes (E:=(El.int .u8)) O1 .here .here hw) Zro)⟩) fun v16 o2 R2=>?_)
  obtain ⟨v18,w2,rfl,rfl,O2⟩:=R2
  refine Z1<|Z0<|bH h fun z1 e1 h=>oH h fun y3 f3 h=>Z2<|Z6 _ (Z4e rfl)<|Z6 _ (Z23 rfl (.there (.app (.app .here))) rfl)<|Z6 _ (iz e1 (Z4k rfl))<|Zg (Z4f (mS:=_::w2) rfl (Zcy .here .here) (fun w hw=>Zlv  f3 (Z9c hw (Zcy .here .here)) O2) fun v24 o3 R3=>?_)
  obtain ⟨v26,w3,rfl,rfl,O3⟩:=R3
  refine Z1<|Z0<|oH h fun y4 f4 h=>Z2<|Z6 _ (Z4e rfl)<|Z6 _ (Ze0 rfl .no .no .no (by simp) (by decide))<|Zg (Z4f (mS:=_::w3) rfl (Zcy .here .here) (fun w hw=>Zdc  f4 (Z9c hw (Zcy .here .here)) O3 ⟨(Z3p (s:=[.one (.int .i64 (p0.gEpoch)),b3' p0.gKey,b6' p0.gSig]) (N:=32) (k:=.u8) (base:=1) (lo:=0) (hi:=32) (mz:=32) (.there (.app (.app .here))) rfl (by decide)) w hw,(Zjl (Zn1 (.there (.app (.app .here))) .here hw Zat) (Zn2 (.there (.app (.app .here))) .t1 hw Zat))⟩) fun v31 o4 R4=>?_)
  obtain ⟨v33,w4,rfl,rfl,O4⟩:=R4
  refine Z1<|Z0<|Z2<|Z6 _ (Z4e rfl)<|Z6 _ (Z23 rfl .here rfl)<|Z7 rfl<|Z1<|Zh ?_
  revert h; refine Zt fun h=>?_
  subst h
  exact ⟨_,_,(.cons (.tmp rfl) .nil),(.all .t1 .nil),⟨_,rfl,⟨v33,w4,rfl,rfl,O4⟩⟩⟩
def Z2o (p0:LI) (p1:LI) (k1:Unit->Option Bool) (k2:Int->Option Bool) (i1:Int):Option Bool :=
 br ((decide (i1<(p0.length:Int)))) (
 chk (inB i1 p0.length) <|
 chk (inB i1 p1.length) <|
 bnd (p0.getD (i1).toNat 0) fun z1 =>
 bnd (p1.getD (i1).toNat 0) fun z2 =>
 br ((z1 != z2)) (
 some false
 ) (
 bnd (wrap .i64 (i1+1)) fun z3 =>
 k2 z3
 )
 ) (
 k1 ()
 )
def Z2p (p0:LI) (p1:LI) (k1:Unit->Option Bool):Nat->Int->Option Bool
  | 0,_=>none
  | n+1,i1=>Z2o p0 p1 k1 (Z2p p0 p1 k1 n) i1
def Z1z (p0:LI) (p1:LI):Option Bool :=
 br (((p0.length:Int) != (p1.length:Int))) (
 some false
 ) (
 jn (fun (_:Unit)=>some true) fun k1=>Z2p p0 p1 k1 big 0
 )
theorem Z6n {W:World} {r:Bool} {p0:LI} {p1:LI} {v0:Value} {v1:Value} (h:Z1z p0 p1=some r) (A0:RdSl (El.int .u8) W v0 p0) (A1:RdSl (El.int .u8) W v1 p1) :
    Calls Tryz.prog 30 [v0,v1].toArray W (Z39 W (.bool (r))):=by
 unfold Z1z at h
 refine Zc mo ok30 rfl ?_
 refine Z0<|Z2<|Z7 rfl<|Z1<|Z0<|Z0<|Z2<|Z7 rfl<|Z6 _ (Z1f rfl (Shp.rd A0))<|Z7 rfl<|Z6 _ (Z1f rfl (Shp.rd A1))<|Z6 _ (Z9 rfl rfl rfl)<|Z1<|Z03 h rfl (fun h=>?_) (fun h=>?_)
 ·refine Z0<|Z2<|Z7 rfl<|Z1<|Zh ?_
  revert h; refine Zt fun h=>?_
  subst h
  exact ⟨_,(.cons (.tmp rfl) .nil),rfl⟩
 ·refine Ze<|Z0<|Z0<|Z2<|Z7 rfl<|Z1<|jH h fun k1 q1 h=>Zn (G:=fun t m=>k1 ()=some r/\Fit [] [] t m) ?_ ?_
  ·refine Za<|Zr (fun n1 t m=>∃ (i1:Int),Z2p p0 p1 k1 n1 i1=some r/\Fit [(0,v0),(1,v1),(5,.int .i64 (i1))] [] t m) big ?_ ?_
   ·exact ⟨0,h,⟨⟨rfl,rfl,rfl,trivial⟩,.nil⟩⟩
   ·rintro n1 t m ⟨i1,h,hF⟩
    refine Zk hF ?_
    clear hF
    rcases n1 with _ | n1
    · exact Z0c h
    have h:Z2o p0 p1 k1 (Z2p p0 p1 k1 n1) i1=some r:=h
    unfold Z2o at h
    obtain ⟨k2,q2⟩ : ∃ k,k=Z2p p0 p1 k1 n1:=⟨_,rfl⟩
    try rw [<- q2] at h
    refine Z0<|Z0<|Z2<|Z7 rfl<|Z7 rfl<|Z6 _ (Z1f rfl (Shp.rd A0))<|Z6 _ (Z9 rfl rfl rfl)<|Z1<|Z03 h rfl (fun h=>?_) (fun h=>?_)
    ·refine Ze<|Z0<|Za<|Z0<|cH h fun c1 h=>cH h fun c2 h=>bH h fun z1 e1 h=>bH h fun z2 e2 h=>Zs<|Z8 _ (Z0e rfl)<|Z8 _ (Z0e rfl)<|Z8 _ (Z2u rfl rfl (Shp.rd A0) c1)<|Z8 _ (Z0e rfl)<|Z8 _ (Z0e rfl)<|Z8 _ (Z2u rfl rfl (Shp.rd A1) c2)<|Zo _ (iz e1 (Z3y (E:=(El.int .u8)) (s:=[.one (.int .u8 (p0.getD (i1).toNat 0))]) rfl (Z0p A0 Z0w) (Z04 c1) rfl rfl))<|Zo _ (iz e2 (Z3y (E:=(El.int .u8)) (s:=[.one (.int .u8 (p1.getD (i1).toNat 0))]) rfl (Z0p A1 Z0w) (Z04 c2) rfl rfl))<|Z8 _ (Z9 rfl rfl rfl)<|Z01<|Z03 h rfl (fun h=>?_) (fun h=>?_)
     ·refine Z0<|Z2<|Z7 rfl<|Z1<|Zh ?_
      revert h; refine Zt fun h=>?_
      subst h
      exact ⟨_,(.cons (.tmp rfl) .nil),rfl⟩
     ·refine Ze<|bH h fun z3 e3 h=>Z2<|Z7 rfl<|Z6 _ (iz e3 (Z9 rfl rfl rfl))<|Z7 rfl<|Z1 ?_
      rw [q2] at h
      exact ⟨n1,Nat.lt_succ_self _,z3,h,⟨⟨rfl,rfl,rfl,trivial⟩,.nil⟩⟩
    ·exact Zz _ rfl<|⟨h,⟨trivial,.nil⟩⟩
  ·rintro t m ⟨h,hF⟩
   refine Zk hF ?_
   clear hF
   subst q1
   refine Z0<|Z2<|Z7 rfl<|Z1<|Zh ?_
   revert h; refine Zt fun h=>?_
   subst h
   exact ⟨_,(.cons (.tmp rfl) .nil),rfl⟩
end Go.Proofs.YtiflckckekjbnaaGreatDoor
namespace Go.Proofs.YtiflckckekjbnaaGreatDoor
open Go Go.Sx Go.RowKit
open List (replicate)
set_option linter.all false
set_option maxHeartbeats 400000
set_option maxRecDepth 100000
abbrev E_api_Link:El (api_Link):=⟨97,fun x=>cells [.one (.int .i64 (x.gEpoch)),b3' x.gKey,b6' x.gSig],fun x=>by rw [cells_length]; rfl,fun x=>(Z36 (Z01k rfl) (Z36 Z70 (Z36 Z70 Z82))),by decide,api_Link_z⟩
def Z4o (p0:List (api_Link)):Option (((List (api_Link))×Int)) :=
 chk (decide ((([]:List (api_Link)).length+p0.length)*104<=140737488355328)) <|
 bnd (([]:List (api_Link))++p0) fun l1 =>
 chk (decide ((l1.length+([(⟨(-7),(replicate 32 0),(replicate 64 0)⟩:api_Link),(⟨(-8),(replicate 32 0),(replicate 64 0)⟩:api_Link)]:List (api_Link)).length)*104<=140737488355328)) <|
 bnd (l1++([(⟨(-7),(replicate 32 0),(replicate 64 0)⟩:api_Link),(⟨(-8),(replicate 32 0),(replicate 64 0)⟩:api_Link)]:List (api_Link))) fun l2 =>
 chk (Z9i 0 (p0.length:Int) l2.length) <|
 some (l2,(p0.length:Int))
theorem Zcr {W:World} {r:((List (api_Link))×Int)} {p0:List (api_Link)} {v0:Value} (h:Z4o p0=some r) (A0:RdSl E_api_Link W v0 p0) :
    Calls Tryz.prog 33 [v0].toArray W (Zde W [] (fun v Ms=>∃ (u0:Value) (M1:List Zf),v=(Z4w 97 u0 0 (r.2).toNat)/\Ms = [.all M1]/\Z0q E_api_Link u0 M1 r.1/\Z9i 0 r.2 (r.1).length=true)):=by
 unfold Z4o at h
 refine Z07 mo ok33 rfl (Zie _) ?_
 refine Z0<|Z2<|Z7 rfl<|Z1<|Z0<|Z2<|Z7 rfl<|Z1<|Z0<|cH h fun c1 h=>bH h fun l1 g1 h=>Z2<|Z7 rfl<|Z7 rfl<|Zg (Z32 (E:=E_api_Link) g1 rfl Z3l .here rfl (Z0p A0 Z0w) c1 fun v6 w1 O1=>Z7 rfl<|Z1<|Z0<|cH h fun c2 h=>bH h fun l2 g2 h=>Z2<|Z7 rfl<|Z6 _ (Zcj (q:=[.one (.int .i64 ((-7))),b3' (replicate 32 0),b6' (replicate 64 0)]) (.one rfl rfl rfl BdR.nil))<|Z6 _ (Zcj (q:=[.one (.int .i64 ((-8))),b3' (replicate 32 0),b6' (replicate 64 0)]) (.one rfl rfl rfl BdR.nil))<|Zg (Z5j (E:=E_api_Link) (xs:=[(⟨(-7),(replicate 32 0),(replicate 64 0)⟩:api_Link),(⟨(-8),(replicate 32 0),(replicate 64 0)⟩:api_Link)]) (.agg rfl rfl rfl (.agg rfl rfl rfl BdR.nil)) (.cons (p:=[.one (.int .i64 ((-7))),b3' (replicate 32 0),b6' (replicate 64 0)]) rfl (.cons (p:=[.one (.int .i64 ((-8))),b3' (replicate 32 0),b6' (replicate 64 0)]) rfl .nil)) rfl fun v10 w2 O2=>Zg (Z32 (E:=E_api_Link) g2 rfl O1 (.app .here) rfl (Z05 O2 .here) c2 fun v15 w3 O3=>Z7 rfl<|Z1<|Z0<|cH h fun c3 h=>Z2<|Z7 rfl<|Z7 rfl<|Z6 _ (Z1f rfl (Shp.rd A0))<|Z6 _ (Znh (lz:=0) (hz:=(p0.length:Int)) rfl (Shp.own O3) .no (.yes rfl) c3)<|Z7 rfl<|Z1<|Zh ?_)))
 revert h; refine Zt fun h=>?_
 subst h
 exact ⟨_,_,(.cons (.tmp rfl) .nil),(.all .here .nil),⟨_,rfl,⟨v15,w3,rfl,rfl,O3,c3⟩⟩⟩
abbrev Zm:El (LI):=⟨32,fun x=>cells [b3' x],fun x=>by rw [cells_length]; rfl,fun x=>(Z36 Z70 Z82),by decide,(replicate 32 0)⟩
def Z0s (p0:List (LI)) (p1:LI) (k1:Unit->Option Int) (k2:Int->Option Int) (i1:Int):Option Int :=
 br ((decide (i1<(p0.length:Int)))) (
 chk (inB i1 p0.length) <|
 bnd (p0.getD (i1).toNat (replicate 32 0)) fun x1 =>
 br ((ieq 32 p1 x1)) (
 some i1
 ) (
 bnd (IntKind.wrap .i64 (i1+1)) fun z1 =>
 k2 z1
 )
 ) (
 k1 ()
 )
def Z06 (p0:List (LI)) (p1:LI) (k1:Unit->Option Int):Nat->Int->Option Int
  | 0,_=>none
  | n+1,i1=>Z0s p0 p1 k1 (Z06 p0 p1 k1 n) i1
def Z31 (p0:List (LI)) (p1:LI):Option Int :=
 jn (fun (_:Unit)=>some (-1)) fun k1=>Z06 p0 p1 k1 big 0
theorem Z9e {W:World} {r:Int} {p0:List (LI)} {p1:LI} {v0:Value} (h:Z31 p0 p1=some r) (A0:RdSl Zm W v0 p0) :
    Calls Tryz.prog 152 [v0,agg [b3' p1]].toArray W (Z39 W (.int .i64 (r))):=by
 unfold Z31 at h
 refine Zc mo Z0n9 rfl ?_
 refine Z0<|Z2<|Zg (Z0j (s:=[b3' p1]) rfl fun b1 u1=>Z7 rfl<|Z1<|Z0<|Z0<|Z2<|Z7 rfl<|Z6 _ (Z1f rfl (Shp.rd A0))<|Z7 rfl<|Z1<|jH h fun k1 q1 h=>Zn (G:=fun t m=>k1 ()=some r/\Fit [] (ck b1 29 [b3' p1] :: []) t m) ?_ ?_)
 ·refine Za<|Zr (fun n1 t m=>∃ (i1:Int),Z06 p0 p1 k1 n1 i1=some r/\Fit [(0,v0),(3,pt' b1),(7,.int .i64 ((p0.length:Int))),(8,.int .i64 (i1))] (ck b1 29 [b3' p1] :: []) t m) big ?_ ?_
  ·exact ⟨0,h,⟨⟨rfl,rfl,rfl,rfl,trivial⟩,(.o .nil)⟩⟩
  ·rintro n1 t m ⟨i1,h,hF⟩
   refine Zk hF ?_
   clear hF
   rcases n1 with _ | n1
   · exact Z0c h
   have h:Z0s p0 p1 k1 (Z06 p0 p1 k1 n1) i1=some r:=h
   unfold Z0s at h
   obtain ⟨k2,q2⟩ : ∃ k,k=Z06 p0 p1 k1 n1:=⟨_,rfl⟩
   try rw [<- q2] at h
   refine Z0<|Z2<|Z6 _ (Z9 rfl rfl rfl)<|Z1<|Z0<|Z03 h rfl (fun h=>?_) (fun h=>?_)
   ·refine Ze<|Z0<|Za<|Z0<|Z2<|Z7 rfl<|Z7 rfl<|Z1<|Z0<|cH h fun c1 h=>bH h fun x1 j1 h=>Zs<|Z8 _ (Z0e rfl)<|Z8 _ (Z0e rfl)<|Z8 _ (Z2u rfl rfl (Shp.rd A0) c1)<|Zo _ (Zy (p:=[b3' p1]) rfl .here rfl)<|Zo _ (az (fun (x1:LI)=>agg [b3' x1]) j1 (Zeg (E:=Zm) (s:=[b3' (p0.getD (i1).toNat (replicate 32 0))]) rfl (Z0p A0 Z0w) (Z04 c1) rfl rfl))<|Z8 _ (Zi6 rfl rfl rfl rfl _ (Z6q Z63))<|Z01<|Z03 h rfl (fun h=>?_) (fun h=>?_)
    ·refine Z0<|Z2<|Z7 rfl<|Z7 rfl<|Z1<|Zh ?_
     revert h; refine Zt fun h=>?_
     subst h
     exact ⟨_,(.cons (.tmp rfl) .nil),rfl⟩
    ·refine Ze<|bH h fun z1 e1 h=>Z2<|Z6 _ (iz e1 (Z9 rfl rfl rfl))<|Z7 rfl<|Z1 ?_
     rw [q2] at h
     exact ⟨n1,Nat.lt_succ_self _,z1,h,⟨⟨rfl,rfl,rfl,rfl,trivial⟩,(.o .nil)⟩⟩
   ·exact Zz _ rfl<|⟨h,⟨trivial,(.o .nil)⟩⟩
 ·rintro t m ⟨h,hF⟩
  refine Zk hF ?_
  clear hF
  subst q1
  refine Z0<|Z2<|Z7 rfl<|Z1<|Zh ?_
  revert h; refine Zt fun h=>?_
  subst h
  exact ⟨_,(.cons (.tmp rfl) .nil),rfl⟩
end Go.Proofs.YtiflckckekjbnaaGreatDoor
namespace Go.Proofs.YtiflckckekjbnaaGreatDoor
open Go Go.Sx Go.RowKit
open List (replicate)
open Go.IntKind (wrap)
set_option linter.all false
set_option maxHeartbeats 400000
set_option maxRecDepth 100000
def Z19 (p0:List (LI)) (p1:LI):Option Bool :=
 opt (Z31 p0 p1) fun y1 =>
 some (decide (y1≥0))
theorem Z81 {W:World} {r:Bool} {p0:List (LI)} {p1:LI} {v0:Value} (h:Z19 p0 p1=some r) (A0:RdSl Zm W v0 p0) :
    Calls Tryz.prog 83 [v0,agg [b3' p1]].toArray W (Z39 W (.bool (r))):=by
 unfold Z19 at h
 refine Zc mo ok83 rfl ?_
 refine Z0<|Z2<|Zg (Z0j (s:=[b3' p1]) rfl fun b1 u1=>Z7 rfl<|Z1<|Z0<|oH h fun y1 f1 h=>Z2<|Z7 rfl<|Z6 _ (Zy (p:=[b3' p1]) rfl .here rfl)<|Z6 _ (Z0f rfl (fun w hw=>Z9e f1 ((Z0p A0 Z0w) w hw)))<|Z6 _ (Z9 rfl rfl rfl)<|Z7 rfl<|Z1<|Zh ?_)
 revert h; refine Zt fun h=>?_
 subst h
 exact ⟨_,(.cons (.tmp rfl) .nil),rfl⟩
def Z47 (p1:List (api_Link)) (k1:Int->(LI)->(List (LI))->Option ((List (LI))×Int)) (i1:Int) (a1:LI) (l1:List (LI)):Option ((List (LI))×Int) :=
 br ((decide (i1<(p1.length:Int)))) (
 chk (inB i1 p1.length) <|
 bnd (p1.getD (i1).toNat api_Link_z) fun x1 =>
 chk (imp (!(x1.gEpoch != (l1.length:Int))) ((Z19 l1 x1.gKey).isSome)) <|
 br (((x1.gEpoch != (l1.length:Int))||((Z19 l1 x1.gKey).getD false))) (
 some ([],171)
 ) (
 opt (Zdf x1) fun y1 =>
 opt (Z4a a1 y1.2 x1.gSig) fun y2 =>
 br ((!y2)) (
 some ([],110)
 ) (
 chk (decide ((l1.length+([x1.gKey]:List (LI)).length)*32<=140737488355328)) <|
 bnd (l1++([x1.gKey]:List (LI))) fun l2 =>
 bnd (wrap .i64 (i1+1)) fun z1 =>
 k1 z1 x1.gKey l2
 )
 )
 ) (
 some (l1,0)
 )
def Z48 (p1:List (api_Link)):Nat->Int->(LI)->(List (LI))->Option ((List (LI))×Int)
  | 0,_,_,_=>none
  | n+1,i1,a1,l1=>Z47 p1 (Z48 p1 n) i1 a1 l1
def Z58 (p0:LI) (p1:List (api_Link)):Option ((List (LI))×Int) :=
 br ((decide ((p1.length:Int)>64))) (
 some ([],1)
 ) (
 Z48 p1 big 0 p0 ([p0]:List (LI))
 )
theorem Z6u {W:World} {r:(List (LI))×Int} {p0:LI} {p1:List (api_Link)} {v1:Value} (h:Z58 p0 p1=some r) (hG:Globs W) (A1:RdSl E_api_Link W v1 p1) :
    Calls Tryz.prog 34 [agg [b3' p0],v1].toArray W (Zde W [] (fun v Ms=>∃ (u0:Value) (M1:List Zf),v = .tuple #[u0,.int .i64 (r.2)]/\Ms = [.all M1]/\Z0q Zm u0 M1 r.1)):=by
 unfold Z58 at h
 refine Zrs mo ok34 rfl (Zie _) ?_
 refine Zt0<|Z2<|Zg (Z0j (s:=[b3' p0]) rfl fun b1 hb1=>Zg (Zw fun b2 hb2=>Zg (Zw fun b3 hb3=>Z1<|Zt0<|Z0<|Z2<|Z7 rfl<|Z6 _ (Z1f rfl (Shp.rd A1))<|Z6 _ (Z9 rfl rfl rfl)<|Z1<|Z03 h rfl (fun h=>?_) (fun h=>?_))))
 ·refine Z0<|Z2<|Zg (Zb0 (q:=[.one (.slice none 0 0)]) rfl rfl rfl rfl .t1<|Zg (Zb0 (q:=[.one (.int .i64 (1))]) rfl rfl rfl rfl .here<|Z1<|Zh<|Z026 ?_))
  revert h; refine Zt fun h=>?_
  subst h
  exact ⟨_,_,(.cons (.one rfl .t1 rfl) (.cons (.one rfl .here rfl) .nil)),(.no .nil),⟨_,rfl,⟨(.slice none 0 0),[],rfl,rfl,Z3l⟩⟩⟩
 ·refine Ze<|Zt0<|Z2<|Z6 _ (Zy (p:=[b3' p0]) rfl .t2 rfl)<|Zg (Z5j (E:=Zm) (xs:=[p0]) (.agg rfl rfl rfl BdR.nil) (.cons (p:=[b3' p0]) rfl .nil) rfl fun v9 w1 O1=>Zg (Zw fun b4 hb4=>Zg (Zb0 (q:=[.one (v9)]) rfl rfl (Zmh.one1 (Z0q.isSl O1)) rfl .here<|Z1<|Z07v (dg:=d151) Z0n8 rfl (by kernel_rfl)<|Z2<|Z6 _ (Zy (p:=[b3' p0]) rfl (.there (.app .t2)) rfl)<|Z7 rfl<|Zg (Z0g rfl (fun w hw=>Zib (p0:=p0) (Shp.isSl (Shp.rd A1))) fun v14 o1 R1=>?_))))
  obtain ⟨b5,U17,bb18,UU19,rfl,rfl⟩:=R1
  refine Z1<|⟨[pt' b5,.pointer (some ⟨bb18,0,none⟩)],rfl,rfl,fun L20 D21 R2 hp23 ha24 hb5 hr26=>Z0 (Z2 (Z6 _ (Zy (p:=[b3' p0]) rfl .t2 rfl) (Zg (Zw fun b6 hb6=>Zg (Zu (q:=[b3' p0]) rfl rfl rfl rfl rfl .here (Z1 (Z0 (Z2 (Z6 _ (Z23 rfl .t4 rfl) (Z6 _ (Z1f rfl (Shp.rd A1)) (Z7 rfl (Z1 (Za (Zr (fun n1 t m=>∃ (i1:Int) (a1:LI) (l1:List (LI)) (v115:Value) (w2:List Zf),Z48 p1 n1 i1 a1 l1=some r/\Z0q Zm v115 w2 l1/\Fit [(0,.func (.yield L20) #[] #[]),(4,pt' b6),(8,v1),(9,.int .i64 ((p1.length:Int))),(10,.int .i64 (i1))] (ck b6 29 [b3' a1]::(lpc L20 (ra R2 .ready none)::(dfc D21::(ck b5 U17 [b3' p0]::(ck bb18 UU19 [.one (v1)]::(ck b4 40 [.one (v115)]::(ck b3 35 [.one (.int .i64 (0))]::(ck b2 40 [.one (.slice none 0 0)]::(ck b1 29 [b3' p0]::(w2 ++ [])))))))))) t m) big ?_ ?_))))))))))))))⟩
  ·exact ⟨0,p0,([p0]:List (LI)),v9,w1,h,O1,⟨⟨rfl,rfl,rfl,rfl,rfl,trivial⟩,(.o (.o (.o (.o (.o (.o (.one (.app .here) (.one (.app .here) (.one (.app .here) (.all .here .nil))))))))))⟩⟩
  ·rintro n1 t m ⟨i1,a1,l1,v115,w2,h,O2,hF⟩
   refine Zk hF ?_
   clear hF
   rcases n1 with _ | n1
   · exact Z0c h
   have h:Z47 p1 (Z48 p1 n1) i1 a1 l1=some r:=h
   unfold Z47 at h
   obtain ⟨k1,q1⟩ : ∃ k,k=Z48 p1 n1:=⟨_,rfl⟩
   try rw [<- q1] at h
   refine Z0<|Z2<|Z6 _ (Z9 rfl rfl rfl)<|Z1<|Z0<|Z03 h rfl (fun h=>?_) (fun h=>?_)
   ·refine Ze<|Z0<|Za<|Z0<|cH h fun c1 h=>bH h fun x1 j1 h=>Z2<|Z6 _ (Z2u rfl rfl (Shp.rd A1) c1)<|Z6 _ (az (fun (x1:api_Link)=>agg [.one (.int .i64 (x1.gEpoch)),b3' x1.gKey,b6' x1.gSig]) j1 (Zeg (E:=E_api_Link) (s:=[.one (.int .i64 (((p1.getD (i1).toNat api_Link_z)).gEpoch)),b3' (((p1.getD (i1).toNat api_Link_z)).gKey),b6' (((p1.getD (i1).toNat api_Link_z)).gSig)]) rfl (Z0p A1 Z0w) (Z04 c1) rfl rfl))<|Zg (Zw fun b7 hb7=>Zg (Zu (q:=[.one (.int .i64 (x1.gEpoch)),b3' x1.gKey,b6' x1.gSig]) rfl rfl rfl rfl rfl .here<|Z1<|Z0<|Z0<|Z2<|Z7 rfl<|Z6 _ (Zy (p:=[b3' a1]) rfl .t1 rfl)<|Z6 _ (Zy (p:=[.one (.int .i64 (x1.gEpoch)),b3' x1.gKey,b6' x1.gSig]) rfl .here rfl)<|Z02z rfl rfl .t2 (by rw [<- Array.length_toList,hp23]; rfl) (Zzz hr26 hp23 rfl rfl) mo ha24 hb5<|Z0<|Z2<|Zg (Zw fun b8 hb8=>Zg (Zu (q:=[b3' a1]) rfl rfl rfl rfl rfl .here<|Z1<|Z2<|Zg (Zw fun b9 hb9=>Zg (Zu (q:=[.one (.int .i64 (x1.gEpoch)),b3' x1.gKey,b6' x1.gSig]) rfl rfl rfl rfl rfl .here<|Z1<|⟨_,.t2,Za (Z0 (Z0 (cH h fun c2 h=>Z2 (Z6 _ (Z4e rfl) (Z6 _ (Z23 rfl .t1 rfl) (Z6 _ (Z23 rfl .t8 rfl) (Z6 _ (Z1f rfl (Shp.own O2)) (Z6 _ (Z9 rfl rfl rfl) (Z7 rfl (Z9j rfl rfl rfl (fun hg1=>Z2j rfl _ (Z23 rfl .t8 rfl) (Z2j rfl _ (Z4e rfl) (Z2j rfl _ (Zy (p:=[b3' x1.gKey]) rfl .t1 rfl) (Z2j rfl _ (Z0f rfl (fun w hw=>Z81 (getD_some (z:=false) (Zav c2 hg1)) ((Z05 O2 (.there (.there (.there .t9)))) w hw))) (Z3j))))) (fun hg1=>rfl) rfl (Z1 (Z03 h rfl (fun h=>?_) (fun h=>?_)))))))))))))⟩))))))
    ·refine Z0<|Z2<|Zg (Zb0 (q:=[.one (.slice none 0 0)]) rfl rfl rfl rfl (.there .t9)<|Zg (Zb0 (q:=[.one (.int .i64 (171))]) rfl rfl rfl rfl .t9<|Z1<|Zh<|⟨_,.here,Z6 _ (Zhc rfl rfl) (Z1 (Z02v rfl (fun _=>Zh (.inr ⟨_,_,.here,.t4,Z026 ?_⟩)) (fun h=>absurd h (by decide))))⟩))
     revert h; refine Zt fun h=>?_
     subst h
     exact ⟨_,_,(.cons (.one rfl .t8 rfl) (.cons (.one rfl .t7 rfl) .nil)),(.no .nil),⟨_,rfl,⟨(.slice none 0 0),[],rfl,rfl,Z3l⟩⟩⟩
    ·refine Ze<|Z0<|Z0<|oH h fun y1 f1 h=>oH h fun y2 f2 h=>Zs<|Z8 _ (Z4e rfl)<|Zo _ (Zy (p:=[b3' a1]) rfl .t2 rfl)<|Zo _ (Zy (p:=[.one (.int .i64 (x1.gEpoch)),b3' x1.gKey,b6' x1.gSig]) rfl .t1 rfl)<|Zo _ (Zy (p:=[b6' x1.gSig]) rfl .t1 rfl)<|Z6o (Z0g rfl (fun w hw=>Zm1  f1 ) fun v138 o2 R3=>?_)
     obtain ⟨_,w3,rfl,rfl,O3,N143⟩:=R3
     refine ⟨(by repeat (first | exact Sup.refl _ | apply Sup.cons | apply Sup.app)),Zw3 _ (Z0f rfl (fun w hw=>Zej f2 (hG.at hw (by simp)) ((Z05 O3 .here) w hw))) (Z8 _ (Zhc rfl rfl) (Z01 (Z03 h rfl (fun h=>?_) (fun h=>?_)))) (by repeat (first | exact Sup.refl _ | apply Sup.cons | apply Sup.app))⟩
     ·refine Z0<|Z2<|Zg (Zb0 (q:=[.one (.slice none 0 0)]) rfl rfl rfl rfl (.app (.there .t9))<|Zg (Zb0 (q:=[.one (.int .i64 (110))]) rfl rfl rfl rfl (.app .t9)<|Z1<|Zh<|⟨_,(.app .here),Z6 _ (Zhc rfl rfl) (Z1 (Z02v rfl (fun _=>Zh (.inr ⟨_,_,.here,(.app .t4),Z026 ?_⟩)) (fun h=>absurd h (by decide))))⟩))
      revert h; refine Zt fun h=>?_
      subst h
      exact ⟨_,_,(.cons (.one rfl (.app .t8) rfl) (.cons (.one rfl (.app .t7) rfl) .nil)),(.no .nil),⟨_,rfl,⟨(.slice none 0 0),[],rfl,rfl,Z3l⟩⟩⟩
     ·refine Ze<|cH h fun c3 h=>bH h fun l2 g1 h=>Z2<|Z6 _ (Z23 rfl (.app .t8) rfl)<|Z6 _ (Z4e rfl)<|Z6 _ (Zy (p:=[b3' x1.gKey]) rfl (.app .t1) rfl)<|Zg (Z5j (E:=Zm) (xs:=[x1.gKey]) (.agg rfl rfl rfl BdR.nil) (.cons (p:=[b3' x1.gKey]) rfl .nil) rfl fun v148 w4 O4=>Zg (Z32 (E:=Zm) g1 rfl O2 (.app (.app (.there (.there (.there .t9))))) rfl (Z05 O4 .here) c3 fun v153 w5 O5=>Zg (Zb0 (q:=[.one (v153)]) rfl rfl (Zmh.one1 (Z0q.isSl O5)) rfl (.app (.app (.app .t8)))<|Z1<|⟨_,(.app (.app (.app .here))),Z6 _ (Zhc rfl rfl) (Z1 (Z02v rfl (fun h=>absurd h (by decide)) (fun _=>Ze (Z2 (Z6 _ (Z4e rfl) (Z6 _ (Zy (p:=[b3' x1.gKey]) rfl (.there (.app (.app (.app .t2)))) rfl) (Zg (Zu (q:=[b3' x1.gKey]) rfl rfl rfl rfl rfl (.there (.app (.app (.app .t3)))) (Z1 (bH h fun z1 e1 h=>Z2 (Z6 _ (iz e1 (Z9 rfl rfl rfl)) (Z7 rfl (Z1 ?_)))))))))))))⟩)))
      rw [q1] at h
      exact ⟨n1,Nat.lt_succ_self _,z1,x1.gKey,l2,v153,w5,h,O5,⟨⟨rfl,rfl,rfl,rfl,rfl,trivial⟩,(.one (.there (.app (.app (.app .t3)))) (.o (.one (.app (.app (.app .t3))) (.one (.app (.app (.app .t3))) (.one (.app (.app (.app .t3))) (.one (.app (.app (.app .t3))) (.one (.app (.app (.app .t3))) (.one (.app (.app (.app .t3))) (.one (.app (.app (.app .t3))) (.all .here .nil))))))))))⟩⟩
   ·refine Zz _ rfl<|.inl ⟨_,.t1,Z6 _ (Z23 rfl .t4 rfl) (Zg (Zb0 (q:=[.one (v115)]) rfl rfl (Zmh.one1 (Z0q.isSl O2)) rfl .t6 (Zg (Zb0 (q:=[.one (.int .i64 (0))]) rfl rfl rfl rfl .t5 (Z1 (⟨_,.t1,Z026 ?_⟩))))))⟩
    revert h; refine Zt fun h=>?_
    subst h
    exact ⟨_,_,(.cons (.one rfl .t5 rfl) (.cons (.one rfl .t4 rfl) .nil)),(.all .t7 .nil),⟨_,rfl,⟨v115,w2,rfl,rfl,O2⟩⟩⟩
def Z2d (p0:List (LI)) (p1:LI) (k1:Unit->Option Bool) (k2:Int->Option Bool) (i1:Int):Option Bool :=
 br ((decide (i1<(p0.length:Int)))) (
 chk (inB i1 p0.length) <|
 bnd (p0.getD (i1).toNat (replicate 32 0)) fun x1 =>
 br ((ieq 32 x1 p1)) (
 some true
 ) (
 bnd (wrap .i64 (i1+1)) fun z1 =>
 k2 z1
 )
 ) (
 k1 ()
 )
def Z2e (p0:List (LI)) (p1:LI) (k1:Unit->Option Bool):Nat->Int->Option Bool
  | 0,_=>none
  | n+1,i1=>Z2d p0 p1 k1 (Z2e p0 p1 k1 n) i1
def Z43 (p0:List (LI)) (p1:LI):Option Bool :=
 jn (fun (_:Unit)=>some false) fun k1=>Z2e p0 p1 k1 big 0
theorem Zdr {W:World} {r:Bool} {p0:List (LI)} {p1:LI} {v0:Value} (h:Z43 p0 p1=some r) (A0:RdSl Zm W v0 p0) :
    Calls Tryz.prog 84 [v0,agg [b3' p1]].toArray W (Z39 W (.bool (r))):=by
 unfold Z43 at h
 refine Zc mo ok84 rfl ?_
 refine Z0<|Z2<|Zg (Z0j (s:=[b3' p1]) rfl fun b1 u1=>Z7 rfl<|Z1<|Z0<|Z0<|Z2<|Z7 rfl<|Z1<|jH h fun k1 q1 h=>Zn (G:=fun t m=>k1 ()=some r/\Fit [] (ck b1 29 [b3' p1] :: []) t m) ?_ ?_)
 ·refine Za<|Zr (fun n1 t m=>∃ (i1:Int),Z2e p0 p1 k1 n1 i1=some r/\Fit [(0,v0),(3,pt' b1),(5,.int .i64 (i1))] (ck b1 29 [b3' p1] :: []) t m) big ?_ ?_
  ·exact ⟨0,h,⟨⟨rfl,rfl,rfl,trivial⟩,(.o .nil)⟩⟩
  ·rintro n1 t m ⟨i1,h,hF⟩
   refine Zk hF ?_
   clear hF
   rcases n1 with _ | n1
   · exact Z0c h
   have h:Z2d p0 p1 k1 (Z2e p0 p1 k1 n1) i1=some r:=h
   unfold Z2d at h
   obtain ⟨k2,q2⟩ : ∃ k,k=Z2e p0 p1 k1 n1:=⟨_,rfl⟩
   try rw [<- q2] at h
   refine Z0<|Z0<|Z2<|Z7 rfl<|Z7 rfl<|Z6 _ (Z1f rfl (Shp.rd A0))<|Z6 _ (Z9 rfl rfl rfl)<|Z1<|Z03 h rfl (fun h=>?_) (fun h=>?_)
   ·refine Ze<|Z0<|Za<|Z0<|cH h fun c1 h=>bH h fun x1 j1 h=>Zs<|Z8 _ (Z0e rfl)<|Z8 _ (Z0e rfl)<|Z8 _ (Z2u rfl rfl (Shp.rd A0) c1)<|Zo _ (az (fun (x1:LI)=>agg [b3' x1]) j1 (Zeg (E:=Zm) (s:=[b3' (p0.getD (i1).toNat (replicate 32 0))]) rfl (Z0p A0 Z0w) (Z04 c1) rfl rfl))<|Zo _ (Zy (p:=[b3' p1]) rfl .here rfl)<|Z8 _ (Zi6 rfl rfl rfl rfl _ (Z6q Z63))<|Z01<|Z03 h rfl (fun h=>?_) (fun h=>?_)
    ·refine Z0<|Z2<|Z7 rfl<|Z1<|Zh ?_
     revert h; refine Zt fun h=>?_
     subst h
     exact ⟨_,(.cons (.tmp rfl) .nil),rfl⟩
    ·refine Ze<|bH h fun z1 e1 h=>Z2<|Z7 rfl<|Z6 _ (iz e1 (Z9 rfl rfl rfl))<|Z7 rfl<|Z1 ?_
     rw [q2] at h
     exact ⟨n1,Nat.lt_succ_self _,z1,h,⟨⟨rfl,rfl,rfl,trivial⟩,(.o .nil)⟩⟩
   ·exact Zz _ rfl<|⟨h,⟨trivial,(.o .nil)⟩⟩
 ·rintro t m ⟨h,hF⟩
  refine Zk hF ?_
  clear hF
  subst q1
  refine Z0<|Z2<|Z7 rfl<|Z1<|Zh ?_
  revert h; refine Zt fun h=>?_
  subst h
  exact ⟨_,(.cons (.tmp rfl) .nil),rfl⟩
def Z2a (p1:List (api_Link)) (k1:(List (LI))->Option ((List (LI))×Int)) (k2:(List (LI))->Int->Option ((List (LI))×Int)) (l1:List (LI)) (i1:Int):Option ((List (LI))×Int) :=
 br ((decide (i1<(p1.length:Int)))) (
 chk (inB i1 p1.length) <|
 bnd (p1.getD (i1).toNat api_Link_z) fun x1 =>
 bnd (wrap .i64 (i1+1)) fun z1 =>
 chk (imp (!(x1.gEpoch != z1)) ((Z43 l1 x1.gKey).isSome)) <|
 br (((x1.gEpoch != z1)||((Z43 l1 x1.gKey).getD false))) (
 some ([],171)
 ) (
 chk (inB i1 l1.length) <|
 bnd (l1.getD (i1).toNat (replicate 32 0)) fun x2 =>
 opt (Z6e x1) fun y1 =>
 opt (Zas x2 y1 x1.gSig) fun y2 =>
 br ((!y2)) (
 some ([],110)
 ) (
 chk (decide ((l1.length+([x1.gKey]:List (LI)).length)*32<=140737488355328)) <|
 bnd (l1++([x1.gKey]:List (LI))) fun l2 =>
 bnd (wrap .i64 (i1+1)) fun z2 =>
 k2 l2 z2
 )
 )
 ) (
 k1 l1
 )
def Z2b (p1:List (api_Link)) (k1:(List (LI))->Option ((List (LI))×Int)):Nat->(List (LI))->Int->Option ((List (LI))×Int)
  | 0,_,_=>none
  | n+1,l1,i1=>Z2a p1 k1 (Z2b p1 k1 n) l1 i1
def Z2x (p0:LI) (p1:List (api_Link)):Option ((List (LI))×Int) :=
 br ((decide ((p1.length:Int)>64))) (
 some ([],1)
 ) (
 jn (fun (l1:List (LI))=>some (l1,0)) fun k1=>Z2b p1 k1 big ([p0]:List (LI)) 0
 )
theorem Z5k {W:World} {r:(List (LI))×Int} {p0:LI} {p1:List (api_Link)} {v1:Value} (h:Z2x p0 p1=some r) (hG:Globs W) (A1:RdSl E_api_Link W v1 p1) :
    Calls Tryz.prog 35 [agg [b3' p0],v1].toArray W (Zde W [] (fun v Ms=>∃ (u0:Value) (M1:List Zf),v = .tuple #[u0,.int .i64 (r.2)]/\Ms = [.all M1]/\Z0q Zm u0 M1 r.1)):=by
 unfold Z2x at h
 refine Z07 mo ok35 rfl (Zie _) ?_
 refine Z0<|Z2<|Zg (Z0j (s:=[b3' p0]) rfl fun b1 hb1=>Z7 rfl<|Z7 rfl<|Z1<|Z0<|Z0<|Z2<|Z7 rfl<|Z6 _ (Z1f rfl (Shp.rd A1))<|Z6 _ (Z9 rfl rfl rfl)<|Z1<|Z03 h rfl (fun h=>?_) (fun h=>?_))
 ·refine Z0<|Z2<|Z7 rfl<|Z7 rfl<|Z1<|Zh ?_
  revert h; refine Zt fun h=>?_
  subst h
  exact ⟨_,_,(.cons (.tmp rfl) (.cons (.tmp rfl) .nil)),(.no .nil),⟨_,rfl,⟨(.slice none 0 0),[],rfl,rfl,Z3l⟩⟩⟩
 ·refine Ze<|Z0<|Z2<|Z6 _ (Zy (p:=[b3' p0]) rfl .here rfl)<|Zg (Z5j (E:=Zm) (xs:=[p0]) (.agg rfl rfl rfl BdR.nil) (.cons (p:=[b3' p0]) rfl .nil) rfl fun v7 w1 O1=>Z7 rfl<|Z1<|Z0<|Z0<|Z2<|Z7 rfl<|Z1<|jH h fun k1 q1 h=>Zn (G:=fun t m=>∃ (l1:List (LI)) (v123:Value) (w2:List Zf),k1 l1=some r/\Z0q Zm v123 w2 l1/\Fit [(6,v123)] (ck b1 29 [b3' p0]::(w2 ++ [])) t m) ?_ ?_)
  ·refine Za<|Zr (fun n1 t m=>∃ (l2:List (LI)) (i1:Int) (v199:Value) (w3:List Zf),Z2b p1 k1 n1 l2 i1=some r/\Z0q Zm v199 w3 l2/\Fit [(1,v1),(6,v199),(7,.int .i64 (i1))] (ck b1 29 [b3' p0]::(w3 ++ [])) t m) big ?_ ?_
   ·exact ⟨([p0]:List (LI)),0,v7,w1,h,O1,⟨⟨rfl,rfl,rfl,trivial⟩,(.one (.app .here) (.all .here .nil))⟩⟩
   ·rintro n1 t m ⟨l2,i1,v199,w3,h,O2,hF⟩
    refine Zk hF ?_
    clear hF
    rcases n1 with _ | n1
    · exact Z0c h
    have h:Z2a p1 k1 (Z2b p1 k1 n1) l2 i1=some r:=h
    unfold Z2a at h
    obtain ⟨k2,q2⟩ : ∃ k,k=Z2b p1 k1 n1:=⟨_,rfl⟩
    try rw [<- q2] at h
    refine Z0<|Z0<|Z2<|Z7 rfl<|Z7 rfl<|Z6 _ (Z1f rfl (Shp.rd A1))<|Z6 _ (Z9 rfl rfl rfl)<|Z1<|Z03 h rfl (fun h=>?_) (fun h=>?_)
    ·refine Ze<|Z0<|Za<|Z0<|cH h fun c1 h=>bH h fun x1 j1 h=>Z2<|Z7 rfl<|Z7 rfl<|Z6 _ (Z2u rfl rfl (Shp.rd A1) c1)<|Z6 _ (az (fun (x1:api_Link)=>agg [.one (.int .i64 (x1.gEpoch)),b3' x1.gKey,b6' x1.gSig]) j1 (Zeg (E:=E_api_Link) (s:=[.one (.int .i64 (((p1.getD (i1).toNat api_Link_z)).gEpoch)),b3' (((p1.getD (i1).toNat api_Link_z)).gKey),b6' (((p1.getD (i1).toNat api_Link_z)).gSig)]) rfl (Z0p A1 Z0w) (Z04 c1) rfl rfl))<|Zg (Zw fun b2 hb2=>Zg (Zu (q:=[.one (.int .i64 (x1.gEpoch)),b3' x1.gKey,b6' x1.gSig]) rfl rfl rfl rfl rfl .here<|Z1<|Z0<|Z0<|bH h fun z1 e1 h=>cH h fun c2 h=>Z2<|Z6 _ (Z4e rfl)<|Z6 _ (Z23 rfl .here rfl)<|Z7 rfl<|Z6 _ (iz e1 (Z9 rfl rfl rfl))<|Z6 _ (Z9 rfl rfl rfl)<|Z7 rfl<|Z9j rfl rfl rfl (fun hg1=>Z2j rfl _ (Z0e rfl) (Z2j rfl _ (Z4e rfl) (Z2j rfl _ (Zy (p:=[b3' x1.gKey]) rfl .here rfl) (Z2j rfl _ (Z0f rfl (fun w hw=>Zdr (getD_some (z:=false) (Zav c2 hg1)) ((Z05 O2 .t2) w hw))) (Z3j))))) (fun hg1=>rfl) rfl<|Z1<|Z03 h rfl (fun h=>?_) (fun h=>?_)))
     ·refine Z0<|Z2<|Z7 rfl<|Z7 rfl<|Z1<|Zh ?_
      revert h; refine Zt fun h=>?_
      subst h
      exact ⟨_,_,(.cons (.tmp rfl) (.cons (.tmp rfl) .nil)),(.no .nil),⟨_,rfl,⟨(.slice none 0 0),[],rfl,rfl,Z3l⟩⟩⟩
     ·refine Ze<|Z0<|Z0<|cH h fun c3 h=>bH h fun x2 j2 h=>oH h fun y1 f1 h=>oH h fun y2 f2 h=>Zs<|Z8 _ (Z0e rfl)<|Z8 _ (Z0e rfl)<|Z8 _ (Z2u rfl rfl (Shp.own O2) c3)<|Z8 _ (Z4e rfl)<|Zo _ (az (fun (x2:LI)=>agg [b3' x2]) j2 (Zeg (E:=Zm) (s:=[b3' (l2.getD (i1).toNat (replicate 32 0))]) rfl (Z05 O2 .t2) (Z04 c3) rfl rfl))<|Zo _ (Zy (p:=[.one (.int .i64 (x1.gEpoch)),b3' x1.gKey,b6' x1.gSig]) rfl .here rfl)<|Zo _ (Zy (p:=[b6' x1.gSig]) rfl .here rfl)<|Z6o (Z0g rfl (fun w hw=>Zew  f1 ) fun v221 o1 R1=>?_)
      obtain ⟨_,w4,rfl,rfl,O3⟩:=R1
      refine ⟨(by repeat (first | exact Sup.refl _ | apply Sup.cons | apply Sup.app)),Zw3 _ (Z0f rfl (fun w hw=>Zgx f2 (hG.at hw (by simp)) ((Z05 O3 .here) w hw))) (Z8 _ (Zhc rfl rfl) (Z01 (Z03 h rfl (fun h=>?_) (fun h=>?_)))) (by repeat (first | exact Sup.refl _ | apply Sup.cons | apply Sup.app))⟩
      ·refine Z0<|Z2<|Z7 rfl<|Z7 rfl<|Z1<|Zh ?_
       revert h; refine Zt fun h=>?_
       subst h
       exact ⟨_,_,(.cons (.tmp rfl) (.cons (.tmp rfl) .nil)),(.no .nil),⟨_,rfl,⟨(.slice none 0 0),[],rfl,rfl,Z3l⟩⟩⟩
      ·refine Ze<|cH h fun c4 h=>bH h fun l3 g1 h=>Z2<|Z7 rfl<|Z6 _ (Z4e rfl)<|Z6 _ (Zy (p:=[b3' x1.gKey]) rfl (.app .here) rfl)<|Zg (Z5j (E:=Zm) (xs:=[x1.gKey]) (.agg rfl rfl rfl BdR.nil) (.cons (p:=[b3' x1.gKey]) rfl .nil) rfl fun v230 w5 O4=>Zg (Z32 (E:=Zm) g1 rfl O2 (.app (.app .t2)) rfl (Z05 O4 .here) c4 fun v235 w6 O5=>Z7 rfl<|Z1<|bH h fun z2 e2 h=>Z2<|Z7 rfl<|Z6 _ (iz e2 (Z9 rfl rfl rfl))<|Z7 rfl<|Z1 ?_))
       rw [q2] at h
       exact ⟨n1,Nat.lt_succ_self _,l3,z2,v235,w6,h,O5,⟨⟨rfl,rfl,rfl,trivial⟩,(.one (.app (.app (.app .t1))) (.all .here .nil))⟩⟩
    ·exact Zz _ rfl<|⟨l2,v199,w3,h,O2,⟨⟨rfl,trivial⟩,(.o (.all .here .nil))⟩⟩
  ·rintro t m ⟨l1,v123,w2,h,O6,hF⟩
   refine Zk hF ?_
   clear hF
   subst q1
   refine Z0<|Z2<|Z7 rfl<|Z7 rfl<|Z7 rfl<|Z1<|Zh ?_
   revert h; refine Zt fun h=>?_
   subst h
   exact ⟨_,_,(.cons (.tmp rfl) (.cons (.tmp rfl) .nil)),(.all .t1 .nil),⟨_,rfl,⟨v123,w2,rfl,rfl,O6⟩⟩⟩
def Z20 (p0:List (LI)) (p1:List (LI)) (k1:Unit->Option Bool) (k2:Int->Option Bool) (i1:Int):Option Bool :=
 br ((decide (i1<(p0.length:Int)))) (
 chk (inB i1 p0.length) <|
 bnd (p0.getD (i1).toNat (replicate 32 0)) fun x1 =>
 chk (inB i1 p1.length) <|
 bnd (p1.getD (i1).toNat (replicate 32 0)) fun x2 =>
 br ((!(ieq 32 x1 x2))) (
 some false
 ) (
 bnd (wrap .i64 (i1+1)) fun z1 =>
 k2 z1
 )
 ) (
 k1 ()
 )
def Z21 (p0:List (LI)) (p1:List (LI)) (k1:Unit->Option Bool):Nat->Int->Option Bool
  | 0,_=>none
  | n+1,i1=>Z20 p0 p1 k1 (Z21 p0 p1 k1 n) i1
def Z28 (p0:List (LI)) (p1:List (LI)):Option Bool :=
 br (((p0.length:Int) != (p1.length:Int))) (
 some false
 ) (
 jn (fun (_:Unit)=>some true) fun k1=>Z21 p0 p1 k1 big 0
 )
theorem Z4x {W:World} {r:Bool} {p0:List (LI)} {p1:List (LI)} {v0:Value} {v1:Value} (h:Z28 p0 p1=some r) (A0:RdSl Zm W v0 p0) (A1:RdSl Zm W v1 p1) :
    Calls Tryz.prog 36 [v0,v1].toArray W (Z39 W (.bool (r))):=by
 unfold Z28 at h
 refine Zc mo ok36 rfl ?_
 refine Z0<|Z2<|Z7 rfl<|Z1<|Z0<|Z0<|Z2<|Z7 rfl<|Z6 _ (Z1f rfl (Shp.rd A0))<|Z7 rfl<|Z6 _ (Z1f rfl (Shp.rd A1))<|Z6 _ (Z9 rfl rfl rfl)<|Z1<|Z03 h rfl (fun h=>?_) (fun h=>?_)
 ·refine Z0<|Z2<|Z7 rfl<|Z1<|Zh ?_
  revert h; refine Zt fun h=>?_
  subst h
  exact ⟨_,(.cons (.tmp rfl) .nil),rfl⟩
 ·refine Ze<|Z0<|Z0<|Z2<|Z7 rfl<|Z1<|jH h fun k1 q1 h=>Zn (G:=fun t m=>k1 ()=some r/\Fit [] [] t m) ?_ ?_
  ·refine Za<|Zr (fun n1 t m=>∃ (i1:Int),Z21 p0 p1 k1 n1 i1=some r/\Fit [(0,v0),(1,v1),(5,.int .i64 (i1))] [] t m) big ?_ ?_
   ·exact ⟨0,h,⟨⟨rfl,rfl,rfl,trivial⟩,.nil⟩⟩
   ·rintro n1 t m ⟨i1,h,hF⟩
    refine Zk hF ?_
    clear hF
    rcases n1 with _ | n1
    · exact Z0c h
    have h:Z20 p0 p1 k1 (Z21 p0 p1 k1 n1) i1=some r:=h
    unfold Z20 at h
    obtain ⟨k2,q2⟩ : ∃ k,k=Z21 p0 p1 k1 n1:=⟨_,rfl⟩
    try rw [<- q2] at h
    refine Z0<|Z0<|Z2<|Z7 rfl<|Z7 rfl<|Z6 _ (Z1f rfl (Shp.rd A0))<|Z6 _ (Z9 rfl rfl rfl)<|Z1<|Z03 h rfl (fun h=>?_) (fun h=>?_)
    ·refine Ze<|Z0<|Za<|Z0<|cH h fun c1 h=>bH h fun x1 j1 h=>cH h fun c2 h=>bH h fun x2 j2 h=>Zs<|Z8 _ (Z0e rfl)<|Z8 _ (Z0e rfl)<|Z8 _ (Z2u rfl rfl (Shp.rd A0) c1)<|Z8 _ (Z0e rfl)<|Z8 _ (Z0e rfl)<|Z8 _ (Z2u rfl rfl (Shp.rd A1) c2)<|Zo _ (az (fun (x1:LI)=>agg [b3' x1]) j1 (Zeg (E:=Zm) (s:=[b3' (p0.getD (i1).toNat (replicate 32 0))]) rfl (Z0p A0 Z0w) (Z04 c1) rfl rfl))<|Zo _ (az (fun (x2:LI)=>agg [b3' x2]) j2 (Zeg (E:=Zm) (s:=[b3' (p1.getD (i1).toNat (replicate 32 0))]) rfl (Z0p A1 Z0w) (Z04 c2) rfl rfl))<|Z8 _ (Zi6 rfl rfl rfl rfl _ (Z6q Z63))<|Z01<|Z03 h rfl (fun h=>?_) (fun h=>?_)
     ·refine Z0<|Z2<|Z7 rfl<|Z1<|Zh ?_
      revert h; refine Zt fun h=>?_
      subst h
      exact ⟨_,(.cons (.tmp rfl) .nil),rfl⟩
     ·refine Ze<|bH h fun z1 e1 h=>Z2<|Z7 rfl<|Z6 _ (iz e1 (Z9 rfl rfl rfl))<|Z7 rfl<|Z1 ?_
      rw [q2] at h
      exact ⟨n1,Nat.lt_succ_self _,z1,h,⟨⟨rfl,rfl,rfl,trivial⟩,.nil⟩⟩
    ·exact Zz _ rfl<|⟨h,⟨trivial,.nil⟩⟩
  ·rintro t m ⟨h,hF⟩
   refine Zk hF ?_
   clear hF
   subst q1
   refine Z0<|Z2<|Z7 rfl<|Z1<|Zh ?_
   revert h; refine Zt fun h=>?_
   subst h
   exact ⟨_,(.cons (.tmp rfl) .nil),rfl⟩
def Z66 (p0:LI) (p1:List (api_Link)) (p2:Int) (p3:Int) (p4:LI) (p5:LI):Option Int :=
 opt (Z58 p0 p1) fun y1 =>
 br ((y1.2 != 0)) (
 some y1.2
 ) (
 br ((((decide (p2<0))||(decide (p3<0)))||(decide (p3≥(y1.1.length:Int))))) (
 some 2
 ) (
 br ((decide (p3<p2))) (
 some 192
 ) (
 chk (inB p3 y1.1.length) <|
 bnd (y1.1.getD (p3).toNat (replicate 32 0)) fun x1 =>
 opt (Z4a x1 p4 p5) fun y2 =>
 br ((!y2)) (
 some 110
 ) (
 some 0
 )
 )
 )
 )
theorem Z9a {W:World} {r:Int} {p0:LI} {p1:List (api_Link)} {p2:Int} {p3:Int} {p4:LI} {p5:LI} {v1:Value} {v4:Value} (h:Z66 p0 p1 p2 p3 p4 p5=some r) (hG:Globs W) (A1:RdSl E_api_Link W v1 p1) (A4:RdSl (El.int .u8) W v4 p4) :
    Calls Tryz.prog 37 [agg [b3' p0],v1,.int .i64 (p2),.int .i64 (p3),v4,agg [b6' p5]].toArray W (Z39 W (.int .i64 (r))):=by
 unfold Z66 at h
 refine Zc mo ok37 rfl ?_
 refine Z0<|Z2<|Zg (Z0j (s:=[b3' p0]) rfl fun b1 u1=>Zg (Z0j (s:=[b6' p5]) rfl fun b2 u2=>Z7 rfl<|Z1<|Z0<|oH h fun y1 f1 h=>Z2<|Z6 _ (Zy (p:=[b3' p0]) rfl .t1 rfl)<|Z7 rfl<|Zg (Z0g rfl (fun w hw=>Z6u  f1 (hG.at hw (by simp)) ((Z0p A1 Z0w) w hw)) fun v6 o1 R1=>?_)))
 obtain ⟨v8,w1,rfl,rfl,O1⟩:=R1
 refine Z7 rfl<|Z6 _ (Z2m rfl rfl)<|Z6 _ (Z2m rfl rfl)<|Z7 rfl<|Z7 rfl<|Z1<|Z0<|Za<|Z0<|Z2<|Z7 rfl<|Z6 _ (Z9 rfl rfl rfl)<|Z7 rfl<|Z1<|Z03 h rfl (fun h=>?_) (fun h=>?_)
 ·refine Z0<|Z2<|Z7 rfl<|Z7 rfl<|Z1<|Zh ?_
  revert h; refine Zt fun h=>?_
  subst h
  exact ⟨_,(.cons (.tmp rfl) .nil),rfl⟩
 ·refine Z0<|Z2<|Z7 rfl<|Z6 _ (Z9 rfl rfl rfl)<|Z7 rfl<|Z9j rfl rfl rfl (fun hg1=>Z2j rfl _ (Z0e rfl) (Z2j rfl _ (Z9 rfl rfl rfl) (Z3j))) (fun hg1=>rfl) rfl<|Z7 rfl<|Z9j rfl rfl rfl (fun hg1=>Z2j rfl _ (Z0e rfl) (Z2j rfl _ (Z0e rfl) (Z2j rfl _ (Z1f rfl (Shp.own O1)) (Z2j rfl _ (Z9 rfl rfl rfl) (Z3j))))) (fun hg1=>rfl) rfl<|Z7 rfl<|Z1<|Z03 h rfl (fun h=>?_) (fun h=>?_)
  ·refine Z0<|Z2<|Z7 rfl<|Z1<|Zh ?_
   revert h; refine Zt fun h=>?_
   subst h
   exact ⟨_,(.cons (.tmp rfl) .nil),rfl⟩
  ·refine Z0<|Z2<|Z7 rfl<|Z7 rfl<|Z6 _ (Z9 rfl rfl rfl)<|Z7 rfl<|Z1<|Z03 h rfl (fun h=>?_) (fun h=>?_)
   ·refine Z0<|Z2<|Z7 rfl<|Z1<|Zh ?_
    revert h; refine Zt fun h=>?_
    subst h
    exact ⟨_,(.cons (.tmp rfl) .nil),rfl⟩
   ·refine Z0<|cH h fun c1 h=>bH h fun x1 j1 h=>oH h fun y2 f2 h=>Zs<|Z8 _ (Z0e rfl)<|Z8 _ (Z0e rfl)<|Z8 _ (Z2u rfl rfl (Shp.own O1) c1)<|Z8 _ (Z0e rfl)<|Zo _ (az (fun (x1:LI)=>agg [b3' x1]) j1 (Zeg (E:=Zm) (s:=[b3' (y1.1.getD (p3).toNat (replicate 32 0))]) rfl (Z05 O1 .here) (Z04 c1) rfl rfl))<|Zo _ (Zy (p:=[b6' p5]) rfl (.app .here) rfl)<|Zo _ (Z0f rfl (fun w hw=>Zej f2 (hG.at hw (by simp)) ((Z0p A4 Z0w) w hw)))<|Z8 _ (Zhc rfl rfl)<|Z8 _ (Z0e rfl)<|Z01<|Z03 h rfl (fun h=>?_) (fun h=>?_)
    ·refine Z0<|Z2<|Z7 rfl<|Z1<|Zh ?_
     revert h; refine Zt fun h=>?_
     subst h
     exact ⟨_,(.cons (.tmp rfl) .nil),rfl⟩
    ·refine Ze<|Z0<|Z2<|Z7 rfl<|Z1<|Zh ?_
     revert h; refine Zt fun h=>?_
     subst h
     exact ⟨_,(.cons (.tmp rfl) .nil),rfl⟩
def Z1w (k1:(List (LI))->Option Bool) (k2:(List (LI))->Int->Option Bool) (l1:List (LI)) (i1:Int):Option Bool :=
 br ((decide (i1<64))) (
 bnd (([21,0,0,0,0,0,0,0,0,0,0,0,0,0,0,0,0,0,0,0,0,0,0,0,0,0,0,0,0,0,0,0]:LI)) fun z1 =>
 chk (decide ((l1.length+([z1]:List (LI)).length)*32<=140737488355328)) <|
 bnd (l1++([z1]:List (LI))) fun l2 =>
 bnd (wrap .i64 (i1+1)) fun z2 =>
 k2 l2 z2
 ) (
 k1 l1
 )
def Z1c (k1:(List (LI))->Option Bool):Nat->(List (LI))->Int->Option Bool
  | 0,_,_=>none
  | n+1,l1,i1=>Z1w k1 (Z1c k1 n) l1 i1
def Z1x (k1:(List (LI))->Option Bool) (k2:(List (LI))->Int->Option Bool) (l1:List (LI)) (i1:Int):Option Bool :=
 br ((decide (i1<64))) (
 bnd (([22,0,0,0,0,0,0,0,0,0,0,0,0,0,0,0,0,0,0,0,0,0,0,0,0,0,0,0,0,0,0,0]:LI)) fun z1 =>
 chk (decide ((l1.length+([z1]:List (LI)).length)*32<=140737488355328)) <|
 bnd (l1++([z1]:List (LI))) fun l2 =>
 bnd (wrap .i64 (i1+1)) fun z2 =>
 k2 l2 z2
 ) (
 k1 l1
 )
def Z1d (k1:(List (LI))->Option Bool):Nat->(List (LI))->Int->Option Bool
  | 0,_,_=>none
  | n+1,l1,i1=>Z1x k1 (Z1d k1 n) l1 i1
def Z1y (l1:List (LI)) (k1:Unit->Option Bool) (k2:Int->Option Bool) (i1:Int):Option Bool :=
 br ((decide (i1<(l1.length:Int)))) (
 chk (inB i1 l1.length) <|
 bnd (l1.getD (i1).toNat (replicate 32 0)) fun x1 =>
 bnd (([21,0,0,0,0,0,0,0,0,0,0,0,0,0,0,0,0,0,0,0,0,0,0,0,0,0,0,0,0,0,0,0]:LI)) fun z1 =>
 br ((!(ieq 32 x1 z1))) (
 some false
 ) (
 bnd (wrap .i64 (i1+1)) fun z2 =>
 k2 z2
 )
 ) (
 k1 ()
 )
def Z1e (l1:List (LI)) (k1:Unit->Option Bool):Nat->Int->Option Bool
  | 0,_=>none
  | n+1,i1=>Z1y l1 k1 (Z1e l1 k1 n) i1
def Z3u (p0:List (LI)) (p1:List (LI)):Option Bool :=
 jn (fun (l1:List (LI))=>jn (fun (l2:List (LI))=>jn (fun (_:Unit)=>bnd (wrap .i64 ((p1.length:Int)+64)) fun z1 =>
 some ((l2.length:Int)==z1)) fun k1=>Z1e l1 k1 big (p0.length:Int)) fun k2=>Z1d k2 big p1 0) fun k3=>Z1c k3 big p0 0
theorem Zc0 {W:World} {r:Bool} {p0:List (LI)} {p1:List (LI)} {v0:Value} {M1:List Zf} {v1:Value} {M2:List Zf} (h:Z3u p0 p1=some r) (h0:Sat W ((M1++M2).map (·.b)) (M1++(M2 ++ [])) W) (O1:Zh2 Zm v0 M1 p0) (O2:Zh2 Zm v1 M2 p1) :
    Calls Tryz.prog 38 [v0,v1].toArray W (Zde W ((M1++M2).map (·.b)) (fun v Ms=>∃ (X0:List Zf) (X1:List Zf),v = .bool (r)/\Ms = [.all X0,.all X1]/\Zh2 Zm v0 X0 p0/\Zh2 Zm v1 X1 p1)):=by
 unfold Z3u at h
 refine Z07 mo ok38 rfl h0 ?_
 refine Z0<|Z2<|Z7 rfl<|Z1<|Z0<|Z2<|Z7 rfl<|Z7 rfl<|Z1<|Z0<|Z2<|Z7 rfl<|Z7 rfl<|Z1<|Z0<|Z0<|Z2<|Z7 rfl<|Z1<|jH h fun k1 q1 h=>Zn (G:=fun t m=>∃ (l1:List (LI)) (v57:Value) (w1:List Zf),k1 l1=some r/\Z45 Zm v0 p0 v57 l1 w1/\Fit [(0,v0),(1,v1),(5,v57),(6,v1)] (M2++(w1 ++ [])) t m) ?_ ?_
 ·refine Za<|Zr (fun n1 t m=>∃ (l2:List (LI)) (i1:Int) (v93:Value) (w2:List Zf),Z1c k1 n1 l2 i1=some r/\Z45 Zm v0 p0 v93 l2 w2/\Fit [(0,v0),(1,v1),(5,v93),(6,v1),(7,.int .i64 (i1))] (M2++(w2 ++ [])) t m) big ?_ ?_
  ·exact ⟨p0,0,v0,M1,h,(Zh2.grow O1),⟨⟨rfl,rfl,rfl,rfl,rfl,trivial⟩,(.all (.app .here) (.all .here .nil))⟩⟩
  ·rintro n1 t m ⟨l2,i1,v93,w2,h,G96,hF⟩
   refine Zk hF ?_
   clear hF
   rcases n1 with _ | n1
   · exact Z0c h
   have h:Z1w k1 (Z1c k1 n1) l2 i1=some r:=h
   unfold Z1w at h
   obtain ⟨k2,q2⟩ : ∃ k,k=Z1c k1 n1:=⟨_,rfl⟩
   try rw [<- q2] at h
   refine Z0<|Z0<|Z2<|Z7 rfl<|Z6 _ (Z9 rfl rfl rfl)<|Z1<|Z03 h rfl (fun h=>?_) (fun h=>?_)
   ·refine Ze<|Z0<|Za<|bH h fun z1 e1 h=>cH h fun c1 h=>bH h fun l3 g1 h=>Z2<|Z7 rfl<|Z6 _ (az (fun z=>agg [.ints .u8 32 z]) e1 (Zcj (.one rfl rfl rfl BdR.nil)))<|Zg (Z5j (E:=Zm) (xs:=[z1]) (.agg rfl rfl rfl BdR.nil) (.cons (p:=[b3' z1]) rfl .nil) rfl fun v104 w3 O3=>Zg (Zo8 (E:=Zm) g1 rfl G96 (.app (.app .here)) rfl (Z05 O3 .here) c1 fun v109 w4 O4=>Z7 rfl<|Z1<|bH h fun z2 e2 h=>Z2<|Z7 rfl<|Z6 _ (iz e2 (Z9 rfl rfl rfl))<|Z7 rfl<|Z1 ?_))
    rw [q2] at h
    exact ⟨n1,Nat.lt_succ_self _,l3,z2,v109,w4,h,O4,⟨⟨rfl,rfl,rfl,rfl,rfl,trivial⟩,(.all (.app (.app .here)) (.all .here .nil))⟩⟩
   ·exact Zz _ rfl<|⟨l2,v93,w2,h,G96,⟨⟨rfl,rfl,rfl,rfl,trivial⟩,(.all .here (.all .here .nil))⟩⟩
 ·rintro t m ⟨l1,v57,w1,h,G60,hF⟩
  refine Zk hF ?_
  clear hF
  subst q1
  refine Z0<|Z0<|Z2<|Z7 rfl<|Z1<|jH h fun k3 q3 h=>Zn (G:=fun t m=>∃ (l4:List (LI)) (v167:Value) (w5:List Zf),k3 l4=some r/\Z45 Zm v1 p1 v167 l4 w5/\Fit [(0,v0),(1,v1),(5,v57),(6,v167)] (w1++(w5 ++ [])) t m) ?_ ?_
  ·refine Za<|Zr (fun n2 t m=>∃ (l5:List (LI)) (i2:Int) (v203:Value) (w6:List Zf),Z1d k3 n2 l5 i2=some r/\Z45 Zm v1 p1 v203 l5 w6/\Fit [(0,v0),(1,v1),(5,v57),(6,v203),(8,.int .i64 (i2))] (w1++(w6 ++ [])) t m) big ?_ ?_
   ·exact ⟨p1,0,v1,M2,h,(Zh2.grow O2),⟨⟨rfl,rfl,rfl,rfl,rfl,trivial⟩,(.all (.app .here) (.all .here .nil))⟩⟩
   ·rintro n2 t m ⟨l5,i2,v203,w6,h,G206,hF⟩
    refine Zk hF ?_
    clear hF
    rcases n2 with _ | n2
    · exact Z0c h
    have h:Z1x k3 (Z1d k3 n2) l5 i2=some r:=h
    unfold Z1x at h
    obtain ⟨k4,q4⟩ : ∃ k,k=Z1d k3 n2:=⟨_,rfl⟩
    try rw [<- q4] at h
    refine Z0<|Z0<|Z2<|Z7 rfl<|Z6 _ (Z9 rfl rfl rfl)<|Z1<|Z03 h rfl (fun h=>?_) (fun h=>?_)
    ·refine Ze<|Z0<|Za<|bH h fun z3 e3 h=>cH h fun c2 h=>bH h fun l6 g2 h=>Z2<|Z7 rfl<|Z6 _ (az (fun z=>agg [.ints .u8 32 z]) e3 (Zcj (.one rfl rfl rfl BdR.nil)))<|Zg (Z5j (E:=Zm) (xs:=[z3]) (.agg rfl rfl rfl BdR.nil) (.cons (p:=[b3' z3]) rfl .nil) rfl fun v214 w7 O5=>Zg (Zo8 (E:=Zm) g2 rfl G206 (.app (.app .here)) rfl (Z05 O5 .here) c2 fun v219 w8 O6=>Z7 rfl<|Z1<|bH h fun z4 e4 h=>Z2<|Z7 rfl<|Z6 _ (iz e4 (Z9 rfl rfl rfl))<|Z7 rfl<|Z1 ?_))
     rw [q4] at h
     exact ⟨n2,Nat.lt_succ_self _,l6,z4,v219,w8,h,O6,⟨⟨rfl,rfl,rfl,rfl,rfl,trivial⟩,(.all (.app (.app .here)) (.all .here .nil))⟩⟩
    ·exact Zz _ rfl<|⟨l5,v203,w6,h,G206,⟨⟨rfl,rfl,rfl,rfl,trivial⟩,(.all .here (.all .here .nil))⟩⟩
  ·rintro t m ⟨l4,v167,w5,h,G170,hF⟩
   refine Zk hF ?_
   clear hF
   subst q3
   refine Z0<|Z0<|Z2<|Z7 rfl<|Z6 _ (Z1f rfl (Zh2.shp (Z45.base G60)))<|Z7 rfl<|Z1<|jH h fun k5 q5 h=>Zn (G:=fun t m=>k5 ()=some r/\Fit [(1,v1),(6,v167)] (w1++(w5 ++ [])) t m) ?_ ?_
   ·refine Za<|Zr (fun n3 t m=>∃ (i3:Int),Z1e l1 k5 n3 i3=some r/\Fit [(1,v1),(5,v57),(6,v167),(9,.int .i64 (i3))] (w1++(w5 ++ [])) t m) big ?_ ?_
    ·exact ⟨(p0.length:Int),h,⟨⟨rfl,rfl,rfl,rfl,trivial⟩,(.all .here (.all .here .nil))⟩⟩
    ·rintro n3 t m ⟨i3,h,hF⟩
     refine Zk hF ?_
     clear hF
     rcases n3 with _ | n3
     · exact Z0c h
     have h:Z1y l1 k5 (Z1e l1 k5 n3) i3=some r:=h
     unfold Z1y at h
     obtain ⟨k6,q6⟩ : ∃ k,k=Z1e l1 k5 n3:=⟨_,rfl⟩
     try rw [<- q6] at h
     refine Z0<|Z0<|Z2<|Z7 rfl<|Z7 rfl<|Z6 _ (Z1f rfl (Z45.shp G60))<|Z6 _ (Z9 rfl rfl rfl)<|Z1<|Z03 h rfl (fun h=>?_) (fun h=>?_)
     ·refine Ze<|Z0<|Za<|Z0<|cH h fun c3 h=>bH h fun x1 j1 h=>bH h fun z5 e5 h=>Z2<|Z7 rfl<|Z7 rfl<|Z6 _ (Z2u rfl rfl (Z45.shp G60) c3)<|Z6 _ (az (fun (x1:LI)=>agg [b3' x1]) j1 (Zeg (E:=Zm) (s:=[b3' (l1.getD (i3).toNat (replicate 32 0))]) rfl (Z0ii G60 .here) (Z04 c3) rfl rfl))<|Z6 _ (az (fun z=>agg [.ints .u8 32 z]) e5 (Zcj (.one rfl rfl rfl BdR.nil)))<|Z6 _ (Zi6 rfl rfl rfl rfl _ (Z6q Z63))<|Z1<|Z03 h rfl (fun h=>?_) (fun h=>?_)
      ·refine Z0<|Z2<|Z7 rfl<|Z1<|Zh ?_
       revert h; refine Zt fun h=>?_
       subst h
       exact ⟨_,_,(.cons (.tmp rfl) .nil),(.all .here (.all .here .nil)),⟨_,rfl,⟨w1,w5,rfl,rfl,(Z45.base G60),(Z45.base G170)⟩⟩⟩
      ·refine Ze<|bH h fun z6 e6 h=>Z2<|Z7 rfl<|Z6 _ (iz e6 (Z9 rfl rfl rfl))<|Z7 rfl<|Z1 ?_
       rw [q6] at h
       exact ⟨n3,Nat.lt_succ_self _,z6,h,⟨⟨rfl,rfl,rfl,rfl,trivial⟩,(.all .here (.all .here .nil))⟩⟩
     ·exact Zz _ rfl<|⟨h,⟨⟨rfl,rfl,trivial⟩,(.all .here (.all .here .nil))⟩⟩
   ·rintro t m ⟨h,hF⟩
    refine Zk hF ?_
    clear hF
    subst q5
    refine Z0<|bH h fun z7 e7 h=>Z2<|Z7 rfl<|Z6 _ (Z1f rfl (Z45.shp G170))<|Z7 rfl<|Z6 _ (Z1f rfl (Zh2.shp (Z45.base G170)))<|Z6 _ (iz e7 (Z9 rfl rfl rfl))<|Z6 _ (Z9 rfl rfl rfl)<|Z7 rfl<|Z1<|Zh ?_
    revert h; refine Zt fun h=>?_
    subst h
    exact ⟨_,_,(.cons (.tmp rfl) .nil),(.all .here (.all .here .nil)),⟨_,rfl,⟨w1,w5,rfl,rfl,(Z45.base G60),(Z45.base G170)⟩⟩⟩
end Go.Proofs.YtiflckckekjbnaaGreatDoor
namespace Go.Proofs.YtiflckckekjbnaaGreatDoor
open Go Go.Sx Go.RowKit
open Go.IntKind (wrap)
set_option linter.all false
set_option maxHeartbeats 400000
set_option maxRecDepth 100000
def Z0r (p0:LI) (p1:List (api_Link)) (p2:Int) (p3:Int) (p4:LI) (p5:LI):Option Int :=
 opt (Z2x p0 p1) fun y1 =>
 br ((y1.2 != 0)) (
 some y1.2
 ) (
 br ((((decide (p2<0))||(decide (p3<0)))||(decide (p3>(p1.length:Int))))) (
 some 2
 ) (
 br ((decide (p3<p2))) (
 some 192
 ) (
 chk (inB p3 y1.1.length) <|
 bnd (y1.1.getD (p3).toNat (List.replicate 32 0)) fun x1 =>
 opt (Zas x1 p4 p5) fun y2 =>
 br ((!y2)) (
 some 110
 ) (
 some 0
 )
 )
 )
 )
theorem Z42 {W:World} {r:Int} {p0:LI} {p1:List (api_Link)} {p2:Int} {p3:Int} {p4:LI} {p5:LI} {v1:Value} {v4:Value} (h:Z0r p0 p1 p2 p3 p4 p5=some r) (hG:Globs W) (A1:RdSl E_api_Link W v1 p1) (A4:RdSl (El.int .u8) W v4 p4) :
    Calls Tryz.prog 39 [agg [b3' p0],v1,.int .i64 (p2),.int .i64 (p3),v4,agg [b6' p5]].toArray W (Z39 W (.int .i64 (r))):=by
 unfold Z0r at h
 refine Zc mo ok39 rfl ?_
 refine Z0<|Z2<|Zg (Z0j (s:=[b3' p0]) rfl fun b1 u1=>Zg (Z0j (s:=[b6' p5]) rfl fun b2 u2=>Z7 rfl<|Z1<|Z0<|oH h fun y1 f1 h=>Z2<|Z6 _ (Zy (p:=[b3' p0]) rfl .t1 rfl)<|Z7 rfl<|Zg (Z0g rfl (fun w hw=>Z5k  f1 (hG.at hw (by simp)) ((Z0p A1 Z0w) w hw)) fun v6 o1 R1=>?_)))
 obtain ⟨v8,w1,rfl,rfl,O1⟩:=R1
 refine Z7 rfl<|Z6 _ (Z2m rfl rfl)<|Z6 _ (Z2m rfl rfl)<|Z7 rfl<|Z7 rfl<|Z1<|Z0<|Z0<|Z2<|Z7 rfl<|Z6 _ (Z9 rfl rfl rfl)<|Z1<|Z03 h rfl (fun h=>?_) (fun h=>?_)
 ·refine Z0<|Z2<|Z7 rfl<|Z7 rfl<|Z1<|Zh ?_
  revert h; refine Zt fun h=>?_
  subst h
  exact ⟨_,(.cons (.tmp rfl) .nil),rfl⟩
 ·refine Ze<|Z0<|Z0<|Z2<|Z7 rfl<|Z6 _ (Z9 rfl rfl rfl)<|Z7 rfl<|Z9j rfl rfl rfl (fun hg1=>Z2j rfl _ (Z0e rfl) (Z2j rfl _ (Z9 rfl rfl rfl) (Z3j))) (fun hg1=>rfl) rfl<|Z7 rfl<|Z9j rfl rfl rfl (fun hg1=>Z2j rfl _ (Z0e rfl) (Z2j rfl _ (Z0e rfl) (Z2j rfl _ (Z1f rfl (Shp.rd A1)) (Z2j rfl _ (Z9 rfl rfl rfl) (Z3j))))) (fun hg1=>rfl) rfl<|Z1<|Z03 h rfl (fun h=>?_) (fun h=>?_)
  ·refine Z0<|Z2<|Z7 rfl<|Z1<|Zh ?_
   revert h; refine Zt fun h=>?_
   subst h
   exact ⟨_,(.cons (.tmp rfl) .nil),rfl⟩
  ·refine Ze<|Z0<|Z0<|Z2<|Z7 rfl<|Z7 rfl<|Z6 _ (Z9 rfl rfl rfl)<|Z1<|Z03 h rfl (fun h=>?_) (fun h=>?_)
   ·refine Z0<|Z2<|Z7 rfl<|Z1<|Zh ?_
    revert h; refine Zt fun h=>?_
    subst h
    exact ⟨_,(.cons (.tmp rfl) .nil),rfl⟩
   ·refine Ze<|Z0<|Z0<|cH h fun c1 h=>bH h fun x1 j1 h=>oH h fun y2 f2 h=>Zs<|Z8 _ (Z0e rfl)<|Z8 _ (Z0e rfl)<|Z8 _ (Z2u rfl rfl (Shp.own O1) c1)<|Z8 _ (Z0e rfl)<|Zo _ (az (fun (x1:LI)=>agg [b3' x1]) j1 (Zeg (E:=Zm) (s:=[b3' (y1.1.getD (p3).toNat (List.replicate 32 0))]) rfl (Z05 O1 .here) (Z04 c1) rfl rfl))<|Zo _ (Zy (p:=[b6' p5]) rfl (.app .here) rfl)<|Zo _ (Z0f rfl (fun w hw=>Zgx f2 (hG.at hw (by simp)) ((Z0p A4 Z0w) w hw)))<|Z8 _ (Zhc rfl rfl)<|Z01<|Z03 h rfl (fun h=>?_) (fun h=>?_)
    ·refine Z0<|Z2<|Z7 rfl<|Z1<|Zh ?_
     revert h; refine Zt fun h=>?_
     subst h
     exact ⟨_,(.cons (.tmp rfl) .nil),rfl⟩
    ·refine Ze<|Z0<|Z2<|Z7 rfl<|Z1<|Zh ?_
     revert h; refine Zt fun h=>?_
     subst h
     exact ⟨_,(.cons (.tmp rfl) .nil),rfl⟩
def Z1o (p0:List (api_Link)) (p1:List (api_Link)) (k1:Unit->Option Bool) (k2:Int->Option Bool) (i1:Int):Option Bool :=
 br ((decide (i1<(p0.length:Int)))) (
 chk (inB i1 p0.length) <|
 bnd (p0.getD (i1).toNat api_Link_z) fun x1 =>
 chk (inB i1 p1.length) <|
 bnd (p1.getD (i1).toNat api_Link_z) fun x2 =>
 br ((!((x1.gEpoch==x2.gEpoch)&&((ieq 32 x1.gKey x2.gKey)&&(ieq 64 x1.gSig x2.gSig))))) (
 some false
 ) (
 bnd (wrap .i64 (i1+1)) fun z1 =>
 k2 z1
 )
 ) (
 k1 ()
 )
def Z1p (p0:List (api_Link)) (p1:List (api_Link)) (k1:Unit->Option Bool):Nat->Int->Option Bool
  | 0,_=>none
  | n+1,i1=>Z1o p0 p1 k1 (Z1p p0 p1 k1 n) i1
def Z3h (p0:List (api_Link)) (p1:List (api_Link)):Option Bool :=
 br (((p0.length:Int) != (p1.length:Int))) (
 some false
 ) (
 jn (fun (_:Unit)=>some true) fun k1=>Z1p p0 p1 k1 big 0
 )
theorem Zbh {W:World} {r:Bool} {p0:List (api_Link)} {p1:List (api_Link)} {v0:Value} {v1:Value} (h:Z3h p0 p1=some r) (A0:RdSl E_api_Link W v0 p0) (A1:RdSl E_api_Link W v1 p1) :
    Calls Tryz.prog 43 [v0,v1].toArray W (Z39 W (.bool (r))):=by
 unfold Z3h at h
 refine Zc mo ok43 rfl ?_
 refine Z0<|Z2<|Z7 rfl<|Z1<|Z0<|Z0<|Z2<|Z7 rfl<|Z6 _ (Z1f rfl (Shp.rd A0))<|Z7 rfl<|Z6 _ (Z1f rfl (Shp.rd A1))<|Z6 _ (Z9 rfl rfl rfl)<|Z1<|Z03 h rfl (fun h=>?_) (fun h=>?_)
 ·refine Z0<|Z2<|Z7 rfl<|Z1<|Zh ?_
  revert h; refine Zt fun h=>?_
  subst h
  exact ⟨_,(.cons (.tmp rfl) .nil),rfl⟩
 ·refine Ze<|Z0<|Z0<|Z2<|Z7 rfl<|Z1<|jH h fun k1 q1 h=>Zn (G:=fun t m=>k1 ()=some r/\Fit [] [] t m) ?_ ?_
  ·refine Za<|Zr (fun n1 t m=>∃ (i1:Int),Z1p p0 p1 k1 n1 i1=some r/\Fit [(0,v0),(1,v1),(5,.int .i64 (i1))] [] t m) big ?_ ?_
   ·exact ⟨0,h,⟨⟨rfl,rfl,rfl,trivial⟩,.nil⟩⟩
   ·rintro n1 t m ⟨i1,h,hF⟩
    refine Zk hF ?_
    clear hF
    rcases n1 with _ | n1
    · exact Z0c h
    have h:Z1o p0 p1 k1 (Z1p p0 p1 k1 n1) i1=some r:=h
    unfold Z1o at h
    obtain ⟨k2,q2⟩ : ∃ k,k=Z1p p0 p1 k1 n1:=⟨_,rfl⟩
    try rw [<- q2] at h
    refine Z0<|Z0<|Z2<|Z7 rfl<|Z7 rfl<|Z6 _ (Z1f rfl (Shp.rd A0))<|Z6 _ (Z9 rfl rfl rfl)<|Z1<|Z03 h rfl (fun h=>?_) (fun h=>?_)
    ·refine Ze<|Z0<|Za<|Z0<|cH h fun c1 h=>bH h fun x1 j1 h=>cH h fun c2 h=>bH h fun x2 j2 h=>Zs<|Z8 _ (Z0e rfl)<|Z8 _ (Z0e rfl)<|Z8 _ (Z2u rfl rfl (Shp.rd A0) c1)<|Z8 _ (Z0e rfl)<|Z8 _ (Z0e rfl)<|Z8 _ (Z2u rfl rfl (Shp.rd A1) c2)<|Zo _ (az (fun (x1:api_Link)=>agg [.one (.int .i64 (x1.gEpoch)),b3' x1.gKey,b6' x1.gSig]) j1 (Zeg (E:=E_api_Link) (s:=[.one (.int .i64 (((p0.getD (i1).toNat api_Link_z)).gEpoch)),b3' (((p0.getD (i1).toNat api_Link_z)).gKey),b6' (((p0.getD (i1).toNat api_Link_z)).gSig)]) rfl (Z0p A0 Z0w) (Z04 c1) rfl rfl))<|Zo _ (az (fun (x2:api_Link)=>agg [.one (.int .i64 (x2.gEpoch)),b3' x2.gKey,b6' x2.gSig]) j2 (Zeg (E:=E_api_Link) (s:=[.one (.int .i64 (((p1.getD (i1).toNat api_Link_z)).gEpoch)),b3' (((p1.getD (i1).toNat api_Link_z)).gKey),b6' (((p1.getD (i1).toNat api_Link_z)).gSig)]) rfl (Z0p A1 Z0w) (Z04 c2) rfl rfl))<|Z8 _ (Zi6 (s:=[.one (.int .i64 (x1.gEpoch)),b3' x1.gKey,b6' x1.gSig]) (s':=[.one (.int .i64 (x2.gEpoch)),b3' x2.gKey,b6' x2.gSig]) rfl rfl rfl rfl _ (Ztk rfl Z05m (Ztk rfl Z63 (Z6q Z63))))<|Z01<|Z03 h rfl (fun h=>?_) (fun h=>?_)
     ·refine Z0<|Z2<|Z7 rfl<|Z1<|Zh ?_
      revert h; refine Zt fun h=>?_
      subst h
      exact ⟨_,(.cons (.tmp rfl) .nil),rfl⟩
     ·refine Ze<|bH h fun z1 e1 h=>Z2<|Z7 rfl<|Z6 _ (iz e1 (Z9 rfl rfl rfl))<|Z7 rfl<|Z1 ?_
      rw [q2] at h
      exact ⟨n1,Nat.lt_succ_self _,z1,h,⟨⟨rfl,rfl,rfl,trivial⟩,.nil⟩⟩
    ·exact Zz _ rfl<|⟨h,⟨trivial,.nil⟩⟩
  ·rintro t m ⟨h,hF⟩
   refine Zk hF ?_
   clear hF
   subst q1
   refine Z0<|Z2<|Z7 rfl<|Z1<|Zh ?_
   revert h; refine Zt fun h=>?_
   subst h
   exact ⟨_,(.cons (.tmp rfl) .nil),rfl⟩
def Z0x (p0:List (api_Link)) (n1:Int) (p1:List (api_Link)):Option Bool :=
 bnd (wrap .i64 ((p1.length:Int)+2)) fun z1 =>
 chk (Z9i 0 z1 p0.length) <|
 opt (Z3h (p0.take (n1).toNat) p1) fun y1 =>
 chk (imp y1 (inB (p1.length:Int) (z1).toNat)) <|
 chk (imp (y1&&((p0.getD ((p1.length:Int)).toNat api_Link_z).gEpoch==(-7))) (inB (wrap .i64 ((p1.length:Int)+1)) (z1).toNat)) <|
 some ((y1&&((p0.getD ((p1.length:Int)).toNat api_Link_z).gEpoch==(-7)))&&((p0.getD (wrap .i64 ((p1.length:Int)+1)).toNat api_Link_z).gEpoch==(-8)))
theorem Z4v {W:World} {r:Bool} {p0:List (api_Link)} {n1:Int} {p1:List (api_Link)} {v0:Value} {v1:Value} (h:Z0x p0 n1 p1=some r) (A0:RdSl E_api_Link W v0 p0) (N0:Z9i 0 n1 p0.length=true) (A1:RdSl E_api_Link W v1 p1) :
    Calls Tryz.prog 40 [(Z4w 97 v0 0 (n1).toNat),v1].toArray W (Z39 W (.bool (r))):=by
 unfold Z0x at h
 refine Zc mo ok40 rfl ?_
 refine Z0<|Z2<|Z7 rfl<|Z1<|Z0<|Z2<|Z7 rfl<|Z6 _ (Z1f rfl (Shp.rd A1))<|Z7 rfl<|Z1<|Z0<|bH h fun z1 e1 h=>cH h fun c1 h=>Z2<|Z7 rfl<|Z7 rfl<|Z6 _ (iz e1 (Z9 rfl rfl rfl))<|Z6 _ (Zyf (lz:=0) (hz:=z1) rfl (Shp.rd A0) N0 .no (.yes rfl) c1)<|Z7 rfl<|Z1<|Z0<|oH h fun y1 f1 h=>cH h fun c2 h=>cH h fun c3 h=>Z2<|Z7 rfl<|Z7 rfl<|Z6 _ (Z0f rfl (fun w hw=>Zbh f1 ((Zc5 (Z0p A0 Z0w) N0) w hw) ((Z0p A1 Z0w) w hw)))<|Z7 rfl<|Zrb rfl rfl rfl (fun hg1=>Z2j rfl _ (Z0e rfl) (Z2j rfl _ (Z0e rfl) (Z2j rfl _ (Zjx rfl rfl (Shp.rd A0) c1 (Zs6 c2 hg1)) (Z2j rfl _ (Z4e rfl) (Z2j rfl _ (az (fun (zz:api_Link)=>.int .i64 (zz.gEpoch)) rfl (Zyd (E:=E_api_Link) (s:=[.one (.int .i64 (((p0.getD ((p1.length:Int)).toNat api_Link_z)).gEpoch)),b3' (((p0.getD ((p1.length:Int)).toNat api_Link_z)).gKey),b6' (((p0.getD ((p1.length:Int)).toNat api_Link_z)).gSig)]) (c:=0) rfl (Z0p A0 Z0w) (Z04 (Zjo c1 (Zs6 c2 hg1))) rfl rfl)) (Z2j rfl _ (Z9 rfl rfl rfl) (Z3j))))))) (fun hg1=>rfl) rfl<|Z7 rfl<|Zrb rfl rfl rfl (fun hg1=>Z2j rfl _ (Z0e rfl) (Z2j rfl _ (Z0e rfl) (Z2j rfl _ (iz rfl (Z9 rfl rfl rfl)) (Z2j rfl _ (Zjx rfl rfl (Shp.rd A0) c1 (Zs6 c3 hg1)) (Z2j rfl _ (Z4e rfl) (Z2j rfl _ (az (fun (zz:api_Link)=>.int .i64 (zz.gEpoch)) rfl (Zyd (E:=E_api_Link) (s:=[.one (.int .i64 (((p0.getD (wrap .i64 ((p1.length:Int)+1)).toNat api_Link_z)).gEpoch)),b3' (((p0.getD (wrap .i64 ((p1.length:Int)+1)).toNat api_Link_z)).gKey),b6' (((p0.getD (wrap .i64 ((p1.length:Int)+1)).toNat api_Link_z)).gSig)]) (c:=0) rfl (Z0p A0 Z0w) (Z04 (Zjo c1 (Zs6 c3 hg1))) rfl rfl)) (Z2j rfl _ (Z9 rfl rfl rfl) (Z3j)))))))) (fun hg1=>rfl) rfl<|Z7 rfl<|Z1<|Zh ?_
 revert h; refine Zt fun h=>?_
 subst h
 exact ⟨_,(.cons (.tmp rfl) .nil),rfl⟩
def Z0z (k1:(List (LI))->Option Bool) (k2:(List (LI))->Int->Option Bool) (l1:List (LI)) (i1:Int):Option Bool :=
 br ((decide (i1<(l1.length:Int)))) (
 bnd (([1,0,0,0,0,0,0,0,0,0,0,0,0,0,0,0,0,0,0,0,0,0,0,0,0,0,0,0,0,0,0,0]:LI)) fun z1 =>
 chk (inB i1 l1.length) <|
 bnd (l1.getD (i1).toNat (List.replicate 32 0)) fun x1 =>
 bnd (Zdn (List.replicate 32 0) l1 (i1).toNat z1) fun l2 =>
 bnd (wrap .i64 (i1+1)) fun z2 =>
 k2 l2 z2
 ) (
 k1 l1
 )
def Z0k (k1:(List (LI))->Option Bool):Nat->(List (LI))->Int->Option Bool
  | 0,_,_=>none
  | n+1,l1,i1=>Z0z k1 (Z0k k1 n) l1 i1
def Z11 (k1:(List (LI))->Option Bool) (k2:(List (LI))->Int->Option Bool) (l1:List (LI)) (i1:Int):Option Bool :=
 br ((decide (i1<32))) (
 bnd (([2,0,0,0,0,0,0,0,0,0,0,0,0,0,0,0,0,0,0,0,0,0,0,0,0,0,0,0,0,0,0,0]:LI)) fun z1 =>
 chk (decide ((l1.length+([z1]:List (LI)).length)*32<=140737488355328)) <|
 bnd (l1++([z1]:List (LI))) fun l2 =>
 bnd (wrap .i64 (i1+1)) fun z2 =>
 k2 l2 z2
 ) (
 k1 l1
 )
def Z0l (k1:(List (LI))->Option Bool):Nat->(List (LI))->Int->Option Bool
  | 0,_,_=>none
  | n+1,l1,i1=>Z11 k1 (Z0l k1 n) l1 i1
def Z12 (p4:LI) (k1:(LI)->(LI)->Option Bool) (k2:(LI)->(LI)->Int->Option Bool) (l1:LI) (l2:LI) (i1:Int):Option Bool :=
 br ((decide (i1<(p4.length:Int)))) (
 chk (inB i1 ((p4.length:Int)).toNat) <|
 bnd (l1.getD (i1).toNat 0) fun z1 =>
 bnd (Z4 .xor .u8 z1 64) fun z2 =>
 chk (inB i1 ((p4.length:Int)).toNat) <|
 bnd (Zdn 0 l1 (i1).toNat z2) fun l3 =>
 chk (Z9i 0 (p4.length:Int) l3.length) <|
 chk (Z9i 0 (p4.length:Int) l3.length) <|
 chk (Z9i 0 (p4.length:Int) l3.length) <|
 chk (Z9i 0 (p4.length:Int) l3.length) <|
 chk (inB i1 ((p4.length:Int)).toNat) <|
 bnd (l3.getD (i1).toNat 0) fun z3 =>
 chk (decide ((l2.length+([z3]:LI).length)*1<=140737488355328)) <|
 bnd (l2++([z3]:LI)) fun l4 =>
 bnd (wrap .i64 (i1+1)) fun z4 =>
 k2 l3 l4 z4
 ) (
 k1 l1 l2
 )
def Z0m (p4:LI) (k1:(LI)->(LI)->Option Bool):Nat->(LI)->(LI)->Int->Option Bool
  | 0,_,_,_=>none
  | n+1,l1,l2,i1=>Z12 p4 k1 (Z0m p4 k1 n) l1 l2 i1
def Z3d (p0:LI) (p1:List (api_Link)) (p2:Int) (p3:Int) (p4:LI) (p5:LI):Option Bool :=
 opt (Z4o p1) fun y1 =>
 chk (decide ((([]:LI).length+p4.length)*1<=140737488355328)) <|
 bnd (([]:LI)++p4) fun l1 =>
 chk (decide ((l1.length+([165]:LI).length)*1<=140737488355328)) <|
 bnd (l1++([165]:LI)) fun l2 =>
 chk (Z9i 0 (p4.length:Int) l2.length) <|
 opt (Z58 p0 (y1.1.take (y1.2).toNat)) fun y2 =>
 opt (Z2x p0 p1) fun y3 =>
 opt (Z58 p0 (y1.1.take (y1.2).toNat)) fun y4 =>
 opt (Z28 y2.1 y3.1) fun y5 =>
 br (((!y5)||(y2.2 != y3.2))) (
 some false
 ) (
 jn (fun (l3:List (LI))=>jn (fun (l4:List (LI))=>opt (Z66 p0 (y1.1.take (y1.2).toNat) p2 p3 (l2.take ((p4.length:Int)).toNat) p5) fun y6 =>
 jn (fun (i1:Bool)=>br (i1) (
 some false
 ) (
 jn (fun (l5:LI) (l6:LI)=>opt (Z66 p0 (y1.1.take (y1.2).toNat) p2 p3 (l5.take ((p4.length:Int)).toNat) p5) fun y7 =>
 opt (Z0r p0 p1 p2 p3 l6 p5) fun y8 =>
 chk (imp (!(y7 != y8)) ((Z1z (l5.take ((p4.length:Int)).toNat) l6).isSome)) <|
 br (((y7 != y8)||(!((Z1z (l5.take ((p4.length:Int)).toNat) l6).getD false)))) (
 some false
 ) (
 br (((p1.length:Int)==0)) (
 some true
 ) (
 bnd (wrap .i64 ((p1.length:Int)-1)) fun z1 =>
 chk (inB 0 p1.length) <|
 bnd (p1.getD (0:Int).toNat api_Link_z) fun x1 =>
 chk (inB z1 (y1.2).toNat) <|
 bnd (y1.1.getD (z1).toNat api_Link_z) fun x2 =>
 bnd (Zdn api_Link_z y1.1 (z1).toNat (⟨x2.gEpoch,x1.gKey,x2.gSig⟩:api_Link)) fun l7 =>
 chk (Z9i 0 y1.2 l7.length) <|
 chk (Z9i 0 y1.2 l7.length) <|
 chk (Z9i 0 y1.2 l7.length) <|
 chk (decide ((([]:List (api_Link)).length+(l7.take (y1.2).toNat).length)*104<=140737488355328)) <|
 bnd (([]:List (api_Link))++(l7.take (y1.2).toNat)) fun l8 =>
 opt (Z58 p0 (l7.take (y1.2).toNat)) fun y9 =>
 opt (Z2x p0 l8) fun y10 =>
 opt (Z28 y9.1 y10.1) fun y11 =>
 chk (imp (!((!y11)||(y9.2 != y10.2))) ((Z0x l7 y1.2 l8).isSome)) <|
 br ((((!y11)||(y9.2 != y10.2))||(!((Z0x l7 y1.2 l8).getD false)))) (
 some false
 ) (
 opt (Z66 p0 (l7.take (y1.2).toNat) p2 p3 (l5.take ((p4.length:Int)).toNat) p5) fun y12 =>
 opt (Z0r p0 l8 p2 p3 l6 p5) fun y13 =>
 chk (imp (y12==y13) ((Z0x l7 y1.2 l8).isSome)) <|
 some ((y12==y13)&&((Z0x l7 y1.2 l8).getD false))
 )
 )
 )) fun k1=>Z0m p4 k1 big l2 [] 0
 )) fun k2=>bnd (wrap .i64 ((y3.1.length:Int)+32)) fun z2 =>
 chk (imp (!((l4.length:Int) != z2)) ((Z28 y4.1 y3.1).isSome)) <|
 br ((((l4.length:Int) != z2)||(!((Z28 y4.1 y3.1).getD false)))) (
 chk (imp (!true) ((Z0r p0 p1 p2 p3 p4 p5).isSome)) <|
 chk (imp (!true) ((Z0x y1.1 y1.2 p1).isSome)) <|
 chk (imp (!true) ((Z1z (l2.take ((p4.length:Int)).toNat) p4).isSome)) <|
 chk (imp (!true) ((Z9i 0 (wrap .i64 ((p4.length:Int)+1)) l2.length&&inB (p4.length:Int) (wrap .i64 ((p4.length:Int)+1)).toNat))) <|
 k2 true
 ) (
 opt (Z3u l3 y4.1) fun y14 =>
 chk (imp (!(!y14)) ((Z0r p0 p1 p2 p3 p4 p5).isSome)) <|
 chk (imp (!((!y14)||(y6 != ((Z0r p0 p1 p2 p3 p4 p5).getD 0)))) ((Z0x y1.1 y1.2 p1).isSome)) <|
 chk (imp (!(((!y14)||(y6 != ((Z0r p0 p1 p2 p3 p4 p5).getD 0)))||(!((Z0x y1.1 y1.2 p1).getD false)))) ((Z1z (l2.take ((p4.length:Int)).toNat) p4).isSome)) <|
 chk (imp (!((((!y14)||(y6 != ((Z0r p0 p1 p2 p3 p4 p5).getD 0)))||(!((Z0x y1.1 y1.2 p1).getD false)))||(!((Z1z (l2.take ((p4.length:Int)).toNat) p4).getD false)))) ((Z9i 0 (wrap .i64 ((p4.length:Int)+1)) l2.length&&inB (p4.length:Int) (wrap .i64 ((p4.length:Int)+1)).toNat))) <|
 k2 (((((!y14)||(y6 != ((Z0r p0 p1 p2 p3 p4 p5).getD 0)))||(!((Z0x y1.1 y1.2 p1).getD false)))||(!((Z1z (l2.take ((p4.length:Int)).toNat) p4).getD false)))||(l2.getD ((p4.length:Int)).toNat 0 != 165))
 )) fun k3=>Z0l k3 big l3 0) fun k4=>Z0k k4 big y2.1 0
 )
theorem fareboxlaw30_RotateFollows_spec {W:World} {r:Bool} {p0:LI} {p1:List (api_Link)} {p2:Int} {p3:Int} {p4:LI} {p5:LI} {v1:Value} {v4:Value} (h:Z3d p0 p1 p2 p3 p4 p5=some r) (hG:Globs W) (A1:RdSl E_api_Link W v1 p1) (A4:RdSl (El.int .u8) W v4 p4) :
    Calls Tryz.prog 7 [agg [b3' p0],v1,.int .i64 (p2),.int .i64 (p3),v4,agg [b6' p5]].toArray W (Z39 W (.bool (r))):=by
 unfold Z3d at h
 refine Zc mo ok7 rfl ?_
 refine Z0<|Z2<|Zg (Z0j (s:=[b3' p0]) rfl fun b1 u1=>Zg (Z0j (s:=[b6' p5]) rfl fun b2 u2=>Z7 rfl<|Z1<|Z0<|oH h fun y1 f1 h=>Z2<|Z7 rfl<|Zg (Z0g rfl (fun w hw=>Zcr  f1 ((Z0p A1 Z0w) w hw)) fun v6 o1 R1=>?_)))
 obtain ⟨v8,w1,rfl,rfl,O1,H11⟩:=R1
 refine Z7 rfl<|Z1<|Z0<|Z2<|Z7 rfl<|Z1<|Z0<|cH h fun c1 h=>bH h fun l1 g1 h=>Z2<|Z7 rfl<|Z7 rfl<|Zg (Z32 (E:=(El.int .u8)) g1 rfl Z3l .here rfl (Z0p A4 Z0w) c1 fun v16 w2 O2=>Z7 rfl<|Z1<|Z0<|cH h fun c2 h=>bH h fun l2 g2 h=>Z2<|Z7 rfl<|Zg (Z5j (E:=(El.int .u8)) (xs:=[165]) (.one rfl rfl rfl BdR.nil) (.cons (p:=[.one (.int .u8 (165))]) rfl .nil) rfl fun v20 w3 O3=>Zg (Z32 (E:=(El.int .u8)) g2 rfl O2 (.app .here) rfl (Z05 O3 .here) c2 fun v25 w4 O4=>Z7 rfl<|Z1<|Z0<|cH h fun c3 h=>Z2<|Z7 rfl<|Z7 rfl<|Z6 _ (Z1f rfl (Shp.rd A4))<|Z6 _ (Znh (lz:=0) (hz:=(p4.length:Int)) rfl (Shp.own O4) .no (.yes rfl) c3)<|Z7 rfl<|Z1<|Z0<|oH h fun y2 f2 h=>Z2<|Z6 _ (Zy (p:=[b3' p0]) rfl (.app (.app (.app .t1))) rfl)<|Z7 rfl<|Zg (Z0g rfl (fun w hw=>Z6u  f2 (hG.at hw (by simp)) ((Zc5 (Z05 O1 (.app (.app .here))) H11) w hw)) fun v32 o2 R2=>?_))))
 obtain ⟨v34,w5,rfl,rfl,O5⟩:=R2
 refine Z7 rfl<|Z6 _ (Z2m rfl rfl)<|Z6 _ (Z2m rfl rfl)<|Z7 rfl<|Z7 rfl<|Z1<|Z0<|oH h fun y3 f3 h=>Z2<|Z6 _ (Zy (p:=[b3' p0]) rfl (.app (.app (.app (.app .t1)))) rfl)<|Z7 rfl<|Zg (Z0g rfl (fun w hw=>Z5k  f3 (hG.at hw (by simp)) ((Z0p A1 Z0w) w hw)) fun v39 o3 R3=>?_)
 obtain ⟨v41,w6,rfl,rfl,O6⟩:=R3
 refine Z7 rfl<|Z6 _ (Z2m rfl rfl)<|Z6 _ (Z2m rfl rfl)<|Z7 rfl<|Z7 rfl<|Z1<|Z0<|oH h fun y4 f4 h=>Z2<|Z6 _ (Zy (p:=[b3' p0]) rfl (.app (.app (.app (.app (.app .t1))))) rfl)<|Z7 rfl<|Zg (Z0g rfl (fun w hw=>Z6u  f4 (hG.at hw (by simp)) ((Zc5 (Z05 O1 (.app (.app (.app (.app .here))))) H11) w hw)) fun v46 o4 R4=>?_)
 obtain ⟨v48,w7,rfl,rfl,O7⟩:=R4
 refine Z7 rfl<|Z6 _ (Z2m rfl rfl)<|Z6 _ (Z2m rfl rfl)<|Z7 rfl<|Z7 rfl<|Z1<|Z0<|Z0<|oH h fun y5 f5 h=>Z2<|Z7 rfl<|Z7 rfl<|Z6 _ (Z0f rfl (fun w hw=>Z4x f5 ((Z05 O5 (.app (.app .here))) w hw) ((Z05 O6 (.app .here)) w hw)))<|Z6 _ (Zhc rfl rfl)<|Z7 rfl<|Z9j rfl rfl rfl (fun hg1=>Z2j rfl _ (Z0e rfl) (Z2j rfl _ (Z0e rfl) (Z2j rfl _ (Z9 rfl rfl rfl) (Z3j)))) (fun hg1=>rfl) rfl<|Z1<|Z03 h rfl (fun h=>?_) (fun h=>?_)
 ·refine Z0<|Z2<|Z7 rfl<|Z1<|Zh ?_
  revert h; refine Zt fun h=>?_
  subst h
  exact ⟨_,(.cons (.tmp rfl) .nil),rfl⟩
 ·refine Ze<|Z0<|Z0<|Z2<|Z7 rfl<|Z1<|jH h fun k1 q1 h=>Zn (G:=fun t m=>∃ (l3:List (LI)) (v100:Value) (w8:List Zf),k1 l3=some r/\Z0q Zm v100 w8 l3/\Fit [(1,v1),(2,.int .i64 (p2)),(3,.int .i64 (p3)),(4,v4),(6,pt' b1),(11,pt' b2),(13,(Z4w 97 v8 0 (y1.2).toNat)),(14,(Z4w 1 v25 0 ((p4.length:Int)).toNat)),(15,v100),(17,v41),(19,v48)] (w7++(w6++(w4++(w1++(ck b2 27 [b6' p5]::(ck b1 29 [b3' p0]::(w8 ++ []))))))) t m) ?_ ?_
  ·refine Za<|Zr (fun n1 t m=>∃ (l4:List (LI)) (i1:Int) (v131:Value) (w9:List Zf),Z0k k1 n1 l4 i1=some r/\Z0q Zm v131 w9 l4/\Fit [(1,v1),(2,.int .i64 (p2)),(3,.int .i64 (p3)),(4,v4),(6,pt' b1),(11,pt' b2),(13,(Z4w 97 v8 0 (y1.2).toNat)),(14,(Z4w 1 v25 0 ((p4.length:Int)).toNat)),(15,v131),(17,v41),(19,v48),(21,.int .i64 (i1))] (w7++(w6++(w4++(w1++(ck b2 27 [b6' p5]::(ck b1 29 [b3' p0]::(w9 ++ []))))))) t m) big ?_ ?_
   ·exact ⟨y2.1,0,v34,w5,h,O5,⟨⟨rfl,rfl,rfl,rfl,rfl,rfl,rfl,rfl,rfl,rfl,rfl,rfl,trivial⟩,(.all .here (.all .here (.all (.app .here) (.all (.app (.app .here)) (.one (.app (.app .here)) (.one (.app (.app .here)) (.all .here .nil)))))))⟩⟩
   ·rintro n1 t m ⟨l4,i1,v131,w9,h,O8,hF⟩
    refine Zk hF ?_
    clear hF
    rcases n1 with _ | n1
    · exact Z0c h
    have h:Z0z k1 (Z0k k1 n1) l4 i1=some r:=h
    unfold Z0z at h
    obtain ⟨k2,q2⟩ : ∃ k,k=Z0k k1 n1:=⟨_,rfl⟩
    try rw [<- q2] at h
    refine Z0<|Z0<|Z2<|Z7 rfl<|Z7 rfl<|Z6 _ (Z1f rfl (Shp.own O8))<|Z6 _ (Z9 rfl rfl rfl)<|Z1<|Z03 h rfl (fun h=>?_) (fun h=>?_)
    ·refine Ze<|Z0<|Za<|bH h fun z1 e1 h=>cH h fun c4 h=>bH h fun x1 j1 h=>bH h fun l5 g3 h=>Z2<|Z7 rfl<|Z7 rfl<|Z6 _ (az (fun z=>agg [.ints .u8 32 z]) e1 (Zcj (.one rfl rfl rfl BdR.nil)))<|Z6 _ (Z2u rfl rfl (Shp.own O8) c4)<|Zg (Zjm (E:=Zm) g3 O8 (.app (.app (.app (.app .t2)))) rfl rfl rfl (Z04 c4) fun w10 O9=>Z1<|bH h fun z2 e2 h=>Z2<|Z7 rfl<|Z6 _ (iz e2 (Z9 rfl rfl rfl))<|Z7 rfl<|Z1 ?_)
     rw [q2] at h
     exact ⟨n1,Nat.lt_succ_self _,l5,z2,v131,w10,h,O9,⟨⟨rfl,rfl,rfl,rfl,rfl,rfl,rfl,rfl,rfl,rfl,rfl,rfl,trivial⟩,(.all (.app .here) (.all (.app .here) (.all (.app .here) (.all (.app .here) (.one (.app .here) (.one (.app .here) (.all .here .nil)))))))⟩⟩
    ·exact Zz _ rfl<|⟨l4,v131,w9,h,O8,⟨⟨rfl,rfl,rfl,rfl,rfl,rfl,rfl,rfl,rfl,rfl,rfl,trivial⟩,(.all .here (.all .here (.all .here (.all .here (.o (.o (.all .here .nil)))))))⟩⟩
  ·rintro t m ⟨l3,v100,w8,h,O10,hF⟩
   refine Zk hF ?_
   clear hF
   subst q1
   refine Z0<|Z2<|Z7 rfl<|Z7 rfl<|Z1<|Z0<|Z0<|Z2<|Z7 rfl<|Z1<|jH h fun k3 q3 h=>Zn (G:=fun t m=>∃ (l6:List (LI)) (v203:Value) (w11:List Zf),k3 l6=some r/\Z45 Zm v100 l3 v203 l6 w11/\Fit [(1,v1),(2,.int .i64 (p2)),(3,.int .i64 (p3)),(4,v4),(6,pt' b1),(11,pt' b2),(13,(Z4w 97 v8 0 (y1.2).toNat)),(14,(Z4w 1 v25 0 ((p4.length:Int)).toNat)),(15,v100),(17,v41),(19,v48),(22,v203)] (w7++(w6++(w4++(w1++(ck b2 27 [b6' p5]::(ck b1 29 [b3' p0]::(w11 ++ []))))))) t m) ?_ ?_
   ·refine Za<|Zr (fun n2 t m=>∃ (l7:List (LI)) (i2:Int) (v239:Value) (w12:List Zf),Z0l k3 n2 l7 i2=some r/\Z45 Zm v100 l3 v239 l7 w12/\Fit [(1,v1),(2,.int .i64 (p2)),(3,.int .i64 (p3)),(4,v4),(6,pt' b1),(11,pt' b2),(13,(Z4w 97 v8 0 (y1.2).toNat)),(14,(Z4w 1 v25 0 ((p4.length:Int)).toNat)),(15,v100),(17,v41),(19,v48),(22,v239),(23,.int .i64 (i2))] (w7++(w6++(w4++(w1++(ck b2 27 [b6' p5]::(ck b1 29 [b3' p0]::(w12 ++ []))))))) t m) big ?_ ?_
    ·exact ⟨l3,0,v100,w8,h,(Zh2.grow (Z0q.oin O10)),⟨⟨rfl,rfl,rfl,rfl,rfl,rfl,rfl,rfl,rfl,rfl,rfl,rfl,rfl,trivial⟩,(.all .here (.all .here (.all .here (.all .here (.o (.o (.all .here .nil)))))))⟩⟩
    ·rintro n2 t m ⟨l7,i2,v239,w12,h,G242,hF⟩
     refine Zk hF ?_
     clear hF
     rcases n2 with _ | n2
     · exact Z0c h
     have h:Z11 k3 (Z0l k3 n2) l7 i2=some r:=h
     unfold Z11 at h
     obtain ⟨k4,q4⟩ : ∃ k,k=Z0l k3 n2:=⟨_,rfl⟩
     try rw [<- q4] at h
     refine Z0<|Z0<|Z2<|Z7 rfl<|Z6 _ (Z9 rfl rfl rfl)<|Z1<|Z03 h rfl (fun h=>?_) (fun h=>?_)
     ·refine Ze<|Z0<|Za<|bH h fun z3 e3 h=>cH h fun c5 h=>bH h fun l8 g4 h=>Z2<|Z7 rfl<|Z6 _ (az (fun z=>agg [.ints .u8 32 z]) e3 (Zcj (.one rfl rfl rfl BdR.nil)))<|Zg (Z5j (E:=Zm) (xs:=[z3]) (.agg rfl rfl rfl BdR.nil) (.cons (p:=[b3' z3]) rfl .nil) rfl fun v250 w13 O11=>Zg (Zo8 (E:=Zm) g4 rfl G242 (.app (.app (.app (.app (.app .t2))))) rfl (Z05 O11 .here) c5 fun v255 w14 O12=>Z7 rfl<|Z1<|bH h fun z4 e4 h=>Z2<|Z7 rfl<|Z6 _ (iz e4 (Z9 rfl rfl rfl))<|Z7 rfl<|Z1 ?_))
      rw [q4] at h
      exact ⟨n2,Nat.lt_succ_self _,l8,z4,v255,w14,h,O12,⟨⟨rfl,rfl,rfl,rfl,rfl,rfl,rfl,rfl,rfl,rfl,rfl,rfl,rfl,trivial⟩,(.all (.app (.app .here)) (.all (.app (.app .here)) (.all (.app (.app .here)) (.all (.app (.app .here)) (.one (.app (.app .here)) (.one (.app (.app .here)) (.all .here .nil)))))))⟩⟩
     ·exact Zz _ rfl<|⟨l7,v239,w12,h,G242,⟨⟨rfl,rfl,rfl,rfl,rfl,rfl,rfl,rfl,rfl,rfl,rfl,rfl,trivial⟩,(.all .here (.all .here (.all .here (.all .here (.o (.o (.all .here .nil)))))))⟩⟩
   ·rintro t m ⟨l6,v203,w11,h,G206,hF⟩
    refine Zk hF ?_
    clear hF
    subst q3
    refine Z0<|oH h fun y6 f6 h=>Z2<|Z6 _ (Zy (p:=[b3' p0]) rfl (.app (.app (.app (.app .t1)))) rfl)<|Z7 rfl<|Z7 rfl<|Z7 rfl<|Z7 rfl<|Z6 _ (Zy (p:=[b6' p5]) rfl (.app (.app (.app (.app .here)))) rfl)<|Z6 _ (Z0f rfl (fun w hw=>Z9a f6 (hG.at hw (by simp)) ((Zc5 (Z05 O1 (.app (.app (.app .here)))) H11) w hw) ((Zc5 (Z05 O4 (.app (.app .here))) c3) w hw)))<|Z7 rfl<|Z1<|Z0<|Z0<|jH h fun k5 q5 h=>Zn (G:=fun t m=>∃ (i3:Bool),k5 i3=some r/\Fit [(1,v1),(2,.int .i64 (p2)),(3,.int .i64 (p3)),(6,pt' b1),(11,pt' b2),(13,(Z4w 97 v8 0 (y1.2).toNat)),(14,(Z4w 1 v25 0 ((p4.length:Int)).toNat)),(149,.bool (i3))] (w4++(w1++(ck b2 27 [b6' p5]::(ck b1 29 [b3' p0] :: [])))) t m) ?_ ?_
    ·refine Z2<|bH h fun z5 e5 h=>cH h fun c6 h=>Z7 rfl<|Z6 _ (Z1f rfl (Z45.shp G206))<|Z7 rfl<|Z6 _ (Z1f rfl (Shp.own O6))<|Z6 _ (iz e5 (Z9 rfl rfl rfl))<|Z6 _ (Z9 rfl rfl rfl)<|Z7 rfl<|Z9j rfl rfl rfl (fun hg1=>Z2j rfl _ (Z0e rfl) (Z2j rfl _ (Z0e rfl) (Z2j rfl _ (Z0f rfl (fun w hw=>Z4x (getD_some (z:=false) (Zav c6 hg1)) ((Z05 O7 .here) w hw) ((Z05 O6 (.app .here)) w hw))) (Z2j rfl _ (Zhc rfl rfl) (Z3j))))) (fun hg1=>rfl) rfl<|Z7 rfl<|Z0sf (tc:=109) h rfl (fun h=>?_) (fun h=>?_)
     ·exact cH h fun c7 h=>cH h fun c8 h=>cH h fun c9 h=>cH h fun c10 h=>Z02y rfl rfl<|Z02y rfl rfl<|Z02y rfl rfl<|Z02y rfl rfl<|Z6 _ (Z0el rfl rfl)<|Z7 rfl<|Z9j rfl rfl rfl (fun hg1=>Z2j rfl _ (Z0e rfl) (Z2j rfl _ (Zy (p:=[b3' p0]) rfl (.app (.app (.app (.app .t1)))) rfl) (Z2j rfl _ (Z0e rfl) (Z2j rfl _ (Z0e rfl) (Z2j rfl _ (Z0e rfl) (Z2j rfl _ (Z0e rfl) (Z2j rfl _ (Zy (p:=[b6' p5]) rfl (.app (.app (.app (.app .here)))) rfl) (Z2j rfl _ (Z0f rfl (fun w hw=>Z42 (getD_some (z:=0) (Zav c7 hg1)) (hG.at hw (by simp)) ((Z0p A1 Z0w) w hw) ((Z0p A4 Z0w) w hw))) (Z2j rfl _ (Z9 rfl rfl rfl) (Z3j)))))))))) (fun hg1=>rfl) rfl<|Z7 rfl<|Z9j rfl rfl rfl (fun hg1=>Z2j rfl _ (Z0e rfl) (Z2j rfl _ (Z0e rfl) (Z2j rfl _ (Z0f rfl (fun w hw=>Z4v (getD_some (z:=false) (Zav c8 hg1)) ((Z05 O1 (.app (.app (.app .here)))) w hw) H11 ((Z0p A1 Z0w) w hw))) (Z2j rfl _ (Zhc rfl rfl) (Z3j))))) (fun hg1=>rfl) rfl<|Z7 rfl<|Z9j rfl rfl rfl (fun hg1=>Z2j rfl _ (Z0e rfl) (Z2j rfl _ (Z0e rfl) (Z2j rfl _ (Z0f rfl (fun w hw=>Z6n (getD_some (z:=false) (Zav c9 hg1)) ((Zc5 (Z05 O4 (.app (.app .here))) c3) w hw) ((Z0p A4 Z0w) w hw))) (Z2j rfl _ (Zhc rfl rfl) (Z3j))))) (fun hg1=>rfl) rfl<|Z7 rfl<|Z9j rfl rfl rfl (fun hg1=>Z2j rfl _ (Z0e rfl) (Z2j rfl _ (Z0e rfl) (Z2j rfl _ (Z1f rfl (Shp.rd A4)) (Z2j rfl _ (iz rfl (Z9 rfl rfl rfl)) (Z2j rfl _ (Zyf (lz:=0) (hz:=wrap .i64 ((p4.length:Int)+1)) rfl (Shp.own O4) c3 .no (.yes rfl) (Zut (Zav c10 hg1))) (Z2j rfl _ (Z0e rfl) (Z2j rfl _ (Z1f rfl (Shp.rd A4)) (Z2j rfl _ (Zjx rfl rfl (Shp.own O4) (Zut (Zav c10 hg1)) (Z009 (Zav c10 hg1))) (Z2j rfl _ (iz rfl (Z3y (E:=(El.int .u8)) (s:=[.one (.int .u8 (l2.getD ((p4.length:Int)).toNat 0))]) rfl (Z05 O4 (.app (.app .here))) (Z04 (Zjo (Zut (Zav c10 hg1)) (Z009 (Zav c10 hg1)))) rfl rfl)) (Z2j rfl _ (Z9 rfl rfl rfl) (Z3j))))))))))) (fun hg1=>rfl) rfl<|Z1<|⟨true,h,⟨⟨rfl,rfl,rfl,rfl,rfl,rfl,rfl,rfl,trivial⟩,(.all (.app (.app .here)) (.all (.app (.app .here)) (.one (.app (.app .here)) (.one (.app (.app .here)) .nil))))⟩⟩
     ·refine oH h fun y7 f7 h=>cH h fun c11 h=>cH h fun c12 h=>cH h fun c13 h=>cH h fun c14 h=>Z07w rfl _ (Z0e rfl)<|Z07w rfl _ (Z0e rfl)<|Z0sg rfl (Z4f (mS:=w11++w7) rfl (Z0ei (.app (.app (.app (.app .t2)))) .here) (fun w hw=>Zc0  f7 (Z02f hw (Z0ei (.app (.app (.app (.app .t2)))) .here)) (Z45.base G206) (Z0q.oin O7)) fun v290 o5 R5=>?_)
      obtain ⟨w15,w16,rfl,rfl,O13,O14⟩:=R5
      exact Z07w rfl _ (Zhc rfl rfl)<|Z6 _ (Z0ek rfl rfl)<|Z7 rfl<|Z9j rfl rfl rfl (fun hg1=>Z2j rfl _ (Z0e rfl) (Z2j rfl _ (Zy (p:=[b3' p0]) rfl (.app (.app (.app (.app (.app .t1))))) rfl) (Z2j rfl _ (Z0e rfl) (Z2j rfl _ (Z0e rfl) (Z2j rfl _ (Z0e rfl) (Z2j rfl _ (Z0e rfl) (Z2j rfl _ (Zy (p:=[b6' p5]) rfl (.app (.app (.app (.app (.app .here))))) rfl) (Z2j rfl _ (Z0f rfl (fun w hw=>Z42 (getD_some (z:=0) (Zav c11 hg1)) (hG.at hw (by simp)) ((Z0p A1 Z0w) w hw) ((Z0p A4 Z0w) w hw))) (Z2j rfl _ (Z9 rfl rfl rfl) (Z3j)))))))))) (fun hg1=>rfl) rfl<|Z7 rfl<|Z9j rfl rfl rfl (fun hg1=>Z2j rfl _ (Z0e rfl) (Z2j rfl _ (Z0e rfl) (Z2j rfl _ (Z0f rfl (fun w hw=>Z4v (getD_some (z:=false) (Zav c12 hg1)) ((Z05 O1 (.app (.app (.app (.app .here))))) w hw) H11 ((Z0p A1 Z0w) w hw))) (Z2j rfl _ (Zhc rfl rfl) (Z3j))))) (fun hg1=>rfl) rfl<|Z7 rfl<|Z9j rfl rfl rfl (fun hg1=>Z2j rfl _ (Z0e rfl) (Z2j rfl _ (Z0e rfl) (Z2j rfl _ (Z0f rfl (fun w hw=>Z6n (getD_some (z:=false) (Zav c13 hg1)) ((Zc5 (Z05 O4 (.app (.app (.app .here)))) c3) w hw) ((Z0p A4 Z0w) w hw))) (Z2j rfl _ (Zhc rfl rfl) (Z3j))))) (fun hg1=>rfl) rfl<|Z7 rfl<|Z9j rfl rfl rfl (fun hg1=>Z2j rfl _ (Z0e rfl) (Z2j rfl _ (Z0e rfl) (Z2j rfl _ (Z1f rfl (Shp.rd A4)) (Z2j rfl _ (iz rfl (Z9 rfl rfl rfl)) (Z2j rfl _ (Zyf (lz:=0) (hz:=wrap .i64 ((p4.length:Int)+1)) rfl (Shp.own O4) c3 .no (.yes rfl) (Zut (Zav c14 hg1))) (Z2j rfl _ (Z0e rfl) (Z2j rfl _ (Z1f rfl (Shp.rd A4)) (Z2j rfl _ (Zjx rfl rfl (Shp.own O4) (Zut (Zav c14 hg1)) (Z009 (Zav c14 hg1))) (Z2j rfl _ (iz rfl (Z3y (E:=(El.int .u8)) (s:=[.one (.int .u8 (l2.getD ((p4.length:Int)).toNat 0))]) rfl (Z05 O4 (.app (.app (.app .here)))) (Z04 (Zjo (Zut (Zav c14 hg1)) (Z009 (Zav c14 hg1)))) rfl rfl)) (Z2j rfl _ (Z9 rfl rfl rfl) (Z3j))))))))))) (fun hg1=>rfl) rfl<|Z1<|⟨(((((!y7)||(y6 != ((Z0r p0 p1 p2 p3 p4 p5).getD 0)))||(!((Z0x y1.1 y1.2 p1).getD false)))||(!((Z1z (l2.take ((p4.length:Int)).toNat) p4).getD false)))||(l2.getD ((p4.length:Int)).toNat 0 != 165)),h,⟨⟨rfl,rfl,rfl,rfl,rfl,rfl,rfl,rfl,trivial⟩,(.all (.app (.app (.app .here))) (.all (.app (.app (.app .here))) (.one (.app (.app (.app .here))) (.one (.app (.app (.app .here))) .nil))))⟩⟩
    ·rintro t m ⟨i3,h,hF⟩
     refine Zk hF ?_
     clear hF
     subst q5
     refine Z03 h rfl (fun h=>?_) (fun h=>?_)
     ·refine Z0<|Z2<|Z7 rfl<|Z1<|Zh ?_
      revert h; refine Zt fun h=>?_
      subst h
      exact ⟨_,(.cons (.tmp rfl) .nil),rfl⟩
     ·refine Ze<|Z0<|Z2<|Z7 rfl<|Z1<|Z0<|Z0<|Z2<|Z7 rfl<|Z1<|jH h fun k6 q6 h=>Zn (G:=fun t m=>∃ (l9:LI) (l10:LI) (w17:List Zf) (v408:Value) (w18:List Zf),k6 l9 l10=some r/\Z0q (El.int .u8) v25 w17 l9/\Z9i 0 (p4.length:Int) l9.length=true/\Z0q (El.int .u8) v408 w18 l10/\Fit [(1,v1),(2,.int .i64 (p2)),(3,.int .i64 (p3)),(6,pt' b1),(11,pt' b2),(13,(Z4w 97 v8 0 (y1.2).toNat)),(14,(Z4w 1 v25 0 ((p4.length:Int)).toNat)),(25,v408)] (w1++(ck b2 27 [b6' p5]::(ck b1 29 [b3' p0]::(w18++(w17 ++ []))))) t m) ?_ ?_
      ·refine Za<|Zr (fun n3 t m=>∃ (l11:LI) (l12:LI) (i4:Int) (w19:List Zf) (v479:Value) (w20:List Zf),Z0m p4 k6 n3 l11 l12 i4=some r/\Z0q (El.int .u8) v25 w19 l11/\Z9i 0 (p4.length:Int) l11.length=true/\Z0q (El.int .u8) v479 w20 l12/\Fit [(1,v1),(2,.int .i64 (p2)),(3,.int .i64 (p3)),(6,pt' b1),(11,pt' b2),(13,(Z4w 97 v8 0 (y1.2).toNat)),(14,(Z4w 1 v25 0 ((p4.length:Int)).toNat)),(25,v479),(26,.int .i64 (i4))] (w1++(ck b2 27 [b6' p5]::(ck b1 29 [b3' p0]::(w19++(w20 ++ []))))) t m) big ?_ ?_
       ·exact ⟨l2,[],0,w4,(.slice none 0 0),[],h,O4,c3,Z3l,⟨⟨rfl,rfl,rfl,rfl,rfl,rfl,rfl,rfl,rfl,trivial⟩,(.all (.app .here) (.one (.app .here) (.one (.app .here) (.all .here (.no .nil)))))⟩⟩
       ·rintro n3 t m ⟨l11,l12,i4,w19,v479,w20,h,O15,H478,O16,hF⟩
        refine Zk hF ?_
        clear hF
        rcases n3 with _ | n3
        · exact Z0c h
        have h:Z12 p4 k6 (Z0m p4 k6 n3) l11 l12 i4=some r:=h
        unfold Z12 at h
        obtain ⟨k7,q7⟩ : ∃ k,k=Z0m p4 k6 n3:=⟨_,rfl⟩
        try rw [<- q7] at h
        refine Z0<|Z0<|Z2<|Z7 rfl<|Z7 rfl<|Z6 _ (Z0et rfl (Shp.own O15) H478)<|Z6 _ (Z9 rfl rfl rfl)<|Z1<|Z03 h rfl (fun h=>?_) (fun h=>?_)
        ·refine Ze<|Z0<|Za<|Z0<|cH h fun c15 h=>bH h fun z6 e6 h=>bH h fun z7 e7 h=>cH h fun c16 h=>bH h fun l13 g5 h=>cH h fun c17 h=>cH h fun c18 h=>cH h fun c19 h=>cH h fun c20 h=>Z2<|Z7 rfl<|Z7 rfl<|Z7 rfl<|Z7 rfl<|Z6 _ (Zjx rfl rfl (Shp.own O15) H478 c15)<|Z6 _ (iz e6 (Z3y (E:=(El.int .u8)) (s:=[.one (.int .u8 (l11.getD (i4).toNat 0))]) rfl (Z05 O15 (.app .t2)) (Z04 (Zjo H478 c15)) rfl rfl))<|Z6 _ (iz e7 (Z9 rfl rfl rfl))<|Z6 _ (Zjx rfl rfl (Shp.own O15) H478 c16)<|Zg (Zjm (E:=(El.int .u8)) g5 O15 (.app .t2) rfl rfl rfl (Z04 (Zjo H478 c16)) fun w21 O17=>Z1<|cH h fun c21 h=>bH h fun z8 e8 h=>cH h fun c22 h=>bH h fun l14 g6 h=>Z2<|Z7 rfl<|Z7 rfl<|Z7 rfl<|Z6 _ (Zjx rfl rfl (Shp.own O17) c17 c21)<|Z6 _ (iz e8 (Z3y (E:=(El.int .u8)) (s:=[.one (.int .u8 (l13.getD (i4).toNat 0))]) rfl (Z05 O17 .here) (Z04 (Zjo c17 c21)) rfl rfl))<|Zg (Z5j (E:=(El.int .u8)) (xs:=[z8]) (.one rfl rfl rfl BdR.nil) (.cons (p:=[.one (.int .u8 (z8))]) rfl .nil) rfl fun v503 w22 O18=>Zg (Z32 (E:=(El.int .u8)) g6 rfl O16 (.app (.app (.app .t2))) rfl (Z05 O18 .here) c22 fun v508 w23 O19=>Z7 rfl<|Z1<|bH h fun z9 e9 h=>Z2<|Z7 rfl<|Z6 _ (iz e9 (Z9 rfl rfl rfl))<|Z7 rfl<|Z1 ?_)))
         rw [q7] at h
         exact ⟨n3,Nat.lt_succ_self _,l13,l14,z9,w21,v508,w23,h,O17,c17,O19,⟨⟨rfl,rfl,rfl,rfl,rfl,rfl,rfl,rfl,rfl,trivial⟩,(.all (.app (.app (.app .here))) (.one (.app (.app (.app .here))) (.one (.app (.app (.app .here))) (.all (.app (.app .here)) (.all .here .nil)))))⟩⟩
        ·exact Zz _ rfl<|⟨l11,l12,w19,v479,w20,h,O15,H478,O16,⟨⟨rfl,rfl,rfl,rfl,rfl,rfl,rfl,rfl,trivial⟩,(.all .here (.o (.o (.all (.app .here) (.all .here .nil)))))⟩⟩
      ·rintro t m ⟨l9,l10,w17,v408,w18,h,O20,H407,O21,hF⟩
       refine Zk hF ?_
       clear hF
       subst q6
       refine Z0<|oH h fun y8 f8 h=>Z2<|Z6 _ (Zy (p:=[b3' p0]) rfl (.app .t1) rfl)<|Z7 rfl<|Z7 rfl<|Z7 rfl<|Z7 rfl<|Z6 _ (Zy (p:=[b6' p5]) rfl (.app .here) rfl)<|Z6 _ (Z0f rfl (fun w hw=>Z9a f8 (hG.at hw (by simp)) ((Zc5 (Z05 O1 .here) H11) w hw) ((Zc5 (Z05 O20 (.app (.there (.there (.app .here))))) H407) w hw)))<|Z7 rfl<|Z1<|Z0<|Z0<|oH h fun y9 f9 h=>cH h fun c23 h=>Z2<|Z7 rfl<|Z6 _ (Zy (p:=[b3' p0]) rfl (.app .t1) rfl)<|Z7 rfl<|Z7 rfl<|Z7 rfl<|Z7 rfl<|Z6 _ (Zy (p:=[b6' p5]) rfl (.app .here) rfl)<|Z6 _ (Z0f rfl (fun w hw=>Z42 f9 (hG.at hw (by simp)) ((Z0p A1 Z0w) w hw) ((Z05 O21 (.app .t2)) w hw)))<|Z6 _ (Z9 rfl rfl rfl)<|Z7 rfl<|Z9j rfl rfl rfl (fun hg1=>Z2j rfl _ (Z0e rfl) (Z2j rfl _ (Z0e rfl) (Z2j rfl _ (Z0f rfl (fun w hw=>Z6n (getD_some (z:=false) (Zav c23 hg1)) ((Zc5 (Z05 O20 (.app (.there (.there (.app .here))))) H407) w hw) ((Z05 O21 (.app .t2)) w hw))) (Z2j rfl _ (Zhc rfl rfl) (Z3j))))) (fun hg1=>rfl) rfl<|Z1<|Z03 h rfl (fun h=>?_) (fun h=>?_)
       ·refine Z0<|Z2<|Z7 rfl<|Z1<|Zh ?_
        revert h; refine Zt fun h=>?_
        subst h
        exact ⟨_,(.cons (.tmp rfl) .nil),rfl⟩
       ·refine Ze<|Z0<|Z0<|Z2<|Z7 rfl<|Z6 _ (Z1f rfl (Shp.rd A1))<|Z6 _ (Z9 rfl rfl rfl)<|Z1<|Z03 h rfl (fun h=>?_) (fun h=>?_)
        ·refine Z0<|Z2<|Z7 rfl<|Z1<|Zh ?_
         revert h; refine Zt fun h=>?_
         subst h
         exact ⟨_,(.cons (.tmp rfl) .nil),rfl⟩
        ·refine Ze<|Z0<|bH h fun z10 e10 h=>cH h fun c24 h=>bH h fun x2 j2 h=>cH h fun c25 h=>bH h fun x3 j3 h=>bH h fun l15 g7 h=>cH h fun c26 h=>cH h fun c27 h=>cH h fun c28 h=>Z2<|Z7 rfl<|Z7 rfl<|Z6 _ (Z1f rfl (Shp.rd A1))<|Z6 _ (iz e10 (Z9 rfl rfl rfl))<|Z7 rfl<|Z6 _ (Z2u rfl rfl (Shp.rd A1) c24)<|Z6 _ (Z4e rfl)<|Z6 _ (az (fun (x2:api_Link)=>agg [b3' x2.gKey]) j2 (Z0er (E:=E_api_Link) (s:=[.one (.int .i64 (((p1.getD (0:Int).toNat api_Link_z)).gEpoch)),b3' (((p1.getD (0:Int).toNat api_Link_z)).gKey),b6' (((p1.getD (0:Int).toNat api_Link_z)).gSig)]) (c:=1) rfl (Z0p A1 Z0w) (Z04 c24) rfl rfl))<|Z6 _ (Zjx rfl rfl (Shp.own O1) H11 c25)<|Z6 _ (Z4e rfl)<|Zg (Z05j (E:=E_api_Link) (c:=1) (x0:=x3) (y0:=(⟨x3.gEpoch,x2.gKey,x3.gSig⟩:api_Link)) j3 g7 O1 .here rfl rfl rfl rfl (by kernel_rfl) (Z04 (Zjo H11 c25)) fun w24 O22=>Z1<|Z0<|Z2<|Z7 rfl<|Z1<|Z0<|cH h fun c29 h=>bH h fun l16 g8 h=>Z2<|Z7 rfl<|Z7 rfl<|Zg (Z32 (E:=E_api_Link) g8 rfl Z3l .here rfl (Zc5 (Z05 O22 .here) c26) c29 fun v539 w25 O23=>Z7 rfl<|Z1<|Z0<|oH h fun y10 f10 h=>Z2<|Z6 _ (Zy (p:=[b3' p0]) rfl (.app (.app .t1)) rfl)<|Z7 rfl<|Zg (Z0g rfl (fun w hw=>Z6u  f10 (hG.at hw (by simp)) ((Zc5 (Z05 O22 (.app .here)) c26) w hw)) fun v544 o6 R6=>?_)))
         obtain ⟨v546,w26,rfl,rfl,O24⟩:=R6
         refine Z7 rfl<|Z6 _ (Z2m rfl rfl)<|Z6 _ (Z2m rfl rfl)<|Z7 rfl<|Z7 rfl<|Z1<|Z0<|oH h fun y11 f11 h=>Z2<|Z6 _ (Zy (p:=[b3' p0]) rfl (.app (.app (.app .t1))) rfl)<|Z7 rfl<|Zg (Z0g rfl (fun w hw=>Z5k  f11 (hG.at hw (by simp)) ((Z05 O23 (.app .here)) w hw)) fun v551 o7 R7=>?_)
         obtain ⟨v553,w27,rfl,rfl,O25⟩:=R7
         refine Z7 rfl<|Z6 _ (Z2m rfl rfl)<|Z6 _ (Z2m rfl rfl)<|Z7 rfl<|Z7 rfl<|Z1<|Z0<|Z0<|oH h fun y12 f12 h=>cH h fun c30 h=>Z2<|Z7 rfl<|Z7 rfl<|Z6 _ (Z0f rfl (fun w hw=>Z4x f12 ((Z05 O24 (.app .here)) w hw) ((Z05 O25 .here) w hw)))<|Z6 _ (Zhc rfl rfl)<|Z7 rfl<|Z9j rfl rfl rfl (fun hg1=>Z2j rfl _ (Z0e rfl) (Z2j rfl _ (Z0e rfl) (Z2j rfl _ (Z9 rfl rfl rfl) (Z3j)))) (fun hg1=>rfl) rfl<|Z7 rfl<|Z9j rfl rfl rfl (fun hg1=>Z2j rfl _ (Z0e rfl) (Z2j rfl _ (Z0e rfl) (Z2j rfl _ (Z0f rfl (fun w hw=>Z4v (getD_some (z:=false) (Zav c30 hg1)) ((Z05 O22 (.app (.app (.app .here)))) w hw) c26 ((Z05 O23 (.app (.app .here))) w hw))) (Z2j rfl _ (Zhc rfl rfl) (Z3j))))) (fun hg1=>rfl) rfl<|Z1<|Z03 h rfl (fun h=>?_) (fun h=>?_)
         ·refine Z0<|Z2<|Z7 rfl<|Z1<|Zh ?_
          revert h; refine Zt fun h=>?_
          subst h
          exact ⟨_,(.cons (.tmp rfl) .nil),rfl⟩
         ·refine Ze<|Z0<|oH h fun y13 f13 h=>Z2<|Z6 _ (Zy (p:=[b3' p0]) rfl (.app (.app (.app (.app .t1)))) rfl)<|Z7 rfl<|Z7 rfl<|Z7 rfl<|Z7 rfl<|Z6 _ (Zy (p:=[b6' p5]) rfl (.app (.app (.app (.app .here)))) rfl)<|Z6 _ (Z0f rfl (fun w hw=>Z9a f13 (hG.at hw (by simp)) ((Zc5 (Z05 O22 (.app (.app (.app .here)))) c26) w hw) ((Zc5 (Z05 O20 (.app (.app (.app (.app (.there (.there (.app .here)))))))) H407) w hw)))<|Z7 rfl<|Z1<|Z0<|oH h fun y14 f14 h=>cH h fun c31 h=>Z2<|Z7 rfl<|Z6 _ (Zy (p:=[b3' p0]) rfl (.app (.app (.app (.app .t1)))) rfl)<|Z7 rfl<|Z7 rfl<|Z7 rfl<|Z7 rfl<|Z6 _ (Zy (p:=[b6' p5]) rfl (.app (.app (.app (.app .here)))) rfl)<|Z6 _ (Z0f rfl (fun w hw=>Z42 f14 (hG.at hw (by simp)) ((Z05 O23 (.app (.app .here))) w hw) ((Z05 O21 (.app (.app (.app (.app .t2))))) w hw)))<|Z6 _ (Z9 rfl rfl rfl)<|Z7 rfl<|Zrb rfl rfl rfl (fun hg1=>Z2j rfl _ (Z0e rfl) (Z2j rfl _ (Z0e rfl) (Z2j rfl _ (Z0f rfl (fun w hw=>Z4v (getD_some (z:=false) (Zs6 c31 hg1)) ((Z05 O22 (.app (.app (.app .here)))) w hw) c26 ((Z05 O23 (.app (.app .here))) w hw))) (Z3j)))) (fun hg1=>rfl) rfl<|Z7 rfl<|Z1<|Zh ?_
          revert h; refine Zt fun h=>?_
          subst h
          exact ⟨_,(.cons (.tmp rfl) .nil),rfl⟩
end Go.Proofs.YtiflckckekjbnaaGreatDoor
namespace Go.Proofs.YtiflckckekjbnaaGreatDoor
open Go Go.Sx Go.RowKit
set_option linter.all false
set_option maxHeartbeats 400000
set_option maxRecDepth 100000
end Go.Proofs.YtiflckckekjbnaaGreatDoor

namespace Go.Proofs.YtiflckckekjbnaaGreatDoor
open Go Go.Sx Go.RowKit
set_option linter.all false
theorem Ze6 (x:Int):IntKind.u64.wrap x=x%18446744073709551616:=by simp [IntKind.wrap,IntKind.bits,IntKind.signed]
theorem Z0u (x:Int):IntKind.u8.wrap x=x%256:=by simp [IntKind.wrap,IntKind.bits,IntKind.signed]
theorem Zd {x:Int} (h0:0<=x) (h1:x<18446744073709551616):IntKind.u64.wrap x=x:=by rw [Ze6]; omega
theorem Zl {x:Int} (h0 : -9223372036854775808<=x) (h1:x<=9223372036854775807):IntKind.i64.wrap x=x:=by rw [IntKind.wrap_i64]; omega
theorem bv64 (m:Nat) (h:m<18446744073709551616):(BitVec.ofInt 64 (m:Int)).toNat=m:=by
 rw [BitVec.toNat_ofInt]; simp; omega
theorem bv8 (m:Nat) (h:m<256):(BitVec.ofInt 8 (m:Int)).toNat=m:=by
 rw [BitVec.toNat_ofInt]; simp; omega
theorem Z0jm {x y:Int} (m n:Nat) (hx:x=m) (hy:y=n) (h1:m<18446744073709551616) (h2:n<18446744073709551616):Z4 .and .u64 x y=((m &&& n:Nat):Int):=by
 subst hx; subst hy
 show IntKind.u64.wrap (((BitVec.ofInt 64 (m:Int) &&& BitVec.ofInt 64 (n:Int)).toNat:Nat):Int)=_
 rw [BitVec.toNat_and,bv64 m h1,bv64 n h2,Zd (by omega)]
 have:m &&& n<=m:=Nat.and_le_left
 omega
theorem or64 {x y:Int} (m n:Nat) (hx:x=m) (hy:y=n) (h1:m<18446744073709551616) (h2:n<18446744073709551616):Z4 .or .u64 x y=((m ||| n:Nat):Int):=by
 subst hx; subst hy
 show IntKind.u64.wrap (((BitVec.ofInt 64 (m:Int) ||| BitVec.ofInt 64 (n:Int)).toNat:Nat):Int)=_
 rw [BitVec.toNat_or,bv64 m h1,bv64 n h2,Zd (by omega)]
 have:m ||| n<2^64:=Nat.or_lt_two_pow (by simpa using h1) (by simpa using h2)
 simp at this; omega
theorem Zik (k:Nat) {x y:Int} (hy:y=((2^k-1:Nat):Int)) (hk:2^k<=18446744073709551616) (h0:0<=x) (h1:x<18446744073709551616):Z4 .and .u64 x y=x%((2^k:Nat):Int):=by
 have hp:0<2^k:=Nat.pow_pos (by decide)
 rw [Z0jm x.toNat (2^k-1) (by omega) hy (by omega) (by omega),Nat.and_two_pow_sub_one_eq_mod]
 rw [Int.natCast_emod]
 congr 1; omega
theorem Zo3 {x:Int} (h0:0<=x) (h1:x<18446744073709551616):Z4 .and .u64 x 2251799813685247=x%2251799813685248:=Zik 51 (by decide) (by decide) h0 h1
theorem Z04k {x:Int} (h0:0<=x) (h1:x<18446744073709551616):Z4 .and .u64 x 4294967295=x%4294967296:=Zik 32 (by decide) (by decide) h0 h1
theorem Ztz (k:Nat) {x y a:Int} (hx:x=a*((2^k:Nat):Int)) (ha:0<=a) (h0:0<=y) (hy:y<((2^k:Nat):Int)) (h1:x+y<18446744073709551616):Z4 .or .u64 x y=x+y:=by
 have hp:(0:Int)<=((2^k:Nat):Int):=Int.natCast_nonneg _
 have hx0:0<=x:=by rw [hx]; exact Int.mul_nonneg ha hp
 rw [or64 x.toNat y.toNat (by omega) (by omega) (by omega) (by omega)]
 have e:x.toNat=a.toNat <<< k:=by
  rw [Nat.shiftLeft_eq]
  have:(x.toNat:Int)=((a.toNat*2^k:Nat):Int):=by
   rw [Int.natCast_mul,Int.toNat_of_nonneg hx0,Int.toNat_of_nonneg ha,hx]
  exact Int.ofNat_inj.1 this
 rw [e,<- Nat.shiftLeft_add_eq_or_of_lt (by omega:y.toNat<2^k),<- e]
 omega
theorem Z9m (k:IntKind) {x:Int} {n:Nat} (h:n<=k.bits):Zq k x (n:Int)=x / ((2^n:Nat):Int):=by
 simp only [Zq,Int.toNat_natCast,Nat.min_eq_left h]
 rw [Int.fdiv_eq_ediv_of_nonneg]
 ·simp
 ·exact Int.le_of_lt (Int.pow_pos (by decide))
theorem Zvu (x:Int):Zq .u64 x 51=x / 2251799813685248:=by have:=Z9m .u64 (x:=x) (n:=51) (by decide); simpa using this
theorem Z0s9 (x:Int):Zq .u64 x 32=x / 4294967296:=by have:=Z9m .u64 (x:=x) (n:=32) (by decide); simpa using this
theorem Zfw (k:IntKind) {x:Int} {n:Nat} (h:n<=k.bits):Zj k x (n:Int)=k.wrap (x*((2^n:Nat):Int)):=by
 simp only [Zj,Int.toNat_natCast,Nat.min_eq_left h]
 simp
theorem Z0iv (x:Int):Zj .u64 x 13=(x*8192)%18446744073709551616:=by have:=Zfw .u64 (x:=x) (n:=13) (by decide); rw [Ze6] at this; simpa using this
section
variable {α β:Type}
theorem Zb (x:α) (f:α->Option β):bnd x f=f x:=by
 have h : ∀ y,y=bnd x f->y=f x:=fun y e=>e
 exact h _ rfl
theorem Zp {c:Bool} {o:Option β} (h:c=true):chk c o=o:=by subst h; rfl
theorem Z3 {o:Option α} {f:α->Option β} {y:α} (h:o=some y):opt o f=f y:=by subst h; rfl
theorem Z0n {c:Bool} {a b:Option β} (h:c=true):br c a b=a:=by subst h; rfl
theorem Z08 {c:Bool} {a b:Option β} (h:c=false):br c a b=b:=by subst h; rfl
theorem Z17 {K:Type} (k:K) (g:K->Option β):jn k g=g k:=by
 have h : ∀ y,y=jn k g->y=g k:=fun y e=>e
 exact h _ rfl
end
theorem Z0i {z:Int} {n:Nat} (h0:0<=z) (h1:z<n):inB z n=true:=by simp [inB,h0,h1]
abbrev PP:Int:=57896044618658097711785492504343953926634992332820282019728792003956564819949
abbrev M51:Int:=2251799813685248
def Z6r (x:LI):Int:=x.getD 0 0+x.getD 1 0*2251799813685248+x.getD 2 0*5070602400912917605986812821504+x.getD 3 0*11417981541647679048466287755595961091061972992+x.getD 4 0*25711008708143844408671393477458601640355247900524685364822016
structure U5 (x:LI):Prop where
 a0:0<=x.getD 0 0
 a1:0<=x.getD 1 0
 a2:0<=x.getD 2 0
 a3:0<=x.getD 3 0
 a4:0<=x.getD 4 0
 b0:x.getD 0 0<18446744073709551616
 b1:x.getD 1 0<18446744073709551616
 b2:x.getD 2 0<18446744073709551616
 b3:x.getD 3 0<18446744073709551616
 b4:x.getD 4 0<18446744073709551616
def Zir (n:Int):LI:=[n%M51,n / M51%M51,n / (M51*M51)%M51,n / (M51*M51*M51)%M51,n / (M51*M51*M51*M51)%M51]
theorem Zs0 {n d0 d1 d2 d3 d4:Int} (h:n=d0+d1*2251799813685248+d2*5070602400912917605986812821504+d3*11417981541647679048466287755595961091061972992+d4*25711008708143844408671393477458601640355247900524685364822016)
  (h0:0<=d0/\d0<2251799813685248) (h1:0<=d1/\d1<2251799813685248) (h2:0<=d2/\d2<2251799813685248) (h3:0<=d3/\d3<2251799813685248) (h4:0<=d4/\d4<2251799813685248) : [d0,d1,d2,d3,d4]=Zir n:=by
 unfold Zir
 simp only [M51,List.cons.injEq,and_true]
 refine ⟨?_,?_,?_,?_,?_⟩ <;> omega
theorem Zf0 {n:Int} (h0:0<=n) (h1:n<PP):Z6r (Zir n)=n:=by
 simp only [Z6r,Zir,M51,PP,List.getD_cons_zero,List.getD_cons_succ] at *
 omega
theorem Zrz (n:Int):U5 (Zir n):=by
 constructor <;> simp only [Zir,M51,List.getD_cons_zero,List.getD_cons_succ] <;> omega
end Go.Proofs.YtiflckckekjbnaaGreatDoor
namespace Go.Proofs.YtiflckckekjbnaaGreatDoor
open Go Go.Sx Go.RowKit
open Go.IntKind (wrap)
set_option linter.all false
set_option maxRecDepth 100000
def Zbd (x:LI):LI :=
  [x.getD 0 0%2251799813685248+x.getD 4 0 / 2251799813685248*19,x.getD 1 0%2251799813685248+x.getD 0 0 / 2251799813685248,x.getD 2 0%2251799813685248+x.getD 1 0 / 2251799813685248,
   x.getD 3 0%2251799813685248+x.getD 2 0 / 2251799813685248,x.getD 4 0%2251799813685248+x.getD 3 0 / 2251799813685248]
theorem Zg1 {x:LI} (h:U5 x):Z5c x=some (Zbd x):=by
  have ⟨a0,a1,a2,a3,a4,b0,b1,b2,b3,b4⟩:=h
  simp only [Z5c,Zb,Zvu,Ze6,Zo3 a0 b0,Zo3 a1 b1,Zo3 a2 b2,Zo3 a3 b3,Zo3 a4 b4,Zbd]
  simp only [Option.some.injEq,List.cons.injEq,and_true]
  refine ⟨?_,?_,?_,?_,?_⟩ <;> omega
structure C5 (x:LI) (e:Int):Prop where
  a0:0<=x.getD 0 0
  a1:0<=x.getD 1 0
  a2:0<=x.getD 2 0
  a3:0<=x.getD 3 0
  a4:0<=x.getD 4 0
  b0:x.getD 0 0<2251799813685248+e
  b1:x.getD 1 0<2251799813685248+e
  b2:x.getD 2 0<2251799813685248+e
  b3:x.getD 3 0<2251799813685248+e
  b4:x.getD 4 0<2251799813685248+e
theorem C5.u {x:LI} {e:Int} (h:C5 x e) (he:e<=1125899906842624):U5 x:=by
  have ⟨a0,a1,a2,a3,a4,b0,b1,b2,b3,b4⟩:=h
  constructor <;> omega
theorem Zwr {x:LI} (h:U5 x):C5 (Zbd x) 262144:=by
  have ⟨a0,a1,a2,a3,a4,b0,b1,b2,b3,b4⟩:=h
  constructor <;> simp only [Zbd,List.getD_cons_zero,List.getD_cons_succ] <;> omega
theorem Z08t {x:LI} (h:C5 x 262144):C5 (Zbd x) 20:=by
  have ⟨a0,a1,a2,a3,a4,b0,b1,b2,b3,b4⟩:=h
  constructor <;> simp only [Zbd,List.getD_cons_zero,List.getD_cons_succ] <;> omega
theorem Z05a {x:LI} : ∃ q,Z6r x=Z6r (Zbd x)+q*PP:=by
  refine ⟨x.getD 4 0 / 2251799813685248,?_⟩
  simp only [Z6r,Zbd,PP,List.getD_cons_zero,List.getD_cons_succ]
  omega
theorem Zim {x:LI}:Z6r (Zbd x)%PP=Z6r x%PP:=by
  obtain ⟨q,hq⟩:=Z05a (x:=x)
  rw [hq,Int.add_mul_emod_self_right]
def Zmp (x:LI):LI:=Zir (Z6r x%PP)
abbrev shw (x:Int):Int:=Zq .u64 x 51
abbrev wuu (x:Int):Int:=wrap .u64 x
abbrev low (x:Int):Int:=Z4 .and .u64 x 2251799813685247
def rQ (y1 y2 y3 y4 q:Int):Int:=shw (wuu (y4+shw (wuu (y3+shw (wuu (y2+shw (wuu (y1+q))))))))
def rr0 (y0 Q:Int):Int:=wuu (y0+wuu (19*Q))
theorem Z077 (y0 y1 y2 y3 y4 q:Int):Z5n [y0,y1,y2,y3,y4] (fun i46=>Z5o (fun a149=>some (Z2z a149 4 (Z4 .and .u64 (a149.getD 4 0) 2251799813685247))) big 0 (Z2z [y0,y1,y2,y3,y4] 0 (wrap .u64 (y0+wrap .u64 (19*i46))))) big q 0 =
    some [low (rr0 y0 (rQ y1 y2 y3 y4 q)),low (wuu (y1+shw (rr0 y0 (rQ y1 y2 y3 y4 q)))),low (wuu (y2+shw (wuu (y1+shw (rr0 y0 (rQ y1 y2 y3 y4 q)))))),
      low (wuu (y3+shw (wuu (y2+shw (wuu (y1+shw (rr0 y0 (rQ y1 y2 y3 y4 q)))))))),low (wuu (y4+shw (wuu (y3+shw (wuu (y2+shw (wuu (y1+shw (rr0 y0 (rQ y1 y2 y3 y4 q)))))))))) ]:=by kernel_rfl
theorem Zu6 {y q:Int} (hy:0<=y/\y<2251799813685268) (hq:0<=q/\q<=1) : ∃ q' s,shw (wuu (y+q))=q'/\y+q=2251799813685248*q'+s/\(0<=s/\s<2251799813685248)/\(0<=q'/\q'<=1):=by
  refine ⟨(y+q) / 2251799813685248,(y+q)%2251799813685248,?_,by omega,by omega,by omega⟩
  rw [shw,Zvu,wuu,Zd (by omega) (by omega)]
theorem Zqn {y r:Int} (hy:0<=y/\y<2251799813685268) (hr:0<=r/\r<4503599627370496) : ∃ c d r',shw r=c/\low r=d/\r=2251799813685248*c+d/\(0<=d/\d<2251799813685248)/\wuu (y+c)=r'/\r'=y+c/\(0<=r'/\r'<4503599627370496):=by
  refine ⟨r / 2251799813685248,r%2251799813685248,y+r / 2251799813685248,Zvu _,Zo3 hr.1 (by omega),by omega,by omega,Zd (by omega) (by omega),rfl,by omega⟩
theorem Z021 {y0 y1 y2 y3 y4 q0 q1 q2 q3 q4 s0 s1 s2 s3 s4 c0 c1 c2 c3 c4 d0 d1 d2 d3 d4:Int}
    (h0:y0+19=2251799813685248*q0+s0) (h1:y1+q0=2251799813685248*q1+s1) (h2:y2+q1=2251799813685248*q2+s2) (h3:y3+q2=2251799813685248*q3+s3) (h4:y4+q3=2251799813685248*q4+s4)
    (k0:y0+19*q4=2251799813685248*c0+d0) (k1:y1+c0=2251799813685248*c1+d1) (k2:y2+c1=2251799813685248*c2+d2) (k3:y3+c2=2251799813685248*c3+d3) (k4:y4+c3=2251799813685248*c4+d4)
    (t0:0<=s0/\s0<2251799813685248) (t1:0<=s1/\s1<2251799813685248) (t2:0<=s2/\s2<2251799813685248) (t3:0<=s3/\s3<2251799813685248) (t4:0<=s4/\s4<2251799813685248)
    (u0:0<=d0/\d0<2251799813685248) (u1:0<=d1/\d1<2251799813685248) (u2:0<=d2/\d2<2251799813685248) (u3:0<=d3/\d3<2251799813685248) (u4:0<=d4/\d4<2251799813685248) (hq:0<=q4/\q4<=1) (hy:0<=(y0+y1*2251799813685248+y2*5070602400912917605986812821504+y3*11417981541647679048466287755595961091061972992+y4*25711008708143844408671393477458601640355247900524685364822016)/\(y0+y1*2251799813685248+y2*5070602400912917605986812821504+y3*11417981541647679048466287755595961091061972992+y4*25711008708143844408671393477458601640355247900524685364822016)<115792089237316195423570985008687907853269984665640564039457584007913129639836) :
    (y0+y1*2251799813685248+y2*5070602400912917605986812821504+y3*11417981541647679048466287755595961091061972992+y4*25711008708143844408671393477458601640355247900524685364822016)-q4*PP=(d0+d1*2251799813685248+d2*5070602400912917605986812821504+d3*11417981541647679048466287755595961091061972992+d4*25711008708143844408671393477458601640355247900524685364822016)/\0<=(d0+d1*2251799813685248+d2*5070602400912917605986812821504+d3*11417981541647679048466287755595961091061972992+d4*25711008708143844408671393477458601640355247900524685364822016)/\(d0+d1*2251799813685248+d2*5070602400912917605986812821504+d3*11417981541647679048466287755595961091061972992+d4*25711008708143844408671393477458601640355247900524685364822016)<PP:=by
  have e1:(y0+y1*2251799813685248+y2*5070602400912917605986812821504+y3*11417981541647679048466287755595961091061972992+y4*25711008708143844408671393477458601640355247900524685364822016)+19=q4*57896044618658097711785492504343953926634992332820282019728792003956564819968+(s0+s1*2251799813685248+s2*5070602400912917605986812821504+s3*11417981541647679048466287755595961091061972992+s4*25711008708143844408671393477458601640355247900524685364822016):=by omega
  have e2:(y0+y1*2251799813685248+y2*5070602400912917605986812821504+y3*11417981541647679048466287755595961091061972992+y4*25711008708143844408671393477458601640355247900524685364822016)+19*q4=c4*57896044618658097711785492504343953926634992332820282019728792003956564819968+(d0+d1*2251799813685248+d2*5070602400912917605986812821504+d3*11417981541647679048466287755595961091061972992+d4*25711008708143844408671393477458601640355247900524685364822016):=by omega
  have b1:0<=(s0+s1*2251799813685248+s2*5070602400912917605986812821504+s3*11417981541647679048466287755595961091061972992+s4*25711008708143844408671393477458601640355247900524685364822016)/\(s0+s1*2251799813685248+s2*5070602400912917605986812821504+s3*11417981541647679048466287755595961091061972992+s4*25711008708143844408671393477458601640355247900524685364822016)<57896044618658097711785492504343953926634992332820282019728792003956564819968:=by omega
  have b2:0<=(d0+d1*2251799813685248+d2*5070602400912917605986812821504+d3*11417981541647679048466287755595961091061972992+d4*25711008708143844408671393477458601640355247900524685364822016)/\(d0+d1*2251799813685248+d2*5070602400912917605986812821504+d3*11417981541647679048466287755595961091061972992+d4*25711008708143844408671393477458601640355247900524685364822016)<57896044618658097711785492504343953926634992332820282019728792003956564819968:=by omega
  generalize (y0+y1*2251799813685248+y2*5070602400912917605986812821504+y3*11417981541647679048466287755595961091061972992+y4*25711008708143844408671393477458601640355247900524685364822016)=V at *
  generalize (d0+d1*2251799813685248+d2*5070602400912917605986812821504+d3*11417981541647679048466287755595961091061972992+d4*25711008708143844408671393477458601640355247900524685364822016)=D at *
  generalize (s0+s1*2251799813685248+s2*5070602400912917605986812821504+s3*11417981541647679048466287755595961091061972992+s4*25711008708143844408671393477458601640355247900524685364822016)=S at *
  clear h0 h1 h2 h3 h4 k0 k1 k2 k3 k4 t0 t1 t2 t3 t4 u0 u1 u2 u3 u4
  simp only [PP]
  have hc:q4=0∨q4=1:=by omega
  rcases hc with rfl | rfl
  · obtain rfl:c4=0:=by omega
    omega
  · obtain rfl:c4=1:=by omega
    omega
theorem Z5r {x:LI} (h:U5 x):Z1u x=some (Zmp x):=by
  have h1:=Zwr h
  have h2:=Z08t h1
  have hm:Z6r (Zbd (Zbd x))%PP=Z6r x%PP:=by rw [Zim,Zim]
  rw [Z1u,Z3 (Zg1 h),Z3 (Zg1 (h1.u (by decide)))]
  unfold Zmp
  rw [<- hm]
  have hl:Zbd (Zbd x) = [(Zbd (Zbd x)).getD 0 0,(Zbd (Zbd x)).getD 1 0,(Zbd (Zbd x)).getD 2 0,(Zbd (Zbd x)).getD 3 0,(Zbd (Zbd x)).getD 4 0]:=rfl
  generalize Zbd (Zbd x)=y at *
  have ⟨a0,a1,a2,a3,a4,b0,b1,b2,b3,b4⟩:=h2
  simp only [Zb,Z17,Z6r]
  generalize y.getD 0 0=y0 at *
  generalize y.getD 1 0=y1 at *
  generalize y.getD 2 0=y2 at *
  generalize y.getD 3 0=y3 at *
  generalize y.getD 4 0=y4 at *
  rw [hl,Z077]
  congr 1
  clear hl h1 h2 hm h
  have e0:Zq .u64 (wrap .u64 (y0+19)) 51=(y0+19) / 2251799813685248:=by rw [Zvu,Zd (by omega) (by omega)]
  obtain ⟨q0,s0,hq0,hs0,hs0',hq0'⟩ : ∃ q s,(y0+19) / 2251799813685248=q/\y0+19=2251799813685248*q+s/\(0<=s/\s<2251799813685248)/\(0<=q/\q<=1):=⟨_,(y0+19)%2251799813685248,rfl,by omega,by omega,by omega⟩
  rw [e0,hq0]
  obtain ⟨q1,s1,e1,hs1,hs1',hq1'⟩:=Zu6 (y:=y1) (q:=q0) (by omega) hq0'
  obtain ⟨q2,s2,e2,hs2,hs2',hq2'⟩:=Zu6 (y:=y2) (q:=q1) (by omega) hq1'
  obtain ⟨q3,s3,e3,hs3,hs3',hq3'⟩:=Zu6 (y:=y3) (q:=q2) (by omega) hq2'
  obtain ⟨q4,s4,e4,hs4,hs4',hq4'⟩:=Zu6 (y:=y4) (q:=q3) (by omega) hq3'
  have f0:rr0 y0 q4=y0+19*q4:=by rw [rr0,wuu,wuu,Zd (x:=19*q4) (by omega) (by omega),Zd (by omega) (by omega)]
  have hy:0<=(y0+y1*2251799813685248+y2*5070602400912917605986812821504+y3*11417981541647679048466287755595961091061972992+y4*25711008708143844408671393477458601640355247900524685364822016)/\(y0+y1*2251799813685248+y2*5070602400912917605986812821504+y3*11417981541647679048466287755595961091061972992+y4*25711008708143844408671393477458601640355247900524685364822016)<115792089237316195423570985008687907853269984665640564039457584007913129639836:=by omega
  unfold rQ
  rw [e1,e2,e3,e4,f0]
  obtain ⟨c0,d0,r1,g0,l0,k0,u0,w1,v1,z1⟩:=Zqn (y:=y1) (r:=y0+19*q4) (by omega) (by omega)
  rw [g0,l0,w1]
  obtain ⟨c1,d1,r2,g1,l1,k1,u1,w2,v2,z2⟩:=Zqn (y:=y2) (r:=r1) (by omega) z1
  rw [g1,l1,w2]
  obtain ⟨c2,d2,r3,g2,l2,k2,u2,w3,v3,z3⟩:=Zqn (y:=y3) (r:=r2) (by omega) z2
  rw [g2,l2,w3]
  obtain ⟨c3,d3,r4,g3,l3,k3,u3,w4,v4,z4⟩:=Zqn (y:=y4) (r:=r3) (by omega) z3
  rw [g3,l3,w4]
  obtain ⟨c4,d4,r5,g4,l4,k4,u4,w5,v5,z5⟩:=Zqn (y:=y4) (r:=r4) (by omega) z4
  rw [l4]
  subst v1 v2 v3 v4
  obtain ⟨hv,hlo⟩:=Z021 hs0 hs1 hs2 hs3 hs4 k0 k1 k2 k3 k4 hs0' hs1' hs2' hs3' hs4' u0 u1 u2 u3 u4 hq4' hy
  refine Zs0 ?_ u0 u1 u2 u3 u4
  rw [<- hv] at hlo ⊢
  rw [<- Int.emod_eq_of_lt hlo.1 hlo.2,Int.sub_mul_emod_self_right]
end Go.Proofs.YtiflckckekjbnaaGreatDoor
namespace Go.Proofs.YtiflckckekjbnaaGreatDoor
open Go Go.Sx Go.RowKit
set_option linter.all false
set_option maxRecDepth 100000
theorem Zf5 {a b:Int} {A B:Int} (ha:0<=a/\a<=A) (hb:0<=b/\b<=B):0<=a*b/\a*b<=A*B :=
 ⟨Int.mul_nonneg ha.1 hb.1,Int.mul_le_mul ha.2 hb.2 hb.1 (Int.le_trans ha.1 ha.2)⟩
theorem Zol {x y:Int} (hx:0<=x/\x<18446744073709551616) (hy:0<=y/\y<18446744073709551616) :
  Z5p x y=some (x*y / 18446744073709551616,x*y%18446744073709551616):=by
 simp only [Z5p,Zb,Z04k hx.1 hx.2,Z04k hy.1 hy.2,Z0s9]
 have ex:x=x / 4294967296*4294967296+x%4294967296:=by omega
 have ey:y=y / 4294967296*4294967296+y%4294967296:=by omega
 have bxl:0<=x%4294967296/\x%4294967296<=4294967295:=by omega
 have byl:0<=y%4294967296/\y%4294967296<=4294967295:=by omega
 have bxh:0<=x / 4294967296/\x / 4294967296<=4294967295:=by omega
 have byh:0<=y / 4294967296/\y / 4294967296<=4294967295:=by omega
 have hxy:x*y=x / 4294967296*(y / 4294967296)*18446744073709551616+(x / 4294967296*(y%4294967296)+x%4294967296*(y / 4294967296))*4294967296+x%4294967296*(y%4294967296):=by
  conv=>lhs; rw [ex,ey]
  generalize x / 4294967296=a
  generalize x%4294967296=b
  generalize y / 4294967296=c
  generalize y%4294967296=d
  grind
 have p00:=Zf5 bxl byl
 have p10:=Zf5 bxh byl
 have p01:=Zf5 bxl byh
 have p11:=Zf5 bxh byh
 rw [hxy]
 generalize x%4294967296*(y%4294967296)=A at *
 generalize x / 4294967296*(y%4294967296)=B at *
 generalize x%4294967296*(y / 4294967296)=D at *
 generalize x / 4294967296*(y / 4294967296)=F at *
 clear hxy ex ey bxl byl bxh byh
 rw [Zd (x:=A) (by omega) (by omega),Zd (x:=B) (by omega) (by omega),Zd (x:=D) (by omega) (by omega),Zd (x:=F) (by omega) (by omega)]
 rw [Zd (x:=B+A / 4294967296) (by omega) (by omega),Z04k (by omega) (by omega)]
 rw [Zd (x:=(B+A / 4294967296)%4294967296+D) (by omega) (by omega),Zd (x:=F+(B+A / 4294967296) / 4294967296) (by omega) (by omega)]
 rw [Zd (by omega) (by omega),Ze6]
 congr 1
 refine Prod.ext ?_ rfl
 show F+(B+A / 4294967296) / 4294967296+((B+A / 4294967296)%4294967296+D) / 4294967296=_
 omega
def Zjn (s:Int):Int:=s / 18446744073709551616
def Zg3 (s:Int):Int:=s%18446744073709551616
theorem Zo1 (a b c:Int):Zaa a b c=(a+b+c)%18446744073709551616:=rfl
theorem Zkj (a b c:Int):Zer a b c=(a+b+c) / 18446744073709551616:=rfl
theorem Zzr {xs:LI} {o L:Nat} {s a c:Int} (hs:0<=s) (h1:xs.getD o 0=Zjn s) (h2:xs.getD (o+1) 0=Zg3 s) (hL:o+1<L) (ha:0<=a/\a<18446744073709551616) (hc:0<=c/\c<18446744073709551616)
  (hb:s+a*c<340282366920938463463374607431768211456) :
  Z33 xs o L a c=some (Z2z (Z2z xs (o+1) (Zg3 (s+a*c))) o (Zjn (s+a*c))):=by
 have hp:=Zf5 (A:=18446744073709551615) (B:=18446744073709551615) (a:=a) (b:=c) (by omega) (by omega)
 rw [Z33,Z3 (Zol ha hc)]
 rw [Zp (by simpa using hL)]
 simp only [Zb,h2]
 have e1:Zg3 s+a*c%18446744073709551616=Zg3 s+a*c%18446744073709551616:=rfl
 generalize a*c=p at *
 have hlo:0<=Zg3 s/\Zg3 s<18446744073709551616:=by unfold Zg3; omega
 have hhi:0<=Zjn s/\Zjn s<18446744073709551616:=by unfold Zjn; omega
 rw [Zp (by simp [Zek]; omega),Zp (by simpa using hL),Zp (by simp; omega)]
 simp only [Nat.add_zero,Z1k]
 rw [if_neg (by omega),h1,Zp (by simp [Zek,Zkj]; omega),Zp (by simp; omega)]
 simp only [Zo1,Zkj]
 congr 2
 ·congr 1
  unfold Zg3; omega
 ·unfold Zjn Zg3; omega
end Go.Proofs.YtiflckckekjbnaaGreatDoor
