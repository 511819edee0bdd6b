/- Texts of a proof, one behind the other: L11 L12 L13 L14 L15 L16 L17 L18 L19 L20 L21 LZ F0 F1 F2. -/
import Derived.Test.YtiflckckekjbnaaGreatDoorMX4
namespace Go.Proofs.YtiflckckekjbnaaGreatDoor
open Go Go.Sx Go.RowKit
open List (replicate)
open Go.IntKind (wrap)
set_option linter.all false
set_option maxHeartbeats 400000
set_option maxRecDepth 100000
def Zky (p0:LI) (p1:Int) (p2:Int):OL :=
 bnd (p0.getD 4 0) fun z1 =>
 bnd (p0.getD 0 0) fun z2 =>
 bnd (p0.getD 5 0) fun z3 =>
 bnd (Z4 .and .u64 z1 z3) fun z4 =>
 bnd (Z4 .xor .u64 18446744073709551615 z1) fun z5 =>
 bnd (p0.getD 6 0) fun z6 =>
 bnd (Z4 .and .u64 z5 z6) fun z7 =>
 bnd (Z4 .xor .u64 z4 z7) fun z8 =>
 bnd (p0.getD 1 0) fun z9 =>
 bnd (Z4 .and .u64 z2 z9) fun z10 =>
 bnd (p0.getD 2 0) fun z11 =>
 bnd (Z4 .and .u64 z2 z11) fun z12 =>
 bnd (Z4 .xor .u64 z10 z12) fun z13 =>
 bnd (p0.getD 1 0) fun z14 =>
 bnd (p0.getD 2 0) fun z15 =>
 bnd (Z4 .and .u64 z14 z15) fun z16 =>
 bnd (Z4 .xor .u64 z13 z16) fun z17 =>
 opt (Zwf z1 14) fun y1 =>
 opt (Zwf z1 18) fun y2 =>
 bnd (Z4 .xor .u64 y1 y2) fun z18 =>
 opt (Zwf z1 41) fun y3 =>
 bnd (Z4 .xor .u64 z18 y3) fun z19 =>
 bnd (p0.getD 7 0) fun z20 =>
 bnd (wrap .u64 (z20+z19)) fun z21 =>
 bnd (wrap .u64 (z21+z8)) fun z22 =>
 bnd (wrap .u64 (z22+p1)) fun z23 =>
 bnd (wrap .u64 (z23+p2)) fun z24 =>
 opt (Zwf z2 28) fun y4 =>
 opt (Zwf z2 34) fun y5 =>
 bnd (Z4 .xor .u64 y4 y5) fun z25 =>
 opt (Zwf z2 39) fun y6 =>
 bnd (Z4 .xor .u64 z25 y6) fun z26 =>
 bnd (wrap .u64 (z26+z17)) fun z27 =>
 bnd (wrap .u64 (z24+z27)) fun z28 =>
 bnd (p0.getD 0 0) fun z29 =>
 bnd (p0.getD 1 0) fun z30 =>
 bnd (p0.getD 2 0) fun z31 =>
 bnd (p0.getD 3 0) fun z32 =>
 bnd (wrap .u64 (z32+z24)) fun z33 =>
 bnd (p0.getD 4 0) fun z34 =>
 bnd (p0.getD 5 0) fun z35 =>
 bnd (p0.getD 6 0) fun z36 =>
 bnd (([z28,z29,z30,z31,z33,z34,z35,z36]:LI)) fun z37 =>
 some z37
theorem Zp5 {W:World} {r:(LI)} {p0:LI} {p1:Int} {p2:Int} (h:Zky p0 p1 p2=some r)  :
    Calls Tryz.prog 178 [agg [u8' p0],.int .u64 (p1),.int .u64 (p2)].toArray W (Z36 W (agg [u8' r])):=by
 unfold Zky at h
 refine Zc mo Z0od rfl ?_
 refine Z0<|Z2<|Zg (Z0k (s:=[u8' p0]) rfl fun b1 u1=>Zg (Zv fun b2 u2=>Z1<|Z0<|bH h fun z1 e1 h=>Z2<|Z6 _ (Z1s rfl rfl (by decide))<|Z6 _ (iz e1 (Z1y rfl .t1 rfl))<|Z7 rfl<|Z1<|Z0<|bH h fun z2 e2 h=>Z2<|Z6 _ (Z1s rfl rfl (by decide))<|Z6 _ (iz e2 (Z1y rfl .t1 rfl))<|Z7 rfl<|Z1<|Z0<|bH h fun z3 e3 h=>bH h fun z4 e4 h=>bH h fun z5 e5 h=>bH h fun z6 e6 h=>bH h fun z7 e7 h=>bH h fun z8 e8 h=>Z2<|Z7 rfl<|Z6 _ (Z1s rfl rfl (by decide))<|Z6 _ (iz e3 (Z1y rfl .t1 rfl))<|Z6 _ (iz e4 (Z9 rfl rfl rfl))<|Z7 rfl<|Z6 _ (iz e5 (Zl0 rfl rfl))<|Z6 _ (Z1s rfl rfl (by decide))<|Z6 _ (iz e6 (Z1y rfl .t1 rfl))<|Z6 _ (iz e7 (Z9 rfl rfl rfl))<|Z6 _ (iz e8 (Z9 rfl rfl rfl))<|Z7 rfl<|Z1<|Z0<|bH h fun z9 e9 h=>bH h fun z10 e10 h=>bH h fun z11 e11 h=>bH h fun z12 e12 h=>bH h fun z13 e13 h=>bH h fun z14 e14 h=>bH h fun z15 e15 h=>bH h fun z16 e16 h=>bH h fun z17 e17 h=>Z2<|Z7 rfl<|Z6 _ (Z1s rfl rfl (by decide))<|Z6 _ (iz e9 (Z1y rfl .t1 rfl))<|Z6 _ (iz e10 (Z9 rfl rfl rfl))<|Z7 rfl<|Z6 _ (Z1s rfl rfl (by decide))<|Z6 _ (iz e11 (Z1y rfl .t1 rfl))<|Z6 _ (iz e12 (Z9 rfl rfl rfl))<|Z6 _ (iz e13 (Z9 rfl rfl rfl))<|Z6 _ (Z1s rfl rfl (by decide))<|Z6 _ (iz e14 (Z1y rfl .t1 rfl))<|Z6 _ (Z1s rfl rfl (by decide))<|Z6 _ (iz e15 (Z1y rfl .t1 rfl))<|Z6 _ (iz e16 (Z9 rfl rfl rfl))<|Z6 _ (iz e17 (Z9 rfl rfl rfl))<|Z7 rfl<|Z1<|Z0<|oH h fun y1 f1 h=>oH h fun y2 f2 h=>bH h fun z18 e18 h=>oH h fun y3 f3 h=>bH h fun z19 e19 h=>bH h fun z20 e20 h=>bH h fun z21 e21 h=>bH h fun z22 e22 h=>bH h fun z23 e23 h=>bH h fun z24 e24 h=>Zr<|Z8 _ (Z1s rfl rfl (by decide))<|Z8 _ (Z0u rfl)<|Z8 _ (Z0b rfl (Z7t f1))<|Z8 _ (Z0u rfl)<|Z8 _ (Z0b rfl (Z7t f2))<|Z8 _ (iz e18 (Z9 rfl rfl rfl))<|Z8 _ (Z0u rfl)<|Z8 _ (Z0b rfl (Z7t f3))<|Z8 _ (iz e19 (Z9 rfl rfl rfl))<|Z8 _ (Z0u rfl)<|Z8 _ (Z0u rfl)<|Z8 _ (Z0u rfl)<|Zn _ (iz e20 (Z1y rfl .t1 rfl))<|Z8 _ (iz e21 (Z9 rfl rfl rfl))<|Z8 _ (iz e22 (Z9 rfl rfl rfl))<|Z8 _ (iz e23 (Z9 rfl rfl rfl))<|Z8 _ (iz e24 (Z9 rfl rfl rfl))<|Z8 _ (Z0u rfl)<|Z00<|Z0<|oH h fun y4 f4 h=>oH h fun y5 f5 h=>bH h fun z25 e25 h=>oH h fun y6 f6 h=>bH h fun z26 e26 h=>bH h fun z27 e27 h=>Z2<|Z7 rfl<|Z6 _ (Z0b rfl (Z7t f4))<|Z7 rfl<|Z6 _ (Z0b rfl (Z7t f5))<|Z6 _ (iz e25 (Z9 rfl rfl rfl))<|Z7 rfl<|Z6 _ (Z0b rfl (Z7t f6))<|Z6 _ (iz e26 (Z9 rfl rfl rfl))<|Z7 rfl<|Z6 _ (iz e27 (Z9 rfl rfl rfl))<|Z7 rfl<|Z1<|Z0<|bH h fun z28 e28 h=>bH h fun z29 e29 h=>bH h fun z30 e30 h=>bH h fun z31 e31 h=>bH h fun z32 e32 h=>bH h fun z33 e33 h=>bH h fun z34 e34 h=>bH h fun z35 e35 h=>bH h fun z36 e36 h=>bH h fun z37 e37 h=>Z2<|Z7 rfl<|Z7 rfl<|Z6 _ (iz e28 (Z9 rfl rfl rfl))<|Z6 _ (Z1s rfl rfl (by decide))<|Z6 _ (iz e29 (Z1y rfl .t1 rfl))<|Z6 _ (Z1s rfl rfl (by decide))<|Z6 _ (iz e30 (Z1y rfl .t1 rfl))<|Z6 _ (Z1s rfl rfl (by decide))<|Z6 _ (iz e31 (Z1y rfl .t1 rfl))<|Z6 _ (Z1s rfl rfl (by decide))<|Z6 _ (iz e32 (Z1y rfl .t1 rfl))<|Z7 rfl<|Z6 _ (iz e33 (Z9 rfl rfl rfl))<|Z6 _ (Z1s rfl rfl (by decide))<|Z6 _ (iz e34 (Z1y rfl .t1 rfl))<|Z6 _ (Z1s rfl rfl (by decide))<|Z6 _ (iz e35 (Z1y rfl .t1 rfl))<|Z6 _ (Z1s rfl rfl (by decide))<|Z6 _ (iz e36 (Z1y rfl .t1 rfl))<|Z6 _ (az (fun z=>agg [.ints .u64 8 z]) e37 (Zct (.one rfl rfl rfl (.one rfl rfl rfl (.one rfl rfl rfl (.one rfl rfl rfl (.one rfl rfl rfl (.one rfl rfl rfl (.one rfl rfl rfl (.one rfl rfl rfl BdR.nil))))))))))<|Zg (Zs (q:=[u8' z37]) rfl rfl rfl rfl rfl .here<|Z1<|Zi ?_)))
 revert h; refine Zt fun h=>?_
 subst h
 exact ⟨_,(.cons (.agg rfl .here rfl) .nil),rfl⟩
def Zd8 (y1:(LI)) (k1:(LI)->OL) (k2:Int->(LI)->OL) (i1:Int) (a1:LI):OL :=
 br ((decide (i1<80))) (
 chk (inB i1 80) <|
 chk (inB i1 y1.length) <|
 bnd (G_rtable.getD (i1).toNat 0) fun z1 =>
 bnd (y1.getD (i1).toNat 0) fun z2 =>
 opt (Zky a1 z1 z2) fun y2 =>
 bnd (wrap .i64 (i1+1)) fun z3 =>
 k2 z3 y2
 ) (
 k1 a1
 )
def Z7j (y1:(LI)) (k1:(LI)->OL):Nat->Int->(LI)->OL
  | 0,_,_=>none
  | n+1,i1,a1=>Zd8 y1 k1 (Z7j y1 k1 n) i1 a1
def Zja (p0:LI) (k1:(LI)->OL) (k2:Int->(LI)->OL) (i1:Int) (a1:LI):OL :=
 br ((decide (i1<8))) (
 chk (inB i1 8) <|
 chk (inB i1 8) <|
 bnd (a1.getD (i1).toNat 0) fun z1 =>
 bnd (p0.getD (i1).toNat 0) fun z2 =>
 bnd (wrap .u64 (z1+z2)) fun z3 =>
 chk (inB i1 8) <|
 bnd (Z2u a1 (i1).toNat z3) fun l1 =>
 bnd (wrap .i64 (i1+1)) fun z4 =>
 k2 z4 l1
 ) (
 k1 a1
 )
def Zbc (p0:LI) (k1:(LI)->OL):Nat->Int->(LI)->OL
  | 0,_,_=>none
  | n+1,i1,a1=>Zja p0 k1 (Zbc p0 k1 n) i1 a1
def Zlv (p0:LI) (p1:LI):OL :=
 opt (Zi7 p1) fun y1 =>
 jn (fun (a1:LI)=>jn (fun (a2:LI)=>some a2) fun k1=>Zbc p0 k1 big 0 a1) fun k2=>Z7j y1 k2 big 0 p0
theorem Zqo {W:World} {r:(LI)} {p0:LI} {p1:LI} {v1:Value} (h:Zlv p0 p1=some r) (hG:Globs W) (A1:RdSl (El.int .u8) W v1 p1) :
    Calls Tryz.prog 110 [agg [u8' p0],v1].toArray W (Z36 W (agg [u8' r])):=by
 unfold Zlv at h
 refine Zc mo Z0mp rfl ?_
 refine Z0<|Z2<|Zg (Z0k (s:=[u8' p0]) rfl fun b1 u1=>Zg (Zv fun b2 u2=>Z1<|Z0<|oH h fun y1 f1 h=>Z2<|Z7 rfl<|Zg (Z06 rfl (fun w hw=>Zp6  f1 ((Z0d A1 Z0h) w hw)) fun v6 o1 R1=>?_)))
 obtain ⟨_,w1,rfl,rfl,O1⟩:=R1
 refine Z7 rfl<|Z1<|Z0<|Z2<|Z6 _ (Zy (p:=[u8' p0]) rfl (.app .t1) rfl)<|Zg (Zv fun b3 u3=>Zg (Zs (q:=[u8' p0]) rfl rfl rfl rfl rfl .here<|Z1<|Z0<|Z0<|Z2<|Z7 rfl<|Z1<|jH h fun k1 q1 h=>Zm (G:=fun t m=>∃ (a1:LI),k1 a1=some r/\Fit [(2,pt' b1),(4,pt' b2),(6,pt' b3)] (ck b3 144 [u8' a1]::(ck b2 144 [u8' (replicate 8 0)]::(ck b1 144 [u8' p0] :: []))) t m) ?_ ?_))
 ·refine Za<|Zp (fun n1 t m=>∃ (i1:Int) (a2:LI),Z7j y1 k1 n1 i1 a2=some r/\Fit [(2,pt' b1),(4,pt' b2),(5,v6),(6,pt' b3),(7,.int .i64 (i1))] (ck b3 144 [u8' a2]::(w1++(ck b2 144 [u8' (replicate 8 0)]::(ck b1 144 [u8' p0] :: [])))) t m) big ?_ ?_
  ·exact ⟨0,p0,h,⟨⟨rfl,rfl,rfl,rfl,rfl,trivial⟩,(.o (.all .here (.o (.o .nil))))⟩⟩
  ·rintro n1 t m ⟨i1,a2,h,hF⟩
   refine Zk hF ?_
   clear hF
   rcases n1 with _ | n1
   · exact Z0a h
   have h:Zd8 y1 k1 (Z7j y1 k1 n1) i1 a2=some r:=h
   unfold Zd8 at h
   obtain ⟨k2,q2⟩ : ∃ k,k=Z7j y1 k1 n1:=⟨_,rfl⟩
   try rw [<- q2] at h
   refine Z0<|Z0<|Z2<|Z7 rfl<|Z6 _ (Z9 rfl rfl rfl)<|Z1<|Z02 h rfl (fun h=>?_) (fun h=>?_)
   ·refine Ze<|Z0<|Za<|cH h fun c1 h=>cH h fun c2 h=>bH h fun z1 e1 h=>bH h fun z2 e2 h=>oH h fun y2 f2 h=>Zr<|Z8 _ (Z0u rfl)<|Z8 _ (Z1s rfl rfl (Z0j c1))<|Z8 _ (Z0u rfl)<|Z8 _ (Z0u rfl)<|Z8 _ (Z2t rfl rfl (Shp.own O1) c2)<|Zn _ (Zy (p:=[u8' a2]) rfl .here rfl)<|Zn _ (iz e1 (Zyv rfl (hG.g3) (by simp) (Z03 c1)))<|Zn _ (iz e2 (Z5e (E:=(El.int .u64)) (s:=[.one (.int .u64 (y1.getD (i1).toNat 0))]) rfl (Z0f O1 .t1) (Z03 c2) rfl rfl))<|Z8 _ (Z0b rfl (Zp5 f2))<|Z1z rfl (Zs (q:=[u8' y2]) rfl rfl rfl rfl rfl .here<|Z00<|bH h fun z3 e3 h=>Z2<|Z7 rfl<|Z6 _ (iz e3 (Z9 rfl rfl rfl))<|Z7 rfl<|Z1 ?_)
    rw [q2] at h
    exact ⟨n1,Nat.lt_succ_self _,z3,y2,h,⟨⟨rfl,rfl,rfl,rfl,rfl,trivial⟩,(.o (.all .here (.o (.o .nil))))⟩⟩
   ·exact Zx _ rfl<|⟨a2,h,⟨⟨rfl,rfl,rfl,trivial⟩,(.o (.one (.app .here) (.one (.app .here) .nil)))⟩⟩
 ·rintro t m ⟨a1,h,hF⟩
  refine Zk hF ?_
  clear hF
  subst q1
  refine Z0<|Z0<|Z2<|Z7 rfl<|Z1<|jH h fun k3 q3 h=>Zm (G:=fun t m=>∃ (a3:LI),k3 a3=some r/\Fit [(4,pt' b2),(6,pt' b3)] (ck b3 144 [u8' a3]::(ck b2 144 [u8' (replicate 8 0)]::(ck b1 144 [u8' p0] :: []))) t m) ?_ ?_
  ·refine Za<|Zp (fun n2 t m=>∃ (i2:Int) (a4:LI),Zbc p0 k3 n2 i2 a4=some r/\Fit [(2,pt' b1),(4,pt' b2),(6,pt' b3),(8,.int .i64 (i2))] (ck b3 144 [u8' a4]::(ck b2 144 [u8' (replicate 8 0)]::(ck b1 144 [u8' p0] :: []))) t m) big ?_ ?_
   ·exact ⟨0,a1,h,⟨⟨rfl,rfl,rfl,rfl,trivial⟩,(.o (.o (.o .nil)))⟩⟩
   ·rintro n2 t m ⟨i2,a4,h,hF⟩
    refine Zk hF ?_
    clear hF
    rcases n2 with _ | n2
    · exact Z0a h
    have h:Zja p0 k3 (Zbc p0 k3 n2) i2 a4=some r:=h
    unfold Zja at h
    obtain ⟨k4,q4⟩ : ∃ k,k=Zbc p0 k3 n2:=⟨_,rfl⟩
    try rw [<- q4] at h
    refine Z0<|Z0<|Z2<|Z7 rfl<|Z6 _ (Z9 rfl rfl rfl)<|Z1<|Z02 h rfl (fun h=>?_) (fun h=>?_)
    ·refine Ze<|Z0<|Za<|cH h fun c3 h=>cH h fun c4 h=>bH h fun z4 e4 h=>bH h fun z5 e5 h=>bH h fun z6 e6 h=>cH h fun c5 h=>bH h fun l1 g1 h=>Zr<|Z8 _ (Z0u rfl)<|Z8 _ (Z0u rfl)<|Z8 _ (Z1s rfl rfl (Z0j c3))<|Z8 _ (Z0u rfl)<|Z8 _ (Z1s rfl rfl (Z0j c4))<|Zn _ (iz e4 (Z3e (base:=0) rfl .here rfl (Z03 c3)))<|Zn _ (iz e5 (Z3e (base:=0) rfl .t2 rfl (Z03 c4)))<|Z8 _ (iz e6 (Z9 rfl rfl rfl))<|Z8 _ (Z1s rfl rfl (Z0j c5))<|Z1z rfl (Z2l (q:=[u8' l1]) (base:=0) g1 rfl rfl rfl (Z03 c5) rfl .here<|Z00<|bH h fun z7 e7 h=>Z2<|Z7 rfl<|Z6 _ (iz e7 (Z9 rfl rfl rfl))<|Z7 rfl<|Z1 ?_)
     rw [q4] at h
     exact ⟨n2,Nat.lt_succ_self _,z7,l1,h,⟨⟨rfl,rfl,rfl,rfl,trivial⟩,(.o (.o (.o .nil)))⟩⟩
    ·exact Zx _ rfl<|⟨a4,h,⟨⟨rfl,rfl,trivial⟩,(.o (.o (.o .nil)))⟩⟩
  ·rintro t m ⟨a3,h,hF⟩
   refine Zk hF ?_
   clear hF
   subst q3
   refine Z0<|Z2<|Z6 _ (Zy (p:=[u8' a3]) rfl .here rfl)<|Zg (Zs (q:=[u8' a3]) rfl rfl rfl rfl rfl .t1<|Z1<|Zi ?_)
   revert h; refine Zt fun h=>?_
   subst h
   exact ⟨_,(.cons (.agg rfl .t1 rfl) .nil),rfl⟩
def Zfc (l1:LI) (k1:(LI)->OL) (k2:Int->(LI)->OL) (i1:Int) (a1:LI):OL :=
 br ((decide (i1<(l1.length:Int)))) (
 bnd (wrap .i64 (i1+128)) fun z1 =>
 chk (Z97 i1 z1 l1.length) <|
 opt (Zlv a1 ((l1.drop (i1).toNat).take ((z1).toNat-(i1).toNat))) fun y1 =>
 bnd (wrap .i64 (i1+128)) fun z2 =>
 k2 z2 y1
 ) (
 k1 a1
 )
def Z7u (l1:LI) (k1:(LI)->OL):Nat->Int->(LI)->OL
  | 0,_,_=>none
  | n+1,i1,a1=>Zfc l1 k1 (Z7u l1 k1 n) i1 a1
def Zlu (i1:Int) (y1:(LI)) (k1:(LI)->OL) (k2:Int->(LI)->OL) (i2:Int) (a1:LI):OL :=
 br ((decide (i2<8))) (
 bnd (wrap .i64 (8*i1)) fun z1 =>
 bnd (wrap .i64 (z1+i2)) fun z2 =>
 chk (inB i2 y1.length) <|
 bnd (y1.getD (i2).toNat 0) fun z3 =>
 chk (inB z2 64) <|
 bnd (Z2u a1 (z2).toNat z3) fun l1 =>
 bnd (wrap .i64 (i2+1)) fun z4 =>
 k2 z4 l1
 ) (
 k1 a1
 )
def Zfd (i1:Int) (y1:(LI)) (k1:(LI)->OL):Nat->Int->(LI)->OL
  | 0,_,_=>none
  | n+1,i2,a1=>Zlu i1 y1 k1 (Zfd i1 y1 k1 n) i2 a1
def Zlt (a1:LI) (k1:(LI)->OL) (k2:Int->(LI)->OL) (i1:Int) (a2:LI):OL :=
 br ((decide (i1<8))) (
 chk (inB i1 8) <|
 bnd (a1.getD (i1).toNat 0) fun z1 =>
 opt (Zhf z1) fun y1 =>
 jn (fun (a3:LI)=>bnd (wrap .i64 (i1+1)) fun z2 =>
 k2 z2 a3) fun k3=>Zfd i1 y1 k3 big 0 a2
 ) (
 k1 a2
 )
def Zd7 (a1:LI) (k1:(LI)->OL):Nat->Int->(LI)->OL
  | 0,_,_=>none
  | n+1,i1,a2=>Zlt a1 k1 (Zd7 a1 k1 n) i1 a2
def Zqn (p0:LI):OL :=
 chk (decide ((([]:LI).length+p0.length)*1<=140737488355328)) <|
 bnd (([]:LI)++p0) fun l1 =>
 bnd (wrap .u64 (p0.length:Int)) fun z1 =>
 opt (Zqm z1) fun y1 =>
 chk (decide ((l1.length+y1.length)*1<=140737488355328)) <|
 bnd (l1++y1) fun l2 =>
 jn (fun (a1:LI)=>jn (fun (a2:LI)=>some a2) fun k1=>Zd7 a1 k1 big 0 (replicate 64 0)) fun k2=>Z7u l2 k2 big 0 G_rfirst
theorem Zhe {W:World} {r:(LI)} {p0:LI} {v0:Value} (h:Zqn p0=some r) (hG:Globs W) (A0:RdSl (El.int .u8) W v0 p0) :
    Calls Tryz.prog 58 [v0].toArray W (Z36 W (agg [b6' r])):=by
 unfold Zqn at h
 refine Zc mo ok58 rfl ?_
 refine Z0<|Z2<|Zg (Zv fun b1 u1=>Z1<|Z0<|Z2<|Z7 rfl<|Z1<|Z0<|cH h fun c1 h=>bH h fun l1 g1 h=>Z2<|Z7 rfl<|Z7 rfl<|Zg (Z38 (E:=(El.int .u8)) g1 rfl Z39 .here rfl (Z0d A0 Z0h) c1 fun v7 w1 O1=>Z7 rfl<|Z1<|Z0<|bH h fun z1 e1 h=>oH h fun y1 f1 h=>cH h fun c2 h=>bH h fun l2 g2 h=>Z2<|Z7 rfl<|Z7 rfl<|Z6 _ (Z22 rfl (Shp.rd A0))<|Z6 _ (iz e1 (Z4k rfl))<|Zg (Z06 rfl (fun w hw=>Zsp  f1 ) fun v13 Msv1 R1=>?_)))
 obtain ⟨_,w2,rfl,rfl,O2⟩:=R1
 refine Zg (Z38 (E:=(El.int .u8)) g2 rfl O1 (.app .here) rfl (Z0f O2 .here) c2 fun v20 w3 O3=>Z7 rfl<|Z1<|Z0<|Z2<|Z6 _ (Zsu (o0:=0) (off:=0) rfl (hG.g0) (by simp) rfl)<|Zg (Zv fun b2 u2=>Zg (Zs (q:=[u8' G_rfirst]) rfl rfl rfl rfl rfl .here<|Z1<|Z0<|Z0<|Z2<|Z7 rfl<|Z1<|jH h fun k1 q1 h=>Zm (G:=fun t m=>∃ (a1:LI),k1 a1=some r/\Fit [(2,pt' b1),(4,pt' b2)] (ck b2 144 [u8' a1]::(ck b1 94 [b6' (replicate 64 0)] :: [])) t m) ?_ ?_)))
 ·refine Za<|Zp (fun n1 t m=>∃ (i1:Int) (a2:LI),Z7u l2 k1 n1 i1 a2=some r/\Fit [(2,pt' b1),(3,v20),(4,pt' b2),(5,.int .i64 (i1))] (ck b2 144 [u8' a2]::(w3++(ck b1 94 [b6' (replicate 64 0)] :: []))) t m) big ?_ ?_
  ·exact ⟨0,G_rfirst,h,⟨⟨rfl,rfl,rfl,rfl,trivial⟩,(.o (.all .here (.one (.app .here) .nil)))⟩⟩
  ·rintro n1 t m ⟨i1,a2,h,hF⟩
   refine Zk hF ?_
   clear hF
   rcases n1 with _ | n1
   · exact Z0a h
   have h:Zfc l2 k1 (Z7u l2 k1 n1) i1 a2=some r:=h
   unfold Zfc at h
   obtain ⟨k2,q2⟩ : ∃ k,k=Z7u l2 k1 n1:=⟨_,rfl⟩
   try rw [<- q2] at h
   refine Z0<|Z0<|Z2<|Z7 rfl<|Z7 rfl<|Z6 _ (Z22 rfl (Shp.own O3))<|Z6 _ (Z9 rfl rfl rfl)<|Z1<|Z02 h rfl (fun h=>?_) (fun h=>?_)
   ·refine Ze<|Z0<|Za<|bH h fun z2 e2 h=>cH h fun c3 h=>oH h fun y2 f2 h=>Zr<|Z8 _ (Z0u rfl)<|Z8 _ (Z0u rfl)<|Z8 _ (Z0u rfl)<|Z8 _ (iz e2 (Z9 rfl rfl rfl))<|Z8 _ (Zqx (lz:=i1) (hz:=z2) rfl (Shp.own O3) (.yes rfl) (.yes rfl) c3)<|Zn _ (Zy (p:=[u8' a2]) rfl .here rfl)<|Zn _ (Z0p rfl (fun w hw=>Zqo f2 (hG.at hw (by simp)) ((Zuj (Z0f O3 .t1) (lz:=i1) (hz:=z2) c3) w hw)))<|Z1z rfl (Zs (q:=[u8' y2]) rfl rfl rfl rfl rfl .here<|Z00<|bH h fun z3 e3 h=>Z2<|Z7 rfl<|Z6 _ (iz e3 (Z9 rfl rfl rfl))<|Z7 rfl<|Z1 ?_)
    rw [q2] at h
    exact ⟨n1,Nat.lt_succ_self _,z3,y2,h,⟨⟨rfl,rfl,rfl,rfl,trivial⟩,(.o (.all .here (.o .nil)))⟩⟩
   ·exact Zx _ rfl<|⟨a2,h,⟨⟨rfl,rfl,trivial⟩,(.o (.one (.app .here) .nil))⟩⟩
 ·rintro t m ⟨a1,h,hF⟩
  refine Zk hF ?_
  clear hF
  subst q1
  refine Z0<|Z2<|Zg (Zv fun b3 u3=>Z1<|Z0<|Z0<|Z2<|Z7 rfl<|Z1<|jH h fun k3 q3 h=>Zm (G:=fun t m=>∃ (a3:LI),k3 a3=some r/\Fit [(2,pt' b1),(6,pt' b3)] (ck b3 94 [b6' a3]::(ck b2 144 [u8' a1]::(ck b1 94 [b6' (replicate 64 0)] :: []))) t m) ?_ ?_)
  ·refine Za<|Zp (fun n2 t m=>∃ (i2:Int) (a4:LI),Zd7 a1 k3 n2 i2 a4=some r/\Fit [(2,pt' b1),(4,pt' b2),(6,pt' b3),(7,.int .i64 (i2))] (ck b3 94 [b6' a4]::(ck b2 144 [u8' a1]::(ck b1 94 [b6' (replicate 64 0)] :: []))) t m) big ?_ ?_
   ·exact ⟨0,(replicate 64 0),h,⟨⟨rfl,rfl,rfl,rfl,trivial⟩,(.o (.o (.o .nil)))⟩⟩
   ·rintro n2 t m ⟨i2,a4,h,hF⟩
    refine Zk hF ?_
    clear hF
    rcases n2 with _ | n2
    · exact Z0a h
    have h:Zlt a1 k3 (Zd7 a1 k3 n2) i2 a4=some r:=h
    unfold Zlt at h
    obtain ⟨k4,q4⟩ : ∃ k,k=Zd7 a1 k3 n2:=⟨_,rfl⟩
    try rw [<- q4] at h
    refine Z0<|Z0<|Z2<|Z7 rfl<|Z6 _ (Z9 rfl rfl rfl)<|Z1<|Z02 h rfl (fun h=>?_) (fun h=>?_)
    ·refine Ze<|Z0<|Za<|Z0<|cH h fun c4 h=>bH h fun z4 e4 h=>oH h fun y3 f3 h=>Z2<|Z7 rfl<|Z6 _ (Z1s rfl rfl (Z0j c4))<|Z6 _ (iz e4 (Z3e (base:=0) rfl .t1 rfl (Z03 c4)))<|Zg (Z06 rfl (fun w hw=>Zfe  f3 ) fun v531 Msv2 R2=>?_)
     obtain ⟨_,w4,rfl,rfl,O4⟩:=R2
     refine Z7 rfl<|Z1<|Z0<|Z2<|Z7 rfl<|Z1<|jH h fun k5 q5 h=>Zm (G:=fun t m=>∃ (a5:LI),k5 a5=some r/\Fit [(2,pt' b1),(4,pt' b2),(6,pt' b3),(7,.int .i64 (i2))] (ck b3 94 [b6' a5]::(ck b2 144 [u8' a1]::(ck b1 94 [b6' (replicate 64 0)] :: []))) t m) ?_ ?_
     ·refine Za<|Zp (fun n3 t m=>∃ (i3:Int) (a6:LI),Zfd i2 y3 k5 n3 i3 a6=some r/\Fit [(2,pt' b1),(4,pt' b2),(6,pt' b3),(7,.int .i64 (i2)),(8,v531),(9,.int .i64 (i3))] (w4++(ck b3 94 [b6' a6]::(ck b2 144 [u8' a1]::(ck b1 94 [b6' (replicate 64 0)] :: [])))) t m) big ?_ ?_
      ·exact ⟨0,a4,h,⟨⟨rfl,rfl,rfl,rfl,rfl,rfl,trivial⟩,(.all .here (.o (.o (.o .nil))))⟩⟩
      ·rintro n3 t m ⟨i3,a6,h,hF⟩
       refine Zk hF ?_
       clear hF
       rcases n3 with _ | n3
       · exact Z0a h
       have h:Zlu i2 y3 k5 (Zfd i2 y3 k5 n3) i3 a6=some r:=h
       unfold Zlu at h
       obtain ⟨k6,q6⟩ : ∃ k,k=Zfd i2 y3 k5 n3:=⟨_,rfl⟩
       try rw [<- q6] at h
       refine Z0<|Z0<|Z2<|Z7 rfl<|Z6 _ (Z9 rfl rfl rfl)<|Z1<|Z02 h rfl (fun h=>?_) (fun h=>?_)
       ·refine Ze<|Z0<|Za<|bH h fun z5 e5 h=>bH h fun z6 e6 h=>cH h fun c5 h=>bH h fun z7 e7 h=>cH h fun c6 h=>bH h fun l3 g3 h=>Z2<|Z7 rfl<|Z6 _ (iz e5 (Z9 rfl rfl rfl))<|Z7 rfl<|Z6 _ (iz e6 (Z9 rfl rfl rfl))<|Z7 rfl<|Z7 rfl<|Z6 _ (Z2t rfl rfl (Shp.own O4) c5)<|Z6 _ (iz e7 (Z5e (E:=(El.int .u8)) (s:=[.one (.int .u8 (y3.getD (i3).toNat 0))]) rfl (Z0f O4 .here) (Z03 c5) rfl rfl))<|Z6 _ (Z1s rfl rfl (Z0j c6))<|Zg (Z2l (q:=[b6' l3]) (base:=0) g3 rfl rfl rfl (Z03 c6) rfl (.app .here)<|Z1<|bH h fun z8 e8 h=>Z2<|Z7 rfl<|Z6 _ (iz e8 (Z9 rfl rfl rfl))<|Z7 rfl<|Z1 ?_)
        rw [q6] at h
        exact ⟨n3,Nat.lt_succ_self _,z8,l3,h,⟨⟨rfl,rfl,rfl,rfl,rfl,rfl,trivial⟩,(.all .here (.o (.o (.o .nil))))⟩⟩
       ·exact Zx _ rfl<|⟨a6,h,⟨⟨rfl,rfl,rfl,rfl,trivial⟩,(.one (.app .here) (.one (.app .here) (.one (.app .here) .nil)))⟩⟩
     ·rintro t m ⟨a5,h,hF⟩
      refine Zk hF ?_
      clear hF
      subst q5
      refine bH h fun z9 e9 h=>Z2<|Z7 rfl<|Z6 _ (iz e9 (Z9 rfl rfl rfl))<|Z7 rfl<|Z1 ?_
      rw [q4] at h
      exact ⟨n2,Nat.lt_succ_self _,z9,a5,h,⟨⟨rfl,rfl,rfl,rfl,trivial⟩,(.o (.o (.o .nil)))⟩⟩
    ·exact Zx _ rfl<|⟨a4,h,⟨⟨rfl,rfl,trivial⟩,(.o (.o (.o .nil)))⟩⟩
  ·rintro t m ⟨a3,h,hF⟩
   refine Zk hF ?_
   clear hF
   subst q3
   refine Z0<|Z2<|Z6 _ (Zy (p:=[b6' a3]) rfl .here rfl)<|Zg (Zs (q:=[b6' a3]) rfl rfl rfl rfl rfl .t2<|Z1<|Zi ?_)
   revert h; refine Zt fun h=>?_
   subst h
   exact ⟨_,(.cons (.agg rfl .t2 rfl) .nil),rfl⟩
def Zm1 (p0:LI) (p1:Int):Option Int :=
 br ((decide (p1<(p0.length:Int)))) (
 chk (inB p1 p0.length) <|
 bnd (p0.getD (p1).toNat 0) fun z1 =>
 some z1
 ) (
 some 0
 )
theorem Z9y {W:World} {r:Int} {p0:LI} {p1:Int} {v0:Value} (h:Zm1 p0 p1=some r) (A0:RdSl (El.int .i64) W v0 p0) :
    Calls Tryz.prog 179 [v0,.int .i64 (p1)].toArray W (Z36 W (.int .i64 (r))):=by
 unfold Zm1 at h
 refine Zc mo Z0oe rfl ?_
 refine Z0<|Z2<|Z7 rfl<|Z1<|Z0<|Z0<|Z2<|Z7 rfl<|Z7 rfl<|Z6 _ (Z22 rfl (Shp.rd A0))<|Z6 _ (Z9 rfl rfl rfl)<|Z1<|Z02 h rfl (fun h=>?_) (fun h=>?_)
 ·refine Z0<|cH h fun c1 h=>bH h fun z1 e1 h=>Z2<|Z7 rfl<|Z7 rfl<|Z6 _ (Z2t rfl rfl (Shp.rd A0) c1)<|Z6 _ (iz e1 (Z5e (E:=(El.int .i64)) (s:=[.one (.int .i64 (p0.getD (p1).toNat 0))]) rfl (Z0d A0 Z0h) (Z03 c1) rfl rfl))<|Z7 rfl<|Z1<|Zi ?_
  revert h; refine Zt fun h=>?_
  subst h
  exact ⟨_,(.cons (.tmp rfl) .nil),rfl⟩
 ·refine Ze<|Z0<|Z2<|Z7 rfl<|Z1<|Zi ?_
  revert h; refine Zt fun h=>?_
  subst h
  exact ⟨_,(.cons (.tmp rfl) .nil),rfl⟩
def Zdf (p0:LI) (k1:(LI)->OL) (k2:Int->(LI)->OL) (i1:Int) (a1:LI):OL :=
 br ((decide (i1<32))) (
 opt (Zm1 p0 i1) fun y1 =>
 bnd (wrap .u8 y1) fun z1 =>
 chk (inB i1 32) <|
 bnd (Z2u a1 (i1).toNat z1) fun l1 =>
 bnd (wrap .i64 (i1+1)) fun z2 =>
 k2 z2 l1
 ) (
 k1 a1
 )
def Z8u (p0:LI) (k1:(LI)->OL):Nat->Int->(LI)->OL
  | 0,_,_=>none
  | n+1,i1,a1=>Zdf p0 k1 (Z8u p0 k1 n) i1 a1
def Zm0 (p0:LI):OL :=
 jn (fun (a1:LI)=>some a1) fun k1=>Z8u p0 k1 big 0 (replicate 32 0)
theorem Zqr {W:World} {r:(LI)} {p0:LI} {v0:Value} (h:Zm0 p0=some r) (A0:RdSl (El.int .i64) W v0 p0) :
    Calls Tryz.prog 112 [v0].toArray W (Z36 W (agg [b3' r])):=by
 unfold Zm0 at h
 refine Zc mo Z0mr rfl ?_
 refine Z0<|Z2<|Zg (Zv fun b1 u1=>Z1<|Z0<|Z2<|Zg (Zv fun b2 u2=>Z1<|Z0<|Z0<|Z2<|Z7 rfl<|Z1<|jH h fun k1 q1 h=>Zm (G:=fun t m=>∃ (a1:LI),k1 a1=some r/\Fit [(2,pt' b1),(3,pt' b2)] (ck b2 74 [b3' a1]::(ck b1 74 [b3' (replicate 32 0)] :: [])) t m) ?_ ?_))
 ·refine Za<|Zp (fun n1 t m=>∃ (i1:Int) (a2:LI),Z8u p0 k1 n1 i1 a2=some r/\Fit [(0,v0),(2,pt' b1),(3,pt' b2),(4,.int .i64 (i1))] (ck b2 74 [b3' a2]::(ck b1 74 [b3' (replicate 32 0)] :: [])) t m) big ?_ ?_
  ·exact ⟨0,(replicate 32 0),h,⟨⟨rfl,rfl,rfl,rfl,trivial⟩,(.o (.o .nil))⟩⟩
  ·rintro n1 t m ⟨i1,a2,h,hF⟩
   refine Zk hF ?_
   clear hF
   rcases n1 with _ | n1
   · exact Z0a h
   have h:Zdf p0 k1 (Z8u p0 k1 n1) i1 a2=some r:=h
   unfold Zdf at h
   obtain ⟨k2,q2⟩ : ∃ k,k=Z8u p0 k1 n1:=⟨_,rfl⟩
   try rw [<- q2] at h
   refine Z0<|Z0<|Z2<|Z7 rfl<|Z6 _ (Z9 rfl rfl rfl)<|Z1<|Z02 h rfl (fun h=>?_) (fun h=>?_)
   ·refine Ze<|Z0<|Za<|oH h fun y1 f1 h=>bH h fun z1 e1 h=>cH h fun c1 h=>bH h fun l1 g1 h=>Z2<|Z7 rfl<|Z7 rfl<|Z7 rfl<|Z6 _ (Z0p rfl (fun w hw=>Z9y f1 ((Z0d A0 Z0h) w hw)))<|Z6 _ (iz e1 (Z4k rfl))<|Z6 _ (Z1s rfl rfl (Z0j c1))<|Zg (Z2l (q:=[b3' l1]) (base:=0) g1 rfl rfl rfl (Z03 c1) rfl .here<|Z1<|bH h fun z2 e2 h=>Z2<|Z7 rfl<|Z6 _ (iz e2 (Z9 rfl rfl rfl))<|Z7 rfl<|Z1 ?_)
    rw [q2] at h
    exact ⟨n1,Nat.lt_succ_self _,z2,l1,h,⟨⟨rfl,rfl,rfl,rfl,trivial⟩,(.o (.o .nil))⟩⟩
   ·exact Zx _ rfl<|⟨a2,h,⟨⟨rfl,rfl,trivial⟩,(.o (.o .nil))⟩⟩
 ·rintro t m ⟨a1,h,hF⟩
  refine Zk hF ?_
  clear hF
  subst q1
  refine Z0<|Z2<|Z6 _ (Zy (p:=[b3' a1]) rfl .here rfl)<|Zg (Zs (q:=[b3' a1]) rfl rfl rfl rfl rfl .t1<|Z1<|Zi ?_)
  revert h; refine Zt fun h=>?_
  subst h
  exact ⟨_,(.cons (.agg rfl .t1 rfl) .nil),rfl⟩
end Go.Proofs.YtiflckckekjbnaaGreatDoor
namespace Go.Proofs.YtiflckckekjbnaaGreatDoor
open Go Go.Sx Go.RowKit
open Go.IntKind (wrap)
set_option linter.all false
set_option maxHeartbeats 400000
set_option maxRecDepth 100000
def Zfm (p0:LI) (p1:LI):Option Int :=
 br ((decide ((p0.length:Int)<(p1.length:Int)))) (
 some (p1.length:Int)
 ) (
 some (p0.length:Int)
 )
theorem Zmz {W:World} {r:Int} {p0:LI} {p1:LI} {v0:Value} {v1:Value} (h:Zfm p0 p1=some r) (A0:RdSl (El.int .i64) W v0 p0) (A1:RdSl (El.int .i64) W v1 p1) :
    Calls Tryz.prog 182 [v0,v1].toArray W (Z36 W (.int .i64 (r))):=by
 unfold Zfm at h
 refine Zc mo Z0oh rfl ?_
 refine Z0<|Z2<|Z7 rfl<|Z1<|Z0<|Z0<|Z2<|Z7 rfl<|Z6 _ (Z22 rfl (Shp.rd A0))<|Z7 rfl<|Z6 _ (Z22 rfl (Shp.rd A1))<|Z6 _ (Z9 rfl rfl rfl)<|Z1<|Z02 h rfl (fun h=>?_) (fun h=>?_)
 ·refine Z0<|Z2<|Z7 rfl<|Z6 _ (Z22 rfl (Shp.rd A1))<|Z7 rfl<|Z1<|Zi ?_
  revert h; refine Zt fun h=>?_
  subst h
  exact ⟨_,(.cons (.tmp rfl) .nil),rfl⟩
 ·refine Ze<|Z0<|Z2<|Z7 rfl<|Z6 _ (Z22 rfl (Shp.rd A0))<|Z7 rfl<|Z1<|Zi ?_
  revert h; refine Zt fun h=>?_
  subst h
  exact ⟨_,(.cons (.tmp rfl) .nil),rfl⟩
def Zdd (p0:LI) (p1:LI) (k1:Unit->Option Bool) (k2:Int->Option Bool) (i1:Int):Option Bool :=
 br ((decide (i1≥0))) (
 opt (Zm1 p0 i1) fun y1 =>
 opt (Zm1 p1 i1) fun y2 =>
 br ((y1 != y2)) (
 opt (Zm1 p0 i1) fun y3 =>
 opt (Zm1 p1 i1) fun y4 =>
 some (decide (y3<y4))
 ) (
 bnd (wrap .i64 (i1-1)) fun z1 =>
 k2 z1
 )
 ) (
 k1 ()
 )
def Z8t (p0:LI) (p1:LI) (k1:Unit->Option Bool):Nat->Int->Option Bool
  | 0,_=>none
  | n+1,i1=>Zdd p0 p1 k1 (Z8t p0 p1 k1 n) i1
def Zhi (p0:LI) (p1:LI):Option Bool :=
 opt (Zfm p0 p1) fun y1 =>
 bnd (wrap .i64 (y1-1)) fun z1 =>
 jn (fun (_:Unit)=>some false) fun k1=>Z8t p0 p1 k1 big z1
theorem Zk1 {W:World} {r:Bool} {p0:LI} {p1:LI} {v0:Value} {v1:Value} (h:Zhi p0 p1=some r) (A0:RdSl (El.int .i64) W v0 p0) (A1:RdSl (El.int .i64) W v1 p1) :
    Calls Tryz.prog 144 [v0,v1].toArray W (Z36 W (.bool (r))):=by
 unfold Zhi at h
 refine Zc mo Z0ni rfl ?_
 refine Z0<|Z2<|Z7 rfl<|Z1<|Z0<|Z0<|oH h fun y1 f1 h=>bH h fun z1 e1 h=>Z2<|Z7 rfl<|Z7 rfl<|Z6 _ (Z0p rfl (fun w hw=>Zmz f1 ((Z0d A0 Z0h) w hw) ((Z0d A1 Z0h) w hw)))<|Z6 _ (iz e1 (Z9 rfl rfl rfl))<|Z7 rfl<|Z1<|jH h fun k1 q1 h=>Zm (G:=fun t m=>k1 ()=some r/\Fit [] [] t m) ?_ ?_
 ·refine Za<|Zp (fun n1 t m=>∃ (i1:Int),Z8t p0 p1 k1 n1 i1=some r/\Fit [(0,v0),(1,v1),(5,.int .i64 (i1))] [] t m) big ?_ ?_
  ·exact ⟨z1,h,⟨⟨rfl,rfl,rfl,trivial⟩,.nil⟩⟩
  ·rintro n1 t m ⟨i1,h,hF⟩
   refine Zk hF ?_
   clear hF
   rcases n1 with _ | n1
   · exact Z0a h
   have h:Zdd p0 p1 k1 (Z8t p0 p1 k1 n1) i1=some r:=h
   unfold Zdd at h
   obtain ⟨k2,q2⟩ : ∃ k,k=Z8t p0 p1 k1 n1:=⟨_,rfl⟩
   try rw [<- q2] at h
   refine Z0<|Z0<|Z2<|Z7 rfl<|Z6 _ (Z9 rfl rfl rfl)<|Z1<|Z02 h rfl (fun h=>?_) (fun h=>?_)
   ·refine Ze<|Z0<|Za<|Z0<|oH h fun y2 f2 h=>oH h fun y3 f3 h=>Z2<|Z7 rfl<|Z7 rfl<|Z6 _ (Z0p rfl (fun w hw=>Z9y f2 ((Z0d A0 Z0h) w hw)))<|Z7 rfl<|Z7 rfl<|Z6 _ (Z0p rfl (fun w hw=>Z9y f3 ((Z0d A1 Z0h) w hw)))<|Z6 _ (Z9 rfl rfl rfl)<|Z1<|Z02 h rfl (fun h=>?_) (fun h=>?_)
    ·refine Z0<|oH h fun y4 f4 h=>oH h fun y5 f5 h=>Z2<|Z7 rfl<|Z7 rfl<|Z6 _ (Z0p rfl (fun w hw=>Z9y f4 ((Z0d A0 Z0h) w hw)))<|Z7 rfl<|Z7 rfl<|Z6 _ (Z0p rfl (fun w hw=>Z9y f5 ((Z0d A1 Z0h) w hw)))<|Z6 _ (Z9 rfl rfl rfl)<|Z7 rfl<|Z1<|Zi ?_
     revert h; refine Zt fun h=>?_
     subst h
     exact ⟨_,(.cons (.tmp rfl) .nil),rfl⟩
    ·refine Ze<|bH h fun z2 e2 h=>Z2<|Z7 rfl<|Z6 _ (iz e2 (Z9 rfl rfl rfl))<|Z7 rfl<|Z1 ?_
     rw [q2] at h
     exact ⟨n1,Nat.lt_succ_self _,z2,h,⟨⟨rfl,rfl,rfl,trivial⟩,.nil⟩⟩
   ·exact Zx _ rfl<|⟨h,⟨trivial,.nil⟩⟩
 ·rintro t m ⟨h,hF⟩
  refine Zk hF ?_
  clear hF
  subst q1
  refine Z0<|Z2<|Z7 rfl<|Z1<|Zi ?_
  revert h; refine Zt fun h=>?_
  subst h
  exact ⟨_,(.cons (.tmp rfl) .nil),rfl⟩
def Zid:OL :=
 some ([237,211,245,92,26,99,18,88,214,156,247,162,222,249,222,20,0,0,0,0,0,0,0,0,0,0,0,0,0,0,0,16]:LI)
theorem Zie {W:World} {r:(LI)} (h:Zid=some r)  :
    Calls Tryz.prog 145 [].toArray W (Zc6 W [] (fun v Ms=>∃ (u0:Value) (M1:List Zf),v=u0/\Ms = [.all M1]/\Z0m (El.int .i64) u0 M1 r)):=by
 unfold Zid at h
 refine Z04 mo Z0nj rfl (Zh8 _) ?_
 refine Z0<|Z2<|Z7 rfl<|Z1<|Z0<|Z2<|Zg (Z5m (E:=(El.int .i64)) (xs:=[237,211,245,92,26,99,18,88,214,156,247,162,222,249,222,20,0,0,0,0,0,0,0,0,0,0,0,0,0,0,0,16]) (.one rfl rfl rfl (.one rfl rfl rfl (.one rfl rfl rfl (.one rfl rfl rfl (.one rfl rfl rfl (.one rfl rfl rfl (.one rfl rfl rfl (.one rfl rfl rfl (.one rfl rfl rfl (.one rfl rfl rfl (.one rfl rfl rfl (.one rfl rfl rfl (.one rfl rfl rfl (.one rfl rfl rfl (.one rfl rfl rfl (.one rfl rfl rfl (.one rfl rfl rfl (.one rfl rfl rfl (.one rfl rfl rfl (.one rfl rfl rfl (.one rfl rfl rfl (.one rfl rfl rfl (.one rfl rfl rfl (.one rfl rfl rfl (.one rfl rfl rfl (.one rfl rfl rfl (.one rfl rfl rfl (.one rfl rfl rfl (.one rfl rfl rfl (.one rfl rfl rfl (.one rfl rfl rfl (.one rfl rfl rfl BdR.nil)))))))))))))))))))))))))))))))) (.cons (p:=[.one (.int .i64 (237))]) rfl (.cons (p:=[.one (.int .i64 (211))]) rfl (.cons (p:=[.one (.int .i64 (245))]) rfl (.cons (p:=[.one (.int .i64 (92))]) rfl (.cons (p:=[.one (.int .i64 (26))]) rfl (.cons (p:=[.one (.int .i64 (99))]) rfl (.cons (p:=[.one (.int .i64 (18))]) rfl (.cons (p:=[.one (.int .i64 (88))]) rfl (.cons (p:=[.one (.int .i64 (214))]) rfl (.cons (p:=[.one (.int .i64 (156))]) rfl (.cons (p:=[.one (.int .i64 (247))]) rfl (.cons (p:=[.one (.int .i64 (162))]) rfl (.cons (p:=[.one (.int .i64 (222))]) rfl (.cons (p:=[.one (.int .i64 (249))]) rfl (.cons (p:=[.one (.int .i64 (222))]) rfl (.cons (p:=[.one (.int .i64 (20))]) rfl (.cons (p:=[.one (.int .i64 (0))]) rfl (.cons (p:=[.one (.int .i64 (0))]) rfl (.cons (p:=[.one (.int .i64 (0))]) rfl (.cons (p:=[.one (.int .i64 (0))]) rfl (.cons (p:=[.one (.int .i64 (0))]) rfl (.cons (p:=[.one (.int .i64 (0))]) rfl (.cons (p:=[.one (.int .i64 (0))]) rfl (.cons (p:=[.one (.int .i64 (0))]) rfl (.cons (p:=[.one (.int .i64 (0))]) rfl (.cons (p:=[.one (.int .i64 (0))]) rfl (.cons (p:=[.one (.int .i64 (0))]) rfl (.cons (p:=[.one (.int .i64 (0))]) rfl (.cons (p:=[.one (.int .i64 (0))]) rfl (.cons (p:=[.one (.int .i64 (0))]) rfl (.cons (p:=[.one (.int .i64 (0))]) rfl (.cons (p:=[.one (.int .i64 (16))]) rfl .nil)))))))))))))))))))))))))))))))) rfl fun v3 w1 O1=>Z7 rfl<|Z1<|Zi ?_)
 revert h; refine Zt fun h=>?_
 subst h
 exact ⟨_,_,(.cons (.tmp rfl) .nil),(.all .here .nil),⟨_,rfl,⟨v3,w1,rfl,rfl,O1⟩⟩⟩
def Zfl (p1:Int) (k1:Int->Option Int) (k2:Int->Int->Option Int) (i1:Int) (i2:Int):Option Int :=
 bnd (Int.tmod p1 8) fun z1 =>
 br ((decide (i2<z1))) (
 bnd (wrap .i64 (Int.tdiv i1 2)) fun z2 =>
 bnd (wrap .i64 (i2+1)) fun z3 =>
 k2 z2 z3
 ) (
 k1 i1
 )
def Zau (p1:Int) (k1:Int->Option Int):Nat->Int->Int->Option Int
  | 0,_,_=>none
  | n+1,i1,i2=>Zfl p1 k1 (Zau p1 k1 n) i1 i2
def Zqs (p0:LI) (p1:Int):Option Int :=
 bnd (wrap .i64 (Int.tdiv p1 8)) fun z1 =>
 opt (Zm1 p0 z1) fun y1 =>
 jn (fun (i1:Int)=>bnd (Int.tmod i1 2) fun z2 =>
 some z2) fun k1=>Zau p1 k1 big y1 0
theorem Zsr {W:World} {r:Int} {p0:LI} {p1:Int} {v0:Value} (h:Zqs p0 p1=some r) (A0:RdSl (El.int .i64) W v0 p0) :
    Calls Tryz.prog 180 [v0,.int .i64 (p1)].toArray W (Z36 W (.int .i64 (r))):=by
 unfold Zqs at h
 refine Zc mo Z0of rfl ?_
 refine Z0<|Z2<|Z7 rfl<|Z1<|Z0<|bH h fun z1 e1 h=>oH h fun y1 f1 h=>Z2<|Z7 rfl<|Z7 rfl<|Z6 _ (iz e1 (Zb8 rfl rfl (by decide)))<|Z6 _ (Z0p rfl (fun w hw=>Z9y f1 ((Z0d A0 Z0h) w hw)))<|Z7 rfl<|Z1<|Z0<|Z0<|Z2<|Z7 rfl<|Z1<|jH h fun k1 q1 h=>Zm (G:=fun t m=>∃ (i1:Int),k1 i1=some r/\Fit [(5,.int .i64 (i1))] [] t m) ?_ ?_
 ·refine Za<|Zp (fun n1 t m=>∃ (i2:Int) (i3:Int),Zau p1 k1 n1 i2 i3=some r/\Fit [(1,.int .i64 (p1)),(5,.int .i64 (i2)),(6,.int .i64 (i3))] [] t m) big ?_ ?_
  ·exact ⟨y1,0,h,⟨⟨rfl,rfl,rfl,trivial⟩,.nil⟩⟩
  ·rintro n1 t m ⟨i2,i3,h,hF⟩
   refine Zk hF ?_
   clear hF
   rcases n1 with _ | n1
   · exact Z0a h
   have h:Zfl p1 k1 (Zau p1 k1 n1) i2 i3=some r:=h
   unfold Zfl at h
   obtain ⟨k2,q2⟩ : ∃ k,k=Zau p1 k1 n1:=⟨_,rfl⟩
   try rw [<- q2] at h
   refine Z0<|Z0<|bH h fun z2 e2 h=>Z2<|Z7 rfl<|Z7 rfl<|Z6 _ (iz e2 (Zdl rfl rfl (by decide)))<|Z6 _ (Z9 rfl rfl rfl)<|Z1<|Z02 h rfl (fun h=>?_) (fun h=>?_)
   ·refine Ze<|Z0<|Za<|bH h fun z3 e3 h=>Z2<|Z7 rfl<|Z6 _ (iz e3 (Zb8 rfl rfl (by decide)))<|Z7 rfl<|Z1<|bH h fun z4 e4 h=>Z2<|Z7 rfl<|Z6 _ (iz e4 (Z9 rfl rfl rfl))<|Z7 rfl<|Z1 ?_
    rw [q2] at h
    exact ⟨n1,Nat.lt_succ_self _,z3,z4,h,⟨⟨rfl,rfl,rfl,trivial⟩,.nil⟩⟩
   ·exact Zx _ rfl<|⟨i2,h,⟨⟨rfl,trivial⟩,.nil⟩⟩
 ·rintro t m ⟨i1,h,hF⟩
  refine Zk hF ?_
  clear hF
  subst q1
  refine Z0<|bH h fun z5 e5 h=>Z2<|Z7 rfl<|Z6 _ (iz e5 (Zdl rfl rfl (by decide)))<|Z7 rfl<|Z1<|Zi ?_
  revert h; refine Zt fun h=>?_
  subst h
  exact ⟨_,(.cons (.tmp rfl) .nil),rfl⟩
def Zbx (p0:LI) (p1:LI) (k1:(LI)->OL) (k2:(LI)->Int->Int->OL) (l1:LI) (i1:Int) (i2:Int):OL :=
 br ((decide (i2<(p0.length:Int)))) (
 chk (inB i2 p0.length) <|
 bnd (p0.getD (i2).toNat 0) fun z1 =>
 opt (Zm1 p1 i2) fun y1 =>
 bnd (wrap .i64 (z1-y1)) fun z2 =>
 bnd (wrap .i64 (z2-i1)) fun z3 =>
 jn (fun (i3:Int) (i4:Int)=>chk (decide ((l1.length+([i4]:LI).length)*8<=140737488355328)) <|
 bnd (l1++([i4]:LI)) fun l2 =>
 bnd (wrap .i64 (i2+1)) fun z4 =>
 k2 l2 i3 z4) fun k3=>br ((decide (z3<0))) (
 bnd (wrap .i64 (z3+256)) fun z5 =>
 k3 1 z5
 ) (
 k3 0 z3
 )
 ) (
 k1 l1
 )
def Z75 (p0:LI) (p1:LI) (k1:(LI)->OL):Nat->(LI)->Int->Int->OL
  | 0,_,_,_=>none
  | n+1,l1,i1,i2=>Zbx p0 p1 k1 (Z75 p0 p1 k1 n) l1 i1 i2
def Zgh (p0:LI) (p1:LI):OL :=
 jn (fun (l1:LI)=>some l1) fun k1=>Z75 p0 p1 k1 big [] 0 0
theorem Zp8 {W:World} {r:(LI)} {p0:LI} {p1:LI} {v0:Value} {v1:Value} (h:Zgh p0 p1=some r) (A0:RdSl (El.int .i64) W v0 p0) (A1:RdSl (El.int .i64) W v1 p1) :
    Calls Tryz.prog 181 [v0,v1].toArray W (Zc6 W [] (fun v Ms=>∃ (u0:Value) (M1:List Zf),v=u0/\Ms = [.all M1]/\Z0m (El.int .i64) u0 M1 r)):=by
 unfold Zgh at h
 refine Z04 mo Z0og rfl (Zh8 _) ?_
 refine Z0<|Z2<|Z7 rfl<|Z1<|Z0<|Z2<|Z7 rfl<|Z1<|Z0<|Z2<|Z7 rfl<|Z1<|Z0<|Z0<|Z2<|Z7 rfl<|Z1<|jH h fun k1 q1 h=>Zm (G:=fun t m=>∃ (l1:LI) (v114:Value) (w1:List Zf),k1 l1=some r/\Z0m (El.int .i64) v114 w1 l1/\Fit [(5,v114)] (w1 ++ []) t m) ?_ ?_
 ·refine Za<|Zp (fun n1 t m=>∃ (l2:LI) (i1:Int) (i2:Int) (v188:Value) (w2:List Zf),Z75 p0 p1 k1 n1 l2 i1 i2=some r/\Z0m (El.int .i64) v188 w2 l2/\Fit [(0,v0),(1,v1),(5,v188),(6,.int .i64 (i1)),(7,.int .i64 (i2))] (w2 ++ []) t m) big ?_ ?_
  ·exact ⟨[],0,0,(.slice none 0 0),[],h,Z39,⟨⟨rfl,rfl,rfl,rfl,rfl,trivial⟩,(.no .nil)⟩⟩
  ·rintro n1 t m ⟨l2,i1,i2,v188,w2,h,O1,hF⟩
   refine Zk hF ?_
   clear hF
   rcases n1 with _ | n1
   · exact Z0a h
   have h:Zbx p0 p1 k1 (Z75 p0 p1 k1 n1) l2 i1 i2=some r:=h
   unfold Zbx at h
   obtain ⟨k2,q2⟩ : ∃ k,k=Z75 p0 p1 k1 n1:=⟨_,rfl⟩
   try rw [<- q2] at h
   refine Z0<|Z0<|Z2<|Z7 rfl<|Z7 rfl<|Z6 _ (Z22 rfl (Shp.rd A0))<|Z6 _ (Z9 rfl rfl rfl)<|Z1<|Z02 h rfl (fun h=>?_) (fun h=>?_)
   ·refine Ze<|Z0<|Za<|Z0<|cH h fun c1 h=>bH h fun z1 e1 h=>oH h fun y1 f1 h=>bH h fun z2 e2 h=>bH h fun z3 e3 h=>Zr<|Z8 _ (Z0u rfl)<|Z8 _ (Z0u rfl)<|Z8 _ (Z2t rfl rfl (Shp.rd A0) c1)<|Z8 _ (Z0u rfl)<|Z8 _ (Z0u rfl)<|Z8 _ (Z0u rfl)<|Zn _ (iz e1 (Z5e (E:=(El.int .i64)) (s:=[.one (.int .i64 (p0.getD (i2).toNat 0))]) rfl (Z0d A0 Z0h) (Z03 c1) rfl rfl))<|Zn _ (Z0p rfl (fun w hw=>Z9y f1 ((Z0d A1 Z0h) w hw)))<|Z8 _ (iz e2 (Z9 rfl rfl rfl))<|Z8 _ (iz e3 (Z9 rfl rfl rfl))<|Z8 _ (Z0u rfl)<|Z00<|Z0<|Z2<|Z7 rfl<|Z1<|Z0<|Z0<|Z2<|Z7 rfl<|Z6 _ (Z9 rfl rfl rfl)<|Z1<|jH h fun k3 q3 h=>Zm (G:=fun t m=>∃ (i3:Int) (i4:Int),k3 i3 i4=some r/\Fit [(0,v0),(1,v1),(5,v188),(6,.int .i64 (i3)),(7,.int .i64 (i2)),(8,.int .i64 (i4))] (w2 ++ []) t m) ?_ ?_
    ·refine Z02 h rfl (fun h=>?_) (fun h=>?_)
     ·exact Z0<|bH h fun z4 e4 h=>Z2<|Z7 rfl<|Z6 _ (iz e4 (Z9 rfl rfl rfl))<|Z7 rfl<|Z1<|Z2<|Z7 rfl<|Z1<|⟨1,z4,h,⟨⟨rfl,rfl,rfl,rfl,rfl,rfl,trivial⟩,(.all .here .nil)⟩⟩
     ·exact Ze<|⟨0,z3,h,⟨⟨rfl,rfl,rfl,rfl,rfl,rfl,trivial⟩,(.all .here .nil)⟩⟩
    ·rintro t m ⟨i3,i4,h,hF⟩
     refine Zk hF ?_
     clear hF
     subst q3
     refine cH h fun c2 h=>bH h fun l3 g1 h=>Z2<|Z7 rfl<|Z7 rfl<|Zg (Z5m (E:=(El.int .i64)) (xs:=[i4]) (.one rfl rfl rfl BdR.nil) (.cons (p:=[.one (.int .i64 (i4))]) rfl .nil) rfl fun v218 w3 O2=>Zg (Z38 (E:=(El.int .i64)) g1 rfl O1 (.app .here) rfl (Z0f O2 .here) c2 fun v223 w4 O3=>Z7 rfl<|Z1<|bH h fun z5 e5 h=>Z2<|Z7 rfl<|Z6 _ (iz e5 (Z9 rfl rfl rfl))<|Z7 rfl<|Z1 ?_))
     rw [q2] at h
     exact ⟨n1,Nat.lt_succ_self _,l3,i3,z5,v223,w4,h,O3,⟨⟨rfl,rfl,rfl,rfl,rfl,trivial⟩,(.all .here .nil)⟩⟩
   ·exact Zx _ rfl<|⟨l2,v188,w2,h,O1,⟨⟨rfl,trivial⟩,(.all .here .nil)⟩⟩
 ·rintro t m ⟨l1,v114,w1,h,O4,hF⟩
  refine Zk hF ?_
  clear hF
  subst q1
  refine Z0<|Z2<|Z7 rfl<|Z7 rfl<|Z1<|Zi ?_
  revert h; refine Zt fun h=>?_
  subst h
  exact ⟨_,_,(.cons (.tmp rfl) .nil),(.all .here .nil),⟨_,rfl,⟨v114,w1,rfl,rfl,O4⟩⟩⟩
def Zfk (k1:(LI)->OL) (k2:(LI)->Int->Int->OL) (l1:LI) (i1:Int) (i2:Int):OL :=
 br ((decide (i2<33))) (
 chk (inB i2 l1.length) <|
 bnd (l1.getD (i2).toNat 0) fun z1 =>
 bnd (wrap .i64 (2*z1)) fun z2 =>
 bnd (wrap .i64 (z2+i1)) fun z3 =>
 bnd (Int.tmod z3 256) fun z4 =>
 chk (inB i2 l1.length) <|
 bnd (Zdu 0 l1 (i2).toNat z4) fun l2 =>
 bnd (wrap .i64 (Int.tdiv z3 256)) fun z5 =>
 bnd (wrap .i64 (i2+1)) fun z6 =>
 k2 l2 z5 z6
 ) (
 k1 l1
 )
def Z9f (k1:(LI)->OL):Nat->(LI)->Int->Int->OL
  | 0,_,_,_=>none
  | n+1,l1,i1,i2=>Zfk k1 (Z9f k1 n) l1 i1 i2
def Zfj (p0:LI) (y1:(LI)) (k1:(LI)->OL) (k2:(LI)->Int->OL) (l1:LI) (i1:Int):OL :=
 br ((decide (i1≥0))) (
 jn (fun (l2:LI)=>bnd (wrap .i64 (i1-1)) fun z1 =>
 k2 l2 z1) fun k3=>opt (Zqs p0 i1) fun y2 =>
 jn (fun (l3:LI)=>opt (Zhi l3 y1) fun y3 =>
 br ((!y3)) (
 opt (Zgh l3 y1) fun y4 =>
 k3 y4
 ) (
 k3 l3
 )) fun k4=>Z9f k4 big l1 y2 0
 ) (
 k1 l1
 )
def Z7x (p0:LI) (y1:(LI)) (k1:(LI)->OL):Nat->(LI)->Int->OL
  | 0,_,_=>none
  | n+1,l1,i1=>Zfj p0 y1 k1 (Z7x p0 y1 k1 n) l1 i1
def Zqq (p0:LI):OL :=
 opt (Zid ) fun y1 =>
 chk (mkB 8 33 33) <|
 bnd (wrap .i64 (8*(p0.length:Int))) fun z1 =>
 bnd (wrap .i64 (z1-1)) fun z2 =>
 jn (fun (l1:LI)=>some l1) fun k1=>Z7x p0 y1 k1 big (List.replicate 33 0:LI) z2
theorem Zsq {W:World} {r:(LI)} {p0:LI} {v0:Value} (h:Zqq p0=some r) (A0:RdSl (El.int .i64) W v0 p0) :
    Calls Tryz.prog 113 [v0].toArray W (Zc6 W [] (fun v Ms=>∃ (u0:Value) (M1:List Zf),v=u0/\Ms = [.all M1]/\Z0m (El.int .i64) u0 M1 r)):=by
 unfold Zqq at h
 refine Z04 mo Z0ms rfl (Zh8 _) ?_
 refine Z0<|Z2<|Z7 rfl<|Z1<|Z0<|oH h fun y1 f1 h=>Z2<|Zg (Z06 rfl (fun w hw=>Zie  f1 ) fun v4 o1 R1=>?_)
 obtain ⟨_,w1,rfl,rfl,O1⟩:=R1
 refine Z7 rfl<|Z1<|Z0<|cH h fun c1 h=>Z2<|Zg (Zj0 (E:=(El.int .i64)) rfl rfl rfl c1 fun v11 w2 O2=>Z7 rfl<|Z1<|Z0<|Z0<|bH h fun z1 e1 h=>bH h fun z2 e2 h=>Z2<|Z7 rfl<|Z6 _ (Z22 rfl (Shp.rd A0))<|Z6 _ (iz e1 (Z9 rfl rfl rfl))<|Z6 _ (iz e2 (Z9 rfl rfl rfl))<|Z7 rfl<|Z1<|jH h fun k1 q1 h=>Zm (G:=fun t m=>∃ (l1:LI) (v920:Value) (w3:List Zf),k1 l1=some r/\Z0m (El.int .i64) v920 w3 l1/\Fit [(4,v920)] (w3 ++ []) t m) ?_ ?_)
 ·refine Za<|Zp (fun n1 t m=>∃ (l2:LI) (i1:Int) (v1524:Value) (w4:List Zf),Z7x p0 y1 k1 n1 l2 i1=some r/\Z0m (El.int .i64) v1524 w4 l2/\Fit [(0,v0),(3,v4),(4,v1524),(5,.int .i64 (i1))] (w1++(w4 ++ [])) t m) big ?_ ?_
  ·exact ⟨(List.replicate 33 0:LI),z2,v11,w2,h,O2,⟨⟨rfl,rfl,rfl,rfl,trivial⟩,(.all (.app .here) (.all .here .nil))⟩⟩
  ·rintro n1 t m ⟨l2,i1,v1524,w4,h,O3,hF⟩
   refine Zk hF ?_
   clear hF
   rcases n1 with _ | n1
   · exact Z0a h
   have h:Zfj p0 y1 k1 (Z7x p0 y1 k1 n1) l2 i1=some r:=h
   unfold Zfj at h
   obtain ⟨k2,q2⟩ : ∃ k,k=Z7x p0 y1 k1 n1:=⟨_,rfl⟩
   try rw [<- q2] at h
   refine Z0<|Z0<|Z2<|Z7 rfl<|Z6 _ (Z9 rfl rfl rfl)<|Z1<|Z02 h rfl (fun h=>?_) (fun h=>?_)
   ·refine Ze<|Z0<|jH h fun k3 q3 h=>Zm (G:=fun t m=>∃ (l3:LI) (v1677:Value) (w5:List Zf),k3 l3=some r/\Z0m (El.int .i64) v1677 w5 l3/\Fit [(0,v0),(3,v4),(4,v1677),(5,.int .i64 (i1))] (w1++(w5 ++ [])) t m) ?_ ?_
    ·refine Za<|Z0<|oH h fun y2 f2 h=>Z2<|Z7 rfl<|Z7 rfl<|Z6 _ (Z0p rfl (fun w hw=>Zsr f2 ((Z0d A0 Z0h) w hw)))<|Z7 rfl<|Z1<|Z0<|Z0<|Z2<|Z7 rfl<|Z1<|jH h fun k4 q4 h=>Zm (G:=fun t m=>∃ (l4:LI) (v1748:Value) (w6:List Zf),k4 l4=some r/\Z0m (El.int .i64) v1748 w6 l4/\Fit [(0,v0),(3,v4),(4,v1748),(5,.int .i64 (i1))] (w1++(w6 ++ [])) t m) ?_ ?_
     ·refine Za<|Zp (fun n2 t m=>∃ (l5:LI) (i2:Int) (i3:Int) (v1791:Value) (w7:List Zf),Z9f k4 n2 l5 i2 i3=some r/\Z0m (El.int .i64) v1791 w7 l5/\Fit [(0,v0),(3,v4),(4,v1791),(5,.int .i64 (i1)),(6,.int .i64 (i2)),(7,.int .i64 (i3))] (w1++(w7 ++ [])) t m) big ?_ ?_
      ·exact ⟨l2,y2,0,v1524,w4,h,O3,⟨⟨rfl,rfl,rfl,rfl,rfl,rfl,trivial⟩,(.all .here (.all .here .nil))⟩⟩
      ·rintro n2 t m ⟨l5,i2,i3,v1791,w7,h,O4,hF⟩
       refine Zk hF ?_
       clear hF
       rcases n2 with _ | n2
       · exact Z0a h
       have h:Zfk k4 (Z9f k4 n2) l5 i2 i3=some r:=h
       unfold Zfk at h
       obtain ⟨k5,q5⟩ : ∃ k,k=Z9f k4 n2:=⟨_,rfl⟩
       try rw [<- q5] at h
       refine Z0<|Z0<|Z2<|Z7 rfl<|Z6 _ (Z9 rfl rfl rfl)<|Z1<|Z02 h rfl (fun h=>?_) (fun h=>?_)
       ·refine Ze<|Z0<|Za<|Z0<|cH h fun c2 h=>bH h fun z3 e3 h=>bH h fun z4 e4 h=>bH h fun z5 e5 h=>Z2<|Z7 rfl<|Z7 rfl<|Z6 _ (Z2t rfl rfl (Shp.own O4) c2)<|Z6 _ (iz e3 (Z5e (E:=(El.int .i64)) (s:=[.one (.int .i64 (l5.getD (i3).toNat 0))]) rfl (Z0f O4 (.app .here)) (Z03 c2) rfl rfl))<|Z6 _ (iz e4 (Z9 rfl rfl rfl))<|Z7 rfl<|Z6 _ (iz e5 (Z9 rfl rfl rfl))<|Z7 rfl<|Z1<|Z0<|bH h fun z6 e6 h=>cH h fun c3 h=>bH h fun l6 g1 h=>Z2<|Z7 rfl<|Z7 rfl<|Z7 rfl<|Z6 _ (iz e6 (Zdl rfl rfl (by decide)))<|Z6 _ (Z2t rfl rfl (Shp.own O4) c3)<|Zg (Zhz (E:=(El.int .i64)) g1 O4 (.app .here) rfl rfl rfl (Z03 c3) fun w8 O5=>Z1<|bH h fun z7 e7 h=>Z2<|Z7 rfl<|Z6 _ (iz e7 (Zb8 rfl rfl (by decide)))<|Z7 rfl<|Z1<|bH h fun z8 e8 h=>Z2<|Z7 rfl<|Z6 _ (iz e8 (Z9 rfl rfl rfl))<|Z7 rfl<|Z1 ?_)
        rw [q5] at h
        exact ⟨n2,Nat.lt_succ_self _,l6,z7,z8,v1791,w8,h,O5,⟨⟨rfl,rfl,rfl,rfl,rfl,rfl,trivial⟩,(.all (.app .here) (.all .here .nil))⟩⟩
       ·exact Zx _ rfl<|⟨l5,v1791,w7,h,O4,⟨⟨rfl,rfl,rfl,rfl,trivial⟩,(.all .here (.all .here .nil))⟩⟩
     ·rintro t m ⟨l4,v1748,w6,h,O6,hF⟩
      refine Zk hF ?_
      clear hF
      subst q4
      refine Z0<|oH h fun y3 f3 h=>Z2<|Z7 rfl<|Z7 rfl<|Z6 _ (Z0p rfl (fun w hw=>Zk1 f3 ((Z0f O6 (.app .here)) w hw) ((Z0f O1 .here) w hw)))<|Z6 _ (Zl0 rfl rfl)<|Z1<|Z02 h rfl (fun h=>?_) (fun h=>?_)
      ·refine oH h fun y4 f4 h=>Z2<|Z7 rfl<|Z7 rfl<|Zg (Z06 rfl (fun w hw=>Zp8  f4 ((Z0f O6 (.app .here)) w hw) ((Z0f O1 .here) w hw)) fun v1821 o2 R2=>?_)
       obtain ⟨_,w9,rfl,rfl,O7⟩:=R2
       exact Z7 rfl<|Z1<|⟨y4,v1821,w9,h,O7,⟨⟨rfl,rfl,rfl,rfl,trivial⟩,(.all (.app .here) (.all .here .nil))⟩⟩
      ·exact Ze<|⟨l4,v1748,w6,h,O6,⟨⟨rfl,rfl,rfl,rfl,trivial⟩,(.all .here (.all .here .nil))⟩⟩
    ·rintro t m ⟨l3,v1677,w5,h,O8,hF⟩
     refine Zk hF ?_
     clear hF
     subst q3
     refine bH h fun z9 e9 h=>Z2<|Z7 rfl<|Z6 _ (iz e9 (Z9 rfl rfl rfl))<|Z7 rfl<|Z1 ?_
     rw [q2] at h
     exact ⟨n1,Nat.lt_succ_self _,l3,z9,v1677,w5,h,O8,⟨⟨rfl,rfl,rfl,rfl,trivial⟩,(.all .here (.all .here .nil))⟩⟩
   ·exact Zx _ rfl<|⟨l2,v1524,w4,h,O3,⟨⟨rfl,trivial⟩,(.all (.app .here) .nil)⟩⟩
 ·rintro t m ⟨l1,v920,w3,h,O9,hF⟩
  refine Zk hF ?_
  clear hF
  subst q1
  refine Z0<|Z2<|Z7 rfl<|Z7 rfl<|Z1<|Zi ?_
  revert h; refine Zt fun h=>?_
  subst h
  exact ⟨_,_,(.cons (.tmp rfl) .nil),(.all .here .nil),⟨_,rfl,⟨v920,w3,rfl,rfl,O9⟩⟩⟩
def Zic (p0:LI) (k1:(LI)->OL) (k2:(LI)->Int->OL) (l1:LI) (i1:Int):OL :=
 br ((decide (i1<(p0.length:Int)))) (
 chk (inB i1 p0.length) <|
 bnd (p0.getD (i1).toNat 0) fun z1 =>
 bnd (wrap .i64 z1) fun z2 =>
 chk (decide ((l1.length+([z2]:LI).length)*8<=140737488355328)) <|
 bnd (l1++([z2]:LI)) fun l2 =>
 bnd (wrap .i64 (i1+1)) fun z3 =>
 k2 l2 z3
 ) (
 k1 l1
 )
def Zcb (p0:LI) (k1:(LI)->OL):Nat->(LI)->Int->OL
  | 0,_,_=>none
  | n+1,l1,i1=>Zic p0 k1 (Zcb p0 k1 n) l1 i1
def Zvp (p0:LI):OL :=
 jn (fun (l1:LI)=>some l1) fun k1=>Zcb p0 k1 big [] 0
theorem Znp {W:World} {r:(LI)} {p0:LI} {v0:Value} (h:Zvp p0=some r) (A0:RdSl (El.int .u8) W v0 p0) :
    Calls Tryz.prog 114 [v0].toArray W (Zc6 W [] (fun v Ms=>∃ (u0:Value) (M1:List Zf),v=u0/\Ms = [.all M1]/\Z0m (El.int .i64) u0 M1 r)):=by
 unfold Zvp at h
 refine Z04 mo Z0mt rfl (Zh8 _) ?_
 refine Z0<|Z2<|Z7 rfl<|Z1<|Z0<|Z2<|Z7 rfl<|Z1<|Z0<|Z0<|Z2<|Z7 rfl<|Z1<|jH h fun k1 q1 h=>Zm (G:=fun t m=>∃ (l1:LI) (v63:Value) (w1:List Zf),k1 l1=some r/\Z0m (El.int .i64) v63 w1 l1/\Fit [(3,v63)] (w1 ++ []) t m) ?_ ?_
 ·refine Za<|Zp (fun n1 t m=>∃ (l2:LI) (i1:Int) (v104:Value) (w2:List Zf),Zcb p0 k1 n1 l2 i1=some r/\Z0m (El.int .i64) v104 w2 l2/\Fit [(0,v0),(3,v104),(4,.int .i64 (i1))] (w2 ++ []) t m) big ?_ ?_
  ·exact ⟨[],0,(.slice none 0 0),[],h,Z39,⟨⟨rfl,rfl,rfl,trivial⟩,(.no .nil)⟩⟩
  ·rintro n1 t m ⟨l2,i1,v104,w2,h,O1,hF⟩
   refine Zk hF ?_
   clear hF
   rcases n1 with _ | n1
   · exact Z0a h
   have h:Zic p0 k1 (Zcb p0 k1 n1) l2 i1=some r:=h
   unfold Zic at h
   obtain ⟨k2,q2⟩ : ∃ k,k=Zcb p0 k1 n1:=⟨_,rfl⟩
   try rw [<- q2] at h
   refine Z0<|Z0<|Z2<|Z7 rfl<|Z7 rfl<|Z6 _ (Z22 rfl (Shp.rd A0))<|Z6 _ (Z9 rfl rfl rfl)<|Z1<|Z02 h rfl (fun h=>?_) (fun h=>?_)
   ·refine Ze<|Z0<|Za<|cH h fun c1 h=>bH h fun z1 e1 h=>bH h fun z2 e2 h=>cH h fun c2 h=>bH h fun l3 g1 h=>Z2<|Z7 rfl<|Z7 rfl<|Z7 rfl<|Z6 _ (Z2t rfl rfl (Shp.rd A0) c1)<|Z6 _ (iz e1 (Z5e (E:=(El.int .u8)) (s:=[.one (.int .u8 (p0.getD (i1).toNat 0))]) rfl (Z0d A0 Z0h) (Z03 c1) rfl rfl))<|Z6 _ (iz e2 (Z4k rfl))<|Zg (Z5m (E:=(El.int .i64)) (xs:=[z2]) (.one rfl rfl rfl BdR.nil) (.cons (p:=[.one (.int .i64 (z2))]) rfl .nil) rfl fun v117 w3 O2=>Zg (Z38 (E:=(El.int .i64)) g1 rfl O1 (.app .here) rfl (Z0f O2 .here) c2 fun v122 w4 O3=>Z7 rfl<|Z1<|bH h fun z3 e3 h=>Z2<|Z7 rfl<|Z6 _ (iz e3 (Z9 rfl rfl rfl))<|Z7 rfl<|Z1 ?_))
    rw [q2] at h
    exact ⟨n1,Nat.lt_succ_self _,l3,z3,v122,w4,h,O3,⟨⟨rfl,rfl,rfl,trivial⟩,(.all .here .nil)⟩⟩
   ·exact Zx _ rfl<|⟨l2,v104,w2,h,O1,⟨⟨rfl,trivial⟩,(.all .here .nil)⟩⟩
 ·rintro t m ⟨l1,v63,w1,h,O4,hF⟩
  refine Zk hF ?_
  clear hF
  subst q1
  refine Z0<|Z2<|Z7 rfl<|Z7 rfl<|Z1<|Zi ?_
  revert h; refine Zt fun h=>?_
  subst h
  exact ⟨_,_,(.cons (.tmp rfl) .nil),(.all .here .nil),⟨_,rfl,⟨v63,w1,rfl,rfl,O4⟩⟩⟩
def Zde (p0:LI):OL :=
 opt (Zvp (tk p0 0 64)) fun y1 =>
 opt (Zqq y1) fun y2 =>
 opt (Zm0 y2) fun y3 =>
 some y3
theorem Zco {W:World} {r:(LI)} {p0:LI} (h:Zde p0=some r)  :
    Calls Tryz.prog 59 [agg [b6' p0]].toArray W (Z36 W (agg [b3' r])):=by
 unfold Zde at h
 refine Zc mo ok59 rfl ?_
 refine Z0<|Z2<|Zg (Z0k (s:=[b6' p0]) rfl fun b1 u1=>Zg (Zv fun b2 u2=>Z1<|Z0<|oH h fun y1 f1 h=>oH h fun y2 f2 h=>oH h fun y3 f3 h=>Z2<|Z6 _ (Ze8 rfl .no .no .no (by simp) (by decide))<|Zg (Z06 rfl (fun w hw=>Znp  f1 ((Z3q (s:=[b6' p0]) (N:=64) (k:=.u8) (base:=0) (lo:=0) (hi:=64) (mz:=64) .t1 rfl (by decide)) w hw)) fun v6 o1 R1=>?_)))
 obtain ⟨_,w1,rfl,rfl,O1⟩:=R1
 refine Zg (Z06 rfl (fun w hw=>Zsq  f2 ((Z0f O1 .here) w hw)) fun v12 o2 R2=>?_)
 obtain ⟨_,w2,rfl,rfl,O2⟩:=R2
 refine Z6 _ (Z0p rfl (fun w hw=>Zqr f3 ((Z0f O2 .here) w hw)))<|Zg (Zs (q:=[b3' y3]) rfl rfl rfl rfl rfl (.app (.app .here))<|Z1<|Zi ?_)
 revert h; refine Zt fun h=>?_
 subst h
 exact ⟨_,(.cons (.agg rfl (.app (.app .here)) rfl) .nil),rfl⟩
def Zfr (p0:LI) (p1:LI) (p2:LI):OL :=
 chk (decide ((([]:LI).length+p0.length)*1<=140737488355328)) <|
 bnd (([]:LI)++p0) fun l1 =>
 chk (decide ((l1.length+p1.length)*1<=140737488355328)) <|
 bnd (l1++p1) fun l2 =>
 chk (decide ((l2.length+p2.length)*1<=140737488355328)) <|
 bnd (l2++p2) fun l3 =>
 some l3
theorem Zh4 {W:World} {r:(LI)} {p0:LI} {p1:LI} {p2:LI} {v0:Value} {v1:Value} {v2:Value} (h:Zfr p0 p1 p2=some r) (A0:RdSl (El.int .u8) W v0 p0) (A1:RdSl (El.int .u8) W v1 p1) (A2:RdSl (El.int .u8) W v2 p2) :
    Calls Tryz.prog 60 [v0,v1,v2].toArray W (Zc6 W [] (fun v Ms=>∃ (u0:Value) (M1:List Zf),v=u0/\Ms = [.all M1]/\Z0m (El.int .u8) u0 M1 r)):=by
 unfold Zfr at h
 refine Z04 mo ok60 rfl (Zh8 _) ?_
 refine Z0<|Z2<|Z7 rfl<|Z1<|Z0<|Z2<|Z7 rfl<|Z1<|Z0<|cH h fun c1 h=>bH h fun l1 g1 h=>Z2<|Z7 rfl<|Z7 rfl<|Zg (Z38 (E:=(El.int .u8)) g1 rfl Z39 .here rfl (Z0d A0 Z0h) c1 fun v6 w1 O1=>Z7 rfl<|Z1<|Z0<|cH h fun c2 h=>bH h fun l2 g2 h=>Z2<|Z7 rfl<|Z7 rfl<|Zg (Z38 (E:=(El.int .u8)) g2 rfl O1 .here rfl (Z0d A1 Z0h) c2 fun v12 w2 O2=>Z7 rfl<|Z1<|Z0<|cH h fun c3 h=>bH h fun l3 g3 h=>Z2<|Z7 rfl<|Z7 rfl<|Zg (Z38 (E:=(El.int .u8)) g3 rfl O2 .here rfl (Z0d A2 Z0h) c3 fun v18 w3 O3=>Z7 rfl<|Z1<|Z0<|Z2<|Z7 rfl<|Z7 rfl<|Z1<|Zi ?_)))
 revert h; refine Zt fun h=>?_
 subst h
 exact ⟨_,_,(.cons (.tmp rfl) .nil),(.all .here .nil),⟨_,rfl,⟨v18,w3,rfl,rfl,O3⟩⟩⟩
end Go.Proofs.YtiflckckekjbnaaGreatDoor
namespace Go.Proofs.YtiflckckekjbnaaGreatDoor
open Go Go.Sx Go.RowKit
set_option linter.all false
set_option maxHeartbeats 400000
set_option maxRecDepth 100000
end Go.Proofs.YtiflckckekjbnaaGreatDoor
namespace Go.Proofs.YtiflckckekjbnaaGreatDoor
open Go Go.Sx Go.RowKit
open List (replicate)
set_option linter.all false
set_option maxHeartbeats 400000
set_option maxRecDepth 100000
def Z5n (p0:LI):Option Bool :=
 opt (Z2z p0) fun y1 =>
 opt (Z9t y1) fun y2 =>
 some (ieq 32 y2 p0)
theorem Zgq {W:World} {r:Bool} {p0:LI} (h:Z5n p0=some r)  :
    Calls Tryz.prog 121 [agg [b3' p0]].toArray W (Z36 W (.bool (r))):=by
 unfold Z5n at h
 refine Zc mo Z0mv rfl ?_
 refine Z0<|Z2<|Zg (Z0k (s:=[b3' p0]) rfl fun b1 u1=>Z7 rfl<|Z1<|Z0<|oH h fun y1 f1 h=>oH h fun y2 f2 h=>Zr<|Zn _ (Zy (p:=[b3' p0]) rfl .here rfl)<|Z8 _ (Z0b rfl (Z5i f1))<|Z8 _ (Z0b rfl (Zeh f2))<|Zn _ (Zy (p:=[b3' p0]) rfl .here rfl)<|Z8 _ (Zhj rfl rfl rfl rfl _ (Z63 Z4e))<|Z8 _ (Z0u rfl)<|Z00<|Zi ?_)
 revert h; refine Zt fun h=>?_
 subst h
 exact ⟨_,(.cons (.tmp rfl) .nil),rfl⟩
def Z54 (p0:LI):Option Bool :=
 opt (Z1v p0) fun y1 =>
 bnd (([0,0,0,0,0]:LI)) fun z1 =>
 some (ieq 5 y1 z1)
theorem Z9u {W:World} {r:Bool} {p0:LI} (h:Z54 p0=some r)  :
    Calls Tryz.prog 129 [agg [u5' p0]].toArray W (Z36 W (.bool (r))):=by
 unfold Z54 at h
 refine Zc mo Z0n3 rfl ?_
 refine Z0<|Z2<|Zg (Z0k (s:=[u5' p0]) rfl fun b1 u1=>Z7 rfl<|Z1<|Z0<|oH h fun y1 f1 h=>bH h fun z1 e1 h=>Z2<|Z6 _ (Zy (p:=[u5' p0]) rfl .here rfl)<|Z6 _ (Z0b rfl (Z19 f1))<|Z6 _ (az (fun z=>agg [.ints .u64 5 z]) e1 (Zct BdR.nil))<|Z6 _ (Zhj rfl rfl rfl rfl _ (Z63 Z4e))<|Z7 rfl<|Z1<|Zi ?_)
 revert h; refine Zt fun h=>?_
 subst h
 exact ⟨_,(.cons (.tmp rfl) .nil),rfl⟩
def Z86 (p0:LI) (p1:LI):Option Bool :=
 opt (Z1v p0) fun y1 =>
 opt (Z1v p1) fun y2 =>
 some (ieq 5 y1 y2)
theorem Zei {W:World} {r:Bool} {p0:LI} {p1:LI} (h:Z86 p0 p1=some r)  :
    Calls Tryz.prog 187 [agg [u5' p0],agg [u5' p1]].toArray W (Z36 W (.bool (r))):=by
 unfold Z86 at h
 refine Zc mo Z0oj rfl ?_
 refine Z0<|Z2<|Zg (Z0k (s:=[u5' p0]) rfl fun b1 u1=>Zg (Z0k (s:=[u5' p1]) rfl fun b2 u2=>Z7 rfl<|Z1<|Z0<|oH h fun y1 f1 h=>oH h fun y2 f2 h=>Zr<|Zn _ (Zy (p:=[u5' p0]) rfl .t1 rfl)<|Z8 _ (Z0b rfl (Z19 f1))<|Zn _ (Zy (p:=[u5' p1]) rfl .here rfl)<|Z8 _ (Z0b rfl (Z19 f2))<|Z8 _ (Zhj rfl rfl rfl rfl _ (Z63 Z4e))<|Z8 _ (Z0u rfl)<|Z00<|Zi ?_))
 revert h; refine Zt fun h=>?_
 subst h
 exact ⟨_,(.cons (.tmp rfl) .nil),rfl⟩
def Z8q (p0:Bool) (p1:LI) (p2:LI):OL :=
 br (p0) (
 opt (Z1v p1) fun y1 =>
 some y1
 ) (
 opt (Z1v p2) fun y2 =>
 some y2
 )
theorem Zj3 {W:World} {r:(LI)} {p0:Bool} {p1:LI} {p2:LI} (h:Z8q p0 p1 p2=some r)  :
    Calls Tryz.prog 189 [.bool (p0),agg [u5' p1],agg [u5' p2]].toArray W (Z36 W (agg [u5' r])):=by
 unfold Z8q at h
 refine Zc mo Z0ol rfl ?_
 refine Z0<|Z2<|Zg (Z0k (s:=[u5' p1]) rfl fun b1 u1=>Zg (Z0k (s:=[u5' p2]) rfl fun b2 u2=>Zg (Zv fun b3 u3=>Z1<|Z0<|Z0<|Z2<|Z7 rfl<|Z1<|Z02 h rfl (fun h=>?_) (fun h=>?_))))
 ·refine Z0<|oH h fun y1 f1 h=>Z2<|Z6 _ (Zy (p:=[u5' p1]) rfl .t2 rfl)<|Z6 _ (Z0b rfl (Z19 f1))<|Zg (Zs (q:=[u5' y1]) rfl rfl rfl rfl rfl .here<|Z1<|Zi ?_)
  revert h; refine Zt fun h=>?_
  subst h
  exact ⟨_,(.cons (.agg rfl .here rfl) .nil),rfl⟩
 ·refine Ze<|Z0<|oH h fun y2 f2 h=>Z2<|Z6 _ (Zy (p:=[u5' p2]) rfl .t1 rfl)<|Z6 _ (Z0b rfl (Z19 f2))<|Zg (Zs (q:=[u5' y2]) rfl rfl rfl rfl rfl .here<|Z1<|Zi ?_)
  revert h; refine Zt fun h=>?_
  subst h
  exact ⟨_,(.cons (.agg rfl .here rfl) .nil),rfl⟩
def Z6w (p0:LI) (p1:LI):Option ((LI)×Bool) :=
 opt (Z54 p1) fun y1 =>
 br (y1) (
 bnd (([0,0,0,0,0]:LI)) fun z1 =>
 opt (Z54 p0) fun y2 =>
 some (z1,y2)
 ) (
 opt (Z1u p1) fun y3 =>
 opt (Z0y y3 p1) fun y4 =>
 opt (Z1u y4) fun y5 =>
 opt (Z0y p0 y5) fun y6 =>
 opt (Z0y y6 p1) fun y7 =>
 opt (Z0y p0 y4) fun y8 =>
 opt (Z6x 253 15) fun y9 =>
 opt (Zaj y7 y9) fun y10 =>
 opt (Z0y y8 y10) fun y11 =>
 opt (Z1u y11) fun y12 =>
 opt (Z0y p1 y12) fun y13 =>
 jn (fun (a1:LI)=>opt (Z87 a1) fun y14 =>
 opt (Z5o a1) fun y15 =>
 opt (Z8q y14 y15 a1) fun y16 =>
 some (y16,true)) fun k1=>opt (Z86 y13 p0) fun y17 =>
 br (y17) (
 k1 y11
 ) (
 opt (Z5o p0) fun y18 =>
 opt (Z86 y13 y18) fun y19 =>
 br (y19) (
 opt (Z9v 2) fun y20 =>
 opt (Z6x 251 31) fun y21 =>
 opt (Zaj y20 y21) fun y22 =>
 opt (Z0y y11 y22) fun y23 =>
 k1 y23
 ) (
 bnd (([0,0,0,0,0]:LI)) fun z2 =>
 some (z2,false)
 )
 )
 )
theorem Zgr {W:World} {r:(LI)×Bool} {p0:LI} {p1:LI} (h:Z6w p0 p1=some r)  :
    Calls Tryz.prog 125 [agg [u5' p0],agg [u5' p1]].toArray W (Z36 W (.tuple #[agg [u5' r.1],.bool (r.2)])):=by
 unfold Z6w at h
 refine Zc mo Z0mz rfl ?_
 refine Z0<|Z2<|Zg (Z0k (s:=[u5' p0]) rfl fun b1 u1=>Zg (Z0k (s:=[u5' p1]) rfl fun b2 u2=>Zg (Zv fun b3 u3=>Z7 rfl<|Z1<|Z0<|Z0<|oH h fun y1 f1 h=>Z2<|Z6 _ (Zy (p:=[u5' p1]) rfl .t1 rfl)<|Z6 _ (Z0b rfl (Z9u f1))<|Z1<|Z02 h rfl (fun h=>?_) (fun h=>?_))))
 ·refine Z0<|bH h fun z1 e1 h=>oH h fun y2 f2 h=>Z2<|Z6 _ (az (fun z=>agg [.ints .u64 5 z]) e1 (Zct BdR.nil))<|Z6 _ (Zy (p:=[u5' p0]) rfl .t2 rfl)<|Z6 _ (Z0b rfl (Z9u f2))<|Zg (Zs (q:=[u5' z1]) rfl rfl rfl rfl rfl .here<|Z7 rfl<|Z1<|Zi ?_)
  revert h; refine Zt fun h=>?_
  subst h
  exact ⟨_,(.cons (.agg rfl .here rfl) (.cons (.tmp rfl) .nil)),rfl⟩
 ·refine Ze<|Z0<|oH h fun y3 f3 h=>oH h fun y4 f4 h=>Zr<|Zn _ (Zy (p:=[u5' p1]) rfl .t1 rfl)<|Z8 _ (Z0b rfl (Z2k f3))<|Zn _ (Zy (p:=[u5' p1]) rfl .t1 rfl)<|Z8 _ (Z0b rfl (Z09 f4))<|Z6o (Zv fun b4 u4=>⟨(by repeat (first | exact Sup.refl _ | apply Sup.cons | apply Sup.app)),Z1z rfl (Zs (q:=[u5' y4]) rfl rfl rfl rfl rfl .here (Z00 (Z0 (oH h fun y5 f5 h=>oH h fun y6 f6 h=>oH h fun y7 f7 h=>Zr (Zn _ (Zy (p:=[u5' p0]) rfl .t3 rfl) (Zn _ (Zy (p:=[u5' y4]) rfl .here rfl) (Z8 _ (Z0b rfl (Z2k f5)) (Z8 _ (Z0b rfl (Z09 f6)) (Zn _ (Zy (p:=[u5' p1]) rfl .t2 rfl) (Z8 _ (Z0b rfl (Z09 f7)) (Z6o (Zv fun b5 u5=>⟨(by repeat (first | exact Sup.refl _ | apply Sup.cons | apply Sup.app)),Z1z rfl (Zs (q:=[u5' y7]) rfl rfl rfl rfl rfl .here (Z00 (Z0 (oH h fun y8 f8 h=>oH h fun y9 f9 h=>oH h fun y10 f10 h=>oH h fun y11 f11 h=>Zr (Zn _ (Zy (p:=[u5' p0]) rfl .t4 rfl) (Zn _ (Zy (p:=[u5' y4]) rfl .t1 rfl) (Z8 _ (Z0b rfl (Z09 f8)) (Z8 _ (Z0b rfl (Zaz f9)) (Zn _ (Zy (p:=[u5' y7]) rfl .here rfl) (Z8 _ (Z0b rfl (Zcj f10)) (Z8 _ (Z0b rfl (Z09 f11)) (Z6o (Zv fun b6 u6=>⟨(by repeat (first | exact Sup.refl _ | apply Sup.cons | apply Sup.app)),Z1z rfl (Zs (q:=[u5' y11]) rfl rfl rfl rfl rfl .here (Z00 (Z0 (Z0 (oH h fun y12 f12 h=>oH h fun y13 f13 h=>Zr (Zn _ (Zy (p:=[u5' p1]) rfl .t4 rfl) (Zn _ (Zy (p:=[u5' y11]) rfl .here rfl) (Z8 _ (Z0b rfl (Z2k f12)) (Z8 _ (Z0b rfl (Z09 f13)) (Z6o (Zv fun b7 u7=>⟨(by repeat (first | exact Sup.refl _ | apply Sup.cons | apply Sup.app)),Z1z rfl (Zs (q:=[u5' y13]) rfl rfl rfl rfl rfl .here (Z00 (jH h fun k1 q1 h=>Zm (G:=fun t m=>∃ (a1:LI),k1 a1=some r/\Fit [(4,pt' b3),(8,pt' b6)] (ck b7 80 [u5' y13]::(ck b6 80 [u5' a1]::(ck b5 80 [u5' y7]::(ck b4 80 [u5' y4]::(ck b3 80 [u5' (replicate 5 0)]::(ck b2 80 [u5' p1]::(ck b1 80 [u5' p0] :: []))))))) t m) ?_ ?_)))⟩)))))))))))⟩)))))))))))))⟩))))))))))))⟩)
  ·refine Za<|Z0<|oH h fun y14 f14 h=>Z2<|Z6 _ (Zy (p:=[u5' y13]) rfl .here rfl)<|Z6 _ (Zy (p:=[u5' p0]) rfl .t6 rfl)<|Z6 _ (Z0b rfl (Zei f14))<|Z7 rfl<|Z1<|Z02 h rfl (fun h=>?_) (fun h=>?_)
   ·exact Ze<|⟨y11,h,⟨⟨rfl,rfl,trivial⟩,(.o (.o (.o (.o (.o (.o (.o .nil)))))))⟩⟩
   ·refine Z0<|oH h fun y15 f15 h=>oH h fun y16 f16 h=>Zr<|Zn _ (Zy (p:=[u5' y13]) rfl .here rfl)<|Zn _ (Zy (p:=[u5' p0]) rfl .t6 rfl)<|Z8 _ (Z0b rfl (Z6i f15))<|Z8 _ (Z0b rfl (Zei f16))<|Z8 _ (Z0u rfl)<|Z00<|Z02 h rfl (fun h=>?_) (fun h=>?_)
    ·exact oH h fun y17 f17 h=>oH h fun y18 f18 h=>oH h fun y19 f19 h=>oH h fun y20 f20 h=>Zr<|Z8 _ (Z0b rfl (Zek f17))<|Z8 _ (Z0b rfl (Zaz f18))<|Z8 _ (Z0b rfl (Zcj f19))<|Zn _ (Zy (p:=[u5' y11]) rfl .t1 rfl)<|Z8 _ (Z0b rfl (Z09 f20))<|Z1z rfl (Zs (q:=[u5' y20]) rfl rfl rfl rfl rfl .t1<|Z00<|⟨y20,h,⟨⟨rfl,rfl,trivial⟩,(.o (.o (.o (.o (.o (.o (.o .nil)))))))⟩⟩)
    ·refine Z0<|bH h fun z2 e2 h=>Z2<|Z6 _ (az (fun z=>agg [.ints .u64 5 z]) e2 (Zct BdR.nil))<|Zg (Zs (q:=[u5' z2]) rfl rfl rfl rfl rfl .t4<|Z7 rfl<|Z1<|Zi ?_)
     revert h; refine Zt fun h=>?_
     subst h
     exact ⟨_,(.cons (.agg rfl .t4 rfl) (.cons (.tmp rfl) .nil)),rfl⟩
  ·rintro t m ⟨a1,h,hF⟩
   refine Zk hF ?_
   clear hF
   subst q1
   refine Z0<|oH h fun y21 f21 h=>oH h fun y22 f22 h=>oH h fun y23 f23 h=>Zr<|Zn _ (Zy (p:=[u5' a1]) rfl .t1 rfl)<|Z8 _ (Z0b rfl (Zej f21))<|Zn _ (Zy (p:=[u5' a1]) rfl .t1 rfl)<|Z8 _ (Z0b rfl (Z6i f22))<|Zn _ (Zy (p:=[u5' a1]) rfl .t1 rfl)<|Z8 _ (Z0b rfl (Zj3 f23))<|Z1z rfl (Zs (q:=[u5' y23]) rfl rfl rfl rfl rfl .t4<|Z8 _ (Z0u rfl)<|Z00<|Zi ?_)
   revert h; refine Zt fun h=>?_
   subst h
   exact ⟨_,(.cons (.agg rfl .t4 rfl) (.cons (.tmp rfl) .nil)),rfl⟩
def Zbl:OL :=
 bnd (([929955233495203,466365720129213,1662059464998953,2033849074728123,1442794654840575]:LI)) fun z1 =>
 some z1
theorem Zkg {W:World} {r:(LI)} (h:Zbl=some r)  :
    Calls Tryz.prog 128 [].toArray W (Z36 W (agg [u5' r])):=by
 unfold Zbl at h
 refine Zc mo Z0n2 rfl ?_
 refine Z0<|Z2<|Zg (Zv fun b1 u1=>Z1<|Z0<|bH h fun z1 e1 h=>Z2<|Z6 _ (az (fun z=>agg [.ints .u64 5 z]) e1 (Zct (.one rfl rfl rfl (.one rfl rfl rfl (.one rfl rfl rfl (.one rfl rfl rfl (.one rfl rfl rfl BdR.nil)))))))<|Zg (Zs (q:=[u5' z1]) rfl rfl rfl rfl rfl .here<|Z1<|Zi ?_))
 revert h; refine Zt fun h=>?_
 subst h
 exact ⟨_,(.cons (.agg rfl .here rfl) .nil),rfl⟩
def Zag (p0:LI):Option (Zh×Bool) :=
 bnd (p0.getD 31 0) fun z1 =>
 bnd (Zq .u8 z1 7) fun z2 =>
 bnd (p0.getD 31 0) fun z3 =>
 bnd (Z4 .and .u8 z3 127) fun z4 =>
 bnd (Z2u p0 31 z4) fun l1 =>
 opt (Z5n l1) fun y1 =>
 br ((!y1)) (
 some ((⟨(replicate 5 0),(replicate 5 0),(replicate 5 0),(replicate 5 0)⟩:Zh),false)
 ) (
 opt (Z2z l1) fun y2 =>
 opt (Z1u y2) fun y3 =>
 opt (Z8g) fun y4 =>
 opt (Z56 y3 y4) fun y5 =>
 opt (Zbl) fun y6 =>
 opt (Z0y y6 y3) fun y7 =>
 opt (Z2s y7 y4) fun y8 =>
 opt (Z6w y5 y8) fun y9 =>
 chk (imp (!(!y9.2)) (imp (z2==1) ((Z54 y9.1).isSome))) <|
 br (((!y9.2)||((z2==1)&&((Z54 y9.1).getD false)))) (
 some ((⟨(replicate 5 0),(replicate 5 0),(replicate 5 0),(replicate 5 0)⟩:Zh),false)
 ) (
 jn (fun (a1:LI)=>opt (Z0y a1 y2) fun y10 =>
 some ((⟨a1,y2,y4,y10⟩:Zh),true)) fun k1=>br ((z2==1)) (
 opt (Z5o y9.1) fun y11 =>
 k1 y11
 ) (
 k1 y9.1
 )
 )
 )
theorem Zix {W:World} {r:Zh×Bool} {p0:LI} (h:Zag p0=some r)  :
    Calls Tryz.prog 66 [agg [b3' p0]].toArray W (Z36 W (.tuple #[agg [u5' r.1.gX,u5' r.1.gY,u5' r.1.gZ,u5' r.1.gT],.bool (r.2)])):=by
 unfold Zag at h
 refine Zc mo ok66 rfl ?_
 refine Z0<|Z2<|Zg (Z0k (s:=[b3' p0]) rfl fun b1 u1=>Zg (Zv fun b2 u2=>Z7 rfl<|Z1<|Z0<|bH h fun z1 e1 h=>bH h fun z2 e2 h=>Z2<|Z6 _ (Z1s rfl rfl (by decide))<|Z6 _ (iz e1 (Z1y rfl .t1 rfl))<|Z6 _ (iz e2 (Z5g rfl rfl (by decide)))<|Z6 _ (Z9 rfl rfl rfl)<|Z7 rfl<|Z1<|Z0<|bH h fun z3 e3 h=>bH h fun z4 e4 h=>bH h fun l1 g1 h=>Z2<|Z6 _ (Z1s rfl rfl (by decide))<|Z6 _ (iz e3 (Z1y rfl .t1 rfl))<|Z6 _ (iz e4 (Z9 rfl rfl rfl))<|Z6 _ (Z1s rfl rfl (by decide))<|Zg (Z85 (q:=[b3' l1]) (congrArg (fun z=>([b3' z]:List Seg)) g1.symm) rfl rfl rfl rfl .t1<|Z1<|Z0<|Z0<|oH h fun y1 f1 h=>Z2<|Z6 _ (Zy (p:=[b3' l1]) rfl .t1 rfl)<|Z6 _ (Z0b rfl (Zgq f1))<|Z6 _ (Zl0 rfl rfl)<|Z1<|Z02 h rfl (fun h=>?_) (fun h=>?_))))
 ·refine Z0<|Z2<|Z6 _ (Zct (q:=[u5' (replicate 5 0),u5' (replicate 5 0),u5' (replicate 5 0),u5' (replicate 5 0)]) BdR.nil)<|Zg (Zs (q:=[u5' (replicate 5 0),u5' (replicate 5 0),u5' (replicate 5 0),u5' (replicate 5 0)]) rfl rfl rfl rfl rfl .here<|Z7 rfl<|Z1<|Zi ?_)
  revert h; refine Zt fun h=>?_
  subst h
  exact ⟨_,(.cons (.agg rfl .here rfl) (.cons (.tmp rfl) .nil)),rfl⟩
 ·refine Ze<|Z0<|oH h fun y2 f2 h=>Z2<|Z6 _ (Zy (p:=[b3' l1]) rfl .t1 rfl)<|Z6 _ (Z0b rfl (Z5i f2))<|Zg (Zv fun b3 u3=>Zg (Zs (q:=[u5' y2]) rfl rfl rfl rfl rfl .here<|Z1<|Z0<|oH h fun y3 f3 h=>Z2<|Z6 _ (Zy (p:=[u5' y2]) rfl .here rfl)<|Z6 _ (Z0b rfl (Z2k f3))<|Zg (Zv fun b4 u4=>Zg (Zs (q:=[u5' y3]) rfl rfl rfl rfl rfl .here<|Z1<|Z0<|oH h fun y4 f4 h=>Z2<|Z6 _ (Z0b rfl (Z95 f4))<|Zg (Zv fun b5 u5=>Zg (Zs (q:=[u5' y4]) rfl rfl rfl rfl rfl .here<|Z1<|Z0<|oH h fun y5 f5 h=>oH h fun y6 f6 h=>oH h fun y7 f7 h=>oH h fun y8 f8 h=>oH h fun y9 f9 h=>Zr<|Zn _ (Zy (p:=[u5' y3]) rfl .t1 rfl)<|Zn _ (Zy (p:=[u5' y4]) rfl .here rfl)<|Z8 _ (Z0b rfl (Z5b f5))<|Z8 _ (Z0b rfl (Zkg f6))<|Zn _ (Zy (p:=[u5' y3]) rfl .t1 rfl)<|Z8 _ (Z0b rfl (Z09 f7))<|Zn _ (Zy (p:=[u5' y4]) rfl .here rfl)<|Z8 _ (Z0b rfl (Z2p f8))<|Z8 _ (Z0b rfl (Zgr f9))<|Z8 _ (Z0u rfl)<|Z8 _ (Z2i rfl rfl)<|Z8 _ (Z2i rfl rfl)<|Z6o (Zv fun b6 u6=>⟨(by repeat (first | exact Sup.refl _ | apply Sup.cons | apply Sup.app)),Z1z rfl (Zs (q:=[u5' y9.1]) rfl rfl rfl rfl rfl .here (Z8 _ (Z0u rfl) (Z00 (Z0 (Z0 (cH h fun c1 h=>Z2 (Z7 rfl (Z6 _ (Zl0 rfl rfl) (Z7 rfl (Zhp rfl rfl rfl (fun hg1=>Z5h rfl _ (Z0u rfl) (Z5h rfl _ (Z0u rfl) (Z04e rfl (fun _ h=>by cases h; rfl) rfl rfl (fun hg2=>Z5h rfl _ (Zy (p:=[u5' y9.1]) rfl .here rfl) (Z5h rfl _ (Z0p rfl (fun _ _=>Z9u (getD_some (z:=false) (Zq8 (Zll c1 hg1) hg2)))) (Z5f))) (fun hg2=>rfl) rfl (Z5f)))) (fun hg1=>rfl) rfl (Z1 (Z02 h rfl (fun h=>?_) (fun h=>?_)))))))))))))⟩)))))))
  ·refine Z0<|Z2<|Z6 _ (Zct (q:=[u5' (replicate 5 0),u5' (replicate 5 0),u5' (replicate 5 0),u5' (replicate 5 0)]) BdR.nil)<|Zg (Zs (q:=[u5' (replicate 5 0),u5' (replicate 5 0),u5' (replicate 5 0),u5' (replicate 5 0)]) rfl rfl rfl rfl rfl .t4<|Z7 rfl<|Z1<|Zi ?_)
   revert h; refine Zt fun h=>?_
   subst h
   exact ⟨_,(.cons (.agg rfl .t4 rfl) (.cons (.tmp rfl) .nil)),rfl⟩
  ·refine Ze<|Z0<|Z0<|Z2<|Z7 rfl<|Z1<|jH h fun k1 q1 h=>Zm (G:=fun t m=>∃ (a1:LI),k1 a1=some r/\Fit [(2,pt' b2),(5,pt' b3),(7,pt' b5),(8,pt' b6)] (ck b6 80 [u5' a1]::(ck b5 80 [u5' y4]::(ck b4 80 [u5' y3]::(ck b3 80 [u5' y2]::(ck b2 82 [u5' (replicate 5 0),u5' (replicate 5 0),u5' (replicate 5 0),u5' (replicate 5 0)]::(ck b1 29 [b3' l1] :: [])))))) t m) ?_ ?_
   ·refine Z02 h rfl (fun h=>?_) (fun h=>?_)
    ·exact oH h fun y10 f10 h=>Z2<|Z6 _ (Zy (p:=[u5' y9.1]) rfl .here rfl)<|Z6 _ (Z0b rfl (Z6i f10))<|Zg (Zs (q:=[u5' y10]) rfl rfl rfl rfl rfl .here<|Z1<|⟨y10,h,⟨⟨rfl,rfl,rfl,rfl,trivial⟩,(.o (.o (.o (.o (.o (.o .nil))))))⟩⟩)
    ·exact Ze<|⟨y9.1,h,⟨⟨rfl,rfl,rfl,rfl,trivial⟩,(.o (.o (.o (.o (.o (.o .nil))))))⟩⟩
   ·rintro t m ⟨a1,h,hF⟩
    refine Zk hF ?_
    clear hF
    subst q1
    refine Z0<|oH h fun y11 f11 h=>Zr<|Zn _ (Zy (p:=[u5' a1]) rfl .here rfl)<|Zn _ (Zy (p:=[u5' y2]) rfl .t3 rfl)<|Zn _ (Zy (p:=[u5' y4]) rfl .t1 rfl)<|Zn _ (Zy (p:=[u5' a1]) rfl .here rfl)<|Zn _ (Zy (p:=[u5' y2]) rfl .t3 rfl)<|Z8 _ (Z0b rfl (Z09 f11))<|Z8 _ (Zct (q:=[u5' a1,u5' y2,u5' y4,u5' y11]) (.agg rfl rfl rfl (.agg rfl rfl rfl (.agg rfl rfl rfl (.agg rfl rfl rfl BdR.nil)))))<|Z1z rfl (Zs (q:=[u5' a1,u5' y2,u5' y4,u5' y11]) rfl rfl rfl rfl rfl .t4<|Z8 _ (Z0u rfl)<|Z00<|Zi ?_)
    revert h; refine Zt fun h=>?_
    subst h
    exact ⟨_,(.cons (.agg rfl .t4 rfl) (.cons (.tmp rfl) .nil)),rfl⟩
def Z37 (p0:LI):Option Bool :=
 opt (Za1 p0) fun y1 =>
 opt (Z61 y1 G_order) fun y2 =>
 some (y2.2==1)
theorem Zfx {W:World} {r:Bool} {p0:LI} (h:Z37 p0=some r) (hG:Globs W) :
    Calls Tryz.prog 67 [agg [b3' p0]].toArray W (Z36 W (.bool (r))):=by
 unfold Z37 at h
 refine Zc mo ok67 rfl ?_
 refine Z0<|Z2<|Zg (Z0k (s:=[b3' p0]) rfl fun b1 u1=>Z7 rfl<|Z1<|Z0<|oH h fun y1 f1 h=>oH h fun y2 f2 h=>Zr<|Zn _ (Zy (p:=[b3' p0]) rfl .here rfl)<|Z8 _ (Z0b rfl (Zkl f1))<|Zn _ (Zsu (o0:=0) (off:=0) rfl (hG.g1) (by simp) rfl)<|Z8 _ (Z0b rfl (Za2 f2))<|Z8 _ (Z0u rfl)<|Z8 _ (Z2i rfl rfl)<|Z8 _ (Z2i rfl rfl)<|Z6o (Zv fun b2 u2=>⟨(by repeat (first | exact Sup.refl _ | apply Sup.cons | apply Sup.app)),Z1z rfl (Zs (q:=[.ints .u64 4 (y2.1)]) rfl rfl rfl rfl rfl .here (Z8 _ (Z0u rfl) (Z00 (Z0 (Z2 (Z7 rfl (Z6 _ (Z9 rfl rfl rfl) (Z7 rfl (Z1 (Zi ?_))))))))))⟩))
 revert h; refine Zt fun h=>?_
 subst h
 exact ⟨_,(.cons (.tmp rfl) .nil),rfl⟩
def Z6d (k1:(LI)->(LI)->(LI)->(LI)->Option (Zh)) (k2:Int->(LI)->(LI)->(LI)->(LI)->Option (Zh)) (i1:Int) (a1:LI) (a2:LI) (a3:LI) (a4:LI):Option (Zh) :=
 br ((decide (i1<4))) (
 opt (Z8c (⟨a1,a2,a3,a4⟩:Zh)) fun y1 =>
 bnd (IntKind.wrap .i64 (i1+1)) fun z1 =>
 k2 z1 y1.gX y1.gY y1.gZ y1.gT
 ) (
 k1 a1 a2 a3 a4
 )
def Z2h (k1:(LI)->(LI)->(LI)->(LI)->Option (Zh)):Nat->Int->(LI)->(LI)->(LI)->(LI)->Option (Zh)
  | 0,_,_,_,_,_=>none
  | n+1,i1,a1,a2,a3,a4=>Z6d k1 (Z2h k1 n) i1 a1 a2 a3 a4
def Z6c (p0:LI) (p2:LI) (a1:List (Zh)) (a2:List (Zh)) (k1:(LI)->(LI)->(LI)->(LI)->Option (Zh)) (k2:Int->(LI)->(LI)->(LI)->(LI)->Option (Zh)) (i1:Int) (a3:LI) (a4:LI) (a5:LI) (a6:LI):Option (Zh) :=
 br ((decide (i1<64))) (
 jn (fun (a7:LI) (a8:LI) (a9:LI) (a10:LI)=>opt (Z8f p0 i1) fun y1 =>
 chk (inB y1 16) <|
 bnd (a1.getD (y1).toNat Z1l) fun x1 =>
 opt (Zaf (⟨a7,a8,a9,a10⟩:Zh) x1) fun y2 =>
 opt (Z8f p2 i1) fun y3 =>
 chk (inB y3 16) <|
 bnd (a2.getD (y3).toNat Z1l) fun x2 =>
 opt (Zaf y2 x2) fun y4 =>
 bnd (IntKind.wrap .i64 (i1+1)) fun z1 =>
 k2 z1 y4.gX y4.gY y4.gZ y4.gT) fun k3=>Z2h k3 big 0 a3 a4 a5 a6
 ) (
 k1 a3 a4 a5 a6
 )
def Z35 (p0:LI) (p2:LI) (a1:List (Zh)) (a2:List (Zh)) (k1:(LI)->(LI)->(LI)->(LI)->Option (Zh)):Nat->Int->(LI)->(LI)->(LI)->(LI)->Option (Zh)
  | 0,_,_,_,_,_=>none
  | n+1,i1,a3,a4,a5,a6=>Z6c p0 p2 a1 a2 k1 (Z35 p0 p2 a1 a2 k1 n) i1 a3 a4 a5 a6
def Z93 (p0:LI) (p1:Zh) (p2:LI):Option (Zh) :=
 opt (Zbm) fun y1 =>
 jn (fun (a1:List (Zh)) (a2:List (Zh))=>opt (Zbb) fun y2 =>
 jn (fun (a3:LI) (a4:LI) (a5:LI) (a6:LI)=>some (⟨a3,a4,a5,a6⟩:Zh)) fun k1=>Z35 p0 p2 a1 a2 k1 big 0 y2.gX y2.gY y2.gZ y2.gT) fun k2=>opt (Z5l p1) fun y3 =>
 opt (Z5l y1) fun y4 =>
 k2 y3 y4
theorem Zhx {W:World} {r:Zh} {p0:LI} {p1:Zh} {p2:LI} (h:Z93 p0 p1 p2=some r)  :
    Calls Tryz.prog 68 [agg [b3' p0],agg [u5' p1.gX,u5' p1.gY,u5' p1.gZ,u5' p1.gT],agg [b3' p2]].toArray W (Z36 W (agg [u5' r.gX,u5' r.gY,u5' r.gZ,u5' r.gT])):=by
 unfold Z93 at h
 refine Zc mo ok68 rfl ?_
 refine Z0<|Z2<|Zg (Z0k (s:=[b3' p0]) rfl fun b1 u1=>Zg (Z0k (s:=[u5' p1.gX,u5' p1.gY,u5' p1.gZ,u5' p1.gT]) rfl fun b2 u2=>Zg (Z0k (s:=[b3' p2]) rfl fun b3 u3=>Zg (Zv fun b4 u4=>Z1<|Z0<|oH h fun y1 f1 h=>Z2<|Z6 _ (Z0b rfl (Zkh f1))<|Zg (Zv fun b5 u5=>Zg (Zs (q:=[u5' y1.gX,u5' y1.gY,u5' y1.gZ,u5' y1.gT]) rfl rfl rfl rfl rfl .here<|Z1<|Z0<|jH h fun k1 q1 h=>Zm (G:=fun t m=>∃ (a1:List (Zh)) (a2:List (Zh)) (b6:Nat) (b7:Nat),k1 a1 a2=some r/\Fit [(3,pt' b1),(5,pt' b3),(6,pt' b4),(8,pt' b6),(9,pt' b7)] (ck b7 166 [.rows 20 16 (Z90 Zz (a2))]::(ck b6 166 [.rows 20 16 (Z90 Zz (a1))]::(ck b5 82 [u5' y1.gX,u5' y1.gY,u5' y1.gZ,u5' y1.gT]::(ck b4 82 [u5' (replicate 5 0),u5' (replicate 5 0),u5' (replicate 5 0),u5' (replicate 5 0)]::(ck b3 74 [b3' p2]::(ck b2 82 [u5' p1.gX,u5' p1.gY,u5' p1.gZ,u5' p1.gT]::(ck b1 74 [b3' p0] :: []))))))) t m) ?_ ?_))))))
 ·refine oH h fun y2 f2 h=>oH h fun y3 f3 h=>Zr<|Zn _ (Zy (p:=[u5' p1.gX,u5' p1.gY,u5' p1.gZ,u5' p1.gT]) rfl .t3 rfl)<|Z8 _ (Z0b rfl (Zb3 f2))<|Zn _ (Zy (p:=[u5' y1.gX,u5' y1.gY,u5' y1.gZ,u5' y1.gT]) rfl .here rfl)<|Z8 _ (Z0b rfl (Zb3 f3))<|Zrs (Zgy (z':=[.rows 20 16 (Z90 Zz ((replicate 16 Z1l)))]) (Za8 (E:=Zz) rfl rfl) fun b8 u6=>⟨(by repeat (first | exact Sup.refl _ | apply Sup.cons | apply Sup.app)),?_⟩) (Zgy (z':=[.rows 20 16 (Z90 Zz ((replicate 16 Z1l)))]) (Za8 (E:=Zz) rfl rfl) fun b9 u7=>⟨(by repeat (first | exact Sup.refl _ | apply Sup.cons | apply Sup.app)),?_⟩)
  ·exact Z6o (Zgy (z':=[.rows 20 16 (Z90 Zz ((replicate 16 Z1l)))]) (Za8 (E:=Zz) rfl rfl) fun b9 u7=>⟨(by repeat (first | exact Sup.refl _ | apply Sup.cons | apply Sup.app)),Z1z rfl (Zlf (q:=[.rows 20 16 (Z90 Zz (y2))]) rfl rfl rfl rfl (Z30 (Zbq (E:=Zz)) Z82) .t1 (Z03k rfl (Zlf (q:=[.rows 20 16 (Z90 Zz (y3))]) rfl rfl rfl rfl (Z30 (Zbq (E:=Zz)) Z82) .here (Z00 (⟨y2,y3,b8,b9,h,⟨⟨rfl,rfl,rfl,rfl,rfl,trivial⟩,(.o (.o (.o (.o (.o (.o (.o .nil)))))))⟩⟩)))))⟩)
  ·exact Z6o (Zgy (z':=[.rows 20 16 (Z90 Zz ((replicate 16 Z1l)))]) (Za8 (E:=Zz) rfl rfl) fun b8 u6=>⟨(by repeat (first | exact Sup.refl _ | apply Sup.cons | apply Sup.app)),Z1z rfl (Zlf (q:=[.rows 20 16 (Z90 Zz (y2))]) rfl rfl rfl rfl (Z30 (Zbq (E:=Zz)) Z82) .here (Z03k rfl (Zlf (q:=[.rows 20 16 (Z90 Zz (y3))]) rfl rfl rfl rfl (Z30 (Zbq (E:=Zz)) Z82) .t1 (Z00 (⟨y2,y3,b8,b9,h,⟨⟨rfl,rfl,rfl,rfl,rfl,trivial⟩,(.one .t1 (.o (.o (.o (.o (.o (.o .nil)))))))⟩⟩)))))⟩)
 ·rintro t m ⟨a1,a2,b6,b7,h,hF⟩
  refine Zk hF ?_
  clear hF
  subst q1
  refine Z0<|oH h fun y4 f4 h=>Z2<|Z6 _ (Z0p (vs:=[]) (v:=agg [u5' y4.gX,u5' y4.gY,u5' y4.gZ,u5' y4.gT]) rfl (fun w hw=>Zey (r:=y4) f4 ))<|Zg (Zv fun b10 u8=>Zg (Zs (q:=[u5' y4.gX,u5' y4.gY,u5' y4.gZ,u5' y4.gT]) rfl rfl rfl rfl rfl .here<|Z1<|Z0<|Z0<|Z2<|Z7 rfl<|Z1<|jH h fun k2 q2 h=>Zm (G:=fun t m=>∃ (a3:LI) (a4:LI) (a5:LI) (a6:LI),k2 a3 a4 a5 a6=some r/\Fit [(6,pt' b4),(10,pt' b10)] (ck b10 82 [u5' a3,u5' a4,u5' a5,u5' a6]::(ck b7 166 [.rows 20 16 (Z90 Zz (a2))]::(ck b6 166 [.rows 20 16 (Z90 Zz (a1))]::(ck b5 82 [u5' y1.gX,u5' y1.gY,u5' y1.gZ,u5' y1.gT]::(ck b4 82 [u5' (replicate 5 0),u5' (replicate 5 0),u5' (replicate 5 0),u5' (replicate 5 0)]::(ck b3 74 [b3' p2]::(ck b2 82 [u5' p1.gX,u5' p1.gY,u5' p1.gZ,u5' p1.gT]::(ck b1 74 [b3' p0] :: [])))))))) t m) ?_ ?_))
  ·refine Za<|Zp (fun n1 t m=>∃ (i1:Int) (a7:LI) (a8:LI) (a9:LI) (a10:LI),Z35 p0 p2 a1 a2 k2 n1 i1 a7 a8 a9 a10=some r/\Fit [(3,pt' b1),(5,pt' b3),(6,pt' b4),(8,pt' b6),(9,pt' b7),(10,pt' b10),(18,.int .i64 (i1))] (ck b10 82 [u5' a7,u5' a8,u5' a9,u5' a10]::(ck b7 166 [.rows 20 16 (Z90 Zz (a2))]::(ck b6 166 [.rows 20 16 (Z90 Zz (a1))]::(ck b5 82 [u5' y1.gX,u5' y1.gY,u5' y1.gZ,u5' y1.gT]::(ck b4 82 [u5' (replicate 5 0),u5' (replicate 5 0),u5' (replicate 5 0),u5' (replicate 5 0)]::(ck b3 74 [b3' p2]::(ck b2 82 [u5' p1.gX,u5' p1.gY,u5' p1.gZ,u5' p1.gT]::(ck b1 74 [b3' p0] :: [])))))))) t m) big ?_ ?_
   ·exact ⟨0,y4.gX,y4.gY,y4.gZ,y4.gT,h,⟨⟨rfl,rfl,rfl,rfl,rfl,rfl,rfl,trivial⟩,(.o (.o (.o (.o (.o (.o (.o (.o .nil))))))))⟩⟩
   ·rintro n1 t m ⟨i1,a7,a8,a9,a10,h,hF⟩
    refine Zk hF ?_
    clear hF
    rcases n1 with _ | n1
    · exact Z0a h
    have h:Z6c p0 p2 a1 a2 k2 (Z35 p0 p2 a1 a2 k2 n1) i1 a7 a8 a9 a10=some r:=h
    unfold Z6c at h
    obtain ⟨k3,q3⟩ : ∃ k,k=Z35 p0 p2 a1 a2 k2 n1:=⟨_,rfl⟩
    try rw [<- q3] at h
    refine Z0<|Z2<|Z6 _ (Z9 rfl rfl rfl)<|Z1<|Z0<|Z02 h rfl (fun h=>?_) (fun h=>?_)
    ·refine Ze<|Z0<|Za<|Z0<|Z2<|Z7 rfl<|Z7 rfl<|Z1<|Z0<|Z0<|Z2<|Z7 rfl<|Z1<|jH h fun k4 q4 h=>Zm (G:=fun t m=>∃ (a11:LI) (a12:LI) (a13:LI) (a14:LI),k4 a11 a12 a13 a14=some r/\Fit [(3,pt' b1),(5,pt' b3),(6,pt' b4),(8,pt' b6),(9,pt' b7),(10,pt' b10),(11,.int .i64 (i1)),(18,.int .i64 (i1))] (ck b10 82 [u5' a11,u5' a12,u5' a13,u5' a14]::(ck b7 166 [.rows 20 16 (Z90 Zz (a2))]::(ck b6 166 [.rows 20 16 (Z90 Zz (a1))]::(ck b5 82 [u5' y1.gX,u5' y1.gY,u5' y1.gZ,u5' y1.gT]::(ck b4 82 [u5' (replicate 5 0),u5' (replicate 5 0),u5' (replicate 5 0),u5' (replicate 5 0)]::(ck b3 74 [b3' p2]::(ck b2 82 [u5' p1.gX,u5' p1.gY,u5' p1.gZ,u5' p1.gT]::(ck b1 74 [b3' p0] :: [])))))))) t m) ?_ ?_
     ·refine Za<|Zp (fun n2 t m=>∃ (i2:Int) (a15:LI) (a16:LI) (a17:LI) (a18:LI),Z2h k4 n2 i2 a15 a16 a17 a18=some r/\Fit [(3,pt' b1),(5,pt' b3),(6,pt' b4),(8,pt' b6),(9,pt' b7),(10,pt' b10),(11,.int .i64 (i1)),(18,.int .i64 (i1)),(21,.int .i64 (i2))] (ck b10 82 [u5' a15,u5' a16,u5' a17,u5' a18]::(ck b7 166 [.rows 20 16 (Z90 Zz (a2))]::(ck b6 166 [.rows 20 16 (Z90 Zz (a1))]::(ck b5 82 [u5' y1.gX,u5' y1.gY,u5' y1.gZ,u5' y1.gT]::(ck b4 82 [u5' (replicate 5 0),u5' (replicate 5 0),u5' (replicate 5 0),u5' (replicate 5 0)]::(ck b3 74 [b3' p2]::(ck b2 82 [u5' p1.gX,u5' p1.gY,u5' p1.gZ,u5' p1.gT]::(ck b1 74 [b3' p0] :: [])))))))) t m) big ?_ ?_
      ·exact ⟨0,a7,a8,a9,a10,h,⟨⟨rfl,rfl,rfl,rfl,rfl,rfl,rfl,rfl,rfl,trivial⟩,(.o (.o (.o (.o (.o (.o (.o (.o .nil))))))))⟩⟩
      ·rintro n2 t m ⟨i2,a15,a16,a17,a18,h,hF⟩
       refine Zk hF ?_
       clear hF
       rcases n2 with _ | n2
       · exact Z0a h
       have h:Z6d k4 (Z2h k4 n2) i2 a15 a16 a17 a18=some r:=h
       unfold Z6d at h
       obtain ⟨k5,q5⟩ : ∃ k,k=Z2h k4 n2:=⟨_,rfl⟩
       try rw [<- q5] at h
       refine Z0<|Z2<|Z6 _ (Z9 rfl rfl rfl)<|Z1<|Z0<|Z02 h rfl (fun h=>?_) (fun h=>?_)
       ·refine Ze<|Z0<|Za<|oH h fun y5 f5 h=>Z2<|Z6 _ (Zy (p:=[u5' a15,u5' a16,u5' a17,u5' a18]) rfl .here rfl)<|Z6 _ (Z0p (vs:=[agg [u5' a15,u5' a16,u5' a17,u5' a18]]) (v:=agg [u5' y5.gX,u5' y5.gY,u5' y5.gZ,u5' y5.gT]) rfl (fun w hw=>Ziy (r:=y5) (p0:=(⟨a15,a16,a17,a18⟩:Zh)) f5 ))<|Zg (Zs (q:=[u5' y5.gX,u5' y5.gY,u5' y5.gZ,u5' y5.gT]) rfl rfl rfl rfl rfl .here<|Z1<|bH h fun z1 e1 h=>Z2<|Z6 _ (iz e1 (Z9 rfl rfl rfl))<|Z7 rfl<|Z1 ?_)
        rw [q5] at h
        exact ⟨n2,Nat.lt_succ_self _,z1,y5.gX,y5.gY,y5.gZ,y5.gT,h,⟨⟨rfl,rfl,rfl,rfl,rfl,rfl,rfl,rfl,rfl,trivial⟩,(.o (.o (.o (.o (.o (.o (.o (.o .nil))))))))⟩⟩
       ·exact Zx _ rfl<|⟨a15,a16,a17,a18,h,⟨⟨rfl,rfl,rfl,rfl,rfl,rfl,rfl,rfl,trivial⟩,(.o (.o (.o (.o (.o (.o (.o (.o .nil))))))))⟩⟩
     ·rintro t m ⟨a11,a12,a13,a14,h,hF⟩
      refine Zk hF ?_
      clear hF
      subst q4
      refine oH h fun y6 f6 h=>cH h fun c1 h=>bH h fun x1 j1 h=>oH h fun y7 f7 h=>oH h fun y8 f8 h=>cH h fun c2 h=>bH h fun x2 j2 h=>oH h fun y9 f9 h=>Zr<|Z8 _ (Z0u rfl)<|Z8 _ (Z0u rfl)<|Zn _ (Zy (p:=[u5' a11,u5' a12,u5' a13,u5' a14]) rfl .here rfl)<|Zn _ (Zy (p:=[b3' p0]) rfl .t7 rfl)<|Z8 _ (Z0p (vs:=[agg [b3' p0],.int .i64 (i1)]) (v:=.int .u8 (y6)) rfl (fun w hw=>Zcz (r:=y6) (p0:=p0) (p1:=i1) f6 ))<|Z8 _ (Z1s rfl rfl (Z0j c1))<|Zn _ (az (fun x1=>agg [u5' x1.gX,u5' x1.gY,u5' x1.gZ,u5' x1.gT]) j1 (Zm7 (base:=0) (w:=20) rfl .t2 rfl (Z03 c1) rfl rfl rfl))<|Z8 _ (Z0p (vs:=[agg [u5' a11,u5' a12,u5' a13,u5' a14],agg [u5' x1.gX,u5' x1.gY,u5' x1.gZ,u5' x1.gT]]) (v:=agg [u5' y7.gX,u5' y7.gY,u5' y7.gZ,u5' y7.gT]) rfl (fun w hw=>Zcg (r:=y7) (p0:=(⟨a11,a12,a13,a14⟩:Zh)) (p1:=x1) f7 ))<|Zn _ (Zy (p:=[b3' p2]) rfl .t5 rfl)<|Z8 _ (Z0p (vs:=[agg [b3' p2],.int .i64 (i1)]) (v:=.int .u8 (y8)) rfl (fun w hw=>Zcz (r:=y8) (p0:=p2) (p1:=i1) f8 ))<|Z8 _ (Z1s rfl rfl (Z0j c2))<|Zn _ (az (fun x2=>agg [u5' x2.gX,u5' x2.gY,u5' x2.gZ,u5' x2.gT]) j2 (Zm7 (base:=0) (w:=20) rfl .t1 rfl (Z03 c2) rfl rfl rfl))<|Z8 _ (Z0p (vs:=[agg [u5' y7.gX,u5' y7.gY,u5' y7.gZ,u5' y7.gT],agg [u5' x2.gX,u5' x2.gY,u5' x2.gZ,u5' x2.gT]]) (v:=agg [u5' y9.gX,u5' y9.gY,u5' y9.gZ,u5' y9.gT]) rfl (fun w hw=>Zcg (r:=y9) (p0:=y7) (p1:=x2) f9 ))<|Z1z rfl (Zs (q:=[u5' y9.gX,u5' y9.gY,u5' y9.gZ,u5' y9.gT]) rfl rfl rfl rfl rfl .here<|Z00<|bH h fun z2 e2 h=>Z2<|Z6 _ (iz e2 (Z9 rfl rfl rfl))<|Z7 rfl<|Z1 ?_)
      rw [q3] at h
      exact ⟨n1,Nat.lt_succ_self _,z2,y9.gX,y9.gY,y9.gZ,y9.gT,h,⟨⟨rfl,rfl,rfl,rfl,rfl,rfl,rfl,trivial⟩,(.o (.o (.o (.o (.o (.o (.o (.o .nil))))))))⟩⟩
    ·exact Zx _ rfl<|⟨a7,a8,a9,a10,h,⟨⟨rfl,rfl,trivial⟩,(.o (.o (.o (.o (.o (.o (.o (.o .nil))))))))⟩⟩
  ·rintro t m ⟨a3,a4,a5,a6,h,hF⟩
   refine Zk hF ?_
   clear hF
   subst q2
   refine Z0<|Z2<|Z6 _ (Zy (p:=[u5' a3,u5' a4,u5' a5,u5' a6]) rfl .here rfl)<|Zg (Zs (q:=[u5' a3,u5' a4,u5' a5,u5' a6]) rfl rfl rfl rfl rfl .t4<|Z1<|Zi ?_)
   revert h; refine Zt fun h=>?_
   subst h
   exact ⟨_,(.cons (.agg rfl .t4 rfl) .nil),rfl⟩
def Zbk (p0:Zh):Option (Zh) :=
 opt (Z5o p0.gX) fun y1 =>
 opt (Z5o p0.gT) fun y2 =>
 some (⟨y1,p0.gY,p0.gZ,y2⟩:Zh)
theorem Zmv {W:World} {r:Zh} {p0:Zh} (h:Zbk p0=some r)  :
    Calls Tryz.prog 69 [agg [u5' p0.gX,u5' p0.gY,u5' p0.gZ,u5' p0.gT]].toArray W (Z36 W (agg [u5' r.gX,u5' r.gY,u5' r.gZ,u5' r.gT])):=by
 unfold Zbk at h
 refine Zc mo ok69 rfl ?_
 refine Z0<|Z2<|Zg (Z0k (s:=[u5' p0.gX,u5' p0.gY,u5' p0.gZ,u5' p0.gT]) rfl fun b1 u1=>Zg (Zv fun b2 u2=>Z1<|Z0<|oH h fun y1 f1 h=>oH h fun y2 f2 h=>Zr<|Z8 _ (Z4f rfl)<|Z8 _ (Z4f rfl)<|Z8 _ (Z4f rfl)<|Z8 _ (Z4f rfl)<|Zn _ (Zy (p:=[u5' p0.gX]) rfl .t1 rfl)<|Z8 _ (Z0b rfl (Z6i f1))<|Zn _ (Zy (p:=[u5' p0.gY]) rfl .t1 rfl)<|Zn _ (Zy (p:=[u5' p0.gZ]) rfl .t1 rfl)<|Zn _ (Zy (p:=[u5' p0.gT]) rfl .t1 rfl)<|Z8 _ (Z0b rfl (Z6i f2))<|Z8 _ (Zct (q:=[u5' y1,u5' p0.gY,u5' p0.gZ,u5' y2]) (.agg rfl rfl rfl (.agg rfl rfl rfl (.agg rfl rfl rfl (.agg rfl rfl rfl BdR.nil)))))<|Z1z rfl (Zs (q:=[u5' y1,u5' p0.gY,u5' p0.gZ,u5' y2]) rfl rfl rfl rfl rfl .here<|Z00<|Zi ?_)))
 revert h; refine Zt fun h=>?_
 subst h
 exact ⟨_,(.cons (.agg rfl .here rfl) .nil),rfl⟩
def Z4t (p0:LI) (p1:LI) (p2:LI):Option Bool :=
 opt (Zag p0) fun y1 =>
 chk (decide (32<=(tk p2 32 (64-32)).length)) <|
 bnd (tk (tk p2 32 (64-32)) 0 32) fun z1 =>
 chk (imp (!(!y1.2)) ((Z37 z1).isSome)) <|
 br (((!y1.2)||(!((Z37 z1).getD false)))) (
 some false
 ) (
 jn (fun (a1:LI)=>opt (Zbk y1.1) fun y2 =>
 opt (Z93 a1 y2 z1) fun y3 =>
 opt (Z8d y3) fun y4 =>
 chk (decide (32<=(tk p2 0 32).length)) <|
 bnd (tk (tk p2 0 32) 0 32) fun z2 =>
 some (ieq 32 y4 z2)) fun k1=>opt (Z9i [(tk p2 0 32),(tk p0 0 32),p1]) fun y5 =>
 k1 y5
 )
theorem Zkn {W:World} {r:Bool} {p0:LI} {p1:LI} {p2:LI} {v1:Value} (h:Z4t p0 p1 p2=some r) (hG:Globs W) (A1:RdSl (El.int .u8) W v1 p1) :
    Calls Tryz.prog 25 [agg [b3' p0],v1,agg [b6' p2]].toArray W (Z36 W (.bool (r))):=by
 unfold Z4t at h
 refine Zc mo ok25 rfl ?_
 refine Z0<|Z2<|Zg (Z0k (s:=[b3' p0]) rfl fun b1 u1=>Zg (Z0k (s:=[b6' p2]) rfl fun b2 u2=>Z7 rfl<|Z1<|Z0<|oH h fun y1 f1 h=>Z2<|Z6 _ (Zy (p:=[b3' p0]) rfl .t1 rfl)<|Z6 _ (Z0b rfl (Zix f1))<|Z7 rfl<|Z6 _ (Z2i rfl rfl)<|Z6 _ (Z2i rfl rfl)<|Zg (Zv fun b3 u3=>Zg (Zs (q:=[u5' y1.1.gX,u5' y1.1.gY,u5' y1.1.gZ,u5' y1.1.gT]) rfl rfl rfl rfl rfl .here<|Z7 rfl<|Z1<|Z0<|cH h fun c1 h=>bH h fun z1 e1 h=>Z2<|Z6 _ (Ze8 rfl (.yes rfl) .no .no (by simp) (by decide))<|Z6 _ (Z04b rfl (Shp.blk (lo:=32) (hi:=64) (mz:=64) (by decide) (by simp [Z0x])) (by decide) c1)<|Z6 _ (az (fun z=>agg [.ints .u8 32 z]) e1 (Z0f2 rfl (Z3q (s:=[b6' p2]) (N:=64) (k:=.u8) (base:=0) (lo:=32) (hi:=64) (mz:=64) .t1 rfl (by decide)) (by decide) c1))<|Zg (Zv fun b4 u4=>Zg (Zs (q:=[b3' z1]) rfl rfl rfl rfl rfl .here<|Z1<|Z0<|Z0<|cH h fun c2 h=>Z2<|Z7 rfl<|Z6 _ (Zl0 rfl rfl)<|Z7 rfl<|Zhp rfl rfl rfl (fun hg1=>Z5h rfl _ (Zy (p:=[b3' z1]) rfl .here rfl) (Z5h rfl _ (Z0p rfl (fun w hw=>Zfx (getD_some (z:=false) (Zll c2 hg1)) (hG.at hw (by simp)))) (Z5h rfl _ (Zl0 rfl rfl) (Z5f)))) (fun hg1=>rfl) rfl<|Z1<|Z02 h rfl (fun h=>?_) (fun h=>?_)))))))
 ·refine Z0<|Z2<|Z7 rfl<|Z1<|Zi ?_
  revert h; refine Zt fun h=>?_
  subst h
  exact ⟨_,(.cons (.tmp rfl) .nil),rfl⟩
 ·refine Ze<|Z0<|jH h fun k1 q1 h=>Zm (G:=fun t m=>∃ (a1:LI) (b5:Nat),k1 a1=some r/\Fit [(5,pt' b2),(7,pt' b3),(9,pt' b4),(10,pt' b5)] (ck b5 74 [b3' a1]::(ck b4 74 [b3' z1]::(ck b3 82 [u5' y1.1.gX,u5' y1.1.gY,u5' y1.1.gZ,u5' y1.1.gT]::(ck b2 27 [b6' p2]::(ck b1 29 [b3' p0] :: []))))) t m) ?_ ?_
  ·refine oH h fun y2 f2 h=>Zr<|Z8 _ (Ze8 rfl .no (.yes rfl) .no (by simp) (by decide))<|Z8 _ (Ze8 rfl .no .no .no (by simp) (by decide))<|Z8 _ (Z0u rfl)<|Zrs (Z5m (E:=El.sl) (xs:=[unS (.slice (some (Z4u b2 0 0 64 1)) (32-0) (64-0)),unS (.slice (some (Z4u b1 0 0 32 1)) (32-0) (32-0)),unS v1]) (.one rfl (Zkp.cells ⟨_,_,_,rfl⟩) rfl (.one rfl (Zkp.cells ⟨_,_,_,rfl⟩) rfl (.one rfl (Zkp.cells (Shp.isSl (Shp.rd A1))) rfl BdR.nil))) (.cons (p:=[.one (.slice (some (Z4u b2 0 0 64 1)) (32-0) (64-0))]) (Zg1 ⟨_,_,_,rfl⟩) (.cons (p:=[.one (.slice (some (Z4u b1 0 0 32 1)) (32-0) (32-0))]) (Zg1 ⟨_,_,_,rfl⟩) (.cons (p:=[.one v1]) (Zg1 (Shp.isSl (Shp.rd A1))) .nil))) rfl fun v25 w1 O1=>⟨(by repeat (first | exact Sup.refl _ | apply Sup.cons | apply Sup.app)),?_⟩) (Zv fun b6 u5=>⟨(by repeat (first | exact Sup.refl _ | apply Sup.cons | apply Sup.app)),?_⟩)
   ·refine Zrs (ef_q _ (Z0p rfl (fun w hw=>Zcs f2 (hG.at hw (by simp)) (Z0f O1 .here w hw) (.cons (Zax ((Z3q (s:=[b6' p2]) (N:=64) (k:=.u8) (base:=0) (lo:=0) (hi:=32) (mz:=64) (.app .t2) rfl (by decide)) w hw)) (.cons (Zax ((Z3q (s:=[b3' p0]) (N:=32) (k:=.u8) (base:=0) (lo:=0) (hi:=32) (mz:=32) (.app .t3) rfl (by decide)) w hw)) (.cons (Zax ((Z0d A1 Z0h) w hw)) .nil))))) ⟨(by repeat (first | exact Sup.refl _ | apply Sup.cons | apply Sup.app)),?_⟩) (Zv fun b6 u5=>⟨(by repeat (first | exact Sup.refl _ | apply Sup.cons | apply Sup.app)),?_⟩)
    ·exact Z6o (Zv fun b6 u5=>⟨(by repeat (first | exact Sup.refl _ | apply Sup.cons | apply Sup.app)),Z1z rfl (Zs (q:=[b3' y2]) rfl rfl rfl rfl rfl .here (Z00 (⟨y2,b6,h,⟨⟨rfl,rfl,rfl,rfl,trivial⟩,(.o (.one (.app .here) (.one (.app .here) (.one (.app .here) (.one (.app .here) .nil)))))⟩⟩)))⟩)
    ·exact Zwe _ (Z0p rfl (fun w hw=>Zcs f2 (hG.at hw (by simp)) (Z0f O1 .t1 w hw) (.cons (Zax ((Z3q (s:=[b6' p2]) (N:=64) (k:=.u8) (base:=0) (lo:=0) (hi:=32) (mz:=64) (.there (.app .t2)) rfl (by decide)) w hw)) (.cons (Zax ((Z3q (s:=[b3' p0]) (N:=32) (k:=.u8) (base:=0) (lo:=0) (hi:=32) (mz:=32) (.there (.app .t3)) rfl (by decide)) w hw)) (.cons (Zax ((Z0d A1 Z0h) w hw)) .nil))))) (Z1z rfl (Zs (q:=[b3' y2]) rfl rfl rfl rfl rfl .here (Z00 (⟨y2,b6,h,⟨⟨rfl,rfl,rfl,rfl,trivial⟩,(.o (.one (.app .here) (.one (.app .here) (.one (.app .here) (.one (.app .here) .nil)))))⟩⟩)))) (by repeat (first | exact Sup.refl _ | apply Sup.cons | apply Sup.app))
   ·exact Z6o (Z5m (E:=El.sl) (xs:=[unS (.slice (some (Z4u b2 0 0 64 1)) (32-0) (64-0)),unS (.slice (some (Z4u b1 0 0 32 1)) (32-0) (32-0)),unS v1]) (.one rfl (Zkp.cells ⟨_,_,_,rfl⟩) rfl (.one rfl (Zkp.cells ⟨_,_,_,rfl⟩) rfl (.one rfl (Zkp.cells (Shp.isSl (Shp.rd A1))) rfl BdR.nil))) (.cons (p:=[.one (.slice (some (Z4u b2 0 0 64 1)) (32-0) (64-0))]) (Zg1 ⟨_,_,_,rfl⟩) (.cons (p:=[.one (.slice (some (Z4u b1 0 0 32 1)) (32-0) (32-0))]) (Zg1 ⟨_,_,_,rfl⟩) (.cons (p:=[.one v1]) (Zg1 (Shp.isSl (Shp.rd A1))) .nil))) rfl fun v25 w1 O1=>⟨(by repeat (first | exact Sup.refl _ | apply Sup.cons | apply Sup.app)),Zwe _ (Z0p rfl (fun w hw=>Zcs f2 (hG.at hw (by simp)) (Z0f O1 .here w hw) (.cons (Zax ((Z3q (s:=[b6' p2]) (N:=64) (k:=.u8) (base:=0) (lo:=0) (hi:=32) (mz:=64) (.app .t3) rfl (by decide)) w hw)) (.cons (Zax ((Z3q (s:=[b3' p0]) (N:=32) (k:=.u8) (base:=0) (lo:=0) (hi:=32) (mz:=32) (.app .t4) rfl (by decide)) w hw)) (.cons (Zax ((Z0d A1 Z0h) w hw)) .nil))))) (Z1z rfl (Zs (q:=[b3' y2]) rfl rfl rfl rfl rfl (.app .here) (Z00 (⟨y2,b6,h,⟨⟨rfl,rfl,rfl,rfl,trivial⟩,(.one (.app .here) (.one (.app .here) (.one (.app .here) (.one (.app .here) (.one (.app .here) .nil)))))⟩⟩)))) (by repeat (first | exact Sup.refl _ | apply Sup.cons | apply Sup.app))⟩)
  ·rintro t m ⟨a1,b5,h,hF⟩
   refine Zk hF ?_
   clear hF
   subst q1
   refine Z0<|oH h fun y3 f3 h=>oH h fun y4 f4 h=>oH h fun y5 f5 h=>Zr<|Zn _ (Zy (p:=[b3' a1]) rfl .here rfl)<|Zn _ (Zy (p:=[u5' y1.1.gX,u5' y1.1.gY,u5' y1.1.gZ,u5' y1.1.gT]) rfl .t2 rfl)<|Z8 _ (Z0b rfl (Zmv f3))<|Zn _ (Zy (p:=[b3' z1]) rfl .t1 rfl)<|Z8 _ (Z0b rfl (Zhx f4))<|Z8 _ (Z0b rfl (Ziz f5))<|Z6o (Zv fun b7 u6=>⟨(by repeat (first | exact Sup.refl _ | apply Sup.cons | apply Sup.app)),Z1z rfl (Zs (q:=[b3' y5]) rfl rfl rfl rfl rfl .here (Z00 (Z0 (cH h fun c3 h=>bH h fun z2 e2 h=>Zr (Z8 _ (Ze8 rfl .no (.yes rfl) .no (by simp) (by decide)) (Z8 _ (Z04b rfl (Shp.blk (lo:=0) (hi:=32) (mz:=64) (by decide) (by simp [Z0x])) (by decide) c3) (Zn _ (Zy (p:=[b3' y5]) rfl .here rfl) (Zn _ (az (fun z=>agg [.ints .u8 32 z]) e2 (Z0f2 rfl (Z3q (s:=[b6' p2]) (N:=64) (k:=.u8) (base:=0) (lo:=0) (hi:=32) (mz:=64) .t4 rfl (by decide)) (by decide) c3)) (Z8 _ (Zhj rfl rfl rfl rfl _ (Z63 Z4e)) (Z8 _ (Z0u rfl) (Z00 (Zi ?_))))))))))))⟩)
   revert h; refine Zt fun h=>?_
   subst h
   exact ⟨_,(.cons (.tmp rfl) .nil),rfl⟩
def Z8r (p0:LI):Option Bool :=
 opt (Z5z p0) fun y1 =>
 opt (Zge y1) fun y2 =>
 some (ieq 32 y2 p0)
theorem Zjc {W:World} {r:Bool} {p0:LI} (h:Z8r p0=some r)  :
    Calls Tryz.prog 138 [agg [b3' p0]].toArray W (Z36 W (.bool (r))):=by
 unfold Z8r at h
 refine Zc mo Z0nc rfl ?_
 refine Z0<|Z2<|Zg (Z0k (s:=[b3' p0]) rfl fun b1 u1=>Z7 rfl<|Z1<|Z0<|oH h fun y1 f1 h=>oH h fun y2 f2 h=>Zr<|Zn _ (Zy (p:=[b3' p0]) rfl .here rfl)<|Z8 _ (Z0b rfl (Z9x f1))<|Z8 _ (Z0b rfl (Zi8 f2))<|Zn _ (Zy (p:=[b3' p0]) rfl .here rfl)<|Z8 _ (Zhj rfl rfl rfl rfl _ (Z63 Z4e))<|Z8 _ (Z0u rfl)<|Z00<|Zi ?_)
 revert h; refine Zt fun h=>?_
 subst h
 exact ⟨_,(.cons (.tmp rfl) .nil),rfl⟩
def Zfn (p0:LI):Option (Z21×Bool) :=
 bnd (p0.getD 31 0) fun z1 =>
 bnd (p0.getD 31 0) fun z2 =>
 bnd (Int.tmod z2 128) fun z3 =>
 bnd (Z2u p0 31 z3) fun l1 =>
 opt (Z8r l1) fun y1 =>
 br ((!y1)) (
 some ((⟨(replicate 10 0),(replicate 10 0),(replicate 10 0)⟩:Z21),false)
 ) (
 opt (Z5z l1) fun y2 =>
 opt (Zdi y2) fun y3 =>
 chk (imp (!(!y3.2)) (imp (decide (z1≥128)) ((Zaq y3.1).isSome))) <|
 br (((!y3.2)||((decide (z1≥128))&&((Zaq y3.1).getD false)))) (
 some ((⟨(replicate 10 0),(replicate 10 0),(replicate 10 0)⟩:Z21),false)
 ) (
 jn (fun (a1:LI)=>opt (Zby a1 y2) fun y4 =>
 some (y4,true)) fun k1=>br ((decide (z1≥128))) (
 opt (Zia y3.1) fun y5 =>
 k1 y5
 ) (
 k1 y3.1
 )
 )
 )
theorem Zn0 {W:World} {r:Z21×Bool} {p0:LI} (h:Zfn p0=some r)  :
    Calls Tryz.prog 70 [agg [b3' p0]].toArray W (Z36 W (.tuple #[agg [uA' r.1.gX,uA' r.1.gY,uA' r.1.gZ],.bool (r.2)])):=by
 unfold Zfn at h
 refine Zc mo ok70 rfl ?_
 refine Z0<|Z2<|Zg (Z0k (s:=[b3' p0]) rfl fun b1 u1=>Zg (Zv fun b2 u2=>Z7 rfl<|Z1<|Z0<|bH h fun z1 e1 h=>Z2<|Z6 _ (Z1s rfl rfl (by decide))<|Z6 _ (iz e1 (Z1y rfl .t1 rfl))<|Z6 _ (Z9 rfl rfl rfl)<|Z7 rfl<|Z1<|Z0<|bH h fun z2 e2 h=>bH h fun z3 e3 h=>bH h fun l1 g1 h=>Z2<|Z6 _ (Z1s rfl rfl (by decide))<|Z6 _ (iz e2 (Z1y rfl .t1 rfl))<|Z6 _ (iz e3 (Zdl rfl rfl (by decide)))<|Z6 _ (Z1s rfl rfl (by decide))<|Zg (Z85 (q:=[b3' l1]) (congrArg (fun z=>([b3' z]:List Seg)) g1.symm) rfl rfl rfl rfl .t1<|Z1<|Z0<|Z0<|oH h fun y1 f1 h=>Z2<|Z6 _ (Zy (p:=[b3' l1]) rfl .t1 rfl)<|Z6 _ (Z0b rfl (Zjc f1))<|Z6 _ (Zl0 rfl rfl)<|Z1<|Z02 h rfl (fun h=>?_) (fun h=>?_))))
 ·refine Z0<|Z2<|Z6 _ (Zct (q:=[uA' (replicate 10 0),uA' (replicate 10 0),uA' (replicate 10 0)]) BdR.nil)<|Zg (Zs (q:=[uA' (replicate 10 0),uA' (replicate 10 0),uA' (replicate 10 0)]) rfl rfl rfl rfl rfl .here<|Z7 rfl<|Z1<|Zi ?_)
  revert h; refine Zt fun h=>?_
  subst h
  exact ⟨_,(.cons (.agg rfl .here rfl) (.cons (.tmp rfl) .nil)),rfl⟩
 ·refine Ze<|Z0<|oH h fun y2 f2 h=>Z2<|Z6 _ (Zy (p:=[b3' l1]) rfl .t1 rfl)<|Z6 _ (Z0b rfl (Z9x f2))<|Zg (Zv fun b3 u3=>Zg (Zs (q:=[uA' y2]) rfl rfl rfl rfl rfl .here<|Z1<|Z0<|oH h fun y3 f3 h=>Z2<|Z6 _ (Zy (p:=[uA' y2]) rfl .here rfl)<|Z6 _ (Z0b rfl (Zh2 f3))<|Z7 rfl<|Z6 _ (Z2i rfl rfl)<|Z6 _ (Z2i rfl rfl)<|Zg (Zv fun b4 u4=>Zg (Zs (q:=[uA' y3.1]) rfl rfl rfl rfl rfl .here<|Z7 rfl<|Z1<|Z0<|Z0<|cH h fun c1 h=>Z2<|Z7 rfl<|Z6 _ (Zl0 rfl rfl)<|Z7 rfl<|Zhp rfl rfl rfl (fun hg1=>Z5h rfl _ (Z0u rfl) (Z5h rfl _ (Z0u rfl) (Z04e rfl (fun _ h=>by cases h; rfl) rfl rfl (fun hg2=>Z5h rfl _ (Zy (p:=[uA' y3.1]) rfl .here rfl) (Z5h rfl _ (Z0p rfl (fun _ _=>Zcn (getD_some (z:=false) (Zq8 (Zll c1 hg1) hg2)))) (Z5f))) (fun hg2=>rfl) rfl (Z5f)))) (fun hg1=>rfl) rfl<|Z1<|Z02 h rfl (fun h=>?_) (fun h=>?_)))))
  ·refine Z0<|Z2<|Z6 _ (Zct (q:=[uA' (replicate 10 0),uA' (replicate 10 0),uA' (replicate 10 0)]) BdR.nil)<|Zg (Zs (q:=[uA' (replicate 10 0),uA' (replicate 10 0),uA' (replicate 10 0)]) rfl rfl rfl rfl rfl .t2<|Z7 rfl<|Z1<|Zi ?_)
   revert h; refine Zt fun h=>?_
   subst h
   exact ⟨_,(.cons (.agg rfl .t2 rfl) (.cons (.tmp rfl) .nil)),rfl⟩
  ·refine Ze<|Z0<|Z0<|Z2<|Z7 rfl<|Z1<|jH h fun k1 q1 h=>Zm (G:=fun t m=>∃ (a1:LI),k1 a1=some r/\Fit [(2,pt' b2),(5,pt' b3),(6,pt' b4)] (ck b4 88 [uA' a1]::(ck b3 88 [uA' y2]::(ck b2 90 [uA' (replicate 10 0),uA' (replicate 10 0),uA' (replicate 10 0)]::(ck b1 29 [b3' l1] :: [])))) t m) ?_ ?_
   ·refine Z02 h rfl (fun h=>?_) (fun h=>?_)
    ·exact oH h fun y4 f4 h=>Z2<|Z6 _ (Zy (p:=[uA' y3.1]) rfl .here rfl)<|Z6 _ (Z0b rfl (Ze3 f4))<|Zg (Zs (q:=[uA' y4]) rfl rfl rfl rfl rfl .here<|Z1<|⟨y4,h,⟨⟨rfl,rfl,rfl,trivial⟩,(.o (.o (.o (.o .nil))))⟩⟩)
    ·exact Ze<|⟨y3.1,h,⟨⟨rfl,rfl,rfl,trivial⟩,(.o (.o (.o (.o .nil))))⟩⟩
   ·rintro t m ⟨a1,h,hF⟩
    refine Zk hF ?_
    clear hF
    subst q1
    refine Z0<|oH h fun y5 f5 h=>Z2<|Z6 _ (Zy (p:=[uA' a1]) rfl .here rfl)<|Z6 _ (Zy (p:=[uA' y2]) rfl .t1 rfl)<|Z6 _ (Z0b rfl (Zh3 f5))<|Zg (Zs (q:=[uA' y5.gX,uA' y5.gY,uA' y5.gZ]) rfl rfl rfl rfl rfl .t2<|Z7 rfl<|Z1<|Zi ?_)
    revert h; refine Zt fun h=>?_
    subst h
    exact ⟨_,(.cons (.agg rfl .t2 rfl) (.cons (.tmp rfl) .nil)),rfl⟩
def Z8s (p0:LI):Option Bool :=
 opt (Zvp (tk p0 0 32)) fun y1 =>
 opt (Zid ) fun y2 =>
 opt (Zhi y1 y2) fun y3 =>
 some y3
theorem Zjf {W:World} {r:Bool} {p0:LI} (h:Z8s p0=some r)  :
    Calls Tryz.prog 71 [agg [b3' p0]].toArray W (Z36 W (.bool (r))):=by
 unfold Z8s at h
 refine Zc mo ok71 rfl ?_
 refine Z0<|Z2<|Zg (Z0k (s:=[b3' p0]) rfl fun b1 u1=>Z7 rfl<|Z1<|Z0<|oH h fun y1 f1 h=>oH h fun y2 f2 h=>oH h fun y3 f3 h=>Z2<|Z6 _ (Ze8 rfl .no .no .no (by simp) (by decide))<|Zg (Z06 rfl (fun w hw=>Znp  f1 ((Z3q (s:=[b3' p0]) (N:=32) (k:=.u8) (base:=0) (lo:=0) (hi:=32) (mz:=32) .here rfl (by decide)) w hw)) fun v5 o1 R1=>?_))
 obtain ⟨_,w1,rfl,rfl,O1⟩:=R1
 refine Zg (Z06 rfl (fun w hw=>Zie  f2 ) fun v11 o2 R2=>?_)
 obtain ⟨_,w2,rfl,rfl,O2⟩:=R2
 refine Z6 _ (Z0p rfl (fun w hw=>Zk1 f3 ((Z0f O1 (.app .here)) w hw) ((Z0f O2 .here) w hw)))<|Z7 rfl<|Z1<|Zi ?_
 revert h; refine Zt fun h=>?_
 subst h
 exact ⟨_,(.cons (.tmp rfl) .nil),rfl⟩
def Zdg (p0:LI) (p1:Z21) (p2:LI):Option (Z21) :=
 opt (Znq p0 p1) fun y1 =>
 opt (Zdh p2) fun y2 =>
 opt (Zk2 y1 y2) fun y3 =>
 some y3
theorem Zm3 {W:World} {r:Z21} {p0:LI} {p1:Z21} {p2:LI} (h:Zdg p0 p1 p2=some r)  :
    Calls Tryz.prog 72 [agg [b3' p0],agg [uA' p1.gX,uA' p1.gY,uA' p1.gZ],agg [b3' p2]].toArray W (Z36 W (agg [uA' r.gX,uA' r.gY,uA' r.gZ])):=by
 unfold Zdg at h
 refine Zc mo ok72 rfl ?_
 refine Z0<|Z2<|Zg (Z0k (s:=[b3' p0]) rfl fun b1 u1=>Zg (Z0k (s:=[uA' p1.gX,uA' p1.gY,uA' p1.gZ]) rfl fun b2 u2=>Zg (Z0k (s:=[b3' p2]) rfl fun b3 u3=>Zg (Zv fun b4 u4=>Z1<|Z0<|oH h fun y1 f1 h=>oH h fun y2 f2 h=>oH h fun y3 f3 h=>Zr<|Zn _ (Zy (p:=[b3' p0]) rfl .t3 rfl)<|Zn _ (Zy (p:=[uA' p1.gX,uA' p1.gY,uA' p1.gZ]) rfl .t2 rfl)<|Z8 _ (Z0b rfl (Zm5 f1))<|Zn _ (Zy (p:=[b3' p2]) rfl .t1 rfl)<|Z8 _ (Z0b rfl (Zm4 f2))<|Z8 _ (Z0b rfl (Ze7 f3))<|Z1z rfl (Zs (q:=[uA' y3.gX,uA' y3.gY,uA' y3.gZ]) rfl rfl rfl rfl rfl .here<|Z00<|Zi ?_)))))
 revert h; refine Zt fun h=>?_
 subst h
 exact ⟨_,(.cons (.agg rfl .here rfl) .nil),rfl⟩
def Znr (p0:Z21):Option (Z21) :=
 opt (Zia p0.gX) fun y1 =>
 some (⟨y1,p0.gY,p0.gZ⟩:Z21)
theorem Zss {W:World} {r:Z21} {p0:Z21} (h:Znr p0=some r)  :
    Calls Tryz.prog 73 [agg [uA' p0.gX,uA' p0.gY,uA' p0.gZ]].toArray W (Z36 W (agg [uA' r.gX,uA' r.gY,uA' r.gZ])):=by
 unfold Znr at h
 refine Zc mo ok73 rfl ?_
 refine Z0<|Z2<|Zg (Z0k (s:=[uA' p0.gX,uA' p0.gY,uA' p0.gZ]) rfl fun b1 u1=>Zg (Zv fun b2 u2=>Z1<|Z0<|oH h fun y1 f1 h=>Zr<|Z8 _ (Z4f rfl)<|Z8 _ (Z4f rfl)<|Z8 _ (Z4f rfl)<|Zn _ (Zy (p:=[uA' p0.gX]) rfl .t1 rfl)<|Z8 _ (Z0b rfl (Ze3 f1))<|Zn _ (Zy (p:=[uA' p0.gY]) rfl .t1 rfl)<|Zn _ (Zy (p:=[uA' p0.gZ]) rfl .t1 rfl)<|Z8 _ (Zct (q:=[uA' y1,uA' p0.gY,uA' p0.gZ]) (.agg rfl rfl rfl (.agg rfl rfl rfl (.agg rfl rfl rfl BdR.nil))))<|Z1z rfl (Zs (q:=[uA' y1,uA' p0.gY,uA' p0.gZ]) rfl rfl rfl rfl rfl .here<|Z00<|Zi ?_)))
 revert h; refine Zt fun h=>?_
 subst h
 exact ⟨_,(.cons (.agg rfl .here rfl) .nil),rfl⟩
def Zbz (p0:LI) (p1:LI) (p2:LI):Option Bool :=
 opt (Zjh p2 false) fun y1 =>
 opt (Zjh p2 true) fun y2 =>
 opt (Zfn p0) fun y3 =>
 chk (imp (!(!y3.2)) ((Z8s y2).isSome)) <|
 br (((!y3.2)||(!((Z8s y2).getD false)))) (
 some false
 ) (
 jn (fun (a1:LI)=>opt (Znr y3.1) fun y4 =>
 opt (Zdg a1 y4 y2) fun y5 =>
 opt (Zfo y5) fun y6 =>
 some (ieq 32 y6 y1)) fun k1=>opt (Zfr (tk y1 0 32) (tk p0 0 32) p1) fun y7 =>
 opt (Zqn y7) fun y8 =>
 opt (Zde y8) fun y9 =>
 k1 y9
 )
theorem Zn3 {W:World} {r:Bool} {p0:LI} {p1:LI} {p2:LI} {v1:Value} (h:Zbz p0 p1 p2=some r) (hG:Globs W) (A1:RdSl (El.int .u8) W v1 p1) :
    Calls Tryz.prog 26 [agg [b3' p0],v1,agg [b6' p2]].toArray W (Z36 W (.bool (r))):=by
 unfold Zbz at h
 refine Zc mo ok26 rfl ?_
 refine Z0<|Z2<|Zg (Z0k (s:=[b3' p0]) rfl fun b1 u1=>Zg (Z0k (s:=[b6' p2]) rfl fun b2 u2=>Z7 rfl<|Z1<|Z0<|oH h fun y1 f1 h=>Z2<|Z6 _ (Zy (p:=[b6' p2]) rfl .here rfl)<|Z6 _ (Z0b rfl (Zk4 f1))<|Zg (Zv fun b3 u3=>Zg (Zs (q:=[b3' y1]) rfl rfl rfl rfl rfl .here<|Z1<|Z0<|oH h fun y2 f2 h=>Z2<|Z6 _ (Zy (p:=[b6' p2]) rfl .t1 rfl)<|Z6 _ (Z0b rfl (Zk4 f2))<|Zg (Zv fun b4 u4=>Zg (Zs (q:=[b3' y2]) rfl rfl rfl rfl rfl .here<|Z1<|Z0<|oH h fun y3 f3 h=>Z2<|Z6 _ (Zy (p:=[b3' p0]) rfl .t3 rfl)<|Z6 _ (Z0b rfl (Zn0 f3))<|Z7 rfl<|Z6 _ (Z2i rfl rfl)<|Z6 _ (Z2i rfl rfl)<|Zg (Zv fun b5 u5=>Zg (Zs (q:=[uA' y3.1.gX,uA' y3.1.gY,uA' y3.1.gZ]) rfl rfl rfl rfl rfl .here<|Z7 rfl<|Z1<|Z0<|Z0<|cH h fun c1 h=>Z2<|Z7 rfl<|Z6 _ (Zl0 rfl rfl)<|Z7 rfl<|Zhp rfl rfl rfl (fun hg1=>Z5h rfl _ (Zy (p:=[b3' y2]) rfl .t1 rfl) (Z5h rfl _ (Z0p rfl (fun _ _=>Zjf (getD_some (z:=false) (Zll c1 hg1)))) (Z5h rfl _ (Zl0 rfl rfl) (Z5f)))) (fun hg1=>rfl) rfl<|Z1<|Z02 h rfl (fun h=>?_) (fun h=>?_)))))))))
 ·refine Z0<|Z2<|Z7 rfl<|Z1<|Zi ?_
  revert h; refine Zt fun h=>?_
  subst h
  exact ⟨_,(.cons (.tmp rfl) .nil),rfl⟩
 ·refine Ze<|Z0<|jH h fun k1 q1 h=>Zm (G:=fun t m=>∃ (a1:LI) (b6:Nat),k1 a1=some r/\Fit [(7,pt' b3),(8,pt' b4),(9,pt' b5),(11,pt' b6)] (ck b6 74 [b3' a1]::(ck b5 90 [uA' y3.1.gX,uA' y3.1.gY,uA' y3.1.gZ]::(ck b4 74 [b3' y2]::(ck b3 22 [b3' y1]::(ck b2 27 [b6' p2]::(ck b1 29 [b3' p0] :: [])))))) t m) ?_ ?_
  ·refine oH h fun y4 f4 h=>oH h fun y5 f5 h=>oH h fun y6 f6 h=>Zr<|Z8 _ (Ze8 rfl .no .no .no (by simp) (by decide))<|Z8 _ (Ze8 rfl .no .no .no (by simp) (by decide))<|Z8 _ (Z0u rfl)<|Zrs (Z06 rfl (fun w hw=>Zh4  f4 ((Z3q (s:=[b3' y1]) (N:=32) (k:=.u8) (base:=0) (lo:=0) (hi:=32) (mz:=32) .t2 rfl (by decide)) w hw) ((Z3q (s:=[b3' p0]) (N:=32) (k:=.u8) (base:=0) (lo:=0) (hi:=32) (mz:=32) .t4 rfl (by decide)) w hw) ((Z0d A1 Z0h) w hw)) fun v32 o1 R1=>?_) (Zv fun b7 u6=>?_)
   ·obtain ⟨_,w1,rfl,rfl,O1⟩:=R1
    refine ⟨(by repeat (first | exact Sup.refl _ | apply Sup.cons | apply Sup.app)),Zrs (ef_q _ (Z0p rfl (fun w hw=>Zhe f5 (hG.at hw (by simp)) ((Z0f O1 .here) w hw))) ⟨(by repeat (first | exact Sup.refl _ | apply Sup.cons | apply Sup.app)),?_⟩) (Zv fun b7 u6=>⟨(by repeat (first | exact Sup.refl _ | apply Sup.cons | apply Sup.app)),?_⟩)⟩
    ·exact Z8 _ (Z0b rfl (Zco f6))<|Z6o (Zv fun b7 u6=>⟨(by repeat (first | exact Sup.refl _ | apply Sup.cons | apply Sup.app)),Z1z rfl (Zs (q:=[b3' y6]) rfl rfl rfl rfl rfl .here (Z00 (⟨y6,b7,h,⟨⟨rfl,rfl,rfl,rfl,trivial⟩,(.o (.one (.app .here) (.one (.app .here) (.one (.app .here) (.one (.app .here) (.one (.app .here) .nil))))))⟩⟩)))⟩)
    ·exact Zwe _ (Z0p rfl (fun w hw=>Zhe f5 (hG.at hw (by simp)) ((Z0f O1 .t1) w hw))) (Z8 _ (Z0b rfl (Zco f6)) (Z1z rfl (Zs (q:=[b3' y6]) rfl rfl rfl rfl rfl .here (Z00 (⟨y6,b7,h,⟨⟨rfl,rfl,rfl,rfl,trivial⟩,(.o (.one (.app .here) (.one (.app .here) (.one (.app .here) (.one (.app .here) (.one (.app .here) .nil))))))⟩⟩))))) (by repeat (first | exact Sup.refl _ | apply Sup.cons | apply Sup.app))
   ·refine ⟨(by repeat (first | exact Sup.refl _ | apply Sup.cons | apply Sup.app)),Z6o (Z06 rfl (fun w hw=>Zh4  f4 ((Z3q (s:=[b3' y1]) (N:=32) (k:=.u8) (base:=0) (lo:=0) (hi:=32) (mz:=32) .t3 rfl (by decide)) w hw) ((Z3q (s:=[b3' p0]) (N:=32) (k:=.u8) (base:=0) (lo:=0) (hi:=32) (mz:=32) .t5 rfl (by decide)) w hw) ((Z0d A1 Z0h) w hw)) fun v32 o1 R1=>?_)⟩
    obtain ⟨_,w1,rfl,rfl,O1⟩:=R1
    exact ⟨(by repeat (first | exact Sup.refl _ | apply Sup.cons | apply Sup.app)),Zwe _ (Z0p rfl (fun w hw=>Zhe f5 (hG.at hw (by simp)) ((Z0f O1 .here) w hw))) (Z8 _ (Z0b rfl (Zco f6)) (Z1z rfl (Zs (q:=[b3' y6]) rfl rfl rfl rfl rfl (.app .here) (Z00 (⟨y6,b7,h,⟨⟨rfl,rfl,rfl,rfl,trivial⟩,(.one (.app .here) (.one (.app .here) (.one (.app .here) (.one (.app .here) (.one (.app .here) (.one (.app .here) .nil))))))⟩⟩))))) (by repeat (first | exact Sup.refl _ | apply Sup.cons | apply Sup.app))⟩
  ·rintro t m ⟨a1,b6,h,hF⟩
   refine Zk hF ?_
   clear hF
   subst q1
   refine Z0<|oH h fun y7 f7 h=>oH h fun y8 f8 h=>Zr<|Zn _ (Zy (p:=[b3' a1]) rfl .here rfl)<|Zn _ (Zy (p:=[uA' y3.1.gX,uA' y3.1.gY,uA' y3.1.gZ]) rfl .t1 rfl)<|Z8 _ (Z0b rfl (Zss f7))<|Zn _ (Zy (p:=[b3' y2]) rfl .t2 rfl)<|Z8 _ (Z0b rfl (Zm3 f8))<|Z6o (Zv fun b8 u7=>⟨(by repeat (first | exact Sup.refl _ | apply Sup.cons | apply Sup.app)),Z1z rfl (Zs (q:=[uA' y8.gX,uA' y8.gY,uA' y8.gZ]) rfl rfl rfl rfl rfl .here (Z00 (Z0 (oH h fun y9 f9 h=>Zr (Zn _ (Zy (p:=[uA' y8.gX,uA' y8.gY,uA' y8.gZ]) rfl .here rfl) (Z8 _ (Z0b rfl (Zn1 f9)) (Zn _ (Zy (p:=[b3' y1]) rfl .t4 rfl) (Z8 _ (Zhj rfl rfl rfl rfl _ (Z63 Z4e)) (Z8 _ (Z0u rfl) (Z00 (Zi ?_)))))))))))⟩)
   revert h; refine Zt fun h=>?_
   subst h
   exact ⟨_,(.cons (.tmp rfl) .nil),rfl⟩
structure Z1x where
  gbytes:LI
  gfault:Int
def Zac:Option (Z1x) :=
 some (⟨[],0⟩:Z1x)
theorem Zho {W:World} {r:Z1x} (h:Zac=some r)  :
    Calls Tryz.prog 74 [].toArray W (Zc6 W [] (fun v Ms=>∃ (b1:Nat) (T0:TypeId) (u0:Value) (M1:List Zf),v = pt' b1/\Ms = [.one (ck b1 T0 [.one (u0),.one (.int .i64 (r.gfault))]),.all M1]/\Z0m (El.int .u8) u0 M1 r.gbytes)):=by
 unfold Zac at h
 refine Z04 mo ok74 rfl (Zh8 _) ?_
 refine Z0<|Z2<|Z7 rfl<|Z1<|Z0<|Z2<|Z6 _ (Zct (q:=[.one (.slice none 0 0),.one (.int .i64 (0))]) BdR.nil)<|Zg (Z0k (s:=[.one (.slice none 0 0),.one (.int .i64 (0))]) rfl fun b2 hb1=>Z7 rfl<|Z1<|Zi ?_)
 revert h; refine Zt fun h=>?_
 subst h
 exact ⟨_,_,(.cons (.tmp rfl) .nil),(.o (.no .nil)),⟨_,rfl,⟨b2,178,(.slice none 0 0),[],rfl,rfl,Z39⟩⟩⟩
def Z5v (p0:Z1x) (p1:LI):Option (Z1x) :=
 br ((p0.gfault==0)) (
 chk (decide ((p0.gbytes.length+p1.length)*1<=140737488355328)) <|
 bnd (p0.gbytes++p1) fun l1 =>
 some (⟨l1,p0.gfault⟩:Z1x)
 ) (
 some p0
 )
theorem Zb6 {W:World} {r:Z1x} {p0:Z1x} {p1:LI} {v0:Value} {M1:List Zf} {v1:Value} {b:Nat} {T:TypeId} (h:Z5v p0 p1=some r) (h0:Sat W (b::M1.map (·.b)) (ck b T [.one (v0),.one (.int .i64 (p0.gfault))]::(M1 ++ [])) W) (O1:Z0m (El.int .u8) v0 M1 p0.gbytes) (A1:RdSl (El.int .u8) W v1 p1/\Zad v1 p1 (b::M1.map (·.b))) :
    Calls Tryz.prog 147 [.pointer (some ⟨b,0,none⟩),v1].toArray W (Zc6 W (b::M1.map (·.b)) (fun v Ms=>∃ (uw:Value) (Mw:List Zf),v = .tuple #[]/\Ms = [.one (ck b T [.one (uw),.one (.int .i64 (r.gfault))]),.all Mw]/\Z0m (El.int .u8) uw Mw r.gbytes)):=by
 unfold Z5v at h
 refine Z04 mo Z0nl rfl h0 ?_
 refine Z0<|Z2<|Z7 rfl<|Z6 _ (Z5s rfl)<|Z6 _ (Z4f rfl)<|Z6 _ (Z1y rfl .here rfl)<|Z6 _ (Z9 rfl rfl rfl)<|Z1<|Z02 h rfl (fun h=>?_) (fun h=>?_)
 ·refine cH h fun c1 h=>bH h fun l1 g1 h=>Z2<|Z7 rfl<|Z7 rfl<|Z6 _ (Z5s rfl)<|Z6 _ (Z4f rfl)<|Z6 _ (Z1y rfl .here rfl)<|Z7 rfl<|Zg (Z38 (E:=(El.int .u8)) g1 rfl O1 .t1 rfl (Z0d A1.1 A1.2) c1 fun v6 w1 O2=>Z6 _ (Z5s rfl)<|Z6 _ (Z4f rfl)<|Zg (Zb4 (q:=[.one (v6),.one (.int .i64 (p0.gfault))]) rfl rfl (Zkp.one1 (Z0m.isSl O2)) rfl (.app .here)<|Z1 ?_))
  revert h; refine Zt fun h=>?_
  subst h
  exact ⟨_,_,.nil,(.one (.app .here) (.all .here .nil)),⟨_,rfl,⟨v6,w1,rfl,rfl,O2⟩⟩⟩
 ·refine Ze ?_
  revert h; refine Zt fun h=>?_
  subst h
  exact ⟨_,_,.nil,(.o (.all .here .nil)),⟨_,rfl,⟨v0,M1,rfl,rfl,O1⟩⟩⟩
def Z4m (p0:Z1x) (p1:LI):Option (Z1x) :=
 opt (Z5v p0 p1) fun y1 =>
 some y1
theorem Z9q {W:World} {r:Z1x} {p0:Z1x} {p1:LI} {v0:Value} {M1:List Zf} {v1:Value} {b:Nat} {T:TypeId} (h:Z4m p0 p1=some r) (h0:Sat W (b::M1.map (·.b)) (ck b T [.one (v0),.one (.int .i64 (p0.gfault))]::(M1 ++ [])) W) (O1:Z0m (El.int .u8) v0 M1 p0.gbytes) (A1:RdSl (El.int .u8) W v1 p1/\Zad v1 p1 (b::M1.map (·.b))) :
    Calls Tryz.prog 75 [.pointer (some ⟨b,0,none⟩),v1].toArray W (Zc6 W (b::M1.map (·.b)) (fun v Ms=>∃ (uw:Value) (Mw:List Zf),v = .tuple #[]/\Ms = [.one (ck b T [.one (uw),.one (.int .i64 (r.gfault))]),.all Mw]/\Z0m (El.int .u8) uw Mw r.gbytes)):=by
 unfold Z4m at h
 refine Z04 mo ok75 rfl h0 ?_
 refine oH h fun y1 f1 h=>Z2<|Z7 rfl<|Z7 rfl<|Zg (Z3l (mS:=_::M1) rfl (Zd6 .here .here) (fun w hw=>Zb6  f1 (Z9h hw (Zd6 .here .here)) O1 ⟨(Z0d A1.1 A1.2) w hw,(Zjv (Zn8 (E:=(El.int .u8)) A1.1 A1.2 .here hw) (Zn9 (E:=(El.int .u8)) A1.1 A1.2 .t1 hw))⟩) fun v3 o1 R1=>?_)
 obtain ⟨v5,w1,rfl,rfl,O2⟩:=R1
 refine Z1 ?_
 revert h; refine Zt fun h=>?_
 subst h
 exact ⟨_,_,.nil,(.o (.all .here .nil)),⟨_,rfl,⟨v5,w1,rfl,rfl,O2⟩⟩⟩
end Go.Proofs.YtiflckckekjbnaaGreatDoor
namespace Go.Proofs.YtiflckckekjbnaaGreatDoor
open Go Go.Sx Go.RowKit
open Go.IntKind (wrap)
set_option linter.all false
set_option maxHeartbeats 400000
set_option maxRecDepth 100000
def Ziq (p0:Int):Option ((Bool×LI)) :=
 br (((decide (p0<1))||(decide (p0>255)))) (
 some (true,[])
 ) (
 bnd (wrap .u8 p0) fun z1 =>
 chk (decide (0<([70,66,1,z1]:LI).length)) <|
 some (false,([70,66,1,z1]:LI))
 )
theorem Zn5 {W:World} {r:(Bool×LI)} {p0:Int} (h:Ziq p0=some r)  :
    Calls Tryz.prog 76 [.int .i64 (p0)].toArray W (Zc6 W [] (fun v Ms=>∃ (u0:Value) (M1:List Zf),v=u0/\Ms = [.all M1]/\Z0m (El.int .u8) u0 M1 r.2/\Zlm u0=r.1)):=by
 unfold Ziq at h
 refine Z04 mo ok76 rfl (Zh8 _) ?_
 refine Z0<|Z2<|Z7 rfl<|Z1<|Z0<|Z0<|Z2<|Z7 rfl<|Z6 _ (Z9 rfl rfl rfl)<|Z7 rfl<|Zhp rfl rfl rfl (fun hg1=>Z5h rfl _ (Z0u rfl) (Z5h rfl _ (Z9 rfl rfl rfl) (Z5f))) (fun hg1=>rfl) rfl<|Z1<|Z02 h rfl (fun h=>?_) (fun h=>?_)
 ·refine Z0<|Z2<|Z7 rfl<|Z1<|Zi ?_
  revert h; refine Zt fun h=>?_
  subst h
  exact ⟨_,_,(.cons (.tmp rfl) .nil),(.no .nil),⟨_,rfl,⟨(.slice none 0 0),[],rfl,rfl,Z39,rfl⟩⟩⟩
 ·refine Ze<|Z0<|bH h fun z1 e1 h=>Z2<|Z7 rfl<|Z6 _ (iz e1 (Z4k rfl))<|Zg (Z5m (E:=(El.int .u8)) (xs:=[70,66,1,z1]) (.one rfl rfl rfl (.one rfl rfl rfl (.one rfl rfl rfl (.one rfl rfl rfl BdR.nil)))) (.cons (p:=[.one (.int .u8 (70))]) rfl (.cons (p:=[.one (.int .u8 (66))]) rfl (.cons (p:=[.one (.int .u8 (1))]) rfl (.cons (p:=[.one (.int .u8 (z1))]) rfl .nil)))) rfl fun v7 w1 O1=>Z7 rfl<|Z1<|Zi<|cH h fun c1 h=>?_)
  revert h; refine Zt fun h=>?_
  subst h
  exact ⟨_,_,(.cons (.tmp rfl) .nil),(.all .here .nil),⟨_,rfl,⟨v7,w1,rfl,rfl,O1,(Shp.notnil (Shp.own O1) c1)⟩⟩⟩
def Z7o (k1:Int->Option Int) (k2:Int->Int->Option Int) (i1:Int) (i2:Int):Option Int :=
 br ((i2 != 0)) (
 bnd (wrap .i64 (i1+1)) fun z1 =>
 bnd (Zq .u32 i2 1) fun z2 =>
 k2 z1 z2
 ) (
 k1 i1
 )
def Z4c (k1:Int->Option Int):Nat->Int->Int->Option Int
  | 0,_,_=>none
  | n+1,i1,i2=>Z7o k1 (Z4c k1 n) i1 i2
def Z9r:Option Int :=
 bnd (Z4 .xor .u32 4294967295 0) fun z1 =>
 jn (fun (i1:Int)=>some i1) fun k1=>Z4c k1 big 0 z1
theorem Zeq {W:World} {r:Int} (h:Z9r=some r)  :
    Calls Tryz.prog 199 [].toArray W (Z36 W (.int .i64 (r))):=by
 unfold Z9r at h
 refine Zc mo Z0ou rfl ?_
 refine Z0<|Z2<|Z7 rfl<|Z1<|Z0<|Z2<|Z7 rfl<|Z1<|Z0<|Z0<|bH h fun z1 e1 h=>Z2<|Z6 _ (Z4k rfl)<|Z6 _ (iz e1 (Zl0 rfl rfl))<|Z7 rfl<|Z1<|jH h fun k1 q1 h=>Zm (G:=fun t m=>∃ (i1:Int),k1 i1=some r/\Fit [(1,.int .i64 (i1))] [] t m) ?_ ?_
 ·refine Za<|Zp (fun n1 t m=>∃ (i2:Int) (i3:Int),Z4c k1 n1 i2 i3=some r/\Fit [(1,.int .i64 (i2)),(2,.int .u32 (i3))] [] t m) big ?_ ?_
  ·exact ⟨0,z1,h,⟨⟨rfl,rfl,trivial⟩,.nil⟩⟩
  ·rintro n1 t m ⟨i2,i3,h,hF⟩
   refine Zk hF ?_
   clear hF
   rcases n1 with _ | n1
   · exact Z0a h
   have h:Z7o k1 (Z4c k1 n1) i2 i3=some r:=h
   unfold Z7o at h
   obtain ⟨k2,q2⟩ : ∃ k,k=Z4c k1 n1:=⟨_,rfl⟩
   try rw [<- q2] at h
   refine Z0<|Z0<|Z2<|Z7 rfl<|Z6 _ (Z9 rfl rfl rfl)<|Z1<|Z02 h rfl (fun h=>?_) (fun h=>?_)
   ·refine Ze<|Z0<|Za<|bH h fun z2 e2 h=>Z2<|Z7 rfl<|Z6 _ (iz e2 (Z9 rfl rfl rfl))<|Z7 rfl<|Z1<|bH h fun z3 e3 h=>Z2<|Z7 rfl<|Z6 _ (iz e3 (Z5g rfl rfl (by decide)))<|Z7 rfl<|Z1 ?_
    rw [q2] at h
    exact ⟨n1,Nat.lt_succ_self _,z2,z3,h,⟨⟨rfl,rfl,trivial⟩,.nil⟩⟩
   ·exact Zx _ rfl<|⟨i2,h,⟨⟨rfl,trivial⟩,.nil⟩⟩
 ·rintro t m ⟨i1,h,hF⟩
  refine Zk hF ?_
  clear hF
  subst q1
  refine Z0<|Z2<|Z7 rfl<|Z7 rfl<|Z1<|Zi ?_
  revert h; refine Zt fun h=>?_
  subst h
  exact ⟨_,(.cons (.tmp rfl) .nil),rfl⟩
def Z6l (k1:(LI)->OL) (k2:Int->(LI)->Int->OL) (i1:Int) (l1:LI) (i2:Int):OL :=
 br ((decide (i2≥0))) (
 bnd (wrap .u8 i1) fun z1 =>
 chk (inB i2 l1.length) <|
 bnd (Zdu 0 l1 (i2).toNat z1) fun l2 =>
 bnd (Zq .u32 i1 8) fun z2 =>
 bnd (wrap .i64 (i2-1)) fun z3 =>
 k2 z2 l2 z3
 ) (
 k1 l1
 )
def Z3a (k1:(LI)->OL):Nat->Int->(LI)->Int->OL
  | 0,_,_,_=>none
  | n+1,i1,l1,i2=>Z6l k1 (Z3a k1 n) i1 l1 i2
def Z4n (p0:Int):OL :=
 opt (Z9r) fun y1 =>
 bnd (wrap .i64 (Int.tdiv y1 8)) fun z1 =>
 chk (mkB 1 z1 z1) <|
 bnd (wrap .i64 (((List.replicate (z1).toNat 0:LI).length:Int)-1)) fun z2 =>
 jn (fun (l1:LI)=>some l1) fun k1=>Z3a k1 big p0 (List.replicate (z1).toNat 0:LI) z2
theorem Zcu {W:World} {r:(LI)} {p0:Int} (h:Z4n p0=some r)  :
    Calls Tryz.prog 148 [.int .u32 (p0)].toArray W (Zc6 W [] (fun v Ms=>∃ (u0:Value) (M1:List Zf),v=u0/\Ms = [.all M1]/\Z0m (El.int .u8) u0 M1 r)):=by
 unfold Z4n at h
 refine Z04 mo Z0nm rfl (Zh8 _) ?_
 refine Z0<|Z2<|Z7 rfl<|Z1<|Z0<|oH h fun y1 f1 h=>bH h fun z1 e1 h=>cH h fun c1 h=>Z2<|Z6 _ (Z0b rfl (Zeq f1))<|Z6 _ (iz e1 (Zb8 rfl rfl (by decide)))<|Zg (Zj0 (E:=(El.int .u8)) rfl rfl rfl c1 fun v6 w1 O1=>Z7 rfl<|Z1<|Z0<|Z0<|bH h fun z2 e2 h=>Z2<|Z7 rfl<|Z6 _ (Z22 rfl (Shp.own O1))<|Z6 _ (iz e2 (Z9 rfl rfl rfl))<|Z7 rfl<|Z1<|jH h fun k1 q1 h=>Zm (G:=fun t m=>∃ (l1:LI) (v61:Value) (w2:List Zf),k1 l1=some r/\Z0m (El.int .u8) v61 w2 l1/\Fit [(3,v61)] (w2 ++ []) t m) ?_ ?_)
 ·refine Za<|Zp (fun n1 t m=>∃ (i1:Int) (l2:LI) (i2:Int) (v97:Value) (w3:List Zf),Z3a k1 n1 i1 l2 i2=some r/\Z0m (El.int .u8) v97 w3 l2/\Fit [(0,.int .u32 (i1)),(3,v97),(4,.int .i64 (i2))] (w3 ++ []) t m) big ?_ ?_
  ·exact ⟨p0,(List.replicate (z1).toNat 0:LI),z2,v6,w1,h,O1,⟨⟨rfl,rfl,rfl,trivial⟩,(.all .here .nil)⟩⟩
  ·rintro n1 t m ⟨i1,l2,i2,v97,w3,h,O2,hF⟩
   refine Zk hF ?_
   clear hF
   rcases n1 with _ | n1
   · exact Z0a h
   have h:Z6l k1 (Z3a k1 n1) i1 l2 i2=some r:=h
   unfold Z6l at h
   obtain ⟨k2,q2⟩ : ∃ k,k=Z3a k1 n1:=⟨_,rfl⟩
   try rw [<- q2] at h
   refine Z0<|Z0<|Z2<|Z7 rfl<|Z6 _ (Z9 rfl rfl rfl)<|Z1<|Z02 h rfl (fun h=>?_) (fun h=>?_)
   ·refine Ze<|Z0<|Za<|Z0<|bH h fun z3 e3 h=>cH h fun c2 h=>bH h fun l3 g1 h=>Z2<|Z7 rfl<|Z7 rfl<|Z7 rfl<|Z6 _ (iz e3 (Z4k rfl))<|Z6 _ (Z2t rfl rfl (Shp.own O2) c2)<|Zg (Zhz (E:=(El.int .u8)) g1 O2 .here rfl rfl rfl (Z03 c2) fun w4 O3=>Z1<|bH h fun z4 e4 h=>Z2<|Z7 rfl<|Z6 _ (iz e4 (Z5g rfl rfl (by decide)))<|Z7 rfl<|Z1<|bH h fun z5 e5 h=>Z2<|Z7 rfl<|Z6 _ (iz e5 (Z9 rfl rfl rfl))<|Z7 rfl<|Z1 ?_)
    rw [q2] at h
    exact ⟨n1,Nat.lt_succ_self _,z4,l3,z5,v97,w4,h,O3,⟨⟨rfl,rfl,rfl,trivial⟩,(.all .here .nil)⟩⟩
   ·exact Zx _ rfl<|⟨l2,v97,w3,h,O2,⟨⟨rfl,trivial⟩,(.all .here .nil)⟩⟩
 ·rintro t m ⟨l1,v61,w2,h,O4,hF⟩
  refine Zk hF ?_
  clear hF
  subst q1
  refine Z0<|Z2<|Z7 rfl<|Z7 rfl<|Z1<|Zi ?_
  revert h; refine Zt fun h=>?_
  subst h
  exact ⟨_,_,(.cons (.tmp rfl) .nil),(.all .here .nil),⟨_,rfl,⟨v61,w2,rfl,rfl,O4⟩⟩⟩
def Z9l (p0:Z1x) (p1:Int):Option (Z1x) :=
 opt (Z4n p1) fun y1 =>
 opt (Z5v p0 y1) fun y2 =>
 some y2
theorem Zgw {W:World} {r:Z1x} {p0:Z1x} {p1:Int} {v0:Value} {M1:List Zf} {b:Nat} {T:TypeId} (h:Z9l p0 p1=some r) (h0:Sat W (b::M1.map (·.b)) (ck b T [.one (v0),.one (.int .i64 (p0.gfault))]::(M1 ++ [])) W) (O1:Z0m (El.int .u8) v0 M1 p0.gbytes) :
    Calls Tryz.prog 77 [.pointer (some ⟨b,0,none⟩),.int .u32 (p1)].toArray W (Zc6 W (b::M1.map (·.b)) (fun v Ms=>∃ (uw:Value) (Mw:List Zf),v = .tuple #[]/\Ms = [.one (ck b T [.one (uw),.one (.int .i64 (r.gfault))]),.all Mw]/\Z0m (El.int .u8) uw Mw r.gbytes)):=by
 unfold Z9l at h
 refine Z04 mo ok77 rfl h0 ?_
 refine oH h fun y1 f1 h=>oH h fun y2 f2 h=>Z2<|Z7 rfl<|Z7 rfl<|Zg (Z06 rfl (fun w hw=>Zcu  f1 ) fun v3 o1 R1=>?_)
 obtain ⟨_,w1,rfl,rfl,O2⟩:=R1
 refine Zg (Z3l (mS:=_::M1) rfl (Zd6 (.app .here) (.app .here)) (fun w hw=>Zb6  f2 (Z9h hw (Zd6 (.app .here) (.app .here))) O1 ⟨(Z0f O2 .here) w hw,(Zjv (Zew (E:=(El.int .u8)) O2 .here .here hw) (Ziv (E:=(El.int .u8)) O2 .here .t1 hw))⟩) fun v9 o2 R2=>?_)
 obtain ⟨v11,w2,rfl,rfl,O3⟩:=R2
 refine Z1 ?_
 revert h; refine Zt fun h=>?_
 subst h
 exact ⟨_,_,.nil,(.o (.all .here .nil)),⟨_,rfl,⟨v11,w2,rfl,rfl,O3⟩⟩⟩
def Z83 (p0:Z1x):Option ((LI)×Int×Z1x) :=
 br ((p0.gfault != 0)) (
 some ([],p0.gfault,p0)
 ) (
 chk (decide ((([]:LI).length+p0.gbytes.length)*1<=140737488355328)) <|
 bnd (([]:LI)++p0.gbytes) fun l1 =>
 some (l1,0,p0)
 )
theorem Zg3 {W:World} {r:(LI)×Int×Z1x} {p0:Z1x} {v0:Value} {M1:List Zf} {b:Nat} {T:TypeId} (h:Z83 p0=some r) (h0:Sat W (b::M1.map (·.b)) (ck b T [.one (v0),.one (.int .i64 (p0.gfault))]::(M1 ++ [])) W) (O1:Z0m (El.int .u8) v0 M1 p0.gbytes) :
    Calls Tryz.prog 78 [.pointer (some ⟨b,0,none⟩)].toArray W (Zc6 W (b::M1.map (·.b)) (fun v Ms=>∃ (u0:Value) (M1:List Zf) (uw:Value) (Mw:List Zf),v = .tuple #[u0,.int .i64 (r.2.1)]/\Ms = [.all M1,.one (ck b T [.one (uw),.one (.int .i64 (r.2.2.gfault))]),.all Mw]/\Z0m (El.int .u8) u0 M1 r.1/\Z0m (El.int .u8) uw Mw r.2.2.gbytes)):=by
 unfold Z83 at h
 refine Z04 mo ok78 rfl h0 ?_
 refine Z0<|Z2<|Z7 rfl<|Z7 rfl<|Z1<|Z0<|Z0<|Z2<|Z7 rfl<|Z6 _ (Z5s rfl)<|Z6 _ (Z4f rfl)<|Z6 _ (Z1y rfl .here rfl)<|Z6 _ (Z9 rfl rfl rfl)<|Z1<|Z02 h rfl (fun h=>?_) (fun h=>?_)
 ·refine Z0<|Zr<|Z8 _ (Z0u rfl)<|Z8 _ (Z5s rfl)<|Z8 _ (Z4f rfl)<|Z8 _ (Z0u rfl)<|Zn _ (Z1y rfl .here rfl)<|Z8 _ (Z0u rfl)<|Z00<|Zi ?_
  revert h; refine Zt fun h=>?_
  subst h
  exact ⟨_,_,(.cons (.tmp rfl) (.cons (.tmp rfl) .nil)),(.no (.o (.all .here .nil))),⟨_,rfl,⟨(.slice none 0 0),[],v0,M1,rfl,rfl,Z39,O1⟩⟩⟩
 ·refine Ze<|Z0<|cH h fun c1 h=>bH h fun l1 g1 h=>Z2<|Zg (Z5m (E:=(El.int .u8)) (xs:=[]) BdR.nil .nil rfl fun v6 w1 O2=>Z7 rfl<|Z6 _ (Z5s rfl)<|Z6 _ (Z4f rfl)<|Z6 _ (Z1y rfl (.app .here) rfl)<|Zg (Z38 (E:=(El.int .u8)) g1 rfl O2 .here rfl (Z0f O1 (.app .t1)) c1 fun v11 w2 O3=>Z7 rfl<|Z7 rfl<|Z1<|Zi ?_))
  revert h; refine Zt fun h=>?_
  subst h
  exact ⟨_,_,(.cons (.tmp rfl) (.cons (.tmp rfl) .nil)),(.all .here (.o (.all .here .nil))),⟨_,rfl,⟨v11,w2,v0,M1,rfl,rfl,O3,O1⟩⟩⟩
structure api_Link where
  gEpoch:Int
  gKey:LI
  gSig:LI
def api_Link_z:api_Link:=⟨0,(List.replicate 32 0),(List.replicate 64 0)⟩
def Zdm (p0:api_Link):Option ((Bool×LI)) :=
 br (((decide (p0.gEpoch<1))||(decide (p0.gEpoch>64)))) (
 some (true,[])
 ) (
 opt (Zac ) fun y1 =>
 opt (Ziq 11) fun y2 =>
 opt (Z4m y1 y2.2) fun y3 =>
 bnd (wrap .u32 p0.gEpoch) fun z1 =>
 opt (Z9l y3 z1) fun y4 =>
 opt (Z4m y4 (tk p0.gKey 0 32)) fun y5 =>
 opt (Z83 y5) fun y6 =>
 chk (decide (0<y6.1.length)) <|
 some (false,y6.1)
 )
theorem Zmc {W:World} {r:(Bool×LI)} {p0:api_Link} (h:Zdm p0=some r)  :
    Calls Tryz.prog 29 [agg [.one (.int .i64 (p0.gEpoch)),b3' p0.gKey,b6' p0.gSig]].toArray W (Zc6 W [] (fun v Ms=>∃ (u0:Value) (M1:List Zf),v=u0/\Ms = [.all M1]/\Z0m (El.int .u8) u0 M1 r.2/\Zlm u0=r.1)):=by
 unfold Zdm at h
 refine Z04 mo ok29 rfl (Zh8 _) ?_
 refine Z0<|Z2<|Zg (Z0k (s:=[.one (.int .i64 (p0.gEpoch)),b3' p0.gKey,b6' p0.gSig]) rfl fun b1 hb1=>Z7 rfl<|Z1<|Z0<|Z0<|Z2<|Z6 _ (Z4f rfl)<|Z6 _ (Z1y rfl .here rfl)<|Z6 _ (Z9 rfl rfl rfl)<|Z7 rfl<|Zhp rfl rfl rfl (fun hg1=>Z5h rfl _ (Z4f rfl) (Z5h rfl _ (Z1y rfl .here rfl) (Z5h rfl _ (Z9 rfl rfl rfl) (Z5f)))) (fun hg1=>rfl) rfl<|Z1<|Z02 h rfl (fun h=>?_) (fun h=>?_))
 ·refine Z0<|Z2<|Z7 rfl<|Z1<|Zi ?_
  revert h; refine Zt fun h=>?_
  subst h
  exact ⟨_,_,(.cons (.tmp rfl) .nil),(.no .nil),⟨_,rfl,⟨(.slice none 0 0),[],rfl,rfl,Z39,rfl⟩⟩⟩
 ·refine Ze<|Z0<|oH h fun y1 f1 h=>Z2<|Zg (Z06 rfl (fun w hw=>Zho  f1 ) fun v8 o1 R1=>?_)
  obtain ⟨b2,T11,v12,w1,rfl,rfl,O1⟩:=R1
  refine Z7 rfl<|Z1<|Z0<|oH h fun y2 f2 h=>oH h fun y3 f3 h=>Z2<|Z7 rfl<|Zg (Z06 rfl (fun w hw=>Zn5  f2 ) fun v17 o2 R2=>?_)
  obtain ⟨_,w2,rfl,rfl,O2,N22⟩:=R2
  refine Zg (Z3l (mS:=_::w1) rfl (Zd6 (.app .here) (.app .here)) (fun w hw=>Z9q  f3 (Z9h hw (Zd6 (.app .here) (.app .here))) O1 ⟨(Z0f O2 .here) w hw,(Zjv (Zew (E:=(El.int .u8)) O2 .here .here hw) (Ziv (E:=(El.int .u8)) O2 .here .t1 hw))⟩) fun v24 o3 R3=>?_)
  obtain ⟨v26,w3,rfl,rfl,O3⟩:=R3
  refine Z1<|Z0<|bH h fun z1 e1 h=>oH h fun y4 f4 h=>Z2<|Z7 rfl<|Z6 _ (Z4f rfl)<|Z6 _ (Z1y rfl (.there (.app (.app .here))) rfl)<|Z6 _ (iz e1 (Z4k rfl))<|Zg (Z3l (mS:=_::w3) rfl (Zd6 .here .here) (fun w hw=>Zgw  f4 (Z9h hw (Zd6 .here .here)) O3) fun v32 o4 R4=>?_)
  obtain ⟨v34,w4,rfl,rfl,O4⟩:=R4
  refine Z1<|Z0<|oH h fun y5 f5 h=>Z2<|Z7 rfl<|Z6 _ (Z4f rfl)<|Z6 _ (Ze8 rfl .no .no .no (by simp) (by decide))<|Zg (Z3l (mS:=_::w4) rfl (Zd6 .here .here) (fun w hw=>Z9q  f5 (Z9h hw (Zd6 .here .here)) O4 ⟨(Z3q (s:=[.one (.int .i64 (p0.gEpoch)),b3' p0.gKey,b6' p0.gSig]) (N:=32) (k:=.u8) (base:=1) (lo:=0) (hi:=32) (mz:=32) (.there (.app (.app .here))) rfl (by decide)) w hw,(Zjv (Zna (.there (.app (.app .here))) .here hw Zay) (Znb (.there (.app (.app .here))) .t1 hw Zay))⟩) fun v39 o5 R5=>?_)
  obtain ⟨v41,w5,rfl,rfl,O5⟩:=R5
  refine Z1<|Z0<|oH h fun y6 f6 h=>Z2<|Z7 rfl<|Zg (Z3l (mS:=_::w5) rfl (Zd6 .here .here) (fun w hw=>Zg3  f6 (Z9h hw (Zd6 .here .here)) O5) fun v46 o6 R6=>?_)
  obtain ⟨v48,w6,v51,w7,rfl,rfl,O6,O7⟩:=R6
  refine Z7 rfl<|Z6 _ (Z2i rfl rfl)<|Z6 _ (Z2i rfl rfl)<|Z7 rfl<|Z7 rfl<|Z1<|Z0<|Z2<|Z7 rfl<|Z7 rfl<|Z1<|Zi<|cH h fun c1 h=>?_
  revert h; refine Zt fun h=>?_
  subst h
  exact ⟨_,_,(.cons (.tmp rfl) .nil),(.all .here .nil),⟨_,rfl,⟨v48,w6,rfl,rfl,O6,(Shp.notnil (Shp.own O6) c1)⟩⟩⟩
structure Zc0 where
  gB:LI
  gE:Int
def Zbe (p0:Zc0) (p1:LI):Option (Zc0) :=
 br ((p0.gE==0)) (
 chk (decide ((([]:LI).length+p0.gB.length)*1<=140737488355328)) <|
 bnd (([]:LI)++p0.gB) fun l1 =>
 chk (decide ((l1.length+p1.length)*1<=140737488355328)) <|
 bnd (l1++p1) fun l2 =>
 some (⟨l2,p0.gE⟩:Zc0)
 ) (
 some p0
 )
theorem Zfs {W:World} {r:Zc0} {p0:Zc0} {p1:LI} {v0:Value} {M1:List Zf} {v1:Value} {b:Nat} {T:TypeId} (h:Zbe p0 p1=some r) (h0:Sat W (b::M1.map (·.b)) (ck b T [.one (v0),.one (.int .i64 (p0.gE))]::(M1 ++ [])) W) (O1:Z0m (El.int .u8) v0 M1 p0.gB) (A1:RdSl (El.int .u8) W v1 p1/\Zad v1 p1 (b::M1.map (·.b))) :
    Calls Tryz.prog 149 [.pointer (some ⟨b,0,none⟩),v1].toArray W (Zc6 W (b::M1.map (·.b)) (fun v Ms=>∃ (uw:Value) (Mw:List Zf),v = .tuple #[]/\Ms = [.one (ck b T [.one (uw),.one (.int .i64 (r.gE))]),.all Mw]/\Z0m (El.int .u8) uw Mw r.gB)):=by
 unfold Zbe at h
 refine Z04 mo Z0nn rfl h0 ?_
 refine Z0<|Z2<|Z7 rfl<|Z6 _ (Z5s rfl)<|Z6 _ (Z4f rfl)<|Z6 _ (Z1y rfl .here rfl)<|Z6 _ (Z9 rfl rfl rfl)<|Z1<|Z02 h rfl (fun h=>?_) (fun h=>?_)
 ·refine Z0<|Z2<|Z7 rfl<|Z1<|Z0<|cH h fun c1 h=>bH h fun l1 g1 h=>Z2<|Z7 rfl<|Z7 rfl<|Z6 _ (Z5s rfl)<|Z6 _ (Z4f rfl)<|Z6 _ (Z1y rfl .here rfl)<|Zg (Z38 (E:=(El.int .u8)) g1 rfl Z39 .here rfl (Z0f O1 .t1) c1 fun v7 w1 O2=>Z7 rfl<|Z1<|cH h fun c2 h=>bH h fun l2 g2 h=>Z2<|Z7 rfl<|Z7 rfl<|Z7 rfl<|Zg (Z38 (E:=(El.int .u8)) g2 rfl O2 .here rfl (Z0d A1.1 A1.2) c2 fun v13 w2 O3=>Z6 _ (Z5s rfl)<|Z6 _ (Z4f rfl)<|Zg (Zb4 (q:=[.one (v13),.one (.int .i64 (p0.gE))]) rfl rfl (Zkp.one1 (Z0m.isSl O3)) rfl (.app .here)<|Z1 ?_)))
  revert h; refine Zt fun h=>?_
  subst h
  exact ⟨_,_,.nil,(.one (.app .here) (.all .here .nil)),⟨_,rfl,⟨v13,w2,rfl,rfl,O3⟩⟩⟩
 ·refine Ze ?_
  revert h; refine Zt fun h=>?_
  subst h
  exact ⟨_,_,.nil,(.o (.all .here .nil)),⟨_,rfl,⟨v0,M1,rfl,rfl,O1⟩⟩⟩
def Z8v (p0:Zc0) (p1:LI):Option (Zc0) :=
 opt (Zbe p0 p1) fun y1 =>
 some y1
theorem Zdk {W:World} {r:Zc0} {p0:Zc0} {p1:LI} {v0:Value} {M1:List Zf} {v1:Value} {b:Nat} {T:TypeId} (h:Z8v p0 p1=some r) (h0:Sat W (b::M1.map (·.b)) (ck b T [.one (v0),.one (.int .i64 (p0.gE))]::(M1 ++ [])) W) (O1:Z0m (El.int .u8) v0 M1 p0.gB) (A1:RdSl (El.int .u8) W v1 p1/\Zad v1 p1 (b::M1.map (·.b))) :
    Calls Tryz.prog 79 [.pointer (some ⟨b,0,none⟩),v1].toArray W (Zc6 W (b::M1.map (·.b)) (fun v Ms=>∃ (uw:Value) (Mw:List Zf),v = .tuple #[]/\Ms = [.one (ck b T [.one (uw),.one (.int .i64 (r.gE))]),.all Mw]/\Z0m (El.int .u8) uw Mw r.gB)):=by
 unfold Z8v at h
 refine Z04 mo ok79 rfl h0 ?_
 refine oH h fun y1 f1 h=>Z2<|Z7 rfl<|Z7 rfl<|Zg (Z3l (mS:=_::M1) rfl (Zd6 .here .here) (fun w hw=>Zfs  f1 (Z9h hw (Zd6 .here .here)) O1 ⟨(Z0d A1.1 A1.2) w hw,(Zjv (Zn8 (E:=(El.int .u8)) A1.1 A1.2 .here hw) (Zn9 (E:=(El.int .u8)) A1.1 A1.2 .t1 hw))⟩) fun v3 o1 R1=>?_)
 obtain ⟨v5,w1,rfl,rfl,O2⟩:=R1
 refine Z1 ?_
 revert h; refine Zt fun h=>?_
 subst h
 exact ⟨_,_,.nil,(.o (.all .here .nil)),⟨_,rfl,⟨v5,w1,rfl,rfl,O2⟩⟩⟩
def Zp9 (p0:Int):OL :=
 br (((decide (p0<1))||(decide (p0>255)))) (
 some []
 ) (
 bnd (wrap .u8 p0) fun z1 =>
 some ([70,66,1,z1]:LI)
 )
theorem Zqv {W:World} {r:(LI)} {p0:Int} (h:Zp9 p0=some r)  :
    Calls Tryz.prog 80 [.int .i64 (p0)].toArray W (Zc6 W [] (fun v Ms=>∃ (u0:Value) (M1:List Zf),v=u0/\Ms = [.all M1]/\Z0m (El.int .u8) u0 M1 r)):=by
 unfold Zp9 at h
 refine Z04 mo ok80 rfl (Zh8 _) ?_
 refine Z0<|Z2<|Z7 rfl<|Z1<|Z0<|Z0<|Z2<|Z7 rfl<|Z6 _ (Z9 rfl rfl rfl)<|Z7 rfl<|Zhp rfl rfl rfl (fun hg1=>Z5h rfl _ (Z0u rfl) (Z5h rfl _ (Z9 rfl rfl rfl) (Z5f))) (fun hg1=>rfl) rfl<|Z1<|Z02 h rfl (fun h=>?_) (fun h=>?_)
 ·refine Z0<|Z2<|Z7 rfl<|Z1<|Zi ?_
  revert h; refine Zt fun h=>?_
  subst h
  exact ⟨_,_,(.cons (.tmp rfl) .nil),(.no .nil),⟨_,rfl,⟨(.slice none 0 0),[],rfl,rfl,Z39⟩⟩⟩
 ·refine Ze<|Z0<|bH h fun z1 e1 h=>Z2<|Z7 rfl<|Z6 _ (iz e1 (Z4k rfl))<|Zg (Z5m (E:=(El.int .u8)) (xs:=[70,66,1,z1]) (.one rfl rfl rfl (.one rfl rfl rfl (.one rfl rfl rfl (.one rfl rfl rfl BdR.nil)))) (.cons (p:=[.one (.int .u8 (70))]) rfl (.cons (p:=[.one (.int .u8 (66))]) rfl (.cons (p:=[.one (.int .u8 (1))]) rfl (.cons (p:=[.one (.int .u8 (z1))]) rfl .nil)))) rfl fun v7 w1 O1=>Z7 rfl<|Z1<|Zi ?_)
  revert h; refine Zt fun h=>?_
  subst h
  exact ⟨_,_,(.cons (.tmp rfl) .nil),(.all .here .nil),⟨_,rfl,⟨v7,w1,rfl,rfl,O1⟩⟩⟩
def Zqw (p0:Int):OL :=
 bnd (wrap .u32 (Int.tdiv p0 16777216)) fun z1 =>
 bnd (wrap .u8 z1) fun z2 =>
 bnd (wrap .u32 (Int.tdiv p0 65536)) fun z3 =>
 bnd (wrap .u8 z3) fun z4 =>
 bnd (wrap .u32 (Int.tdiv p0 256)) fun z5 =>
 bnd (wrap .u8 z5) fun z6 =>
 bnd (wrap .u8 p0) fun z7 =>
 some ([z2,z4,z6,z7]:LI)
theorem Zst {W:World} {r:(LI)} {p0:Int} (h:Zqw p0=some r)  :
    Calls Tryz.prog 150 [.int .u32 (p0)].toArray W (Zc6 W [] (fun v Ms=>∃ (u0:Value) (M1:List Zf),v=u0/\Ms = [.all M1]/\Z0m (El.int .u8) u0 M1 r)):=by
 unfold Zqw at h
 refine Z04 mo Z0no rfl (Zh8 _) ?_
 refine Z0<|Z2<|Z7 rfl<|Z1<|Z0<|bH h fun z1 e1 h=>bH h fun z2 e2 h=>bH h fun z3 e3 h=>bH h fun z4 e4 h=>bH h fun z5 e5 h=>bH h fun z6 e6 h=>bH h fun z7 e7 h=>Z2<|Z7 rfl<|Z6 _ (iz e1 (Zb8 rfl rfl (by decide)))<|Z6 _ (iz e2 (Z4k rfl))<|Z7 rfl<|Z6 _ (iz e3 (Zb8 rfl rfl (by decide)))<|Z6 _ (iz e4 (Z4k rfl))<|Z7 rfl<|Z6 _ (iz e5 (Zb8 rfl rfl (by decide)))<|Z6 _ (iz e6 (Z4k rfl))<|Z7 rfl<|Z6 _ (iz e7 (Z4k rfl))<|Zg (Z5m (E:=(El.int .u8)) (xs:=[z2,z4,z6,z7]) (.one rfl rfl rfl (.one rfl rfl rfl (.one rfl rfl rfl (.one rfl rfl rfl BdR.nil)))) (.cons (p:=[.one (.int .u8 (z2))]) rfl (.cons (p:=[.one (.int .u8 (z4))]) rfl (.cons (p:=[.one (.int .u8 (z6))]) rfl (.cons (p:=[.one (.int .u8 (z7))]) rfl .nil)))) rfl fun v10 w1 O1=>Z7 rfl<|Z1<|Zi ?_)
 revert h; refine Zt fun h=>?_
 subst h
 exact ⟨_,_,(.cons (.tmp rfl) .nil),(.all .here .nil),⟨_,rfl,⟨v10,w1,rfl,rfl,O1⟩⟩⟩
def Zgi (p0:Zc0) (p1:Int):Option (Zc0) :=
 opt (Zqw p1) fun y1 =>
 opt (Zbe p0 y1) fun y2 =>
 some y2
theorem Zm6 {W:World} {r:Zc0} {p0:Zc0} {p1:Int} {v0:Value} {M1:List Zf} {b:Nat} {T:TypeId} (h:Zgi p0 p1=some r) (h0:Sat W (b::M1.map (·.b)) (ck b T [.one (v0),.one (.int .i64 (p0.gE))]::(M1 ++ [])) W) (O1:Z0m (El.int .u8) v0 M1 p0.gB) :
    Calls Tryz.prog 81 [.pointer (some ⟨b,0,none⟩),.int .u32 (p1)].toArray W (Zc6 W (b::M1.map (·.b)) (fun v Ms=>∃ (uw:Value) (Mw:List Zf),v = .tuple #[]/\Ms = [.one (ck b T [.one (uw),.one (.int .i64 (r.gE))]),.all Mw]/\Z0m (El.int .u8) uw Mw r.gB)):=by
 unfold Zgi at h
 refine Z04 mo ok81 rfl h0 ?_
 refine oH h fun y1 f1 h=>oH h fun y2 f2 h=>Z2<|Z7 rfl<|Z7 rfl<|Zg (Z06 rfl (fun w hw=>Zst  f1 ) fun v3 o1 R1=>?_)
 obtain ⟨_,w1,rfl,rfl,O2⟩:=R1
 refine Zg (Z3l (mS:=_::M1) rfl (Zd6 (.app .here) (.app .here)) (fun w hw=>Zfs  f2 (Z9h hw (Zd6 (.app .here) (.app .here))) O1 ⟨(Z0f O2 .here) w hw,(Zjv (Zew (E:=(El.int .u8)) O2 .here .here hw) (Ziv (E:=(El.int .u8)) O2 .here .t1 hw))⟩) fun v9 o2 R2=>?_)
 obtain ⟨v11,w2,rfl,rfl,O3⟩:=R2
 refine Z1 ?_
 revert h; refine Zt fun h=>?_
 subst h
 exact ⟨_,_,.nil,(.o (.all .here .nil)),⟨_,rfl,⟨v11,w2,rfl,rfl,O3⟩⟩⟩
def Z6e (p0:api_Link):OL :=
 br (((decide (p0.gEpoch<1))||(decide (p0.gEpoch>64)))) (
 some []
 ) (
 opt (Zp9 11) fun y1 =>
 opt (Z8v (⟨[],0⟩:Zc0) y1) fun y2 =>
 bnd (wrap .u32 p0.gEpoch) fun z1 =>
 opt (Zgi y2 z1) fun y3 =>
 opt (Z8v y3 (tk p0.gKey 0 32)) fun y4 =>
 some y4.gB
 )
theorem Zf0 {W:World} {r:(LI)} {p0:api_Link} (h:Z6e p0=some r)  :
    Calls Tryz.prog 31 [agg [.one (.int .i64 (p0.gEpoch)),b3' p0.gKey,b6' p0.gSig]].toArray W (Zc6 W [] (fun v Ms=>∃ (u0:Value) (M1:List Zf),v=u0/\Ms = [.all M1]/\Z0m (El.int .u8) u0 M1 r)):=by
 unfold Z6e at h
 refine Z04 mo ok31 rfl (Zh8 _) ?_
 refine Z0<|Z2<|Zg (Z0k (s:=[.one (.int .i64 (p0.gEpoch)),b3' p0.gKey,b6' p0.gSig]) rfl fun b1 hb1=>Z7 rfl<|Z1<|Z0<|Z0<|Z2<|Z6 _ (Z4f rfl)<|Z6 _ (Z1y rfl .here rfl)<|Z6 _ (Z9 rfl rfl rfl)<|Z7 rfl<|Zhp rfl rfl rfl (fun hg1=>Z5h rfl _ (Z4f rfl) (Z5h rfl _ (Z1y rfl .here rfl) (Z5h rfl _ (Z9 rfl rfl rfl) (Z5f)))) (fun hg1=>rfl) rfl<|Z1<|Z02 h rfl (fun h=>?_) (fun h=>?_))
 ·refine Z0<|Z2<|Z7 rfl<|Z1<|Zi ?_
  revert h; refine Zt fun h=>?_
  subst h
  exact ⟨_,_,(.cons (.tmp rfl) .nil),(.no .nil),⟨_,rfl,⟨(.slice none 0 0),[],rfl,rfl,Z39⟩⟩⟩
 ·refine Ze<|Z0<|Z2<|Zg (Zv fun b2 hb2=>Z1<|Z0<|oH h fun y1 f1 h=>oH h fun y2 f2 h=>Z2<|Zg (Z06 rfl (fun w hw=>Zqv  f1 ) fun v10 o1 R1=>?_))
  obtain ⟨_,w1,rfl,rfl,O1⟩:=R1
  refine Zg (Z3l (mS:=_ :: []) rfl (Z0es (.app .here)) (fun w hw=>Zdk (p0:=(⟨[],0⟩:Zc0)) f2 (Z9h hw (Z0es (.app .here))) Z39 ⟨(Z0f O1 .here) w hw,(Zjv (Zew (E:=(El.int .u8)) O1 .here .here hw) Zs0)⟩) fun v16 o2 R2=>?_)
  obtain ⟨v18,w2,rfl,rfl,O2⟩:=R2
  refine Z1<|Z0<|bH h fun z1 e1 h=>oH h fun y3 f3 h=>Z2<|Z6 _ (Z4f rfl)<|Z6 _ (Z1y rfl (.there (.app (.app .here))) rfl)<|Z6 _ (iz e1 (Z4k rfl))<|Zg (Z3l (mS:=_::w2) rfl (Zd6 .here .here) (fun w hw=>Zm6  f3 (Z9h hw (Zd6 .here .here)) O2) fun v24 o3 R3=>?_)
  obtain ⟨v26,w3,rfl,rfl,O3⟩:=R3
  refine Z1<|Z0<|oH h fun y4 f4 h=>Z2<|Z6 _ (Z4f rfl)<|Z6 _ (Ze8 rfl .no .no .no (by simp) (by decide))<|Zg (Z3l (mS:=_::w3) rfl (Zd6 .here .here) (fun w hw=>Zdk  f4 (Z9h hw (Zd6 .here .here)) O3 ⟨(Z3q (s:=[.one (.int .i64 (p0.gEpoch)),b3' p0.gKey,b6' p0.gSig]) (N:=32) (k:=.u8) (base:=1) (lo:=0) (hi:=32) (mz:=32) (.there (.app (.app .here))) rfl (by decide)) w hw,(Zjv (Zna (.there (.app (.app .here))) .here hw Zay) (Znb (.there (.app (.app .here))) .t1 hw Zay))⟩) fun v31 o4 R4=>?_)
  obtain ⟨v33,w4,rfl,rfl,O4⟩:=R4
  refine Z1<|Z0<|Z2<|Z6 _ (Z4f rfl)<|Z6 _ (Z1y rfl .here rfl)<|Z7 rfl<|Z1<|Zi ?_
  revert h; refine Zt fun h=>?_
  subst h
  exact ⟨_,_,(.cons (.tmp rfl) .nil),(.all .t1 .nil),⟨_,rfl,⟨v33,w4,rfl,rfl,O4⟩⟩⟩
end Go.Proofs.YtiflckckekjbnaaGreatDoor
namespace Go.Proofs.YtiflckckekjbnaaGreatDoor
open Go Go.Sx Go.RowKit
open List (replicate)
set_option linter.all false
set_option maxHeartbeats 400000
set_option maxRecDepth 100000
abbrev E_api_Link:El (api_Link):=⟨97,fun x=>cells [.one (.int .i64 (x.gEpoch)),b3' x.gKey,b6' x.gSig],fun x=>by rw [cells_length]; rfl,fun x=>(Z30 (Z022 rfl) (Z30 Z6z (Z30 Z6z Z82))),by decide,api_Link_z⟩
def Z3g (p0:List (api_Link)):Option (((List (api_Link))×Int)) :=
 chk (decide ((([]:List (api_Link)).length+p0.length)*104<=140737488355328)) <|
 bnd (([]:List (api_Link))++p0) fun l1 =>
 chk (decide ((l1.length+([(⟨(-7),(replicate 32 0),(replicate 64 0)⟩:api_Link),(⟨(-8),(replicate 32 0),(replicate 64 0)⟩:api_Link)]:List (api_Link)).length)*104<=140737488355328)) <|
 bnd (l1++([(⟨(-7),(replicate 32 0),(replicate 64 0)⟩:api_Link),(⟨(-8),(replicate 32 0),(replicate 64 0)⟩:api_Link)]:List (api_Link))) fun l2 =>
 chk (Z97 0 (p0.length:Int) l2.length) <|
 some (l2,(p0.length:Int))
theorem Z8h {W:World} {r:((List (api_Link))×Int)} {p0:List (api_Link)} {v0:Value} (h:Z3g p0=some r) (A0:RdSl E_api_Link W v0 p0) :
    Calls Tryz.prog 33 [v0].toArray W (Zc6 W [] (fun v Ms=>∃ (u0:Value) (M1:List Zf),v=(Z53 97 u0 0 (r.2).toNat)/\Ms = [.all M1]/\Z0m E_api_Link u0 M1 r.1/\Z97 0 r.2 (r.1).length=true)):=by
 unfold Z3g at h
 refine Z04 mo ok33 rfl (Zh8 _) ?_
 refine Z0<|Z2<|Z7 rfl<|Z1<|Z0<|Z2<|Z7 rfl<|Z1<|Z0<|cH h fun c1 h=>bH h fun l1 g1 h=>Z2<|Z7 rfl<|Z7 rfl<|Zg (Z38 (E:=E_api_Link) g1 rfl Z39 .here rfl (Z0d A0 Z0h) c1 fun v6 w1 O1=>Z7 rfl<|Z1<|Z0<|cH h fun c2 h=>bH h fun l2 g2 h=>Z2<|Z7 rfl<|Z6 _ (Zct (q:=[.one (.int .i64 ((-7))),b3' (replicate 32 0),b6' (replicate 64 0)]) (.one rfl rfl rfl BdR.nil))<|Z6 _ (Zct (q:=[.one (.int .i64 ((-8))),b3' (replicate 32 0),b6' (replicate 64 0)]) (.one rfl rfl rfl BdR.nil))<|Zg (Z5m (E:=E_api_Link) (xs:=[(⟨(-7),(replicate 32 0),(replicate 64 0)⟩:api_Link),(⟨(-8),(replicate 32 0),(replicate 64 0)⟩:api_Link)]) (.agg rfl rfl rfl (.agg rfl rfl rfl BdR.nil)) (.cons (p:=[.one (.int .i64 ((-7))),b3' (replicate 32 0),b6' (replicate 64 0)]) rfl (.cons (p:=[.one (.int .i64 ((-8))),b3' (replicate 32 0),b6' (replicate 64 0)]) rfl .nil)) rfl fun v10 w2 O2=>Zg (Z38 (E:=E_api_Link) g2 rfl O1 (.app .here) rfl (Z0f O2 .here) c2 fun v15 w3 O3=>Z7 rfl<|Z1<|Z0<|cH h fun c3 h=>Z2<|Z7 rfl<|Z7 rfl<|Z6 _ (Z22 rfl (Shp.rd A0))<|Z6 _ (Zqx (lz:=0) (hz:=(p0.length:Int)) rfl (Shp.own O3) .no (.yes rfl) c3)<|Z7 rfl<|Z1<|Zi ?_)))
 revert h; refine Zt fun h=>?_
 subst h
 exact ⟨_,_,(.cons (.tmp rfl) .nil),(.all .here .nil),⟨_,rfl,⟨v15,w3,rfl,rfl,O3,c3⟩⟩⟩
abbrev Z0t:El (LI):=⟨32,fun x=>cells [b3' x],fun x=>by rw [cells_length]; rfl,fun x=>(Z30 Z6z Z82),by decide,(replicate 32 0)⟩
def Z0q (p0:List (LI)) (p1:LI) (k1:Unit->Option Int) (k2:Int->Option Int) (i1:Int):Option Int :=
 br ((decide (i1<(p0.length:Int)))) (
 chk (inB i1 p0.length) <|
 bnd (p0.getD (i1).toNat (replicate 32 0)) fun x1 =>
 br ((ieq 32 p1 x1)) (
 some i1
 ) (
 bnd (IntKind.wrap .i64 (i1+1)) fun z1 =>
 k2 z1
 )
 ) (
 k1 ()
 )
def Z05 (p0:List (LI)) (p1:LI) (k1:Unit->Option Int):Nat->Int->Option Int
  | 0,_=>none
  | n+1,i1=>Z0q p0 p1 k1 (Z05 p0 p1 k1 n) i1
def Z2w (p0:List (LI)) (p1:LI):Option Int :=
 jn (fun (_:Unit)=>some (-1)) fun k1=>Z05 p0 p1 k1 big 0
theorem Z9j {W:World} {r:Int} {p0:List (LI)} {p1:LI} {v0:Value} (h:Z2w p0 p1=some r) (A0:RdSl Z0t W v0 p0) :
    Calls Tryz.prog 152 [v0,agg [b3' p1]].toArray W (Z36 W (.int .i64 (r))):=by
 unfold Z2w at h
 refine Zc mo Z0nq rfl ?_
 refine Z0<|Z2<|Zg (Z0k (s:=[b3' p1]) rfl fun b1 u1=>Z7 rfl<|Z1<|Z0<|Z0<|Z2<|Z7 rfl<|Z6 _ (Z22 rfl (Shp.rd A0))<|Z7 rfl<|Z1<|jH h fun k1 q1 h=>Zm (G:=fun t m=>k1 ()=some r/\Fit [] (ck b1 29 [b3' p1] :: []) t m) ?_ ?_)
 ·refine Za<|Zp (fun n1 t m=>∃ (i1:Int),Z05 p0 p1 k1 n1 i1=some r/\Fit [(0,v0),(3,pt' b1),(7,.int .i64 ((p0.length:Int))),(8,.int .i64 (i1))] (ck b1 29 [b3' p1] :: []) t m) big ?_ ?_
  ·exact ⟨0,h,⟨⟨rfl,rfl,rfl,rfl,trivial⟩,(.o .nil)⟩⟩
  ·rintro n1 t m ⟨i1,h,hF⟩
   refine Zk hF ?_
   clear hF
   rcases n1 with _ | n1
   · exact Z0a h
   have h:Z0q p0 p1 k1 (Z05 p0 p1 k1 n1) i1=some r:=h
   unfold Z0q at h
   obtain ⟨k2,q2⟩ : ∃ k,k=Z05 p0 p1 k1 n1:=⟨_,rfl⟩
   try rw [<- q2] at h
   refine Z0<|Z2<|Z6 _ (Z9 rfl rfl rfl)<|Z1<|Z0<|Z02 h rfl (fun h=>?_) (fun h=>?_)
   ·refine Ze<|Z0<|Za<|Z0<|Z2<|Z7 rfl<|Z7 rfl<|Z1<|Z0<|cH h fun c1 h=>bH h fun x1 j1 h=>Zr<|Z8 _ (Z0u rfl)<|Z8 _ (Z0u rfl)<|Z8 _ (Z2t rfl rfl (Shp.rd A0) c1)<|Zn _ (Zy (p:=[b3' p1]) rfl .here rfl)<|Zn _ (az (fun (x1:LI)=>agg [b3' x1]) j1 (Zcc (E:=Z0t) (s:=[b3' (p0.getD (i1).toNat (replicate 32 0))]) rfl (Z0d A0 Z0h) (Z03 c1) rfl rfl))<|Z8 _ (Zhj rfl rfl rfl rfl _ (Z63 Z4e))<|Z00<|Z02 h rfl (fun h=>?_) (fun h=>?_)
    ·refine Z0<|Z2<|Z7 rfl<|Z7 rfl<|Z1<|Zi ?_
     revert h; refine Zt fun h=>?_
     subst h
     exact ⟨_,(.cons (.tmp rfl) .nil),rfl⟩
    ·refine Ze<|bH h fun z1 e1 h=>Z2<|Z6 _ (iz e1 (Z9 rfl rfl rfl))<|Z7 rfl<|Z1 ?_
     rw [q2] at h
     exact ⟨n1,Nat.lt_succ_self _,z1,h,⟨⟨rfl,rfl,rfl,rfl,trivial⟩,(.o .nil)⟩⟩
   ·exact Zx _ rfl<|⟨h,⟨trivial,(.o .nil)⟩⟩
 ·rintro t m ⟨h,hF⟩
  refine Zk hF ?_
  clear hF
  subst q1
  refine Z0<|Z2<|Z7 rfl<|Z1<|Zi ?_
  revert h; refine Zt fun h=>?_
  subst h
  exact ⟨_,(.cons (.tmp rfl) .nil),rfl⟩
end Go.Proofs.YtiflckckekjbnaaGreatDoor
namespace Go.Proofs.YtiflckckekjbnaaGreatDoor
open Go Go.Sx Go.RowKit
open Go.IntKind (wrap)
set_option linter.all false
set_option maxHeartbeats 400000
set_option maxRecDepth 100000
def Z1a (p0:List (LI)) (p1:LI):Option Bool :=
 opt (Z2w p0 p1) fun y1 =>
 some (decide (y1≥0))
theorem Z81 {W:World} {r:Bool} {p0:List (LI)} {p1:LI} {v0:Value} (h:Z1a p0 p1=some r) (A0:RdSl Z0t W v0 p0) :
    Calls Tryz.prog 83 [v0,agg [b3' p1]].toArray W (Z36 W (.bool (r))):=by
 unfold Z1a at h
 refine Zc mo ok83 rfl ?_
 refine Z0<|Z2<|Zg (Z0k (s:=[b3' p1]) rfl fun b1 u1=>Z7 rfl<|Z1<|Z0<|oH h fun y1 f1 h=>Z2<|Z7 rfl<|Z6 _ (Zy (p:=[b3' p1]) rfl .here rfl)<|Z6 _ (Z0p rfl (fun w hw=>Z9j f1 ((Z0d A0 Z0h) w hw)))<|Z6 _ (Z9 rfl rfl rfl)<|Z7 rfl<|Z1<|Zi ?_)
 revert h; refine Zt fun h=>?_
 subst h
 exact ⟨_,(.cons (.tmp rfl) .nil),rfl⟩
def Z47 (p1:List (api_Link)) (k1:Int->(LI)->(List (LI))->Option ((List (LI))×Int)) (i1:Int) (a1:LI) (l1:List (LI)):Option ((List (LI))×Int) :=
 br ((decide (i1<(p1.length:Int)))) (
 chk (inB i1 p1.length) <|
 bnd (p1.getD (i1).toNat api_Link_z) fun x1 =>
 chk (imp (!(x1.gEpoch != (l1.length:Int))) ((Z1a l1 x1.gKey).isSome)) <|
 br (((x1.gEpoch != (l1.length:Int))||((Z1a l1 x1.gKey).getD false))) (
 some ([],171)
 ) (
 opt (Zdm x1) fun y1 =>
 opt (Z4t a1 y1.2 x1.gSig) fun y2 =>
 br ((!y2)) (
 some ([],110)
 ) (
 chk (decide ((l1.length+([x1.gKey]:List (LI)).length)*32<=140737488355328)) <|
 bnd (l1++([x1.gKey]:List (LI))) fun l2 =>
 bnd (wrap .i64 (i1+1)) fun z1 =>
 k1 z1 x1.gKey l2
 )
 )
 ) (
 some (l1,0)
 )
def Z48 (p1:List (api_Link)):Nat->Int->(LI)->(List (LI))->Option ((List (LI))×Int)
  | 0,_,_,_=>none
  | n+1,i1,a1,l1=>Z47 p1 (Z48 p1 n) i1 a1 l1
def Z66 (p0:LI) (p1:List (api_Link)):Option ((List (LI))×Int) :=
 br ((decide ((p1.length:Int)>64))) (
 some ([],1)
 ) (
 Z48 p1 big 0 p0 ([p0]:List (LI))
 )
theorem Zii {W:World} {r:(List (LI))×Int} {p0:LI} {p1:List (api_Link)} {v1:Value} (h:Z66 p0 p1=some r) (hG:Globs W) (A1:RdSl E_api_Link W v1 p1) :
    Calls Tryz.prog 34 [agg [b3' p0],v1].toArray W (Zc6 W [] (fun v Ms=>∃ (u0:Value) (M1:List Zf),v = .tuple #[u0,.int .i64 (r.2)]/\Ms = [.all M1]/\Z0m Z0t u0 M1 r.1)):=by
 unfold Z66 at h
 refine Zs4 mo ok34 rfl (Zh8 _) ?_
 refine Zta<|Z2<|Zg (Z0k (s:=[b3' p0]) rfl fun b1 hb1=>Zg (Zv fun b2 hb2=>Zg (Zv fun b3 hb3=>Z1<|Zta<|Z0<|Z2<|Z7 rfl<|Z6 _ (Z22 rfl (Shp.rd A1))<|Z6 _ (Z9 rfl rfl rfl)<|Z1<|Z02 h rfl (fun h=>?_) (fun h=>?_))))
 ·refine Z0<|Z2<|Zg (Zb4 (q:=[.one (.slice none 0 0)]) rfl rfl rfl rfl .t1<|Zg (Zb4 (q:=[.one (.int .i64 (1))]) rfl rfl rfl rfl .here<|Z1<|Zi<|Z02p ?_))
  revert h; refine Zt fun h=>?_
  subst h
  exact ⟨_,_,(.cons (.one rfl .t1 rfl) (.cons (.one rfl .here rfl) .nil)),(.no .nil),⟨_,rfl,⟨(.slice none 0 0),[],rfl,rfl,Z39⟩⟩⟩
 ·refine Ze<|Zta<|Z2<|Z6 _ (Zy (p:=[b3' p0]) rfl .t2 rfl)<|Zg (Z5m (E:=Z0t) (xs:=[p0]) (.agg rfl rfl rfl BdR.nil) (.cons (p:=[b3' p0]) rfl .nil) rfl fun v9 w1 O1=>Zg (Zv fun b4 hb4=>Zg (Zb4 (q:=[.one (v9)]) rfl rfl (Zkp.one1 (Z0m.isSl O1)) rfl .here<|Z1<|Z088 (dg:=d151) Z0np rfl (by kernel_rfl)<|Z2<|Z6 _ (Zy (p:=[b3' p0]) rfl (.there (.app .t2)) rfl)<|Z7 rfl<|Zg (Z06 rfl (fun w hw=>Zij (p0:=p0) (Shp.isSl (Shp.rd A1))) fun v14 o1 R1=>?_))))
  obtain ⟨b5,U17,bb18,UU19,rfl,rfl⟩:=R1
  refine Z1<|⟨[pt' b5,.pointer (some ⟨bb18,0,none⟩)],rfl,rfl,fun L20 D21 R2 hp23 ha24 hb5 hr26=>Z0 (Z2 (Z6 _ (Zy (p:=[b3' p0]) rfl .t2 rfl) (Zg (Zv fun b6 hb6=>Zg (Zs (q:=[b3' p0]) rfl rfl rfl rfl rfl .here (Z1 (Z0 (Z2 (Z6 _ (Z1y rfl .t4 rfl) (Z6 _ (Z22 rfl (Shp.rd A1)) (Z7 rfl (Z1 (Za (Zp (fun n1 t m=>∃ (i1:Int) (a1:LI) (l1:List (LI)) (v115:Value) (w2:List Zf),Z48 p1 n1 i1 a1 l1=some r/\Z0m Z0t v115 w2 l1/\Fit [(0,.func (.yield L20) #[] #[]),(4,pt' b6),(8,v1),(9,.int .i64 ((p1.length:Int))),(10,.int .i64 (i1))] (ck b6 29 [b3' a1]::(lpc L20 (ra R2 .ready none)::(dfc D21::(ck b5 U17 [b3' p0]::(ck bb18 UU19 [.one (v1)]::(ck b4 40 [.one (v115)]::(ck b3 35 [.one (.int .i64 (0))]::(ck b2 40 [.one (.slice none 0 0)]::(ck b1 29 [b3' p0]::(w2 ++ [])))))))))) t m) big ?_ ?_))))))))))))))⟩
  ·exact ⟨0,p0,([p0]:List (LI)),v9,w1,h,O1,⟨⟨rfl,rfl,rfl,rfl,rfl,trivial⟩,(.o (.o (.o (.o (.o (.o (.one (.app .here) (.one (.app .here) (.one (.app .here) (.all .here .nil))))))))))⟩⟩
  ·rintro n1 t m ⟨i1,a1,l1,v115,w2,h,O2,hF⟩
   refine Zk hF ?_
   clear hF
   rcases n1 with _ | n1
   · exact Z0a h
   have h:Z47 p1 (Z48 p1 n1) i1 a1 l1=some r:=h
   unfold Z47 at h
   obtain ⟨k1,q1⟩ : ∃ k,k=Z48 p1 n1:=⟨_,rfl⟩
   try rw [<- q1] at h
   refine Z0<|Z2<|Z6 _ (Z9 rfl rfl rfl)<|Z1<|Z0<|Z02 h rfl (fun h=>?_) (fun h=>?_)
   ·refine Ze<|Z0<|Za<|Z0<|cH h fun c1 h=>bH h fun x1 j1 h=>Z2<|Z6 _ (Z2t rfl rfl (Shp.rd A1) c1)<|Z6 _ (az (fun (x1:api_Link)=>agg [.one (.int .i64 (x1.gEpoch)),b3' x1.gKey,b6' x1.gSig]) j1 (Zcc (E:=E_api_Link) (s:=[.one (.int .i64 (((p1.getD (i1).toNat api_Link_z)).gEpoch)),b3' (((p1.getD (i1).toNat api_Link_z)).gKey),b6' (((p1.getD (i1).toNat api_Link_z)).gSig)]) rfl (Z0d A1 Z0h) (Z03 c1) rfl rfl))<|Zg (Zv fun b7 hb7=>Zg (Zs (q:=[.one (.int .i64 (x1.gEpoch)),b3' x1.gKey,b6' x1.gSig]) rfl rfl rfl rfl rfl .here<|Z1<|Z0<|Z0<|Z2<|Z7 rfl<|Z6 _ (Zy (p:=[b3' a1]) rfl .t1 rfl)<|Z6 _ (Zy (p:=[.one (.int .i64 (x1.gEpoch)),b3' x1.gKey,b6' x1.gSig]) rfl .here rfl)<|Z03h rfl rfl .t2 (by rw [<- Array.length_toList,hp23]; rfl) (Z00i hr26 hp23 rfl rfl) mo ha24 hb5<|Z0<|Z2<|Zg (Zv fun b8 hb8=>Zg (Zs (q:=[b3' a1]) rfl rfl rfl rfl rfl .here<|Z1<|Z2<|Zg (Zv fun b9 hb9=>Zg (Zs (q:=[.one (.int .i64 (x1.gEpoch)),b3' x1.gKey,b6' x1.gSig]) rfl rfl rfl rfl rfl .here<|Z1<|⟨_,.t2,Za (Z0 (Z0 (cH h fun c2 h=>Z2 (Z6 _ (Z4f rfl) (Z6 _ (Z1y rfl .t1 rfl) (Z6 _ (Z1y rfl .t8 rfl) (Z6 _ (Z22 rfl (Shp.own O2)) (Z6 _ (Z9 rfl rfl rfl) (Z7 rfl (Zhp rfl rfl rfl (fun hg1=>Z5h rfl _ (Z1y rfl .t8 rfl) (Z5h rfl _ (Z4f rfl) (Z5h rfl _ (Zy (p:=[b3' x1.gKey]) rfl .t1 rfl) (Z5h rfl _ (Z0p rfl (fun w hw=>Z81 (getD_some (z:=false) (Zll c2 hg1)) ((Z0f O2 (.there (.there (.there .t9)))) w hw))) (Z5f))))) (fun hg1=>rfl) rfl (Z1 (Z02 h rfl (fun h=>?_) (fun h=>?_)))))))))))))⟩))))))
    ·refine Z0<|Z2<|Zg (Zb4 (q:=[.one (.slice none 0 0)]) rfl rfl rfl rfl (.there .t9)<|Zg (Zb4 (q:=[.one (.int .i64 (171))]) rfl rfl rfl rfl .t9<|Z1<|Zi<|⟨_,.here,Z6 _ (Zl0 rfl rfl) (Z1 (Z00b rfl (fun _=>Zi (.inr ⟨_,_,.here,.t4,Z02p ?_⟩)) (fun h=>absurd h (by decide))))⟩))
     revert h; refine Zt fun h=>?_
     subst h
     exact ⟨_,_,(.cons (.one rfl .t8 rfl) (.cons (.one rfl .t7 rfl) .nil)),(.no .nil),⟨_,rfl,⟨(.slice none 0 0),[],rfl,rfl,Z39⟩⟩⟩
    ·refine Ze<|Z0<|Z0<|oH h fun y1 f1 h=>oH h fun y2 f2 h=>Zr<|Z8 _ (Z4f rfl)<|Zn _ (Zy (p:=[b3' a1]) rfl .t2 rfl)<|Zn _ (Zy (p:=[.one (.int .i64 (x1.gEpoch)),b3' x1.gKey,b6' x1.gSig]) rfl .t1 rfl)<|Zn _ (Zy (p:=[b6' x1.gSig]) rfl .t1 rfl)<|Z6o (Z06 rfl (fun w hw=>Zmc  f1 ) fun v138 o2 R3=>?_)
     obtain ⟨_,w3,rfl,rfl,O3,N143⟩:=R3
     refine ⟨(by repeat (first | exact Sup.refl _ | apply Sup.cons | apply Sup.app)),Zwe _ (Z0p rfl (fun w hw=>Zkn f2 (hG.at hw (by simp)) ((Z0f O3 .here) w hw))) (Z8 _ (Zl0 rfl rfl) (Z00 (Z02 h rfl (fun h=>?_) (fun h=>?_)))) (by repeat (first | exact Sup.refl _ | apply Sup.cons | apply Sup.app))⟩
     ·refine Z0<|Z2<|Zg (Zb4 (q:=[.one (.slice none 0 0)]) rfl rfl rfl rfl (.app (.there .t9))<|Zg (Zb4 (q:=[.one (.int .i64 (110))]) rfl rfl rfl rfl (.app .t9)<|Z1<|Zi<|⟨_,(.app .here),Z6 _ (Zl0 rfl rfl) (Z1 (Z00b rfl (fun _=>Zi (.inr ⟨_,_,.here,(.app .t4),Z02p ?_⟩)) (fun h=>absurd h (by decide))))⟩))
      revert h; refine Zt fun h=>?_
      subst h
      exact ⟨_,_,(.cons (.one rfl (.app .t8) rfl) (.cons (.one rfl (.app .t7) rfl) .nil)),(.no .nil),⟨_,rfl,⟨(.slice none 0 0),[],rfl,rfl,Z39⟩⟩⟩
     ·refine Ze<|cH h fun c3 h=>bH h fun l2 g1 h=>Z2<|Z6 _ (Z1y rfl (.app .t8) rfl)<|Z6 _ (Z4f rfl)<|Z6 _ (Zy (p:=[b3' x1.gKey]) rfl (.app .t1) rfl)<|Zg (Z5m (E:=Z0t) (xs:=[x1.gKey]) (.agg rfl rfl rfl BdR.nil) (.cons (p:=[b3' x1.gKey]) rfl .nil) rfl fun v148 w4 O4=>Zg (Z38 (E:=Z0t) g1 rfl O2 (.app (.app (.there (.there (.there .t9))))) rfl (Z0f O4 .here) c3 fun v153 w5 O5=>Zg (Zb4 (q:=[.one (v153)]) rfl rfl (Zkp.one1 (Z0m.isSl O5)) rfl (.app (.app (.app .t8)))<|Z1<|⟨_,(.app (.app (.app .here))),Z6 _ (Zl0 rfl rfl) (Z1 (Z00b rfl (fun h=>absurd h (by decide)) (fun _=>Ze (Z2 (Z6 _ (Z4f rfl) (Z6 _ (Zy (p:=[b3' x1.gKey]) rfl (.there (.app (.app (.app .t2)))) rfl) (Zg (Zs (q:=[b3' x1.gKey]) rfl rfl rfl rfl rfl (.there (.app (.app (.app .t3)))) (Z1 (bH h fun z1 e1 h=>Z2 (Z6 _ (iz e1 (Z9 rfl rfl rfl)) (Z7 rfl (Z1 ?_)))))))))))))⟩)))
      rw [q1] at h
      exact ⟨n1,Nat.lt_succ_self _,z1,x1.gKey,l2,v153,w5,h,O5,⟨⟨rfl,rfl,rfl,rfl,rfl,trivial⟩,(.one (.there (.app (.app (.app .t3)))) (.o (.one (.app (.app (.app .t3))) (.one (.app (.app (.app .t3))) (.one (.app (.app (.app .t3))) (.one (.app (.app (.app .t3))) (.one (.app (.app (.app .t3))) (.one (.app (.app (.app .t3))) (.one (.app (.app (.app .t3))) (.all .here .nil))))))))))⟩⟩
   ·refine Zx _ rfl<|.inl ⟨_,.t1,Z6 _ (Z1y rfl .t4 rfl) (Zg (Zb4 (q:=[.one (v115)]) rfl rfl (Zkp.one1 (Z0m.isSl O2)) rfl .t6 (Zg (Zb4 (q:=[.one (.int .i64 (0))]) rfl rfl rfl rfl .t5 (Z1 (⟨_,.t1,Z02p ?_⟩))))))⟩
    revert h; refine Zt fun h=>?_
    subst h
    exact ⟨_,_,(.cons (.one rfl .t5 rfl) (.cons (.one rfl .t4 rfl) .nil)),(.all .t7 .nil),⟨_,rfl,⟨v115,w2,rfl,rfl,O2⟩⟩⟩
def Z2c (p0:List (LI)) (p1:LI) (k1:Unit->Option Bool) (k2:Int->Option Bool) (i1:Int):Option Bool :=
 br ((decide (i1<(p0.length:Int)))) (
 chk (inB i1 p0.length) <|
 bnd (p0.getD (i1).toNat (List.replicate 32 0)) fun x1 =>
 br ((ieq 32 x1 p1)) (
 some true
 ) (
 bnd (wrap .i64 (i1+1)) fun z1 =>
 k2 z1
 )
 ) (
 k1 ()
 )
def Z2d (p0:List (LI)) (p1:LI) (k1:Unit->Option Bool):Nat->Int->Option Bool
  | 0,_=>none
  | n+1,i1=>Z2c p0 p1 k1 (Z2d p0 p1 k1 n) i1
def Z43 (p0:List (LI)) (p1:LI):Option Bool :=
 jn (fun (_:Unit)=>some false) fun k1=>Z2d p0 p1 k1 big 0
theorem Zdy {W:World} {r:Bool} {p0:List (LI)} {p1:LI} {v0:Value} (h:Z43 p0 p1=some r) (A0:RdSl Z0t W v0 p0) :
    Calls Tryz.prog 84 [v0,agg [b3' p1]].toArray W (Z36 W (.bool (r))):=by
 unfold Z43 at h
 refine Zc mo ok84 rfl ?_
 refine Z0<|Z2<|Zg (Z0k (s:=[b3' p1]) rfl fun b1 u1=>Z7 rfl<|Z1<|Z0<|Z0<|Z2<|Z7 rfl<|Z1<|jH h fun k1 q1 h=>Zm (G:=fun t m=>k1 ()=some r/\Fit [] (ck b1 29 [b3' p1] :: []) t m) ?_ ?_)
 ·refine Za<|Zp (fun n1 t m=>∃ (i1:Int),Z2d p0 p1 k1 n1 i1=some r/\Fit [(0,v0),(3,pt' b1),(5,.int .i64 (i1))] (ck b1 29 [b3' p1] :: []) t m) big ?_ ?_
  ·exact ⟨0,h,⟨⟨rfl,rfl,rfl,trivial⟩,(.o .nil)⟩⟩
  ·rintro n1 t m ⟨i1,h,hF⟩
   refine Zk hF ?_
   clear hF
   rcases n1 with _ | n1
   · exact Z0a h
   have h:Z2c p0 p1 k1 (Z2d p0 p1 k1 n1) i1=some r:=h
   unfold Z2c at h
   obtain ⟨k2,q2⟩ : ∃ k,k=Z2d p0 p1 k1 n1:=⟨_,rfl⟩
   try rw [<- q2] at h
   refine Z0<|Z0<|Z2<|Z7 rfl<|Z7 rfl<|Z6 _ (Z22 rfl (Shp.rd A0))<|Z6 _ (Z9 rfl rfl rfl)<|Z1<|Z02 h rfl (fun h=>?_) (fun h=>?_)
   ·refine Ze<|Z0<|Za<|Z0<|cH h fun c1 h=>bH h fun x1 j1 h=>Zr<|Z8 _ (Z0u rfl)<|Z8 _ (Z0u rfl)<|Z8 _ (Z2t rfl rfl (Shp.rd A0) c1)<|Zn _ (az (fun (x1:LI)=>agg [b3' x1]) j1 (Zcc (E:=Z0t) (s:=[b3' (p0.getD (i1).toNat (List.replicate 32 0))]) rfl (Z0d A0 Z0h) (Z03 c1) rfl rfl))<|Zn _ (Zy (p:=[b3' p1]) rfl .here rfl)<|Z8 _ (Zhj rfl rfl rfl rfl _ (Z63 Z4e))<|Z00<|Z02 h rfl (fun h=>?_) (fun h=>?_)
    ·refine Z0<|Z2<|Z7 rfl<|Z1<|Zi ?_
     revert h; refine Zt fun h=>?_
     subst h
     exact ⟨_,(.cons (.tmp rfl) .nil),rfl⟩
    ·refine Ze<|bH h fun z1 e1 h=>Z2<|Z7 rfl<|Z6 _ (iz e1 (Z9 rfl rfl rfl))<|Z7 rfl<|Z1 ?_
     rw [q2] at h
     exact ⟨n1,Nat.lt_succ_self _,z1,h,⟨⟨rfl,rfl,rfl,trivial⟩,(.o .nil)⟩⟩
   ·exact Zx _ rfl<|⟨h,⟨trivial,(.o .nil)⟩⟩
 ·rintro t m ⟨h,hF⟩
  refine Zk hF ?_
  clear hF
  subst q1
  refine Z0<|Z2<|Z7 rfl<|Z1<|Zi ?_
  revert h; refine Zt fun h=>?_
  subst h
  exact ⟨_,(.cons (.tmp rfl) .nil),rfl⟩
def Z29 (p1:List (api_Link)) (k1:(List (LI))->Option ((List (LI))×Int)) (k2:(List (LI))->Int->Option ((List (LI))×Int)) (l1:List (LI)) (i1:Int):Option ((List (LI))×Int) :=
 br ((decide (i1<(p1.length:Int)))) (
 chk (inB i1 p1.length) <|
 bnd (p1.getD (i1).toNat api_Link_z) fun x1 =>
 bnd (wrap .i64 (i1+1)) fun z1 =>
 chk (imp (!(x1.gEpoch != z1)) ((Z43 l1 x1.gKey).isSome)) <|
 br (((x1.gEpoch != z1)||((Z43 l1 x1.gKey).getD false))) (
 some ([],171)
 ) (
 chk (inB i1 l1.length) <|
 bnd (l1.getD (i1).toNat (List.replicate 32 0)) fun x2 =>
 opt (Z6e x1) fun y1 =>
 opt (Zbz x2 y1 x1.gSig) fun y2 =>
 br ((!y2)) (
 some ([],110)
 ) (
 chk (decide ((l1.length+([x1.gKey]:List (LI)).length)*32<=140737488355328)) <|
 bnd (l1++([x1.gKey]:List (LI))) fun l2 =>
 bnd (wrap .i64 (i1+1)) fun z2 =>
 k2 l2 z2
 )
 )
 ) (
 k1 l1
 )
def Z2a (p1:List (api_Link)) (k1:(List (LI))->Option ((List (LI))×Int)):Nat->(List (LI))->Int->Option ((List (LI))×Int)
  | 0,_,_=>none
  | n+1,l1,i1=>Z29 p1 k1 (Z2a p1 k1 n) l1 i1
def Z3j (p0:LI) (p1:List (api_Link)):Option ((List (LI))×Int) :=
 br ((decide ((p1.length:Int)>64))) (
 some ([],1)
 ) (
 jn (fun (l1:List (LI))=>some (l1,0)) fun k1=>Z2a p1 k1 big ([p0]:List (LI)) 0
 )
theorem Z8k {W:World} {r:(List (LI))×Int} {p0:LI} {p1:List (api_Link)} {v1:Value} (h:Z3j p0 p1=some r) (hG:Globs W) (A1:RdSl E_api_Link W v1 p1) :
    Calls Tryz.prog 35 [agg [b3' p0],v1].toArray W (Zc6 W [] (fun v Ms=>∃ (u0:Value) (M1:List Zf),v = .tuple #[u0,.int .i64 (r.2)]/\Ms = [.all M1]/\Z0m Z0t u0 M1 r.1)):=by
 unfold Z3j at h
 refine Z04 mo ok35 rfl (Zh8 _) ?_
 refine Z0<|Z2<|Zg (Z0k (s:=[b3' p0]) rfl fun b1 hb1=>Z7 rfl<|Z7 rfl<|Z1<|Z0<|Z0<|Z2<|Z7 rfl<|Z6 _ (Z22 rfl (Shp.rd A1))<|Z6 _ (Z9 rfl rfl rfl)<|Z1<|Z02 h rfl (fun h=>?_) (fun h=>?_))
 ·refine Z0<|Z2<|Z7 rfl<|Z7 rfl<|Z1<|Zi ?_
  revert h; refine Zt fun h=>?_
  subst h
  exact ⟨_,_,(.cons (.tmp rfl) (.cons (.tmp rfl) .nil)),(.no .nil),⟨_,rfl,⟨(.slice none 0 0),[],rfl,rfl,Z39⟩⟩⟩
 ·refine Ze<|Z0<|Z2<|Z6 _ (Zy (p:=[b3' p0]) rfl .here rfl)<|Zg (Z5m (E:=Z0t) (xs:=[p0]) (.agg rfl rfl rfl BdR.nil) (.cons (p:=[b3' p0]) rfl .nil) rfl fun v7 w1 O1=>Z7 rfl<|Z1<|Z0<|Z0<|Z2<|Z7 rfl<|Z1<|jH h fun k1 q1 h=>Zm (G:=fun t m=>∃ (l1:List (LI)) (v123:Value) (w2:List Zf),k1 l1=some r/\Z0m Z0t v123 w2 l1/\Fit [(6,v123)] (ck b1 29 [b3' p0]::(w2 ++ [])) t m) ?_ ?_)
  ·refine Za<|Zp (fun n1 t m=>∃ (l2:List (LI)) (i1:Int) (v199:Value) (w3:List Zf),Z2a p1 k1 n1 l2 i1=some r/\Z0m Z0t v199 w3 l2/\Fit [(1,v1),(6,v199),(7,.int .i64 (i1))] (ck b1 29 [b3' p0]::(w3 ++ [])) t m) big ?_ ?_
   ·exact ⟨([p0]:List (LI)),0,v7,w1,h,O1,⟨⟨rfl,rfl,rfl,trivial⟩,(.one (.app .here) (.all .here .nil))⟩⟩
   ·rintro n1 t m ⟨l2,i1,v199,w3,h,O2,hF⟩
    refine Zk hF ?_
    clear hF
    rcases n1 with _ | n1
    · exact Z0a h
    have h:Z29 p1 k1 (Z2a p1 k1 n1) l2 i1=some r:=h
    unfold Z29 at h
    obtain ⟨k2,q2⟩ : ∃ k,k=Z2a p1 k1 n1:=⟨_,rfl⟩
    try rw [<- q2] at h
    refine Z0<|Z0<|Z2<|Z7 rfl<|Z7 rfl<|Z6 _ (Z22 rfl (Shp.rd A1))<|Z6 _ (Z9 rfl rfl rfl)<|Z1<|Z02 h rfl (fun h=>?_) (fun h=>?_)
    ·refine Ze<|Z0<|Za<|Z0<|cH h fun c1 h=>bH h fun x1 j1 h=>Z2<|Z7 rfl<|Z7 rfl<|Z6 _ (Z2t rfl rfl (Shp.rd A1) c1)<|Z6 _ (az (fun (x1:api_Link)=>agg [.one (.int .i64 (x1.gEpoch)),b3' x1.gKey,b6' x1.gSig]) j1 (Zcc (E:=E_api_Link) (s:=[.one (.int .i64 (((p1.getD (i1).toNat api_Link_z)).gEpoch)),b3' (((p1.getD (i1).toNat api_Link_z)).gKey),b6' (((p1.getD (i1).toNat api_Link_z)).gSig)]) rfl (Z0d A1 Z0h) (Z03 c1) rfl rfl))<|Zg (Zv fun b2 hb2=>Zg (Zs (q:=[.one (.int .i64 (x1.gEpoch)),b3' x1.gKey,b6' x1.gSig]) rfl rfl rfl rfl rfl .here<|Z1<|Z0<|Z0<|bH h fun z1 e1 h=>cH h fun c2 h=>Z2<|Z6 _ (Z4f rfl)<|Z6 _ (Z1y rfl .here rfl)<|Z7 rfl<|Z6 _ (iz e1 (Z9 rfl rfl rfl))<|Z6 _ (Z9 rfl rfl rfl)<|Z7 rfl<|Zhp rfl rfl rfl (fun hg1=>Z5h rfl _ (Z0u rfl) (Z5h rfl _ (Z4f rfl) (Z5h rfl _ (Zy (p:=[b3' x1.gKey]) rfl .here rfl) (Z5h rfl _ (Z0p rfl (fun w hw=>Zdy (getD_some (z:=false) (Zll c2 hg1)) ((Z0f O2 .t2) w hw))) (Z5f))))) (fun hg1=>rfl) rfl<|Z1<|Z02 h rfl (fun h=>?_) (fun h=>?_)))
     ·refine Z0<|Z2<|Z7 rfl<|Z7 rfl<|Z1<|Zi ?_
      revert h; refine Zt fun h=>?_
      subst h
      exact ⟨_,_,(.cons (.tmp rfl) (.cons (.tmp rfl) .nil)),(.no .nil),⟨_,rfl,⟨(.slice none 0 0),[],rfl,rfl,Z39⟩⟩⟩
     ·refine Ze<|Z0<|Z0<|cH h fun c3 h=>bH h fun x2 j2 h=>oH h fun y1 f1 h=>oH h fun y2 f2 h=>Zr<|Z8 _ (Z0u rfl)<|Z8 _ (Z0u rfl)<|Z8 _ (Z2t rfl rfl (Shp.own O2) c3)<|Z8 _ (Z4f rfl)<|Zn _ (az (fun (x2:LI)=>agg [b3' x2]) j2 (Zcc (E:=Z0t) (s:=[b3' (l2.getD (i1).toNat (List.replicate 32 0))]) rfl (Z0f O2 .t2) (Z03 c3) rfl rfl))<|Zn _ (Zy (p:=[.one (.int .i64 (x1.gEpoch)),b3' x1.gKey,b6' x1.gSig]) rfl .here rfl)<|Zn _ (Zy (p:=[b6' x1.gSig]) rfl .here rfl)<|Z6o (Z06 rfl (fun w hw=>Zf0  f1 ) fun v221 o1 R1=>?_)
      obtain ⟨_,w4,rfl,rfl,O3⟩:=R1
      refine ⟨(by repeat (first | exact Sup.refl _ | apply Sup.cons | apply Sup.app)),Zwe _ (Z0p rfl (fun w hw=>Zn3 f2 (hG.at hw (by simp)) ((Z0f O3 .here) w hw))) (Z8 _ (Zl0 rfl rfl) (Z00 (Z02 h rfl (fun h=>?_) (fun h=>?_)))) (by repeat (first | exact Sup.refl _ | apply Sup.cons | apply Sup.app))⟩
      ·refine Z0<|Z2<|Z7 rfl<|Z7 rfl<|Z1<|Zi ?_
       revert h; refine Zt fun h=>?_
       subst h
       exact ⟨_,_,(.cons (.tmp rfl) (.cons (.tmp rfl) .nil)),(.no .nil),⟨_,rfl,⟨(.slice none 0 0),[],rfl,rfl,Z39⟩⟩⟩
      ·refine Ze<|cH h fun c4 h=>bH h fun l3 g1 h=>Z2<|Z7 rfl<|Z6 _ (Z4f rfl)<|Z6 _ (Zy (p:=[b3' x1.gKey]) rfl (.app .here) rfl)<|Zg (Z5m (E:=Z0t) (xs:=[x1.gKey]) (.agg rfl rfl rfl BdR.nil) (.cons (p:=[b3' x1.gKey]) rfl .nil) rfl fun v230 w5 O4=>Zg (Z38 (E:=Z0t) g1 rfl O2 (.app (.app .t2)) rfl (Z0f O4 .here) c4 fun v235 w6 O5=>Z7 rfl<|Z1<|bH h fun z2 e2 h=>Z2<|Z7 rfl<|Z6 _ (iz e2 (Z9 rfl rfl rfl))<|Z7 rfl<|Z1 ?_))
       rw [q2] at h
       exact ⟨n1,Nat.lt_succ_self _,l3,z2,v235,w6,h,O5,⟨⟨rfl,rfl,rfl,trivial⟩,(.one (.app (.app (.app .t1))) (.all .here .nil))⟩⟩
    ·exact Zx _ rfl<|⟨l2,v199,w3,h,O2,⟨⟨rfl,trivial⟩,(.o (.all .here .nil))⟩⟩
  ·rintro t m ⟨l1,v123,w2,h,O6,hF⟩
   refine Zk hF ?_
   clear hF
   subst q1
   refine Z0<|Z2<|Z7 rfl<|Z7 rfl<|Z7 rfl<|Z1<|Zi ?_
   revert h; refine Zt fun h=>?_
   subst h
   exact ⟨_,_,(.cons (.tmp rfl) (.cons (.tmp rfl) .nil)),(.all .t1 .nil),⟨_,rfl,⟨v123,w2,rfl,rfl,O6⟩⟩⟩
def Z1p (p0:List (api_Link)) (p1:List (api_Link)) (k1:Unit->Option Bool) (k2:Int->Option Bool) (i1:Int):Option Bool :=
 br ((decide (i1<(p0.length:Int)))) (
 chk (inB i1 p0.length) <|
 bnd (p0.getD (i1).toNat api_Link_z) fun x1 =>
 chk (inB i1 p1.length) <|
 bnd (p1.getD (i1).toNat api_Link_z) fun x2 =>
 br ((!((x1.gEpoch==x2.gEpoch)&&((ieq 32 x1.gKey x2.gKey)&&(ieq 64 x1.gSig x2.gSig))))) (
 some false
 ) (
 bnd (wrap .i64 (i1+1)) fun z1 =>
 k2 z1
 )
 ) (
 k1 ()
 )
def Z1q (p0:List (api_Link)) (p1:List (api_Link)) (k1:Unit->Option Bool):Nat->Int->Option Bool
  | 0,_=>none
  | n+1,i1=>Z1p p0 p1 k1 (Z1q p0 p1 k1 n) i1
def Z0l (p0:List (api_Link)) (p1:List (api_Link)):Option Bool :=
 br (((p0.length:Int) != (p1.length:Int))) (
 some false
 ) (
 jn (fun (_:Unit)=>some true) fun k1=>Z1q p0 p1 k1 big 0
 )
theorem Z2y {W:World} {r:Bool} {p0:List (api_Link)} {p1:List (api_Link)} {v0:Value} {v1:Value} (h:Z0l p0 p1=some r) (A0:RdSl E_api_Link W v0 p0) (A1:RdSl E_api_Link W v1 p1) :
    Calls Tryz.prog 43 [v0,v1].toArray W (Z36 W (.bool (r))):=by
 unfold Z0l at h
 refine Zc mo ok43 rfl ?_
 refine Z0<|Z2<|Z7 rfl<|Z1<|Z0<|Z0<|Z2<|Z7 rfl<|Z6 _ (Z22 rfl (Shp.rd A0))<|Z7 rfl<|Z6 _ (Z22 rfl (Shp.rd A1))<|Z6 _ (Z9 rfl rfl rfl)<|Z1<|Z02 h rfl (fun h=>?_) (fun h=>?_)
 ·refine Z0<|Z2<|Z7 rfl<|Z1<|Zi ?_
  revert h; refine Zt fun h=>?_
  subst h
  exact ⟨_,(.cons (.tmp rfl) .nil),rfl⟩
 ·refine Ze<|Z0<|Z0<|Z2<|Z7 rfl<|Z1<|jH h fun k1 q1 h=>Zm (G:=fun t m=>k1 ()=some r/\Fit [] [] t m) ?_ ?_
  ·refine Za<|Zp (fun n1 t m=>∃ (i1:Int),Z1q p0 p1 k1 n1 i1=some r/\Fit [(0,v0),(1,v1),(5,.int .i64 (i1))] [] t m) big ?_ ?_
   ·exact ⟨0,h,⟨⟨rfl,rfl,rfl,trivial⟩,.nil⟩⟩
   ·rintro n1 t m ⟨i1,h,hF⟩
    refine Zk hF ?_
    clear hF
    rcases n1 with _ | n1
    · exact Z0a h
    have h:Z1p p0 p1 k1 (Z1q p0 p1 k1 n1) i1=some r:=h
    unfold Z1p at h
    obtain ⟨k2,q2⟩ : ∃ k,k=Z1q p0 p1 k1 n1:=⟨_,rfl⟩
    try rw [<- q2] at h
    refine Z0<|Z0<|Z2<|Z7 rfl<|Z7 rfl<|Z6 _ (Z22 rfl (Shp.rd A0))<|Z6 _ (Z9 rfl rfl rfl)<|Z1<|Z02 h rfl (fun h=>?_) (fun h=>?_)
    ·refine Ze<|Z0<|Za<|Z0<|cH h fun c1 h=>bH h fun x1 j1 h=>cH h fun c2 h=>bH h fun x2 j2 h=>Zr<|Z8 _ (Z0u rfl)<|Z8 _ (Z0u rfl)<|Z8 _ (Z2t rfl rfl (Shp.rd A0) c1)<|Z8 _ (Z0u rfl)<|Z8 _ (Z0u rfl)<|Z8 _ (Z2t rfl rfl (Shp.rd A1) c2)<|Zn _ (az (fun (x1:api_Link)=>agg [.one (.int .i64 (x1.gEpoch)),b3' x1.gKey,b6' x1.gSig]) j1 (Zcc (E:=E_api_Link) (s:=[.one (.int .i64 (((p0.getD (i1).toNat api_Link_z)).gEpoch)),b3' (((p0.getD (i1).toNat api_Link_z)).gKey),b6' (((p0.getD (i1).toNat api_Link_z)).gSig)]) rfl (Z0d A0 Z0h) (Z03 c1) rfl rfl))<|Zn _ (az (fun (x2:api_Link)=>agg [.one (.int .i64 (x2.gEpoch)),b3' x2.gKey,b6' x2.gSig]) j2 (Zcc (E:=E_api_Link) (s:=[.one (.int .i64 (((p1.getD (i1).toNat api_Link_z)).gEpoch)),b3' (((p1.getD (i1).toNat api_Link_z)).gKey),b6' (((p1.getD (i1).toNat api_Link_z)).gSig)]) rfl (Z0d A1 Z0h) (Z03 c2) rfl rfl))<|Z8 _ (Zhj (s:=[.one (.int .i64 (x1.gEpoch)),b3' x1.gKey,b6' x1.gSig]) (s':=[.one (.int .i64 (x2.gEpoch)),b3' x2.gKey,b6' x2.gSig]) rfl rfl rfl rfl _ (Zc7 rfl Zon (Zc7 rfl Z4e (Z63 Z4e))))<|Z00<|Z02 h rfl (fun h=>?_) (fun h=>?_)
     ·refine Z0<|Z2<|Z7 rfl<|Z1<|Zi ?_
      revert h; refine Zt fun h=>?_
      subst h
      exact ⟨_,(.cons (.tmp rfl) .nil),rfl⟩
     ·refine Ze<|bH h fun z1 e1 h=>Z2<|Z7 rfl<|Z6 _ (iz e1 (Z9 rfl rfl rfl))<|Z7 rfl<|Z1 ?_
      rw [q2] at h
      exact ⟨n1,Nat.lt_succ_self _,z1,h,⟨⟨rfl,rfl,rfl,trivial⟩,.nil⟩⟩
    ·exact Zx _ rfl<|⟨h,⟨trivial,.nil⟩⟩
  ·rintro t m ⟨h,hF⟩
   refine Zk hF ?_
   clear hF
   subst q1
   refine Z0<|Z2<|Z7 rfl<|Z1<|Zi ?_
   revert h; refine Zt fun h=>?_
   subst h
   exact ⟨_,(.cons (.tmp rfl) .nil),rfl⟩
def Z0w (p0:List (api_Link)) (n1:Int) (p1:List (api_Link)):Option Bool :=
 bnd (wrap .i64 ((p1.length:Int)+2)) fun z1 =>
 chk (Z97 0 z1 p0.length) <|
 opt (Z0l (p0.take (n1).toNat) p1) fun y1 =>
 chk (imp y1 (inB (p1.length:Int) (z1).toNat)) <|
 chk (imp (y1&&((p0.getD ((p1.length:Int)).toNat api_Link_z).gEpoch==(-7))) (inB (wrap .i64 ((p1.length:Int)+1)) (z1).toNat)) <|
 some ((y1&&((p0.getD ((p1.length:Int)).toNat api_Link_z).gEpoch==(-7)))&&((p0.getD (wrap .i64 ((p1.length:Int)+1)).toNat api_Link_z).gEpoch==(-8)))
theorem Z4x {W:World} {r:Bool} {p0:List (api_Link)} {n1:Int} {p1:List (api_Link)} {v0:Value} {v1:Value} (h:Z0w p0 n1 p1=some r) (A0:RdSl E_api_Link W v0 p0) (N0:Z97 0 n1 p0.length=true) (A1:RdSl E_api_Link W v1 p1) :
    Calls Tryz.prog 40 [(Z53 97 v0 0 (n1).toNat),v1].toArray W (Z36 W (.bool (r))):=by
 unfold Z0w at h
 refine Zc mo ok40 rfl ?_
 refine Z0<|Z2<|Z7 rfl<|Z1<|Z0<|Z2<|Z7 rfl<|Z6 _ (Z22 rfl (Shp.rd A1))<|Z7 rfl<|Z1<|Z0<|bH h fun z1 e1 h=>cH h fun c1 h=>Z2<|Z7 rfl<|Z7 rfl<|Z6 _ (iz e1 (Z9 rfl rfl rfl))<|Z6 _ (Z0f5 (lz:=0) (hz:=z1) rfl (Shp.rd A0) N0 .no (.yes rfl) c1)<|Z7 rfl<|Z1<|Z0<|oH h fun y1 f1 h=>cH h fun c2 h=>cH h fun c3 h=>Z2<|Z7 rfl<|Z7 rfl<|Z6 _ (Z0p rfl (fun w hw=>Z2y f1 ((Zk7 (Z0d A0 Z0h) N0) w hw) ((Z0d A1 Z0h) w hw)))<|Z7 rfl<|Zmn rfl rfl rfl (fun hg1=>Z5h rfl _ (Z0u rfl) (Z5h rfl _ (Z0u rfl) (Z5h rfl _ (Zns rfl rfl (Shp.rd A0) c1 (Zq8 c2 hg1)) (Z5h rfl _ (Z4f rfl) (Z5h rfl _ (az (fun (zz:api_Link)=>.int .i64 (zz.gEpoch)) rfl (Zyu (E:=E_api_Link) (s:=[.one (.int .i64 (((p0.getD ((p1.length:Int)).toNat api_Link_z)).gEpoch)),b3' (((p0.getD ((p1.length:Int)).toNat api_Link_z)).gKey),b6' (((p0.getD ((p1.length:Int)).toNat api_Link_z)).gSig)]) (c:=0) rfl (Z0d A0 Z0h) (Z03 (Zng c1 (Zq8 c2 hg1))) rfl rfl)) (Z5h rfl _ (Z9 rfl rfl rfl) (Z5f))))))) (fun hg1=>rfl) rfl<|Z7 rfl<|Zmn rfl rfl rfl (fun hg1=>Z5h rfl _ (Z0u rfl) (Z5h rfl _ (Z0u rfl) (Z5h rfl _ (iz rfl (Z9 rfl rfl rfl)) (Z5h rfl _ (Zns rfl rfl (Shp.rd A0) c1 (Zq8 c3 hg1)) (Z5h rfl _ (Z4f rfl) (Z5h rfl _ (az (fun (zz:api_Link)=>.int .i64 (zz.gEpoch)) rfl (Zyu (E:=E_api_Link) (s:=[.one (.int .i64 (((p0.getD (wrap .i64 ((p1.length:Int)+1)).toNat api_Link_z)).gEpoch)),b3' (((p0.getD (wrap .i64 ((p1.length:Int)+1)).toNat api_Link_z)).gKey),b6' (((p0.getD (wrap .i64 ((p1.length:Int)+1)).toNat api_Link_z)).gSig)]) (c:=0) rfl (Z0d A0 Z0h) (Z03 (Zng c1 (Zq8 c3 hg1))) rfl rfl)) (Z5h rfl _ (Z9 rfl rfl rfl) (Z5f)))))))) (fun hg1=>rfl) rfl<|Z7 rfl<|Z1<|Zi ?_
 revert h; refine Zt fun h=>?_
 subst h
 exact ⟨_,(.cons (.tmp rfl) .nil),rfl⟩
end Go.Proofs.YtiflckckekjbnaaGreatDoor
namespace Go.Proofs.YtiflckckekjbnaaGreatDoor
open Go Go.Sx Go.RowKit
open List (replicate)
open Go.IntKind (wrap)
set_option linter.all false
set_option maxHeartbeats 400000
set_option maxRecDepth 100000
def Z49 (p0:List (api_Link)) (p1:List (api_Link)) (k1:Unit->Option Bool) (k2:Int->Option Bool) (i1:Int):Option Bool :=
 br ((decide (i1<(p0.length:Int)))) (
 chk (inB i1 p0.length) <|
 bnd (p0.getD (i1).toNat api_Link_z) fun x1 =>
 chk (imp (!(decide (i1≥(p1.length:Int)))) (inB i1 p1.length)) <|
 br (((decide (i1≥(p1.length:Int)))||(!((x1.gEpoch==(p1.getD (i1).toNat api_Link_z).gEpoch)&&((ieq 32 x1.gKey ((p1.getD (i1).toNat api_Link_z).gKey))&&(ieq 64 x1.gSig ((p1.getD (i1).toNat api_Link_z).gSig))))))) (
 some false
 ) (
 bnd (wrap .i64 (i1+1)) fun z1 =>
 k2 z1
 )
 ) (
 k1 ()
 )
def Z4a (p0:List (api_Link)) (p1:List (api_Link)) (k1:Unit->Option Bool):Nat->Int->Option Bool
  | 0,_=>none
  | n+1,i1=>Z49 p0 p1 k1 (Z4a p0 p1 k1 n) i1
def Z7l (p0:List (api_Link)) (p1:List (api_Link)):Option Bool :=
 jn (fun (_:Unit)=>some true) fun k1=>Z4a p0 p1 k1 big 0
theorem Zce {W:World} {r:Bool} {p0:List (api_Link)} {p1:List (api_Link)} {v0:Value} {v1:Value} (h:Z7l p0 p1=some r) (A0:RdSl E_api_Link W v0 p0) (A1:RdSl E_api_Link W v1 p1) :
    Calls Tryz.prog 85 [v0,v1].toArray W (Z36 W (.bool (r))):=by
 unfold Z7l at h
 refine Zc mo ok85 rfl ?_
 refine Z0<|Z2<|Z7 rfl<|Z1<|Z0<|Z0<|Z2<|Z7 rfl<|Z6 _ (Z22 rfl (Shp.rd A0))<|Z7 rfl<|Z1<|jH h fun k1 q1 h=>Zm (G:=fun t m=>k1 ()=some r/\Fit [] [] t m) ?_ ?_
 ·refine Za<|Zp (fun n1 t m=>∃ (i1:Int),Z4a p0 p1 k1 n1 i1=some r/\Fit [(1,v1),(7,v0),(8,.int .i64 ((p0.length:Int))),(9,.int .i64 (i1))] [] t m) big ?_ ?_
  ·exact ⟨0,h,⟨⟨rfl,rfl,rfl,rfl,trivial⟩,.nil⟩⟩
  ·rintro n1 t m ⟨i1,h,hF⟩
   refine Zk hF ?_
   clear hF
   rcases n1 with _ | n1
   · exact Z0a h
   have h:Z49 p0 p1 k1 (Z4a p0 p1 k1 n1) i1=some r:=h
   unfold Z49 at h
   obtain ⟨k2,q2⟩ : ∃ k,k=Z4a p0 p1 k1 n1:=⟨_,rfl⟩
   try rw [<- q2] at h
   refine Z0<|Z2<|Z6 _ (Z9 rfl rfl rfl)<|Z1<|Z0<|Z02 h rfl (fun h=>?_) (fun h=>?_)
   ·refine Ze<|Z0<|Za<|Z0<|cH h fun c1 h=>bH h fun x1 j1 h=>Z2<|Z7 rfl<|Z6 _ (Z2t rfl rfl (Shp.rd A0) c1)<|Z6 _ (az (fun (x1:api_Link)=>agg [.one (.int .i64 (x1.gEpoch)),b3' x1.gKey,b6' x1.gSig]) j1 (Zcc (E:=E_api_Link) (s:=[.one (.int .i64 (((p0.getD (i1).toNat api_Link_z)).gEpoch)),b3' (((p0.getD (i1).toNat api_Link_z)).gKey),b6' (((p0.getD (i1).toNat api_Link_z)).gSig)]) rfl (Z0d A0 Z0h) (Z03 c1) rfl rfl))<|Zg (Zv fun b1 u1=>Z7 rfl<|Zg (Zs (q:=[.one (.int .i64 (x1.gEpoch)),b3' x1.gKey,b6' x1.gSig]) rfl rfl rfl rfl rfl .here<|Z1<|Z0<|cH h fun c2 h=>Zr<|Z8 _ (Z0u rfl)<|Z8 _ (Z0u rfl)<|Z8 _ (Z22 rfl (Shp.rd A1))<|Z8 _ (Z9 rfl rfl rfl)<|Z8 _ (Z0u rfl)<|Z0t4 rfl rfl rfl (fun hg1=>Z5h rfl _ (Zy (p:=[.one (.int .i64 (x1.gEpoch)),b3' x1.gKey,b6' x1.gSig]) rfl .here rfl) (Z5h rfl _ (Z0u rfl) (Z5h rfl _ (Z0u rfl) (Z5h rfl _ (Z2t rfl rfl (Shp.rd A1) (Zll c2 hg1)) (Z5h rfl _ (az (fun (zz:api_Link)=>agg [.one (.int .i64 (zz.gEpoch)),b3' zz.gKey,b6' zz.gSig]) rfl (Zcc (E:=E_api_Link) (s:=[.one (.int .i64 (((p1.getD (i1).toNat api_Link_z)).gEpoch)),b3' (((p1.getD (i1).toNat api_Link_z)).gKey),b6' (((p1.getD (i1).toNat api_Link_z)).gSig)]) rfl (Z0d A1 Z0h) (Z03 (Zll c2 hg1)) rfl rfl)) (Z5h rfl _ (Zhj (s:=[.one (.int .i64 (x1.gEpoch)),b3' x1.gKey,b6' x1.gSig]) (s':=[.one (.int .i64 ((p1.getD (i1).toNat api_Link_z).gEpoch)),b3' ((p1.getD (i1).toNat api_Link_z).gKey),b6' ((p1.getD (i1).toNat api_Link_z).gSig)]) rfl rfl rfl rfl _ (Zc7 rfl Zon (Zc7 rfl Z4e (Z63 Z4e)))) (Z5f))))))) (fun hg1=>rfl) rfl<|Z00<|Z02 h rfl (fun h=>?_) (fun h=>?_)))
    ·refine Z0<|Z2<|Z7 rfl<|Z1<|Zi ?_
     revert h; refine Zt fun h=>?_
     subst h
     exact ⟨_,(.cons (.tmp rfl) .nil),rfl⟩
    ·refine Ze<|bH h fun z1 e1 h=>Z2<|Z6 _ (iz e1 (Z9 rfl rfl rfl))<|Z7 rfl<|Z1 ?_
     rw [q2] at h
     exact ⟨n1,Nat.lt_succ_self _,z1,h,⟨⟨rfl,rfl,rfl,rfl,trivial⟩,.nil⟩⟩
   ·exact Zx _ rfl<|⟨h,⟨trivial,.nil⟩⟩
 ·rintro t m ⟨h,hF⟩
  refine Zk hF ?_
  clear hF
  subst q1
  refine Z0<|Z2<|Z7 rfl<|Z1<|Zi ?_
  revert h; refine Zt fun h=>?_
  subst h
  exact ⟨_,(.cons (.tmp rfl) .nil),rfl⟩
def Z1d (p0:List (api_Link)):Option (List (api_Link)) :=
 chk (decide ((([]:List (api_Link)).length+p0.length)*104<=140737488355328))<|some p0
theorem Z4v {W:World} {r:List (api_Link)} {p0:List (api_Link)} {v0:Value} (h:Z1d p0=some r) (A0:RdSl E_api_Link W v0 p0) :
    Calls Tryz.prog 86 [v0].toArray W (Zc6 W [] (fun v Ms=>∃ (u0:Value) (M1:List Zf),v=u0/\Ms = [.all M1]/\Z0m E_api_Link u0 M1 r)):=by
 unfold Z1d at h
 refine Z04 mo ok86 rfl (Zh8 _) ?_
 refine cH h fun c h=>Z0<|Z2<|Z7 rfl<|Z1<|Z0<|Z0<|Z2<|Z7 rfl<|Z6 _ (Zyt rfl (Shp.rd A0) rfl)<|Z1<|Z00b rfl (fun hc=>?_) (fun hc=>?_)
 · obtain rfl:p0 = []:=Z01u A0 hc
   refine Z0<|Z2<|Z7 rfl<|Z1<|Zi ?_
   revert h; refine Zt fun h=>?_
   subst h
   exact ⟨_,_,.cons (.tmp rfl) .nil,.no .nil,⟨_,rfl,⟨.slice none 0 0,[],rfl,rfl,Z39⟩⟩⟩
 · refine Ze<|Z0<|Z2<|Zg (Z5m (E:=E_api_Link) (xs:=[]) BdR.nil .nil rfl fun v ms O=>Z7 rfl<|Zg (Z38 (E:=E_api_Link) (ys:=p0) (xs':=p0) rfl rfl O .here rfl (Z0d A0 Z0h) c fun v' ms' O'=>Z7 rfl<|Z1<|Zi ?_))
   revert h; refine Zt fun h=>?_
   subst h
   exact ⟨_,_,.cons (.tmp rfl) .nil,.all .here .nil,⟨_,rfl,⟨v',ms',rfl,rfl,O'⟩⟩⟩
def Z31 (p0:LI) (p1:List (api_Link)) (p2:List (api_Link)) (k1:Unit->Option ((List (api_Link))×Int)) (k2:Int->Option ((List (api_Link))×Int)) (i1:Int):Option ((List (api_Link))×Int) :=
 br ((decide (i1<([p1,p2].length:Int)))) (
 chk (inB i1 [p1,p2].length) <|
 opt (Z66 p0 ([p1,p2].getD (i1).toNat [])) fun y1 =>
 br ((y1.2 != 0)) (
 some ([],y1.2)
 ) (
 bnd (wrap .i64 (i1+1)) fun z1 =>
 k2 z1
 )
 ) (
 k1 ()
 )
def Z3y (p0:LI) (p1:List (api_Link)) (p2:List (api_Link)) (k1:Unit->Option ((List (api_Link))×Int)):Nat->Int->Option ((List (api_Link))×Int)
  | 0,_=>none
  | n+1,i1=>Z31 p0 p1 p2 k1 (Z3y p0 p1 p2 k1 n) i1
def Z77 (p0:LI) (p1:List (api_Link)) (p2:List (api_Link)):Option ((List (api_Link))×Int) :=
 jn (fun (_:Unit)=>opt (Z7l p1 p2) fun y1 =>
 br (y1) (
 opt (Z1d p2) fun y2 =>
 some (y2,0)
 ) (
 opt (Z7l p2 p1) fun y3 =>
 br (y3) (
 opt (Z1d p1) fun y4 =>
 some (y4,0)
 ) (
 some ([],171)
 )
 )) fun k1=>Z3y p0 p1 p2 k1 big 0
theorem Za0 {W:World} {r:(List (api_Link))×Int} {p0:LI} {p1:List (api_Link)} {p2:List (api_Link)} {v1:Value} {v2:Value} (h:Z77 p0 p1 p2=some r) (hG:Globs W) (A1:RdSl E_api_Link W v1 p1) (A2:RdSl E_api_Link W v2 p2) :
    Calls Tryz.prog 41 [agg [b3' p0],v1,v2].toArray W (Zc6 W [] (fun v Ms=>∃ (u0:Value) (M1:List Zf),v = .tuple #[u0,.int .i64 (r.2)]/\Ms = [.all M1]/\Z0m E_api_Link u0 M1 r.1)):=by
 unfold Z77 at h
 refine Z04 mo ok41 rfl (Zh8 _) ?_
 refine Z0<|Z2<|Zg (Z0k (s:=[b3' p0]) rfl fun b1 hb1=>Z7 rfl<|Z7 rfl<|Z1<|Z0<|Z0<|Z2<|Z7 rfl<|Z7 rfl<|Zg (Z5m (E:=El.sl) (xs:=[unS v1,unS v2]) (.one rfl (Zkp.cells (Shp.isSl (Shp.rd A1))) rfl (.one rfl (Zkp.cells (Shp.isSl (Shp.rd A2))) rfl BdR.nil)) (.cons (p:=[.one v1]) (Zg1 (Shp.isSl (Shp.rd A1))) (.cons (p:=[.one v2]) (Zg1 (Shp.isSl (Shp.rd A2))) .nil)) rfl fun v4 w1 O1=>Z6 _ ((Zxt (Z22 rfl (Shp.own O1)) (Zhq.len (.cons (Zax A1) (.cons (Zax A2) .nil)))))<|Z7 rfl<|Z1<|jH h fun k1 q1 h=>Zm (G:=fun t m=>k1 ()=some r/\Fit [(1,v1),(2,v2)] (ck b1 29 [b3' p0] :: []) t m) ?_ ?_))
 ·refine Za<|Zp (fun n1 t m=>∃ (i1:Int),Z3y p0 p1 p2 k1 n1 i1=some r/\Fit [(1,v1),(2,v2),(3,pt' b1),(14,v4),(15,.int .i64 (([p1,p2].length:Int))),(16,.int .i64 (i1))] (w1++(ck b1 29 [b3' p0] :: [])) t m) big ?_ ?_
  ·exact ⟨0,h,⟨⟨rfl,rfl,rfl,rfl,rfl,rfl,trivial⟩,(.all .here (.o .nil))⟩⟩
  ·rintro n1 t m ⟨i1,h,hF⟩
   refine Zk hF ?_
   clear hF
   rcases n1 with _ | n1
   · exact Z0a h
   have h:Z31 p0 p1 p2 k1 (Z3y p0 p1 p2 k1 n1) i1=some r:=h
   unfold Z31 at h
   obtain ⟨k2,q2⟩ : ∃ k,k=Z3y p0 p1 p2 k1 n1:=⟨_,rfl⟩
   try rw [<- q2] at h
   refine Z0<|Z2<|Z6 _ (Z9 rfl rfl rfl)<|Z1<|Z0<|Z02 h rfl (fun h=>?_) (fun h=>?_)
   ·refine Ze<|Z0<|Za<|Z0<|cH h fun c1 h=>Z2<|Z6 _ (Z2t rfl rfl (Shp.own O1) (Zod (.cons (Zax A1) (.cons (Zax A2) .nil)) c1))<|Z6 _ (Z5e (E:=El.sl) (s:=[.one (slV ([unS v1,unS v2].getD (i1).toNat (none,0,0)))]) rfl (Z0f O1 .here) (Z03 (Zod (.cons (Zax A1) (.cons (Zax A2) .nil)) c1)) rfl rfl)<|Z7 rfl<|Z1<|Z0<|oH h fun y1 f1 h=>Z2<|Z6 _ (Zy (p:=[b3' p0]) rfl (.app .here) rfl)<|Z7 rfl<|Zg (Z06 rfl (fun w hw=>Zii  f1 (hG.at hw (by simp)) ((Z0d (Zhq.get (.cons (Zax A1) (.cons (Zax A2) .nil)) _ (Z03 c1)) Z0h) w hw)) fun v100 o1 R1=>?_)
    obtain ⟨v102,w2,rfl,rfl,O2⟩:=R1
    refine Z7 rfl<|Z6 _ (Z2i rfl rfl)<|Z6 _ (Z2i rfl rfl)<|Z7 rfl<|Z7 rfl<|Z1<|Z0<|Z2<|Z7 rfl<|Z6 _ (Z9 rfl rfl rfl)<|Z1<|Z02 h rfl (fun h=>?_) (fun h=>?_)
    ·refine Z0<|Z2<|Z7 rfl<|Z7 rfl<|Z7 rfl<|Z1<|Zi ?_
     revert h; refine Zt fun h=>?_
     subst h
     exact ⟨_,_,(.cons (.tmp rfl) (.cons (.tmp rfl) .nil)),(.no .nil),⟨_,rfl,⟨(.slice none 0 0),[],rfl,rfl,Z39⟩⟩⟩
    ·refine Ze<|bH h fun z1 e1 h=>Z2<|Z6 _ (iz e1 (Z9 rfl rfl rfl))<|Z7 rfl<|Z1 ?_
     rw [q2] at h
     exact ⟨n1,Nat.lt_succ_self _,z1,h,⟨⟨rfl,rfl,rfl,rfl,rfl,rfl,trivial⟩,(.all (.app .here) (.one (.app .here) .nil))⟩⟩
   ·exact Zx _ rfl<|⟨h,⟨⟨rfl,rfl,trivial⟩,(.one (.app .here) .nil)⟩⟩
 ·rintro t m ⟨h,hF⟩
  refine Zk hF ?_
  clear hF
  subst q1
  refine Z0<|Za<|Z0<|oH h fun y2 f2 h=>Z2<|Z7 rfl<|Z7 rfl<|Z6 _ (Z0p rfl (fun w hw=>Zce f2 ((Z0d A1 Z0h) w hw) ((Z0d A2 Z0h) w hw)))<|Z7 rfl<|Z1<|Z02 h rfl (fun h=>?_) (fun h=>?_)
  ·refine Z0<|oH h fun y3 f3 h=>Z2<|Z7 rfl<|Zg (Z06 rfl (fun w hw=>Z4v  f3 ((Z0d A2 Z0h) w hw)) fun v115 o2 R2=>?_)
   obtain ⟨_,w3,rfl,rfl,O3⟩:=R2
   refine Z7 rfl<|Z7 rfl<|Z1<|Zi ?_
   revert h; refine Zt fun h=>?_
   subst h
   exact ⟨_,_,(.cons (.tmp rfl) (.cons (.tmp rfl) .nil)),(.all .here .nil),⟨_,rfl,⟨v115,w3,rfl,rfl,O3⟩⟩⟩
  ·refine Z0<|oH h fun y4 f4 h=>Z2<|Z7 rfl<|Z7 rfl<|Z6 _ (Z0p rfl (fun w hw=>Zce f4 ((Z0d A2 Z0h) w hw) ((Z0d A1 Z0h) w hw)))<|Z7 rfl<|Z1<|Z02 h rfl (fun h=>?_) (fun h=>?_)
   ·refine Z0<|oH h fun y5 f5 h=>Z2<|Z7 rfl<|Zg (Z06 rfl (fun w hw=>Z4v  f5 ((Z0d A1 Z0h) w hw)) fun v125 o3 R3=>?_)
    obtain ⟨_,w4,rfl,rfl,O4⟩:=R3
    refine Z7 rfl<|Z7 rfl<|Z1<|Zi ?_
    revert h; refine Zt fun h=>?_
    subst h
    exact ⟨_,_,(.cons (.tmp rfl) (.cons (.tmp rfl) .nil)),(.all .here .nil),⟨_,rfl,⟨v125,w4,rfl,rfl,O4⟩⟩⟩
   ·refine Ze<|Z0<|Z2<|Z7 rfl<|Z7 rfl<|Z1<|Zi ?_
    revert h; refine Zt fun h=>?_
    subst h
    exact ⟨_,_,(.cons (.tmp rfl) (.cons (.tmp rfl) .nil)),(.no .nil),⟨_,rfl,⟨(.slice none 0 0),[],rfl,rfl,Z39⟩⟩⟩
def Z27 (p0:List (api_Link)) (p1:List (api_Link)) (k1:Unit->Option Bool) (k2:Int->Option Bool) (i1:Int):Option Bool :=
 br ((decide (i1<(p0.length:Int)))) (
 chk (inB i1 p0.length) <|
 bnd (p0.getD (i1).toNat api_Link_z) fun x1 =>
 chk (inB i1 p1.length) <|
 bnd (p1.getD (i1).toNat api_Link_z) fun x2 =>
 br ((!((x1.gEpoch==x2.gEpoch)&&((ieq 32 x1.gKey x2.gKey)&&(ieq 64 x1.gSig x2.gSig))))) (
 some false
 ) (
 bnd (wrap .i64 (i1+1)) fun z1 =>
 k2 z1
 )
 ) (
 k1 ()
 )
def Z28 (p0:List (api_Link)) (p1:List (api_Link)) (k1:Unit->Option Bool):Nat->Int->Option Bool
  | 0,_=>none
  | n+1,i1=>Z27 p0 p1 k1 (Z28 p0 p1 k1 n) i1
def Z3i (p0:List (api_Link)) (p1:List (api_Link)):Option Bool :=
 br ((decide ((p0.length:Int)>(p1.length:Int)))) (
 some false
 ) (
 jn (fun (_:Unit)=>some true) fun k1=>Z28 p0 p1 k1 big 0
 )
theorem Z8j {W:World} {r:Bool} {p0:List (api_Link)} {p1:List (api_Link)} {v0:Value} {v1:Value} (h:Z3i p0 p1=some r) (A0:RdSl E_api_Link W v0 p0) (A1:RdSl E_api_Link W v1 p1) :
    Calls Tryz.prog 87 [v0,v1].toArray W (Z36 W (.bool (r))):=by
 unfold Z3i at h
 refine Zc mo ok87 rfl ?_
 refine Z0<|Z2<|Z7 rfl<|Z1<|Z0<|Z0<|Z2<|Z7 rfl<|Z6 _ (Z22 rfl (Shp.rd A0))<|Z7 rfl<|Z6 _ (Z22 rfl (Shp.rd A1))<|Z6 _ (Z9 rfl rfl rfl)<|Z1<|Z02 h rfl (fun h=>?_) (fun h=>?_)
 ·refine Z0<|Z2<|Z7 rfl<|Z1<|Zi ?_
  revert h; refine Zt fun h=>?_
  subst h
  exact ⟨_,(.cons (.tmp rfl) .nil),rfl⟩
 ·refine Ze<|Z0<|Z0<|Z2<|Z7 rfl<|Z1<|jH h fun k1 q1 h=>Zm (G:=fun t m=>k1 ()=some r/\Fit [] [] t m) ?_ ?_
  ·refine Za<|Zp (fun n1 t m=>∃ (i1:Int),Z28 p0 p1 k1 n1 i1=some r/\Fit [(0,v0),(1,v1),(5,.int .i64 (i1))] [] t m) big ?_ ?_
   ·exact ⟨0,h,⟨⟨rfl,rfl,rfl,trivial⟩,.nil⟩⟩
   ·rintro n1 t m ⟨i1,h,hF⟩
    refine Zk hF ?_
    clear hF
    rcases n1 with _ | n1
    · exact Z0a h
    have h:Z27 p0 p1 k1 (Z28 p0 p1 k1 n1) i1=some r:=h
    unfold Z27 at h
    obtain ⟨k2,q2⟩ : ∃ k,k=Z28 p0 p1 k1 n1:=⟨_,rfl⟩
    try rw [<- q2] at h
    refine Z0<|Z0<|Z2<|Z7 rfl<|Z7 rfl<|Z6 _ (Z22 rfl (Shp.rd A0))<|Z6 _ (Z9 rfl rfl rfl)<|Z1<|Z02 h rfl (fun h=>?_) (fun h=>?_)
    ·refine Ze<|Z0<|Za<|Z0<|cH h fun c1 h=>bH h fun x1 j1 h=>cH h fun c2 h=>bH h fun x2 j2 h=>Zr<|Z8 _ (Z0u rfl)<|Z8 _ (Z0u rfl)<|Z8 _ (Z2t rfl rfl (Shp.rd A0) c1)<|Z8 _ (Z0u rfl)<|Z8 _ (Z0u rfl)<|Z8 _ (Z2t rfl rfl (Shp.rd A1) c2)<|Zn _ (az (fun (x1:api_Link)=>agg [.one (.int .i64 (x1.gEpoch)),b3' x1.gKey,b6' x1.gSig]) j1 (Zcc (E:=E_api_Link) (s:=[.one (.int .i64 (((p0.getD (i1).toNat api_Link_z)).gEpoch)),b3' (((p0.getD (i1).toNat api_Link_z)).gKey),b6' (((p0.getD (i1).toNat api_Link_z)).gSig)]) rfl (Z0d A0 Z0h) (Z03 c1) rfl rfl))<|Zn _ (az (fun (x2:api_Link)=>agg [.one (.int .i64 (x2.gEpoch)),b3' x2.gKey,b6' x2.gSig]) j2 (Zcc (E:=E_api_Link) (s:=[.one (.int .i64 (((p1.getD (i1).toNat api_Link_z)).gEpoch)),b3' (((p1.getD (i1).toNat api_Link_z)).gKey),b6' (((p1.getD (i1).toNat api_Link_z)).gSig)]) rfl (Z0d A1 Z0h) (Z03 c2) rfl rfl))<|Z8 _ (Zhj (s:=[.one (.int .i64 (x1.gEpoch)),b3' x1.gKey,b6' x1.gSig]) (s':=[.one (.int .i64 (x2.gEpoch)),b3' x2.gKey,b6' x2.gSig]) rfl rfl rfl rfl _ (Zc7 rfl Zon (Zc7 rfl Z4e (Z63 Z4e))))<|Z00<|Z02 h rfl (fun h=>?_) (fun h=>?_)
     ·refine Z0<|Z2<|Z7 rfl<|Z1<|Zi ?_
      revert h; refine Zt fun h=>?_
      subst h
      exact ⟨_,(.cons (.tmp rfl) .nil),rfl⟩
     ·refine Ze<|bH h fun z1 e1 h=>Z2<|Z7 rfl<|Z6 _ (iz e1 (Z9 rfl rfl rfl))<|Z7 rfl<|Z1 ?_
      rw [q2] at h
      exact ⟨n1,Nat.lt_succ_self _,z1,h,⟨⟨rfl,rfl,rfl,trivial⟩,.nil⟩⟩
    ·exact Zx _ rfl<|⟨h,⟨trivial,.nil⟩⟩
  ·rintro t m ⟨h,hF⟩
   refine Zk hF ?_
   clear hF
   subst q1
   refine Z0<|Z2<|Z7 rfl<|Z1<|Zi ?_
   revert h; refine Zt fun h=>?_
   subst h
   exact ⟨_,(.cons (.tmp rfl) .nil),rfl⟩
def Z42 (p0:LI) (p1:List (api_Link)) (p2:List (api_Link)):Option ((List (api_Link))×Int) :=
 opt (Z3j p0 p1) fun y1 =>
 br ((y1.2 != 0)) (
 some ([],y1.2)
 ) (
 opt (Z3j p0 p2) fun y2 =>
 br ((y2.2 != 0)) (
 some ([],y2.2)
 ) (
 opt (Z3i p1 p2) fun y3 =>
 br (y3) (
 some (p2,0)
 ) (
 opt (Z3i p2 p1) fun y4 =>
 br (y4) (
 some (p1,0)
 ) (
 some ([],171)
 )
 )
 )
 )
theorem Z98 {W:World} {r:(List (api_Link))×Int} {p0:LI} {p1:List (api_Link)} {p2:List (api_Link)} {v1:Value} {v2:Value} (h:Z42 p0 p1 p2=some r) (hG:Globs W) (A1:RdSl E_api_Link W v1 p1) (A2:RdSl E_api_Link W v2 p2) :
    Calls Tryz.prog 42 [agg [b3' p0],v1,v2].toArray W (Zc6 W [] (fun v Ms=>∃ (u0:Value),v = .tuple #[u0,.int .i64 (r.2)]/\Ms = []/\Shp u0 (r.1).length/\(∀ W,RdSl E_api_Link W v1 p1->RdSl E_api_Link W v2 p2->RdSl E_api_Link W u0 r.1))):=by
 unfold Z42 at h
 refine Z04 mo ok42 rfl (Zh8 _) ?_
 refine Z0<|Z2<|Zg (Z0k (s:=[b3' p0]) rfl fun b1 hb1=>Z7 rfl<|Z7 rfl<|Z1<|Z0<|oH h fun y1 f1 h=>Z2<|Z6 _ (Zy (p:=[b3' p0]) rfl .here rfl)<|Z7 rfl<|Zg (Z06 rfl (fun w hw=>Z8k  f1 (hG.at hw (by simp)) ((Z0d A1 Z0h) w hw)) fun v5 o1 R1=>?_))
 obtain ⟨v7,w1,rfl,rfl,O1⟩:=R1
 refine Z7 rfl<|Z6 _ (Z2i rfl rfl)<|Z6 _ (Z2i rfl rfl)<|Z7 rfl<|Z7 rfl<|Z1<|Z0<|Z0<|Z2<|Z7 rfl<|Z6 _ (Z9 rfl rfl rfl)<|Z1<|Z02 h rfl (fun h=>?_) (fun h=>?_)
 ·refine Z0<|Z2<|Z7 rfl<|Z7 rfl<|Z7 rfl<|Z1<|Zi ?_
  revert h; refine Zt fun h=>?_
  subst h
  exact ⟨_,_,(.cons (.tmp rfl) (.cons (.tmp rfl) .nil)),.nil,⟨_,rfl,⟨(.slice none 0 0),rfl,rfl,Shp.nil,(fun W A1 A2=>Zuk)⟩⟩⟩
 ·refine Ze<|Z0<|oH h fun y2 f2 h=>Z2<|Z6 _ (Zy (p:=[b3' p0]) rfl (.app .here) rfl)<|Z7 rfl<|Zg (Z06 rfl (fun w hw=>Z8k  f2 (hG.at hw (by simp)) ((Z0d A2 Z0h) w hw)) fun v15 o2 R2=>?_)
  obtain ⟨v17,w2,rfl,rfl,O2⟩:=R2
  refine Z7 rfl<|Z6 _ (Z2i rfl rfl)<|Z6 _ (Z2i rfl rfl)<|Z7 rfl<|Z7 rfl<|Z1<|Z0<|Z0<|Z2<|Z7 rfl<|Z6 _ (Z9 rfl rfl rfl)<|Z1<|Z02 h rfl (fun h=>?_) (fun h=>?_)
  ·refine Z0<|Z2<|Z7 rfl<|Z7 rfl<|Z7 rfl<|Z1<|Zi ?_
   revert h; refine Zt fun h=>?_
   subst h
   exact ⟨_,_,(.cons (.tmp rfl) (.cons (.tmp rfl) .nil)),.nil,⟨_,rfl,⟨(.slice none 0 0),rfl,rfl,Shp.nil,(fun W A1 A2=>Zuk)⟩⟩⟩
  ·refine Ze<|Z0<|Z0<|oH h fun y3 f3 h=>Z2<|Z7 rfl<|Z7 rfl<|Z6 _ (Z0p rfl (fun w hw=>Z8j f3 ((Z0d A1 Z0h) w hw) ((Z0d A2 Z0h) w hw)))<|Z1<|Z02 h rfl (fun h=>?_) (fun h=>?_)
   ·refine Z0<|Z2<|Z7 rfl<|Z7 rfl<|Z7 rfl<|Z1<|Zi ?_
    revert h; refine Zt fun h=>?_
    subst h
    exact ⟨_,_,(.cons (.tmp rfl) (.cons (.tmp rfl) .nil)),.nil,⟨_,rfl,⟨v2,rfl,rfl,(Shp.rd A2),(fun W A1 A2=>A2)⟩⟩⟩
   ·refine Ze<|Z0<|Z0<|oH h fun y4 f4 h=>Z2<|Z7 rfl<|Z7 rfl<|Z6 _ (Z0p rfl (fun w hw=>Z8j f4 ((Z0d A2 Z0h) w hw) ((Z0d A1 Z0h) w hw)))<|Z1<|Z02 h rfl (fun h=>?_) (fun h=>?_)
    ·refine Z0<|Z2<|Z7 rfl<|Z7 rfl<|Z7 rfl<|Z1<|Zi ?_
     revert h; refine Zt fun h=>?_
     subst h
     exact ⟨_,_,(.cons (.tmp rfl) (.cons (.tmp rfl) .nil)),.nil,⟨_,rfl,⟨v1,rfl,rfl,(Shp.rd A1),(fun W A1 A2=>A1)⟩⟩⟩
    ·refine Ze<|Z0<|Z2<|Z7 rfl<|Z7 rfl<|Z1<|Zi ?_
     revert h; refine Zt fun h=>?_
     subst h
     exact ⟨_,_,(.cons (.tmp rfl) (.cons (.tmp rfl) .nil)),.nil,⟨_,rfl,⟨(.slice none 0 0),rfl,rfl,Shp.nil,(fun W A1 A2=>Zuk)⟩⟩⟩
def Z1m (k1:(List (api_Link))->Option Bool) (k2:(List (api_Link))->Int->Option Bool) (l1:List (api_Link)) (i1:Int):Option Bool :=
 br ((decide (i1<64))) (
 chk (decide ((l1.length+([(⟨(-21),(replicate 32 0),(replicate 64 0)⟩:api_Link)]:List (api_Link)).length)*104<=140737488355328)) <|
 bnd (l1++([(⟨(-21),(replicate 32 0),(replicate 64 0)⟩:api_Link)]:List (api_Link))) fun l2 =>
 bnd (wrap .i64 (i1+1)) fun z1 =>
 k2 l2 z1
 ) (
 k1 l1
 )
def Z16 (k1:(List (api_Link))->Option Bool):Nat->(List (api_Link))->Int->Option Bool
  | 0,_,_=>none
  | n+1,l1,i1=>Z1m k1 (Z16 k1 n) l1 i1
def Z1n (k1:(List (api_Link))->Option Bool) (k2:(List (api_Link))->Int->Option Bool) (l1:List (api_Link)) (i1:Int):Option Bool :=
 br ((decide (i1<64))) (
 chk (decide ((l1.length+([(⟨(-22),(replicate 32 0),(replicate 64 0)⟩:api_Link)]:List (api_Link)).length)*104<=140737488355328)) <|
 bnd (l1++([(⟨(-22),(replicate 32 0),(replicate 64 0)⟩:api_Link)]:List (api_Link))) fun l2 =>
 bnd (wrap .i64 (i1+1)) fun z1 =>
 k2 l2 z1
 ) (
 k1 l1
 )
def Z17 (k1:(List (api_Link))->Option Bool):Nat->(List (api_Link))->Int->Option Bool
  | 0,_,_=>none
  | n+1,l1,i1=>Z1n k1 (Z17 k1 n) l1 i1
def Z1o (l1:List (api_Link)) (k1:Unit->Option Bool) (k2:Int->Option Bool) (i1:Int):Option Bool :=
 br ((decide (i1<(l1.length:Int)))) (
 chk (inB i1 l1.length) <|
 bnd (l1.getD (i1).toNat api_Link_z) fun x1 =>
 br ((!((x1.gEpoch==(-21))&&((ieq 32 x1.gKey (replicate 32 0))&&(ieq 64 x1.gSig (replicate 64 0)))))) (
 some false
 ) (
 bnd (wrap .i64 (i1+1)) fun z1 =>
 k2 z1
 )
 ) (
 k1 ()
 )
def Z18 (l1:List (api_Link)) (k1:Unit->Option Bool):Nat->Int->Option Bool
  | 0,_=>none
  | n+1,i1=>Z1o l1 k1 (Z18 l1 k1 n) i1
def Z3d (p0:List (api_Link)) (p1:List (api_Link)):Option Bool :=
 jn (fun (l1:List (api_Link))=>jn (fun (l2:List (api_Link))=>jn (fun (_:Unit)=>bnd (wrap .i64 ((p1.length:Int)+64)) fun z1 =>
 some ((l2.length:Int)==z1)) fun k1=>Z18 l1 k1 big (p0.length:Int)) fun k2=>Z17 k2 big p1 0) fun k3=>Z16 k3 big p0 0
theorem Zbn {W:World} {r:Bool} {p0:List (api_Link)} {p1:List (api_Link)} {v0:Value} {M1:List Zf} {v1:Value} {M2:List Zf} (h:Z3d p0 p1=some r) (h0:Sat W ((M1++M2).map (·.b)) (M1++(M2 ++ [])) W) (O1:Zh9 E_api_Link v0 M1 p0) (O2:Zh9 E_api_Link v1 M2 p1) :
    Calls Tryz.prog 44 [v0,v1].toArray W (Zc6 W ((M1++M2).map (·.b)) (fun v Ms=>∃ (X0:List Zf) (X1:List Zf),v = .bool (r)/\Ms = [.all X0,.all X1]/\Zh9 E_api_Link v0 X0 p0/\Zh9 E_api_Link v1 X1 p1)):=by
 unfold Z3d at h
 refine Z04 mo ok44 rfl h0 ?_
 refine Z0<|Z2<|Z7 rfl<|Z1<|Z0<|Z2<|Z7 rfl<|Z7 rfl<|Z1<|Z0<|Z2<|Z7 rfl<|Z7 rfl<|Z1<|Z0<|Z0<|Z2<|Z7 rfl<|Z1<|jH h fun k1 q1 h=>Zm (G:=fun t m=>∃ (l1:List (api_Link)) (v54:Value) (w1:List Zf),k1 l1=some r/\Z45 E_api_Link v0 p0 v54 l1 w1/\Fit [(0,v0),(1,v1),(5,v54),(6,v1)] (M2++(w1 ++ [])) t m) ?_ ?_
 ·refine Za<|Zp (fun n1 t m=>∃ (l2:List (api_Link)) (i1:Int) (v88:Value) (w2:List Zf),Z16 k1 n1 l2 i1=some r/\Z45 E_api_Link v0 p0 v88 l2 w2/\Fit [(0,v0),(1,v1),(5,v88),(6,v1),(7,.int .i64 (i1))] (M2++(w2 ++ [])) t m) big ?_ ?_
  ·exact ⟨p0,0,v0,M1,h,(Zh9.grow O1),⟨⟨rfl,rfl,rfl,rfl,rfl,trivial⟩,(.all (.app .here) (.all .here .nil))⟩⟩
  ·rintro n1 t m ⟨l2,i1,v88,w2,h,G91,hF⟩
   refine Zk hF ?_
   clear hF
   rcases n1 with _ | n1
   · exact Z0a h
   have h:Z1m k1 (Z16 k1 n1) l2 i1=some r:=h
   unfold Z1m at h
   obtain ⟨k2,q2⟩ : ∃ k,k=Z16 k1 n1:=⟨_,rfl⟩
   try rw [<- q2] at h
   refine Z0<|Z0<|Z2<|Z7 rfl<|Z6 _ (Z9 rfl rfl rfl)<|Z1<|Z02 h rfl (fun h=>?_) (fun h=>?_)
   ·refine Ze<|Z0<|Za<|cH h fun c1 h=>bH h fun l3 g1 h=>Z2<|Z7 rfl<|Z6 _ (Zct (q:=[.one (.int .i64 ((-21))),b3' (replicate 32 0),b6' (replicate 64 0)]) (.one rfl rfl rfl BdR.nil))<|Zg (Z5m (E:=E_api_Link) (xs:=[(⟨(-21),(replicate 32 0),(replicate 64 0)⟩:api_Link)]) (.agg rfl rfl rfl BdR.nil) (.cons (p:=[.one (.int .i64 ((-21))),b3' (replicate 32 0),b6' (replicate 64 0)]) rfl .nil) rfl fun v98 w3 O3=>Zg (Zok (E:=E_api_Link) g1 rfl G91 (.app (.app .here)) rfl (Z0f O3 .here) c1 fun v103 w4 O4=>Z7 rfl<|Z1<|bH h fun z1 e1 h=>Z2<|Z7 rfl<|Z6 _ (iz e1 (Z9 rfl rfl rfl))<|Z7 rfl<|Z1 ?_))
    rw [q2] at h
    exact ⟨n1,Nat.lt_succ_self _,l3,z1,v103,w4,h,O4,⟨⟨rfl,rfl,rfl,rfl,rfl,trivial⟩,(.all (.app (.app .here)) (.all .here .nil))⟩⟩
   ·exact Zx _ rfl<|⟨l2,v88,w2,h,G91,⟨⟨rfl,rfl,rfl,rfl,trivial⟩,(.all .here (.all .here .nil))⟩⟩
 ·rintro t m ⟨l1,v54,w1,h,G57,hF⟩
  refine Zk hF ?_
  clear hF
  subst q1
  refine Z0<|Z0<|Z2<|Z7 rfl<|Z1<|jH h fun k3 q3 h=>Zm (G:=fun t m=>∃ (l4:List (api_Link)) (v158:Value) (w5:List Zf),k3 l4=some r/\Z45 E_api_Link v1 p1 v158 l4 w5/\Fit [(0,v0),(1,v1),(5,v54),(6,v158)] (w1++(w5 ++ [])) t m) ?_ ?_
  ·refine Za<|Zp (fun n2 t m=>∃ (l5:List (api_Link)) (i2:Int) (v192:Value) (w6:List Zf),Z17 k3 n2 l5 i2=some r/\Z45 E_api_Link v1 p1 v192 l5 w6/\Fit [(0,v0),(1,v1),(5,v54),(6,v192),(8,.int .i64 (i2))] (w1++(w6 ++ [])) t m) big ?_ ?_
   ·exact ⟨p1,0,v1,M2,h,(Zh9.grow O2),⟨⟨rfl,rfl,rfl,rfl,rfl,trivial⟩,(.all (.app .here) (.all .here .nil))⟩⟩
   ·rintro n2 t m ⟨l5,i2,v192,w6,h,G195,hF⟩
    refine Zk hF ?_
    clear hF
    rcases n2 with _ | n2
    · exact Z0a h
    have h:Z1n k3 (Z17 k3 n2) l5 i2=some r:=h
    unfold Z1n at h
    obtain ⟨k4,q4⟩ : ∃ k,k=Z17 k3 n2:=⟨_,rfl⟩
    try rw [<- q4] at h
    refine Z0<|Z0<|Z2<|Z7 rfl<|Z6 _ (Z9 rfl rfl rfl)<|Z1<|Z02 h rfl (fun h=>?_) (fun h=>?_)
    ·refine Ze<|Z0<|Za<|cH h fun c2 h=>bH h fun l6 g2 h=>Z2<|Z7 rfl<|Z6 _ (Zct (q:=[.one (.int .i64 ((-22))),b3' (replicate 32 0),b6' (replicate 64 0)]) (.one rfl rfl rfl BdR.nil))<|Zg (Z5m (E:=E_api_Link) (xs:=[(⟨(-22),(replicate 32 0),(replicate 64 0)⟩:api_Link)]) (.agg rfl rfl rfl BdR.nil) (.cons (p:=[.one (.int .i64 ((-22))),b3' (replicate 32 0),b6' (replicate 64 0)]) rfl .nil) rfl fun v202 w7 O5=>Zg (Zok (E:=E_api_Link) g2 rfl G195 (.app (.app .here)) rfl (Z0f O5 .here) c2 fun v207 w8 O6=>Z7 rfl<|Z1<|bH h fun z2 e2 h=>Z2<|Z7 rfl<|Z6 _ (iz e2 (Z9 rfl rfl rfl))<|Z7 rfl<|Z1 ?_))
     rw [q4] at h
     exact ⟨n2,Nat.lt_succ_self _,l6,z2,v207,w8,h,O6,⟨⟨rfl,rfl,rfl,rfl,rfl,trivial⟩,(.all (.app (.app .here)) (.all .here .nil))⟩⟩
    ·exact Zx _ rfl<|⟨l5,v192,w6,h,G195,⟨⟨rfl,rfl,rfl,rfl,trivial⟩,(.all .here (.all .here .nil))⟩⟩
  ·rintro t m ⟨l4,v158,w5,h,G161,hF⟩
   refine Zk hF ?_
   clear hF
   subst q3
   refine Z0<|Z0<|Z2<|Z7 rfl<|Z6 _ (Z22 rfl (Zh9.shp (Z45.base G57)))<|Z7 rfl<|Z1<|jH h fun k5 q5 h=>Zm (G:=fun t m=>k5 ()=some r/\Fit [(1,v1),(6,v158)] (w1++(w5 ++ [])) t m) ?_ ?_
   ·refine Za<|Zp (fun n3 t m=>∃ (i3:Int),Z18 l1 k5 n3 i3=some r/\Fit [(1,v1),(5,v54),(6,v158),(9,.int .i64 (i3))] (w1++(w5 ++ [])) t m) big ?_ ?_
    ·exact ⟨(p0.length:Int),h,⟨⟨rfl,rfl,rfl,rfl,trivial⟩,(.all .here (.all .here .nil))⟩⟩
    ·rintro n3 t m ⟨i3,h,hF⟩
     refine Zk hF ?_
     clear hF
     rcases n3 with _ | n3
     · exact Z0a h
     have h:Z1o l1 k5 (Z18 l1 k5 n3) i3=some r:=h
     unfold Z1o at h
     obtain ⟨k6,q6⟩ : ∃ k,k=Z18 l1 k5 n3:=⟨_,rfl⟩
     try rw [<- q6] at h
     refine Z0<|Z0<|Z2<|Z7 rfl<|Z7 rfl<|Z6 _ (Z22 rfl (Z45.shp G57))<|Z6 _ (Z9 rfl rfl rfl)<|Z1<|Z02 h rfl (fun h=>?_) (fun h=>?_)
     ·refine Ze<|Z0<|Za<|Z0<|cH h fun c3 h=>bH h fun x1 j1 h=>Z2<|Z7 rfl<|Z7 rfl<|Z6 _ (Z2t rfl rfl (Z45.shp G57) c3)<|Z6 _ (az (fun (x1:api_Link)=>agg [.one (.int .i64 (x1.gEpoch)),b3' x1.gKey,b6' x1.gSig]) j1 (Zcc (E:=E_api_Link) (s:=[.one (.int .i64 (((l1.getD (i3).toNat api_Link_z)).gEpoch)),b3' (((l1.getD (i3).toNat api_Link_z)).gKey),b6' (((l1.getD (i3).toNat api_Link_z)).gSig)]) rfl (Z0it G57 .here) (Z03 c3) rfl rfl))<|Z6 _ (Zct (q:=[.one (.int .i64 ((-21))),b3' (replicate 32 0),b6' (replicate 64 0)]) (.one rfl rfl rfl BdR.nil))<|Z6 _ (Zhj (s:=[.one (.int .i64 (x1.gEpoch)),b3' x1.gKey,b6' x1.gSig]) (s':=[.one (.int .i64 ((-21))),b3' (replicate 32 0),b6' (replicate 64 0)]) rfl rfl rfl rfl _ (Zc7 rfl Zon (Zc7 rfl Z4e (Z63 Z4e))))<|Z1<|Z02 h rfl (fun h=>?_) (fun h=>?_)
      ·refine Z0<|Z2<|Z7 rfl<|Z1<|Zi ?_
       revert h; refine Zt fun h=>?_
       subst h
       exact ⟨_,_,(.cons (.tmp rfl) .nil),(.all .here (.all .here .nil)),⟨_,rfl,⟨w1,w5,rfl,rfl,(Z45.base G57),(Z45.base G161)⟩⟩⟩
      ·refine Ze<|bH h fun z3 e3 h=>Z2<|Z7 rfl<|Z6 _ (iz e3 (Z9 rfl rfl rfl))<|Z7 rfl<|Z1 ?_
       rw [q6] at h
       exact ⟨n3,Nat.lt_succ_self _,z3,h,⟨⟨rfl,rfl,rfl,rfl,trivial⟩,(.all .here (.all .here .nil))⟩⟩
     ·exact Zx _ rfl<|⟨h,⟨⟨rfl,rfl,trivial⟩,(.all .here (.all .here .nil))⟩⟩
   ·rintro t m ⟨h,hF⟩
    refine Zk hF ?_
    clear hF
    subst q5
    refine Z0<|bH h fun z4 e4 h=>Z2<|Z7 rfl<|Z6 _ (Z22 rfl (Z45.shp G161))<|Z7 rfl<|Z6 _ (Z22 rfl (Zh9.shp (Z45.base G161)))<|Z6 _ (iz e4 (Z9 rfl rfl rfl))<|Z6 _ (Z9 rfl rfl rfl)<|Z7 rfl<|Z1<|Zi ?_
    revert h; refine Zt fun h=>?_
    subst h
    exact ⟨_,_,(.cons (.tmp rfl) .nil),(.all .here (.all .here .nil)),⟨_,rfl,⟨w1,w5,rfl,rfl,(Z45.base G57),(Z45.base G161)⟩⟩⟩
def Z25 (n1:Int) (k1:(List (api_Link))->Option ((List (api_Link))×(List (api_Link)))) (k2:(List (api_Link))->Int->Option ((List (api_Link))×(List (api_Link)))) (l1:List (api_Link)) (i1:Int):Option ((List (api_Link))×(List (api_Link))) :=
 bnd (wrap .i64 (Int.tdiv n1 2)) fun z1 =>
 br ((decide (i1<z1))) (
 chk (inB i1 (n1).toNat) <|
 bnd (l1.getD (i1).toNat api_Link_z) fun x1 =>
 bnd (wrap .i64 (n1-1)) fun z2 =>
 bnd (wrap .i64 (z2-i1)) fun z3 =>
 chk (inB z3 (n1).toNat) <|
 bnd (l1.getD (z3).toNat api_Link_z) fun x2 =>
 chk (inB i1 (n1).toNat) <|
 bnd (l1.getD (i1).toNat api_Link_z) fun x3 =>
 bnd (Zdu api_Link_z l1 (i1).toNat x2) fun l2 =>
 chk (Z97 0 n1 l2.length) <|
 chk (Z97 0 n1 l2.length) <|
 chk (Z97 0 n1 l2.length) <|
 chk (Z97 0 n1 l2.length) <|
 bnd (wrap .i64 (n1-1)) fun z4 =>
 bnd (wrap .i64 (z4-i1)) fun z5 =>
 chk (inB z5 (n1).toNat) <|
 bnd (l2.getD (z5).toNat api_Link_z) fun x4 =>
 bnd (Zdu api_Link_z l2 (z5).toNat x1) fun l3 =>
 chk (Z97 0 n1 l3.length) <|
 chk (Z97 0 n1 l3.length) <|
 chk (Z97 0 n1 l3.length) <|
 chk (Z97 0 n1 l3.length) <|
 chk (Z97 0 n1 l3.length) <|
 bnd (wrap .i64 (i1+1)) fun z6 =>
 k2 l3 z6
 ) (
 k1 l1
 )
def Z26 (n1:Int) (k1:(List (api_Link))->Option ((List (api_Link))×(List (api_Link)))):Nat->(List (api_Link))->Int->Option ((List (api_Link))×(List (api_Link)))
  | 0,_,_=>none
  | n+1,l1,i1=>Z25 n1 k1 (Z26 n1 k1 n) l1 i1
def Z3h (p0:List (api_Link)) (n1:Int):Option ((List (api_Link))×(List (api_Link))) :=
 jn (fun (l1:List (api_Link))=>chk (decide ((([]:List (api_Link)).length+(l1.take (n1).toNat).length)*104<=140737488355328)) <|
 bnd (([]:List (api_Link))++(l1.take (n1).toNat)) fun l2 =>
 some (l2,l1)) fun k1=>Z26 n1 k1 big p0 0
theorem Z8i {W:World} {r:(List (api_Link))×(List (api_Link))} {p0:List (api_Link)} {n1:Int} {v0:Value} {M1:List Zf} (h:Z3h p0 n1=some r) (h0:Sat W (M1.map (·.b)) (M1 ++ []) W) (O1:Z0m E_api_Link v0 M1 p0) (N0:Z97 0 n1 p0.length=true) :
    Calls Tryz.prog 45 [(Z53 97 v0 0 (n1).toNat)].toArray W (Zc6 W (M1.map (·.b)) (fun v Ms=>∃ (u0:Value) (M1:List Zf) (X0:List Zf),v=u0/\Ms = [.all M1,.all X0]/\Z0m E_api_Link u0 M1 r.1/\Z0m E_api_Link v0 X0 r.2)):=by
 unfold Z3h at h
 refine Z04 mo ok45 rfl h0 ?_
 refine Z0<|Z2<|Z7 rfl<|Z1<|Z0<|Z2<|Z7 rfl<|Z6 _ (Z0f3 rfl (Shp.own O1) N0)<|Z7 rfl<|Z1<|Z0<|Z0<|Z2<|Z7 rfl<|Z1<|jH h fun k1 q1 h=>Zm (G:=fun t m=>∃ (l1:List (api_Link)) (w1:List Zf),k1 l1=some r/\Z0m E_api_Link v0 w1 l1/\Z97 0 n1 l1.length=true/\Fit [(0,(Z53 97 v0 0 (n1).toNat))] (w1 ++ []) t m) ?_ ?_
 ·refine Za<|Zp (fun n2 t m=>∃ (l2:List (api_Link)) (i1:Int) (w2:List Zf),Z26 n1 k1 n2 l2 i1=some r/\Z0m E_api_Link v0 w2 l2/\Z97 0 n1 l2.length=true/\Fit [(0,(Z53 97 v0 0 (n1).toNat)),(3,.int .i64 (n1)),(4,.int .i64 (i1))] (w2 ++ []) t m) big ?_ ?_
  ·exact ⟨p0,0,M1,h,O1,N0,⟨⟨rfl,rfl,rfl,trivial⟩,(.all .here .nil)⟩⟩
  ·rintro n2 t m ⟨l2,i1,w2,h,O2,H207,hF⟩
   refine Zk hF ?_
   clear hF
   rcases n2 with _ | n2
   · exact Z0a h
   have h:Z25 n1 k1 (Z26 n1 k1 n2) l2 i1=some r:=h
   unfold Z25 at h
   obtain ⟨k2,q2⟩ : ∃ k,k=Z26 n1 k1 n2:=⟨_,rfl⟩
   try rw [<- q2] at h
   refine Z0<|Z0<|bH h fun z1 e1 h=>Z2<|Z7 rfl<|Z7 rfl<|Z6 _ (iz e1 (Zb8 rfl rfl (by decide)))<|Z6 _ (Z9 rfl rfl rfl)<|Z1<|Z02 h rfl (fun h=>?_) (fun h=>?_)
   ·refine Ze<|Z0<|Za<|Z0<|cH h fun c1 h=>bH h fun x1 j1 h=>Z2<|Z7 rfl<|Z7 rfl<|Z6 _ (Zns rfl rfl (Shp.own O2) H207 c1)<|Z6 _ (az (fun (x1:api_Link)=>agg [.one (.int .i64 (x1.gEpoch)),b3' x1.gKey,b6' x1.gSig]) j1 (Zcc (E:=E_api_Link) (s:=[.one (.int .i64 (((l2.getD (i1).toNat api_Link_z)).gEpoch)),b3' (((l2.getD (i1).toNat api_Link_z)).gKey),b6' (((l2.getD (i1).toNat api_Link_z)).gSig)]) rfl (Z0f O2 .here) (Z03 (Zng H207 c1)) rfl rfl))<|Zg (Zv fun b1 hb1=>Zg (Zs (q:=[.one (.int .i64 (x1.gEpoch)),b3' x1.gKey,b6' x1.gSig]) rfl rfl rfl rfl rfl .here<|Z1<|Z0<|bH h fun z2 e2 h=>bH h fun z3 e3 h=>cH h fun c2 h=>bH h fun x2 j2 h=>cH h fun c3 h=>bH h fun x3 j3 h=>bH h fun l3 g1 h=>cH h fun c4 h=>cH h fun c5 h=>cH h fun c6 h=>cH h fun c7 h=>Z2<|Z7 rfl<|Z7 rfl<|Z7 rfl<|Z7 rfl<|Z6 _ (iz e2 (Z9 rfl rfl rfl))<|Z7 rfl<|Z6 _ (iz e3 (Z9 rfl rfl rfl))<|Z6 _ (Zns rfl rfl (Shp.own O2) H207 c2)<|Z6 _ (az (fun (x2:api_Link)=>agg [.one (.int .i64 (x2.gEpoch)),b3' x2.gKey,b6' x2.gSig]) j2 (Zcc (E:=E_api_Link) (s:=[.one (.int .i64 (((l2.getD (z3).toNat api_Link_z)).gEpoch)),b3' (((l2.getD (z3).toNat api_Link_z)).gKey),b6' (((l2.getD (z3).toNat api_Link_z)).gSig)]) rfl (Z0f O2 .t1) (Z03 (Zng H207 c2)) rfl rfl))<|Z6 _ (Zns rfl rfl (Shp.own O2) H207 c3)<|Zg (Zhz (E:=E_api_Link) g1 O2 .t1 rfl rfl rfl (Z03 (Zng H207 c3)) fun w3 O3=>Z1<|bH h fun z4 e4 h=>bH h fun z5 e5 h=>cH h fun c8 h=>bH h fun x4 j4 h=>bH h fun l4 g2 h=>cH h fun c9 h=>cH h fun c10 h=>cH h fun c11 h=>cH h fun c12 h=>cH h fun c13 h=>Z2<|Z7 rfl<|Z7 rfl<|Z6 _ (iz e4 (Z9 rfl rfl rfl))<|Z7 rfl<|Z6 _ (iz e5 (Z9 rfl rfl rfl))<|Z6 _ (Zy (p:=[.one (.int .i64 (x1.gEpoch)),b3' x1.gKey,b6' x1.gSig]) rfl (.app .here) rfl)<|Z6 _ (Zns rfl rfl (Shp.own O3) c4 c8)<|Zg (Zhz (E:=E_api_Link) g2 O3 .here rfl rfl rfl (Z03 (Zng c4 c8)) fun w4 O4=>Z1<|bH h fun z6 e6 h=>Z2<|Z7 rfl<|Z6 _ (iz e6 (Z9 rfl rfl rfl))<|Z7 rfl<|Z1 ?_))))
    rw [q2] at h
    exact ⟨n2,Nat.lt_succ_self _,l4,z6,w4,h,O4,c9,⟨⟨rfl,rfl,rfl,trivial⟩,(.all .here .nil)⟩⟩
   ·exact Zx _ rfl<|⟨l2,w2,h,O2,H207,⟨⟨rfl,trivial⟩,(.all .here .nil)⟩⟩
 ·rintro t m ⟨l1,w1,h,O5,H126,hF⟩
  refine Zk hF ?_
  clear hF
  subst q1
  refine Z0<|Z2<|Z7 rfl<|Z1<|Z0<|cH h fun c14 h=>bH h fun l5 g3 h=>Z2<|Z7 rfl<|Z7 rfl<|Zg (Z38 (E:=E_api_Link) g3 rfl Z39 .here rfl (Zk7 (Z0f O5 .here) H126) c14 fun v251 w5 O6=>Z7 rfl<|Z1<|Zi ?_)
  revert h; refine Zt fun h=>?_
  subst h
  exact ⟨_,_,(.cons (.tmp rfl) .nil),(.all .here (.all .here .nil)),⟨_,rfl,⟨v251,w5,w1,rfl,rfl,O6,O5⟩⟩⟩
end Go.Proofs.YtiflckckekjbnaaGreatDoor
namespace Go.Proofs.YtiflckckekjbnaaGreatDoor
open Go Go.Sx Go.RowKit
open List (replicate)
set_option linter.all false
set_option maxHeartbeats 400000
set_option maxRecDepth 100000
def Z11 (k1:(List (api_Link))->Option Bool) (k2:(List (api_Link))->Int->Option Bool) (l1:List (api_Link)) (i1:Int):Option Bool :=
 br ((decide (i1<(l1.length:Int)))) (
 chk (inB i1 l1.length) <|
 bnd (l1.getD (i1).toNat api_Link_z) fun x1 =>
 bnd (Zdu api_Link_z l1 (i1).toNat (⟨(-9),(replicate 32 0),(replicate 64 0)⟩:api_Link)) fun l2 =>
 bnd (IntKind.wrap .i64 (i1+1)) fun z1 =>
 k2 l2 z1
 ) (
 k1 l1
 )
def Z0n (k1:(List (api_Link))->Option Bool):Nat->(List (api_Link))->Int->Option Bool
  | 0,_,_=>none
  | n+1,l1,i1=>Z11 k1 (Z0n k1 n) l1 i1
def Z12 (k1:(List (api_Link))->Option Bool) (k2:(List (api_Link))->Int->Option Bool) (l1:List (api_Link)) (i1:Int):Option Bool :=
 br ((decide (i1<8))) (
 chk (decide ((l1.length+([(⟨(-10),(replicate 32 0),(replicate 64 0)⟩:api_Link)]:List (api_Link)).length)*104<=140737488355328)) <|
 bnd (l1++([(⟨(-10),(replicate 32 0),(replicate 64 0)⟩:api_Link)]:List (api_Link))) fun l2 =>
 bnd (IntKind.wrap .i64 (i1+1)) fun z1 =>
 k2 l2 z1
 ) (
 k1 l1
 )
def Z0o (k1:(List (api_Link))->Option Bool):Nat->(List (api_Link))->Int->Option Bool
  | 0,_,_=>none
  | n+1,l1,i1=>Z12 k1 (Z0o k1 n) l1 i1
def Z3m (p0:LI) (p1:List (api_Link)) (p2:List (api_Link)):Option Bool :=
 opt (Z3g p1) fun y1 =>
 opt (Z3g p2) fun y2 =>
 opt (Z77 p0 (y1.1.take (y1.2).toNat) (y2.1.take (y2.2).toNat)) fun y3 =>
 opt (Z42 p0 p1 p2) fun y4 =>
 opt (Z77 p0 (y1.1.take (y1.2).toNat) (y2.1.take (y2.2).toNat)) fun y5 =>
 opt (Z0l y3.1 y4.1) fun y6 =>
 br (((!y6)||(y3.2 != y4.2))) (
 some false
 ) (
 jn (fun (l1:List (api_Link))=>jn (fun (l2:List (api_Link))=>jn (fun (i1:Bool)=>br (i1) (
 some false
 ) (
 opt (Z3h y1.1 y1.2) fun y7 =>
 chk (Z97 0 y1.2 y7.2.length) <|
 chk (Z97 0 y1.2 y7.2.length) <|
 opt (Z3h y2.1 y2.2) fun y8 =>
 chk (Z97 0 y2.2 y8.2.length) <|
 chk (Z97 0 y2.2 y8.2.length) <|
 opt (Z77 p0 (y7.2.take (y1.2).toNat) (y8.2.take (y2.2).toNat)) fun y9 =>
 opt (Z42 p0 y7.1 y8.1) fun y10 =>
 opt (Z0l y9.1 y10.1) fun y11 =>
 chk (imp (y11&&(y9.2==y10.2)) ((Z0w y7.2 y1.2 y7.1).isSome)) <|
 chk (imp ((y11&&(y9.2==y10.2))&&((Z0w y7.2 y1.2 y7.1).getD false)) ((Z0w y8.2 y2.2 y8.1).isSome)) <|
 some (((y11&&(y9.2==y10.2))&&((Z0w y7.2 y1.2 y7.1).getD false))&&((Z0w y8.2 y2.2 y8.1).getD false))
 )) fun k1=>bnd (IntKind.wrap .i64 ((y4.1.length:Int)+8)) fun z1 =>
 chk (imp (!((l2.length:Int) != z1)) ((Z0l y5.1 y4.1).isSome)) <|
 chk (imp (!(((l2.length:Int) != z1)||(!((Z0l y5.1 y4.1).getD false)))) ((Z0w y1.1 y1.2 p1).isSome)) <|
 chk (imp (!((((l2.length:Int) != z1)||(!((Z0l y5.1 y4.1).getD false)))||(!((Z0w y1.1 y1.2 p1).getD false)))) ((Z0w y2.1 y2.2 p2).isSome)) <|
 br ((((((l2.length:Int) != z1)||(!((Z0l y5.1 y4.1).getD false)))||(!((Z0w y1.1 y1.2 p1).getD false)))||(!((Z0w y2.1 y2.2 p2).getD false)))) (
 k1 true
 ) (
 opt (Z3d l1 y5.1) fun y12 =>
 k1 (!y12)
 )) fun k2=>Z0o k2 big l1 0) fun k3=>Z0n k3 big y3.1 0
 )
theorem fareboxlaw30_RotateMerges_spec {W:World} {r:Bool} {p0:LI} {p1:List (api_Link)} {p2:List (api_Link)} {v1:Value} {v2:Value} (h:Z3m p0 p1 p2=some r) (hG:Globs W) (A1:RdSl E_api_Link W v1 p1) (A2:RdSl E_api_Link W v2 p2) :
    Calls Tryz.prog 8 [agg [b3' p0],v1,v2].toArray W (Z36 W (.bool (r))):=by
 unfold Z3m at h
 refine Zc mo ok8 rfl ?_
 refine Z0<|Z2<|Zg (Z0k (s:=[b3' p0]) rfl fun b1 u1=>Z7 rfl<|Z1<|Z0<|oH h fun y1 f1 h=>Z2<|Z7 rfl<|Zg (Z06 rfl (fun w hw=>Z8h  f1 ((Z0d A1 Z0h) w hw)) fun v5 o1 R1=>?_))
 obtain ⟨v7,w1,rfl,rfl,O1,H10⟩:=R1
 refine Z7 rfl<|Z1<|Z0<|oH h fun y2 f2 h=>Z2<|Z7 rfl<|Zg (Z06 rfl (fun w hw=>Z8h  f2 ((Z0d A2 Z0h) w hw)) fun v13 o2 R2=>?_)
 obtain ⟨v15,w2,rfl,rfl,O2,H18⟩:=R2
 refine Z7 rfl<|Z1<|Z0<|oH h fun y3 f3 h=>Z2<|Z6 _ (Zy (p:=[b3' p0]) rfl (.app (.app .here)) rfl)<|Z7 rfl<|Z7 rfl<|Zg (Z06 rfl (fun w hw=>Za0  f3 (hG.at hw (by simp)) ((Zk7 (Z0f O1 (.app .here)) H10) w hw) ((Zk7 (Z0f O2 .here) H18) w hw)) fun v21 o3 R3=>?_)
 obtain ⟨v23,w3,rfl,rfl,O3⟩:=R3
 refine Z7 rfl<|Z6 _ (Z2i rfl rfl)<|Z6 _ (Z2i rfl rfl)<|Z7 rfl<|Z7 rfl<|Z1<|Z0<|oH h fun y4 f4 h=>Z2<|Z6 _ (Zy (p:=[b3' p0]) rfl (.app (.app (.app .here))) rfl)<|Z7 rfl<|Z7 rfl<|Zg (Z06 rfl (fun w hw=>Z98  f4 (hG.at hw (by simp)) ((Z0d A1 Z0h) w hw) ((Z0d A2 Z0h) w hw)) fun v28 o4 R4=>?_)
 obtain ⟨v30,rfl,rfl,P32,H31⟩:=R4
 refine Z7 rfl<|Z6 _ (Z2i rfl rfl)<|Z6 _ (Z2i rfl rfl)<|Z7 rfl<|Z7 rfl<|Z1<|Z0<|oH h fun y5 f5 h=>Z2<|Z6 _ (Zy (p:=[b3' p0]) rfl (.app (.app (.app .here))) rfl)<|Z7 rfl<|Z7 rfl<|Zg (Z06 rfl (fun w hw=>Za0  f5 (hG.at hw (by simp)) ((Zk7 (Z0f O1 (.app (.app .here))) H10) w hw) ((Zk7 (Z0f O2 (.app .here)) H18) w hw)) fun v35 o5 R5=>?_)
 obtain ⟨v37,w4,rfl,rfl,O4⟩:=R5
 refine Z7 rfl<|Z6 _ (Z2i rfl rfl)<|Z6 _ (Z2i rfl rfl)<|Z7 rfl<|Z7 rfl<|Z1<|Z0<|Z0<|oH h fun y6 f6 h=>Z2<|Z7 rfl<|Z7 rfl<|Z6 _ (Z0p rfl (fun w hw=>Z2y f6 ((Z0f O3 (.app .here)) w hw) ((Zpc H31 (Z0d A1 Z0h) (Z0d A2 Z0h)) w hw)))<|Z6 _ (Zl0 rfl rfl)<|Z7 rfl<|Zhp rfl rfl rfl (fun hg1=>Z5h rfl _ (Z0u rfl) (Z5h rfl _ (Z0u rfl) (Z5h rfl _ (Z9 rfl rfl rfl) (Z5f)))) (fun hg1=>rfl) rfl<|Z1<|Z02 h rfl (fun h=>?_) (fun h=>?_)
 ·refine Z0<|Z2<|Z7 rfl<|Z1<|Zi ?_
  revert h; refine Zt fun h=>?_
  subst h
  exact ⟨_,(.cons (.tmp rfl) .nil),rfl⟩
 ·refine Ze<|Z0<|Z0<|Z2<|Z7 rfl<|Z1<|jH h fun k1 q1 h=>Zm (G:=fun t m=>∃ (l1:List (api_Link)) (v86:Value) (w5:List Zf),k1 l1=some r/\Z0m E_api_Link v86 w5 l1/\Fit [(1,v1),(2,v2),(3,pt' b1),(7,(Z53 97 v7 0 (y1.2).toNat)),(8,(Z53 97 v15 0 (y2.2).toNat)),(9,v86),(11,v30),(13,v37)] (w4++(w2++(w1++(ck b1 29 [b3' p0]::(w5 ++ []))))) t m) ?_ ?_
  ·refine Za<|Zp (fun n1 t m=>∃ (l2:List (api_Link)) (i1:Int) (v115:Value) (w6:List Zf),Z0n k1 n1 l2 i1=some r/\Z0m E_api_Link v115 w6 l2/\Fit [(1,v1),(2,v2),(3,pt' b1),(7,(Z53 97 v7 0 (y1.2).toNat)),(8,(Z53 97 v15 0 (y2.2).toNat)),(9,v115),(11,v30),(13,v37),(15,.int .i64 (i1))] (w4++(w2++(w1++(ck b1 29 [b3' p0]::(w6 ++ []))))) t m) big ?_ ?_
   ·exact ⟨y3.1,0,v23,w3,h,O3,⟨⟨rfl,rfl,rfl,rfl,rfl,rfl,rfl,rfl,rfl,trivial⟩,(.all .here (.all (.app .here) (.all (.app .here) (.one (.app .here) (.all .here .nil)))))⟩⟩
   ·rintro n1 t m ⟨l2,i1,v115,w6,h,O5,hF⟩
    refine Zk hF ?_
    clear hF
    rcases n1 with _ | n1
    · exact Z0a h
    have h:Z11 k1 (Z0n k1 n1) l2 i1=some r:=h
    unfold Z11 at h
    obtain ⟨k2,q2⟩ : ∃ k,k=Z0n k1 n1:=⟨_,rfl⟩
    try rw [<- q2] at h
    refine Z0<|Z0<|Z2<|Z7 rfl<|Z7 rfl<|Z6 _ (Z22 rfl (Shp.own O5))<|Z6 _ (Z9 rfl rfl rfl)<|Z1<|Z02 h rfl (fun h=>?_) (fun h=>?_)
    ·refine Ze<|Z0<|Za<|cH h fun c1 h=>bH h fun x1 j1 h=>bH h fun l3 g1 h=>Z2<|Z7 rfl<|Z7 rfl<|Z6 _ (Zct (q:=[.one (.int .i64 ((-9))),b3' (replicate 32 0),b6' (replicate 64 0)]) (.one rfl rfl rfl BdR.nil))<|Z6 _ (Z2t rfl rfl (Shp.own O5) c1)<|Zg (Zhz (E:=E_api_Link) g1 O5 (.app (.app (.app .t1))) rfl rfl rfl (Z03 c1) fun w7 O6=>Z1<|bH h fun z1 e1 h=>Z2<|Z7 rfl<|Z6 _ (iz e1 (Z9 rfl rfl rfl))<|Z7 rfl<|Z1 ?_)
     rw [q2] at h
     exact ⟨n1,Nat.lt_succ_self _,l3,z1,v115,w7,h,O6,⟨⟨rfl,rfl,rfl,rfl,rfl,rfl,rfl,rfl,rfl,trivial⟩,(.all (.app .here) (.all (.app .here) (.all (.app .here) (.one (.app .here) (.all .here .nil)))))⟩⟩
    ·exact Zx _ rfl<|⟨l2,v115,w6,h,O5,⟨⟨rfl,rfl,rfl,rfl,rfl,rfl,rfl,rfl,trivial⟩,(.all .here (.all .here (.all .here (.o (.all .here .nil)))))⟩⟩
  ·rintro t m ⟨l1,v86,w5,h,O7,hF⟩
   refine Zk hF ?_
   clear hF
   subst q1
   refine Z0<|Z2<|Z7 rfl<|Z7 rfl<|Z1<|Z0<|Z0<|Z2<|Z7 rfl<|Z1<|jH h fun k3 q3 h=>Zm (G:=fun t m=>∃ (l4:List (api_Link)) (v183:Value) (w8:List Zf),k3 l4=some r/\Z45 E_api_Link v86 l1 v183 l4 w8/\Fit [(1,v1),(2,v2),(3,pt' b1),(7,(Z53 97 v7 0 (y1.2).toNat)),(8,(Z53 97 v15 0 (y2.2).toNat)),(9,v86),(11,v30),(13,v37),(16,v183)] (w4++(w2++(w1++(ck b1 29 [b3' p0]::(w8 ++ []))))) t m) ?_ ?_
   ·refine Za<|Zp (fun n2 t m=>∃ (l5:List (api_Link)) (i2:Int) (v217:Value) (w9:List Zf),Z0o k3 n2 l5 i2=some r/\Z45 E_api_Link v86 l1 v217 l5 w9/\Fit [(1,v1),(2,v2),(3,pt' b1),(7,(Z53 97 v7 0 (y1.2).toNat)),(8,(Z53 97 v15 0 (y2.2).toNat)),(9,v86),(11,v30),(13,v37),(16,v217),(17,.int .i64 (i2))] (w4++(w2++(w1++(ck b1 29 [b3' p0]::(w9 ++ []))))) t m) big ?_ ?_
    ·exact ⟨l1,0,v86,w5,h,(Zh9.grow (Z0m.oin O7)),⟨⟨rfl,rfl,rfl,rfl,rfl,rfl,rfl,rfl,rfl,rfl,trivial⟩,(.all .here (.all .here (.all .here (.o (.all .here .nil)))))⟩⟩
    ·rintro n2 t m ⟨l5,i2,v217,w9,h,G220,hF⟩
     refine Zk hF ?_
     clear hF
     rcases n2 with _ | n2
     · exact Z0a h
     have h:Z12 k3 (Z0o k3 n2) l5 i2=some r:=h
     unfold Z12 at h
     obtain ⟨k4,q4⟩ : ∃ k,k=Z0o k3 n2:=⟨_,rfl⟩
     try rw [<- q4] at h
     refine Z0<|Z0<|Z2<|Z7 rfl<|Z6 _ (Z9 rfl rfl rfl)<|Z1<|Z02 h rfl (fun h=>?_) (fun h=>?_)
     ·refine Ze<|Z0<|Za<|cH h fun c2 h=>bH h fun l6 g2 h=>Z2<|Z7 rfl<|Z6 _ (Zct (q:=[.one (.int .i64 ((-10))),b3' (replicate 32 0),b6' (replicate 64 0)]) (.one rfl rfl rfl BdR.nil))<|Zg (Z5m (E:=E_api_Link) (xs:=[(⟨(-10),(replicate 32 0),(replicate 64 0)⟩:api_Link)]) (.agg rfl rfl rfl BdR.nil) (.cons (p:=[.one (.int .i64 ((-10))),b3' (replicate 32 0),b6' (replicate 64 0)]) rfl .nil) rfl fun v227 w10 O8=>Zg (Zok (E:=E_api_Link) g2 rfl G220 (.app (.app (.app (.app .t1)))) rfl (Z0f O8 .here) c2 fun v232 w11 O9=>Z7 rfl<|Z1<|bH h fun z2 e2 h=>Z2<|Z7 rfl<|Z6 _ (iz e2 (Z9 rfl rfl rfl))<|Z7 rfl<|Z1 ?_))
      rw [q4] at h
      exact ⟨n2,Nat.lt_succ_self _,l6,z2,v232,w11,h,O9,⟨⟨rfl,rfl,rfl,rfl,rfl,rfl,rfl,rfl,rfl,rfl,trivial⟩,(.all (.app (.app .here)) (.all (.app (.app .here)) (.all (.app (.app .here)) (.one (.app (.app .here)) (.all .here .nil)))))⟩⟩
     ·exact Zx _ rfl<|⟨l5,v217,w9,h,G220,⟨⟨rfl,rfl,rfl,rfl,rfl,rfl,rfl,rfl,rfl,trivial⟩,(.all .here (.all .here (.all .here (.o (.all .here .nil)))))⟩⟩
   ·rintro t m ⟨l4,v183,w8,h,G186,hF⟩
    refine Zk hF ?_
    clear hF
    subst q3
    refine Z0<|Z0<|jH h fun k5 q5 h=>Zm (G:=fun t m=>∃ (i3:Bool),k5 i3=some r/\Fit [(3,pt' b1),(7,(Z53 97 v7 0 (y1.2).toNat)),(8,(Z53 97 v15 0 (y2.2).toNat)),(102,.bool (i3))] (w2++(w1++(ck b1 29 [b3' p0] :: []))) t m) ?_ ?_
    ·refine Z2<|bH h fun z3 e3 h=>cH h fun c3 h=>cH h fun c4 h=>cH h fun c5 h=>Z7 rfl<|Z6 _ (Z22 rfl (Z45.shp G186))<|Z7 rfl<|Z6 _ (Z22 rfl P32)<|Z6 _ (iz e3 (Z9 rfl rfl rfl))<|Z6 _ (Z9 rfl rfl rfl)<|Z7 rfl<|Zhp rfl rfl rfl (fun hg1=>Z5h rfl _ (Z0u rfl) (Z5h rfl _ (Z0u rfl) (Z5h rfl _ (Z0p rfl (fun w hw=>Z2y (getD_some (z:=false) (Zll c3 hg1)) ((Z0f O4 .here) w hw) ((Zpc H31 (Z0d A1 Z0h) (Z0d A2 Z0h)) w hw))) (Z5h rfl _ (Zl0 rfl rfl) (Z5f))))) (fun hg1=>rfl) rfl<|Z7 rfl<|Zhp rfl rfl rfl (fun hg1=>Z5h rfl _ (Z0u rfl) (Z5h rfl _ (Z0u rfl) (Z5h rfl _ (Z0p rfl (fun w hw=>Z4x (getD_some (z:=false) (Zll c4 hg1)) ((Z0f O1 (.app (.app .here))) w hw) H10 ((Z0d A1 Z0h) w hw))) (Z5h rfl _ (Zl0 rfl rfl) (Z5f))))) (fun hg1=>rfl) rfl<|Z7 rfl<|Zhp rfl rfl rfl (fun hg1=>Z5h rfl _ (Z0u rfl) (Z5h rfl _ (Z0u rfl) (Z5h rfl _ (Z0p rfl (fun w hw=>Z4x (getD_some (z:=false) (Zll c5 hg1)) ((Z0f O2 (.app .here)) w hw) H18 ((Z0d A2 Z0h) w hw))) (Z5h rfl _ (Zl0 rfl rfl) (Z5f))))) (fun hg1=>rfl) rfl<|Z7 rfl<|Z0t0 (tc:=97) h rfl (fun h=>?_) (fun h=>?_)
     ·exact Z03g rfl rfl<|Z03g rfl rfl<|Z03g rfl rfl<|Z03g rfl rfl<|Z6 _ (Z0ew rfl rfl)<|Z1<|⟨true,h,⟨⟨rfl,rfl,rfl,rfl,trivial⟩,(.all (.app .here) (.all (.app .here) (.one (.app .here) .nil)))⟩⟩
     ·refine oH h fun y7 f7 h=>Z089 rfl _ (Z0u rfl)<|Z089 rfl _ (Z0u rfl)<|Z0t1 rfl (Z3l (mS:=w8++w4) rfl (Z0et (.app (.app (.app .t1))) .here) (fun w hw=>Zbn  f7 (Z02y hw (Z0et (.app (.app (.app .t1))) .here)) (Z45.base G186) (Z0m.oin O4)) fun v257 o6 R6=>?_)
      obtain ⟨w12,w13,rfl,rfl,O10,O11⟩:=R6
      exact Z089 rfl _ (Zl0 rfl rfl)<|Z6 _ (Z0ev rfl rfl)<|Z1<|⟨(!y7),h,⟨⟨rfl,rfl,rfl,rfl,trivial⟩,(.all (.app (.app .here)) (.all (.app (.app .here)) (.one (.app (.app .here)) .nil)))⟩⟩
    ·rintro t m ⟨i3,h,hF⟩
     refine Zk hF ?_
     clear hF
     subst q5
     refine Z02 h rfl (fun h=>?_) (fun h=>?_)
     ·refine Z0<|Z2<|Z7 rfl<|Z1<|Zi ?_
      revert h; refine Zt fun h=>?_
      subst h
      exact ⟨_,(.cons (.tmp rfl) .nil),rfl⟩
     ·refine Ze<|Z0<|oH h fun y8 f8 h=>cH h fun c6 h=>cH h fun c7 h=>Z2<|Z7 rfl<|Zg (Z3l (mS:=w1) rfl (Take.perm (.app .here)) (fun w hw=>Z8i  f8 (Zut hw (Take.perm (.app .here))) O1 H10) fun v267 o7 R7=>?_)
      obtain ⟨_,w14,w15,rfl,rfl,O12,O13⟩:=R7
      refine Z7 rfl<|Z1<|Z0<|oH h fun y9 f9 h=>cH h fun c8 h=>cH h fun c9 h=>Z2<|Z7 rfl<|Zg (Z3l (mS:=w2) rfl (Take.perm (.app (.app .here))) (fun w hw=>Z8i  f9 (Zut hw (Take.perm (.app (.app .here)))) O2 H18) fun v278 o8 R8=>?_)
      obtain ⟨_,w16,w17,rfl,rfl,O14,O15⟩:=R8
      refine Z7 rfl<|Z1<|Z0<|oH h fun y10 f10 h=>Z2<|Z6 _ (Zy (p:=[b3' p0]) rfl (.app (.app (.app (.app .here)))) rfl)<|Z7 rfl<|Z7 rfl<|Zg (Z06 rfl (fun w hw=>Za0  f10 (hG.at hw (by simp)) ((Zk7 (Z0f O13 (.app (.app (.app .here)))) c6) w hw) ((Zk7 (Z0f O15 (.app .here)) c8) w hw)) fun v289 o9 R9=>?_)
      obtain ⟨v291,w18,rfl,rfl,O16⟩:=R9
      refine Z7 rfl<|Z6 _ (Z2i rfl rfl)<|Z6 _ (Z2i rfl rfl)<|Z7 rfl<|Z7 rfl<|Z1<|Z0<|oH h fun y11 f11 h=>Z2<|Z6 _ (Zy (p:=[b3' p0]) rfl (.app (.app (.app (.app (.app .here))))) rfl)<|Z7 rfl<|Z7 rfl<|Zg (Z06 rfl (fun w hw=>Z98  f11 (hG.at hw (by simp)) ((Z0f O12 (.app (.app (.app .here)))) w hw) ((Z0f O14 (.app .here)) w hw)) fun v296 o10 R10=>?_)
      obtain ⟨v298,rfl,rfl,P300,H299⟩:=R10
      refine Z7 rfl<|Z6 _ (Z2i rfl rfl)<|Z6 _ (Z2i rfl rfl)<|Z7 rfl<|Z7 rfl<|Z1<|Z0<|oH h fun y12 f12 h=>cH h fun c10 h=>cH h fun c11 h=>Z2<|Z7 rfl<|Z7 rfl<|Z6 _ (Z0p rfl (fun w hw=>Z2y f12 ((Z0f O16 .here) w hw) ((Zpc H299 (Z0f O12 (.app (.app (.app .here)))) (Z0f O14 (.app .here))) w hw)))<|Z7 rfl<|Zmn rfl rfl rfl (fun hg1=>Z5h rfl _ (Z0u rfl) (Z5h rfl _ (Z0u rfl) (Z5h rfl _ (Z9 rfl rfl rfl) (Z5f)))) (fun hg1=>rfl) rfl<|Z7 rfl<|Zmn rfl rfl rfl (fun hg1=>Z5h rfl _ (Z0u rfl) (Z5h rfl _ (Z0u rfl) (Z5h rfl _ (Z0p rfl (fun w hw=>Z4x (getD_some (z:=false) (Zq8 c10 hg1)) ((Z0f O13 (.app (.app (.app (.app .here))))) w hw) c6 ((Z0f O12 (.app (.app (.app .here)))) w hw))) (Z5f)))) (fun hg1=>rfl) rfl<|Z7 rfl<|Zmn rfl rfl rfl (fun hg1=>Z5h rfl _ (Z0u rfl) (Z5h rfl _ (Z0u rfl) (Z5h rfl _ (Z0p rfl (fun w hw=>Z4x (getD_some (z:=false) (Zq8 c11 hg1)) ((Z0f O15 (.app (.app .here))) w hw) c8 ((Z0f O14 (.app .here)) w hw))) (Z5f)))) (fun hg1=>rfl) rfl<|Z7 rfl<|Z1<|Zi ?_
      revert h; refine Zt fun h=>?_
      subst h
      exact ⟨_,(.cons (.tmp rfl) .nil),rfl⟩
end Go.Proofs.YtiflckckekjbnaaGreatDoor

namespace Go.Proofs.YtiflckckekjbnaaGreatDoor
open Go Go.Sx Go.RowKit
set_option linter.all false
theorem Zed (x:Int):IntKind.u64.wrap x=x%18446744073709551616:=by simp [IntKind.wrap,IntKind.bits,IntKind.signed]
theorem Z0s (x:Int):IntKind.u8.wrap x=x%256:=by simp [IntKind.wrap,IntKind.bits,IntKind.signed]
theorem Zd {x:Int} (h0:0<=x) (h1:x<18446744073709551616):IntKind.u64.wrap x=x:=by rw [Zed]; omega
theorem Zj {x:Int} (h0 : -9223372036854775808<=x) (h1:x<=9223372036854775807):IntKind.i64.wrap x=x:=by rw [IntKind.wrap_i64]; omega
theorem bv64 (m:Nat) (h:m<18446744073709551616):(BitVec.ofInt 64 (m:Int)).toNat=m:=by
 rw [BitVec.toNat_ofInt]; simp; omega
theorem bv8 (m:Nat) (h:m<256):(BitVec.ofInt 8 (m:Int)).toNat=m:=by
 rw [BitVec.toNat_ofInt]; simp; omega
theorem Z0jw {x y:Int} (m n:Nat) (hx:x=m) (hy:y=n) (h1:m<18446744073709551616) (h2:n<18446744073709551616):Z4 .and .u64 x y=((m &&& n:Nat):Int):=by
 subst hx; subst hy
 show IntKind.u64.wrap (((BitVec.ofInt 64 (m:Int) &&& BitVec.ofInt 64 (n:Int)).toNat:Nat):Int)=_
 rw [BitVec.toNat_and,bv64 m h1,bv64 n h2,Zd (by omega)]
 have:m &&& n<=m:=Nat.and_le_left
 omega
theorem or64 {x y:Int} (m n:Nat) (hx:x=m) (hy:y=n) (h1:m<18446744073709551616) (h2:n<18446744073709551616):Z4 .or .u64 x y=((m ||| n:Nat):Int):=by
 subst hx; subst hy
 show IntKind.u64.wrap (((BitVec.ofInt 64 (m:Int) ||| BitVec.ofInt 64 (n:Int)).toNat:Nat):Int)=_
 rw [BitVec.toNat_or,bv64 m h1,bv64 n h2,Zd (by omega)]
 have:m ||| n<2^64:=Nat.or_lt_two_pow (by simpa using h1) (by simpa using h2)
 simp at this; omega
theorem Ziu (k:Nat) {x y:Int} (hy:y=((2^k-1:Nat):Int)) (hk:2^k<=18446744073709551616) (h0:0<=x) (h1:x<18446744073709551616):Z4 .and .u64 x y=x%((2^k:Nat):Int):=by
 have hp:0<2^k:=Nat.pow_pos (by decide)
 rw [Z0jw x.toNat (2^k-1) (by omega) hy (by omega) (by omega),Nat.and_two_pow_sub_one_eq_mod]
 rw [Int.natCast_emod]
 congr 1; omega
theorem Zof {x:Int} (h0:0<=x) (h1:x<18446744073709551616):Z4 .and .u64 x 2251799813685247=x%2251799813685248:=Ziu 51 (by decide) (by decide) h0 h1
theorem Z051 {x:Int} (h0:0<=x) (h1:x<18446744073709551616):Z4 .and .u64 x 4294967295=x%4294967296:=Ziu 32 (by decide) (by decide) h0 h1
theorem Zu8 (k:Nat) {x y a:Int} (hx:x=a*((2^k:Nat):Int)) (ha:0<=a) (h0:0<=y) (hy:y<((2^k:Nat):Int)) (h1:x+y<18446744073709551616):Z4 .or .u64 x y=x+y:=by
 have hp:(0:Int)<=((2^k:Nat):Int):=Int.natCast_nonneg _
 have hx0:0<=x:=by rw [hx]; exact Int.mul_nonneg ha hp
 rw [or64 x.toNat y.toNat (by omega) (by omega) (by omega) (by omega)]
 have e:x.toNat=a.toNat <<< k:=by
  rw [Nat.shiftLeft_eq]
  have:(x.toNat:Int)=((a.toNat*2^k:Nat):Int):=by
   rw [Int.natCast_mul,Int.toNat_of_nonneg hx0,Int.toNat_of_nonneg ha,hx]
  exact Int.ofNat_inj.1 this
 rw [e,<- Nat.shiftLeft_add_eq_or_of_lt (by omega:y.toNat<2^k),<- e]
 omega
theorem Z9p (k:IntKind) {x:Int} {n:Nat} (h:n<=k.bits):Zq k x (n:Int)=x / ((2^n:Nat):Int):=by
 simp only [Zq,Int.toNat_natCast,Nat.min_eq_left h]
 rw [Int.fdiv_eq_ediv_of_nonneg]
 ·simp
 ·exact Int.le_of_lt (Int.pow_pos (by decide))
theorem Zw5 (x:Int):Zq .u64 x 51=x / 2251799813685248:=by have:=Z9p .u64 (x:=x) (n:=51) (by decide); simpa using this
theorem Z0su (x:Int):Zq .u64 x 32=x / 4294967296:=by have:=Z9p .u64 (x:=x) (n:=32) (by decide); simpa using this
theorem Zg0 (k:IntKind) {x:Int} {n:Nat} (h:n<=k.bits):Zl k x (n:Int)=k.wrap (x*((2^n:Nat):Int)):=by
 simp only [Zl,Int.toNat_natCast,Nat.min_eq_left h]
 simp
theorem Z0j5 (x:Int):Zl .u64 x 13=(x*8192)%18446744073709551616:=by have:=Zg0 .u64 (x:=x) (n:=13) (by decide); rw [Zed] at this; simpa using this
section
variable {α β:Type}
theorem Zb (x:α) (f:α->Option β):bnd x f=f x:=by
 have h : ∀ y,y=bnd x f->y=f x:=fun y e=>e
 exact h _ rfl
theorem Zo {c:Bool} {o:Option β} (h:c=true):chk c o=o:=by subst h; rfl
theorem Z3 {o:Option α} {f:α->Option β} {y:α} (h:o=some y):opt o f=f y:=by subst h; rfl
theorem Z0g {c:Bool} {a b:Option β} (h:c=true):br c a b=a:=by subst h; rfl
theorem Z08 {c:Bool} {a b:Option β} (h:c=false):br c a b=b:=by subst h; rfl
theorem Z13 {K:Type} (k:K) (g:K->Option β):jn k g=g k:=by
 have h : ∀ y,y=jn k g->y=g k:=fun y e=>e
 exact h _ rfl
end
theorem Z0i {z:Int} {n:Nat} (h0:0<=z) (h1:z<n):inB z n=true:=by simp [inB,h0,h1]
abbrev PP:Int:=57896044618658097711785492504343953926634992332820282019728792003956564819949
abbrev M51:Int:=2251799813685248
def Z6q (x:LI):Int:=x.getD 0 0+x.getD 1 0*2251799813685248+x.getD 2 0*5070602400912917605986812821504+x.getD 3 0*11417981541647679048466287755595961091061972992+x.getD 4 0*25711008708143844408671393477458601640355247900524685364822016
structure U5 (x:LI):Prop where
 a0:0<=x.getD 0 0
 a1:0<=x.getD 1 0
 a2:0<=x.getD 2 0
 a3:0<=x.getD 3 0
 a4:0<=x.getD 4 0
 b0:x.getD 0 0<18446744073709551616
 b1:x.getD 1 0<18446744073709551616
 b2:x.getD 2 0<18446744073709551616
 b3:x.getD 3 0<18446744073709551616
 b4:x.getD 4 0<18446744073709551616
def Zj1 (n:Int):LI:=[n%M51,n / M51%M51,n / (M51*M51)%M51,n / (M51*M51*M51)%M51,n / (M51*M51*M51*M51)%M51]
theorem Zsc {n d0 d1 d2 d3 d4:Int} (h:n=d0+d1*2251799813685248+d2*5070602400912917605986812821504+d3*11417981541647679048466287755595961091061972992+d4*25711008708143844408671393477458601640355247900524685364822016)
  (h0:0<=d0/\d0<2251799813685248) (h1:0<=d1/\d1<2251799813685248) (h2:0<=d2/\d2<2251799813685248) (h3:0<=d3/\d3<2251799813685248) (h4:0<=d4/\d4<2251799813685248) : [d0,d1,d2,d3,d4]=Zj1 n:=by
 unfold Zj1
 simp only [M51,List.cons.injEq,and_true]
 refine ⟨?_,?_,?_,?_,?_⟩ <;> omega
theorem Zf4 {n:Int} (h0:0<=n) (h1:n<PP):Z6q (Zj1 n)=n:=by
 simp only [Z6q,Zj1,M51,PP,List.getD_cons_zero,List.getD_cons_succ] at *
 omega
theorem Zsb (n:Int):U5 (Zj1 n):=by
 constructor <;> simp only [Zj1,M51,List.getD_cons_zero,List.getD_cons_succ] <;> omega
end Go.Proofs.YtiflckckekjbnaaGreatDoor
namespace Go.Proofs.YtiflckckekjbnaaGreatDoor
open Go Go.Sx Go.RowKit
open Go.IntKind (wrap)
set_option linter.all false
set_option maxRecDepth 100000
def Zbj (x:LI):LI :=
  [x.getD 0 0%2251799813685248+x.getD 4 0 / 2251799813685248*19,x.getD 1 0%2251799813685248+x.getD 0 0 / 2251799813685248,x.getD 2 0%2251799813685248+x.getD 1 0 / 2251799813685248,
   x.getD 3 0%2251799813685248+x.getD 2 0 / 2251799813685248,x.getD 4 0%2251799813685248+x.getD 3 0 / 2251799813685248]
theorem Zg6 {x:LI} (h:U5 x):Z5c x=some (Zbj x):=by
  have ⟨a0,a1,a2,a3,a4,b0,b1,b2,b3,b4⟩:=h
  simp only [Z5c,Zb,Zw5,Zed,Zof a0 b0,Zof a1 b1,Zof a2 b2,Zof a3 b3,Zof a4 b4,Zbj]
  simp only [Option.some.injEq,List.cons.injEq,and_true]
  refine ⟨?_,?_,?_,?_,?_⟩ <;> omega
structure C5 (x:LI) (e:Int):Prop where
  a0:0<=x.getD 0 0
  a1:0<=x.getD 1 0
  a2:0<=x.getD 2 0
  a3:0<=x.getD 3 0
  a4:0<=x.getD 4 0
  b0:x.getD 0 0<2251799813685248+e
  b1:x.getD 1 0<2251799813685248+e
  b2:x.getD 2 0<2251799813685248+e
  b3:x.getD 3 0<2251799813685248+e
  b4:x.getD 4 0<2251799813685248+e
theorem C5.u {x:LI} {e:Int} (h:C5 x e) (he:e<=1125899906842624):U5 x:=by
  have ⟨a0,a1,a2,a3,a4,b0,b1,b2,b3,b4⟩:=h
  constructor <;> omega
theorem Zx1 {x:LI} (h:U5 x):C5 (Zbj x) 262144:=by
  have ⟨a0,a1,a2,a3,a4,b0,b1,b2,b3,b4⟩:=h
  constructor <;> simp only [Zbj,List.getD_cons_zero,List.getD_cons_succ] <;> omega
theorem Z094 {x:LI} (h:C5 x 262144):C5 (Zbj x) 20:=by
  have ⟨a0,a1,a2,a3,a4,b0,b1,b2,b3,b4⟩:=h
  constructor <;> simp only [Zbj,List.getD_cons_zero,List.getD_cons_succ] <;> omega
theorem Z05r {x:LI} : ∃ q,Z6q x=Z6q (Zbj x)+q*PP:=by
  refine ⟨x.getD 4 0 / 2251799813685248,?_⟩
  simp only [Z6q,Zbj,PP,List.getD_cons_zero,List.getD_cons_succ]
  omega
theorem Ziw {x:LI}:Z6q (Zbj x)%PP=Z6q x%PP:=by
  obtain ⟨q,hq⟩:=Z05r (x:=x)
  rw [hq,Int.add_mul_emod_self_right]
def Zmx (x:LI):LI:=Zj1 (Z6q x%PP)
abbrev shw (x:Int):Int:=Zq .u64 x 51
abbrev wuu (x:Int):Int:=wrap .u64 x
abbrev low (x:Int):Int:=Z4 .and .u64 x 2251799813685247
def rQ (y1 y2 y3 y4 q:Int):Int:=shw (wuu (y4+shw (wuu (y3+shw (wuu (y2+shw (wuu (y1+q))))))))
def rr0 (y0 Q:Int):Int:=wuu (y0+wuu (19*Q))
theorem Z07k (y0 y1 y2 y3 y4 q:Int):Z5p [y0,y1,y2,y3,y4] (fun i46=>Z5q (fun a149=>some (Z2u a149 4 (Z4 .and .u64 (a149.getD 4 0) 2251799813685247))) big 0 (Z2u [y0,y1,y2,y3,y4] 0 (wrap .u64 (y0+wrap .u64 (19*i46))))) big q 0 =
    some [low (rr0 y0 (rQ y1 y2 y3 y4 q)),low (wuu (y1+shw (rr0 y0 (rQ y1 y2 y3 y4 q)))),low (wuu (y2+shw (wuu (y1+shw (rr0 y0 (rQ y1 y2 y3 y4 q)))))),
      low (wuu (y3+shw (wuu (y2+shw (wuu (y1+shw (rr0 y0 (rQ y1 y2 y3 y4 q)))))))),low (wuu (y4+shw (wuu (y3+shw (wuu (y2+shw (wuu (y1+shw (rr0 y0 (rQ y1 y2 y3 y4 q)))))))))) ]:=by kernel_rfl
theorem Zuf {y q:Int} (hy:0<=y/\y<2251799813685268) (hq:0<=q/\q<=1) : ∃ q' s,shw (wuu (y+q))=q'/\y+q=2251799813685248*q'+s/\(0<=s/\s<2251799813685248)/\(0<=q'/\q'<=1):=by
  refine ⟨(y+q) / 2251799813685248,(y+q)%2251799813685248,?_,by omega,by omega,by omega⟩
  rw [shw,Zw5,wuu,Zd (by omega) (by omega)]
theorem Zr1 {y r:Int} (hy:0<=y/\y<2251799813685268) (hr:0<=r/\r<4503599627370496) : ∃ c d r',shw r=c/\low r=d/\r=2251799813685248*c+d/\(0<=d/\d<2251799813685248)/\wuu (y+c)=r'/\r'=y+c/\(0<=r'/\r'<4503599627370496):=by
  refine ⟨r / 2251799813685248,r%2251799813685248,y+r / 2251799813685248,Zw5 _,Zof hr.1 (by omega),by omega,by omega,Zd (by omega) (by omega),rfl,by omega⟩
theorem Z02k {y0 y1 y2 y3 y4 q0 q1 q2 q3 q4 s0 s1 s2 s3 s4 c0 c1 c2 c3 c4 d0 d1 d2 d3 d4:Int}
    (h0:y0+19=2251799813685248*q0+s0) (h1:y1+q0=2251799813685248*q1+s1) (h2:y2+q1=2251799813685248*q2+s2) (h3:y3+q2=2251799813685248*q3+s3) (h4:y4+q3=2251799813685248*q4+s4)
    (k0:y0+19*q4=2251799813685248*c0+d0) (k1:y1+c0=2251799813685248*c1+d1) (k2:y2+c1=2251799813685248*c2+d2) (k3:y3+c2=2251799813685248*c3+d3) (k4:y4+c3=2251799813685248*c4+d4)
    (t0:0<=s0/\s0<2251799813685248) (t1:0<=s1/\s1<2251799813685248) (t2:0<=s2/\s2<2251799813685248) (t3:0<=s3/\s3<2251799813685248) (t4:0<=s4/\s4<2251799813685248)
    (u0:0<=d0/\d0<2251799813685248) (u1:0<=d1/\d1<2251799813685248) (u2:0<=d2/\d2<2251799813685248) (u3:0<=d3/\d3<2251799813685248) (u4:0<=d4/\d4<2251799813685248) (hq:0<=q4/\q4<=1) (hy:0<=(y0+y1*2251799813685248+y2*5070602400912917605986812821504+y3*11417981541647679048466287755595961091061972992+y4*25711008708143844408671393477458601640355247900524685364822016)/\(y0+y1*2251799813685248+y2*5070602400912917605986812821504+y3*11417981541647679048466287755595961091061972992+y4*25711008708143844408671393477458601640355247900524685364822016)<115792089237316195423570985008687907853269984665640564039457584007913129639836) :
    (y0+y1*2251799813685248+y2*5070602400912917605986812821504+y3*11417981541647679048466287755595961091061972992+y4*25711008708143844408671393477458601640355247900524685364822016)-q4*PP=(d0+d1*2251799813685248+d2*5070602400912917605986812821504+d3*11417981541647679048466287755595961091061972992+d4*25711008708143844408671393477458601640355247900524685364822016)/\0<=(d0+d1*2251799813685248+d2*5070602400912917605986812821504+d3*11417981541647679048466287755595961091061972992+d4*25711008708143844408671393477458601640355247900524685364822016)/\(d0+d1*2251799813685248+d2*5070602400912917605986812821504+d3*11417981541647679048466287755595961091061972992+d4*25711008708143844408671393477458601640355247900524685364822016)<PP:=by
  have e1:(y0+y1*2251799813685248+y2*5070602400912917605986812821504+y3*11417981541647679048466287755595961091061972992+y4*25711008708143844408671393477458601640355247900524685364822016)+19=q4*57896044618658097711785492504343953926634992332820282019728792003956564819968+(s0+s1*2251799813685248+s2*5070602400912917605986812821504+s3*11417981541647679048466287755595961091061972992+s4*25711008708143844408671393477458601640355247900524685364822016):=by omega
  have e2:(y0+y1*2251799813685248+y2*5070602400912917605986812821504+y3*11417981541647679048466287755595961091061972992+y4*25711008708143844408671393477458601640355247900524685364822016)+19*q4=c4*57896044618658097711785492504343953926634992332820282019728792003956564819968+(d0+d1*2251799813685248+d2*5070602400912917605986812821504+d3*11417981541647679048466287755595961091061972992+d4*25711008708143844408671393477458601640355247900524685364822016):=by omega
  have b1:0<=(s0+s1*2251799813685248+s2*5070602400912917605986812821504+s3*11417981541647679048466287755595961091061972992+s4*25711008708143844408671393477458601640355247900524685364822016)/\(s0+s1*2251799813685248+s2*5070602400912917605986812821504+s3*11417981541647679048466287755595961091061972992+s4*25711008708143844408671393477458601640355247900524685364822016)<57896044618658097711785492504343953926634992332820282019728792003956564819968:=by omega
  have b2:0<=(d0+d1*2251799813685248+d2*5070602400912917605986812821504+d3*11417981541647679048466287755595961091061972992+d4*25711008708143844408671393477458601640355247900524685364822016)/\(d0+d1*2251799813685248+d2*5070602400912917605986812821504+d3*11417981541647679048466287755595961091061972992+d4*25711008708143844408671393477458601640355247900524685364822016)<57896044618658097711785492504343953926634992332820282019728792003956564819968:=by omega
  generalize (y0+y1*2251799813685248+y2*5070602400912917605986812821504+y3*11417981541647679048466287755595961091061972992+y4*25711008708143844408671393477458601640355247900524685364822016)=V at *
  generalize (d0+d1*2251799813685248+d2*5070602400912917605986812821504+d3*11417981541647679048466287755595961091061972992+d4*25711008708143844408671393477458601640355247900524685364822016)=D at *
  generalize (s0+s1*2251799813685248+s2*5070602400912917605986812821504+s3*11417981541647679048466287755595961091061972992+s4*25711008708143844408671393477458601640355247900524685364822016)=S at *
  clear h0 h1 h2 h3 h4 k0 k1 k2 k3 k4 t0 t1 t2 t3 t4 u0 u1 u2 u3 u4
  simp only [PP]
  have hc:q4=0∨q4=1:=by omega
  rcases hc with rfl | rfl
  · obtain rfl:c4=0:=by omega
    omega
  · obtain rfl:c4=1:=by omega
    omega
theorem Z5t {x:LI} (h:U5 x):Z1v x=some (Zmx x):=by
  have h1:=Zx1 h
  have h2:=Z094 h1
  have hm:Z6q (Zbj (Zbj x))%PP=Z6q x%PP:=by rw [Ziw,Ziw]
  rw [Z1v,Z3 (Zg6 h),Z3 (Zg6 (h1.u (by decide)))]
  unfold Zmx
  rw [<- hm]
  have hl:Zbj (Zbj x) = [(Zbj (Zbj x)).getD 0 0,(Zbj (Zbj x)).getD 1 0,(Zbj (Zbj x)).getD 2 0,(Zbj (Zbj x)).getD 3 0,(Zbj (Zbj x)).getD 4 0]:=rfl
  generalize Zbj (Zbj x)=y at *
  have ⟨a0,a1,a2,a3,a4,b0,b1,b2,b3,b4⟩:=h2
  simp only [Zb,Z13,Z6q]
  generalize y.getD 0 0=y0 at *
  generalize y.getD 1 0=y1 at *
  generalize y.getD 2 0=y2 at *
  generalize y.getD 3 0=y3 at *
  generalize y.getD 4 0=y4 at *
  rw [hl,Z07k]
  congr 1
  clear hl h1 h2 hm h
  have e0:Zq .u64 (wrap .u64 (y0+19)) 51=(y0+19) / 2251799813685248:=by rw [Zw5,Zd (by omega) (by omega)]
  obtain ⟨q0,s0,hq0,hs0,hs0',hq0'⟩ : ∃ q s,(y0+19) / 2251799813685248=q/\y0+19=2251799813685248*q+s/\(0<=s/\s<2251799813685248)/\(0<=q/\q<=1):=⟨_,(y0+19)%2251799813685248,rfl,by omega,by omega,by omega⟩
  rw [e0,hq0]
  obtain ⟨q1,s1,e1,hs1,hs1',hq1'⟩:=Zuf (y:=y1) (q:=q0) (by omega) hq0'
  obtain ⟨q2,s2,e2,hs2,hs2',hq2'⟩:=Zuf (y:=y2) (q:=q1) (by omega) hq1'
  obtain ⟨q3,s3,e3,hs3,hs3',hq3'⟩:=Zuf (y:=y3) (q:=q2) (by omega) hq2'
  obtain ⟨q4,s4,e4,hs4,hs4',hq4'⟩:=Zuf (y:=y4) (q:=q3) (by omega) hq3'
  have f0:rr0 y0 q4=y0+19*q4:=by rw [rr0,wuu,wuu,Zd (x:=19*q4) (by omega) (by omega),Zd (by omega) (by omega)]
  have hy:0<=(y0+y1*2251799813685248+y2*5070602400912917605986812821504+y3*11417981541647679048466287755595961091061972992+y4*25711008708143844408671393477458601640355247900524685364822016)/\(y0+y1*2251799813685248+y2*5070602400912917605986812821504+y3*11417981541647679048466287755595961091061972992+y4*25711008708143844408671393477458601640355247900524685364822016)<115792089237316195423570985008687907853269984665640564039457584007913129639836:=by omega
  unfold rQ
  rw [e1,e2,e3,e4,f0]
  obtain ⟨c0,d0,r1,g0,l0,k0,u0,w1,v1,z1⟩:=Zr1 (y:=y1) (r:=y0+19*q4) (by omega) (by omega)
  rw [g0,l0,w1]
  obtain ⟨c1,d1,r2,g1,l1,k1,u1,w2,v2,z2⟩:=Zr1 (y:=y2) (r:=r1) (by omega) z1
  rw [g1,l1,w2]
  obtain ⟨c2,d2,r3,g2,l2,k2,u2,w3,v3,z3⟩:=Zr1 (y:=y3) (r:=r2) (by omega) z2
  rw [g2,l2,w3]
  obtain ⟨c3,d3,r4,g3,l3,k3,u3,w4,v4,z4⟩:=Zr1 (y:=y4) (r:=r3) (by omega) z3
  rw [g3,l3,w4]
  obtain ⟨c4,d4,r5,g4,l4,k4,u4,w5,v5,z5⟩:=Zr1 (y:=y4) (r:=r4) (by omega) z4
  rw [l4]
  subst v1 v2 v3 v4
  obtain ⟨hv,hlo⟩:=Z02k hs0 hs1 hs2 hs3 hs4 k0 k1 k2 k3 k4 hs0' hs1' hs2' hs3' hs4' u0 u1 u2 u3 u4 hq4' hy
  refine Zsc ?_ u0 u1 u2 u3 u4
  rw [<- hv] at hlo ⊢
  rw [<- Int.emod_eq_of_lt hlo.1 hlo.2,Int.sub_mul_emod_self_right]
end Go.Proofs.YtiflckckekjbnaaGreatDoor
namespace Go.Proofs.YtiflckckekjbnaaGreatDoor
open Go Go.Sx Go.RowKit
set_option linter.all false
set_option maxRecDepth 100000
theorem Zf9 {a b:Int} {A B:Int} (ha:0<=a/\a<=A) (hb:0<=b/\b<=B):0<=a*b/\a*b<=A*B :=
 ⟨Int.mul_nonneg ha.1 hb.1,Int.mul_le_mul ha.2 hb.2 hb.1 (Int.le_trans ha.1 ha.2)⟩
theorem Zoy {x y:Int} (hx:0<=x/\x<18446744073709551616) (hy:0<=y/\y<18446744073709551616) :
  Z5r x y=some (x*y / 18446744073709551616,x*y%18446744073709551616):=by
 simp only [Z5r,Zb,Z051 hx.1 hx.2,Z051 hy.1 hy.2,Z0su]
 have ex:x=x / 4294967296*4294967296+x%4294967296:=by omega
 have ey:y=y / 4294967296*4294967296+y%4294967296:=by omega
 have bxl:0<=x%4294967296/\x%4294967296<=4294967295:=by omega
 have byl:0<=y%4294967296/\y%4294967296<=4294967295:=by omega
 have bxh:0<=x / 4294967296/\x / 4294967296<=4294967295:=by omega
 have byh:0<=y / 4294967296/\y / 4294967296<=4294967295:=by omega
 have hxy:x*y=x / 4294967296*(y / 4294967296)*18446744073709551616+(x / 4294967296*(y%4294967296)+x%4294967296*(y / 4294967296))*4294967296+x%4294967296*(y%4294967296):=by
  conv=>lhs; rw [ex,ey]
  generalize x / 4294967296=a
  generalize x%4294967296=b
  generalize y / 4294967296=c
  generalize y%4294967296=d
  grind
 have p00:=Zf9 bxl byl
 have p10:=Zf9 bxh byl
 have p01:=Zf9 bxl byh
 have p11:=Zf9 bxh byh
 rw [hxy]
 generalize x%4294967296*(y%4294967296)=A at *
 generalize x / 4294967296*(y%4294967296)=B at *
 generalize x%4294967296*(y / 4294967296)=D at *
 generalize x / 4294967296*(y / 4294967296)=F at *
 clear hxy ex ey bxl byl bxh byh
 rw [Zd (x:=A) (by omega) (by omega),Zd (x:=B) (by omega) (by omega),Zd (x:=D) (by omega) (by omega),Zd (x:=F) (by omega) (by omega)]
 rw [Zd (x:=B+A / 4294967296) (by omega) (by omega),Z051 (by omega) (by omega)]
 rw [Zd (x:=(B+A / 4294967296)%4294967296+D) (by omega) (by omega),Zd (x:=F+(B+A / 4294967296) / 4294967296) (by omega) (by omega)]
 rw [Zd (by omega) (by omega),Zed]
 congr 1
 refine Prod.ext ?_ rfl
 show F+(B+A / 4294967296) / 4294967296+((B+A / 4294967296)%4294967296+D) / 4294967296=_
 omega
def Zjw (s:Int):Int:=s / 18446744073709551616
def Zg9 (s:Int):Int:=s%18446744073709551616
theorem Zoc (a b c:Int):Zae a b c=(a+b+c)%18446744073709551616:=rfl
theorem Zkr (a b c:Int):Zev a b c=(a+b+c) / 18446744073709551616:=rfl
theorem Z00a {xs:LI} {o L:Nat} {s a c:Int} (hs:0<=s) (h1:xs.getD o 0=Zjw s) (h2:xs.getD (o+1) 0=Zg9 s) (hL:o+1<L) (ha:0<=a/\a<18446744073709551616) (hc:0<=c/\c<18446744073709551616)
  (hb:s+a*c<340282366920938463463374607431768211456) :
  Z2x xs o L a c=some (Z2u (Z2u xs (o+1) (Zg9 (s+a*c))) o (Zjw (s+a*c))):=by
 have hp:=Zf9 (A:=18446744073709551615) (B:=18446744073709551615) (a:=a) (b:=c) (by omega) (by omega)
 rw [Z2x,Z3 (Zoy ha hc)]
 rw [Zo (by simpa using hL)]
 simp only [Zb,h2]
 have e1:Zg9 s+a*c%18446744073709551616=Zg9 s+a*c%18446744073709551616:=rfl
 generalize a*c=p at *
 have hlo:0<=Zg9 s/\Zg9 s<18446744073709551616:=by unfold Zg9; omega
 have hhi:0<=Zjw s/\Zjw s<18446744073709551616:=by unfold Zjw; omega
 rw [Zo (by simp [Zep]; omega),Zo (by simpa using hL),Zo (by simp; omega)]
 simp only [Nat.add_zero,Z1h]
 rw [if_neg (by omega),h1,Zo (by simp [Zep,Zkr]; omega),Zo (by simp; omega)]
 simp only [Zoc,Zkr]
 congr 2
 ·congr 1
  unfold Zg9; omega
 ·unfold Zjw Zg9; omega
end Go.Proofs.YtiflckckekjbnaaGreatDoor
