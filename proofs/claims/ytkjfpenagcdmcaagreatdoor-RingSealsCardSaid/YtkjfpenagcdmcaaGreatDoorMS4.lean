/- Texts of a proof, one behind the other: SL6 SL7 SL8 SL9 SL10 SL11 SL12 SL13. -/
import Derived.Test.YtkjfpenagcdmcaaGreatDoorMS3
namespace Go.Proofs.YtkjfpenagcdmcaaGreatDoor
open Go Go.Sx Go.RowKit
open List (replicate)
open Go.IntKind (wrap)
set_option linter.all false
set_option maxHeartbeats 400000
set_option maxRecDepth 100000
def Z97 (p0:LI):OL :=
 opt (Zge 235 127) fun y1 =>
 opt (Zhp p0 y1) fun y2 =>
 some y2
theorem Zly {W:World} {r:(LI)} {p0:LI} (h:Z97 p0=some r)  :
    Calls Tryz.prog 260 [agg [u5' p0]].toArray W (Z1w W (agg [u5' r])):=by
 unfold Z97 at h
 refine Z9 mo Z0vc rfl ?_
 refine Z0<|Z1<|Za (Z02 (s:=[u5' p0]) rfl fun b1 u1=>Za (Zu fun b2 u2=>Z2<|Z0<|oH h fun y1 f1 h=>oH h fun y2 f2 h=>Zv<|Z4o rfl (Znl f1)<|Z1q (p:=[u5' p0]) rfl .t1 rfl<|Z4o rfl (Zqk f2)<|Z16 rfl (Zm (q:=[u5' y2]) rfl rfl rfl rfl rfl .here<|Z03<|Zf ?_)))
 cases h
 exact ⟨_,(.cons (.agg rfl .here rfl) .nil),rfl⟩
def Zer (y1:(LI)) (k1:(LI)->OL) (k2:Int->(LI)->OL) (i1:Int) (a1:LI):OL :=
 br ((decide (i1<32))) (
 bnd (wrap .i64 (8*i1)) fun z1 =>
 bnd (wrap .i64 (Int.tdiv z1 51)) fun z2 =>
 bnd (wrap .i64 (8*i1)) fun z3 =>
 bnd (Int.tmod z3 51) fun z4 =>
 chk (inB z2 5) <|
 bnd (y1.getD (z2).toNat 0) fun z5 =>
 chk (decide (0<=z4)) <|
 bnd (Zx .u64 z5 z4) fun z6 =>
 jn (fun (i2:Int)=>bnd (wrap .u8 i2) fun z7 =>
 chk (inB i1 32) <|
 bnd (Z2g a1 (i1).toNat z7) fun l1 =>
 bnd (wrap .i64 (i1+1)) fun z8 =>
 k2 z8 l1) fun k3=>br (((decide (z4>43))&&(decide (z2<4)))) (
 bnd (wrap .i64 (z2+1)) fun z9 =>
 chk (inB z9 5) <|
 bnd (y1.getD (z9).toNat 0) fun z10 =>
 bnd (wrap .i64 (51-z4)) fun z11 =>
 chk (decide (0<=z11)) <|
 bnd (Zn .u64 z10 z11) fun z12 =>
 bnd (Z4 .or .u64 z6 z12) fun z13 =>
 k3 z13
 ) (
 k3 z6
 )
 ) (
 k1 a1
 )
def Z6t (y1:(LI)) (k1:(LI)->OL):Nat->Int->(LI)->OL
  | 0,_,_=>none
  | n+1,i1,a1=>Zer y1 k1 (Z6t y1 k1 n) i1 a1
def Zd7 (p0:LI):OL :=
 opt (Z2r p0) fun y1 =>
 jn (fun (a1:LI)=>some a1) fun k1=>Z6t y1 k1 big 0 (replicate 32 0)
theorem Zni {W:World} {r:(LI)} {p0:LI} (h:Zd7 p0=some r)  :
    Calls Tryz.prog 261 [agg [u5' p0]].toArray W (Z1w W (agg [b3' r])):=by
 unfold Zd7 at h
 refine Z9 mo Z0vd rfl ?_
 refine Z0<|Z1<|Za (Z02 (s:=[u5' p0]) rfl fun b1 u1=>Za (Zu fun b2 u2=>Z2<|Z0<|oH h fun y1 f1 h=>Z1<|Z0z (p:=[u5' p0]) rfl .t1 rfl<|Z2o rfl (Z2s f1)<|Za (Zm (q:=[u5' y1]) rfl rfl rfl rfl rfl .t1<|Z2<|Z0<|Z1<|Za (Zu fun b3 u3=>Z2<|Z0<|Z0<|Z1<|Z7 rfl<|Z2<|jH h fun k1 q1 h=>Zo (G:=fun t m=>∃ (a1:LI),k1 a1=some r/\Fit [(2,pt' b2),(3,pt' b3)] (ck b3 22 [b3' a1]::(ck b2 22 [b3' (replicate 32 0)]::(ck b1 202 [u5' y1] :: []))) t m) ?_ ?_))))
 ·refine Zb<|Zz (fun n1 t m=>∃ (i1:Int) (a2:LI),Z6t y1 k1 n1 i1 a2=some r/\Fit [(1,pt' b1),(2,pt' b2),(3,pt' b3),(10,.int .i64 (i1))] (ck b3 22 [b3' a2]::(ck b2 22 [b3' (replicate 32 0)]::(ck b1 202 [u5' y1] :: []))) t m) big ?_ ?_
  ·exact ⟨0,(replicate 32 0),h,⟨⟨rfl,rfl,rfl,rfl,trivial⟩,(.o (.o (.o .nil)))⟩⟩
  ·rintro n1 t m ⟨i1,a2,h,hF⟩
   refine Zi hF ?_
   clear hF
   rcases n1 with _ | n1
   · exact Z0s h
   have h:Zer y1 k1 (Z6t y1 k1 n1) i1 a2=some r:=h
   unfold Zer at h
   obtain ⟨k2,q2⟩ : ∃ k,k=Z6t y1 k1 n1:=⟨_,rfl⟩
   try rw [<- q2] at h
   refine Z0<|Z1<|j_c rfl<|Z2<|Z0<|Z0k h rfl (fun h=>?_) (fun h=>?_)
   ·refine Zp<|Z0<|Zb<|Z0<|Z1<|Z7 rfl<|Z7 rfl<|Z2<|Z0<|bH h fun z1 e1 h=>bH h fun z2 e2 h=>bH h fun z3 e3 h=>bH h fun z4 e4 h=>Z1<|Z7 rfl<|j_b e1 rfl<|Zq _ (iz e2 (Zbl rfl rfl (by decide)))<|Z7 rfl<|j_b e3 rfl<|Zq _ (iz e4 (Zdp rfl rfl (by decide)))<|Z7 rfl<|Z7 rfl<|Z2<|Z0<|cH h fun c1 h=>bH h fun z5 e5 h=>cH h fun c2 h=>bH h fun z6 e6 h=>Z1<|Z7 rfl<|Z44 rfl rfl (Z0q c1)<|Zq _ (iz e5 (Z32 (base:=0) rfl .t2 rfl (Z0g c1)))<|Z7 rfl<|Zq _ (iz e6 (Z61 rfl rfl (of_decide_eq_true c2)))<|Z7 rfl<|Z2<|Z0<|Z0<|Z1<|Z7 rfl<|j_c rfl<|Z7 rfl<|Ziy rfl rfl rfl (fun hg1=>Z8y rfl _ (Z5r rfl) (Z8y rfl _ (Zbk rfl rfl rfl) (Z8m))) (fun hg1=>rfl) rfl<|Z2<|jH h fun k3 q3 h=>Zo (G:=fun t m=>∃ (i2:Int),k3 i2=some r/\Fit [(1,pt' b1),(2,pt' b2),(3,pt' b3),(4,.int .i64 (i1)),(7,.int .u64 (i2)),(10,.int .i64 (i1))] (ck b3 22 [b3' a2]::(ck b2 22 [b3' (replicate 32 0)]::(ck b1 202 [u5' y1] :: []))) t m) ?_ ?_
    ·refine Z0k h rfl (fun h=>?_) (fun h=>?_)
     ·exact bH h fun z7 e7 h=>cH h fun c3 h=>bH h fun z8 e8 h=>bH h fun z9 e9 h=>cH h fun c4 h=>bH h fun z10 e10 h=>bH h fun z11 e11 h=>Z1<|Z7 rfl<|Z7 rfl<|j_b e7 rfl<|Z44 rfl rfl (Z0q c3)<|Zq _ (iz e8 (Z32 (base:=0) rfl .t2 rfl (Z0g c3)))<|Z7 rfl<|j_b e9 rfl<|Zq _ (iz e10 (Zno rfl rfl (of_decide_eq_true c4)))<|j_b e11 rfl<|Z7 rfl<|Z2<|⟨z11,h,⟨⟨rfl,rfl,rfl,rfl,rfl,rfl,trivial⟩,(.o (.o (.o .nil)))⟩⟩
     ·exact Zp<|⟨z6,h,⟨⟨rfl,rfl,rfl,rfl,rfl,rfl,trivial⟩,(.o (.o (.o .nil)))⟩⟩
    ·rintro t m ⟨i2,h,hF⟩
     refine Zi hF ?_
     clear hF
     subst q3
     refine bH h fun z12 e12 h=>cH h fun c5 h=>bH h fun l1 g1 h=>Z1<|Z7 rfl<|Z7 rfl<|j_v e12 rfl<|Z44 rfl rfl (Z0q c5)<|Za (Z1z (q:=[b3' l1]) (base:=0) g1 rfl rfl rfl (Z0g c5) rfl .here<|Z2<|bH h fun z13 e13 h=>Z1<|j_b e13 rfl<|Z7 rfl<|Z2 ?_)
     rw [q2] at h
     exact ⟨n1,Nat.lt_succ_self _,z13,l1,h,⟨⟨rfl,rfl,rfl,rfl,trivial⟩,(.o (.o (.o .nil)))⟩⟩
   ·exact Z08 _ rfl<|⟨a2,h,⟨⟨rfl,rfl,trivial⟩,(.o (.o (.o .nil)))⟩⟩
 ·rintro t m ⟨a1,h,hF⟩
  refine Zi hF ?_
  clear hF
  subst q1
  refine Z0<|Z1<|Z0z (p:=[b3' a1]) rfl .here rfl<|Za (Zm (q:=[b3' a1]) rfl rfl rfl rfl rfl .t1<|Z2<|Zf ?_)
  cases h
  exact ⟨_,(.cons (.agg rfl .t1 rfl) .nil),rfl⟩
def Zd8 (p0:LI):Option Bool :=
 opt (Z2r p0) fun y1 =>
 bnd (y1.getD 0 0) fun z1 =>
 bnd (Z4 .and .u64 z1 1) fun z2 =>
 some (z2==1)
theorem Znj {W:World} {r:Bool} {p0:LI} (h:Zd8 p0=some r)  :
    Calls Tryz.prog 262 [agg [u5' p0]].toArray W (Z1w W (.bool (r))):=by
 unfold Zd8 at h
 refine Z9 mo Z0ve rfl ?_
 refine Z0<|Z1<|Za (Z02 (s:=[u5' p0]) rfl fun b1 u1=>Z7 rfl<|Z2<|Z0<|oH h fun y1 f1 h=>bH h fun z1 e1 h=>bH h fun z2 e2 h=>Z1<|Z0z (p:=[u5' p0]) rfl .here rfl<|Z2o rfl (Z2s f1)<|Zq _ (iz e1 (Zn6 (len:=5) (z:=0) rfl rfl (by decide)))<|j_b e2 rfl<|j_c rfl<|Z7 rfl<|Z2<|Zf ?_)
 cases h
 exact ⟨_,(.cons (.tmp rfl) .nil),rfl⟩
structure Zl where
  gX:LI
  gY:LI
  gZ:LI
  gT:LI
def Z29:Zl:=⟨(replicate 5 0),(replicate 5 0),(replicate 5 0),(replicate 5 0)⟩
abbrev Zy (x:Zl) (r:List Seg):List Seg:=u5' x.gX :: u5' x.gY :: u5' x.gZ :: u5' x.gT::r
def Z78 (p0:Zl):OL :=
 opt (Z97 p0.gZ) fun y1 =>
 opt (Z1x p0.gY y1) fun y2 =>
 opt (Zd7 y2) fun y3 =>
 opt (Z1x p0.gX y1) fun y4 =>
 opt (Zd8 y4) fun y5 =>
 jn (fun (a1:LI)=>some a1) fun k1=>br (y5) (
 bnd (y3.getD 31 0) fun z1 =>
 bnd (Z4 .or .u8 z1 128) fun z2 =>
 bnd (Z2g y3 31 z2) fun l1 =>
 k1 l1
 ) (
 k1 y3
 )
theorem Zfa {W:World} {r:(LI)} {p0:Zl} (h:Z78 p0=some r)  :
    Calls Tryz.prog 156 [agg (Zy p0 [])].toArray W (Z1w W (agg [b3' r])):=by
 unfold Z78 at h
 refine Z9 mo Z0ti rfl ?_
 refine Z0<|Z1<|Za (Z02 (s:=(Zy p0 [])) rfl fun b1 u1=>Za (Zu fun b2 u2=>Z2<|Z0<|oH h fun y1 f1 h=>Z1<|Z4c rfl<|Z0z (p:=[u5' p0.gZ]) rfl .t1 rfl<|Z2o rfl (Zly f1)<|Za (Zu fun b3 u3=>Za (Zm (q:=[u5' y1]) rfl rfl rfl rfl rfl .here<|Z2<|Z0<|oH h fun y2 f2 h=>oH h fun y3 f3 h=>Z1<|Z4c rfl<|Z0z (p:=[u5' p0.gY]) rfl .t2 rfl<|Z0z (p:=[u5' y1]) rfl .here rfl<|Z2o rfl (Z1l f2)<|Z2o rfl (Zni f3)<|Za (Zu fun b4 u4=>Za (Zm (q:=[b3' y3]) rfl rfl rfl rfl rfl .here<|Z2<|Z0<|Z0<|oH h fun y4 f4 h=>oH h fun y5 f5 h=>Z1<|Z4c rfl<|Z0z (p:=[u5' p0.gX]) rfl .t3 rfl<|Z0z (p:=[u5' y1]) rfl .t1 rfl<|Z2o rfl (Z1l f4)<|Z2o rfl (Znj f5)<|Z2<|jH h fun k1 q1 h=>Zo (G:=fun t m=>∃ (a1:LI),k1 a1=some r/\Fit [(2,pt' b2),(4,pt' b4)] (ck b4 44 [b3' a1]::(ck b3 202 [u5' y1]::(ck b2 44 [b3' (replicate 32 0)]::(ck b1 204 (Zy p0 []) :: [])))) t m) ?_ ?_))))))
 ·refine Z0k h rfl (fun h=>?_) (fun h=>?_)
  ·exact bH h fun z1 e1 h=>bH h fun z2 e2 h=>bH h fun l1 g1 h=>Z1<|Z44 rfl rfl (by decide)<|j_i e1 rfl .here rfl<|j_b e2 rfl<|Z44 rfl rfl (by decide)<|Za (Z7a (q:=[b3' l1]) (congrArg (fun z=>([b3' z]:List Seg)) g1.symm) rfl rfl rfl rfl .here<|Z2<|⟨l1,h,⟨⟨rfl,rfl,trivial⟩,(.o (.o (.o (.o .nil))))⟩⟩)
  ·exact Zp<|⟨y3,h,⟨⟨rfl,rfl,trivial⟩,(.o (.o (.o (.o .nil))))⟩⟩
 ·rintro t m ⟨a1,h,hF⟩
  refine Zi hF ?_
  clear hF
  subst q1
  refine Z0<|Z1<|Z0z (p:=[b3' a1]) rfl .here rfl<|Za (Zm (q:=[b3' a1]) rfl rfl rfl rfl rfl .t2<|Z2<|Zf ?_)
  cases h
  exact ⟨_,(.cons (.agg rfl .t2 rfl) .nil),rfl⟩
def Zg6 (p0:LI):OL :=
 opt (Zcr ) fun y1 =>
 opt (Z1r y1 p0) fun y2 =>
 opt (Z3k y2) fun y3 =>
 some y3.1
theorem Zq7 {W:World} {r:(LI)} {p0:LI} {v0:Value} (h:Zg6 p0=some r) (hG:Globs W) (A0:Z6r (El.int .u8) W v0 p0) :
    Calls Tryz.prog 315 [v0].toArray W (Z1w W (agg [b6' r])):=by
 unfold Zg6 at h
 refine Z9 mo Z0wb rfl ?_
 refine Z0<|Z1<|Za (Zu fun b1 u1=>Z2<|Z0<|oH h fun y1 f1 h=>Z1<|Za (Zg rfl (fun w hw=>Ziq  f1 (hG.at hw (by simp))) fun v5 o1 R1=>?_))
 obtain ⟨b2,T8,rfl,rfl⟩:=R1
 refine Z7 rfl<|Z2<|Z0<|oH h fun y2 f2 h=>Z1<|Z7 rfl<|Z7 rfl<|Za (Z0j (mS:=[_]) rfl (Z4j.perm .here) (fun w hw=>Z63  f2 (Zey hw (mS:=[_]) (Z4j.perm .here)) (hG.at hw (by simp)) (hG.ap (by simp) .here hw) ⟨(Z1n A0 Z20) w hw,(Ztl (E:=(El.int .u8)) A0 .here hw)⟩) fun v11 o2 R2=>?_)
 obtain ⟨rfl,rfl⟩:=R2
 refine Z2<|Z0<|oH h fun y3 f3 h=>Z1<|Z7 rfl<|Za (Z0j (mS:=[_]) rfl (Z4j.perm .here) (fun w hw=>Za5  f3 (Zey hw (mS:=[_]) (Z4j.perm .here)) (hG.at hw (by simp)) (hG.ap (by simp) .here hw)) fun v15 o3 R3=>?_)
 obtain ⟨rfl,rfl⟩:=R3
 refine Za (Zm (q:=[b6' y3.1]) rfl rfl rfl rfl rfl .t1<|Z2<|Zf ?_)
 cases h
 exact ⟨_,(.cons (.agg rfl .t1 rfl) .nil),rfl⟩
def Zbq (p0:LI):OL :=
 bnd (p0.getD 0 0) fun z1 =>
 bnd (Z4 .andNot .u8 z1 7) fun z2 =>
 bnd (Z2g p0 0 z2) fun l1 =>
 bnd (l1.getD 31 0) fun z3 =>
 bnd (Z4 .and .u8 z3 127) fun z4 =>
 bnd (Z4 .or .u8 z4 64) fun z5 =>
 bnd (Z2g l1 31 z5) fun l2 =>
 some l2
theorem Zml {W:World} {r:(LI)} {p0:LI} (h:Zbq p0=some r)  :
    Calls Tryz.prog 316 [agg [b3' p0]].toArray W (Z1w W (agg [b3' r])):=by
 unfold Zbq at h
 refine Z9 mo Z0wc rfl ?_
 refine Z0<|Z1<|Za (Z02 (s:=[b3' p0]) rfl fun b1 u1=>Za (Zu fun b2 u2=>Z2<|Z0<|bH h fun z1 e1 h=>bH h fun z2 e2 h=>bH h fun l1 g1 h=>Z1<|Z44 rfl rfl (by decide)<|j_i e1 rfl .t1 rfl<|j_b e2 rfl<|Z44 rfl rfl (by decide)<|Za (Z7a (q:=[b3' l1]) (congrArg (fun z=>([b3' z]:List Seg)) g1.symm) rfl rfl rfl rfl .t1<|Z2<|Z0<|bH h fun z3 e3 h=>bH h fun z4 e4 h=>bH h fun z5 e5 h=>bH h fun l2 g2 h=>Z1<|Z44 rfl rfl (by decide)<|j_i e3 rfl .t1 rfl<|j_b e4 rfl<|j_b e5 rfl<|Z44 rfl rfl (by decide)<|Za (Z7a (q:=[b3' l2]) (congrArg (fun z=>([b3' z]:List Seg)) g2.symm) rfl rfl rfl rfl .t1<|Z2<|Z0<|Z1<|Z0z (p:=[b3' l2]) rfl .t1 rfl<|Za (Zm (q:=[b3' l2]) rfl rfl rfl rfl rfl .here<|Z2<|Zf ?_)))))
 cases h
 exact ⟨_,(.cons (.agg rfl .here rfl) .nil),rfl⟩
def Zdx (p0:LI):Option ((LI)×(LI)) :=
 opt (Zg6 (tk p0 0 32)) fun y1 =>
 chk (decide (32<=(tk y1 0 32).length)) <|
 bnd (tk (tk y1 0 32) 0 32) fun z1 =>
 opt (Zbq z1) fun y2 =>
 some (y2,(tk y1 32 (64-32)))
theorem Znt {W:World} {r:(LI)×(LI)} {p0:LI} (h:Zdx p0=some r) (hG:Globs W) :
    Calls Tryz.prog 206 [agg [b3' p0]].toArray W (Z67 W [] (fun v Ms=>∃ (u1:Value) (M1:List Zd),v = .tuple #[agg [b3' r.1],u1]/\Ms = [.all M1]/\Z0c (El.int .u8) u1 M1 r.2)):=by
 unfold Zdx at h
 refine Zj mo Z0u8 rfl (Zbz _) ?_
 refine Z0<|Z1<|Za (Z02 (s:=[b3' p0]) rfl fun b1 hb1=>Za (Zu fun b2 hb2=>Z7 rfl<|Z2<|Z0<|oH h fun y1 f1 h=>Z1<|Zq _ (Z8b rfl .no .no .no (by simp) (by decide))<|Zq _ (Z06 rfl (fun w hw=>Zq7 f1 (hG.at hw (by simp)) ((Z1u (s:=[b3' p0]) (N:=32) (k:=.u8) (base:=0) (lo:=0) (hi:=32) (mz:=32) .t1 rfl (by decide)) w hw)))<|Za (Zu fun b3 hb3=>Za (Zm (q:=[b6' y1]) rfl rfl rfl rfl rfl .here<|Z2<|Z0<|cH h fun c1 h=>bH h fun z1 e1 h=>oH h fun y2 f2 h=>Zv<|Z0x _ (Z8b rfl .no (.yes rfl) .no (by simp) (by decide))<|Z0x _ (Z0m1 rfl (Shp.blk (lo:=0) (hi:=32) (mz:=64) (by decide) (by simp [Z0o])) (by decide) c1)<|Z0x _ (Z8b rfl (.yes rfl) .no .no (by simp) (by decide))<|Z0v _ (az (fun z=>agg [.ints .u8 32 z]) e1 (Z0zh rfl (Z1u (s:=[b6' y1]) (N:=64) (k:=.u8) (base:=0) (lo:=0) (hi:=32) (mz:=64) .here rfl (by decide)) (by decide) c1))<|Z4o rfl (Zml f2)<|Z16 rfl (Zm (q:=[b3' y2]) rfl rfl rfl rfl rfl .t1<|k_m rfl<|Z03<|Zf ?_)))))
 cases h
 exact ⟨_,_,(.cons (.agg rfl .t1 rfl) (.cons (.tmp rfl) .nil)),(.o .nil),⟨_,rfl,⟨(.slice (some (Z4a b3 0 32 64 1)) (64-32) (64-32)),[ck b3 148 [b6' y1]],rfl,rfl,(Zub (s:=[b6' y1]) (N:=64) (k:=.u8) (base:=0) (lo:=32) (hi:=64) (mz:=64) rfl (by decide))⟩⟩⟩
def Z9n (p0:LI) (k1:(LI)->OL) (k2:Int->(LI)->OL) (i1:Int) (a1:LI):OL :=
 br ((decide (i1<32))) (
 jn (fun (a2:LI)=>bnd (wrap .i64 (i1+1)) fun z1 =>
 k2 z1 a2) fun k3=>chk (inB i1 32) <|
 bnd (p0.getD (i1).toNat 0) fun z2 =>
 jn (fun (i2:Int)=>bnd (wrap .i64 (8*i1)) fun z3 =>
 bnd (wrap .i64 (Int.tdiv z3 51)) fun z4 =>
 bnd (wrap .i64 (8*i1)) fun z5 =>
 bnd (Int.tmod z5 51) fun z6 =>
 chk (inB z4 5) <|
 bnd (wrap .u64 i2) fun z7 =>
 chk (decide (0<=z6)) <|
 bnd (Zn .u64 z7 z6) fun z8 =>
 bnd (Z4 .and .u64 z8 2251799813685247) fun z9 =>
 bnd (a1.getD (z4).toNat 0) fun z10 =>
 bnd (Z4 .or .u64 z10 z9) fun z11 =>
 chk (inB z4 5) <|
 bnd (Z2g a1 (z4).toNat z11) fun l1 =>
 br (((decide (z6>43))&&(decide (z4<4)))) (
 bnd (wrap .i64 (z4+1)) fun z12 =>
 chk (inB z12 5) <|
 bnd (wrap .u64 i2) fun z13 =>
 bnd (wrap .i64 (51-z6)) fun z14 =>
 chk (decide (0<=z14)) <|
 bnd (Zx .u64 z13 z14) fun z15 =>
 bnd (l1.getD (z12).toNat 0) fun z16 =>
 bnd (Z4 .or .u64 z16 z15) fun z17 =>
 chk (inB z12 5) <|
 bnd (Z2g l1 (z12).toNat z17) fun l2 =>
 k3 l2
 ) (
 k3 l1
 )) fun k4=>br ((i1==31)) (
 bnd (Z4 .and .u8 z2 127) fun z18 =>
 k4 z18
 ) (
 k4 z2
 )
 ) (
 k1 a1
 )
def Z47 (p0:LI) (k1:(LI)->OL):Nat->Int->(LI)->OL
  | 0,_,_=>none
  | n+1,i1,a1=>Z9n p0 k1 (Z47 p0 k1 n) i1 a1
def Z5u (p0:LI):OL :=
 jn (fun (a1:LI)=>opt (Z2r a1) fun y1 =>
 some y1) fun k1=>Z47 p0 k1 big 0 (replicate 5 0)
theorem Zc3 {W:World} {r:(LI)} {p0:LI} (h:Z5u p0=some r)  :
    Calls Tryz.prog 244 [agg [b3' p0]].toArray W (Z1w W (agg [u5' r])):=by
 unfold Z5u at h
 refine Z9 mo Z0uz rfl ?_
 refine Z0<|Z1<|Za (Z02 (s:=[b3' p0]) rfl fun b1 u1=>Za (Zu fun b2 u2=>Z2<|Z0<|Z1<|Za (Zu fun b3 u3=>Z2<|Z0<|Z0<|Z1<|Z0z (p:=[b3' p0]) rfl .t2 rfl<|Z7 rfl<|Z2<|jH h fun k1 q1 h=>Zo (G:=fun t m=>∃ (a1:LI),k1 a1=some r/\Fit [(2,pt' b2),(3,pt' b3)] (ck b3 202 [u5' a1]::(ck b2 202 [u5' (replicate 5 0)]::(ck b1 22 [b3' p0] :: []))) t m) ?_ ?_)))
 ·refine Zb<|Zz (fun n1 t m=>∃ (i1:Int) (a2:LI),Z47 p0 k1 n1 i1 a2=some r/\Fit [(2,pt' b2),(3,pt' b3),(8,agg [b3' p0]),(9,.int .i64 (i1))] (ck b3 202 [u5' a2]::(ck b2 202 [u5' (replicate 5 0)]::(ck b1 22 [b3' p0] :: []))) t m) big ?_ ?_
  ·exact ⟨0,(replicate 5 0),h,⟨⟨rfl,rfl,rfl,rfl,trivial⟩,(.o (.o (.o .nil)))⟩⟩
  ·rintro n1 t m ⟨i1,a2,h,hF⟩
   refine Zi hF ?_
   clear hF
   rcases n1 with _ | n1
   · exact Z0s h
   have h:Z9n p0 k1 (Z47 p0 k1 n1) i1 a2=some r:=h
   unfold Z9n at h
   obtain ⟨k2,q2⟩ : ∃ k,k=Z47 p0 k1 n1:=⟨_,rfl⟩
   try rw [<- q2] at h
   refine Z0<|Z1<|j_c rfl<|Z2<|Z0<|Z0k h rfl (fun h=>?_) (fun h=>?_)
   ·refine Zp<|Z0<|jH h fun k3 q3 h=>Zo (G:=fun t m=>∃ (a3:LI),k3 a3=some r/\Fit [(2,pt' b2),(3,pt' b3),(8,agg [b3' p0]),(9,.int .i64 (i1))] (ck b3 202 [u5' a3]::(ck b2 202 [u5' (replicate 5 0)]::(ck b1 22 [b3' p0] :: []))) t m) ?_ ?_
    ·refine Zb<|Z0<|cH h fun c1 h=>bH h fun z1 e1 h=>Z1<|Z7 rfl<|Zq _ (iz e1 (Zn6 (len:=32) rfl rfl (Z0q c1)))<|Z7 rfl<|Z7 rfl<|Z2<|Z0<|Z0<|Z1<|Z7 rfl<|j_c rfl<|Z2<|jH h fun k4 q4 h=>Zo (G:=fun t m=>∃ (i2:Int),k4 i2=some r/\Fit [(2,pt' b2),(3,pt' b3),(4,.int .i64 (i1)),(5,.int .u8 (i2)),(8,agg [b3' p0]),(9,.int .i64 (i1))] (ck b3 202 [u5' a2]::(ck b2 202 [u5' (replicate 5 0)]::(ck b1 22 [b3' p0] :: []))) t m) ?_ ?_
     ·refine Z0k h rfl (fun h=>?_) (fun h=>?_)
      ·exact bH h fun z2 e2 h=>Z1<|Z7 rfl<|j_b e2 rfl<|Z7 rfl<|Z2<|⟨z2,h,⟨⟨rfl,rfl,rfl,rfl,rfl,rfl,trivial⟩,(.o (.o (.o .nil)))⟩⟩
      ·exact Zp<|⟨z1,h,⟨⟨rfl,rfl,rfl,rfl,rfl,rfl,trivial⟩,(.o (.o (.o .nil)))⟩⟩
     ·rintro t m ⟨i2,h,hF⟩
      refine Zi hF ?_
      clear hF
      subst q4
      refine Z0<|bH h fun z3 e3 h=>bH h fun z4 e4 h=>bH h fun z5 e5 h=>bH h fun z6 e6 h=>Z1<|Z7 rfl<|j_b e3 rfl<|Zq _ (iz e4 (Zbl rfl rfl (by decide)))<|Z7 rfl<|j_b e5 rfl<|Zq _ (iz e6 (Zdp rfl rfl (by decide)))<|Z7 rfl<|Z7 rfl<|Z2<|Z0<|cH h fun c2 h=>bH h fun z7 e7 h=>cH h fun c3 h=>bH h fun z8 e8 h=>bH h fun z9 e9 h=>bH h fun z10 e10 h=>bH h fun z11 e11 h=>cH h fun c4 h=>bH h fun l1 g1 h=>Zv<|k_m rfl<|Z6v rfl rfl (Z0q c2)<|k_m rfl<|Z0x _ (iz e7 (Zpo rfl))<|k_m rfl<|Z0x _ (iz e8 (Zno rfl rfl (of_decide_eq_true c3)))<|k_b e9 rfl<|Z0v _ (iz e10 (Z32 (base:=0) rfl .here rfl (Z0g c2)))<|k_b e11 rfl<|Z6v rfl rfl (Z0q c4)<|Z16 rfl (Z1z (q:=[u5' l1]) (base:=0) g1 rfl rfl rfl (Z0g c4) rfl .here<|Z03<|Z0<|Z1<|Z7 rfl<|j_c rfl<|Z7 rfl<|Ziy rfl rfl rfl (fun hg1=>Z8y rfl _ (Z5r rfl) (Z8y rfl _ (Zbk rfl rfl rfl) (Z8m))) (fun hg1=>rfl) rfl<|Z2<|Z0k h rfl (fun h=>?_) (fun h=>?_))
      ·exact bH h fun z12 e12 h=>cH h fun c5 h=>bH h fun z13 e13 h=>bH h fun z14 e14 h=>cH h fun c6 h=>bH h fun z15 e15 h=>bH h fun z16 e16 h=>bH h fun z17 e17 h=>cH h fun c7 h=>bH h fun l2 g2 h=>Zv<|k_m rfl<|k_b e12 rfl<|Z6v rfl rfl (Z0q c5)<|k_m rfl<|Z0x _ (iz e13 (Zpo rfl))<|k_m rfl<|k_b e14 rfl<|Z0x _ (iz e15 (Z61 rfl rfl (of_decide_eq_true c6)))<|Z0v _ (iz e16 (Z32 (base:=0) rfl .here rfl (Z0g c5)))<|k_b e17 rfl<|Z6v rfl rfl (Z0q c7)<|Z16 rfl (Z1z (q:=[u5' l2]) (base:=0) g2 rfl rfl rfl (Z0g c7) rfl .here<|Z03<|⟨l2,h,⟨⟨rfl,rfl,rfl,rfl,trivial⟩,(.o (.o (.o .nil)))⟩⟩)
      ·exact Zp<|⟨l1,h,⟨⟨rfl,rfl,rfl,rfl,trivial⟩,(.o (.o (.o .nil)))⟩⟩
    ·rintro t m ⟨a3,h,hF⟩
     refine Zi hF ?_
     clear hF
     subst q3
     refine bH h fun z18 e18 h=>Z1<|j_b e18 rfl<|Z7 rfl<|Z2 ?_
     rw [q2] at h
     exact ⟨n1,Nat.lt_succ_self _,z18,a3,h,⟨⟨rfl,rfl,rfl,rfl,trivial⟩,(.o (.o (.o .nil)))⟩⟩
   ·exact Z08 _ rfl<|⟨a2,h,⟨⟨rfl,rfl,trivial⟩,(.o (.o (.o .nil)))⟩⟩
 ·rintro t m ⟨a1,h,hF⟩
  refine Zi hF ?_
  clear hF
  subst q1
  refine Z0<|oH h fun y1 f1 h=>Z1<|Z0z (p:=[u5' a1]) rfl .here rfl<|Z2o rfl (Z2s f1)<|Za (Zm (q:=[u5' y1]) rfl rfl rfl rfl rfl .t1<|Z2<|Zf ?_)
  cases h
  exact ⟨_,(.cons (.agg rfl .t1 rfl) .nil),rfl⟩
def Zaa:OL :=
 bnd (([1,0,0,0,0]:LI)) fun z1 =>
 some z1
theorem Zd1 {W:World} {r:(LI)} (h:Zaa=some r)  :
    Calls Tryz.prog 246 [].toArray W (Z1w W (agg [u5' r])):=by
 unfold Zaa at h
 refine Z9 mo Z0v1 rfl ?_
 refine Z0<|Z1<|Za (Zu fun b1 u1=>Z2<|Z0<|bH h fun z1 e1 h=>Z1<|Zq _ (az (fun z=>agg [.ints .u64 5 z]) e1 (Zex (.one rfl rfl rfl BdR.nil)))<|Za (Zm (q:=[u5' z1]) rfl rfl rfl rfl rfl .here<|Z2<|Zf ?_))
 cases h
 exact ⟨_,(.cons (.agg rfl .here rfl) .nil),rfl⟩
def Zel (k1:(LI)->Option (Zl)) (k2:Int->(LI)->Option (Zl)) (i1:Int) (a1:LI):Option (Zl) :=
 br ((decide (i1<31))) (
 bnd (wrap .i64 (i1+1)) fun z1 =>
 chk (inB z1 32) <|
 bnd (Z2g a1 (z1).toNat 102) fun l1 =>
 bnd (wrap .i64 (i1+1)) fun z2 =>
 k2 z2 l1
 ) (
 k1 a1
 )
def Z6s (k1:(LI)->Option (Zl)):Nat->Int->(LI)->Option (Zl)
  | 0,_,_=>none
  | n+1,i1,a1=>Zel k1 (Z6s k1 n) i1 a1
def Zd0:Option (Zl) :=
 bnd (([26,213,37,143,96,45,86,201,178,167,37,149,96,199,44,105,92,220,214,253,49,226,164,192,254,83,110,205,211,54,105,33]:LI)) fun z1 =>
 opt (Z5u z1) fun y1 =>
 bnd (([88,0,0,0,0,0,0,0,0,0,0,0,0,0,0,0,0,0,0,0,0,0,0,0,0,0,0,0,0,0,0,0]:LI)) fun z2 =>
 jn (fun (a1:LI)=>opt (Z5u a1) fun y2 =>
 opt (Zaa) fun y3 =>
 opt (Z1x y1 y2) fun y4 =>
 some (⟨y1,y2,y3,y4⟩:Zl)) fun k1=>Z6s k1 big 0 z2
theorem Znh {W:World} {r:Zl} (h:Zd0=some r)  :
    Calls Tryz.prog 263 [].toArray W (Z1w W (agg (Zy r []))):=by
 unfold Zd0 at h
 refine Z9 mo Z0vf rfl ?_
 refine Z0<|Z1<|Za (Zu fun b1 u1=>Z2<|Z0<|bH h fun z1 e1 h=>oH h fun y1 f1 h=>Z1<|Zq _ (az (fun z=>agg [.ints .u8 32 z]) e1 (Zex (.one rfl rfl rfl (.one rfl rfl rfl (.one rfl rfl rfl (.one rfl rfl rfl (.one rfl rfl rfl (.one rfl rfl rfl (.one rfl rfl rfl (.one rfl rfl rfl (.one rfl rfl rfl (.one rfl rfl rfl (.one rfl rfl rfl (.one rfl rfl rfl (.one rfl rfl rfl (.one rfl rfl rfl (.one rfl rfl rfl (.one rfl rfl rfl (.one rfl rfl rfl (.one rfl rfl rfl (.one rfl rfl rfl (.one rfl rfl rfl (.one rfl rfl rfl (.one rfl rfl rfl (.one rfl rfl rfl (.one rfl rfl rfl (.one rfl rfl rfl (.one rfl rfl rfl (.one rfl rfl rfl (.one rfl rfl rfl (.one rfl rfl rfl (.one rfl rfl rfl (.one rfl rfl rfl (.one rfl rfl rfl BdR.nil))))))))))))))))))))))))))))))))))<|Z2o rfl (Zc3 f1)<|Za (Zu fun b2 u2=>Za (Zm (q:=[u5' y1]) rfl rfl rfl rfl rfl .here<|Z2<|Z0<|bH h fun z2 e2 h=>Z1<|Zq _ (az (fun z=>agg [.ints .u8 32 z]) e2 (Zex (.one rfl rfl rfl BdR.nil)))<|Za (Zu fun b3 u3=>Za (Zm (q:=[b3' z2]) rfl rfl rfl rfl rfl .here<|Z2<|Z0<|Z0<|Z1<|Z7 rfl<|Z2<|jH h fun k1 q1 h=>Zo (G:=fun t m=>∃ (a1:LI),k1 a1=some r/\Fit [(0,pt' b1),(1,pt' b2),(2,pt' b3)] (ck b3 22 [b3' a1]::(ck b2 202 [u5' y1]::(ck b1 204 [u5' (replicate 5 0),u5' (replicate 5 0),u5' (replicate 5 0),u5' (replicate 5 0)] :: []))) t m) ?_ ?_)))))
 ·refine Zb<|Zz (fun n1 t m=>∃ (i1:Int) (a2:LI),Z6s k1 n1 i1 a2=some r/\Fit [(0,pt' b1),(1,pt' b2),(2,pt' b3),(8,.int .i64 (i1))] (ck b3 22 [b3' a2]::(ck b2 202 [u5' y1]::(ck b1 204 [u5' (replicate 5 0),u5' (replicate 5 0),u5' (replicate 5 0),u5' (replicate 5 0)] :: []))) t m) big ?_ ?_
  ·exact ⟨0,z2,h,⟨⟨rfl,rfl,rfl,rfl,trivial⟩,(.o (.o (.o .nil)))⟩⟩
  ·rintro n1 t m ⟨i1,a2,h,hF⟩
   refine Zi hF ?_
   clear hF
   rcases n1 with _ | n1
   · exact Z0s h
   have h:Zel k1 (Z6s k1 n1) i1 a2=some r:=h
   unfold Zel at h
   obtain ⟨k2,q2⟩ : ∃ k,k=Z6s k1 n1:=⟨_,rfl⟩
   try rw [<- q2] at h
   refine Z0<|Z1<|j_c rfl<|Z2<|Z0<|Z0k h rfl (fun h=>?_) (fun h=>?_)
   ·refine Zp<|Z0<|Zb<|Z0<|Z1<|Z7 rfl<|Z7 rfl<|Z2<|bH h fun z3 e3 h=>cH h fun c1 h=>bH h fun l1 g1 h=>Z1<|Z7 rfl<|j_b e3 rfl<|Z44 rfl rfl (Z0q c1)<|Za (Z1z (q:=[b3' l1]) (base:=0) g1 rfl rfl rfl (Z0g c1) rfl .here<|Z2<|bH h fun z4 e4 h=>Z1<|j_b e4 rfl<|Z7 rfl<|Z2 ?_)
    rw [q2] at h
    exact ⟨n1,Nat.lt_succ_self _,z4,l1,h,⟨⟨rfl,rfl,rfl,rfl,trivial⟩,(.o (.o (.o .nil)))⟩⟩
   ·exact Z08 _ rfl<|⟨a2,h,⟨⟨rfl,rfl,rfl,trivial⟩,(.o (.o (.o .nil)))⟩⟩
 ·rintro t m ⟨a1,h,hF⟩
  refine Zi hF ?_
  clear hF
  subst q1
  refine Z0<|oH h fun y2 f2 h=>Z1<|Z0z (p:=[b3' a1]) rfl .here rfl<|Z2o rfl (Zc3 f2)<|Za (Zu fun b4 u4=>Za (Zm (q:=[u5' y2]) rfl rfl rfl rfl rfl .here<|Z2<|Z0<|oH h fun y3 f3 h=>oH h fun y4 f4 h=>Zv<|Z4o rfl (Zd1 f3)<|Z1q (p:=[u5' y1]) rfl .t2 rfl<|Z1q (p:=[u5' y2]) rfl .here rfl<|Z1q (p:=[u5' y1]) rfl .t2 rfl<|Z1q (p:=[u5' y2]) rfl .here rfl<|Z4o rfl (Z1l f4)<|Z0x _ (Zex (q:=[u5' y1,u5' y2,u5' y3,u5' y4]) (.agg rfl rfl rfl (.agg rfl rfl rfl (.agg rfl rfl rfl (.agg rfl rfl rfl BdR.nil)))))<|Z16 rfl (Zm (q:=[u5' y1,u5' y2,u5' y3,u5' y4]) rfl rfl rfl rfl rfl .t3<|Z03<|Zf ?_)))
  cases h
  exact ⟨_,(.cons (.agg rfl .t3 rfl) .nil),rfl⟩
def Zck:Option (Zl) :=
 opt (Zaa) fun y1 =>
 opt (Zaa) fun y2 =>
 some (⟨(replicate 5 0),y1,y2,(replicate 5 0)⟩:Zl)
theorem Zhh {W:World} {r:Zl} (h:Zck=some r)  :
    Calls Tryz.prog 265 [].toArray W (Z1w W (agg (Zy r []))):=by
 unfold Zck at h
 refine Z9 mo Z0vh rfl ?_
 refine Z0<|Z1<|Za (Zu fun b1 u1=>Z2<|Z0<|oH h fun y1 f1 h=>oH h fun y2 f2 h=>Z1<|Z2o rfl (Zd1 f1)<|Z2o rfl (Zd1 f2)<|Zq _ (Zex (q:=[u5' (replicate 5 0),u5' y1,u5' y2,u5' (replicate 5 0)]) (.agg rfl rfl rfl (.agg rfl rfl rfl BdR.nil)))<|Za (Zm (q:=[u5' (replicate 5 0),u5' y1,u5' y2,u5' (replicate 5 0)]) rfl rfl rfl rfl rfl .here<|Z2<|Zf ?_))
 cases h
 exact ⟨_,(.cons (.agg rfl .here rfl) .nil),rfl⟩
def Zhm (y1:(LI)) (k1:(LI)->OL) (k2:Int->(LI)->OL) (i1:Int) (a1:LI):OL :=
 br ((decide (i1<5))) (
 chk (inB i1 5) <|
 chk (inB i1 5) <|
 bnd (a1.getD (i1).toNat 0) fun z1 =>
 bnd (y1.getD (i1).toNat 0) fun z2 =>
 bnd (wrap .u64 (z1+z2)) fun z3 =>
 chk (inB i1 5) <|
 bnd (Z2g a1 (i1).toNat z3) fun l1 =>
 bnd (wrap .i64 (i1+1)) fun z4 =>
 k2 z4 l1
 ) (
 k1 a1
 )
def Z96 (y1:(LI)) (k1:(LI)->OL):Nat->Int->(LI)->OL
  | 0,_,_=>none
  | n+1,i1,a1=>Zhm y1 k1 (Z96 y1 k1 n) i1 a1
def Z30 (p0:LI) (p1:LI):OL :=
 opt (Z5o p0) fun y1 =>
 opt (Z5o p1) fun y2 =>
 jn (fun (a1:LI)=>opt (Z2r a1) fun y3 =>
 some y3) fun k1=>Z96 y2 k1 big 0 y1
theorem Z2v {W:World} {r:(LI)} {p0:LI} {p1:LI} (h:Z30 p0 p1=some r)  :
    Calls Tryz.prog 249 [agg [u5' p0],agg [u5' p1]].toArray W (Z1w W (agg [u5' r])):=by
 unfold Z30 at h
 refine Z9 mo Z0v3 rfl ?_
 refine Z0<|Z1<|Za (Z02 (s:=[u5' p0]) rfl fun b1 u1=>Za (Z02 (s:=[u5' p1]) rfl fun b2 u2=>Za (Zu fun b3 u3=>Z2<|Z0<|oH h fun y1 f1 h=>oH h fun y2 f2 h=>Zv<|Z1q (p:=[u5' p0]) rfl .t2 rfl<|Z4o rfl (Z57 f1)<|Z1q (p:=[u5' p1]) rfl .t1 rfl<|Z4o rfl (Z57 f2)<|Z16 rfl (Zm (q:=[u5' y1]) rfl rfl rfl rfl rfl .t2<|Z0pc rfl (Zm (q:=[u5' y2]) rfl rfl rfl rfl rfl .t1<|Z03<|Z0<|Z0<|Z1<|Z7 rfl<|Z2<|jH h fun k1 q1 h=>Zo (G:=fun t m=>∃ (a1:LI),k1 a1=some r/\Fit [(2,pt' b1),(4,pt' b3)] (ck b3 202 [u5' (replicate 5 0)]::(ck b2 202 [u5' y2]::(ck b1 202 [u5' a1] :: []))) t m) ?_ ?_)))))
 ·refine Zb<|Zz (fun n1 t m=>∃ (i1:Int) (a2:LI),Z96 y2 k1 n1 i1 a2=some r/\Fit [(2,pt' b1),(3,pt' b2),(4,pt' b3),(10,.int .i64 (i1))] (ck b3 202 [u5' (replicate 5 0)]::(ck b2 202 [u5' y2]::(ck b1 202 [u5' a2] :: []))) t m) big ?_ ?_
  ·exact ⟨0,y1,h,⟨⟨rfl,rfl,rfl,rfl,trivial⟩,(.o (.o (.o .nil)))⟩⟩
  ·rintro n1 t m ⟨i1,a2,h,hF⟩
   refine Zi hF ?_
   clear hF
   rcases n1 with _ | n1
   · exact Z0s h
   have h:Zhm y2 k1 (Z96 y2 k1 n1) i1 a2=some r:=h
   unfold Zhm at h
   obtain ⟨k2,q2⟩ : ∃ k,k=Z96 y2 k1 n1:=⟨_,rfl⟩
   try rw [<- q2] at h
   refine Z0<|Z1<|j_c rfl<|Z2<|Z0<|Z0k h rfl (fun h=>?_) (fun h=>?_)
   ·refine Zp<|Z0<|Zb<|Z0<|Z1<|Z7 rfl<|Z7 rfl<|Z2<|cH h fun c1 h=>cH h fun c2 h=>bH h fun z1 e1 h=>bH h fun z2 e2 h=>bH h fun z3 e3 h=>cH h fun c3 h=>bH h fun l1 g1 h=>Zv<|k_m rfl<|Z6v rfl rfl (Z0q c1)<|k_m rfl<|Z6v rfl rfl (Z0q c2)<|Z0v _ (iz e1 (Z32 (base:=0) rfl .t2 rfl (Z0g c1)))<|Z0v _ (iz e2 (Z32 (base:=0) rfl .t1 rfl (Z0g c2)))<|k_b e3 rfl<|Z6v rfl rfl (Z0q c3)<|Z16 rfl (Z1z (q:=[u5' l1]) (base:=0) g1 rfl rfl rfl (Z0g c3) rfl .t2<|Z03<|bH h fun z4 e4 h=>Z1<|j_b e4 rfl<|Z7 rfl<|Z2 ?_)
    rw [q2] at h
    exact ⟨n1,Nat.lt_succ_self _,z4,l1,h,⟨⟨rfl,rfl,rfl,rfl,trivial⟩,(.o (.o (.o .nil)))⟩⟩
   ·exact Z08 _ rfl<|⟨a2,h,⟨⟨rfl,rfl,trivial⟩,(.o (.o (.o .nil)))⟩⟩
 ·rintro t m ⟨a1,h,hF⟩
  refine Zi hF ?_
  clear hF
  subst q1
  refine Z0<|oH h fun y3 f3 h=>Z1<|Z0z (p:=[u5' a1]) rfl .t2 rfl<|Z2o rfl (Z2s f3)<|Za (Zm (q:=[u5' y3]) rfl rfl rfl rfl rfl .here<|Z2<|Zf ?_)
  cases h
  exact ⟨_,(.cons (.agg rfl .here rfl) .nil),rfl⟩
def Zho (y1:(LI)) (k1:(LI)->OL) (k2:Int->(LI)->OL) (i1:Int) (a1:LI):OL :=
 br ((decide (i1<5))) (
 chk (inB i1 5) <|
 bnd (y1.getD (i1).toNat 0) fun z1 =>
 bnd (wrap .u64 (4503599627370494-z1)) fun z2 =>
 chk (inB i1 5) <|
 bnd (Z2g a1 (i1).toNat z2) fun l1 =>
 bnd (wrap .i64 (i1+1)) fun z3 =>
 k2 z3 l1
 ) (
 k1 a1
 )
def Z99 (y1:(LI)) (k1:(LI)->OL):Nat->Int->(LI)->OL
  | 0,_,_=>none
  | n+1,i1,a1=>Zho y1 k1 (Z99 y1 k1 n) i1 a1
def Zhn (p0:LI):OL :=
 opt (Z2r p0) fun y1 =>
 bnd (y1.getD 0 0) fun z1 =>
 bnd (wrap .u64 (4503599627370458-z1)) fun z2 =>
 bnd (([z2,0,0,0,0]:LI)) fun z3 =>
 jn (fun (a1:LI)=>opt (Z2r a1) fun y2 =>
 some y2) fun k1=>Z99 y1 k1 big 1 z3
theorem Zqj {W:World} {r:(LI)} {p0:LI} (h:Zhn p0=some r)  :
    Calls Tryz.prog 253 [agg [u5' p0]].toArray W (Z1w W (agg [u5' r])):=by
 unfold Zhn at h
 refine Z9 mo Z0v5 rfl ?_
 refine Z0<|Z1<|Za (Z02 (s:=[u5' p0]) rfl fun b1 u1=>Za (Zu fun b2 u2=>Z2<|Z0<|oH h fun y1 f1 h=>Z1<|Z0z (p:=[u5' p0]) rfl .t1 rfl<|Z2o rfl (Z2s f1)<|Za (Zm (q:=[u5' y1]) rfl rfl rfl rfl rfl .t1<|Z2<|Z0<|bH h fun z1 e1 h=>bH h fun z2 e2 h=>bH h fun z3 e3 h=>Z1<|Z44 rfl rfl (by decide)<|j_i e1 rfl .t1 rfl<|j_b e2 rfl<|Zq _ (az (fun z=>agg [.ints .u64 5 z]) e3 (Zex (.one rfl rfl rfl BdR.nil)))<|Za (Zu fun b3 u3=>Za (Zm (q:=[u5' z3]) rfl rfl rfl rfl rfl .here<|Z2<|Z0<|Z0<|Z1<|Z7 rfl<|Z2<|jH h fun k1 q1 h=>Zo (G:=fun t m=>∃ (a1:LI),k1 a1=some r/\Fit [(2,pt' b2),(3,pt' b3)] (ck b3 202 [u5' a1]::(ck b2 202 [u5' (replicate 5 0)]::(ck b1 202 [u5' y1] :: []))) t m) ?_ ?_)))))
 ·refine Zb<|Zz (fun n1 t m=>∃ (i1:Int) (a2:LI),Z99 y1 k1 n1 i1 a2=some r/\Fit [(1,pt' b1),(2,pt' b2),(3,pt' b3),(4,.int .i64 (i1))] (ck b3 202 [u5' a2]::(ck b2 202 [u5' (replicate 5 0)]::(ck b1 202 [u5' y1] :: []))) t m) big ?_ ?_
  ·exact ⟨1,z3,h,⟨⟨rfl,rfl,rfl,rfl,trivial⟩,(.o (.o (.o .nil)))⟩⟩
  ·rintro n1 t m ⟨i1,a2,h,hF⟩
   refine Zi hF ?_
   clear hF
   rcases n1 with _ | n1
   · exact Z0s h
   have h:Zho y1 k1 (Z99 y1 k1 n1) i1 a2=some r:=h
   unfold Zho at h
   obtain ⟨k2,q2⟩ : ∃ k,k=Z99 y1 k1 n1:=⟨_,rfl⟩
   try rw [<- q2] at h
   refine Z0<|Z0<|Z1<|Z7 rfl<|j_c rfl<|Z2<|Z0k h rfl (fun h=>?_) (fun h=>?_)
   ·refine Zp<|Z0<|Zb<|cH h fun c1 h=>bH h fun z4 e4 h=>bH h fun z5 e5 h=>cH h fun c2 h=>bH h fun l1 g1 h=>Z1<|Z7 rfl<|Z7 rfl<|Z44 rfl rfl (Z0q c1)<|Zq _ (iz e4 (Z32 (base:=0) rfl .t2 rfl (Z0g c1)))<|j_b e5 rfl<|Z44 rfl rfl (Z0q c2)<|Za (Z1z (q:=[u5' l1]) (base:=0) g1 rfl rfl rfl (Z0g c2) rfl .here<|Z2<|bH h fun z6 e6 h=>Z1<|Z7 rfl<|j_b e6 rfl<|Z7 rfl<|Z2 ?_)
    rw [q2] at h
    exact ⟨n1,Nat.lt_succ_self _,z6,l1,h,⟨⟨rfl,rfl,rfl,rfl,trivial⟩,(.o (.o (.o .nil)))⟩⟩
   ·exact Z08 _ rfl<|⟨a2,h,⟨⟨rfl,rfl,trivial⟩,(.o (.o (.o .nil)))⟩⟩
 ·rintro t m ⟨a1,h,hF⟩
  refine Zi hF ?_
  clear hF
  subst q1
  refine Z0<|oH h fun y2 f2 h=>Z1<|Z0z (p:=[u5' a1]) rfl .here rfl<|Z2o rfl (Z2s f2)<|Za (Zm (q:=[u5' y2]) rfl rfl rfl rfl rfl .t1<|Z2<|Zf ?_)
  cases h
  exact ⟨_,(.cons (.agg rfl .t1 rfl) .nil),rfl⟩
def Z5w (p0:LI) (p1:LI):OL :=
 opt (Zhn p1) fun y1 =>
 opt (Z30 p0 y1) fun y2 =>
 some y2
theorem Z6u {W:World} {r:(LI)} {p0:LI} {p1:LI} (h:Z5w p0 p1=some r)  :
    Calls Tryz.prog 248 [agg [u5' p0],agg [u5' p1]].toArray W (Z1w W (agg [u5' r])):=by
 unfold Z5w at h
 refine Z9 mo Z0v2 rfl ?_
 refine Z0<|Z1<|Za (Z02 (s:=[u5' p0]) rfl fun b1 u1=>Za (Z02 (s:=[u5' p1]) rfl fun b2 u2=>Za (Zu fun b3 u3=>Z2<|Z0<|oH h fun y1 f1 h=>oH h fun y2 f2 h=>Zv<|Z1q (p:=[u5' p0]) rfl .t2 rfl<|Z1q (p:=[u5' p1]) rfl .t1 rfl<|Z4o rfl (Zqj f1)<|Z4o rfl (Z2v f2)<|Z16 rfl (Zm (q:=[u5' y2]) rfl rfl rfl rfl rfl .here<|Z03<|Zf ?_))))
 cases h
 exact ⟨_,(.cons (.agg rfl .here rfl) .nil),rfl⟩
def Z95 (p0:LI) (p1:LI) (p2:LI) (p3:LI):Option (Zl) :=
 opt (Z1x p0 p1) fun y1 =>
 opt (Z1x p2 p3) fun y2 =>
 opt (Z1x p1 p2) fun y3 =>
 opt (Z1x p0 p3) fun y4 =>
 some (⟨y1,y2,y3,y4⟩:Zl)
theorem Zfb {W:World} {r:Zl} {p0:LI} {p1:LI} {p2:LI} {p3:LI} (h:Z95 p0 p1 p2 p3=some r)  :
    Calls Tryz.prog 396 [agg [u5' p0],agg [u5' p1],agg [u5' p2],agg [u5' p3]].toArray W (Z1w W (agg (Zy r []))):=by
 unfold Z95 at h
 refine Z9 mo Z0y1 rfl ?_
 refine Z0<|Z1<|Za (Z02 (s:=[u5' p0]) rfl fun b1 u1=>Za (Z02 (s:=[u5' p1]) rfl fun b2 u2=>Za (Z02 (s:=[u5' p2]) rfl fun b3 u3=>Za (Z02 (s:=[u5' p3]) rfl fun b4 u4=>Za (Zu fun b5 u5=>Z2<|Z0<|oH h fun y1 f1 h=>oH h fun y2 f2 h=>oH h fun y3 f3 h=>oH h fun y4 f4 h=>Zv<|Z1q (p:=[u5' p0]) rfl .t4 rfl<|Z1q (p:=[u5' p1]) rfl .t3 rfl<|Z4o rfl (Z1l f1)<|Z1q (p:=[u5' p2]) rfl .t2 rfl<|Z1q (p:=[u5' p3]) rfl .t1 rfl<|Z4o rfl (Z1l f2)<|Z1q (p:=[u5' p1]) rfl .t3 rfl<|Z1q (p:=[u5' p2]) rfl .t2 rfl<|Z4o rfl (Z1l f3)<|Z1q (p:=[u5' p0]) rfl .t4 rfl<|Z1q (p:=[u5' p3]) rfl .t1 rfl<|Z4o rfl (Z1l f4)<|Z0x _ (Zex (q:=[u5' y1,u5' y2,u5' y3,u5' y4]) (.agg rfl rfl rfl (.agg rfl rfl rfl (.agg rfl rfl rfl (.agg rfl rfl rfl BdR.nil)))))<|Z16 rfl (Zm (q:=[u5' y1,u5' y2,u5' y3,u5' y4]) rfl rfl rfl rfl rfl .here<|Z03<|Zf ?_))))))
 cases h
 exact ⟨_,(.cons (.agg rfl .here rfl) .nil),rfl⟩
def Z9l:OL :=
 bnd (([1859910466990425,932731440258426,1072319116312658,1815898335770999,633789495995903]:LI)) fun z1 =>
 some z1
theorem Zks {W:World} {r:(LI)} (h:Z9l=some r)  :
    Calls Tryz.prog 397 [].toArray W (Z1w W (agg [u5' r])):=by
 unfold Z9l at h
 refine Z9 mo Z0y2 rfl ?_
 refine Z0<|Z1<|Za (Zu fun b1 u1=>Z2<|Z0<|bH h fun z1 e1 h=>Z1<|Zq _ (az (fun z=>agg [.ints .u64 5 z]) e1 (Zex (.one rfl rfl rfl (.one rfl rfl rfl (.one rfl rfl rfl (.one rfl rfl rfl (.one rfl rfl rfl BdR.nil)))))))<|Za (Zm (q:=[u5' z1]) rfl rfl rfl rfl rfl .here<|Z2<|Zf ?_))
 cases h
 exact ⟨_,(.cons (.agg rfl .here rfl) .nil),rfl⟩
def Zcz (p0:Zl) (p1:Zl):Option (Zl) :=
 opt (Z5w p0.gY p0.gX) fun y1 =>
 opt (Z5w p1.gY p1.gX) fun y2 =>
 opt (Z1x y1 y2) fun y3 =>
 opt (Z30 p0.gY p0.gX) fun y4 =>
 opt (Z30 p1.gY p1.gX) fun y5 =>
 opt (Z1x y4 y5) fun y6 =>
 opt (Z9l) fun y7 =>
 opt (Z1x p0.gT y7) fun y8 =>
 opt (Z1x y8 p1.gT) fun y9 =>
 opt (Z30 p0.gZ p0.gZ) fun y10 =>
 opt (Z1x y10 p1.gZ) fun y11 =>
 opt (Z5w y6 y3) fun y12 =>
 opt (Z5w y11 y9) fun y13 =>
 opt (Z30 y11 y9) fun y14 =>
 opt (Z30 y6 y3) fun y15 =>
 opt (Z95 y12 y13 y14 y15) fun y16 =>
 some y16
theorem Zju {W:World} {r:Zl} {p0:Zl} {p1:Zl} (h:Zcz p0 p1=some r)  :
    Calls Tryz.prog 267 [agg (Zy p0 []),agg (Zy p1 [])].toArray W (Z1w W (agg (Zy r []))):=by
 unfold Zcz at h
 refine Z9 mo Z0vj rfl ?_
 refine Z0<|Z1<|Za (Z02 (s:=(Zy p0 [])) rfl fun b1 u1=>Za (Z02 (s:=(Zy p1 [])) rfl fun b2 u2=>Za (Zu fun b3 u3=>Z2<|Z0<|oH h fun y1 f1 h=>oH h fun y2 f2 h=>oH h fun y3 f3 h=>Zv<|Zdc rfl<|Zdc rfl<|Zdc rfl<|Zdc rfl<|Z1q (p:=[u5' p0.gY]) rfl .t2 rfl<|Z1q (p:=[u5' p0.gX]) rfl .t2 rfl<|Z4o rfl (Z6u f1)<|Z1q (p:=[u5' p1.gY]) rfl .t1 rfl<|Z1q (p:=[u5' p1.gX]) rfl .t1 rfl<|Z4o rfl (Z6u f2)<|Z4o rfl (Z1l f3)<|Z36 (Zu fun b4 u4=>⟨sU,Z16 rfl (Zm (q:=[u5' y3]) rfl rfl rfl rfl rfl .here (Z03 (Z0 (oH h fun y4 f4 h=>oH h fun y5 f5 h=>oH h fun y6 f6 h=>Zv (Zdc rfl (Zdc rfl (Zdc rfl (Zdc rfl (Z1q (p:=[u5' p0.gY]) rfl .t3 rfl (Z1q (p:=[u5' p0.gX]) rfl .t3 rfl (Z4o rfl (Z2v f4) (Z1q (p:=[u5' p1.gY]) rfl .t2 rfl (Z1q (p:=[u5' p1.gX]) rfl .t2 rfl (Z4o rfl (Z2v f5) (Z4o rfl (Z1l f6) (Z36 (Zu fun b5 u5=>⟨sU,Z16 rfl (Zm (q:=[u5' y6]) rfl rfl rfl rfl rfl .here (Z03 (Z0 (oH h fun y7 f7 h=>Z1 (Z2o rfl (Zks f7) (Za (Zu fun b6 u6=>Za (Zm (q:=[u5' y7]) rfl rfl rfl rfl rfl .here (Z2 (Z0 (oH h fun y8 f8 h=>oH h fun y9 f9 h=>Zv (Zdc rfl (Zdc rfl (Z1q (p:=[u5' p0.gT]) rfl .t5 rfl (Z1q (p:=[u5' y7]) rfl .here rfl (Z4o rfl (Z1l f8) (Z1q (p:=[u5' p1.gT]) rfl .t4 rfl (Z4o rfl (Z1l f9) (Z36 (Zu fun b7 u7=>⟨sU,Z16 rfl (Zm (q:=[u5' y9]) rfl rfl rfl rfl rfl .here (Z03 (Z0 (oH h fun y10 f10 h=>oH h fun y11 f11 h=>Zv (Zdc rfl (Zdc rfl (Zdc rfl (Z1q (p:=[u5' p0.gZ]) rfl .t6 rfl (Z1q (p:=[u5' p0.gZ]) rfl .t6 rfl (Z4o rfl (Z2v f10) (Z1q (p:=[u5' p1.gZ]) rfl .t5 rfl (Z4o rfl (Z1l f11) (Z36 (Zu fun b8 u8=>⟨sU,Z16 rfl (Zm (q:=[u5' y11]) rfl rfl rfl rfl rfl .here (Z03 (Z0 (oH h fun y12 f12 h=>oH h fun y13 f13 h=>oH h fun y14 f14 h=>oH h fun y15 f15 h=>oH h fun y16 f16 h=>Zv (Z1q (p:=[u5' y6]) rfl .t3 rfl (Z1q (p:=[u5' y3]) rfl .t4 rfl (Z4o rfl (Z6u f12) (Z1q (p:=[u5' y11]) rfl .here rfl (Z1q (p:=[u5' y9]) rfl .t1 rfl (Z4o rfl (Z6u f13) (Z1q (p:=[u5' y11]) rfl .here rfl (Z1q (p:=[u5' y9]) rfl .t1 rfl (Z4o rfl (Z2v f14) (Z1q (p:=[u5' y6]) rfl .t3 rfl (Z1q (p:=[u5' y3]) rfl .t4 rfl (Z4o rfl (Z2v f15) (Z4o rfl (Zfb f16) (Z16 rfl (Zm (q:=(Zy y16 [])) rfl rfl rfl rfl rfl .t5 (Z03 (Zf ?_)))))))))))))))))))))⟩))))))))))))))⟩))))))))))))))))))))⟩)))))))))))))))))⟩))))
 cases h
 exact ⟨_,(.cons (.agg rfl .t5 rfl) .nil),rfl⟩
abbrev Z0y:El (Zl):=⟨20,fun x=>cells [u5' x.gX,u5' x.gY,u5' x.gZ,u5' x.gT],fun x=>by rw [cells_length]; rfl,fun x=>(Z1b Zb8 (Z1b Zb8 (Z1b Zb8 (Z1b Zb8 Z6f)))),by decide,Z29⟩
def Z46 (p0:Zl) (k1:(List (Zl))->Option ((List (Zl)))) (k2:Int->(List (Zl))->Option ((List (Zl)))) (i1:Int) (a1:List (Zl)):Option ((List (Zl))) :=
 br ((decide (i1<15))) (
 bnd (wrap .i64 (i1+1)) fun z1 =>
 chk (inB i1 16) <|
 bnd (a1.getD (i1).toNat Z29) fun x1 =>
 opt (Zcz x1 p0) fun y1 =>
 chk (inB z1 16) <|
 bnd (Zh7 Z29 a1 (z1).toNat y1) fun l1 =>
 bnd (wrap .i64 (i1+1)) fun z2 =>
 k2 z2 l1
 ) (
 k1 a1
 )
def Z2b (p0:Zl) (k1:(List (Zl))->Option ((List (Zl)))):Nat->Int->(List (Zl))->Option ((List (Zl)))
  | 0,_,_=>none
  | n+1,i1,a1=>Z46 p0 k1 (Z2b p0 k1 n) i1 a1
def Z79 (p0:Zl):Option ((List (Zl))) :=
 opt (Zck) fun y1 =>
 bnd (Zh7 Z29 (replicate 16 Z29) 0 y1) fun l1 =>
 jn (fun (a1:List (Zl))=>some a1) fun k1=>Z2b p0 k1 big 0 l1
theorem Zjl {W:World} {r:(List (Zl))} {p0:Zl} (h:Z79 p0=some r)  :
    Calls Tryz.prog 264 [agg (Zy p0 [])].toArray W (Z1w W (agg [.rows 20 16 (Zbp Z0y (r))])):=by
 unfold Z79 at h
 refine Z9 mo Z0vg rfl ?_
 refine Z0<|Z1<|Za (Z02 (s:=(Zy p0 [])) rfl fun b1 u1=>Za (Zou (z':=[.rows 20 16 (Zbp Z0y ((replicate 16 Z29)))]) (Zga (E:=Z0y) rfl rfl) fun b2 u2=>Z2<|Z0<|Z1<|Za (Zou (z':=[.rows 20 16 (Zbp Z0y ((replicate 16 Z29)))]) (Zga (E:=Z0y) rfl rfl) fun b3 u3=>Z2<|Z0<|oH h fun y1 f1 h=>bH h fun l1 g1 h=>Z1<|Zq _ (Z06 (vs:=[]) (v:=agg (Zy y1 [])) rfl (fun w hw=>Zhh (r:=y1) f1 ))<|Z44 rfl rfl (by decide)<|Za (Zow (q:=[.rows 20 16 (Zbp Z0y (l1))]) (E:=Z0y) (base:=0) (i:=0) (len:=16) g1 rfl rfl rfl rfl (by decide) rfl .here<|Z2<|Z0<|Z0<|Z1<|Z7 rfl<|Z2<|jH h fun k1 q1 h=>Zo (G:=fun t m=>∃ (a1:List (Zl)),k1 a1=some r/\Fit [(2,pt' b2),(3,pt' b3)] (ck b3 331 [.rows 20 16 (Zbp Z0y (a1))]::(ck b2 331 [.rows 20 16 (Zbp Z0y ((replicate 16 Z29)))]::(ck b1 204 (Zy p0 []) :: []))) t m) ?_ ?_))))
 ·refine Zb<|Zz (fun n1 t m=>∃ (i1:Int) (a2:List (Zl)),Z2b p0 k1 n1 i1 a2=some r/\Fit [(1,pt' b1),(2,pt' b2),(3,pt' b3),(7,.int .i64 (i1))] (ck b3 331 [.rows 20 16 (Zbp Z0y (a2))]::(ck b2 331 [.rows 20 16 (Zbp Z0y ((replicate 16 Z29)))]::(ck b1 204 (Zy p0 []) :: []))) t m) big ?_ ?_
  ·exact ⟨0,l1,h,⟨⟨rfl,rfl,rfl,rfl,trivial⟩,(.o (.o (.o .nil)))⟩⟩
  ·rintro n1 t m ⟨i1,a2,h,hF⟩
   refine Zi hF ?_
   clear hF
   rcases n1 with _ | n1
   · exact Z0s h
   have h:Z46 p0 k1 (Z2b p0 k1 n1) i1 a2=some r:=h
   unfold Z46 at h
   obtain ⟨k2,q2⟩ : ∃ k,k=Z2b p0 k1 n1:=⟨_,rfl⟩
   try rw [<- q2] at h
   refine Z0<|Z1<|j_c rfl<|Z2<|Z0<|Z0k h rfl (fun h=>?_) (fun h=>?_)
   ·refine Zp<|Z0<|Zb<|Z0<|Z1<|Z7 rfl<|Z7 rfl<|Z2<|bH h fun z1 e1 h=>cH h fun c1 h=>bH h fun x1 j1 h=>oH h fun y2 f2 h=>cH h fun c2 h=>bH h fun l2 g2 h=>Zv<|k_m rfl<|k_b e1 rfl<|k_m rfl<|Z6v rfl rfl (Z0q c1)<|Z0v _ (az (fun x1=>agg (Zy x1 [])) j1 (Zrn (base:=0) (w:=20) rfl .here rfl (Z0g c1) rfl rfl rfl))<|Z1q (p:=(Zy p0 [])) rfl .t2 rfl<|Z0x _ (Z06 (vs:=[agg (Zy x1 []),agg (Zy p0 [])]) (v:=agg (Zy y2 [])) rfl (fun w hw=>Zju (r:=y2) (p0:=x1) (p1:=p0) f2 ))<|Z6v rfl rfl (Z0q c2)<|Z16 rfl (Zow (q:=[.rows 20 16 (Zbp Z0y (l2))]) (E:=Z0y) (base:=0) g2 rfl rfl rfl rfl (Z0g c2) rfl .here<|Z03<|bH h fun z2 e2 h=>Z1<|j_b e2 rfl<|Z7 rfl<|Z2 ?_)
    rw [q2] at h
    exact ⟨n1,Nat.lt_succ_self _,z2,l2,h,⟨⟨rfl,rfl,rfl,rfl,trivial⟩,(.o (.o (.o .nil)))⟩⟩
   ·exact Z08 _ rfl<|⟨a2,h,⟨⟨rfl,rfl,trivial⟩,(.o (.o (.o .nil)))⟩⟩
 ·rintro t m ⟨a1,h,hF⟩
  refine Zi hF ?_
  clear hF
  subst q1
  refine Z0<|Z1<|Z0z (p:=[.rows 20 16 (Zbp Z0y (a1))]) rfl .here (by kernel_rfl)<|Za (Zhj (p:=[.rows 20 16 (Zbp Z0y (a1))]) (q:=[.rows 20 16 (Zbp Z0y (a1))]) rfl rfl (by kernel_rfl) (by kernel_rfl) (Z1b (Zl3 (E:=Z0y)) Z6f) .t1<|Z2<|Zf ?_)
  cases h
  exact ⟨_,(.cons (.agg rfl .t1 rfl) .nil),rfl⟩
def Z94 (p0:Zl):Option (Zl) :=
 opt (Z2c p0.gX) fun y1 =>
 opt (Z2c p0.gY) fun y2 =>
 opt (Z2c p0.gZ) fun y3 =>
 opt (Z30 y1 y2) fun y4 =>
 opt (Z30 p0.gX p0.gY) fun y5 =>
 opt (Z2c y5) fun y6 =>
 opt (Z5w y4 y6) fun y7 =>
 opt (Z5w y1 y2) fun y8 =>
 opt (Z30 y3 y3) fun y9 =>
 opt (Z30 y9 y8) fun y10 =>
 opt (Z95 y7 y10 y8 y4) fun y11 =>
 some y11
theorem Zlu {W:World} {r:Zl} {p0:Zl} (h:Z94 p0=some r)  :
    Calls Tryz.prog 266 [agg (Zy p0 [])].toArray W (Z1w W (agg (Zy r []))):=by
 unfold Z94 at h
 refine Z9 mo Z0vi rfl ?_
 refine Z0<|Z1<|Za (Z02 (s:=(Zy p0 [])) rfl fun b1 u1=>Za (Zu fun b2 u2=>Z2<|Z0<|oH h fun y1 f1 h=>Z1<|Z4c rfl<|Z0z (p:=[u5' p0.gX]) rfl .t1 rfl<|Z2o rfl (Z5v f1)<|Za (Zu fun b3 u3=>Za (Zm (q:=[u5' y1]) rfl rfl rfl rfl rfl .here<|Z2<|Z0<|oH h fun y2 f2 h=>Z1<|Z4c rfl<|Z0z (p:=[u5' p0.gY]) rfl .t2 rfl<|Z2o rfl (Z5v f2)<|Za (Zu fun b4 u4=>Za (Zm (q:=[u5' y2]) rfl rfl rfl rfl rfl .here<|Z2<|Z0<|oH h fun y3 f3 h=>Z1<|Z4c rfl<|Z0z (p:=[u5' p0.gZ]) rfl .t3 rfl<|Z2o rfl (Z5v f3)<|Za (Zu fun b5 u5=>Za (Zm (q:=[u5' y3]) rfl rfl rfl rfl rfl .here<|Z2<|Z0<|oH h fun y4 f4 h=>Z1<|Z0z (p:=[u5' y1]) rfl .t2 rfl<|Z0z (p:=[u5' y2]) rfl .t1 rfl<|Z2o rfl (Z2v f4)<|Za (Zu fun b6 u6=>Za (Zm (q:=[u5' y4]) rfl rfl rfl rfl rfl .here<|Z2<|Z0<|oH h fun y5 f5 h=>oH h fun y6 f6 h=>oH h fun y7 f7 h=>Zv<|Zdc rfl<|Zdc rfl<|Z1q (p:=[u5' y4]) rfl .here rfl<|Z1q (p:=[u5' p0.gX]) rfl .t5 rfl<|Z1q (p:=[u5' p0.gY]) rfl .t5 rfl<|Z4o rfl (Z2v f5)<|Z4o rfl (Z5v f6)<|Z4o rfl (Z6u f7)<|Z36 (Zu fun b7 u7=>⟨sU,Z16 rfl (Zm (q:=[u5' y7]) rfl rfl rfl rfl rfl .here (Z03 (Z0 (oH h fun y8 f8 h=>Z1 (Z0z (p:=[u5' y1]) rfl .t4 rfl (Z0z (p:=[u5' y2]) rfl .t3 rfl (Z2o rfl (Z6u f8) (Za (Zu fun b8 u8=>Za (Zm (q:=[u5' y8]) rfl rfl rfl rfl rfl .here (Z2 (Z0 (oH h fun y9 f9 h=>oH h fun y10 f10 h=>Zv (Z1q (p:=[u5' y3]) rfl .t3 rfl (Z1q (p:=[u5' y3]) rfl .t3 rfl (Z4o rfl (Z2v f9) (Z1q (p:=[u5' y8]) rfl .here rfl (Z4o rfl (Z2v f10) (Z36 (Zu fun b9 u9=>⟨sU,Z16 rfl (Zm (q:=[u5' y10]) rfl rfl rfl rfl rfl .here (Z03 (Z0 (oH h fun y11 f11 h=>Z1 (Z0z (p:=[u5' y7]) rfl .t2 rfl (Z0z (p:=[u5' y10]) rfl .here rfl (Z0z (p:=[u5' y8]) rfl .t1 rfl (Z0z (p:=[u5' y4]) rfl .t3 rfl (Z2o rfl (Zfb f11) (Za (Zm (q:=(Zy y11 [])) rfl rfl rfl rfl rfl .t7 (Z2 (Zf ?_)))))))))))))⟩))))))))))))))))))))⟩)))))))))))
 cases h
 exact ⟨_,(.cons (.agg rfl .t7 rfl) .nil),rfl⟩
def Zay (p0:LI) (p1:Int):Option Int :=
 bnd (wrap .i64 (Int.tdiv p1 2)) fun z1 =>
 bnd (wrap .i64 (31-z1)) fun z2 =>
 chk (inB z2 32) <|
 bnd (p0.getD (z2).toNat 0) fun z3 =>
 bnd (Int.tmod p1 2) fun z4 =>
 bnd (wrap .i64 (1-z4)) fun z5 =>
 bnd (wrap .i64 (4*z5)) fun z6 =>
 chk (decide (0<=z6)) <|
 bnd (Zx .u8 z3 z6) fun z7 =>
 bnd (Z4 .and .u8 z7 15) fun z8 =>
 some z8
theorem Zlv {W:World} {r:Int} {p0:LI} {p1:Int} (h:Zay p0 p1=some r)  :
    Calls Tryz.prog 268 [agg [b3' p0],.int .i64 (p1)].toArray W (Z1w W (.int .u8 (r))):=by
 unfold Zay at h
 refine Z9 mo Z0vk rfl ?_
 refine Z0<|Z1<|Za (Z02 (s:=[b3' p0]) rfl fun b1 u1=>Z7 rfl<|Z2<|Z0<|bH h fun z1 e1 h=>bH h fun z2 e2 h=>cH h fun c1 h=>bH h fun z3 e3 h=>bH h fun z4 e4 h=>bH h fun z5 e5 h=>bH h fun z6 e6 h=>cH h fun c2 h=>bH h fun z7 e7 h=>bH h fun z8 e8 h=>Z1<|Z7 rfl<|Zq _ (iz e1 (Zbl rfl rfl (by decide)))<|j_b e2 rfl<|Z44 rfl rfl (Z0q c1)<|Zq _ (iz e3 (Z32 (base:=0) rfl .here rfl (Z0g c1)))<|Z7 rfl<|Zq _ (iz e4 (Zdp rfl rfl (by decide)))<|j_b e5 rfl<|j_b e6 rfl<|Zq _ (iz e7 (Z61 rfl rfl (of_decide_eq_true c2)))<|j_b e8 rfl<|Z7 rfl<|Z2<|Zf ?_)
 cases h
 exact ⟨_,(.cons (.tmp rfl) .nil),rfl⟩
def Zax (k1:(LI)->(LI)->(LI)->(LI)->Option (Zl)) (k2:Int->(LI)->(LI)->(LI)->(LI)->Option (Zl)) (i1:Int) (a1:LI) (a2:LI) (a3:LI) (a4:LI):Option (Zl) :=
 br ((decide (i1<4))) (
 opt (Z94 (⟨a1,a2,a3,a4⟩:Zl)) fun y1 =>
 bnd (wrap .i64 (i1+1)) fun z1 =>
 k2 z1 y1.gX y1.gY y1.gZ y1.gT
 ) (
 k1 a1 a2 a3 a4
 )
def Z4m (k1:(LI)->(LI)->(LI)->(LI)->Option (Zl)):Nat->Int->(LI)->(LI)->(LI)->(LI)->Option (Zl)
  | 0,_,_,_,_,_=>none
  | n+1,i1,a1,a2,a3,a4=>Zax k1 (Z4m k1 n) i1 a1 a2 a3 a4
def Zaw (p0:LI) (y1:(List (Zl))) (k1:(LI)->(LI)->(LI)->(LI)->Option (Zl)) (k2:Int->(LI)->(LI)->(LI)->(LI)->Option (Zl)) (i1:Int) (a1:LI) (a2:LI) (a3:LI) (a4:LI):Option (Zl) :=
 br ((decide (i1<64))) (
 jn (fun (a5:LI) (a6:LI) (a7:LI) (a8:LI)=>opt (Zay p0 i1) fun y2 =>
 chk (inB y2 16) <|
 bnd (y1.getD (y2).toNat Z29) fun x1 =>
 opt (Zcz (⟨a5,a6,a7,a8⟩:Zl) x1) fun y3 =>
 bnd (wrap .i64 (i1+1)) fun z1 =>
 k2 z1 y3.gX y3.gY y3.gZ y3.gT) fun k3=>Z4m k3 big 0 a1 a2 a3 a4
 ) (
 k1 a1 a2 a3 a4
 )
def Z69 (p0:LI) (y1:(List (Zl))) (k1:(LI)->(LI)->(LI)->(LI)->Option (Zl)):Nat->Int->(LI)->(LI)->(LI)->(LI)->Option (Zl)
  | 0,_,_,_,_,_=>none
  | n+1,i1,a1,a2,a3,a4=>Zaw p0 y1 k1 (Z69 p0 y1 k1 n) i1 a1 a2 a3 a4
def Zhg (p0:LI) (p1:Zl):Option (Zl) :=
 opt (Z79 p1) fun y1 =>
 opt (Zck) fun y2 =>
 jn (fun (a1:LI) (a2:LI) (a3:LI) (a4:LI)=>some (⟨a1,a2,a3,a4⟩:Zl)) fun k1=>Z69 p0 y1 k1 big 0 y2.gX y2.gY y2.gZ y2.gT
theorem Zqh {W:World} {r:Zl} {p0:LI} {p1:Zl} (h:Zhg p0 p1=some r)  :
    Calls Tryz.prog 317 [agg [b3' p0],agg (Zy p1 [])].toArray W (Z1w W (agg (Zy r []))):=by
 unfold Zhg at h
 refine Z9 mo Z0wd rfl ?_
 refine Z0<|Z1<|Za (Z02 (s:=[b3' p0]) rfl fun b1 u1=>Za (Z02 (s:=(Zy p1 [])) rfl fun b2 u2=>Za (Zu fun b3 u3=>Z2<|Z0<|oH h fun y1 f1 h=>Z1<|Z0z (p:=(Zy p1 [])) rfl .t1 rfl<|Z2o rfl (Zjl f1)<|Za (Zou (z':=[.rows 20 16 (Zbp Z0y ((replicate 16 Z29)))]) (Zga (E:=Z0y) rfl rfl) fun b4 u4=>Za (Zhj (p:=[.rows 20 16 (Zbp Z0y (y1))]) (q:=[.rows 20 16 (Zbp Z0y (y1))]) rfl rfl (by kernel_rfl) (by kernel_rfl) (Z1b (Zl3 (E:=Z0y)) Z6f) .here<|Z2<|Z0<|oH h fun y2 f2 h=>Z1<|Zq _ (Z06 (vs:=[]) (v:=agg (Zy y2 [])) rfl (fun w hw=>Zhh (r:=y2) f2 ))<|Za (Zu fun b5 u5=>Za (Zm (q:=(Zy y2 [])) rfl rfl rfl rfl rfl .here<|Z2<|Z0<|Z0<|Z1<|Z7 rfl<|Z2<|jH h fun k1 q1 h=>Zo (G:=fun t m=>∃ (a1:LI) (a2:LI) (a3:LI) (a4:LI),k1 a1 a2 a3 a4=some r/\Fit [(4,pt' b3),(6,pt' b5)] (ck b5 204 [u5' a1,u5' a2,u5' a3,u5' a4]::(ck b4 331 [.rows 20 16 (Zbp Z0y (y1))]::(ck b3 204 [u5' (replicate 5 0),u5' (replicate 5 0),u5' (replicate 5 0),u5' (replicate 5 0)]::(ck b2 204 (Zy p1 [])::(ck b1 149 [b3' p0] :: []))))) t m) ?_ ?_)))))))
 ·refine Zb<|Zz (fun n1 t m=>∃ (i1:Int) (a5:LI) (a6:LI) (a7:LI) (a8:LI),Z69 p0 y1 k1 n1 i1 a5 a6 a7 a8=some r/\Fit [(2,pt' b1),(4,pt' b3),(5,pt' b4),(6,pt' b5),(11,.int .i64 (i1))] (ck b5 204 [u5' a5,u5' a6,u5' a7,u5' a8]::(ck b4 331 [.rows 20 16 (Zbp Z0y (y1))]::(ck b3 204 [u5' (replicate 5 0),u5' (replicate 5 0),u5' (replicate 5 0),u5' (replicate 5 0)]::(ck b2 204 (Zy p1 [])::(ck b1 149 [b3' p0] :: []))))) t m) big ?_ ?_
  ·exact ⟨0,y2.gX,y2.gY,y2.gZ,y2.gT,h,⟨⟨rfl,rfl,rfl,rfl,rfl,trivial⟩,(.o (.o (.o (.o (.o .nil)))))⟩⟩
  ·rintro n1 t m ⟨i1,a5,a6,a7,a8,h,hF⟩
   refine Zi hF ?_
   clear hF
   rcases n1 with _ | n1
   · exact Z0s h
   have h:Zaw p0 y1 k1 (Z69 p0 y1 k1 n1) i1 a5 a6 a7 a8=some r:=h
   unfold Zaw at h
   obtain ⟨k2,q2⟩ : ∃ k,k=Z69 p0 y1 k1 n1:=⟨_,rfl⟩
   try rw [<- q2] at h
   refine Z0<|Z1<|j_c rfl<|Z2<|Z0<|Z0k h rfl (fun h=>?_) (fun h=>?_)
   ·refine Zp<|Z0<|Zb<|Z0<|Z1<|Z7 rfl<|Z7 rfl<|Z2<|Z0<|Z0<|Z1<|Z7 rfl<|Z2<|jH h fun k3 q3 h=>Zo (G:=fun t m=>∃ (a9:LI) (a10:LI) (a11:LI) (a12:LI),k3 a9 a10 a11 a12=some r/\Fit [(2,pt' b1),(4,pt' b3),(5,pt' b4),(6,pt' b5),(7,.int .i64 (i1)),(11,.int .i64 (i1))] (ck b5 204 [u5' a9,u5' a10,u5' a11,u5' a12]::(ck b4 331 [.rows 20 16 (Zbp Z0y (y1))]::(ck b3 204 [u5' (replicate 5 0),u5' (replicate 5 0),u5' (replicate 5 0),u5' (replicate 5 0)]::(ck b2 204 (Zy p1 [])::(ck b1 149 [b3' p0] :: []))))) t m) ?_ ?_
    ·refine Zb<|Zz (fun n2 t m=>∃ (i2:Int) (a13:LI) (a14:LI) (a15:LI) (a16:LI),Z4m k3 n2 i2 a13 a14 a15 a16=some r/\Fit [(2,pt' b1),(4,pt' b3),(5,pt' b4),(6,pt' b5),(7,.int .i64 (i1)),(11,.int .i64 (i1)),(14,.int .i64 (i2))] (ck b5 204 [u5' a13,u5' a14,u5' a15,u5' a16]::(ck b4 331 [.rows 20 16 (Zbp Z0y (y1))]::(ck b3 204 [u5' (replicate 5 0),u5' (replicate 5 0),u5' (replicate 5 0),u5' (replicate 5 0)]::(ck b2 204 (Zy p1 [])::(ck b1 149 [b3' p0] :: []))))) t m) big ?_ ?_
     ·exact ⟨0,a5,a6,a7,a8,h,⟨⟨rfl,rfl,rfl,rfl,rfl,rfl,rfl,trivial⟩,(.o (.o (.o (.o (.o .nil)))))⟩⟩
     ·rintro n2 t m ⟨i2,a13,a14,a15,a16,h,hF⟩
      refine Zi hF ?_
      clear hF
      rcases n2 with _ | n2
      · exact Z0s h
      have h:Zax k3 (Z4m k3 n2) i2 a13 a14 a15 a16=some r:=h
      unfold Zax at h
      obtain ⟨k4,q4⟩ : ∃ k,k=Z4m k3 n2:=⟨_,rfl⟩
      try rw [<- q4] at h
      refine Z0<|Z1<|j_c rfl<|Z2<|Z0<|Z0k h rfl (fun h=>?_) (fun h=>?_)
      ·refine Zp<|Z0<|Zb<|oH h fun y3 f3 h=>Z1<|Z0z (p:=[u5' a13,u5' a14,u5' a15,u5' a16]) rfl .here rfl<|Zq _ (Z06 (vs:=[agg [u5' a13,u5' a14,u5' a15,u5' a16]]) (v:=agg (Zy y3 [])) rfl (fun w hw=>Zlu (r:=y3) (p0:=(⟨a13,a14,a15,a16⟩:Zl)) f3 ))<|Za (Zm (q:=(Zy y3 [])) rfl rfl rfl rfl rfl .here<|Z2<|bH h fun z1 e1 h=>Z1<|j_b e1 rfl<|Z7 rfl<|Z2 ?_)
       rw [q4] at h
       exact ⟨n2,Nat.lt_succ_self _,z1,y3.gX,y3.gY,y3.gZ,y3.gT,h,⟨⟨rfl,rfl,rfl,rfl,rfl,rfl,rfl,trivial⟩,(.o (.o (.o (.o (.o .nil)))))⟩⟩
      ·exact Z08 _ rfl<|⟨a13,a14,a15,a16,h,⟨⟨rfl,rfl,rfl,rfl,rfl,rfl,trivial⟩,(.o (.o (.o (.o (.o .nil)))))⟩⟩
    ·rintro t m ⟨a9,a10,a11,a12,h,hF⟩
     refine Zi hF ?_
     clear hF
     subst q3
     refine oH h fun y4 f4 h=>cH h fun c1 h=>bH h fun x1 j1 h=>oH h fun y5 f5 h=>Zv<|k_m rfl<|Z1q (p:=[u5' a9,u5' a10,u5' a11,u5' a12]) rfl .here rfl<|Z1q (p:=[b3' p0]) rfl .t4 rfl<|Z0x _ (Z06 (vs:=[agg [b3' p0],.int .i64 (i1)]) (v:=.int .u8 (y4)) rfl (fun w hw=>Zlv (r:=y4) (p0:=p0) (p1:=i1) f4 ))<|Z6v rfl rfl (Z0q c1)<|Z0v _ (az (fun x1=>agg (Zy x1 [])) j1 (Zrn (base:=0) (w:=20) rfl .t1 rfl (Z0g c1) rfl rfl rfl))<|Z0x _ (Z06 (vs:=[agg [u5' a9,u5' a10,u5' a11,u5' a12],agg (Zy x1 [])]) (v:=agg (Zy y5 [])) rfl (fun w hw=>Zju (r:=y5) (p0:=(⟨a9,a10,a11,a12⟩:Zl)) (p1:=x1) f5 ))<|Z16 rfl (Zm (q:=(Zy y5 [])) rfl rfl rfl rfl rfl .here<|Z03<|bH h fun z2 e2 h=>Z1<|j_b e2 rfl<|Z7 rfl<|Z2 ?_)
     rw [q2] at h
     exact ⟨n1,Nat.lt_succ_self _,z2,y5.gX,y5.gY,y5.gZ,y5.gT,h,⟨⟨rfl,rfl,rfl,rfl,rfl,trivial⟩,(.o (.o (.o (.o (.o .nil)))))⟩⟩
   ·exact Z08 _ rfl<|⟨a5,a6,a7,a8,h,⟨⟨rfl,rfl,trivial⟩,(.o (.o (.o (.o (.o .nil)))))⟩⟩
 ·rintro t m ⟨a1,a2,a3,a4,h,hF⟩
  refine Zi hF ?_
  clear hF
  subst q1
  refine Z0<|Z1<|Z0z (p:=[u5' a1,u5' a2,u5' a3,u5' a4]) rfl .here rfl<|Za (Zm (q:=[u5' a1,u5' a2,u5' a3,u5' a4]) rfl rfl rfl rfl rfl .t2<|Z2<|Zf ?_)
  cases h
  exact ⟨_,(.cons (.agg rfl .t2 rfl) .nil),rfl⟩
def Z6e (p0:LI):Option (Zl) :=
 opt (Zd0) fun y1 =>
 opt (Zhg p0 y1) fun y2 =>
 some y2
theorem Ze8 {W:World} {r:Zl} {p0:LI} (h:Z6e p0=some r)  :
    Calls Tryz.prog 207 [agg [b3' p0]].toArray W (Z1w W (agg (Zy r []))):=by
 unfold Z6e at h
 refine Z9 mo Z0u9 rfl ?_
 refine Z0<|Z1<|Za (Z02 (s:=[b3' p0]) rfl fun b1 u1=>Za (Zu fun b2 u2=>Z2<|Z0<|oH h fun y1 f1 h=>oH h fun y2 f2 h=>Zv<|Z4o rfl (Znh f1)<|Z1q (p:=[b3' p0]) rfl .t1 rfl<|Z4o rfl (Zqh f2)<|Z16 rfl (Zm (q:=(Zy y2 [])) rfl rfl rfl rfl rfl .here<|Z03<|Zf ?_)))
 cases h
 exact ⟨_,(.cons (.agg rfl .here rfl) .nil),rfl⟩
def Zez (p0:LI) (k1:(LI)->OL) (k2:Int->(LI)->OL) (i1:Int) (a1:LI):OL :=
 br ((decide (i1<4))) (
 bnd (wrap .i64 (8*i1)) fun z1 =>
 opt (Z71 (tk p0 0 32) z1) fun y1 =>
 chk (inB i1 4) <|
 bnd (Z2g a1 (i1).toNat y1.1) fun l1 =>
 bnd (wrap .i64 (i1+1)) fun z2 =>
 k2 z2 l1
 ) (
 k1 a1
 )
def Z8q (p0:LI) (k1:(LI)->OL):Nat->Int->(LI)->OL
  | 0,_,_=>none
  | n+1,i1,a1=>Zez p0 k1 (Z8q p0 k1 n) i1 a1
def Zdt (p0:LI):OL :=
 jn (fun (a1:LI)=>some a1) fun k1=>Z8q p0 k1 big 0 (replicate 4 0)
theorem Znq {W:World} {r:(LI)} {p0:LI} (h:Zdt p0=some r)  :
    Calls Tryz.prog 255 [agg [b3' p0]].toArray W (Z1w W (agg [.ints .u64 4 (r)])):=by
 unfold Zdt at h
 refine Z9 mo Z0v7 rfl ?_
 refine Z0<|Z1<|Za (Z02 (s:=[b3' p0]) rfl fun b1 u1=>Za (Zu fun b2 u2=>Z2<|Z0<|Z1<|Za (Zu fun b3 u3=>Z2<|Z0<|Z0<|Z1<|Z7 rfl<|Z2<|jH h fun k1 q1 h=>Zo (G:=fun t m=>∃ (a1:LI),k1 a1=some r/\Fit [(2,pt' b2),(3,pt' b3)] (ck b3 321 [.ints .u64 4 (a1)]::(ck b2 321 [.ints .u64 4 ((replicate 4 0))]::(ck b1 149 [b3' p0] :: []))) t m) ?_ ?_)))
 ·refine Zb<|Zz (fun n1 t m=>∃ (i1:Int) (a2:LI),Z8q p0 k1 n1 i1 a2=some r/\Fit [(1,pt' b1),(2,pt' b2),(3,pt' b3),(5,.int .i64 (i1))] (ck b3 321 [.ints .u64 4 (a2)]::(ck b2 321 [.ints .u64 4 ((replicate 4 0))]::(ck b1 149 [b3' p0] :: []))) t m) big ?_ ?_
  ·exact ⟨0,(replicate 4 0),h,⟨⟨rfl,rfl,rfl,rfl,trivial⟩,(.o (.o (.o .nil)))⟩⟩
  ·rintro n1 t m ⟨i1,a2,h,hF⟩
   refine Zi hF ?_
   clear hF
   rcases n1 with _ | n1
   · exact Z0s h
   have h:Zez p0 k1 (Z8q p0 k1 n1) i1 a2=some r:=h
   unfold Zez at h
   obtain ⟨k2,q2⟩ : ∃ k,k=Z8q p0 k1 n1:=⟨_,rfl⟩
   try rw [<- q2] at h
   refine Z0<|Z1<|j_c rfl<|Z2<|Z0<|Z0k h rfl (fun h=>?_) (fun h=>?_)
   ·refine Zp<|Z0<|Zb<|Z0<|Z1<|Z7 rfl<|Z7 rfl<|Z2<|bH h fun z1 e1 h=>oH h fun y1 f1 h=>cH h fun c1 h=>bH h fun l1 g1 h=>Z1<|Z7 rfl<|Zq _ (Z8b rfl .no .no .no (by simp) (by decide))<|Z7 rfl<|j_b e1 rfl<|Zq _ (Z06 rfl (fun w hw=>Z9k f1 ((Z1u (s:=[b3' p0]) (N:=32) (k:=.u8) (base:=0) (lo:=0) (hi:=32) (mz:=32) .t2 rfl (by decide)) w hw)))<|Z7 rfl<|Zf1 rfl rfl<|Zf1 rfl rfl<|Z44 rfl rfl (Z0q c1)<|Za (Z1z (q:=[.ints .u64 4 (l1)]) (base:=0) g1 rfl rfl rfl (Z0g c1) rfl .here<|Z2<|bH h fun z2 e2 h=>Z1<|j_b e2 rfl<|Z7 rfl<|Z2 ?_)
    rw [q2] at h
    exact ⟨n1,Nat.lt_succ_self _,z2,l1,h,⟨⟨rfl,rfl,rfl,rfl,trivial⟩,(.o (.o (.o .nil)))⟩⟩
   ·exact Z08 _ rfl<|⟨a2,h,⟨⟨rfl,rfl,trivial⟩,(.o (.o (.o .nil)))⟩⟩
 ·rintro t m ⟨a1,h,hF⟩
  refine Zi hF ?_
  clear hF
  subst q1
  refine Z0<|Z1<|Z0z (p:=[.ints .u64 4 (a1)]) rfl .here rfl<|Za (Zm (q:=[.ints .u64 4 (a1)]) rfl rfl rfl rfl rfl .t1<|Z2<|Zf ?_)
  cases h
  exact ⟨_,(.cons (.agg rfl .t1 rfl) .nil),rfl⟩
end Go.Proofs.YtkjfpenagcdmcaaGreatDoor
namespace Go.Proofs.YtkjfpenagcdmcaaGreatDoor
open Go Go.Sx Go.RowKit
open Go.IntKind (wrap)
set_option linter.all false
set_option maxHeartbeats 400000
set_option maxRecDepth 100000
def Z7w (p0:LI):OL :=
 opt (Zdt p0) fun y1 =>
 some (tk y1 0 4)
theorem Zam {W:World} {r:(LI)} {p0:LI} (h:Z7w p0=some r)  :
    Calls Tryz.prog 421 [agg [b3' p0]].toArray W (Z67 W [] (fun v Ms=>∃ (u0:Value) (M1:List Zd),v=u0/\Ms = [.all M1]/\Z0c (El.int .u64) u0 M1 r)):=by
 unfold Z7w at h
 refine Zj mo Z0yg rfl (Zbz _) ?_
 refine Z0<|Z1<|Za (Z02 (s:=[b3' p0]) rfl fun b1 hb1=>Z7 rfl<|Z2<|Z0<|oH h fun y1 f1 h=>Z1<|Z0z (p:=[b3' p0]) rfl .here rfl<|Z2o rfl (Znq f1)<|Za (Zu fun b2 hb2=>Za (Zm (q:=[.ints .u64 4 (y1)]) rfl rfl rfl rfl rfl .here<|Z2<|Z0<|Z1<|Zq _ (Z8b rfl .no .no .no (by simp) (by decide))<|Z7 rfl<|Z2<|Zf ?_)))
 cases h
 exact ⟨_,_,(.cons (.tmp rfl) .nil),(.o .nil),⟨_,rfl,⟨(.slice (some (Z4a b2 0 0 4 1)) (4-0) (4-0)),[ck b2 321 [.ints .u64 4 (y1)]],rfl,rfl,(Zub (s:=[.ints .u64 4 (y1)]) (N:=4) (k:=.u64) (base:=0) (lo:=0) (hi:=4) (mz:=4) rfl (by decide))⟩⟩⟩
def Zcq (p0:LI):OL :=
 opt (Z7w p0) fun y1 =>
 opt (Z6l y1) fun y2 =>
 some y2
theorem Zio {W:World} {r:(LI)} {p0:LI} (h:Zcq p0=some r) (hG:Globs W) :
    Calls Tryz.prog 418 [agg [b3' p0]].toArray W (Z1w W (agg [.ints .u64 4 (r)])):=by
 unfold Zcq at h
 refine Z9 mo Z0yd rfl ?_
 refine Z0<|Z1<|Za (Z02 (s:=[b3' p0]) rfl fun b1 u1=>Za (Zu fun b2 u2=>Z2<|Z0<|oH h fun y1 f1 h=>oH h fun y2 f2 h=>Z1<|Z0z (p:=[b3' p0]) rfl .t1 rfl<|Za (Zg rfl (fun w hw=>Zam  f1 ) fun v6 o1 R1=>?_)))
 obtain ⟨_,w1,rfl,rfl,O1⟩:=R1
 refine Zq _ (Z06 rfl (fun w hw=>Z9y f2 (hG.at hw (by simp)) ((Z0l O1 .here) w hw)))<|Za (Zm (q:=[.ints .u64 4 (y2)]) rfl rfl rfl rfl rfl (.app .here)<|Z2<|Zf ?_)
 cases h
 exact ⟨_,(.cons (.agg rfl (.app .here) rfl) .nil),rfl⟩
def Zg0 (p0:LI) (p1:LI):OL :=
 opt (Zcq p0) fun y1 =>
 opt (Zcq p1) fun y2 =>
 opt (Z7r y1 y2) fun y3 =>
 opt (Z9e y3.1) fun y4 =>
 opt (Z7s y4) fun y5 =>
 some y5
theorem Zq3 {W:World} {r:(LI)} {p0:LI} {p1:LI} (h:Zg0 p0 p1=some r) (hG:Globs W) :
    Calls Tryz.prog 318 [agg [b3' p0],agg [b3' p1]].toArray W (Z1w W (agg [b3' r])):=by
 unfold Zg0 at h
 refine Z9 mo Z0we rfl ?_
 refine Z0<|Z1<|Za (Z02 (s:=[b3' p0]) rfl fun b1 u1=>Za (Z02 (s:=[b3' p1]) rfl fun b2 u2=>Za (Zu fun b3 u3=>Z2<|Z0<|oH h fun y1 f1 h=>oH h fun y2 f2 h=>oH h fun y3 f3 h=>Zv<|Z1q (p:=[b3' p0]) rfl .t2 rfl<|Z0x _ (Z06 rfl (fun w hw=>Zio f1 (hG.at hw (by simp))))<|Z1q (p:=[b3' p1]) rfl .t1 rfl<|Z0x _ (Z06 rfl (fun w hw=>Zio f2 (hG.at hw (by simp))))<|Z4o rfl (Z8t f3)<|k_m rfl<|Z0x _ (Zpp rfl rfl)<|Z0x _ (Zpp rfl rfl)<|Z36 (Zu fun b4 u4=>⟨sU,Z16 rfl (Zm (q:=[.ints .u64 4 (y3.1)]) rfl rfl rfl rfl rfl .here (k_m rfl (Z03 (Z0 (oH h fun y4 f4 h=>oH h fun y5 f5 h=>Z1 (Z0z (p:=[.ints .u64 4 (y3.1)]) rfl .here rfl (Zq _ (Z06 rfl (fun w hw=>Zg2 f4 (hG.at hw (by simp)))) (Z2o rfl (Zal f5) (Za (Zm (q:=[b3' y5]) rfl rfl rfl rfl rfl .t1 (Z2 (Zf ?_))))))))))))⟩))))
 cases h
 exact ⟨_,(.cons (.agg rfl .t1 rfl) .nil),rfl⟩
def Zg1 (p0:LI) (p1:LI):OL :=
 opt (Z7w p0) fun y1 =>
 opt (Z7w p1) fun y2 =>
 opt (Z9h y1 y2) fun y3 =>
 opt (Z6l y3) fun y4 =>
 opt (Z7s y4) fun y5 =>
 some y5
theorem Zq4 {W:World} {r:(LI)} {p0:LI} {p1:LI} (h:Zg1 p0 p1=some r) (hG:Globs W) :
    Calls Tryz.prog 319 [agg [b3' p0],agg [b3' p1]].toArray W (Z1w W (agg [b3' r])):=by
 unfold Zg1 at h
 refine Z9 mo Z0wf rfl ?_
 refine Z0<|Z1<|Za (Z02 (s:=[b3' p0]) rfl fun b1 u1=>Za (Z02 (s:=[b3' p1]) rfl fun b2 u2=>Za (Zu fun b3 u3=>Z2<|Z0<|oH h fun y1 f1 h=>oH h fun y2 f2 h=>oH h fun y3 f3 h=>oH h fun y4 f4 h=>oH h fun y5 f5 h=>Zv<|Z1q (p:=[b3' p0]) rfl .t2 rfl<|Z1q (p:=[b3' p1]) rfl .t1 rfl<|Z36 (Zg rfl (fun w hw=>Zam  f1 ) fun v7 o1 R1=>?_))))
 obtain ⟨_,w1,rfl,rfl,O1⟩:=R1
 refine ⟨sU,Z36 (Zg rfl (fun w hw=>Zam  f2 ) fun v13 o2 R2=>?_)⟩
 obtain ⟨_,w2,rfl,rfl,O2⟩:=R2
 refine ⟨sU,Z36 (Zg rfl (fun w hw=>Zg4  f3 ((Z0l O1 (.app .here)) w hw) ((Z0l O2 .here) w hw)) fun v19 o3 R3=>?_)⟩
 obtain ⟨_,w3,rfl,rfl,O3⟩:=R3
 refine ⟨sU,Z88 _ (Z06 rfl (fun w hw=>Z9y f4 (hG.at hw (by simp)) ((Z0l O3 .here) w hw))) (Z4o rfl (Zal f5) (Z16 rfl (Zm (q:=[b3' y5]) rfl rfl rfl rfl rfl (.app (.app (.app .here))) (Z03 (Zf ?_))))) sU⟩
 cases h
 exact ⟨_,(.cons (.agg rfl (.app (.app (.app .here))) rfl) .nil),rfl⟩
def Z87 (p0:LI) (p1:LI) (p2:LI):OL :=
 opt (Zg1 p0 p1) fun y1 =>
 opt (Zg0 y1 p2) fun y2 =>
 some y2
theorem Zll {W:World} {r:(LI)} {p0:LI} {p1:LI} {p2:LI} (h:Z87 p0 p1 p2=some r) (hG:Globs W) :
    Calls Tryz.prog 208 [agg [b3' p0],agg [b3' p1],agg [b3' p2]].toArray W (Z1w W (agg [b3' r])):=by
 unfold Z87 at h
 refine Z9 mo Z0ua rfl ?_
 refine Z0<|Z1<|Za (Z02 (s:=[b3' p0]) rfl fun b1 u1=>Za (Z02 (s:=[b3' p1]) rfl fun b2 u2=>Za (Z02 (s:=[b3' p2]) rfl fun b3 u3=>Za (Zu fun b4 u4=>Z2<|Z0<|oH h fun y1 f1 h=>oH h fun y2 f2 h=>Zv<|Z1q (p:=[b3' p0]) rfl .t3 rfl<|Z1q (p:=[b3' p1]) rfl .t2 rfl<|Z0x _ (Z06 rfl (fun w hw=>Zq4 f1 (hG.at hw (by simp))))<|Z1q (p:=[b3' p2]) rfl .t1 rfl<|Z0x _ (Z06 rfl (fun w hw=>Zq3 f2 (hG.at hw (by simp))))<|Z16 rfl (Zm (q:=[b3' y2]) rfl rfl rfl rfl rfl .here<|Z03<|Zf ?_)))))
 cases h
 exact ⟨_,(.cons (.agg rfl .here rfl) .nil),rfl⟩
def Z80 (p0:LI) (p1:LI):OL :=
 opt (Zdx p0) fun y1 =>
 opt (Z6e y1.1) fun y2 =>
 opt (Z78 y2) fun y3 =>
 opt (Za0 [y1.2,p1]) fun y4 =>
 opt (Z6e y4) fun y5 =>
 opt (Z78 y5) fun y6 =>
 jn (fun (a1:LI)=>opt (Z87 a1 y1.1 y4) fun y7 =>
 bnd (wr (List.replicate 64 0) 0 ((tk y6 0 32).take 32)) fun l1 =>
 bnd (wr l1 32 ((tk y7 0 32).take (64-32))) fun l2 =>
 some l2) fun k1=>opt (Za0 [(tk y6 0 32),(tk y3 0 32),p1]) fun y8 =>
 k1 y8
theorem Z5p {W:World} {r:(LI)} {p0:LI} {p1:LI} {v1:Value} (h:Z80 p0 p1=some r) (hG:Globs W) (A1:Z6r (El.int .u8) W v1 p1) :
    Calls Tryz.prog 113 [agg [b3' p0],v1].toArray W (Z1w W (agg [b6' r])):=by
 unfold Z80 at h
 refine Z9 mo Z0sq rfl ?_
 refine Z0<|Z1<|Za (Z02 (s:=[b3' p0]) rfl fun b1 u1=>Za (Zu fun b2 u2=>Z2<|Z0<|oH h fun y1 f1 h=>Z1<|Z0z (p:=[b3' p0]) rfl .t1 rfl<|Za (Zg rfl (fun w hw=>Znt  f1 (hG.at hw (by simp))) fun v6 o1 R1=>?_)))
 obtain ⟨v8,w1,rfl,rfl,O1⟩:=R1
 refine Z7 rfl<|Zf1 rfl rfl<|Zf1 rfl rfl<|Za (Zu fun b3 u3=>Za (Zm (q:=[b3' y1.1]) rfl rfl rfl rfl rfl .here<|Z7 rfl<|Z2<|Z0<|oH h fun y2 f2 h=>oH h fun y3 f3 h=>Z1<|Z0z (p:=[b3' y1.1]) rfl .here rfl<|Z2o rfl (Ze8 f2)<|Z2o rfl (Zfa f3)<|Za (Zu fun b4 u4=>Za (Zm (q:=[b3' y3]) rfl rfl rfl rfl rfl .here<|Z2<|Z0<|oH h fun y4 f4 h=>Z1<|Z7 rfl<|Z7 rfl<|Za (Z5q (E:=El.sl) (xs:=[unS v8,unS v1]) (.one rfl (Zjk.cells (Z0c.isSl O1)) rfl (.one rfl (Zjk.cells (Shp.isSl (Shp.rd A1))) rfl BdR.nil)) (.cons (p:=[.one v8]) (Zit (Z0c.isSl O1)) (.cons (p:=[.one v1]) (Zit (Shp.isSl (Shp.rd A1))) .nil)) rfl fun v17 w2 O2=>Zq _ (Z06 rfl (fun w hw=>Zat f4 (hG.at hw (by simp)) (Z0l O2 .here w hw) (.cons (Zij ((Z0l O1 (.app .t2)) w hw)) (.cons (Zij ((Z1n A1 Z20) w hw)) .nil))))<|Za (Zu fun b5 u5=>Za (Zm (q:=[b3' y4]) rfl rfl rfl rfl rfl .here<|Z2<|Z0<|oH h fun y5 f5 h=>oH h fun y6 f6 h=>Z1<|Z0z (p:=[b3' y4]) rfl .here rfl<|Z2o rfl (Ze8 f5)<|Z2o rfl (Zfa f6)<|Za (Zu fun b6 u6=>Za (Zm (q:=[b3' y6]) rfl rfl rfl rfl rfl .here<|Z2<|Z0<|jH h fun k1 q1 h=>Zo (G:=fun t m=>∃ (a1:LI) (b7:Nat),k1 a1=some r/\Fit [(4,pt' b2),(5,pt' b3),(8,pt' b5),(9,pt' b6),(10,pt' b7)] (ck b7 149 [b3' a1]::(ck b6 44 [b3' y6]::(ck b5 149 [b3' y4]::(ck b4 44 [b3' y3]::(ck b3 149 [b3' y1.1]::(ck b2 25 [b6' (List.replicate 64 0)]::(ck b1 23 [b3' p0] :: []))))))) t m) ?_ ?_)))))))))
 ·refine oH h fun y7 f7 h=>Zv<|Z0x _ (Z8b rfl .no .no .no (by simp) (by decide))<|Z0x _ (Z8b rfl .no .no .no (by simp) (by decide))<|k_m rfl<|Zz7 (Z5q (E:=El.sl) (xs:=[unS (.slice (some (Z4a b6 0 0 32 1)) (32-0) (32-0)),unS (.slice (some (Z4a b4 0 0 32 1)) (32-0) (32-0)),unS v1]) (.one rfl (Zjk.cells ⟨_,_,_,rfl⟩) rfl (.one rfl (Zjk.cells ⟨_,_,_,rfl⟩) rfl (.one rfl (Zjk.cells (Shp.isSl (Shp.rd A1))) rfl BdR.nil))) (.cons (p:=[.one (.slice (some (Z4a b6 0 0 32 1)) (32-0) (32-0))]) (Zit ⟨_,_,_,rfl⟩) (.cons (p:=[.one (.slice (some (Z4a b4 0 0 32 1)) (32-0) (32-0))]) (Zit ⟨_,_,_,rfl⟩) (.cons (p:=[.one v1]) (Zit (Shp.isSl (Shp.rd A1))) .nil))) rfl fun v36 w3 O3=>⟨sU,?_⟩) (Zu fun b8 u7=>⟨sU,?_⟩)
  ·refine Zz7 (ef_q _ (Z06 rfl (fun w hw=>Zat f7 (hG.at hw (by simp)) (Z0l O3 .here w hw) (.cons (Zij ((Z1u (s:=[b3' y6]) (N:=32) (k:=.u8) (base:=0) (lo:=0) (hi:=32) (mz:=32) (.app .here) rfl (by decide)) w hw)) (.cons (Zij ((Z1u (s:=[b3' y3]) (N:=32) (k:=.u8) (base:=0) (lo:=0) (hi:=32) (mz:=32) (.app (.there (.there (.app .here)))) rfl (by decide)) w hw)) (.cons (Zij ((Z1n A1 Z20) w hw)) .nil))))) ⟨sU,?_⟩) (Zu fun b8 u7=>⟨sU,?_⟩)
   ·exact Z36 (Zu fun b8 u7=>⟨sU,Z16 rfl (Zm (q:=[b3' y7]) rfl rfl rfl rfl rfl .here (Z03 (⟨y7,b8,h,⟨⟨rfl,rfl,rfl,rfl,rfl,trivial⟩,(.o (.one (.app .here) (.one (.app .here) (.one (.app (.app .here)) (.one (.app (.app .here)) (.one (.app (.app (.app .here))) (.one (.app (.app (.app .here))) .nil)))))))⟩⟩)))⟩)
   ·exact Z88 _ (Z06 rfl (fun w hw=>Zat f7 (hG.at hw (by simp)) (Z0l O3 .t1 w hw) (.cons (Zij ((Z1u (s:=[b3' y6]) (N:=32) (k:=.u8) (base:=0) (lo:=0) (hi:=32) (mz:=32) (.there (.app .here)) rfl (by decide)) w hw)) (.cons (Zij ((Z1u (s:=[b3' y3]) (N:=32) (k:=.u8) (base:=0) (lo:=0) (hi:=32) (mz:=32) (.there (.app (.there (.there (.app .here))))) rfl (by decide)) w hw)) (.cons (Zij ((Z1n A1 Z20) w hw)) .nil))))) (Z16 rfl (Zm (q:=[b3' y7]) rfl rfl rfl rfl rfl .here (Z03 (⟨y7,b8,h,⟨⟨rfl,rfl,rfl,rfl,rfl,trivial⟩,(.o (.one (.app .here) (.one (.app .here) (.one (.app (.app .here)) (.one (.app (.app .here)) (.one (.app (.app (.app .here))) (.one (.app (.app (.app .here))) .nil)))))))⟩⟩)))) sU
  ·exact Z36 (Z5q (E:=El.sl) (xs:=[unS (.slice (some (Z4a b6 0 0 32 1)) (32-0) (32-0)),unS (.slice (some (Z4a b4 0 0 32 1)) (32-0) (32-0)),unS v1]) (.one rfl (Zjk.cells ⟨_,_,_,rfl⟩) rfl (.one rfl (Zjk.cells ⟨_,_,_,rfl⟩) rfl (.one rfl (Zjk.cells (Shp.isSl (Shp.rd A1))) rfl BdR.nil))) (.cons (p:=[.one (.slice (some (Z4a b6 0 0 32 1)) (32-0) (32-0))]) (Zit ⟨_,_,_,rfl⟩) (.cons (p:=[.one (.slice (some (Z4a b4 0 0 32 1)) (32-0) (32-0))]) (Zit ⟨_,_,_,rfl⟩) (.cons (p:=[.one v1]) (Zit (Shp.isSl (Shp.rd A1))) .nil))) rfl fun v36 w3 O3=>⟨sU,Z88 _ (Z06 rfl (fun w hw=>Zat f7 (hG.at hw (by simp)) (Z0l O3 .here w hw) (.cons (Zij ((Z1u (s:=[b3' y6]) (N:=32) (k:=.u8) (base:=0) (lo:=0) (hi:=32) (mz:=32) (.app .t1) rfl (by decide)) w hw)) (.cons (Zij ((Z1u (s:=[b3' y3]) (N:=32) (k:=.u8) (base:=0) (lo:=0) (hi:=32) (mz:=32) (.app (.there (.there (.there (.app .here))))) rfl (by decide)) w hw)) (.cons (Zij ((Z1n A1 Z20) w hw)) .nil))))) (Z16 rfl (Zm (q:=[b3' y7]) rfl rfl rfl rfl rfl (.app .here) (Z03 (⟨y7,b8,h,⟨⟨rfl,rfl,rfl,rfl,rfl,trivial⟩,(.one (.app .here) (.one (.app .here) (.one (.app .here) (.one (.app (.app .here)) (.one (.app (.app .here)) (.one (.app (.app (.app .here))) (.one (.app (.app (.app .here))) .nil)))))))⟩⟩)))) sU⟩)
 ·rintro t m ⟨a1,b7,h,hF⟩
  refine Zi hF ?_
  clear hF
  subst q1
  refine Z0<|oH h fun y8 f8 h=>Z1<|Z0z (p:=[b3' a1]) rfl .here rfl<|Z0z (p:=[b3' y1.1]) rfl .t4 rfl<|Z0z (p:=[b3' y4]) rfl .t2 rfl<|Zq _ (Z06 rfl (fun w hw=>Zll f8 (hG.at hw (by simp))))<|Za (Zu fun b9 u8=>Za (Zm (q:=[b3' y8]) rfl rfl rfl rfl rfl .here<|Z2<|Z0<|Z1<|Za (Zu fun b10 u9=>Z2<|Z0<|bH h fun l1 g1 h=>Zv<|Z0x _ (Z8b rfl .no (.yes rfl) .no (by simp) (by decide))<|Z0x _ (Z8b rfl .no .no .no (by simp) (by decide))<|Z16 rfl (Zlw (q:=[b6' l1]) (lo:=0) (hi:=32) (mz:=64) (base:=0) (cpy0 g1) rfl rfl (Z1u (s:=[b3' y6]) (N:=32) (k:=.u8) (base:=0) (lo:=0) (hi:=32) (mz:=32) .t3 rfl (by decide)) rfl (by decide) rfl .here<|Z03<|Z0<|bH h fun l2 g2 h=>Zv<|Z0x _ (Z8b rfl (.yes rfl) .no .no (by simp) (by decide))<|Z0x _ (Z8b rfl .no .no .no (by simp) (by decide))<|Z16 rfl (Zlw (q:=[b6' l2]) (lo:=32) (hi:=64) (mz:=64) (base:=0) g2 rfl rfl (Z1u (s:=[b3' y8]) (N:=32) (k:=.u8) (base:=0) (lo:=0) (hi:=32) (mz:=32) .t1 rfl (by decide)) rfl (by decide) rfl .here<|Z03<|Z0<|Z1<|Z0z (p:=[b6' l2]) rfl .here rfl<|Za (Zm (q:=[b6' l2]) rfl rfl rfl rfl rfl .t7<|Z2<|Zf ?_))))))
  cases h
  exact ⟨_,(.cons (.agg rfl .t7 rfl) .nil),rfl⟩
def Z0f (p0:Int) (p1:Int) (p2:Int):Option Bool :=
 some ((decide (p0≥p1))&&(decide (p0<=p2)))
theorem Z11 {W:World} {r:Bool} {p0:Int} {p1:Int} {p2:Int} (h:Z0f p0 p1 p2=some r)  :
    Calls Tryz.prog 159 [.int .i64 (p0),.int .i64 (p1),.int .i64 (p2)].toArray W (Z1w W (.bool (r))):=by
 unfold Z0f at h
 refine Z9 mo Z0tj rfl ?_
 refine Z0<|Z1<|Z7 rfl<|Z2<|Z0<|Z1<|Z7 rfl<|Z7 rfl<|j_c rfl<|Z7 rfl<|Ziy rfl rfl rfl (fun hg1=>Z8y rfl _ (Z5r rfl) (Z8y rfl _ (Z5r rfl) (Z8y rfl _ (Zbk rfl rfl rfl) (Z8m)))) (fun hg1=>rfl) rfl<|Z7 rfl<|Z2<|Zf ?_
 cases h
 exact ⟨_,(.cons (.tmp rfl) .nil),rfl⟩
def Z2n (p0:Z09):Option Bool :=
 opt (Z0f p0.gSerial 1 65535) fun y1 =>
 chk (imp y1 ((Z0f p0.gRides 1 4096).isSome)) <|
 some (((y1&&((Z0f p0.gRides 1 4096).getD false))&&(decide (p0.gPrice≥0)))&&(decide (p0.gPrice<=1000000000)))
theorem Z5t {W:World} {r:Bool} {p0:Z09} (h:Z2n p0=some r)  :
    Calls Tryz.prog 88 [agg (Z6 p0 [])].toArray W (Z1w W (.bool (r))):=by
 unfold Z2n at h
 refine Z9 mo ok88 rfl ?_
 refine Z0<|Z1<|Za (Z02 (s:=(Z6 p0 [])) rfl fun b1 u1=>Z7 rfl<|Z2<|Z0<|oH h fun y1 f1 h=>cH h fun c1 h=>Z1<|Z4c rfl<|Zky rfl .here rfl<|Z2o rfl (Z11 f1)<|Z7 rfl<|Ziy rfl rfl rfl (fun hg1=>Z8y rfl _ (Zrm rfl) (Z8y rfl _ (Z86 rfl .here rfl) (Z8y rfl _ (Z06 rfl (fun _ _=>Z11 (getD_some (z:=false) (Z066 c1 hg1)))) (Z8m)))) (fun hg1=>rfl) rfl<|Z7 rfl<|Ziy rfl rfl rfl (fun hg1=>Z8y rfl _ (Zrm rfl) (Z8y rfl _ (Z86 rfl .here rfl) (Z8y rfl _ (Zbk rfl rfl rfl) (Z8m)))) (fun hg1=>rfl) rfl<|Z7 rfl<|Ziy rfl rfl rfl (fun hg1=>Z8y rfl _ (Zrm rfl) (Z8y rfl _ (Z86 rfl .here rfl) (Z8y rfl _ (Zbk rfl rfl rfl) (Z8m)))) (fun hg1=>rfl) rfl<|Z7 rfl<|Z2<|Zf ?_)
 cases h
 exact ⟨_,(.cons (.tmp rfl) .nil),rfl⟩
structure Z27 where
  gB:LI
  gE:Int
def Zah (p0:Z27) (p1:LI):Option (Z27) :=
 br ((p0.gE==0)) (
 chk (decide ((([]:LI).length+p0.gB.length)*1<=140737488355328)) <|
 bnd (([]:LI)++p0.gB) fun l1 =>
 chk (decide ((l1.length+p1.length)*1<=140737488355328)) <|
 bnd (l1++p1) fun l2 =>
 some (⟨l2,p0.gE⟩:Z27)
 ) (
 some p0
 )
theorem Zdo {W:World} {r:Z27} {p0:Z27} {p1:LI} {v0:Value} {M1:List Zd} {v1:Value} {b:Nat} {T:TypeId} (h:Zah p0 p1=some r) (h0:Sat W (b::M1.map (·.b)) (ck b T [.one (v0),.i p0.gE]::(M1 ++ [])) W) (O1:Z0c (El.int .u8) v0 M1 p0.gB) (A1:Z6r (El.int .u8) W v1 p1/\Za8 v1 p1 (b::M1.map (·.b))) :
    Calls Tryz.prog 200 [.pointer (some ⟨b,0,none⟩),v1].toArray W (Z67 W (b::M1.map (·.b)) (fun v Ms=>∃ (uw:Value) (Mw:List Zd),v = .tuple #[]/\Ms = [.one (ck b T [.one (uw),.i r.gE]),.all Mw]/\Z0c (El.int .u8) uw Mw r.gB)):=by
 unfold Zah at h
 refine Zj mo Z0u6 rfl h0 ?_
 refine Z0<|Z1<|Z7 rfl<|Zq _ (Z28 rfl)<|Z4c rfl<|Zky rfl .here rfl<|j_c rfl<|Z2<|Z0k h rfl (fun h=>?_) (fun h=>?_)
 ·refine Z0<|Z1<|Z7 rfl<|Z2<|Z0<|cH h fun c1 h=>bH h fun l1 g1 h=>Z1<|Z7 rfl<|Z7 rfl<|Zq _ (Z28 rfl)<|Z4c rfl<|Zky rfl .here rfl<|Za (Z3i (E:=(El.int .u8)) g1 rfl Z3y .here rfl (Z0l O1 .t1) c1 fun v7 w1 O2=>Z7 rfl<|Z2<|cH h fun c2 h=>bH h fun l2 g2 h=>Z1<|Z7 rfl<|Z7 rfl<|Z7 rfl<|Za (Z3i (E:=(El.int .u8)) g2 rfl O2 .here rfl (Z1n A1.1 A1.2) c2 fun v13 w2 O3=>Zq _ (Z28 rfl)<|Z4c rfl<|Za (Zra (q:=[.one (v13),.i p0.gE]) rfl rfl (Zjk.one1 (Z0c.isSl O3)) rfl (.app .here)<|Z2 ?_)))
  cases h
  exact ⟨_,_,.nil,(.one (.app .here) (.all .here .nil)),⟨_,rfl,⟨v13,w2,rfl,rfl,O3⟩⟩⟩
 ·refine Zp ?_
  cases h
  exact ⟨_,_,.nil,(.o (.all .here .nil)),⟨_,rfl,⟨v0,M1,rfl,rfl,O1⟩⟩⟩
def Z5j (p0:Z27) (p1:LI):Option (Z27) :=
 opt (Zah p0 p1) fun y1 =>
 some y1
theorem Z60 {W:World} {r:Z27} {p0:Z27} {p1:LI} {v0:Value} {M1:List Zd} {v1:Value} {b:Nat} {T:TypeId} (h:Z5j p0 p1=some r) (h0:Sat W (b::M1.map (·.b)) (ck b T [.one (v0),.i p0.gE]::(M1 ++ [])) W) (O1:Z0c (El.int .u8) v0 M1 p0.gB) (A1:Z6r (El.int .u8) W v1 p1/\Za8 v1 p1 (b::M1.map (·.b))) :
    Calls Tryz.prog 107 [.pointer (some ⟨b,0,none⟩),v1].toArray W (Z67 W (b::M1.map (·.b)) (fun v Ms=>∃ (uw:Value) (Mw:List Zd),v = .tuple #[]/\Ms = [.one (ck b T [.one (uw),.i r.gE]),.all Mw]/\Z0c (El.int .u8) uw Mw r.gB)):=by
 unfold Z5j at h
 refine Zj mo Z0sp rfl h0 ?_
 refine oH h fun y1 f1 h=>Z1<|Z7 rfl<|Z7 rfl<|Za (Z0j (mS:=_::M1) rfl (Z1f .here .here) (fun w hw=>Zdo  f1 (Z0w hw (Z1f .here .here)) O1 ⟨(Z1n A1.1 A1.2) w hw,(Zh2 (Zr4 (E:=(El.int .u8)) A1.1 A1.2 .here hw) (Zr5 (E:=(El.int .u8)) A1.1 A1.2 .t1 hw))⟩) fun v3 o1 R1=>?_)
 obtain ⟨v5,w1,rfl,rfl,O2⟩:=R1
 refine Z2 ?_
 cases h
 exact ⟨_,_,.nil,(.o (.all .here .nil)),⟨_,rfl,⟨v5,w1,rfl,rfl,O2⟩⟩⟩
def Zpm (p0:Int):OL :=
 br (((decide (p0<1))||(decide (p0>255)))) (
 some []
 ) (
 bnd (wrap .u8 p0) fun z1 =>
 some ([70,66,1,z1]:LI)
 )
theorem Zur {W:World} {r:(LI)} {p0:Int} (h:Zpm p0=some r)  :
    Calls Tryz.prog 160 [.int .i64 (p0)].toArray W (Z67 W [] (fun v Ms=>∃ (u0:Value) (M1:List Zd),v=u0/\Ms = [.all M1]/\Z0c (El.int .u8) u0 M1 r)):=by
 unfold Zpm at h
 refine Zj mo Z0tk rfl (Zbz _) ?_
 refine Z0<|Z1<|Z7 rfl<|Z2<|Z0<|Z0<|Z1<|Z7 rfl<|j_c rfl<|Z7 rfl<|Z04s rfl rfl rfl (fun hg1=>Z8y rfl _ (Z5r rfl) (Z8y rfl _ (Zbk rfl rfl rfl) (Z8m))) (fun hg1=>rfl) rfl<|Z2<|Z0k h rfl (fun h=>?_) (fun h=>?_)
 ·refine Z0<|Z1<|Z7 rfl<|Z2<|Zf ?_
  cases h
  exact ⟨_,_,(.cons (.tmp rfl) .nil),(.no .nil),⟨_,rfl,⟨(.slice none 0 0),[],rfl,rfl,Z3y⟩⟩⟩
 ·refine Zp<|Z0<|bH h fun z1 e1 h=>Z1<|Z7 rfl<|j_v e1 rfl<|Za (Z5q (E:=(El.int .u8)) (xs:=[70,66,1,z1]) (.one rfl rfl rfl (.one rfl rfl rfl (.one rfl rfl rfl (.one rfl rfl rfl BdR.nil)))) (.cons (p:=[.one (.int .u8 (70))]) rfl (.cons (p:=[.one (.int .u8 (66))]) rfl (.cons (p:=[.one (.int .u8 (1))]) rfl (.cons (p:=[.one (.int .u8 (z1))]) rfl .nil)))) rfl fun v7 w1 O1=>Z7 rfl<|Z2<|Zf ?_)
  cases h
  exact ⟨_,_,(.cons (.tmp rfl) .nil),(.all .here .nil),⟨_,rfl,⟨v7,w1,rfl,rfl,O1⟩⟩⟩
def Z17 (p0:Int):Option (Z27) :=
 opt (Zpm p0) fun y1 =>
 opt (Z5j (⟨[],0⟩:Z27) y1) fun y2 =>
 some y2
theorem Z1h {W:World} {r:Z27} {p0:Int} (h:Z17 p0=some r)  :
    Calls Tryz.prog 89 [.int .i64 (p0)].toArray W (Z67 W [] (fun v Ms=>∃ (b1:Nat) (T0:TypeId) (u0:Value) (M1:List Zd),v = pt' b1/\Ms = [.one (ck b1 T0 [.one (u0),.i r.gE]),.all M1]/\Z0c (El.int .u8) u0 M1 r.gB)):=by
 unfold Z17 at h
 refine Zj mo ok89 rfl (Zbz _) ?_
 refine Z0<|Z1<|Z7 rfl<|Z2<|Z0<|Z1<|Zq _ (Zex (q:=[.one (.slice none 0 0),.i 0]) BdR.nil)<|Za (Z02 (s:=[.one (.slice none 0 0),.i 0]) rfl fun b2 hb1=>Z7 rfl<|Z2<|Z0<|oH h fun y1 f1 h=>oH h fun y2 f2 h=>Z1<|Z7 rfl<|Z7 rfl<|Za (Zg rfl (fun w hw=>Zur  f1 ) fun v6 o1 R1=>?_))
 obtain ⟨_,w1,rfl,rfl,O1⟩:=R1
 refine Za (Z0j (mS:=_ :: []) rfl (Z0lp (.app .here)) (fun w hw=>Z60 (p0:=(⟨[],0⟩:Z27)) f2 (Z0w hw (Z0lp (.app .here))) Z3y ⟨(Z0l O1 .here) w hw,(Zh2 (Zcw (E:=(El.int .u8)) O1 .here .here hw) Zvx)⟩) fun v12 o2 R2=>?_)
 obtain ⟨v14,w2,rfl,rfl,O2⟩:=R2
 refine Z2<|Z0<|Z1<|Z7 rfl<|Z7 rfl<|Z2<|Zf ?_
 cases h
 exact ⟨_,_,(.cons (.tmp rfl) .nil),(.o (.all .here .nil)),⟨_,rfl,⟨b2,213,v14,w2,rfl,rfl,O2⟩⟩⟩
def Zkf (p0:Z27):Option ((LI)×Int×Z27) :=
 br ((p0.gE != 0)) (
 some ([],p0.gE,p0)
 ) (
 some (p0.gB,0,p0)
 )
theorem Znm {W:World} {r:(LI)×Int×Z27} {p0:Z27} {v0:Value} {M1:List Zd} {b:Nat} {T:TypeId} (h:Zkf p0=some r) (h0:Sat W (b::M1.map (·.b)) (ck b T [.one (v0),.i p0.gE]::(M1 ++ [])) W) (O1:Z0c (El.int .u8) v0 M1 p0.gB) :
    Calls Tryz.prog 161 [.pointer (some ⟨b,0,none⟩)].toArray W (Z67 W (b::M1.map (·.b)) (fun v Ms=>∃ (u0:Value) (M1:List Zd) (uw:Value),v = .tuple #[u0,.int .i64 (r.2.1)]/\Ms = [.all M1,.one (ck b T [.one (uw),.i r.2.2.gE])]/\Z0c (El.int .u8) u0 M1 r.1)):=by
 unfold Zkf at h
 refine Zj mo Z0tl rfl h0 ?_
 refine Z0<|Z1<|Z7 rfl<|Z7 rfl<|Z2<|Z0<|Z0<|Z1<|Z7 rfl<|Zq _ (Z28 rfl)<|Z4c rfl<|Zky rfl .here rfl<|j_c rfl<|Z2<|Z0k h rfl (fun h=>?_) (fun h=>?_)
 ·refine Z0<|Zv<|k_m rfl<|Z0x _ (Z28 rfl)<|Zdc rfl<|k_m rfl<|Z0v _ (Z86 rfl .here rfl)<|k_m rfl<|Z03<|Zf ?_
  cases h
  exact ⟨_,_,(.cons (.tmp rfl) (.cons (.tmp rfl) .nil)),(.no (.o .nil)),⟨_,rfl,⟨(.slice none 0 0),[],v0,rfl,rfl,Z3y⟩⟩⟩
 ·refine Zp<|Z0<|Z1<|Z7 rfl<|Zq _ (Z28 rfl)<|Z4c rfl<|Zky rfl .here rfl<|Z7 rfl<|Z7 rfl<|Z2<|Zf ?_
  cases h
  exact ⟨_,_,(.cons (.tmp rfl) (.cons (.tmp rfl) .nil)),(.all .t1 (.o .nil)),⟨_,rfl,⟨v0,M1,v0,rfl,rfl,O1⟩⟩⟩
def Z1k (p0:Z27):Option ((LI)×Z27) :=
 opt (Zkf p0) fun y1 =>
 some (y1.1,y1.2.2)
theorem Z1p {W:World} {r:(LI)×Z27} {p0:Z27} {v0:Value} {M1:List Zd} {b:Nat} {T:TypeId} (h:Z1k p0=some r) (h0:Sat W (b::M1.map (·.b)) (ck b T [.one (v0),.i p0.gE]::(M1 ++ [])) W) (O1:Z0c (El.int .u8) v0 M1 p0.gB) :
    Calls Tryz.prog 91 [.pointer (some ⟨b,0,none⟩)].toArray W (Z67 W (b::M1.map (·.b)) (fun v Ms=>∃ (u0:Value) (M1:List Zd) (uw:Value),v=u0/\Ms = [.all M1,.one (ck b T [.one (uw),.i r.2.gE])]/\Z0c (El.int .u8) u0 M1 r.1)):=by
 unfold Z1k at h
 refine Zj mo ok91 rfl h0 ?_
 refine Z0<|Z1<|Z7 rfl<|Z2<|Z0<|oH h fun y1 f1 h=>Z1<|Z7 rfl<|Za (Z0j (mS:=_::M1) rfl (Z1f .here .here) (fun w hw=>Znm  f1 (Z0w hw (Z1f .here .here)) O1) fun v4 o1 R1=>?_)
 obtain ⟨v6,w1,v9,rfl,rfl,O2⟩:=R1
 refine Z7 rfl<|Zf1 rfl rfl<|Zf1 rfl rfl<|Z7 rfl<|Z7 rfl<|Z2<|Z0<|Z1<|Z7 rfl<|Z7 rfl<|Z2<|Zf ?_
 cases h
 exact ⟨_,_,(.cons (.tmp rfl) .nil),(.all .here (.o .nil)),⟨_,rfl,⟨v6,w1,v9,rfl,rfl,O2⟩⟩⟩
def Zpn (p0:Int):OL :=
 bnd (wrap .u32 (Int.tdiv p0 16777216)) fun z1 =>
 bnd (wrap .u8 z1) fun z2 =>
 bnd (wrap .u32 (Int.tdiv p0 65536)) fun z3 =>
 bnd (wrap .u8 z3) fun z4 =>
 bnd (wrap .u32 (Int.tdiv p0 256)) fun z5 =>
 bnd (wrap .u8 z5) fun z6 =>
 bnd (wrap .u8 p0) fun z7 =>
 some ([z2,z4,z6,z7]:LI)
theorem Zkg {W:World} {r:(LI)} {p0:Int} (h:Zpn p0=some r)  :
    Calls Tryz.prog 201 [.int .u32 (p0)].toArray W (Z67 W [] (fun v Ms=>∃ (u0:Value) (M1:List Zd),v=u0/\Ms = [.all M1]/\Z0c (El.int .u8) u0 M1 r)):=by
 unfold Zpn at h
 refine Zj mo Z0u7 rfl (Zbz _) ?_
 refine Z0<|Z1<|Z7 rfl<|Z2<|Z0<|bH h fun z1 e1 h=>bH h fun z2 e2 h=>bH h fun z3 e3 h=>bH h fun z4 e4 h=>bH h fun z5 e5 h=>bH h fun z6 e6 h=>bH h fun z7 e7 h=>Z1<|Z7 rfl<|Zq _ (iz e1 (Zbl rfl rfl (by decide)))<|j_v e2 rfl<|Z7 rfl<|Zq _ (iz e3 (Zbl rfl rfl (by decide)))<|j_v e4 rfl<|Z7 rfl<|Zq _ (iz e5 (Zbl rfl rfl (by decide)))<|j_v e6 rfl<|Z7 rfl<|j_v e7 rfl<|Za (Z5q (E:=(El.int .u8)) (xs:=[z2,z4,z6,z7]) (.one rfl rfl rfl (.one rfl rfl rfl (.one rfl rfl rfl (.one rfl rfl rfl BdR.nil)))) (.cons (p:=[.one (.int .u8 (z2))]) rfl (.cons (p:=[.one (.int .u8 (z4))]) rfl (.cons (p:=[.one (.int .u8 (z6))]) rfl (.cons (p:=[.one (.int .u8 (z7))]) rfl .nil)))) rfl fun v10 w1 O1=>Z7 rfl<|Z2<|Zf ?_)
 cases h
 exact ⟨_,_,(.cons (.tmp rfl) .nil),(.all .here .nil),⟨_,rfl,⟨v10,w1,rfl,rfl,O1⟩⟩⟩
def Z4s (p0:Z27) (p1:Int):Option (Z27) :=
 opt (Zpn p1) fun y1 =>
 opt (Zah p0 y1) fun y2 =>
 some y2
theorem Z31 {W:World} {r:Z27} {p0:Z27} {p1:Int} {v0:Value} {M1:List Zd} {b:Nat} {T:TypeId} (h:Z4s p0 p1=some r) (h0:Sat W (b::M1.map (·.b)) (ck b T [.one (v0),.i p0.gE]::(M1 ++ [])) W) (O1:Z0c (El.int .u8) v0 M1 p0.gB) :
    Calls Tryz.prog 106 [.pointer (some ⟨b,0,none⟩),.int .u32 (p1)].toArray W (Z67 W (b::M1.map (·.b)) (fun v Ms=>∃ (uw:Value) (Mw:List Zd),v = .tuple #[]/\Ms = [.one (ck b T [.one (uw),.i r.gE]),.all Mw]/\Z0c (El.int .u8) uw Mw r.gB)):=by
 unfold Z4s at h
 refine Zj mo Z0so rfl h0 ?_
 refine oH h fun y1 f1 h=>oH h fun y2 f2 h=>Z1<|Z7 rfl<|Z7 rfl<|Za (Zg rfl (fun w hw=>Zkg  f1 ) fun v3 o1 R1=>?_)
 obtain ⟨_,w1,rfl,rfl,O2⟩:=R1
 refine Za (Z0j (mS:=_::M1) rfl (Z1f (.app .here) (.app .here)) (fun w hw=>Zdo  f2 (Z0w hw (Z1f (.app .here) (.app .here))) O1 ⟨(Z0l O2 .here) w hw,(Zh2 (Zcw (E:=(El.int .u8)) O2 .here .here hw) (Zf5 (E:=(El.int .u8)) O2 .here .t1 hw))⟩) fun v9 o2 R2=>?_)
 obtain ⟨v11,w2,rfl,rfl,O3⟩:=R2
 refine Z2 ?_
 cases h
 exact ⟨_,_,.nil,(.o (.all .here .nil)),⟨_,rfl,⟨v11,w2,rfl,rfl,O3⟩⟩⟩
def Zus (p0:Int):OL :=
 bnd (wrap .u64 (Int.tdiv p0 4294967296)) fun z1 =>
 bnd (wrap .u32 z1) fun z2 =>
 opt (Zpn z2) fun y1 =>
 bnd (wrap .u32 p0) fun z3 =>
 opt (Zpn z3) fun y2 =>
 chk (decide ((y1.length+y2.length)*1<=140737488355328)) <|
 bnd (y1++y2) fun l1 =>
 some l1
theorem Zwt {W:World} {r:(LI)} {p0:Int} (h:Zus p0=some r)  :
    Calls Tryz.prog 288 [.int .u64 (p0)].toArray W (Z67 W [] (fun v Ms=>∃ (u0:Value) (M1:List Zd),v=u0/\Ms = [.all M1]/\Z0c (El.int .u8) u0 M1 r)):=by
 unfold Zus at h
 refine Zj mo Z0w4 rfl (Zbz _) ?_
 refine Z0<|Z1<|Z7 rfl<|Z2<|Z0<|bH h fun z1 e1 h=>bH h fun z2 e2 h=>oH h fun y1 f1 h=>Z1<|Z7 rfl<|Zq _ (iz e1 (Zbl rfl rfl (by decide)))<|j_v e2 rfl<|Za (Zg rfl (fun w hw=>Zkg  f1 ) fun v6 o1 R1=>?_)
 obtain ⟨_,w1,rfl,rfl,O1⟩:=R1
 refine Z7 rfl<|Z2<|Z0<|bH h fun z3 e3 h=>oH h fun y2 f2 h=>cH h fun c1 h=>bH h fun l1 g1 h=>Z1<|Z7 rfl<|Z7 rfl<|j_v e3 rfl<|Za (Zg rfl (fun w hw=>Zkg  f2 ) fun v14 o2 R2=>?_)
 obtain ⟨_,w2,rfl,rfl,O2⟩:=R2
 refine Za (Z3i (E:=(El.int .u8)) g1 rfl O1 (.app .here) rfl (Z0l O2 .here) c1 fun v21 w3 O3=>Z7 rfl<|Z2<|Zf ?_)
 cases h
 exact ⟨_,_,(.cons (.tmp rfl) .nil),(.all .here .nil),⟨_,rfl,⟨v21,w3,rfl,rfl,O3⟩⟩⟩
def Zcp (p0:Z27) (p1:Int):Option (Z27) :=
 opt (Zus p1) fun y1 =>
 opt (Zah p0 y1) fun y2 =>
 some y2
theorem Zif {W:World} {r:Z27} {p0:Z27} {p1:Int} {v0:Value} {M1:List Zd} {b:Nat} {T:TypeId} (h:Zcp p0 p1=some r) (h0:Sat W (b::M1.map (·.b)) (ck b T [.one (v0),.i p0.gE]::(M1 ++ [])) W) (O1:Z0c (El.int .u8) v0 M1 p0.gB) :
    Calls Tryz.prog 182 [.pointer (some ⟨b,0,none⟩),.int .u64 (p1)].toArray W (Z67 W (b::M1.map (·.b)) (fun v Ms=>∃ (uw:Value) (Mw:List Zd),v = .tuple #[]/\Ms = [.one (ck b T [.one (uw),.i r.gE]),.all Mw]/\Z0c (El.int .u8) uw Mw r.gB)):=by
 unfold Zcp at h
 refine Zj mo Z0u5 rfl h0 ?_
 refine oH h fun y1 f1 h=>oH h fun y2 f2 h=>Z1<|Z7 rfl<|Z7 rfl<|Za (Zg rfl (fun w hw=>Zwt  f1 ) fun v3 o1 R1=>?_)
 obtain ⟨_,w1,rfl,rfl,O2⟩:=R1
 refine Za (Z0j (mS:=_::M1) rfl (Z1f (.app .here) (.app .here)) (fun w hw=>Zdo  f2 (Z0w hw (Z1f (.app .here) (.app .here))) O1 ⟨(Z0l O2 .here) w hw,(Zh2 (Zcw (E:=(El.int .u8)) O2 .here .here hw) (Zf5 (E:=(El.int .u8)) O2 .here .t1 hw))⟩) fun v9 o2 R2=>?_)
 obtain ⟨v11,w2,rfl,rfl,O3⟩:=R2
 refine Z2 ?_
 cases h
 exact ⟨_,_,.nil,(.o (.all .here .nil)),⟨_,rfl,⟨v11,w2,rfl,rfl,O3⟩⟩⟩
def Z38 (p0:Z27) (p1:Z09):Option (Z27) :=
 bnd (wrap .u32 p1.gSerial) fun z1 =>
 opt (Z4s p0 z1) fun y1 =>
 bnd (wrap .u32 p1.gRides) fun z2 =>
 opt (Z4s y1 z2) fun y2 =>
 bnd (wrap .u64 p1.gPrice) fun z3 =>
 opt (Zcp y2 z3) fun y3 =>
 opt (Z5j y3 (tk p1.gAnchor 0 32)) fun y4 =>
 some y4
theorem Z8f {W:World} {r:Z27} {p0:Z27} {p1:Z09} {v0:Value} {M1:List Zd} {b:Nat} {T:TypeId} (h:Z38 p0 p1=some r) (h0:Sat W (b::M1.map (·.b)) (ck b T [.one (v0),.i p0.gE]::(M1 ++ [])) W) (O1:Z0c (El.int .u8) v0 M1 p0.gB) :
    Calls Tryz.prog 101 [.pointer (some ⟨b,0,none⟩),agg (Z6 p1 [])].toArray W (Z67 W (b::M1.map (·.b)) (fun v Ms=>∃ (uw:Value) (Mw:List Zd),v = .tuple #[]/\Ms = [.one (ck b T [.one (uw),.i r.gE]),.all Mw]/\Z0c (El.int .u8) uw Mw r.gB)):=by
 unfold Z38 at h
 refine Zj mo Z0sn rfl h0 ?_
 refine Z0<|Z1<|Za (Z02 (s:=(Z6 p1 [])) rfl fun b1 u1=>Z2<|Z0<|bH h fun z1 e1 h=>oH h fun y1 f1 h=>Z1<|Z7 rfl<|Z4c rfl<|Zky rfl .here rfl<|j_v e1 rfl<|Za (Z0j (mS:=_::M1) rfl (Z1f .t1 .t1) (fun w hw=>Z31  f1 (Z0w hw (Z1f .t1 .t1)) O1) fun v6 o1 R1=>?_))
 obtain ⟨v8,w1,rfl,rfl,O2⟩:=R1
 refine Z2<|Z0<|bH h fun z2 e2 h=>oH h fun y2 f2 h=>Z1<|Z7 rfl<|Z4c rfl<|Zky rfl (.there (.app .here)) rfl<|j_v e2 rfl<|Za (Z0j (mS:=_::w1) rfl (Z1f .here .here) (fun w hw=>Z31  f2 (Z0w hw (Z1f .here .here)) O2) fun v14 o2 R2=>?_)
 obtain ⟨v16,w2,rfl,rfl,O3⟩:=R2
 refine Z2<|Z0<|bH h fun z3 e3 h=>oH h fun y3 f3 h=>Z1<|Z7 rfl<|Z4c rfl<|Zky rfl (.there (.app .here)) rfl<|j_v e3 rfl<|Za (Z0j (mS:=_::w2) rfl (Z1f .here .here) (fun w hw=>Zif  f3 (Z0w hw (Z1f .here .here)) O3) fun v22 o3 R3=>?_)
 obtain ⟨v24,w3,rfl,rfl,O4⟩:=R3
 refine Z2<|oH h fun y4 f4 h=>Z1<|Z7 rfl<|Z4c rfl<|Zq _ (Z8b rfl .no .no .no (by simp) (by decide))<|Za (Z0j (mS:=_::w3) rfl (Z1f .here .here) (fun w hw=>Z60  f4 (Z0w hw (Z1f .here .here)) O4 ⟨(Z1u (s:=(Z6 p1 [])) (N:=32) (k:=.u8) (base:=3) (lo:=0) (hi:=32) (mz:=32) (.there (.app .here)) rfl (by decide)) w hw,(Zh2 (Zj1 (.there (.app .here)) .here hw Z5m) (Zj2 (.there (.app .here)) .t1 hw Z5m))⟩) fun v29 o4 R4=>?_)
 obtain ⟨v31,w4,rfl,rfl,O5⟩:=R4
 refine Z2 ?_
 cases h
 exact ⟨_,_,.nil,(.o (.all .here .nil)),⟨_,rfl,⟨v31,w4,rfl,rfl,O5⟩⟩⟩
end Go.Proofs.YtkjfpenagcdmcaaGreatDoor
namespace Go.Proofs.YtkjfpenagcdmcaaGreatDoor
open Go Go.Sx Go.RowKit
open List (replicate)
open Go.IntKind (wrap)
set_option linter.all false
set_option maxHeartbeats 400000
set_option maxRecDepth 100000
def Z4g (p0:Z09):OL :=
 opt (Z2n p0) fun y1 =>
 br ((!y1)) (
 some []
 ) (
 opt (Z17 1) fun y2 =>
 opt (Z38 y2 p0) fun y3 =>
 opt (Z1k y3) fun y4 =>
 some y4.1
 )
theorem Zeo {W:World} {r:(LI)} {p0:Z09} (h:Z4g p0=some r)  :
    Calls Tryz.prog 46 [agg (Z6 p0 [])].toArray W (Z67 W [] (fun v Ms=>∃ (u0:Value) (M1:List Zd),v=u0/\Ms = [.all M1]/\Z0c (El.int .u8) u0 M1 r)):=by
 unfold Z4g at h
 refine Zj mo ok46 rfl (Zbz _) ?_
 refine Z0<|Z1<|Za (Z02 (s:=(Z6 p0 [])) rfl fun b1 hb1=>Z7 rfl<|Z2<|Z0<|Z0<|oH h fun y1 f1 h=>Z1<|Z0z (p:=(Z6 p0 [])) rfl .here rfl<|Z2o rfl (Z5t f1)<|Zq _ (Zuu rfl rfl)<|Z2<|Z0k h rfl (fun h=>?_) (fun h=>?_))
 ·refine Z0<|Z1<|Z7 rfl<|Z2<|Zf ?_
  cases h
  exact ⟨_,_,(.cons (.tmp rfl) .nil),(.no .nil),⟨_,rfl,⟨(.slice none 0 0),[],rfl,rfl,Z3y⟩⟩⟩
 ·refine Zp<|Z0<|oH h fun y2 f2 h=>Z1<|Za (Zg rfl (fun w hw=>Z1h  f2 ) fun v9 o1 R1=>?_)
  obtain ⟨b2,T12,v13,w1,rfl,rfl,O1⟩:=R1
  refine Z7 rfl<|Z2<|Z0<|oH h fun y3 f3 h=>Z1<|Z7 rfl<|Z0z (p:=(Z6 p0 [])) rfl (.there (.app .here)) rfl<|Za (Z0j (mS:=_::w1) rfl (Z1f .here .here) (fun w hw=>Z8f  f3 (Z0w hw (Z1f .here .here)) O1) fun v18 o2 R2=>?_)
  obtain ⟨v20,w2,rfl,rfl,O2⟩:=R2
  refine Z2<|Z0<|oH h fun y4 f4 h=>Z1<|Z7 rfl<|Za (Z0j (mS:=_::w2) rfl (Z1f .here .here) (fun w hw=>Z1p  f4 (Z0w hw (Z1f .here .here)) O2) fun v25 o3 R3=>?_)
  obtain ⟨_,w3,v30,rfl,rfl,O3⟩:=R3
  refine Z7 rfl<|Z2<|Zf ?_
  cases h
  exact ⟨_,_,(.cons (.tmp rfl) .nil),(.all .here .nil),⟨_,rfl,⟨v25,w3,rfl,rfl,O3⟩⟩⟩
def Zme (p0:LI) (p1:Bool) (k1:(LI)->OL) (k2:Int->(LI)->OL) (i1:Int) (a1:LI):OL :=
 br ((decide (i1<32))) (
 jn (fun (a2:LI)=>bnd (wrap .i64 (i1+1)) fun z1 =>
 k2 z1 a2) fun k3=>chk (inB i1 64) <|
 bnd (p0.getD (i1).toNat 0) fun z2 =>
 chk (inB i1 32) <|
 bnd (Z2g a1 (i1).toNat z2) fun l1 =>
 br (p1) (
 bnd (wrap .i64 (32+i1)) fun z3 =>
 chk (inB z3 64) <|
 bnd (p0.getD (z3).toNat 0) fun z4 =>
 chk (inB i1 32) <|
 bnd (Z2g l1 (i1).toNat z4) fun l2 =>
 k3 l2
 ) (
 k3 l1
 )
 ) (
 k1 a1
 )
def Zfw (p0:LI) (p1:Bool) (k1:(LI)->OL):Nat->Int->(LI)->OL
  | 0,_,_=>none
  | n+1,i1,a1=>Zme p0 p1 k1 (Zfw p0 p1 k1 n) i1 a1
def Zmd (p0:LI) (p1:Bool):OL :=
 jn (fun (a1:LI)=>some a1) fun k1=>Zfw p0 p1 k1 big 0 (replicate 32 0)
theorem Zn5 {W:World} {r:(LI)} {p0:LI} {p1:Bool} (h:Zmd p0 p1=some r)  :
    Calls Tryz.prog 92 [agg [b6' p0],.bool (p1)].toArray W (Z1w W (agg [b3' r])):=by
 unfold Zmd at h
 refine Z9 mo ok92 rfl ?_
 refine Z0<|Z1<|Za (Z02 (s:=[b6' p0]) rfl fun b1 u1=>Za (Zu fun b2 u2=>Z2<|Z0<|Z1<|Za (Zu fun b3 u3=>Z2<|Z0<|Z0<|Z1<|Z7 rfl<|Z2<|jH h fun k1 q1 h=>Zo (G:=fun t m=>∃ (a1:LI),k1 a1=some r/\Fit [(4,pt' b2),(5,pt' b3)] (ck b3 22 [b3' a1]::(ck b2 22 [b3' (replicate 32 0)]::(ck b1 148 [b6' p0] :: []))) t m) ?_ ?_)))
 ·refine Zb<|Zz (fun n1 t m=>∃ (i1:Int) (a2:LI),Zfw p0 p1 k1 n1 i1 a2=some r/\Fit [(1,.bool (p1)),(2,pt' b1),(4,pt' b2),(5,pt' b3),(6,.int .i64 (i1))] (ck b3 22 [b3' a2]::(ck b2 22 [b3' (replicate 32 0)]::(ck b1 148 [b6' p0] :: []))) t m) big ?_ ?_
  ·exact ⟨0,(replicate 32 0),h,⟨⟨rfl,rfl,rfl,rfl,rfl,trivial⟩,(.o (.o (.o .nil)))⟩⟩
  ·rintro n1 t m ⟨i1,a2,h,hF⟩
   refine Zi hF ?_
   clear hF
   rcases n1 with _ | n1
   · exact Z0s h
   have h:Zme p0 p1 k1 (Zfw p0 p1 k1 n1) i1 a2=some r:=h
   unfold Zme at h
   obtain ⟨k2,q2⟩ : ∃ k,k=Zfw p0 p1 k1 n1:=⟨_,rfl⟩
   try rw [<- q2] at h
   refine Z0<|Z0<|Z1<|Z7 rfl<|j_c rfl<|Z2<|Z0k h rfl (fun h=>?_) (fun h=>?_)
   ·refine Zp<|Z0<|jH h fun k3 q3 h=>Zo (G:=fun t m=>∃ (a3:LI),k3 a3=some r/\Fit [(1,.bool (p1)),(2,pt' b1),(4,pt' b2),(5,pt' b3),(6,.int .i64 (i1))] (ck b3 22 [b3' a3]::(ck b2 22 [b3' (replicate 32 0)]::(ck b1 148 [b6' p0] :: []))) t m) ?_ ?_
    ·refine Zb<|Z0<|cH h fun c1 h=>bH h fun z1 e1 h=>cH h fun c2 h=>bH h fun l1 g1 h=>Z1<|Z7 rfl<|Z7 rfl<|Z44 rfl rfl (Z0q c1)<|Zq _ (iz e1 (Z32 (base:=0) rfl .t2 rfl (Z0g c1)))<|Z44 rfl rfl (Z0q c2)<|Za (Z1z (q:=[b3' l1]) (base:=0) g1 rfl rfl rfl (Z0g c2) rfl .here<|Z2<|Z0<|Z1<|Z7 rfl<|Z2<|Z0k h rfl (fun h=>?_) (fun h=>?_))
     ·exact bH h fun z2 e2 h=>cH h fun c3 h=>bH h fun z3 e3 h=>cH h fun c4 h=>bH h fun l2 g2 h=>Z1<|Z7 rfl<|Z7 rfl<|j_b e2 rfl<|Z44 rfl rfl (Z0q c3)<|Zq _ (iz e3 (Z32 (base:=0) rfl .t2 rfl (Z0g c3)))<|Z44 rfl rfl (Z0q c4)<|Za (Z1z (q:=[b3' l2]) (base:=0) g2 rfl rfl rfl (Z0g c4) rfl .here<|Z2<|⟨l2,h,⟨⟨rfl,rfl,rfl,rfl,rfl,trivial⟩,(.o (.o (.o .nil)))⟩⟩)
     ·exact Zp<|⟨l1,h,⟨⟨rfl,rfl,rfl,rfl,rfl,trivial⟩,(.o (.o (.o .nil)))⟩⟩
    ·rintro t m ⟨a3,h,hF⟩
     refine Zi hF ?_
     clear hF
     subst q3
     refine bH h fun z4 e4 h=>Z1<|Z7 rfl<|j_b e4 rfl<|Z7 rfl<|Z2 ?_
     rw [q2] at h
     exact ⟨n1,Nat.lt_succ_self _,z4,a3,h,⟨⟨rfl,rfl,rfl,rfl,rfl,trivial⟩,(.o (.o (.o .nil)))⟩⟩
   ·exact Z08 _ rfl<|⟨a2,h,⟨⟨rfl,rfl,trivial⟩,(.o (.o (.o .nil)))⟩⟩
 ·rintro t m ⟨a1,h,hF⟩
  refine Zi hF ?_
  clear hF
  subst q1
  refine Z0<|Z1<|Z0z (p:=[b3' a1]) rfl .here rfl<|Za (Zm (q:=[b3' a1]) rfl rfl rfl rfl rfl .t1<|Z2<|Zf ?_)
  cases h
  exact ⟨_,(.cons (.agg rfl .t1 rfl) .nil),rfl⟩
def Zlc (p0:LI) (k1:(LI)->OL) (k2:(LI)->Int->OL) (l1:LI) (i1:Int):OL :=
 br ((decide (i1<(p0.length:Int)))) (
 chk (inB i1 p0.length) <|
 bnd (p0.getD (i1).toNat 0) fun z1 =>
 bnd (wrap .i64 z1) fun z2 =>
 chk (decide ((l1.length+([z2]:LI).length)*8<=140737488355328)) <|
 bnd (l1++([z2]:LI)) fun l2 =>
 bnd (wrap .i64 (i1+1)) fun z3 =>
 k2 l2 z3
 ) (
 k1 l1
 )
def Zed (p0:LI) (k1:(LI)->OL):Nat->(LI)->Int->OL
  | 0,_,_=>none
  | n+1,l1,i1=>Zlc p0 k1 (Zed p0 k1 n) l1 i1
def Zul (p0:LI):OL :=
 jn (fun (l1:LI)=>some l1) fun k1=>Zed p0 k1 big [] 0
theorem Zjb {W:World} {r:(LI)} {p0:LI} {v0:Value} (h:Zul p0=some r) (A0:Z6r (El.int .u8) W v0 p0) :
    Calls Tryz.prog 169 [v0].toArray W (Z67 W [] (fun v Ms=>∃ (u0:Value) (M1:List Zd),v=u0/\Ms = [.all M1]/\Z0c (El.int .i64) u0 M1 r)):=by
 unfold Zul at h
 refine Zj mo Z0ts rfl (Zbz _) ?_
 refine Z0<|Z1<|Z7 rfl<|Z2<|Z0<|Z1<|Z7 rfl<|Z2<|Z0<|Z0<|Z1<|Z7 rfl<|Z2<|jH h fun k1 q1 h=>Zo (G:=fun t m=>∃ (l1:LI) (v63:Value) (w1:List Zd),k1 l1=some r/\Z0c (El.int .i64) v63 w1 l1/\Fit [(3,v63)] (w1 ++ []) t m) ?_ ?_
 ·refine Zb<|Zz (fun n1 t m=>∃ (l2:LI) (i1:Int) (v104:Value) (w2:List Zd),Zed p0 k1 n1 l2 i1=some r/\Z0c (El.int .i64) v104 w2 l2/\Fit [(0,v0),(3,v104),(4,.int .i64 (i1))] (w2 ++ []) t m) big ?_ ?_
  ·exact ⟨[],0,(.slice none 0 0),[],h,Z3y,⟨⟨rfl,rfl,rfl,trivial⟩,(.no .nil)⟩⟩
  ·rintro n1 t m ⟨l2,i1,v104,w2,h,O1,hF⟩
   refine Zi hF ?_
   clear hF
   rcases n1 with _ | n1
   · exact Z0s h
   have h:Zlc p0 k1 (Zed p0 k1 n1) l2 i1=some r:=h
   unfold Zlc at h
   obtain ⟨k2,q2⟩ : ∃ k,k=Zed p0 k1 n1:=⟨_,rfl⟩
   try rw [<- q2] at h
   refine Z0<|Z0<|Z1<|Z7 rfl<|Z7 rfl<|Zq _ (Z40 rfl (Shp.rd A0))<|j_c rfl<|Z2<|Z0k h rfl (fun h=>?_) (fun h=>?_)
   ·refine Zp<|Z0<|Zb<|cH h fun c1 h=>bH h fun z1 e1 h=>bH h fun z2 e2 h=>cH h fun c2 h=>bH h fun l3 g1 h=>Z1<|Z7 rfl<|Z7 rfl<|Z7 rfl<|Zq _ (Z48 rfl rfl (Shp.rd A0) c1)<|Zq _ (iz e1 (Z4y (E:=(El.int .u8)) (s:=[.one (.int .u8 (p0.getD (i1).toNat 0))]) rfl (Z1n A0 Z20) (Z0g c1) rfl rfl))<|j_v e2 rfl<|Za (Z5q (E:=(El.int .i64)) (xs:=[z2]) (.one rfl rfl rfl BdR.nil) (.cons (p:=[.i z2]) rfl .nil) rfl fun v117 w3 O2=>Za (Z3i (E:=(El.int .i64)) g1 rfl O1 (.app .here) rfl (Z0l O2 .here) c2 fun v122 w4 O3=>Z7 rfl<|Z2<|bH h fun z3 e3 h=>Z1<|Z7 rfl<|j_b e3 rfl<|Z7 rfl<|Z2 ?_))
    rw [q2] at h
    exact ⟨n1,Nat.lt_succ_self _,l3,z3,v122,w4,h,O3,⟨⟨rfl,rfl,rfl,trivial⟩,(.all .here .nil)⟩⟩
   ·exact Z08 _ rfl<|⟨l2,v104,w2,h,O1,⟨⟨rfl,trivial⟩,(.all .here .nil)⟩⟩
 ·rintro t m ⟨l1,v63,w1,h,O4,hF⟩
  refine Zi hF ?_
  clear hF
  subst q1
  refine Z0<|Z1<|Z7 rfl<|Z7 rfl<|Z2<|Zf ?_
  cases h
  exact ⟨_,_,(.cons (.tmp rfl) .nil),(.all .here .nil),⟨_,rfl,⟨v63,w1,rfl,rfl,O4⟩⟩⟩
def Zma (p0:LI) (p1:Int):Option Int :=
 br ((decide (p1<(p0.length:Int)))) (
 chk (inB p1 p0.length) <|
 bnd (p0.getD (p1).toNat 0) fun z1 =>
 some z1
 ) (
 some 0
 )
theorem Z84 {W:World} {r:Int} {p0:LI} {p1:Int} {v0:Value} (h:Zma p0 p1=some r) (A0:Z6r (El.int .i64) W v0 p0) :
    Calls Tryz.prog 278 [v0,.int .i64 (p1)].toArray W (Z1w W (.int .i64 (r))):=by
 unfold Zma at h
 refine Z9 mo Z0vu rfl ?_
 refine Z0<|Z1<|Z7 rfl<|Z2<|Z0<|Z0<|Z1<|Z7 rfl<|Z7 rfl<|Zq _ (Z40 rfl (Shp.rd A0))<|j_c rfl<|Z2<|Z0k h rfl (fun h=>?_) (fun h=>?_)
 ·refine Z0<|cH h fun c1 h=>bH h fun z1 e1 h=>Z1<|Z7 rfl<|Z7 rfl<|Zq _ (Z48 rfl rfl (Shp.rd A0) c1)<|Zq _ (iz e1 (Z4y (E:=(El.int .i64)) (s:=[.i (p0.getD (p1).toNat 0)]) rfl (Z1n A0 Z20) (Z0g c1) rfl rfl))<|Z7 rfl<|Z2<|Zf ?_
  cases h
  exact ⟨_,(.cons (.tmp rfl) .nil),rfl⟩
 ·refine Zp<|Z0<|Z1<|Z7 rfl<|Z2<|Zf ?_
  cases h
  exact ⟨_,(.cons (.tmp rfl) .nil),rfl⟩
def Zfs (p0:LI) (k1:(LI)->OL) (k2:Int->(LI)->OL) (i1:Int) (a1:LI):OL :=
 br ((decide (i1<32))) (
 opt (Zma p0 i1) fun y1 =>
 bnd (wrap .u8 y1) fun z1 =>
 chk (inB i1 32) <|
 bnd (Z2g a1 (i1).toNat z1) fun l1 =>
 bnd (wrap .i64 (i1+1)) fun z2 =>
 k2 z2 l1
 ) (
 k1 a1
 )
def Z9d (p0:LI) (k1:(LI)->OL):Nat->Int->(LI)->OL
  | 0,_,_=>none
  | n+1,i1,a1=>Zfs p0 k1 (Z9d p0 k1 n) i1 a1
def Zm9 (p0:LI):OL :=
 jn (fun (a1:LI)=>some a1) fun k1=>Z9d p0 k1 big 0 (replicate 32 0)
theorem Zn3 {W:World} {r:(LI)} {p0:LI} {v0:Value} (h:Zm9 p0=some r) (A0:Z6r (El.int .i64) W v0 p0) :
    Calls Tryz.prog 171 [v0].toArray W (Z1w W (agg [b3' r])):=by
 unfold Zm9 at h
 refine Z9 mo Z0tu rfl ?_
 refine Z0<|Z1<|Za (Zu fun b1 u1=>Z2<|Z0<|Z1<|Za (Zu fun b2 u2=>Z2<|Z0<|Z0<|Z1<|Z7 rfl<|Z2<|jH h fun k1 q1 h=>Zo (G:=fun t m=>∃ (a1:LI),k1 a1=some r/\Fit [(2,pt' b1),(3,pt' b2)] (ck b2 149 [b3' a1]::(ck b1 149 [b3' (replicate 32 0)] :: [])) t m) ?_ ?_))
 ·refine Zb<|Zz (fun n1 t m=>∃ (i1:Int) (a2:LI),Z9d p0 k1 n1 i1 a2=some r/\Fit [(0,v0),(2,pt' b1),(3,pt' b2),(4,.int .i64 (i1))] (ck b2 149 [b3' a2]::(ck b1 149 [b3' (replicate 32 0)] :: [])) t m) big ?_ ?_
  ·exact ⟨0,(replicate 32 0),h,⟨⟨rfl,rfl,rfl,rfl,trivial⟩,(.o (.o .nil))⟩⟩
  ·rintro n1 t m ⟨i1,a2,h,hF⟩
   refine Zi hF ?_
   clear hF
   rcases n1 with _ | n1
   · exact Z0s h
   have h:Zfs p0 k1 (Z9d p0 k1 n1) i1 a2=some r:=h
   unfold Zfs at h
   obtain ⟨k2,q2⟩ : ∃ k,k=Z9d p0 k1 n1:=⟨_,rfl⟩
   try rw [<- q2] at h
   refine Z0<|Z0<|Z1<|Z7 rfl<|j_c rfl<|Z2<|Z0k h rfl (fun h=>?_) (fun h=>?_)
   ·refine Zp<|Z0<|Zb<|oH h fun y1 f1 h=>bH h fun z1 e1 h=>cH h fun c1 h=>bH h fun l1 g1 h=>Z1<|Z7 rfl<|Z7 rfl<|Z7 rfl<|Zq _ (Z06 rfl (fun w hw=>Z84 f1 ((Z1n A0 Z20) w hw)))<|j_v e1 rfl<|Z44 rfl rfl (Z0q c1)<|Za (Z1z (q:=[b3' l1]) (base:=0) g1 rfl rfl rfl (Z0g c1) rfl .here<|Z2<|bH h fun z2 e2 h=>Z1<|Z7 rfl<|j_b e2 rfl<|Z7 rfl<|Z2 ?_)
    rw [q2] at h
    exact ⟨n1,Nat.lt_succ_self _,z2,l1,h,⟨⟨rfl,rfl,rfl,rfl,trivial⟩,(.o (.o .nil))⟩⟩
   ·exact Z08 _ rfl<|⟨a2,h,⟨⟨rfl,rfl,trivial⟩,(.o (.o .nil))⟩⟩
 ·rintro t m ⟨a1,h,hF⟩
  refine Zi hF ?_
  clear hF
  subst q1
  refine Z0<|Z1<|Z0z (p:=[b3' a1]) rfl .here rfl<|Za (Zm (q:=[b3' a1]) rfl rfl rfl rfl rfl .t1<|Z2<|Zf ?_)
  cases h
  exact ⟨_,(.cons (.agg rfl .t1 rfl) .nil),rfl⟩
def Zft (p0:LI) (p1:LI):Option Int :=
 br ((decide ((p0.length:Int)<(p1.length:Int)))) (
 some (p1.length:Int)
 ) (
 some (p0.length:Int)
 )
theorem Zjx {W:World} {r:Int} {p0:LI} {p1:LI} {v0:Value} {v1:Value} (h:Zft p0 p1=some r) (A0:Z6r (El.int .i64) W v0 p0) (A1:Z6r (El.int .i64) W v1 p1) :
    Calls Tryz.prog 277 [v0,v1].toArray W (Z1w W (.int .i64 (r))):=by
 unfold Zft at h
 refine Z9 mo Z0vt rfl ?_
 refine Z0<|Z1<|Z7 rfl<|Z2<|Z0<|Z0<|Z1<|Z7 rfl<|Zq _ (Z40 rfl (Shp.rd A0))<|Z7 rfl<|Zq _ (Z40 rfl (Shp.rd A1))<|j_c rfl<|Z2<|Z0k h rfl (fun h=>?_) (fun h=>?_)
 ·refine Z0<|Z1<|Z7 rfl<|Zq _ (Z40 rfl (Shp.rd A1))<|Z7 rfl<|Z2<|Zf ?_
  cases h
  exact ⟨_,(.cons (.tmp rfl) .nil),rfl⟩
 ·refine Zp<|Z0<|Z1<|Z7 rfl<|Zq _ (Z40 rfl (Shp.rd A0))<|Z7 rfl<|Z2<|Zf ?_
  cases h
  exact ⟨_,(.cons (.tmp rfl) .nil),rfl⟩
def Zfp (p0:LI) (p1:LI) (k1:Unit->Option Bool) (k2:Int->Option Bool) (i1:Int):Option Bool :=
 br ((decide (i1≥0))) (
 opt (Zma p0 i1) fun y1 =>
 opt (Zma p1 i1) fun y2 =>
 br ((y1 != y2)) (
 opt (Zma p0 i1) fun y3 =>
 opt (Zma p1 i1) fun y4 =>
 some (decide (y3<y4))
 ) (
 bnd (wrap .i64 (i1-1)) fun z1 =>
 k2 z1
 )
 ) (
 k1 ()
 )
def Z9c (p0:LI) (p1:LI) (k1:Unit->Option Bool):Nat->Int->Option Bool
  | 0,_=>none
  | n+1,i1=>Zfp p0 p1 k1 (Z9c p0 p1 k1 n) i1
def Zm8 (p0:LI) (p1:LI):Option Bool :=
 opt (Zft p0 p1) fun y1 =>
 bnd (wrap .i64 (y1-1)) fun z1 =>
 jn (fun (_:Unit)=>some false) fun k1=>Z9c p0 p1 k1 big z1
theorem Zuk {W:World} {r:Bool} {p0:LI} {p1:LI} {v0:Value} {v1:Value} (h:Zm8 p0 p1=some r) (A0:Z6r (El.int .i64) W v0 p0) (A1:Z6r (El.int .i64) W v1 p1) :
    Calls Tryz.prog 168 [v0,v1].toArray W (Z1w W (.bool (r))):=by
 unfold Zm8 at h
 refine Z9 mo Z0tr rfl ?_
 refine Z0<|Z1<|Z7 rfl<|Z2<|Z0<|Z0<|oH h fun y1 f1 h=>bH h fun z1 e1 h=>Z1<|Z7 rfl<|Z7 rfl<|Zq _ (Z06 rfl (fun w hw=>Zjx f1 ((Z1n A0 Z20) w hw) ((Z1n A1 Z20) w hw)))<|j_b e1 rfl<|Z7 rfl<|Z2<|jH h fun k1 q1 h=>Zo (G:=fun t m=>k1 ()=some r/\Fit [] [] t m) ?_ ?_
 ·refine Zb<|Zz (fun n1 t m=>∃ (i1:Int),Z9c p0 p1 k1 n1 i1=some r/\Fit [(0,v0),(1,v1),(5,.int .i64 (i1))] [] t m) big ?_ ?_
  ·exact ⟨z1,h,⟨⟨rfl,rfl,rfl,trivial⟩,.nil⟩⟩
  ·rintro n1 t m ⟨i1,h,hF⟩
   refine Zi hF ?_
   clear hF
   rcases n1 with _ | n1
   · exact Z0s h
   have h:Zfp p0 p1 k1 (Z9c p0 p1 k1 n1) i1=some r:=h
   unfold Zfp at h
   obtain ⟨k2,q2⟩ : ∃ k,k=Z9c p0 p1 k1 n1:=⟨_,rfl⟩
   try rw [<- q2] at h
   refine Z0<|Z0<|Z1<|Z7 rfl<|j_c rfl<|Z2<|Z0k h rfl (fun h=>?_) (fun h=>?_)
   ·refine Zp<|Z0<|Zb<|Z0<|oH h fun y2 f2 h=>oH h fun y3 f3 h=>Z1<|Z7 rfl<|Z7 rfl<|Zq _ (Z06 rfl (fun w hw=>Z84 f2 ((Z1n A0 Z20) w hw)))<|Z7 rfl<|Z7 rfl<|Zq _ (Z06 rfl (fun w hw=>Z84 f3 ((Z1n A1 Z20) w hw)))<|j_c rfl<|Z2<|Z0k h rfl (fun h=>?_) (fun h=>?_)
    ·refine Z0<|oH h fun y4 f4 h=>oH h fun y5 f5 h=>Z1<|Z7 rfl<|Z7 rfl<|Zq _ (Z06 rfl (fun w hw=>Z84 f4 ((Z1n A0 Z20) w hw)))<|Z7 rfl<|Z7 rfl<|Zq _ (Z06 rfl (fun w hw=>Z84 f5 ((Z1n A1 Z20) w hw)))<|j_c rfl<|Z7 rfl<|Z2<|Zf ?_
     cases h
     exact ⟨_,(.cons (.tmp rfl) .nil),rfl⟩
    ·refine Zp<|bH h fun z2 e2 h=>Z1<|Z7 rfl<|j_b e2 rfl<|Z7 rfl<|Z2 ?_
     rw [q2] at h
     exact ⟨n1,Nat.lt_succ_self _,z2,h,⟨⟨rfl,rfl,rfl,trivial⟩,.nil⟩⟩
   ·exact Z08 _ rfl<|⟨h,⟨trivial,.nil⟩⟩
 ·rintro t m ⟨h,hF⟩
  refine Zi hF ?_
  clear hF
  subst q1
  refine Z0<|Z1<|Z7 rfl<|Z2<|Zf ?_
  cases h
  exact ⟨_,(.cons (.tmp rfl) .nil),rfl⟩
def Zo5:OL :=
 some ([237,211,245,92,26,99,18,88,214,156,247,162,222,249,222,20,0,0,0,0,0,0,0,0,0,0,0,0,0,0,0,16]:LI)
theorem Zsy {W:World} {r:(LI)} (h:Zo5=some r)  :
    Calls Tryz.prog 170 [].toArray W (Z67 W [] (fun v Ms=>∃ (u0:Value) (M1:List Zd),v=u0/\Ms = [.all M1]/\Z0c (El.int .i64) u0 M1 r)):=by
 unfold Zo5 at h
 refine Zj mo Z0tt rfl (Zbz _) ?_
 refine Z0<|Z1<|Z7 rfl<|Z2<|Z0<|Z1<|Za (Z5q (E:=(El.int .i64)) (xs:=[237,211,245,92,26,99,18,88,214,156,247,162,222,249,222,20,0,0,0,0,0,0,0,0,0,0,0,0,0,0,0,16]) (.one rfl rfl rfl (.one rfl rfl rfl (.one rfl rfl rfl (.one rfl rfl rfl (.one rfl rfl rfl (.one rfl rfl rfl (.one rfl rfl rfl (.one rfl rfl rfl (.one rfl rfl rfl (.one rfl rfl rfl (.one rfl rfl rfl (.one rfl rfl rfl (.one rfl rfl rfl (.one rfl rfl rfl (.one rfl rfl rfl (.one rfl rfl rfl (.one rfl rfl rfl (.one rfl rfl rfl (.one rfl rfl rfl (.one rfl rfl rfl (.one rfl rfl rfl (.one rfl rfl rfl (.one rfl rfl rfl (.one rfl rfl rfl (.one rfl rfl rfl (.one rfl rfl rfl (.one rfl rfl rfl (.one rfl rfl rfl (.one rfl rfl rfl (.one rfl rfl rfl (.one rfl rfl rfl (.one rfl rfl rfl BdR.nil)))))))))))))))))))))))))))))))) (.cons (p:=[.i 237]) rfl (.cons (p:=[.i 211]) rfl (.cons (p:=[.i 245]) rfl (.cons (p:=[.i 92]) rfl (.cons (p:=[.i 26]) rfl (.cons (p:=[.i 99]) rfl (.cons (p:=[.i 18]) rfl (.cons (p:=[.i 88]) rfl (.cons (p:=[.i 214]) rfl (.cons (p:=[.i 156]) rfl (.cons (p:=[.i 247]) rfl (.cons (p:=[.i 162]) rfl (.cons (p:=[.i 222]) rfl (.cons (p:=[.i 249]) rfl (.cons (p:=[.i 222]) rfl (.cons (p:=[.i 20]) rfl (.cons (p:=[.i 0]) rfl (.cons (p:=[.i 0]) rfl (.cons (p:=[.i 0]) rfl (.cons (p:=[.i 0]) rfl (.cons (p:=[.i 0]) rfl (.cons (p:=[.i 0]) rfl (.cons (p:=[.i 0]) rfl (.cons (p:=[.i 0]) rfl (.cons (p:=[.i 0]) rfl (.cons (p:=[.i 0]) rfl (.cons (p:=[.i 0]) rfl (.cons (p:=[.i 0]) rfl (.cons (p:=[.i 0]) rfl (.cons (p:=[.i 0]) rfl (.cons (p:=[.i 0]) rfl (.cons (p:=[.i 16]) rfl .nil)))))))))))))))))))))))))))))))) rfl fun v3 w1 O1=>Z7 rfl<|Z2<|Zf ?_)
 cases h
 exact ⟨_,_,(.cons (.tmp rfl) .nil),(.all .here .nil),⟨_,rfl,⟨v3,w1,rfl,rfl,O1⟩⟩⟩
def Zi9 (p1:Int) (k1:Int->Option Int) (k2:Int->Int->Option Int) (i1:Int) (i2:Int):Option Int :=
 bnd (Int.tmod p1 8) fun z1 =>
 br ((decide (i2<z1))) (
 bnd (wrap .i64 (Int.tdiv i1 2)) fun z2 =>
 bnd (wrap .i64 (i2+1)) fun z3 =>
 k2 z2 z3
 ) (
 k1 i1
 )
def Zbh (p1:Int) (k1:Int->Option Int):Nat->Int->Int->Option Int
  | 0,_,_=>none
  | n+1,i1,i2=>Zi9 p1 k1 (Zbh p1 k1 n) i1 i2
def Zun (p0:LI) (p1:Int):Option Int :=
 bnd (wrap .i64 (Int.tdiv p1 8)) fun z1 =>
 opt (Zma p0 z1) fun y1 =>
 jn (fun (i1:Int)=>bnd (Int.tmod i1 2) fun z2 =>
 some z2) fun k1=>Zbh p1 k1 big y1 0
theorem Zwr {W:World} {r:Int} {p0:LI} {p1:Int} {v0:Value} (h:Zun p0 p1=some r) (A0:Z6r (El.int .i64) W v0 p0) :
    Calls Tryz.prog 279 [v0,.int .i64 (p1)].toArray W (Z1w W (.int .i64 (r))):=by
 unfold Zun at h
 refine Z9 mo Z0vv rfl ?_
 refine Z0<|Z1<|Z7 rfl<|Z2<|Z0<|bH h fun z1 e1 h=>oH h fun y1 f1 h=>Z1<|Z7 rfl<|Z7 rfl<|Zq _ (iz e1 (Zbl rfl rfl (by decide)))<|Zq _ (Z06 rfl (fun w hw=>Z84 f1 ((Z1n A0 Z20) w hw)))<|Z7 rfl<|Z2<|Z0<|Z0<|Z1<|Z7 rfl<|Z2<|jH h fun k1 q1 h=>Zo (G:=fun t m=>∃ (i1:Int),k1 i1=some r/\Fit [(5,.int .i64 (i1))] [] t m) ?_ ?_
 ·refine Zb<|Zz (fun n1 t m=>∃ (i2:Int) (i3:Int),Zbh p1 k1 n1 i2 i3=some r/\Fit [(1,.int .i64 (p1)),(5,.int .i64 (i2)),(6,.int .i64 (i3))] [] t m) big ?_ ?_
  ·exact ⟨y1,0,h,⟨⟨rfl,rfl,rfl,trivial⟩,.nil⟩⟩
  ·rintro n1 t m ⟨i2,i3,h,hF⟩
   refine Zi hF ?_
   clear hF
   rcases n1 with _ | n1
   · exact Z0s h
   have h:Zi9 p1 k1 (Zbh p1 k1 n1) i2 i3=some r:=h
   unfold Zi9 at h
   obtain ⟨k2,q2⟩ : ∃ k,k=Zbh p1 k1 n1:=⟨_,rfl⟩
   try rw [<- q2] at h
   refine Z0<|Z0<|bH h fun z2 e2 h=>Z1<|Z7 rfl<|Z7 rfl<|Zq _ (iz e2 (Zdp rfl rfl (by decide)))<|j_c rfl<|Z2<|Z0k h rfl (fun h=>?_) (fun h=>?_)
   ·refine Zp<|Z0<|Zb<|bH h fun z3 e3 h=>Z1<|Z7 rfl<|Zq _ (iz e3 (Zbl rfl rfl (by decide)))<|Z7 rfl<|Z2<|bH h fun z4 e4 h=>Z1<|Z7 rfl<|j_b e4 rfl<|Z7 rfl<|Z2 ?_
    rw [q2] at h
    exact ⟨n1,Nat.lt_succ_self _,z3,z4,h,⟨⟨rfl,rfl,rfl,trivial⟩,.nil⟩⟩
   ·exact Z08 _ rfl<|⟨i2,h,⟨⟨rfl,trivial⟩,.nil⟩⟩
 ·rintro t m ⟨i1,h,hF⟩
  refine Zi hF ?_
  clear hF
  subst q1
  refine Z0<|bH h fun z5 e5 h=>Z1<|Z7 rfl<|Zq _ (iz e5 (Zdp rfl rfl (by decide)))<|Z7 rfl<|Z2<|Zf ?_
  cases h
  exact ⟨_,(.cons (.tmp rfl) .nil),rfl⟩
def Zdl (p0:LI) (p1:LI) (k1:(LI)->OL) (k2:(LI)->Int->Int->OL) (l1:LI) (i1:Int) (i2:Int):OL :=
 br ((decide (i2<(p0.length:Int)))) (
 chk (inB i2 p0.length) <|
 bnd (p0.getD (i2).toNat 0) fun z1 =>
 opt (Zma p1 i2) fun y1 =>
 bnd (wrap .i64 (z1-y1)) fun z2 =>
 bnd (wrap .i64 (z2-i1)) fun z3 =>
 jn (fun (i3:Int) (i4:Int)=>chk (decide ((l1.length+([i4]:LI).length)*8<=140737488355328)) <|
 bnd (l1++([i4]:LI)) fun l2 =>
 bnd (wrap .i64 (i2+1)) fun z4 =>
 k2 l2 i3 z4) fun k3=>br ((decide (z3<0))) (
 bnd (wrap .i64 (z3+256)) fun z5 =>
 k3 1 z5
 ) (
 k3 0 z3
 )
 ) (
 k1 l1
 )
def Z7k (p0:LI) (p1:LI) (k1:(LI)->OL):Nat->(LI)->Int->Int->OL
  | 0,_,_,_=>none
  | n+1,l1,i1,i2=>Zdl p0 p1 k1 (Z7k p0 p1 k1 n) l1 i1 i2
def Zjc (p0:LI) (p1:LI):OL :=
 jn (fun (l1:LI)=>some l1) fun k1=>Z7k p0 p1 k1 big [] 0 0
theorem Zsx {W:World} {r:(LI)} {p0:LI} {p1:LI} {v0:Value} {v1:Value} (h:Zjc p0 p1=some r) (A0:Z6r (El.int .i64) W v0 p0) (A1:Z6r (El.int .i64) W v1 p1) :
    Calls Tryz.prog 280 [v0,v1].toArray W (Z67 W [] (fun v Ms=>∃ (u0:Value) (M1:List Zd),v=u0/\Ms = [.all M1]/\Z0c (El.int .i64) u0 M1 r)):=by
 unfold Zjc at h
 refine Zj mo Z0vw rfl (Zbz _) ?_
 refine Z0<|Z1<|Z7 rfl<|Z2<|Z0<|Z1<|Z7 rfl<|Z2<|Z0<|Z1<|Z7 rfl<|Z2<|Z0<|Z0<|Z1<|Z7 rfl<|Z2<|jH h fun k1 q1 h=>Zo (G:=fun t m=>∃ (l1:LI) (v114:Value) (w1:List Zd),k1 l1=some r/\Z0c (El.int .i64) v114 w1 l1/\Fit [(5,v114)] (w1 ++ []) t m) ?_ ?_
 ·refine Zb<|Zz (fun n1 t m=>∃ (l2:LI) (i1:Int) (i2:Int) (v188:Value) (w2:List Zd),Z7k p0 p1 k1 n1 l2 i1 i2=some r/\Z0c (El.int .i64) v188 w2 l2/\Fit [(0,v0),(1,v1),(5,v188),(6,.int .i64 (i1)),(7,.int .i64 (i2))] (w2 ++ []) t m) big ?_ ?_
  ·exact ⟨[],0,0,(.slice none 0 0),[],h,Z3y,⟨⟨rfl,rfl,rfl,rfl,rfl,trivial⟩,(.no .nil)⟩⟩
  ·rintro n1 t m ⟨l2,i1,i2,v188,w2,h,O1,hF⟩
   refine Zi hF ?_
   clear hF
   rcases n1 with _ | n1
   · exact Z0s h
   have h:Zdl p0 p1 k1 (Z7k p0 p1 k1 n1) l2 i1 i2=some r:=h
   unfold Zdl at h
   obtain ⟨k2,q2⟩ : ∃ k,k=Z7k p0 p1 k1 n1:=⟨_,rfl⟩
   try rw [<- q2] at h
   refine Z0<|Z0<|Z1<|Z7 rfl<|Z7 rfl<|Zq _ (Z40 rfl (Shp.rd A0))<|j_c rfl<|Z2<|Z0k h rfl (fun h=>?_) (fun h=>?_)
   ·refine Zp<|Z0<|Zb<|Z0<|cH h fun c1 h=>bH h fun z1 e1 h=>oH h fun y1 f1 h=>bH h fun z2 e2 h=>bH h fun z3 e3 h=>Zv<|k_m rfl<|k_m rfl<|Z0x _ (Z48 rfl rfl (Shp.rd A0) c1)<|k_m rfl<|k_m rfl<|k_m rfl<|Z0v _ (iz e1 (Z4y (E:=(El.int .i64)) (s:=[.i (p0.getD (i2).toNat 0)]) rfl (Z1n A0 Z20) (Z0g c1) rfl rfl))<|Z0v _ (Z06 rfl (fun w hw=>Z84 f1 ((Z1n A1 Z20) w hw)))<|k_b e2 rfl<|k_b e3 rfl<|k_m rfl<|Z03<|Z0<|Z1<|Z7 rfl<|Z2<|Z0<|Z0<|Z1<|Z7 rfl<|j_c rfl<|Z2<|jH h fun k3 q3 h=>Zo (G:=fun t m=>∃ (i3:Int) (i4:Int),k3 i3 i4=some r/\Fit [(0,v0),(1,v1),(5,v188),(6,.int .i64 (i3)),(7,.int .i64 (i2)),(8,.int .i64 (i4))] (w2 ++ []) t m) ?_ ?_
    ·refine Z0k h rfl (fun h=>?_) (fun h=>?_)
     ·exact Z0<|bH h fun z4 e4 h=>Z1<|Z7 rfl<|j_b e4 rfl<|Z7 rfl<|Z2<|Z1<|Z7 rfl<|Z2<|⟨1,z4,h,⟨⟨rfl,rfl,rfl,rfl,rfl,rfl,trivial⟩,(.all .here .nil)⟩⟩
     ·exact Zp<|⟨0,z3,h,⟨⟨rfl,rfl,rfl,rfl,rfl,rfl,trivial⟩,(.all .here .nil)⟩⟩
    ·rintro t m ⟨i3,i4,h,hF⟩
     refine Zi hF ?_
     clear hF
     subst q3
     refine cH h fun c2 h=>bH h fun l3 g1 h=>Z1<|Z7 rfl<|Z7 rfl<|Za (Z5q (E:=(El.int .i64)) (xs:=[i4]) (.one rfl rfl rfl BdR.nil) (.cons (p:=[.i i4]) rfl .nil) rfl fun v218 w3 O2=>Za (Z3i (E:=(El.int .i64)) g1 rfl O1 (.app .here) rfl (Z0l O2 .here) c2 fun v223 w4 O3=>Z7 rfl<|Z2<|bH h fun z5 e5 h=>Z1<|Z7 rfl<|j_b e5 rfl<|Z7 rfl<|Z2 ?_))
     rw [q2] at h
     exact ⟨n1,Nat.lt_succ_self _,l3,i3,z5,v223,w4,h,O3,⟨⟨rfl,rfl,rfl,rfl,rfl,trivial⟩,(.all .here .nil)⟩⟩
   ·exact Z08 _ rfl<|⟨l2,v188,w2,h,O1,⟨⟨rfl,trivial⟩,(.all .here .nil)⟩⟩
 ·rintro t m ⟨l1,v114,w1,h,O4,hF⟩
  refine Zi hF ?_
  clear hF
  subst q1
  refine Z0<|Z1<|Z7 rfl<|Z7 rfl<|Z2<|Zf ?_
  cases h
  exact ⟨_,_,(.cons (.tmp rfl) .nil),(.all .here .nil),⟨_,rfl,⟨v114,w1,rfl,rfl,O4⟩⟩⟩
def Zi7 (k1:(LI)->OL) (k2:(LI)->Int->Int->OL) (l1:LI) (i1:Int) (i2:Int):OL :=
 br ((decide (i2<33))) (
 chk (inB i2 l1.length) <|
 bnd (l1.getD (i2).toNat 0) fun z1 =>
 bnd (wrap .i64 (2*z1)) fun z2 =>
 bnd (wrap .i64 (z2+i1)) fun z3 =>
 bnd (Int.tmod z3 256) fun z4 =>
 chk (inB i2 l1.length) <|
 bnd (Zh7 0 l1 (i2).toNat z4) fun l2 =>
 bnd (wrap .i64 (Int.tdiv z3 256)) fun z5 =>
 bnd (wrap .i64 (i2+1)) fun z6 =>
 k2 l2 z5 z6
 ) (
 k1 l1
 )
def Z9s (k1:(LI)->OL):Nat->(LI)->Int->Int->OL
  | 0,_,_,_=>none
  | n+1,l1,i1,i2=>Zi7 k1 (Z9s k1 n) l1 i1 i2
def Zi6 (p0:LI) (y1:(LI)) (k1:(LI)->OL) (k2:(LI)->Int->OL) (l1:LI) (i1:Int):OL :=
 br ((decide (i1≥0))) (
 jn (fun (l2:LI)=>bnd (wrap .i64 (i1-1)) fun z1 =>
 k2 l2 z1) fun k3=>opt (Zun p0 i1) fun y2 =>
 jn (fun (l3:LI)=>opt (Zm8 l3 y1) fun y3 =>
 br ((!y3)) (
 opt (Zjc l3 y1) fun y4 =>
 k3 y4
 ) (
 k3 l3
 )) fun k4=>Z9s k4 big l1 y2 0
 ) (
 k1 l1
 )
def Z8l (p0:LI) (y1:(LI)) (k1:(LI)->OL):Nat->(LI)->Int->OL
  | 0,_,_=>none
  | n+1,l1,i1=>Zi6 p0 y1 k1 (Z8l p0 y1 k1 n) l1 i1
def Zrl (p0:LI):OL :=
 opt (Zo5 ) fun y1 =>
 chk (mkB 8 33 33) <|
 bnd (wrap .i64 (8*(p0.length:Int))) fun z1 =>
 bnd (wrap .i64 (z1-1)) fun z2 =>
 jn (fun (l1:LI)=>some l1) fun k1=>Z8l p0 y1 k1 big (replicate 33 0:LI) z2
theorem Zpi {W:World} {r:(LI)} {p0:LI} {v0:Value} (h:Zrl p0=some r) (A0:Z6r (El.int .i64) W v0 p0) :
    Calls Tryz.prog 172 [v0].toArray W (Z67 W [] (fun v Ms=>∃ (u0:Value) (M1:List Zd),v=u0/\Ms = [.all M1]/\Z0c (El.int .i64) u0 M1 r)):=by
 unfold Zrl at h
 refine Zj mo Z0tv rfl (Zbz _) ?_
 refine Z0<|Z1<|Z7 rfl<|Z2<|Z0<|oH h fun y1 f1 h=>Z1<|Za (Zg rfl (fun w hw=>Zsy  f1 ) fun v4 o1 R1=>?_)
 obtain ⟨_,w1,rfl,rfl,O1⟩:=R1
 refine Z7 rfl<|Z2<|Z0<|cH h fun c1 h=>Z1<|Za (Zk6 (E:=(El.int .i64)) rfl rfl rfl c1 fun v11 w2 O2=>Z7 rfl<|Z2<|Z0<|Z0<|bH h fun z1 e1 h=>bH h fun z2 e2 h=>Z1<|Z7 rfl<|Zq _ (Z40 rfl (Shp.rd A0))<|j_b e1 rfl<|j_b e2 rfl<|Z7 rfl<|Z2<|jH h fun k1 q1 h=>Zo (G:=fun t m=>∃ (l1:LI) (v920:Value) (w3:List Zd),k1 l1=some r/\Z0c (El.int .i64) v920 w3 l1/\Fit [(4,v920)] (w3 ++ []) t m) ?_ ?_)
 ·refine Zb<|Zz (fun n1 t m=>∃ (l2:LI) (i1:Int) (v1524:Value) (w4:List Zd),Z8l p0 y1 k1 n1 l2 i1=some r/\Z0c (El.int .i64) v1524 w4 l2/\Fit [(0,v0),(3,v4),(4,v1524),(5,.int .i64 (i1))] (w1++(w4 ++ [])) t m) big ?_ ?_
  ·exact ⟨(replicate 33 0:LI),z2,v11,w2,h,O2,⟨⟨rfl,rfl,rfl,rfl,trivial⟩,(.all (.app .here) (.all .here .nil))⟩⟩
  ·rintro n1 t m ⟨l2,i1,v1524,w4,h,O3,hF⟩
   refine Zi hF ?_
   clear hF
   rcases n1 with _ | n1
   · exact Z0s h
   have h:Zi6 p0 y1 k1 (Z8l p0 y1 k1 n1) l2 i1=some r:=h
   unfold Zi6 at h
   obtain ⟨k2,q2⟩ : ∃ k,k=Z8l p0 y1 k1 n1:=⟨_,rfl⟩
   try rw [<- q2] at h
   refine Z0<|Z0<|Z1<|Z7 rfl<|j_c rfl<|Z2<|Z0k h rfl (fun h=>?_) (fun h=>?_)
   ·refine Zp<|Z0<|jH h fun k3 q3 h=>Zo (G:=fun t m=>∃ (l3:LI) (v1677:Value) (w5:List Zd),k3 l3=some r/\Z0c (El.int .i64) v1677 w5 l3/\Fit [(0,v0),(3,v4),(4,v1677),(5,.int .i64 (i1))] (w1++(w5 ++ [])) t m) ?_ ?_
    ·refine Zb<|Z0<|oH h fun y2 f2 h=>Z1<|Z7 rfl<|Z7 rfl<|Zq _ (Z06 rfl (fun w hw=>Zwr f2 ((Z1n A0 Z20) w hw)))<|Z7 rfl<|Z2<|Z0<|Z0<|Z1<|Z7 rfl<|Z2<|jH h fun k4 q4 h=>Zo (G:=fun t m=>∃ (l4:LI) (v1748:Value) (w6:List Zd),k4 l4=some r/\Z0c (El.int .i64) v1748 w6 l4/\Fit [(0,v0),(3,v4),(4,v1748),(5,.int .i64 (i1))] (w1++(w6 ++ [])) t m) ?_ ?_
     ·refine Zb<|Zz (fun n2 t m=>∃ (l5:LI) (i2:Int) (i3:Int) (v1791:Value) (w7:List Zd),Z9s k4 n2 l5 i2 i3=some r/\Z0c (El.int .i64) v1791 w7 l5/\Fit [(0,v0),(3,v4),(4,v1791),(5,.int .i64 (i1)),(6,.int .i64 (i2)),(7,.int .i64 (i3))] (w1++(w7 ++ [])) t m) big ?_ ?_
      ·exact ⟨l2,y2,0,v1524,w4,h,O3,⟨⟨rfl,rfl,rfl,rfl,rfl,rfl,trivial⟩,(.all .here (.all .here .nil))⟩⟩
      ·rintro n2 t m ⟨l5,i2,i3,v1791,w7,h,O4,hF⟩
       refine Zi hF ?_
       clear hF
       rcases n2 with _ | n2
       · exact Z0s h
       have h:Zi7 k4 (Z9s k4 n2) l5 i2 i3=some r:=h
       unfold Zi7 at h
       obtain ⟨k5,q5⟩ : ∃ k,k=Z9s k4 n2:=⟨_,rfl⟩
       try rw [<- q5] at h
       refine Z0<|Z0<|Z1<|Z7 rfl<|j_c rfl<|Z2<|Z0k h rfl (fun h=>?_) (fun h=>?_)
       ·refine Zp<|Z0<|Zb<|Z0<|cH h fun c2 h=>bH h fun z3 e3 h=>bH h fun z4 e4 h=>bH h fun z5 e5 h=>Z1<|Z7 rfl<|Z7 rfl<|Zq _ (Z48 rfl rfl (Shp.own O4) c2)<|Zq _ (iz e3 (Z4y (E:=(El.int .i64)) (s:=[.i (l5.getD (i3).toNat 0)]) rfl (Z0l O4 (.app .here)) (Z0g c2) rfl rfl))<|j_b e4 rfl<|Z7 rfl<|j_b e5 rfl<|Z7 rfl<|Z2<|Z0<|bH h fun z6 e6 h=>cH h fun c3 h=>bH h fun l6 g1 h=>Z1<|Z7 rfl<|Z7 rfl<|Z7 rfl<|Zq _ (iz e6 (Zdp rfl rfl (by decide)))<|Zq _ (Z48 rfl rfl (Shp.own O4) c3)<|Za (Zmu (E:=(El.int .i64)) g1 O4 (.app .here) rfl rfl rfl (Z0g c3) fun w8 O5=>Z2<|bH h fun z7 e7 h=>Z1<|Z7 rfl<|Zq _ (iz e7 (Zbl rfl rfl (by decide)))<|Z7 rfl<|Z2<|bH h fun z8 e8 h=>Z1<|Z7 rfl<|j_b e8 rfl<|Z7 rfl<|Z2 ?_)
        rw [q5] at h
        exact ⟨n2,Nat.lt_succ_self _,l6,z7,z8,v1791,w8,h,O5,⟨⟨rfl,rfl,rfl,rfl,rfl,rfl,trivial⟩,(.all (.app .here) (.all .here .nil))⟩⟩
       ·exact Z08 _ rfl<|⟨l5,v1791,w7,h,O4,⟨⟨rfl,rfl,rfl,rfl,trivial⟩,(.all .here (.all .here .nil))⟩⟩
     ·rintro t m ⟨l4,v1748,w6,h,O6,hF⟩
      refine Zi hF ?_
      clear hF
      subst q4
      refine Z0<|oH h fun y3 f3 h=>Z1<|Z7 rfl<|Z7 rfl<|Zq _ (Z06 rfl (fun w hw=>Zuk f3 ((Z0l O6 (.app .here)) w hw) ((Z0l O1 .here) w hw)))<|Zq _ (Zuu rfl rfl)<|Z2<|Z0k h rfl (fun h=>?_) (fun h=>?_)
      ·refine oH h fun y4 f4 h=>Z1<|Z7 rfl<|Z7 rfl<|Za (Zg rfl (fun w hw=>Zsx  f4 ((Z0l O6 (.app .here)) w hw) ((Z0l O1 .here) w hw)) fun v1821 o2 R2=>?_)
       obtain ⟨_,w9,rfl,rfl,O7⟩:=R2
       exact Z7 rfl<|Z2<|⟨y4,v1821,w9,h,O7,⟨⟨rfl,rfl,rfl,rfl,trivial⟩,(.all (.app .here) (.all .here .nil))⟩⟩
      ·exact Zp<|⟨l4,v1748,w6,h,O6,⟨⟨rfl,rfl,rfl,rfl,trivial⟩,(.all .here (.all .here .nil))⟩⟩
    ·rintro t m ⟨l3,v1677,w5,h,O8,hF⟩
     refine Zi hF ?_
     clear hF
     subst q3
     refine bH h fun z9 e9 h=>Z1<|Z7 rfl<|j_b e9 rfl<|Z7 rfl<|Z2 ?_
     rw [q2] at h
     exact ⟨n1,Nat.lt_succ_self _,l3,z9,v1677,w5,h,O8,⟨⟨rfl,rfl,rfl,rfl,trivial⟩,(.all .here (.all .here .nil))⟩⟩
   ·exact Z08 _ rfl<|⟨l2,v1524,w4,h,O3,⟨⟨rfl,trivial⟩,(.all (.app .here) .nil)⟩⟩
 ·rintro t m ⟨l1,v920,w3,h,O9,hF⟩
  refine Zi hF ?_
  clear hF
  subst q1
  refine Z0<|Z1<|Z7 rfl<|Z7 rfl<|Z2<|Zf ?_
  cases h
  exact ⟨_,_,(.cons (.tmp rfl) .nil),(.all .here .nil),⟨_,rfl,⟨v920,w3,rfl,rfl,O9⟩⟩⟩
end Go.Proofs.YtkjfpenagcdmcaaGreatDoor
namespace Go.Proofs.YtkjfpenagcdmcaaGreatDoor
open Go Go.Sx Go.RowKit
open Go.IntKind (wrap)
set_option linter.all false
set_option maxHeartbeats 400000
set_option maxRecDepth 100000
def Zdk (p0:LI):OL :=
 opt (Zul (tk p0 0 64)) fun y1 =>
 opt (Zrl y1) fun y2 =>
 opt (Zm9 y2) fun y3 =>
 some y3
theorem Zas {W:World} {r:(LI)} {p0:LI} (h:Zdk p0=some r)  :
    Calls Tryz.prog 95 [agg [b6' p0]].toArray W (Z1w W (agg [b3' r])):=by
 unfold Zdk at h
 refine Z9 mo ok95 rfl ?_
 refine Z0<|Z1<|Za (Z02 (s:=[b6' p0]) rfl fun b1 u1=>Za (Zu fun b2 u2=>Z2<|Z0<|oH h fun y1 f1 h=>oH h fun y2 f2 h=>oH h fun y3 f3 h=>Z1<|Zq _ (Z8b rfl .no .no .no (by simp) (by decide))<|Za (Zg rfl (fun w hw=>Zjb  f1 ((Z1u (s:=[b6' p0]) (N:=64) (k:=.u8) (base:=0) (lo:=0) (hi:=64) (mz:=64) .t1 rfl (by decide)) w hw)) fun v6 o1 R1=>?_)))
 obtain ⟨_,w1,rfl,rfl,O1⟩:=R1
 refine Za (Zg rfl (fun w hw=>Zpi  f2 ((Z0l O1 .here) w hw)) fun v12 o2 R2=>?_)
 obtain ⟨_,w2,rfl,rfl,O2⟩:=R2
 refine Zq _ (Z06 rfl (fun w hw=>Zn3 f3 ((Z0l O2 .here) w hw)))<|Za (Zm (q:=[b3' y3]) rfl rfl rfl rfl rfl (.app (.app .here))<|Z2<|Zf ?_)
 cases h
 exact ⟨_,(.cons (.agg rfl (.app (.app .here)) rfl) .nil),rfl⟩
def Zm4 (p0:Int) (k1:(LI)->OL) (k2:(LI)->Int->OL) (l1:LI) (i1:Int):OL :=
 br ((decide (i1<8))) (
 bnd (wrap .i64 (8*i1)) fun z1 =>
 bnd (wrap .i64 (56-z1)) fun z2 =>
 bnd (wrap .u64 z2) fun z3 =>
 chk (decide (0<=z3)) <|
 bnd (Zx .u64 p0 z3) fun z4 =>
 bnd (wrap .u8 z4) fun z5 =>
 chk (decide ((l1.length+([z5]:LI).length)*1<=140737488355328)) <|
 bnd (l1++([z5]:LI)) fun l2 =>
 bnd (wrap .i64 (i1+1)) fun z6 =>
 k2 l2 z6
 ) (
 k1 l1
 )
def Zfk (p0:Int) (k1:(LI)->OL):Nat->(LI)->Int->OL
  | 0,_,_=>none
  | n+1,l1,i1=>Zm4 p0 k1 (Zfk p0 k1 n) l1 i1
def Zka (p0:Int):OL :=
 jn (fun (l1:LI)=>some l1) fun k1=>Zfk p0 k1 big [] 0
theorem Zi1 {W:World} {r:(LI)} {p0:Int} (h:Zka p0=some r)  :
    Calls Tryz.prog 175 [.int .u64 (p0)].toArray W (Z67 W [] (fun v Ms=>∃ (u0:Value) (M1:List Zd),v=u0/\Ms = [.all M1]/\Z0c (El.int .u8) u0 M1 r)):=by
 unfold Zka at h
 refine Zj mo Z0ty rfl (Zbz _) ?_
 refine Z0<|Z1<|Z7 rfl<|Z2<|Z0<|Z1<|Z7 rfl<|Z2<|Z0<|Z0<|Z1<|Z7 rfl<|Z2<|jH h fun k1 q1 h=>Zo (G:=fun t m=>∃ (l1:LI) (v70:Value) (w1:List Zd),k1 l1=some r/\Z0c (El.int .u8) v70 w1 l1/\Fit [(3,v70)] (w1 ++ []) t m) ?_ ?_
 ·refine Zb<|Zz (fun n1 t m=>∃ (l2:LI) (i1:Int) (v114:Value) (w2:List Zd),Zfk p0 k1 n1 l2 i1=some r/\Z0c (El.int .u8) v114 w2 l2/\Fit [(0,.int .u64 (p0)),(3,v114),(4,.int .i64 (i1))] (w2 ++ []) t m) big ?_ ?_
  ·exact ⟨[],0,(.slice none 0 0),[],h,Z3y,⟨⟨rfl,rfl,rfl,trivial⟩,(.no .nil)⟩⟩
  ·rintro n1 t m ⟨l2,i1,v114,w2,h,O1,hF⟩
   refine Zi hF ?_
   clear hF
   rcases n1 with _ | n1
   · exact Z0s h
   have h:Zm4 p0 k1 (Zfk p0 k1 n1) l2 i1=some r:=h
   unfold Zm4 at h
   obtain ⟨k2,q2⟩ : ∃ k,k=Zfk p0 k1 n1:=⟨_,rfl⟩
   try rw [<- q2] at h
   refine Z0<|Z0<|Z1<|Z7 rfl<|j_c rfl<|Z2<|Z0k h rfl (fun h=>?_) (fun h=>?_)
   ·refine Zp<|Z0<|Zb<|Z0<|bH h fun z1 e1 h=>bH h fun z2 e2 h=>bH h fun z3 e3 h=>Z1<|Z7 rfl<|j_b e1 rfl<|j_b e2 rfl<|j_v e3 rfl<|Z7 rfl<|Z2<|cH h fun c1 h=>bH h fun z4 e4 h=>bH h fun z5 e5 h=>cH h fun c2 h=>bH h fun l3 g1 h=>Z1<|Z7 rfl<|Z7 rfl<|Z7 rfl<|Zq _ (iz e4 (Z61 rfl rfl (of_decide_eq_true c1)))<|j_v e5 rfl<|Za (Z5q (E:=(El.int .u8)) (xs:=[z5]) (.one rfl rfl rfl BdR.nil) (.cons (p:=[.one (.int .u8 (z5))]) rfl .nil) rfl fun v131 w3 O2=>Za (Z3i (E:=(El.int .u8)) g1 rfl O1 (.app .here) rfl (Z0l O2 .here) c2 fun v136 w4 O3=>Z7 rfl<|Z2<|bH h fun z6 e6 h=>Z1<|Z7 rfl<|j_b e6 rfl<|Z7 rfl<|Z2 ?_))
    rw [q2] at h
    exact ⟨n1,Nat.lt_succ_self _,l3,z6,v136,w4,h,O3,⟨⟨rfl,rfl,rfl,trivial⟩,(.all .here .nil)⟩⟩
   ·exact Z08 _ rfl<|⟨l2,v114,w2,h,O1,⟨⟨rfl,trivial⟩,(.all .here .nil)⟩⟩
 ·rintro t m ⟨l1,v70,w1,h,O4,hF⟩
  refine Zi hF ?_
  clear hF
  subst q1
  refine Z0<|Z1<|Z7 rfl<|Z7 rfl<|Z2<|Zf ?_
  cases h
  exact ⟨_,_,(.cons (.tmp rfl) .nil),(.all .here .nil),⟨_,rfl,⟨v70,w1,rfl,rfl,O4⟩⟩⟩
def Zhy (z1:Int) (k1:(LI)->OL) (k2:(LI)->OL) (l1:LI):OL :=
 bnd (wrap .i64 (z1+(l1.length:Int))) fun z2 =>
 bnd (wrap .i64 (z2+16)) fun z3 =>
 bnd (Int.tmod z3 128) fun z4 =>
 br ((z4 != 0)) (
 chk (decide ((l1.length+([0]:LI).length)*1<=140737488355328)) <|
 bnd (l1++([0]:LI)) fun l2 =>
 k2 l2
 ) (
 k1 l1
 )
def Zba (z1:Int) (k1:(LI)->OL):Nat->(LI)->OL
  | 0,_=>none
  | n+1,l1=>Zhy z1 k1 (Zba z1 k1 n) l1
def Zuh (p0:Int):OL :=
 bnd (Int.tmod p0 128) fun z1 =>
 bnd (wrap .i64 z1) fun z2 =>
 jn (fun (l1:LI)=>bnd (wrap .u64 (Int.tdiv p0 2305843009213693952)) fun z3 =>
 opt (Zka z3) fun y1 =>
 chk (decide ((l1.length+y1.length)*1<=140737488355328)) <|
 bnd (l1++y1) fun l2 =>
 bnd (wrap .u64 (p0*8)) fun z4 =>
 opt (Zka z4) fun y2 =>
 chk (decide ((l2.length+y2.length)*1<=140737488355328)) <|
 bnd (l2++y2) fun l3 =>
 some l3) fun k1=>Zba z2 k1 big ([128]:LI)
theorem Zwp {W:World} {r:(LI)} {p0:Int} (h:Zuh p0=some r)  :
    Calls Tryz.prog 173 [.int .u64 (p0)].toArray W (Z67 W [] (fun v Ms=>∃ (u0:Value) (M1:List Zd),v=u0/\Ms = [.all M1]/\Z0c (El.int .u8) u0 M1 r)):=by
 unfold Zuh at h
 refine Zj mo Z0tw rfl (Zbz _) ?_
 refine Z0<|Z1<|Z7 rfl<|Z2<|Z0<|Z1<|Za (Z5q (E:=(El.int .u8)) (xs:=[128]) (.one rfl rfl rfl BdR.nil) (.cons (p:=[.one (.int .u8 (128))]) rfl .nil) rfl fun v3 w1 O1=>Z7 rfl<|Z2<|Z0<|bH h fun z1 e1 h=>bH h fun z2 e2 h=>Z1<|Z7 rfl<|Zq _ (iz e1 (Zdp rfl rfl (by decide)))<|j_v e2 rfl<|Z7 rfl<|Z2<|Z0<|jH h fun k1 q1 h=>Zo (G:=fun t m=>∃ (l1:LI) (v61:Value) (w2:List Zd),k1 l1=some r/\Z0c (El.int .u8) v61 w2 l1/\Fit [(0,.int .u64 (p0)),(3,v61)] (w2 ++ []) t m) ?_ ?_)
 ·refine Zb<|Zz (fun n1 t m=>∃ (l2:LI) (v98:Value) (w3:List Zd),Zba z2 k1 n1 l2=some r/\Z0c (El.int .u8) v98 w3 l2/\Fit [(0,.int .u64 (p0)),(3,v98),(4,.int .i64 (z2))] (w3 ++ []) t m) big ?_ ?_
  ·exact ⟨([128]:LI),v3,w1,h,O1,⟨⟨rfl,rfl,rfl,trivial⟩,(.all .here .nil)⟩⟩
  ·rintro n1 t m ⟨l2,v98,w3,h,O2,hF⟩
   refine Zi hF ?_
   clear hF
   rcases n1 with _ | n1
   · exact Z0s h
   have h:Zhy z2 k1 (Zba z2 k1 n1) l2=some r:=h
   unfold Zhy at h
   obtain ⟨k2,q2⟩ : ∃ k,k=Zba z2 k1 n1:=⟨_,rfl⟩
   try rw [<- q2] at h
   refine Z0<|Z0<|bH h fun z3 e3 h=>bH h fun z4 e4 h=>bH h fun z5 e5 h=>Z1<|Z7 rfl<|Z7 rfl<|Zq _ (Z40 rfl (Shp.own O2))<|j_b e3 rfl<|j_b e4 rfl<|Zq _ (iz e5 (Zdp rfl rfl (by decide)))<|j_c rfl<|Z2<|Z0k h rfl (fun h=>?_) (fun h=>?_)
   ·refine Zp<|Zb<|cH h fun c1 h=>bH h fun l3 g1 h=>Z1<|Z7 rfl<|Za (Z5q (E:=(El.int .u8)) (xs:=[0]) (.one rfl rfl rfl BdR.nil) (.cons (p:=[.one (.int .u8 (0))]) rfl .nil) rfl fun v110 w4 O3=>Za (Z3i (E:=(El.int .u8)) g1 rfl O2 (.app .here) rfl (Z0l O3 .here) c1 fun v115 w5 O4=>Z7 rfl<|Z2 ?_))
    rw [q2] at h
    exact ⟨n1,Nat.lt_succ_self _,l3,v115,w5,h,O4,⟨⟨rfl,rfl,rfl,trivial⟩,(.all .here .nil)⟩⟩
   ·exact Z08 _ rfl<|⟨l2,v98,w3,h,O2,⟨⟨rfl,rfl,trivial⟩,(.all .here .nil)⟩⟩
 ·rintro t m ⟨l1,v61,w2,h,O5,hF⟩
  refine Zi hF ?_
  clear hF
  subst q1
  refine Z0<|bH h fun z6 e6 h=>oH h fun y1 f1 h=>cH h fun c2 h=>bH h fun l4 g2 h=>Z1<|Z7 rfl<|Z7 rfl<|Zq _ (iz e6 (Zbl rfl rfl (by decide)))<|Za (Zg rfl (fun w hw=>Zi1  f1 ) fun v121 o1 R1=>?_)
  obtain ⟨_,w6,rfl,rfl,O6⟩:=R1
  refine Za (Z3i (E:=(El.int .u8)) g2 rfl O5 (.app .here) rfl (Z0l O6 .here) c2 fun v128 w7 O7=>Z7 rfl<|Z2<|Z0<|bH h fun z7 e7 h=>oH h fun y2 f2 h=>cH h fun c3 h=>bH h fun l5 g3 h=>Z1<|Z7 rfl<|Z7 rfl<|j_b e7 rfl<|Za (Zg rfl (fun w hw=>Zi1  f2 ) fun v134 o2 R2=>?_))
  obtain ⟨_,w8,rfl,rfl,O8⟩:=R2
  refine Za (Z3i (E:=(El.int .u8)) g3 rfl O7 (.app .here) rfl (Z0l O8 .here) c3 fun v141 w9 O9=>Z7 rfl<|Z2<|Zf ?_)
  cases h
  exact ⟨_,_,(.cons (.tmp rfl) .nil),(.all .here .nil),⟨_,rfl,⟨v141,w9,rfl,rfl,O9⟩⟩⟩
def Zfl (p0:LI) (k1:Int->Option Int) (k2:Int->Int->Option Int) (i1:Int) (i2:Int):Option Int :=
 br ((decide (i2<8))) (
 bnd (wrap .u64 (i1*256)) fun z1 =>
 chk (inB i2 p0.length) <|
 bnd (p0.getD (i2).toNat 0) fun z2 =>
 bnd (wrap .u64 z2) fun z3 =>
 bnd (wrap .u64 (z1+z3)) fun z4 =>
 bnd (wrap .i64 (i2+1)) fun z5 =>
 k2 z4 z5
 ) (
 k1 i1
 )
def Z83 (p0:LI) (k1:Int->Option Int):Nat->Int->Int->Option Int
  | 0,_,_=>none
  | n+1,i1,i2=>Zfl p0 k1 (Z83 p0 k1 n) i1 i2
def Zpd (p0:LI):Option Int :=
 jn (fun (i1:Int)=>some i1) fun k1=>Z83 p0 k1 big 0 0
theorem Zuj {W:World} {r:Int} {p0:LI} {v0:Value} (h:Zpd p0=some r) (A0:Z6r (El.int .u8) W v0 p0) :
    Calls Tryz.prog 401 [v0].toArray W (Z1w W (.int .u64 (r))):=by
 unfold Zpd at h
 refine Z9 mo Z0y6 rfl ?_
 refine Z0<|Z1<|Z7 rfl<|Z2<|Z0<|Z1<|Z7 rfl<|Z2<|Z0<|Z0<|Z1<|Z7 rfl<|Z2<|jH h fun k1 q1 h=>Zo (G:=fun t m=>∃ (i1:Int),k1 i1=some r/\Fit [(3,.int .u64 (i1))] [] t m) ?_ ?_
 ·refine Zb<|Zz (fun n1 t m=>∃ (i2:Int) (i3:Int),Z83 p0 k1 n1 i2 i3=some r/\Fit [(0,v0),(3,.int .u64 (i2)),(4,.int .i64 (i3))] [] t m) big ?_ ?_
  ·exact ⟨0,0,h,⟨⟨rfl,rfl,rfl,trivial⟩,.nil⟩⟩
  ·rintro n1 t m ⟨i2,i3,h,hF⟩
   refine Zi hF ?_
   clear hF
   rcases n1 with _ | n1
   · exact Z0s h
   have h:Zfl p0 k1 (Z83 p0 k1 n1) i2 i3=some r:=h
   unfold Zfl at h
   obtain ⟨k2,q2⟩ : ∃ k,k=Z83 p0 k1 n1:=⟨_,rfl⟩
   try rw [<- q2] at h
   refine Z0<|Z0<|Z1<|Z7 rfl<|j_c rfl<|Z2<|Z0k h rfl (fun h=>?_) (fun h=>?_)
   ·refine Zp<|Z0<|Zb<|bH h fun z1 e1 h=>cH h fun c1 h=>bH h fun z2 e2 h=>bH h fun z3 e3 h=>bH h fun z4 e4 h=>Z1<|Z7 rfl<|j_b e1 rfl<|Z7 rfl<|Z7 rfl<|Zq _ (Z48 rfl rfl (Shp.rd A0) c1)<|Zq _ (iz e2 (Z4y (E:=(El.int .u8)) (s:=[.one (.int .u8 (p0.getD (i3).toNat 0))]) rfl (Z1n A0 Z20) (Z0g c1) rfl rfl))<|j_v e3 rfl<|j_b e4 rfl<|Z7 rfl<|Z2<|bH h fun z5 e5 h=>Z1<|Z7 rfl<|j_b e5 rfl<|Z7 rfl<|Z2 ?_
    rw [q2] at h
    exact ⟨n1,Nat.lt_succ_self _,z4,z5,h,⟨⟨rfl,rfl,rfl,trivial⟩,.nil⟩⟩
   ·exact Z08 _ rfl<|⟨i2,h,⟨⟨rfl,trivial⟩,.nil⟩⟩
 ·rintro t m ⟨i1,h,hF⟩
  refine Zi hF ?_
  clear hF
  subst q1
  refine Z0<|Z1<|Z7 rfl<|Z7 rfl<|Z2<|Zf ?_
  cases h
  exact ⟨_,(.cons (.tmp rfl) .nil),rfl⟩
def q3_R (p0:Int) (p1:Int):Option Int :=
 chk (decide (0<=p1)) <|
 bnd (Zx .u64 p0 p1) fun z1 =>
 bnd (wrap .u64 (64-p1)) fun z2 =>
 chk (decide (0<=z2)) <|
 bnd (Zn .u64 p0 z2) fun z3 =>
 bnd (Z4 .or .u64 z1 z3) fun z4 =>
 some z4
theorem Z8h {W:World} {r:Int} {p0:Int} {p1:Int} (h:q3_R p0 p1=some r)  :
    Calls Tryz.prog 404 [.int .u64 (p0),.int .u64 (p1)].toArray W (Z1w W (.int .u64 (r))):=by
 unfold q3_R at h
 refine Z9 mo Z0y9 rfl ?_
 refine Z0<|Z1<|Z7 rfl<|Z2<|Z0<|cH h fun c1 h=>bH h fun z1 e1 h=>bH h fun z2 e2 h=>cH h fun c2 h=>bH h fun z3 e3 h=>bH h fun z4 e4 h=>Z1<|Z7 rfl<|Z7 rfl<|Zq _ (iz e1 (Z61 rfl rfl (of_decide_eq_true c1)))<|Z7 rfl<|Z7 rfl<|j_b e2 rfl<|Zq _ (iz e3 (Zno rfl rfl (of_decide_eq_true c2)))<|j_b e4 rfl<|Z7 rfl<|Z2<|Zf ?_
 cases h
 exact ⟨_,(.cons (.tmp rfl) .nil),rfl⟩
def Z06v (p0:Int):Option Int :=
 opt (q3_R p0 19) fun y1 =>
 opt (q3_R p0 61) fun y2 =>
 bnd (Z4 .xor .u64 y1 y2) fun z1 =>
 bnd (Zx .u64 p0 6) fun z2 =>
 bnd (Z4 .xor .u64 z1 z2) fun z3 =>
 some z3
theorem Z003 {W:World} {r:Int} {p0:Int} (h:Z06v p0=some r)  :
    Calls Tryz.prog 402 [.int .u64 (p0)].toArray W (Z1w W (.int .u64 (r))):=by
 unfold Z06v at h
 refine Z9 mo Z0y7 rfl ?_
 refine Z0<|Z1<|Z7 rfl<|Z2<|Z0<|oH h fun y1 f1 h=>oH h fun y2 f2 h=>bH h fun z1 e1 h=>bH h fun z2 e2 h=>bH h fun z3 e3 h=>Z1<|Z7 rfl<|Z2o rfl (Z8h f1)<|Z7 rfl<|Z2o rfl (Z8h f2)<|j_b e1 rfl<|Z7 rfl<|Zq _ (iz e2 (Z61 rfl rfl (by decide)))<|j_b e3 rfl<|Z7 rfl<|Z2<|Zf ?_
 cases h
 exact ⟨_,(.cons (.tmp rfl) .nil),rfl⟩
def Z06u (p0:Int):Option Int :=
 opt (q3_R p0 1) fun y1 =>
 opt (q3_R p0 8) fun y2 =>
 bnd (Z4 .xor .u64 y1 y2) fun z1 =>
 bnd (Zx .u64 p0 7) fun z2 =>
 bnd (Z4 .xor .u64 z1 z2) fun z3 =>
 some z3
theorem Z002 {W:World} {r:Int} {p0:Int} (h:Z06u p0=some r)  :
    Calls Tryz.prog 403 [.int .u64 (p0)].toArray W (Z1w W (.int .u64 (r))):=by
 unfold Z06u at h
 refine Z9 mo Z0y8 rfl ?_
 refine Z0<|Z1<|Z7 rfl<|Z2<|Z0<|oH h fun y1 f1 h=>oH h fun y2 f2 h=>bH h fun z1 e1 h=>bH h fun z2 e2 h=>bH h fun z3 e3 h=>Z1<|Z7 rfl<|Z2o rfl (Z8h f1)<|Z7 rfl<|Z2o rfl (Z8h f2)<|j_b e1 rfl<|Z7 rfl<|Zq _ (iz e2 (Z61 rfl rfl (by decide)))<|j_b e3 rfl<|Z7 rfl<|Z2<|Zf ?_
 cases h
 exact ⟨_,(.cons (.tmp rfl) .nil),rfl⟩
def Zde (p0:LI) (k1:(LI)->OL) (k2:(LI)->Int->OL) (l1:LI) (i1:Int):OL :=
 br ((decide (i1<16))) (
 bnd (wrap .i64 (8*i1)) fun z1 =>
 bnd (wrap .i64 (8*i1)) fun z2 =>
 bnd (wrap .i64 (z2+8)) fun z3 =>
 chk (Zqi z1 z3 p0.length) <|
 opt (Zpd ((p0.drop (z1).toNat).take ((z3).toNat-(z1).toNat))) fun y1 =>
 chk (decide ((l1.length+([y1]:LI).length)*8<=140737488355328)) <|
 bnd (l1++([y1]:LI)) fun l2 =>
 bnd (wrap .i64 (i1+1)) fun z4 =>
 k2 l2 z4
 ) (
 k1 l1
 )
def Z6g (p0:LI) (k1:(LI)->OL):Nat->(LI)->Int->OL
  | 0,_,_=>none
  | n+1,l1,i1=>Zde p0 k1 (Z6g p0 k1 n) l1 i1
def Zdf (k1:(LI)->OL) (k2:(LI)->Int->OL) (l1:LI) (i1:Int):OL :=
 br ((decide (i1<80))) (
 bnd (wrap .i64 (i1-2)) fun z1 =>
 chk (inB z1 l1.length) <|
 bnd (wrap .i64 (i1-7)) fun z2 =>
 chk (inB z2 l1.length) <|
 bnd (wrap .i64 (i1-15)) fun z3 =>
 chk (inB z3 l1.length) <|
 bnd (wrap .i64 (i1-16)) fun z4 =>
 chk (inB z4 l1.length) <|
 bnd (l1.getD (z1).toNat 0) fun z5 =>
 opt (Z06v z5) fun y1 =>
 bnd (l1.getD (z2).toNat 0) fun z6 =>
 bnd (wrap .u64 (y1+z6)) fun z7 =>
 bnd (l1.getD (z3).toNat 0) fun z8 =>
 opt (Z06u z8) fun y2 =>
 bnd (wrap .u64 (z7+y2)) fun z9 =>
 bnd (l1.getD (z4).toNat 0) fun z10 =>
 bnd (wrap .u64 (z9+z10)) fun z11 =>
 chk (decide ((l1.length+([z11]:LI).length)*8<=140737488355328)) <|
 bnd (l1++([z11]:LI)) fun l2 =>
 bnd (wrap .i64 (i1+1)) fun z12 =>
 k2 l2 z12
 ) (
 k1 l1
 )
def Z6h (k1:(LI)->OL):Nat->(LI)->Int->OL
  | 0,_,_=>none
  | n+1,l1,i1=>Zdf k1 (Z6h k1 n) l1 i1
def Zl7 (p0:LI):OL :=
 jn (fun (l1:LI)=>jn (fun (l2:LI)=>some l2) fun k1=>Z6h k1 big l1 16) fun k2=>Z6g p0 k2 big [] 0
theorem Zst {W:World} {r:(LI)} {p0:LI} {v0:Value} (h:Zl7 p0=some r) (A0:Z6r (El.int .u8) W v0 p0) :
    Calls Tryz.prog 281 [v0].toArray W (Z67 W [] (fun v Ms=>∃ (u0:Value) (M1:List Zd),v=u0/\Ms = [.all M1]/\Z0c (El.int .u64) u0 M1 r)):=by
 unfold Zl7 at h
 refine Zj mo Z0vx rfl (Zbz _) ?_
 refine Z0<|Z1<|Z7 rfl<|Z2<|Z0<|Z1<|Z7 rfl<|Z2<|Z0<|Z0<|Z1<|Z7 rfl<|Z2<|jH h fun k1 q1 h=>Zo (G:=fun t m=>∃ (l1:LI) (v65:Value) (w1:List Zd),k1 l1=some r/\Z0c (El.int .u64) v65 w1 l1/\Fit [(3,v65)] (w1 ++ []) t m) ?_ ?_
 ·refine Zb<|Zz (fun n1 t m=>∃ (l2:LI) (i1:Int) (v106:Value) (w2:List Zd),Z6g p0 k1 n1 l2 i1=some r/\Z0c (El.int .u64) v106 w2 l2/\Fit [(0,v0),(3,v106),(4,.int .i64 (i1))] (w2 ++ []) t m) big ?_ ?_
  ·exact ⟨[],0,(.slice none 0 0),[],h,Z3y,⟨⟨rfl,rfl,rfl,trivial⟩,(.no .nil)⟩⟩
  ·rintro n1 t m ⟨l2,i1,v106,w2,h,O1,hF⟩
   refine Zi hF ?_
   clear hF
   rcases n1 with _ | n1
   · exact Z0s h
   have h:Zde p0 k1 (Z6g p0 k1 n1) l2 i1=some r:=h
   unfold Zde at h
   obtain ⟨k2,q2⟩ : ∃ k,k=Z6g p0 k1 n1:=⟨_,rfl⟩
   try rw [<- q2] at h
   refine Z0<|Z0<|Z1<|Z7 rfl<|j_c rfl<|Z2<|Z0k h rfl (fun h=>?_) (fun h=>?_)
   ·refine Zp<|Z0<|Zb<|bH h fun z1 e1 h=>bH h fun z2 e2 h=>bH h fun z3 e3 h=>cH h fun c1 h=>oH h fun y1 f1 h=>cH h fun c2 h=>bH h fun l3 g1 h=>Z1<|Z7 rfl<|Z7 rfl<|Z7 rfl<|j_b e1 rfl<|Z7 rfl<|j_b e2 rfl<|j_b e3 rfl<|Zq _ (Zyk (lz:=z1) (hz:=z3) rfl (Shp.rd A0) (.yes rfl) (.yes rfl) c1)<|Zq _ (Z06 rfl (fun w hw=>Zuj f1 ((Z03f (Z1n A0 Z20) (lz:=z1) (hz:=z3) c1) w hw)))<|Za (Z5q (E:=(El.int .u64)) (xs:=[y1]) (.one rfl rfl rfl BdR.nil) (.cons (p:=[.one (.int .u64 (y1))]) rfl .nil) rfl fun v121 w3 O2=>Za (Z3i (E:=(El.int .u64)) g1 rfl O1 (.app .here) rfl (Z0l O2 .here) c2 fun v126 w4 O3=>Z7 rfl<|Z2<|bH h fun z4 e4 h=>Z1<|Z7 rfl<|j_b e4 rfl<|Z7 rfl<|Z2 ?_))
    rw [q2] at h
    exact ⟨n1,Nat.lt_succ_self _,l3,z4,v126,w4,h,O3,⟨⟨rfl,rfl,rfl,trivial⟩,(.all .here .nil)⟩⟩
   ·exact Z08 _ rfl<|⟨l2,v106,w2,h,O1,⟨⟨rfl,trivial⟩,(.all .here .nil)⟩⟩
 ·rintro t m ⟨l1,v65,w1,h,O4,hF⟩
  refine Zi hF ?_
  clear hF
  subst q1
  refine Z0<|Z0<|Z1<|Z7 rfl<|Z2<|jH h fun k3 q3 h=>Zo (G:=fun t m=>∃ (l4:LI) (v228:Value) (w5:List Zd),k3 l4=some r/\Z0c (El.int .u64) v228 w5 l4/\Fit [(3,v228)] (w5 ++ []) t m) ?_ ?_
  ·refine Zb<|Zz (fun n2 t m=>∃ (l5:LI) (i2:Int) (v292:Value) (w6:List Zd),Z6h k3 n2 l5 i2=some r/\Z0c (El.int .u64) v292 w6 l5/\Fit [(3,v292),(5,.int .i64 (i2))] (w6 ++ []) t m) big ?_ ?_
   ·exact ⟨l1,16,v65,w1,h,O4,⟨⟨rfl,rfl,trivial⟩,(.all .here .nil)⟩⟩
   ·rintro n2 t m ⟨l5,i2,v292,w6,h,O5,hF⟩
    refine Zi hF ?_
    clear hF
    rcases n2 with _ | n2
    · exact Z0s h
    have h:Zdf k3 (Z6h k3 n2) l5 i2=some r:=h
    unfold Zdf at h
    obtain ⟨k4,q4⟩ : ∃ k,k=Z6h k3 n2:=⟨_,rfl⟩
    try rw [<- q4] at h
    refine Z0<|Z0<|Z1<|Z7 rfl<|j_c rfl<|Z2<|Z0k h rfl (fun h=>?_) (fun h=>?_)
    ·refine Zp<|Z0<|Zb<|bH h fun z5 e5 h=>cH h fun c3 h=>bH h fun z6 e6 h=>cH h fun c4 h=>bH h fun z7 e7 h=>cH h fun c5 h=>bH h fun z8 e8 h=>cH h fun c6 h=>bH h fun z9 e9 h=>oH h fun y2 f2 h=>bH h fun z10 e10 h=>bH h fun z11 e11 h=>bH h fun z12 e12 h=>oH h fun y3 f3 h=>bH h fun z13 e13 h=>bH h fun z14 e14 h=>bH h fun z15 e15 h=>cH h fun c7 h=>bH h fun l6 g2 h=>Zv<|k_m rfl<|k_m rfl<|k_m rfl<|k_b e5 rfl<|Z0x _ (Z48 rfl rfl (Shp.own O5) c3)<|k_m rfl<|k_m rfl<|k_b e6 rfl<|Z0x _ (Z48 rfl rfl (Shp.own O5) c4)<|k_m rfl<|k_m rfl<|k_b e7 rfl<|Z0x _ (Z48 rfl rfl (Shp.own O5) c5)<|k_m rfl<|k_m rfl<|k_b e8 rfl<|Z0x _ (Z48 rfl rfl (Shp.own O5) c6)<|Z0v _ (iz e9 (Z4y (E:=(El.int .u64)) (s:=[.one (.int .u64 (l5.getD (z5).toNat 0))]) rfl (Z0l O5 .here) (Z0g c3) rfl rfl))<|Z4o rfl (Z003 f2)<|Z0v _ (iz e10 (Z4y (E:=(El.int .u64)) (s:=[.one (.int .u64 (l5.getD (z6).toNat 0))]) rfl (Z0l O5 .here) (Z0g c4) rfl rfl))<|k_b e11 rfl<|Z0v _ (iz e12 (Z4y (E:=(El.int .u64)) (s:=[.one (.int .u64 (l5.getD (z7).toNat 0))]) rfl (Z0l O5 .here) (Z0g c5) rfl rfl))<|Z4o rfl (Z002 f3)<|k_b e13 rfl<|Z0v _ (iz e14 (Z4y (E:=(El.int .u64)) (s:=[.one (.int .u64 (l5.getD (z8).toNat 0))]) rfl (Z0l O5 .here) (Z0g c6) rfl rfl))<|k_b e15 rfl<|Z36 (Z5q (E:=(El.int .u64)) (xs:=[z15]) (.one rfl rfl rfl BdR.nil) (.cons (p:=[.one (.int .u64 (z15))]) rfl .nil) rfl fun v319 w7 O6=>⟨sU,Z16 rfl (Z3i (E:=(El.int .u64)) g2 rfl O5 (.app .here) rfl (Z0l O6 .here) c7 fun v324 w8 O7=>k_m rfl (Z03 (bH h fun z16 e16 h=>Z1 (Z7 rfl (j_b e16 rfl (Z7 rfl (Z2 ?_)))))))⟩)
     rw [q4] at h
     exact ⟨n2,Nat.lt_succ_self _,l6,z16,v324,w8,h,O7,⟨⟨rfl,rfl,trivial⟩,(.all .here .nil)⟩⟩
    ·exact Z08 _ rfl<|⟨l5,v292,w6,h,O5,⟨⟨rfl,trivial⟩,(.all .here .nil)⟩⟩
  ·rintro t m ⟨l4,v228,w5,h,O8,hF⟩
   refine Zi hF ?_
   clear hF
   subst q3
   refine Z0<|Z1<|Z7 rfl<|Z7 rfl<|Z2<|Zf ?_
   cases h
   exact ⟨_,_,(.cons (.tmp rfl) .nil),(.all .here .nil),⟨_,rfl,⟨v228,w5,rfl,rfl,O8⟩⟩⟩
def Zo4 (p0:LI) (p1:Int) (p2:Int):OL :=
 bnd (p0.getD 4 0) fun z1 =>
 bnd (p0.getD 0 0) fun z2 =>
 bnd (p0.getD 5 0) fun z3 =>
 bnd (Z4 .and .u64 z1 z3) fun z4 =>
 bnd (Z4 .xor .u64 18446744073709551615 z1) fun z5 =>
 bnd (p0.getD 6 0) fun z6 =>
 bnd (Z4 .and .u64 z5 z6) fun z7 =>
 bnd (Z4 .xor .u64 z4 z7) fun z8 =>
 bnd (p0.getD 1 0) fun z9 =>
 bnd (Z4 .and .u64 z2 z9) fun z10 =>
 bnd (p0.getD 2 0) fun z11 =>
 bnd (Z4 .and .u64 z2 z11) fun z12 =>
 bnd (Z4 .xor .u64 z10 z12) fun z13 =>
 bnd (p0.getD 1 0) fun z14 =>
 bnd (p0.getD 2 0) fun z15 =>
 bnd (Z4 .and .u64 z14 z15) fun z16 =>
 bnd (Z4 .xor .u64 z13 z16) fun z17 =>
 opt (q3_R z1 14) fun y1 =>
 opt (q3_R z1 18) fun y2 =>
 bnd (Z4 .xor .u64 y1 y2) fun z18 =>
 opt (q3_R z1 41) fun y3 =>
 bnd (Z4 .xor .u64 z18 y3) fun z19 =>
 bnd (p0.getD 7 0) fun z20 =>
 bnd (wrap .u64 (z20+z19)) fun z21 =>
 bnd (wrap .u64 (z21+z8)) fun z22 =>
 bnd (wrap .u64 (z22+p1)) fun z23 =>
 bnd (wrap .u64 (z23+p2)) fun z24 =>
 opt (q3_R z2 28) fun y4 =>
 opt (q3_R z2 34) fun y5 =>
 bnd (Z4 .xor .u64 y4 y5) fun z25 =>
 opt (q3_R z2 39) fun y6 =>
 bnd (Z4 .xor .u64 z25 y6) fun z26 =>
 bnd (wrap .u64 (z26+z17)) fun z27 =>
 bnd (wrap .u64 (z24+z27)) fun z28 =>
 bnd (p0.getD 0 0) fun z29 =>
 bnd (p0.getD 1 0) fun z30 =>
 bnd (p0.getD 2 0) fun z31 =>
 bnd (p0.getD 3 0) fun z32 =>
 bnd (wrap .u64 (z32+z24)) fun z33 =>
 bnd (p0.getD 4 0) fun z34 =>
 bnd (p0.getD 5 0) fun z35 =>
 bnd (p0.getD 6 0) fun z36 =>
 bnd (([z28,z29,z30,z31,z33,z34,z35,z36]:LI)) fun z37 =>
 some z37
theorem Zss {W:World} {r:(LI)} {p0:LI} {p1:Int} {p2:Int} (h:Zo4 p0 p1 p2=some r)  :
    Calls Tryz.prog 282 [agg [u8' p0],.int .u64 (p1),.int .u64 (p2)].toArray W (Z1w W (agg [u8' r])):=by
 unfold Zo4 at h
 refine Z9 mo Z0vy rfl ?_
 refine Z0<|Z1<|Za (Z02 (s:=[u8' p0]) rfl fun b1 u1=>Za (Zu fun b2 u2=>Z2<|Z0<|bH h fun z1 e1 h=>Z1<|Z44 rfl rfl (by decide)<|j_i e1 rfl .t1 rfl<|Z7 rfl<|Z2<|Z0<|bH h fun z2 e2 h=>Z1<|Z44 rfl rfl (by decide)<|j_i e2 rfl .t1 rfl<|Z7 rfl<|Z2<|Z0<|bH h fun z3 e3 h=>bH h fun z4 e4 h=>bH h fun z5 e5 h=>bH h fun z6 e6 h=>bH h fun z7 e7 h=>bH h fun z8 e8 h=>Z1<|Z7 rfl<|Z44 rfl rfl (by decide)<|j_i e3 rfl .t1 rfl<|j_b e4 rfl<|Z7 rfl<|Zq _ (iz e5 (Zuu rfl rfl))<|Z44 rfl rfl (by decide)<|j_i e6 rfl .t1 rfl<|j_b e7 rfl<|j_b e8 rfl<|Z7 rfl<|Z2<|Z0<|bH h fun z9 e9 h=>bH h fun z10 e10 h=>bH h fun z11 e11 h=>bH h fun z12 e12 h=>bH h fun z13 e13 h=>bH h fun z14 e14 h=>bH h fun z15 e15 h=>bH h fun z16 e16 h=>bH h fun z17 e17 h=>Z1<|Z7 rfl<|Z44 rfl rfl (by decide)<|j_i e9 rfl .t1 rfl<|j_b e10 rfl<|Z7 rfl<|Z44 rfl rfl (by decide)<|j_i e11 rfl .t1 rfl<|j_b e12 rfl<|j_b e13 rfl<|Z44 rfl rfl (by decide)<|j_i e14 rfl .t1 rfl<|Z44 rfl rfl (by decide)<|j_i e15 rfl .t1 rfl<|j_b e16 rfl<|j_b e17 rfl<|Z7 rfl<|Z2<|Z0<|oH h fun y1 f1 h=>oH h fun y2 f2 h=>bH h fun z18 e18 h=>oH h fun y3 f3 h=>bH h fun z19 e19 h=>bH h fun z20 e20 h=>bH h fun z21 e21 h=>bH h fun z22 e22 h=>bH h fun z23 e23 h=>bH h fun z24 e24 h=>Zv<|Z6v rfl rfl (by decide)<|k_m rfl<|Z4o rfl (Z8h f1)<|k_m rfl<|Z4o rfl (Z8h f2)<|k_b e18 rfl<|k_m rfl<|Z4o rfl (Z8h f3)<|k_b e19 rfl<|k_m rfl<|k_m rfl<|k_m rfl<|l_i e20 rfl .t1 rfl<|k_b e21 rfl<|k_b e22 rfl<|k_b e23 rfl<|k_b e24 rfl<|k_m rfl<|Z03<|Z0<|oH h fun y4 f4 h=>oH h fun y5 f5 h=>bH h fun z25 e25 h=>oH h fun y6 f6 h=>bH h fun z26 e26 h=>bH h fun z27 e27 h=>Z1<|Z7 rfl<|Z2o rfl (Z8h f4)<|Z7 rfl<|Z2o rfl (Z8h f5)<|j_b e25 rfl<|Z7 rfl<|Z2o rfl (Z8h f6)<|j_b e26 rfl<|Z7 rfl<|j_b e27 rfl<|Z7 rfl<|Z2<|Z0<|bH h fun z28 e28 h=>bH h fun z29 e29 h=>bH h fun z30 e30 h=>bH h fun z31 e31 h=>bH h fun z32 e32 h=>bH h fun z33 e33 h=>bH h fun z34 e34 h=>bH h fun z35 e35 h=>bH h fun z36 e36 h=>bH h fun z37 e37 h=>Z1<|Z7 rfl<|Z7 rfl<|j_b e28 rfl<|Z44 rfl rfl (by decide)<|j_i e29 rfl .t1 rfl<|Z44 rfl rfl (by decide)<|j_i e30 rfl .t1 rfl<|Z44 rfl rfl (by decide)<|j_i e31 rfl .t1 rfl<|Z44 rfl rfl (by decide)<|j_i e32 rfl .t1 rfl<|Z7 rfl<|j_b e33 rfl<|Z44 rfl rfl (by decide)<|j_i e34 rfl .t1 rfl<|Z44 rfl rfl (by decide)<|j_i e35 rfl .t1 rfl<|Z44 rfl rfl (by decide)<|j_i e36 rfl .t1 rfl<|Zq _ (az (fun z=>agg [.ints .u64 8 z]) e37 (Zex (.one rfl rfl rfl (.one rfl rfl rfl (.one rfl rfl rfl (.one rfl rfl rfl (.one rfl rfl rfl (.one rfl rfl rfl (.one rfl rfl rfl (.one rfl rfl rfl BdR.nil))))))))))<|Za (Zm (q:=[u8' z37]) rfl rfl rfl rfl rfl .here<|Z2<|Zf ?_)))
 cases h
 exact ⟨_,(.cons (.agg rfl .here rfl) .nil),rfl⟩
def Zfj (y1:(LI)) (k1:(LI)->OL) (k2:Int->(LI)->OL) (i1:Int) (a1:LI):OL :=
 br ((decide (i1<80))) (
 chk (inB i1 80) <|
 chk (inB i1 y1.length) <|
 bnd (G_rtable.getD (i1).toNat 0) fun z1 =>
 bnd (y1.getD (i1).toNat 0) fun z2 =>
 opt (Zo4 a1 z1 z2) fun y2 =>
 bnd (wrap .i64 (i1+1)) fun z3 =>
 k2 z3 y2
 ) (
 k1 a1
 )
def Z82 (y1:(LI)) (k1:(LI)->OL):Nat->Int->(LI)->OL
  | 0,_,_=>none
  | n+1,i1,a1=>Zfj y1 k1 (Z82 y1 k1 n) i1 a1
def Zm3 (p0:LI) (k1:(LI)->OL) (k2:Int->(LI)->OL) (i1:Int) (a1:LI):OL :=
 br ((decide (i1<8))) (
 chk (inB i1 8) <|
 chk (inB i1 8) <|
 bnd (a1.getD (i1).toNat 0) fun z1 =>
 bnd (p0.getD (i1).toNat 0) fun z2 =>
 bnd (wrap .u64 (z1+z2)) fun z3 =>
 chk (inB i1 8) <|
 bnd (Z2g a1 (i1).toNat z3) fun l1 =>
 bnd (wrap .i64 (i1+1)) fun z4 =>
 k2 z4 l1
 ) (
 k1 a1
 )
def Zcl (p0:LI) (k1:(LI)->OL):Nat->Int->(LI)->OL
  | 0,_,_=>none
  | n+1,i1,a1=>Zm3 p0 k1 (Zcl p0 k1 n) i1 a1
def Zpc (p0:LI) (p1:LI):OL :=
 opt (Zl7 p1) fun y1 =>
 jn (fun (a1:LI)=>jn (fun (a2:LI)=>some a2) fun k1=>Zcl p0 k1 big 0 a1) fun k2=>Z82 y1 k2 big 0 p0
theorem Zui {W:World} {r:(LI)} {p0:LI} {p1:LI} {v1:Value} (h:Zpc p0 p1=some r) (hG:Globs W) (A1:Z6r (El.int .u8) W v1 p1) :
    Calls Tryz.prog 174 [agg [u8' p0],v1].toArray W (Z1w W (agg [u8' r])):=by
 unfold Zpc at h
 refine Z9 mo Z0tx rfl ?_
 refine Z0<|Z1<|Za (Z02 (s:=[u8' p0]) rfl fun b1 u1=>Za (Zu fun b2 u2=>Z2<|Z0<|oH h fun y1 f1 h=>Z1<|Z7 rfl<|Za (Zg rfl (fun w hw=>Zst  f1 ((Z1n A1 Z20) w hw)) fun v6 o1 R1=>?_)))
 obtain ⟨_,w1,rfl,rfl,O1⟩:=R1
 refine Z7 rfl<|Z2<|Z0<|Z1<|Z0z (p:=[u8' p0]) rfl (.app .t1) rfl<|Za (Zu fun b3 u3=>Za (Zm (q:=[u8' p0]) rfl rfl rfl rfl rfl .here<|Z2<|Z0<|Z0<|Z1<|Z7 rfl<|Z2<|jH h fun k1 q1 h=>Zo (G:=fun t m=>∃ (a1:LI),k1 a1=some r/\Fit [(2,pt' b1),(4,pt' b2),(6,pt' b3)] (ck b3 230 [u8' a1]::(ck b2 230 [u8' (List.replicate 8 0)]::(ck b1 230 [u8' p0] :: []))) t m) ?_ ?_))
 ·refine Zb<|Zz (fun n1 t m=>∃ (i1:Int) (a2:LI),Z82 y1 k1 n1 i1 a2=some r/\Fit [(2,pt' b1),(4,pt' b2),(5,v6),(6,pt' b3),(7,.int .i64 (i1))] (ck b3 230 [u8' a2]::(w1++(ck b2 230 [u8' (List.replicate 8 0)]::(ck b1 230 [u8' p0] :: [])))) t m) big ?_ ?_
  ·exact ⟨0,p0,h,⟨⟨rfl,rfl,rfl,rfl,rfl,trivial⟩,(.o (.all .here (.o (.o .nil))))⟩⟩
  ·rintro n1 t m ⟨i1,a2,h,hF⟩
   refine Zi hF ?_
   clear hF
   rcases n1 with _ | n1
   · exact Z0s h
   have h:Zfj y1 k1 (Z82 y1 k1 n1) i1 a2=some r:=h
   unfold Zfj at h
   obtain ⟨k2,q2⟩ : ∃ k,k=Z82 y1 k1 n1:=⟨_,rfl⟩
   try rw [<- q2] at h
   refine Z0<|Z0<|Z1<|Z7 rfl<|j_c rfl<|Z2<|Z0k h rfl (fun h=>?_) (fun h=>?_)
   ·refine Zp<|Z0<|Zb<|cH h fun c1 h=>cH h fun c2 h=>bH h fun z1 e1 h=>bH h fun z2 e2 h=>oH h fun y2 f2 h=>Zv<|k_m rfl<|Z6v rfl rfl (Z0q c1)<|k_m rfl<|k_m rfl<|Z0x _ (Z48 rfl rfl (Shp.own O1) c2)<|Z1q (p:=[u8' a2]) rfl .here rfl<|Z0v _ (iz e1 (Z037 rfl (hG.g2) (by simp) (Z0g c1)))<|Z0v _ (iz e2 (Z4y (E:=(El.int .u64)) (s:=[.one (.int .u64 (y1.getD (i1).toNat 0))]) rfl (Z0l O1 .t1) (Z0g c2) rfl rfl))<|Z4o rfl (Zss f2)<|Z16 rfl (Zm (q:=[u8' y2]) rfl rfl rfl rfl rfl .here<|Z03<|bH h fun z3 e3 h=>Z1<|Z7 rfl<|j_b e3 rfl<|Z7 rfl<|Z2 ?_)
    rw [q2] at h
    exact ⟨n1,Nat.lt_succ_self _,z3,y2,h,⟨⟨rfl,rfl,rfl,rfl,rfl,trivial⟩,(.o (.all .here (.o (.o .nil))))⟩⟩
   ·exact Z08 _ rfl<|⟨a2,h,⟨⟨rfl,rfl,rfl,trivial⟩,(.o (.one (.app .here) (.one (.app .here) .nil)))⟩⟩
 ·rintro t m ⟨a1,h,hF⟩
  refine Zi hF ?_
  clear hF
  subst q1
  refine Z0<|Z0<|Z1<|Z7 rfl<|Z2<|jH h fun k3 q3 h=>Zo (G:=fun t m=>∃ (a3:LI),k3 a3=some r/\Fit [(4,pt' b2),(6,pt' b3)] (ck b3 230 [u8' a3]::(ck b2 230 [u8' (List.replicate 8 0)]::(ck b1 230 [u8' p0] :: []))) t m) ?_ ?_
  ·refine Zb<|Zz (fun n2 t m=>∃ (i2:Int) (a4:LI),Zcl p0 k3 n2 i2 a4=some r/\Fit [(2,pt' b1),(4,pt' b2),(6,pt' b3),(8,.int .i64 (i2))] (ck b3 230 [u8' a4]::(ck b2 230 [u8' (List.replicate 8 0)]::(ck b1 230 [u8' p0] :: []))) t m) big ?_ ?_
   ·exact ⟨0,a1,h,⟨⟨rfl,rfl,rfl,rfl,trivial⟩,(.o (.o (.o .nil)))⟩⟩
   ·rintro n2 t m ⟨i2,a4,h,hF⟩
    refine Zi hF ?_
    clear hF
    rcases n2 with _ | n2
    · exact Z0s h
    have h:Zm3 p0 k3 (Zcl p0 k3 n2) i2 a4=some r:=h
    unfold Zm3 at h
    obtain ⟨k4,q4⟩ : ∃ k,k=Zcl p0 k3 n2:=⟨_,rfl⟩
    try rw [<- q4] at h
    refine Z0<|Z0<|Z1<|Z7 rfl<|j_c rfl<|Z2<|Z0k h rfl (fun h=>?_) (fun h=>?_)
    ·refine Zp<|Z0<|Zb<|cH h fun c3 h=>cH h fun c4 h=>bH h fun z4 e4 h=>bH h fun z5 e5 h=>bH h fun z6 e6 h=>cH h fun c5 h=>bH h fun l1 g1 h=>Zv<|k_m rfl<|k_m rfl<|Z6v rfl rfl (Z0q c3)<|k_m rfl<|Z6v rfl rfl (Z0q c4)<|Z0v _ (iz e4 (Z32 (base:=0) rfl .here rfl (Z0g c3)))<|Z0v _ (iz e5 (Z32 (base:=0) rfl .t2 rfl (Z0g c4)))<|k_b e6 rfl<|Z6v rfl rfl (Z0q c5)<|Z16 rfl (Z1z (q:=[u8' l1]) (base:=0) g1 rfl rfl rfl (Z0g c5) rfl .here<|Z03<|bH h fun z7 e7 h=>Z1<|Z7 rfl<|j_b e7 rfl<|Z7 rfl<|Z2 ?_)
     rw [q4] at h
     exact ⟨n2,Nat.lt_succ_self _,z7,l1,h,⟨⟨rfl,rfl,rfl,rfl,trivial⟩,(.o (.o (.o .nil)))⟩⟩
    ·exact Z08 _ rfl<|⟨a4,h,⟨⟨rfl,rfl,trivial⟩,(.o (.o (.o .nil)))⟩⟩
  ·rintro t m ⟨a3,h,hF⟩
   refine Zi hF ?_
   clear hF
   subst q3
   refine Z0<|Z1<|Z0z (p:=[u8' a3]) rfl .here rfl<|Za (Zm (q:=[u8' a3]) rfl rfl rfl rfl rfl .t1<|Z2<|Zf ?_)
   cases h
   exact ⟨_,(.cons (.agg rfl .t1 rfl) .nil),rfl⟩
end Go.Proofs.YtkjfpenagcdmcaaGreatDoor
namespace Go.Proofs.YtkjfpenagcdmcaaGreatDoor
open Go Go.Sx Go.RowKit
open List (replicate)
open Go.IntKind (wrap)
set_option linter.all false
set_option maxHeartbeats 400000
set_option maxRecDepth 100000
def Zhz (l1:LI) (k1:(LI)->OL) (k2:Int->(LI)->OL) (i1:Int) (a1:LI):OL :=
 br ((decide (i1<(l1.length:Int)))) (
 bnd (wrap .i64 (i1+128)) fun z1 =>
 chk (Zqi i1 z1 l1.length) <|
 opt (Zpc a1 ((l1.drop (i1).toNat).take ((z1).toNat-(i1).toNat))) fun y1 =>
 bnd (wrap .i64 (i1+128)) fun z2 =>
 k2 z2 y1
 ) (
 k1 a1
 )
def Z8i (l1:LI) (k1:(LI)->OL):Nat->Int->(LI)->OL
  | 0,_,_=>none
  | n+1,i1,a1=>Zhz l1 k1 (Z8i l1 k1 n) i1 a1
def Zpb (i1:Int) (y1:(LI)) (k1:(LI)->OL) (k2:Int->(LI)->OL) (i2:Int) (a1:LI):OL :=
 br ((decide (i2<8))) (
 bnd (wrap .i64 (8*i1)) fun z1 =>
 bnd (wrap .i64 (z1+i2)) fun z2 =>
 chk (inB i2 y1.length) <|
 bnd (y1.getD (i2).toNat 0) fun z3 =>
 chk (inB z2 64) <|
 bnd (Z2g a1 (z2).toNat z3) fun l1 =>
 bnd (wrap .i64 (i2+1)) fun z4 =>
 k2 z4 l1
 ) (
 k1 a1
 )
def Zi0 (i1:Int) (y1:(LI)) (k1:(LI)->OL):Nat->Int->(LI)->OL
  | 0,_,_=>none
  | n+1,i2,a1=>Zpb i1 y1 k1 (Zi0 i1 y1 k1 n) i2 a1
def Zpa (a1:LI) (k1:(LI)->OL) (k2:Int->(LI)->OL) (i1:Int) (a2:LI):OL :=
 br ((decide (i1<8))) (
 chk (inB i1 8) <|
 bnd (a1.getD (i1).toNat 0) fun z1 =>
 opt (Zka z1) fun y1 =>
 jn (fun (a3:LI)=>bnd (wrap .i64 (i1+1)) fun z2 =>
 k2 z2 a3) fun k3=>Zi0 i1 y1 k3 big 0 a2
 ) (
 k1 a2
 )
def Zfi (a1:LI) (k1:(LI)->OL):Nat->Int->(LI)->OL
  | 0,_,_=>none
  | n+1,i1,a2=>Zpa a1 k1 (Zfi a1 k1 n) i1 a2
def Zn0 (p0:LI):OL :=
 chk (decide ((([]:LI).length+p0.length)*1<=140737488355328)) <|
 bnd (([]:LI)++p0) fun l1 =>
 bnd (wrap .u64 (p0.length:Int)) fun z1 =>
 opt (Zuh z1) fun y1 =>
 chk (decide ((l1.length+y1.length)*1<=140737488355328)) <|
 bnd (l1++y1) fun l2 =>
 jn (fun (a1:LI)=>jn (fun (a2:LI)=>some a2) fun k1=>Zfi a1 k1 big 0 (replicate 64 0)) fun k2=>Z8i l2 k2 big 0 G_rfirst
theorem Zaf {W:World} {r:(LI)} {p0:LI} {v0:Value} (h:Zn0 p0=some r) (hG:Globs W) (A0:Z6r (El.int .u8) W v0 p0) :
    Calls Tryz.prog 96 [v0].toArray W (Z1w W (agg [b6' r])):=by
 unfold Zn0 at h
 refine Z9 mo ok96 rfl ?_
 refine Z0<|Z1<|Za (Zu fun b1 u1=>Z2<|Z0<|Z1<|Z7 rfl<|Z2<|Z0<|cH h fun c1 h=>bH h fun l1 g1 h=>Z1<|Z7 rfl<|Z7 rfl<|Za (Z3i (E:=(El.int .u8)) g1 rfl Z3y .here rfl (Z1n A0 Z20) c1 fun v7 w1 O1=>Z7 rfl<|Z2<|Z0<|bH h fun z1 e1 h=>oH h fun y1 f1 h=>cH h fun c2 h=>bH h fun l2 g2 h=>Z1<|Z7 rfl<|Z7 rfl<|Zq _ (Z40 rfl (Shp.rd A0))<|j_v e1 rfl<|Za (Zg rfl (fun w hw=>Zwp  f1 ) fun v13 Msv1 R1=>?_)))
 obtain ⟨_,w2,rfl,rfl,O2⟩:=R1
 refine Za (Z3i (E:=(El.int .u8)) g2 rfl O1 (.app .here) rfl (Z0l O2 .here) c2 fun v20 w3 O3=>Z7 rfl<|Z2<|Z0<|Z1<|Zq _ (Z004 (o0:=0) (off:=0) rfl (hG.g0) (by simp) rfl)<|Za (Zu fun b2 u2=>Za (Zm (q:=[u8' G_rfirst]) rfl rfl rfl rfl rfl .here<|Z2<|Z0<|Z0<|Z1<|Z7 rfl<|Z2<|jH h fun k1 q1 h=>Zo (G:=fun t m=>∃ (a1:LI),k1 a1=some r/\Fit [(2,pt' b1),(4,pt' b2)] (ck b2 230 [u8' a1]::(ck b1 148 [b6' (replicate 64 0)] :: [])) t m) ?_ ?_)))
 ·refine Zb<|Zz (fun n1 t m=>∃ (i1:Int) (a2:LI),Z8i l2 k1 n1 i1 a2=some r/\Fit [(2,pt' b1),(3,v20),(4,pt' b2),(5,.int .i64 (i1))] (ck b2 230 [u8' a2]::(w3++(ck b1 148 [b6' (replicate 64 0)] :: []))) t m) big ?_ ?_
  ·exact ⟨0,G_rfirst,h,⟨⟨rfl,rfl,rfl,rfl,trivial⟩,(.o (.all .here (.one (.app .here) .nil)))⟩⟩
  ·rintro n1 t m ⟨i1,a2,h,hF⟩
   refine Zi hF ?_
   clear hF
   rcases n1 with _ | n1
   · exact Z0s h
   have h:Zhz l2 k1 (Z8i l2 k1 n1) i1 a2=some r:=h
   unfold Zhz at h
   obtain ⟨k2,q2⟩ : ∃ k,k=Z8i l2 k1 n1:=⟨_,rfl⟩
   try rw [<- q2] at h
   refine Z0<|Z0<|Z1<|Z7 rfl<|Z7 rfl<|Zq _ (Z40 rfl (Shp.own O3))<|j_c rfl<|Z2<|Z0k h rfl (fun h=>?_) (fun h=>?_)
   ·refine Zp<|Z0<|Zb<|bH h fun z2 e2 h=>cH h fun c3 h=>oH h fun y2 f2 h=>Zv<|k_m rfl<|k_m rfl<|k_m rfl<|k_b e2 rfl<|Z0x _ (Zyk (lz:=i1) (hz:=z2) rfl (Shp.own O3) (.yes rfl) (.yes rfl) c3)<|Z1q (p:=[u8' a2]) rfl .here rfl<|Z0v _ (Z06 rfl (fun w hw=>Zui f2 (hG.at hw (by simp)) ((Z03f (Z0l O3 .t1) (lz:=i1) (hz:=z2) c3) w hw)))<|Z16 rfl (Zm (q:=[u8' y2]) rfl rfl rfl rfl rfl .here<|Z03<|bH h fun z3 e3 h=>Z1<|Z7 rfl<|j_b e3 rfl<|Z7 rfl<|Z2 ?_)
    rw [q2] at h
    exact ⟨n1,Nat.lt_succ_self _,z3,y2,h,⟨⟨rfl,rfl,rfl,rfl,trivial⟩,(.o (.all .here (.o .nil)))⟩⟩
   ·exact Z08 _ rfl<|⟨a2,h,⟨⟨rfl,rfl,trivial⟩,(.o (.one (.app .here) .nil))⟩⟩
 ·rintro t m ⟨a1,h,hF⟩
  refine Zi hF ?_
  clear hF
  subst q1
  refine Z0<|Z1<|Za (Zu fun b3 u3=>Z2<|Z0<|Z0<|Z1<|Z7 rfl<|Z2<|jH h fun k3 q3 h=>Zo (G:=fun t m=>∃ (a3:LI),k3 a3=some r/\Fit [(2,pt' b1),(6,pt' b3)] (ck b3 148 [b6' a3]::(ck b2 230 [u8' a1]::(ck b1 148 [b6' (replicate 64 0)] :: []))) t m) ?_ ?_)
  ·refine Zb<|Zz (fun n2 t m=>∃ (i2:Int) (a4:LI),Zfi a1 k3 n2 i2 a4=some r/\Fit [(2,pt' b1),(4,pt' b2),(6,pt' b3),(7,.int .i64 (i2))] (ck b3 148 [b6' a4]::(ck b2 230 [u8' a1]::(ck b1 148 [b6' (replicate 64 0)] :: []))) t m) big ?_ ?_
   ·exact ⟨0,(replicate 64 0),h,⟨⟨rfl,rfl,rfl,rfl,trivial⟩,(.o (.o (.o .nil)))⟩⟩
   ·rintro n2 t m ⟨i2,a4,h,hF⟩
    refine Zi hF ?_
    clear hF
    rcases n2 with _ | n2
    · exact Z0s h
    have h:Zpa a1 k3 (Zfi a1 k3 n2) i2 a4=some r:=h
    unfold Zpa at h
    obtain ⟨k4,q4⟩ : ∃ k,k=Zfi a1 k3 n2:=⟨_,rfl⟩
    try rw [<- q4] at h
    refine Z0<|Z0<|Z1<|Z7 rfl<|j_c rfl<|Z2<|Z0k h rfl (fun h=>?_) (fun h=>?_)
    ·refine Zp<|Z0<|Zb<|Z0<|cH h fun c4 h=>bH h fun z4 e4 h=>oH h fun y3 f3 h=>Z1<|Z7 rfl<|Z44 rfl rfl (Z0q c4)<|Zq _ (iz e4 (Z32 (base:=0) rfl .t1 rfl (Z0g c4)))<|Za (Zg rfl (fun w hw=>Zi1  f3 ) fun v531 Msv2 R2=>?_)
     obtain ⟨_,w4,rfl,rfl,O4⟩:=R2
     refine Z7 rfl<|Z2<|Z0<|Z1<|Z7 rfl<|Z2<|jH h fun k5 q5 h=>Zo (G:=fun t m=>∃ (a5:LI),k5 a5=some r/\Fit [(2,pt' b1),(4,pt' b2),(6,pt' b3),(7,.int .i64 (i2))] (ck b3 148 [b6' a5]::(ck b2 230 [u8' a1]::(ck b1 148 [b6' (replicate 64 0)] :: []))) t m) ?_ ?_
     ·refine Zb<|Zz (fun n3 t m=>∃ (i3:Int) (a6:LI),Zi0 i2 y3 k5 n3 i3 a6=some r/\Fit [(2,pt' b1),(4,pt' b2),(6,pt' b3),(7,.int .i64 (i2)),(8,v531),(9,.int .i64 (i3))] (w4++(ck b3 148 [b6' a6]::(ck b2 230 [u8' a1]::(ck b1 148 [b6' (replicate 64 0)] :: [])))) t m) big ?_ ?_
      ·exact ⟨0,a4,h,⟨⟨rfl,rfl,rfl,rfl,rfl,rfl,trivial⟩,(.all .here (.o (.o (.o .nil))))⟩⟩
      ·rintro n3 t m ⟨i3,a6,h,hF⟩
       refine Zi hF ?_
       clear hF
       rcases n3 with _ | n3
       · exact Z0s h
       have h:Zpb i2 y3 k5 (Zi0 i2 y3 k5 n3) i3 a6=some r:=h
       unfold Zpb at h
       obtain ⟨k6,q6⟩ : ∃ k,k=Zi0 i2 y3 k5 n3:=⟨_,rfl⟩
       try rw [<- q6] at h
       refine Z0<|Z0<|Z1<|Z7 rfl<|j_c rfl<|Z2<|Z0k h rfl (fun h=>?_) (fun h=>?_)
       ·refine Zp<|Z0<|Zb<|bH h fun z5 e5 h=>bH h fun z6 e6 h=>cH h fun c5 h=>bH h fun z7 e7 h=>cH h fun c6 h=>bH h fun l3 g3 h=>Z1<|Z7 rfl<|j_b e5 rfl<|Z7 rfl<|j_b e6 rfl<|Z7 rfl<|Z7 rfl<|Zq _ (Z48 rfl rfl (Shp.own O4) c5)<|Zq _ (iz e7 (Z4y (E:=(El.int .u8)) (s:=[.one (.int .u8 (y3.getD (i3).toNat 0))]) rfl (Z0l O4 .here) (Z0g c5) rfl rfl))<|Z44 rfl rfl (Z0q c6)<|Za (Z1z (q:=[b6' l3]) (base:=0) g3 rfl rfl rfl (Z0g c6) rfl (.app .here)<|Z2<|bH h fun z8 e8 h=>Z1<|Z7 rfl<|j_b e8 rfl<|Z7 rfl<|Z2 ?_)
        rw [q6] at h
        exact ⟨n3,Nat.lt_succ_self _,z8,l3,h,⟨⟨rfl,rfl,rfl,rfl,rfl,rfl,trivial⟩,(.all .here (.o (.o (.o .nil))))⟩⟩
       ·exact Z08 _ rfl<|⟨a6,h,⟨⟨rfl,rfl,rfl,rfl,trivial⟩,(.one (.app .here) (.one (.app .here) (.one (.app .here) .nil)))⟩⟩
     ·rintro t m ⟨a5,h,hF⟩
      refine Zi hF ?_
      clear hF
      subst q5
      refine bH h fun z9 e9 h=>Z1<|Z7 rfl<|j_b e9 rfl<|Z7 rfl<|Z2 ?_
      rw [q4] at h
      exact ⟨n2,Nat.lt_succ_self _,z9,a5,h,⟨⟨rfl,rfl,rfl,rfl,trivial⟩,(.o (.o (.o .nil)))⟩⟩
    ·exact Z08 _ rfl<|⟨a4,h,⟨⟨rfl,rfl,trivial⟩,(.o (.o (.o .nil)))⟩⟩
  ·rintro t m ⟨a3,h,hF⟩
   refine Zi hF ?_
   clear hF
   subst q3
   refine Z0<|Z1<|Z0z (p:=[b6' a3]) rfl .here rfl<|Za (Zm (q:=[b6' a3]) rfl rfl rfl rfl rfl .t2<|Z2<|Zf ?_)
   cases h
   exact ⟨_,(.cons (.agg rfl .t2 rfl) .nil),rfl⟩
def Zdn (p0:LI) (p1:LI) (p2:LI):OL :=
 chk (decide ((([]:LI).length+p0.length)*1<=140737488355328)) <|
 bnd (([]:LI)++p0) fun l1 =>
 chk (decide ((l1.length+p1.length)*1<=140737488355328)) <|
 bnd (l1++p1) fun l2 =>
 chk (decide ((l2.length+p2.length)*1<=140737488355328)) <|
 bnd (l2++p2) fun l3 =>
 some l3
theorem Zew {W:World} {r:(LI)} {p0:LI} {p1:LI} {p2:LI} {v0:Value} {v1:Value} {v2:Value} (h:Zdn p0 p1 p2=some r) (A0:Z6r (El.int .u8) W v0 p0) (A1:Z6r (El.int .u8) W v1 p1) (A2:Z6r (El.int .u8) W v2 p2) :
    Calls Tryz.prog 97 [v0,v1,v2].toArray W (Z67 W [] (fun v Ms=>∃ (u0:Value) (M1:List Zd),v=u0/\Ms = [.all M1]/\Z0c (El.int .u8) u0 M1 r)):=by
 unfold Zdn at h
 refine Zj mo ok97 rfl (Zbz _) ?_
 refine Z0<|Z1<|Z7 rfl<|Z2<|Z0<|Z1<|Z7 rfl<|Z2<|Z0<|cH h fun c1 h=>bH h fun l1 g1 h=>Z1<|Z7 rfl<|Z7 rfl<|Za (Z3i (E:=(El.int .u8)) g1 rfl Z3y .here rfl (Z1n A0 Z20) c1 fun v6 w1 O1=>Z7 rfl<|Z2<|Z0<|cH h fun c2 h=>bH h fun l2 g2 h=>Z1<|Z7 rfl<|Z7 rfl<|Za (Z3i (E:=(El.int .u8)) g2 rfl O1 .here rfl (Z1n A1 Z20) c2 fun v12 w2 O2=>Z7 rfl<|Z2<|Z0<|cH h fun c3 h=>bH h fun l3 g3 h=>Z1<|Z7 rfl<|Z7 rfl<|Za (Z3i (E:=(El.int .u8)) g3 rfl O2 .here rfl (Z1n A2 Z20) c3 fun v18 w3 O3=>Z7 rfl<|Z2<|Z0<|Z1<|Z7 rfl<|Z7 rfl<|Z2<|Zf ?_)))
 cases h
 exact ⟨_,_,(.cons (.tmp rfl) .nil),(.all .here .nil),⟨_,rfl,⟨v18,w3,rfl,rfl,O3⟩⟩⟩
def Z8k (p1:LI) (k1:(LI)->OL) (k2:Int->Int->(LI)->OL) (i1:Int) (i2:Int) (a1:LI):OL :=
 br ((decide (i2<10))) (
 chk (inB i2 10) <|
 chk (inB i2 10) <|
 bnd (a1.getD (i2).toNat 0) fun z1 =>
 bnd (wrap .u64 (z1+67108863)) fun z2 =>
 bnd (wrap .u64 (z2+1)) fun z3 =>
 bnd (p1.getD (i2).toNat 0) fun z4 =>
 bnd (wrap .u64 (z3-z4)) fun z5 =>
 bnd (wrap .u64 (z5-i1)) fun z6 =>
 bnd (Zx .u64 z6 26) fun z7 =>
 bnd (wrap .u64 (1-z7)) fun z8 =>
 bnd (Z4 .and .u64 z6 67108863) fun z9 =>
 chk (inB i2 10) <|
 bnd (Z2g a1 (i2).toNat z9) fun l1 =>
 bnd (wrap .i64 (i2+1)) fun z10 =>
 k2 z8 z10 l1
 ) (
 k1 a1
 )
def Z4p (p1:LI) (k1:(LI)->OL):Nat->Int->Int->(LI)->OL
  | 0,_,_,_=>none
  | n+1,i1,i2,a1=>Z8k p1 k1 (Z4p p1 k1 n) i1 i2 a1
def Z8x (p0:LI) (p1:LI):OL :=
 jn (fun (a1:LI)=>some a1) fun k1=>Z4p p1 k1 big 0 0 p0
theorem Zh5 {W:World} {r:(LI)} {p0:LI} {p1:LI} (h:Z8x p0 p1=some r)  :
    Calls Tryz.prog 275 [agg [uA' p0],agg [uA' p1]].toArray W (Z1w W (agg [uA' r])):=by
 unfold Z8x at h
 refine Z9 mo Z0vr rfl ?_
 refine Z0<|Z1<|Za (Z02 (s:=[uA' p0]) rfl fun b1 u1=>Za (Z02 (s:=[uA' p1]) rfl fun b2 u2=>Za (Zu fun b3 u3=>Z2<|Z0<|Z1<|Z7 rfl<|Z2<|Z0<|Z0<|Z1<|Z7 rfl<|Z2<|jH h fun k1 q1 h=>Zo (G:=fun t m=>∃ (a1:LI),k1 a1=some r/\Fit [(2,pt' b1),(4,pt' b3)] (ck b3 152 [uA' (replicate 10 0)]::(ck b2 152 [uA' p1]::(ck b1 152 [uA' a1] :: []))) t m) ?_ ?_)))
 ·refine Zb<|Zz (fun n1 t m=>∃ (i1:Int) (i2:Int) (a2:LI),Z4p p1 k1 n1 i1 i2 a2=some r/\Fit [(2,pt' b1),(3,pt' b2),(4,pt' b3),(5,.int .u64 (i1)),(6,.int .i64 (i2))] (ck b3 152 [uA' (replicate 10 0)]::(ck b2 152 [uA' p1]::(ck b1 152 [uA' a2] :: []))) t m) big ?_ ?_
  ·exact ⟨0,0,p0,h,⟨⟨rfl,rfl,rfl,rfl,rfl,trivial⟩,(.o (.o (.o .nil)))⟩⟩
  ·rintro n1 t m ⟨i1,i2,a2,h,hF⟩
   refine Zi hF ?_
   clear hF
   rcases n1 with _ | n1
   · exact Z0s h
   have h:Z8k p1 k1 (Z4p p1 k1 n1) i1 i2 a2=some r:=h
   unfold Z8k at h
   obtain ⟨k2,q2⟩ : ∃ k,k=Z4p p1 k1 n1:=⟨_,rfl⟩
   try rw [<- q2] at h
   refine Z0<|Z0<|Z1<|Z7 rfl<|j_c rfl<|Z2<|Z0k h rfl (fun h=>?_) (fun h=>?_)
   ·refine Zp<|Z0<|Zb<|Z0<|cH h fun c1 h=>cH h fun c2 h=>bH h fun z1 e1 h=>bH h fun z2 e2 h=>bH h fun z3 e3 h=>bH h fun z4 e4 h=>bH h fun z5 e5 h=>bH h fun z6 e6 h=>Zv<|k_m rfl<|Z6v rfl rfl (Z0q c1)<|k_m rfl<|Z6v rfl rfl (Z0q c2)<|k_m rfl<|Z0v _ (iz e1 (Z32 (base:=0) rfl .t2 rfl (Z0g c1)))<|k_b e2 rfl<|k_b e3 rfl<|Z0v _ (iz e4 (Z32 (base:=0) rfl .t1 rfl (Z0g c2)))<|k_b e5 rfl<|k_b e6 rfl<|k_m rfl<|Z03<|Z0<|bH h fun z7 e7 h=>bH h fun z8 e8 h=>Z1<|Z7 rfl<|Zq _ (iz e7 (Z61 rfl rfl (by decide)))<|j_b e8 rfl<|Z7 rfl<|Z2<|bH h fun z9 e9 h=>cH h fun c3 h=>bH h fun l1 g1 h=>Z1<|Z7 rfl<|Z7 rfl<|j_b e9 rfl<|Z44 rfl rfl (Z0q c3)<|Za (Z1z (q:=[uA' l1]) (base:=0) g1 rfl rfl rfl (Z0g c3) rfl .t2<|Z2<|bH h fun z10 e10 h=>Z1<|Z7 rfl<|j_b e10 rfl<|Z7 rfl<|Z2 ?_)
    rw [q2] at h
    exact ⟨n1,Nat.lt_succ_self _,z8,z10,l1,h,⟨⟨rfl,rfl,rfl,rfl,rfl,trivial⟩,(.o (.o (.o .nil)))⟩⟩
   ·exact Z08 _ rfl<|⟨a2,h,⟨⟨rfl,rfl,trivial⟩,(.o (.o (.o .nil)))⟩⟩
 ·rintro t m ⟨a1,h,hF⟩
  refine Zi hF ?_
  clear hF
  subst q1
  refine Z0<|Z1<|Z0z (p:=[uA' a1]) rfl .t2 rfl<|Za (Zm (q:=[uA' a1]) rfl rfl rfl rfl rfl .here<|Z2<|Zf ?_)
  cases h
  exact ⟨_,(.cons (.agg rfl .here rfl) .nil),rfl⟩
def Zgm:OL :=
 bnd (([67108845,67108863,67108863,67108863,67108863,67108863,67108863,67108863,67108863,2097151]:LI)) fun z1 =>
 some z1
theorem Zla {W:World} {r:(LI)} (h:Zgm=some r)  :
    Calls Tryz.prog 276 [].toArray W (Z1w W (agg [uA' r])):=by
 unfold Zgm at h
 refine Z9 mo Z0vs rfl ?_
 refine Z0<|Z1<|Za (Zu fun b1 u1=>Z2<|Z0<|bH h fun z1 e1 h=>Z1<|Zq _ (az (fun z=>agg [.ints .u64 10 z]) e1 (Zex (.one rfl rfl rfl (.one rfl rfl rfl (.one rfl rfl rfl (.one rfl rfl rfl (.one rfl rfl rfl (.one rfl rfl rfl (.one rfl rfl rfl (.one rfl rfl rfl (.one rfl rfl rfl (.one rfl rfl rfl BdR.nil))))))))))))<|Za (Zm (q:=[uA' z1]) rfl rfl rfl rfl rfl .here<|Z2<|Zf ?_))
 cases h
 exact ⟨_,(.cons (.agg rfl .here rfl) .nil),rfl⟩
def Z9r (k1:(LI)->OL) (k2:Int->(LI)->OL) (i1:Int) (a1:LI):OL :=
 br ((decide (i1<9))) (
 bnd (wrap .i64 (i1+1)) fun z1 =>
 bnd (wrap .i64 (i1+1)) fun z2 =>
 chk (inB z2 10) <|
 chk (inB i1 10) <|
 bnd (a1.getD (z2).toNat 0) fun z3 =>
 bnd (a1.getD (i1).toNat 0) fun z4 =>
 bnd (Zx .u64 z4 26) fun z5 =>
 bnd (wrap .u64 (z3+z5)) fun z6 =>
 chk (inB z1 10) <|
 bnd (Z2g a1 (z1).toNat z6) fun l1 =>
 chk (inB i1 10) <|
 bnd (l1.getD (i1).toNat 0) fun z7 =>
 bnd (Z4 .and .u64 z7 67108863) fun z8 =>
 chk (inB i1 10) <|
 bnd (Z2g l1 (i1).toNat z8) fun l2 =>
 bnd (wrap .i64 (i1+1)) fun z9 =>
 k2 z9 l2
 ) (
 k1 a1
 )
def Z5g (k1:(LI)->OL):Nat->Int->(LI)->OL
  | 0,_,_=>none
  | n+1,i1,a1=>Z9r k1 (Z5g k1 n) i1 a1
def Zcm (p0:LI):OL :=
 jn (fun (a1:LI)=>some a1) fun k1=>Z5g k1 big 0 p0
theorem Zi5 {W:World} {r:(LI)} {p0:LI} (h:Zcm p0=some r)  :
    Calls Tryz.prog 398 [agg [uA' p0]].toArray W (Z1w W (agg [uA' r])):=by
 unfold Zcm at h
 refine Z9 mo Z0y3 rfl ?_
 refine Z0<|Z1<|Za (Z02 (s:=[uA' p0]) rfl fun b1 u1=>Za (Zu fun b2 u2=>Z2<|Z0<|Z0<|Z1<|Z7 rfl<|Z2<|jH h fun k1 q1 h=>Zo (G:=fun t m=>∃ (a1:LI),k1 a1=some r/\Fit [(1,pt' b1),(2,pt' b2)] (ck b2 152 [uA' (replicate 10 0)]::(ck b1 152 [uA' a1] :: [])) t m) ?_ ?_))
 ·refine Zb<|Zz (fun n1 t m=>∃ (i1:Int) (a2:LI),Z5g k1 n1 i1 a2=some r/\Fit [(1,pt' b1),(2,pt' b2),(3,.int .i64 (i1))] (ck b2 152 [uA' (replicate 10 0)]::(ck b1 152 [uA' a2] :: [])) t m) big ?_ ?_
  ·exact ⟨0,p0,h,⟨⟨rfl,rfl,rfl,trivial⟩,(.o (.o .nil))⟩⟩
  ·rintro n1 t m ⟨i1,a2,h,hF⟩
   refine Zi hF ?_
   clear hF
   rcases n1 with _ | n1
   · exact Z0s h
   have h:Z9r k1 (Z5g k1 n1) i1 a2=some r:=h
   unfold Z9r at h
   obtain ⟨k2,q2⟩ : ∃ k,k=Z5g k1 n1:=⟨_,rfl⟩
   try rw [<- q2] at h
   refine Z0<|Z0<|Z1<|Z7 rfl<|j_c rfl<|Z2<|Z0k h rfl (fun h=>?_) (fun h=>?_)
   ·refine Zp<|Z0<|Zb<|Z0<|bH h fun z1 e1 h=>bH h fun z2 e2 h=>cH h fun c1 h=>cH h fun c2 h=>bH h fun z3 e3 h=>bH h fun z4 e4 h=>bH h fun z5 e5 h=>bH h fun z6 e6 h=>cH h fun c3 h=>bH h fun l1 g1 h=>Zv<|k_m rfl<|k_b e1 rfl<|k_m rfl<|k_b e2 rfl<|Z6v rfl rfl (Z0q c1)<|k_m rfl<|Z6v rfl rfl (Z0q c2)<|Z0v _ (iz e3 (Z32 (base:=0) rfl .t1 rfl (Z0g c1)))<|Z0v _ (iz e4 (Z32 (base:=0) rfl .t1 rfl (Z0g c2)))<|Z0x _ (iz e5 (Z61 rfl rfl (by decide)))<|k_b e6 rfl<|Z6v rfl rfl (Z0q c3)<|Z16 rfl (Z1z (q:=[uA' l1]) (base:=0) g1 rfl rfl rfl (Z0g c3) rfl .t1<|Z03<|cH h fun c4 h=>bH h fun z7 e7 h=>bH h fun z8 e8 h=>cH h fun c5 h=>bH h fun l2 g2 h=>Z1<|Z7 rfl<|Z7 rfl<|Z44 rfl rfl (Z0q c4)<|Zq _ (iz e7 (Z32 (base:=0) rfl .t1 rfl (Z0g c4)))<|j_b e8 rfl<|Z44 rfl rfl (Z0q c5)<|Za (Z1z (q:=[uA' l2]) (base:=0) g2 rfl rfl rfl (Z0g c5) rfl .t1<|Z2<|bH h fun z9 e9 h=>Z1<|Z7 rfl<|j_b e9 rfl<|Z7 rfl<|Z2 ?_))
    rw [q2] at h
    exact ⟨n1,Nat.lt_succ_self _,z9,l2,h,⟨⟨rfl,rfl,rfl,trivial⟩,(.o (.o .nil))⟩⟩
   ·exact Z08 _ rfl<|⟨a2,h,⟨⟨rfl,rfl,trivial⟩,(.o (.o .nil))⟩⟩
 ·rintro t m ⟨a1,h,hF⟩
  refine Zi hF ?_
  clear hF
  subst q1
  refine Z0<|Z1<|Z0z (p:=[uA' a1]) rfl .t1 rfl<|Za (Zm (q:=[uA' a1]) rfl rfl rfl rfl rfl .here<|Z2<|Zf ?_)
  cases h
  exact ⟨_,(.cons (.agg rfl .here rfl) .nil),rfl⟩
def Zdj (p0:LI) (p1:LI) (k1:Unit->Option Bool) (k2:Int->Option Bool) (i1:Int):Option Bool :=
 br ((decide (i1≥0))) (
 chk (inB i1 10) <|
 chk (inB i1 10) <|
 bnd (p0.getD (i1).toNat 0) fun z1 =>
 bnd (p1.getD (i1).toNat 0) fun z2 =>
 br ((z1 != z2)) (
 chk (inB i1 10) <|
 chk (inB i1 10) <|
 bnd (p0.getD (i1).toNat 0) fun z3 =>
 bnd (p1.getD (i1).toNat 0) fun z4 =>
 some (decide (z3<z4))
 ) (
 bnd (wrap .i64 (i1-1)) fun z5 =>
 k2 z5
 )
 ) (
 k1 ()
 )
def Z7j (p0:LI) (p1:LI) (k1:Unit->Option Bool):Nat->Int->Option Bool
  | 0,_=>none
  | n+1,i1=>Zdj p0 p1 k1 (Z7j p0 p1 k1 n) i1
def Zja (p0:LI) (p1:LI):Option Bool :=
 jn (fun (_:Unit)=>some false) fun k1=>Z7j p0 p1 k1 big 9
theorem Zsv {W:World} {r:Bool} {p0:LI} {p1:LI} (h:Zja p0 p1=some r)  :
    Calls Tryz.prog 399 [agg [uA' p0],agg [uA' p1]].toArray W (Z1w W (.bool (r))):=by
 unfold Zja at h
 refine Z9 mo Z0y4 rfl ?_
 refine Z0<|Z1<|Za (Z02 (s:=[uA' p0]) rfl fun b1 u1=>Za (Z02 (s:=[uA' p1]) rfl fun b2 u2=>Z7 rfl<|Z2<|Z0<|Z0<|Z1<|Z7 rfl<|Z2<|jH h fun k1 q1 h=>Zo (G:=fun t m=>k1 ()=some r/\Fit [] (ck b2 152 [uA' p1]::(ck b1 152 [uA' p0] :: [])) t m) ?_ ?_))
 ·refine Zb<|Zz (fun n1 t m=>∃ (i1:Int),Z7j p0 p1 k1 n1 i1=some r/\Fit [(2,pt' b1),(3,pt' b2),(5,.int .i64 (i1))] (ck b2 152 [uA' p1]::(ck b1 152 [uA' p0] :: [])) t m) big ?_ ?_
  ·exact ⟨9,h,⟨⟨rfl,rfl,rfl,trivial⟩,(.o (.o .nil))⟩⟩
  ·rintro n1 t m ⟨i1,h,hF⟩
   refine Zi hF ?_
   clear hF
   rcases n1 with _ | n1
   · exact Z0s h
   have h:Zdj p0 p1 k1 (Z7j p0 p1 k1 n1) i1=some r:=h
   unfold Zdj at h
   obtain ⟨k2,q2⟩ : ∃ k,k=Z7j p0 p1 k1 n1:=⟨_,rfl⟩
   try rw [<- q2] at h
   refine Z0<|Z0<|Z1<|Z7 rfl<|j_c rfl<|Z2<|Z0k h rfl (fun h=>?_) (fun h=>?_)
   ·refine Zp<|Z0<|Zb<|Z0<|cH h fun c1 h=>cH h fun c2 h=>bH h fun z1 e1 h=>bH h fun z2 e2 h=>Zv<|k_m rfl<|Z6v rfl rfl (Z0q c1)<|k_m rfl<|Z6v rfl rfl (Z0q c2)<|Z0v _ (iz e1 (Z32 (base:=0) rfl .t1 rfl (Z0g c1)))<|Z0v _ (iz e2 (Z32 (base:=0) rfl .here rfl (Z0g c2)))<|Z0x _ (Zbk rfl rfl rfl)<|Z03<|Z0k h rfl (fun h=>?_) (fun h=>?_)
    ·refine Z0<|cH h fun c3 h=>cH h fun c4 h=>bH h fun z3 e3 h=>bH h fun z4 e4 h=>Zv<|k_m rfl<|Z6v rfl rfl (Z0q c3)<|k_m rfl<|Z6v rfl rfl (Z0q c4)<|Z0v _ (iz e3 (Z32 (base:=0) rfl .t1 rfl (Z0g c3)))<|Z0v _ (iz e4 (Z32 (base:=0) rfl .here rfl (Z0g c4)))<|Z0x _ (Zbk rfl rfl rfl)<|k_m rfl<|Z03<|Zf ?_
     cases h
     exact ⟨_,(.cons (.tmp rfl) .nil),rfl⟩
    ·refine Zp<|bH h fun z5 e5 h=>Z1<|Z7 rfl<|j_b e5 rfl<|Z7 rfl<|Z2 ?_
     rw [q2] at h
     exact ⟨n1,Nat.lt_succ_self _,z5,h,⟨⟨rfl,rfl,rfl,trivial⟩,(.o (.o .nil))⟩⟩
   ·exact Z08 _ rfl<|⟨h,⟨trivial,(.o (.o .nil))⟩⟩
 ·rintro t m ⟨h,hF⟩
  refine Zi hF ?_
  clear hF
  subst q1
  refine Z0<|Z1<|Z7 rfl<|Z2<|Zf ?_
  cases h
  exact ⟨_,(.cons (.tmp rfl) .nil),rfl⟩
def Zdh (k1:(LI)->OL) (k2:(LI)->OL) (a1:LI):OL :=
 bnd (a1.getD 9 0) fun z1 =>
 br ((decide (z1>2097151))) (
 bnd (a1.getD 0 0) fun z2 =>
 bnd (a1.getD 9 0) fun z3 =>
 bnd (Zx .u64 z3 21) fun z4 =>
 bnd (wrap .u64 (19*z4)) fun z5 =>
 bnd (wrap .u64 (z2+z5)) fun z6 =>
 bnd (Z2g a1 0 z6) fun l1 =>
 bnd (l1.getD 9 0) fun z7 =>
 bnd (Z4 .and .u64 z7 2097151) fun z8 =>
 bnd (Z2g l1 9 z8) fun l2 =>
 opt (Zcm l2) fun y1 =>
 k2 y1
 ) (
 k1 a1
 )
def Z4x (k1:(LI)->OL):Nat->(LI)->OL
  | 0,_=>none
  | n+1,a1=>Zdh k1 (Z4x k1 n) a1
def Z9o (p0:LI):OL :=
 opt (Zcm p0) fun y1 =>
 jn (fun (a1:LI)=>opt (Zgm) fun y2 =>
 opt (Zja a1 y2) fun y3 =>
 jn (fun (a2:LI)=>some a2) fun k1=>br ((!y3)) (
 opt (Z8x a1 y2) fun y4 =>
 k1 y4
 ) (
 k1 a1
 )) fun k2=>Z4x k2 big y1
theorem Zcd {W:World} {r:(LI)} {p0:LI} (h:Z9o p0=some r)  :
    Calls Tryz.prog 269 [agg [uA' p0]].toArray W (Z1w W (agg [uA' r])):=by
 unfold Z9o at h
 refine Z9 mo Z0vl rfl ?_
 refine Z0<|Z1<|Za (Z02 (s:=[uA' p0]) rfl fun b1 u1=>Za (Zu fun b2 u2=>Z2<|Z0<|oH h fun y1 f1 h=>Z1<|Z0z (p:=[uA' p0]) rfl .t1 rfl<|Z2o rfl (Zi5 f1)<|Za (Zm (q:=[uA' y1]) rfl rfl rfl rfl rfl .t1<|Z2<|Z0<|jH h fun k1 q1 h=>Zo (G:=fun t m=>∃ (a1:LI),k1 a1=some r/\Fit [(1,pt' b1),(2,pt' b2)] (ck b2 152 [uA' (replicate 10 0)]::(ck b1 152 [uA' a1] :: [])) t m) ?_ ?_)))
 ·refine Zb<|Zz (fun n1 t m=>∃ (a2:LI),Z4x k1 n1 a2=some r/\Fit [(1,pt' b1),(2,pt' b2)] (ck b2 152 [uA' (replicate 10 0)]::(ck b1 152 [uA' a2] :: [])) t m) big ?_ ?_
  ·exact ⟨y1,h,⟨⟨rfl,rfl,trivial⟩,(.o (.o .nil))⟩⟩
  ·rintro n1 t m ⟨a2,h,hF⟩
   refine Zi hF ?_
   clear hF
   rcases n1 with _ | n1
   · exact Z0s h
   have h:Zdh k1 (Z4x k1 n1) a2=some r:=h
   unfold Zdh at h
   obtain ⟨k2,q2⟩ : ∃ k,k=Z4x k1 n1:=⟨_,rfl⟩
   try rw [<- q2] at h
   refine Z0<|Z0<|bH h fun z1 e1 h=>Z1<|Z44 rfl rfl (by decide)<|j_i e1 rfl .t1 rfl<|j_c rfl<|Z2<|Z0k h rfl (fun h=>?_) (fun h=>?_)
   ·refine Zp<|Zb<|Z0<|bH h fun z2 e2 h=>bH h fun z3 e3 h=>bH h fun z4 e4 h=>bH h fun z5 e5 h=>bH h fun z6 e6 h=>bH h fun l1 g1 h=>Z1<|Z44 rfl rfl (by decide)<|j_i e2 rfl .t1 rfl<|Z44 rfl rfl (by decide)<|j_i e3 rfl .t1 rfl<|Zq _ (iz e4 (Z61 rfl rfl (by decide)))<|j_b e5 rfl<|j_b e6 rfl<|Z44 rfl rfl (by decide)<|Za (Z7a (q:=[uA' l1]) (congrArg (fun z=>([uA' z]:List Seg)) g1.symm) rfl rfl rfl rfl .t1<|Z2<|Z0<|bH h fun z7 e7 h=>bH h fun z8 e8 h=>bH h fun l2 g2 h=>Z1<|Z44 rfl rfl (by decide)<|j_i e7 rfl .t1 rfl<|j_b e8 rfl<|Z44 rfl rfl (by decide)<|Za (Z7a (q:=[uA' l2]) (congrArg (fun z=>([uA' z]:List Seg)) g2.symm) rfl rfl rfl rfl .t1<|Z2<|oH h fun y2 f2 h=>Z1<|Z0z (p:=[uA' l2]) rfl .t1 rfl<|Z2o rfl (Zi5 f2)<|Za (Zm (q:=[uA' y2]) rfl rfl rfl rfl rfl .t1<|Z2 ?_)))
    rw [q2] at h
    exact ⟨n1,Nat.lt_succ_self _,y2,h,⟨⟨rfl,rfl,trivial⟩,(.o (.o .nil))⟩⟩
   ·exact Z08 _ rfl<|⟨a2,h,⟨⟨rfl,rfl,trivial⟩,(.o (.o .nil))⟩⟩
 ·rintro t m ⟨a1,h,hF⟩
  refine Zi hF ?_
  clear hF
  subst q1
  refine Z0<|oH h fun y3 f3 h=>Z1<|Z2o rfl (Zla f3)<|Za (Zu fun b3 u3=>Za (Zm (q:=[uA' y3]) rfl rfl rfl rfl rfl .here<|Z2<|Z0<|Z0<|oH h fun y4 f4 h=>Z1<|Z0z (p:=[uA' a1]) rfl .t2 rfl<|Z0z (p:=[uA' y3]) rfl .here rfl<|Z2o rfl (Zsv f4)<|Zq _ (Zuu rfl rfl)<|Z2<|jH h fun k3 q3 h=>Zo (G:=fun t m=>∃ (a3:LI),k3 a3=some r/\Fit [(1,pt' b1),(2,pt' b2)] (ck b3 152 [uA' y3]::(ck b2 152 [uA' (replicate 10 0)]::(ck b1 152 [uA' a3] :: []))) t m) ?_ ?_))
  ·refine Z0k h rfl (fun h=>?_) (fun h=>?_)
   ·exact oH h fun y5 f5 h=>Z1<|Z0z (p:=[uA' a1]) rfl .t2 rfl<|Z0z (p:=[uA' y3]) rfl .here rfl<|Z2o rfl (Zh5 f5)<|Za (Zm (q:=[uA' y5]) rfl rfl rfl rfl rfl .t2<|Z2<|⟨y5,h,⟨⟨rfl,rfl,trivial⟩,(.o (.o (.o .nil)))⟩⟩)
   ·exact Zp<|⟨a1,h,⟨⟨rfl,rfl,trivial⟩,(.o (.o (.o .nil)))⟩⟩
  ·rintro t m ⟨a3,h,hF⟩
   refine Zi hF ?_
   clear hF
   subst q3
   refine Z0<|Z1<|Z0z (p:=[uA' a3]) rfl .t2 rfl<|Za (Zm (q:=[uA' a3]) rfl rfl rfl rfl rfl .t1<|Z2<|Zf ?_)
   cases h
   exact ⟨_,(.cons (.agg rfl .t1 rfl) .nil),rfl⟩
def Zi3 (p0:LI) (p1:LI) (i1:Int) (k1:(LI)->OL) (k2:Int->(LI)->OL) (i2:Int) (a1:LI):OL :=
 br ((decide (i2<10))) (
 bnd (wrap .i64 (i1+i2)) fun z1 =>
 bnd (wrap .i64 (i1+i2)) fun z2 =>
 chk (inB z2 20) <|
 chk (inB i1 10) <|
 chk (inB i2 10) <|
 bnd (a1.getD (z2).toNat 0) fun z3 =>
 bnd (p0.getD (i1).toNat 0) fun z4 =>
 bnd (p1.getD (i2).toNat 0) fun z5 =>
 bnd (wrap .u64 (z4*z5)) fun z6 =>
 bnd (wrap .u64 (z3+z6)) fun z7 =>
 chk (inB z1 20) <|
 bnd (Z2g a1 (z1).toNat z7) fun l1 =>
 bnd (wrap .i64 (i2+1)) fun z8 =>
 k2 z8 l1
 ) (
 k1 a1
 )
def Zbd (p0:LI) (p1:LI) (i1:Int) (k1:(LI)->OL):Nat->Int->(LI)->OL
  | 0,_,_=>none
  | n+1,i2,a1=>Zi3 p0 p1 i1 k1 (Zbd p0 p1 i1 k1 n) i2 a1
def Zi2 (p0:LI) (p1:LI) (k1:(LI)->OL) (k2:Int->(LI)->OL) (i1:Int) (a1:LI):OL :=
 br ((decide (i1<10))) (
 jn (fun (a2:LI)=>bnd (wrap .i64 (i1+1)) fun z1 =>
 k2 z1 a2) fun k3=>Zbd p0 p1 i1 k3 big 0 a1
 ) (
 k1 a1
 )
def Z9p (p0:LI) (p1:LI) (k1:(LI)->OL):Nat->Int->(LI)->OL
  | 0,_,_=>none
  | n+1,i1,a1=>Zi2 p0 p1 k1 (Z9p p0 p1 k1 n) i1 a1
def Zi4 (k1:(LI)->OL) (k2:Int->(LI)->OL) (i1:Int) (a1:LI):OL :=
 br ((decide (i1<19))) (
 bnd (wrap .i64 (i1+1)) fun z1 =>
 bnd (wrap .i64 (i1+1)) fun z2 =>
 chk (inB z2 20) <|
 chk (inB i1 20) <|
 bnd (a1.getD (z2).toNat 0) fun z3 =>
 bnd (a1.getD (i1).toNat 0) fun z4 =>
 bnd (Zx .u64 z4 26) fun z5 =>
 bnd (wrap .u64 (z3+z5)) fun z6 =>
 chk (inB z1 20) <|
 bnd (Z2g a1 (z1).toNat z6) fun l1 =>
 chk (inB i1 20) <|
 bnd (l1.getD (i1).toNat 0) fun z7 =>
 bnd (Z4 .and .u64 z7 67108863) fun z8 =>
 chk (inB i1 20) <|
 bnd (Z2g l1 (i1).toNat z8) fun l2 =>
 bnd (wrap .i64 (i1+1)) fun z9 =>
 k2 z9 l2
 ) (
 k1 a1
 )
def Z8j (k1:(LI)->OL):Nat->Int->(LI)->OL
  | 0,_,_=>none
  | n+1,i1,a1=>Zi4 k1 (Z8j k1 n) i1 a1
def Zpf (a1:LI) (k1:(LI)->OL) (k2:Int->(LI)->OL) (i1:Int) (a2:LI):OL :=
 br ((decide (i1<10))) (
 chk (inB i1 20) <|
 bnd (wrap .i64 (i1+10)) fun z1 =>
 chk (inB z1 20) <|
 bnd (a1.getD (i1).toNat 0) fun z2 =>
 bnd (a1.getD (z1).toNat 0) fun z3 =>
 bnd (wrap .u64 (608*z3)) fun z4 =>
 bnd (wrap .u64 (z2+z4)) fun z5 =>
 chk (inB i1 10) <|
 bnd (Z2g a2 (i1).toNat z5) fun l1 =>
 bnd (wrap .i64 (i1+1)) fun z6 =>
 k2 z6 l1
 ) (
 k1 a2
 )
def Zbe (a1:LI) (k1:(LI)->OL):Nat->Int->(LI)->OL
  | 0,_,_=>none
  | n+1,i1,a2=>Zpf a1 k1 (Zbe a1 k1 n) i1 a2
def Z24 (p0:LI) (p1:LI):OL :=
 jn (fun (a1:LI)=>jn (fun (a2:LI)=>jn (fun (a3:LI)=>opt (Z9o a3) fun y1 =>
 some y1) fun k1=>Zbe a2 k1 big 0 (replicate 10 0)) fun k2=>Z8j k2 big 0 a1) fun k3=>Z9p p0 p1 k3 big 0 (replicate 20 0)
theorem Z0i {W:World} {r:(LI)} {p0:LI} {p1:LI} (h:Z24 p0 p1=some r)  :
    Calls Tryz.prog 180 [agg [uA' p0],agg [uA' p1]].toArray W (Z1w W (agg [uA' r])):=by
 unfold Z24 at h
 refine Z9 mo Z0u3 rfl ?_
 refine Z0<|Z1<|Za (Z02 (s:=[uA' p0]) rfl fun b1 u1=>Za (Z02 (s:=[uA' p1]) rfl fun b2 u2=>Za (Zu fun b3 u3=>Z2<|Z0<|Z1<|Za (Zu fun b4 u4=>Z2<|Z0<|Z0<|Z1<|Z7 rfl<|Z2<|jH h fun k1 q1 h=>Zo (G:=fun t m=>∃ (a1:LI),k1 a1=some r/\Fit [(4,pt' b3),(5,pt' b4)] (ck b4 348 [.ints .u64 20 (a1)]::(ck b3 152 [uA' (replicate 10 0)]::(ck b2 152 [uA' p1]::(ck b1 152 [uA' p0] :: [])))) t m) ?_ ?_))))
 ·refine Zb<|Zz (fun n1 t m=>∃ (i1:Int) (a2:LI),Z9p p0 p1 k1 n1 i1 a2=some r/\Fit [(2,pt' b1),(3,pt' b2),(4,pt' b3),(5,pt' b4),(6,.int .i64 (i1))] (ck b4 348 [.ints .u64 20 (a2)]::(ck b3 152 [uA' (replicate 10 0)]::(ck b2 152 [uA' p1]::(ck b1 152 [uA' p0] :: [])))) t m) big ?_ ?_
  ·exact ⟨0,(replicate 20 0),h,⟨⟨rfl,rfl,rfl,rfl,rfl,trivial⟩,(.o (.o (.o (.o .nil))))⟩⟩
  ·rintro n1 t m ⟨i1,a2,h,hF⟩
   refine Zi hF ?_
   clear hF
   rcases n1 with _ | n1
   · exact Z0s h
   have h:Zi2 p0 p1 k1 (Z9p p0 p1 k1 n1) i1 a2=some r:=h
   unfold Zi2 at h
   obtain ⟨k2,q2⟩ : ∃ k,k=Z9p p0 p1 k1 n1:=⟨_,rfl⟩
   try rw [<- q2] at h
   refine Z0<|Z0<|Z1<|Z7 rfl<|j_c rfl<|Z2<|Z0k h rfl (fun h=>?_) (fun h=>?_)
   ·refine Zp<|Z0<|Zb<|Z0<|Z1<|Z7 rfl<|Z2<|jH h fun k3 q3 h=>Zo (G:=fun t m=>∃ (a3:LI),k3 a3=some r/\Fit [(2,pt' b1),(3,pt' b2),(4,pt' b3),(5,pt' b4),(6,.int .i64 (i1))] (ck b4 348 [.ints .u64 20 (a3)]::(ck b3 152 [uA' (replicate 10 0)]::(ck b2 152 [uA' p1]::(ck b1 152 [uA' p0] :: [])))) t m) ?_ ?_
    ·refine Zb<|Zz (fun n2 t m=>∃ (i2:Int) (a4:LI),Zbd p0 p1 i1 k3 n2 i2 a4=some r/\Fit [(2,pt' b1),(3,pt' b2),(4,pt' b3),(5,pt' b4),(6,.int .i64 (i1)),(7,.int .i64 (i2))] (ck b4 348 [.ints .u64 20 (a4)]::(ck b3 152 [uA' (replicate 10 0)]::(ck b2 152 [uA' p1]::(ck b1 152 [uA' p0] :: [])))) t m) big ?_ ?_
     ·exact ⟨0,a2,h,⟨⟨rfl,rfl,rfl,rfl,rfl,rfl,trivial⟩,(.o (.o (.o (.o .nil))))⟩⟩
     ·rintro n2 t m ⟨i2,a4,h,hF⟩
      refine Zi hF ?_
      clear hF
      rcases n2 with _ | n2
      · exact Z0s h
      have h:Zi3 p0 p1 i1 k3 (Zbd p0 p1 i1 k3 n2) i2 a4=some r:=h
      unfold Zi3 at h
      obtain ⟨k4,q4⟩ : ∃ k,k=Zbd p0 p1 i1 k3 n2:=⟨_,rfl⟩
      try rw [<- q4] at h
      refine Z0<|Z0<|Z1<|Z7 rfl<|j_c rfl<|Z2<|Z0k h rfl (fun h=>?_) (fun h=>?_)
      ·refine Zp<|Z0<|Zb<|bH h fun z1 e1 h=>bH h fun z2 e2 h=>cH h fun c1 h=>cH h fun c2 h=>cH h fun c3 h=>bH h fun z3 e3 h=>bH h fun z4 e4 h=>bH h fun z5 e5 h=>bH h fun z6 e6 h=>bH h fun z7 e7 h=>cH h fun c4 h=>bH h fun l1 g1 h=>Zv<|k_m rfl<|k_m rfl<|k_b e1 rfl<|k_m rfl<|k_m rfl<|k_b e2 rfl<|Z6v rfl rfl (Z0q c1)<|k_m rfl<|Z6v rfl rfl (Z0q c2)<|k_m rfl<|Z6v rfl rfl (Z0q c3)<|Z0v _ (iz e3 (Z32 (base:=0) rfl .here rfl (Z0g c1)))<|Z0v _ (iz e4 (Z32 (base:=0) rfl .t3 rfl (Z0g c2)))<|Z0v _ (iz e5 (Z32 (base:=0) rfl .t2 rfl (Z0g c3)))<|k_b e6 rfl<|k_b e7 rfl<|Z6v rfl rfl (Z0q c4)<|Z16 rfl (Z1z (q:=[.ints .u64 20 (l1)]) (base:=0) g1 rfl rfl rfl (Z0g c4) rfl .here<|Z03<|bH h fun z8 e8 h=>Z1<|Z7 rfl<|j_b e8 rfl<|Z7 rfl<|Z2 ?_)
       rw [q4] at h
       exact ⟨n2,Nat.lt_succ_self _,z8,l1,h,⟨⟨rfl,rfl,rfl,rfl,rfl,rfl,trivial⟩,(.o (.o (.o (.o .nil))))⟩⟩
      ·exact Z08 _ rfl<|⟨a4,h,⟨⟨rfl,rfl,rfl,rfl,rfl,trivial⟩,(.o (.o (.o (.o .nil))))⟩⟩
    ·rintro t m ⟨a3,h,hF⟩
     refine Zi hF ?_
     clear hF
     subst q3
     refine bH h fun z9 e9 h=>Z1<|Z7 rfl<|j_b e9 rfl<|Z7 rfl<|Z2 ?_
     rw [q2] at h
     exact ⟨n1,Nat.lt_succ_self _,z9,a3,h,⟨⟨rfl,rfl,rfl,rfl,rfl,trivial⟩,(.o (.o (.o (.o .nil))))⟩⟩
   ·exact Z08 _ rfl<|⟨a2,h,⟨⟨rfl,rfl,trivial⟩,(.o (.o (.o (.o .nil))))⟩⟩
 ·rintro t m ⟨a1,h,hF⟩
  refine Zi hF ?_
  clear hF
  subst q1
  refine Z0<|Z0<|Z1<|Z7 rfl<|Z2<|jH h fun k5 q5 h=>Zo (G:=fun t m=>∃ (a5:LI),k5 a5=some r/\Fit [(4,pt' b3),(5,pt' b4)] (ck b4 348 [.ints .u64 20 (a5)]::(ck b3 152 [uA' (replicate 10 0)]::(ck b2 152 [uA' p1]::(ck b1 152 [uA' p0] :: [])))) t m) ?_ ?_
  ·refine Zb<|Zz (fun n3 t m=>∃ (i3:Int) (a6:LI),Z8j k5 n3 i3 a6=some r/\Fit [(4,pt' b3),(5,pt' b4),(8,.int .i64 (i3))] (ck b4 348 [.ints .u64 20 (a6)]::(ck b3 152 [uA' (replicate 10 0)]::(ck b2 152 [uA' p1]::(ck b1 152 [uA' p0] :: [])))) t m) big ?_ ?_
   ·exact ⟨0,a1,h,⟨⟨rfl,rfl,rfl,trivial⟩,(.o (.o (.o (.o .nil))))⟩⟩
   ·rintro n3 t m ⟨i3,a6,h,hF⟩
    refine Zi hF ?_
    clear hF
    rcases n3 with _ | n3
    · exact Z0s h
    have h:Zi4 k5 (Z8j k5 n3) i3 a6=some r:=h
    unfold Zi4 at h
    obtain ⟨k6,q6⟩ : ∃ k,k=Z8j k5 n3:=⟨_,rfl⟩
    try rw [<- q6] at h
    refine Z0<|Z0<|Z1<|Z7 rfl<|j_c rfl<|Z2<|Z0k h rfl (fun h=>?_) (fun h=>?_)
    ·refine Zp<|Z0<|Zb<|Z0<|bH h fun z10 e10 h=>bH h fun z11 e11 h=>cH h fun c5 h=>cH h fun c6 h=>bH h fun z12 e12 h=>bH h fun z13 e13 h=>bH h fun z14 e14 h=>bH h fun z15 e15 h=>cH h fun c7 h=>bH h fun l2 g2 h=>Zv<|k_m rfl<|k_b e10 rfl<|k_m rfl<|k_b e11 rfl<|Z6v rfl rfl (Z0q c5)<|k_m rfl<|Z6v rfl rfl (Z0q c6)<|Z0v _ (iz e12 (Z32 (base:=0) rfl .here rfl (Z0g c5)))<|Z0v _ (iz e13 (Z32 (base:=0) rfl .here rfl (Z0g c6)))<|Z0x _ (iz e14 (Z61 rfl rfl (by decide)))<|k_b e15 rfl<|Z6v rfl rfl (Z0q c7)<|Z16 rfl (Z1z (q:=[.ints .u64 20 (l2)]) (base:=0) g2 rfl rfl rfl (Z0g c7) rfl .here<|Z03<|cH h fun c8 h=>bH h fun z16 e16 h=>bH h fun z17 e17 h=>cH h fun c9 h=>bH h fun l3 g3 h=>Z1<|Z7 rfl<|Z7 rfl<|Z44 rfl rfl (Z0q c8)<|Zq _ (iz e16 (Z32 (base:=0) rfl .here rfl (Z0g c8)))<|j_b e17 rfl<|Z44 rfl rfl (Z0q c9)<|Za (Z1z (q:=[.ints .u64 20 (l3)]) (base:=0) g3 rfl rfl rfl (Z0g c9) rfl .here<|Z2<|bH h fun z18 e18 h=>Z1<|Z7 rfl<|j_b e18 rfl<|Z7 rfl<|Z2 ?_))
     rw [q6] at h
     exact ⟨n3,Nat.lt_succ_self _,z18,l3,h,⟨⟨rfl,rfl,rfl,trivial⟩,(.o (.o (.o (.o .nil))))⟩⟩
    ·exact Z08 _ rfl<|⟨a6,h,⟨⟨rfl,rfl,trivial⟩,(.o (.o (.o (.o .nil))))⟩⟩
  ·rintro t m ⟨a5,h,hF⟩
   refine Zi hF ?_
   clear hF
   subst q5
   refine Z0<|Z1<|Za (Zu fun b5 u5=>Z2<|Z0<|Z0<|Z1<|Z7 rfl<|Z2<|jH h fun k7 q7 h=>Zo (G:=fun t m=>∃ (a7:LI),k7 a7=some r/\Fit [(4,pt' b3),(9,pt' b5)] (ck b5 152 [uA' a7]::(ck b4 348 [.ints .u64 20 (a5)]::(ck b3 152 [uA' (replicate 10 0)]::(ck b2 152 [uA' p1]::(ck b1 152 [uA' p0] :: []))))) t m) ?_ ?_)
   ·refine Zb<|Zz (fun n4 t m=>∃ (i4:Int) (a8:LI),Zbe a5 k7 n4 i4 a8=some r/\Fit [(4,pt' b3),(5,pt' b4),(9,pt' b5),(10,.int .i64 (i4))] (ck b5 152 [uA' a8]::(ck b4 348 [.ints .u64 20 (a5)]::(ck b3 152 [uA' (replicate 10 0)]::(ck b2 152 [uA' p1]::(ck b1 152 [uA' p0] :: []))))) t m) big ?_ ?_
    ·exact ⟨0,(replicate 10 0),h,⟨⟨rfl,rfl,rfl,rfl,trivial⟩,(.o (.o (.o (.o (.o .nil)))))⟩⟩
    ·rintro n4 t m ⟨i4,a8,h,hF⟩
     refine Zi hF ?_
     clear hF
     rcases n4 with _ | n4
     · exact Z0s h
     have h:Zpf a5 k7 (Zbe a5 k7 n4) i4 a8=some r:=h
     unfold Zpf at h
     obtain ⟨k8,q8⟩ : ∃ k,k=Zbe a5 k7 n4:=⟨_,rfl⟩
     try rw [<- q8] at h
     refine Z0<|Z0<|Z1<|Z7 rfl<|j_c rfl<|Z2<|Z0k h rfl (fun h=>?_) (fun h=>?_)
     ·refine Zp<|Z0<|Zb<|cH h fun c10 h=>bH h fun z19 e19 h=>cH h fun c11 h=>bH h fun z20 e20 h=>bH h fun z21 e21 h=>bH h fun z22 e22 h=>bH h fun z23 e23 h=>cH h fun c12 h=>bH h fun l4 g4 h=>Zv<|k_m rfl<|k_m rfl<|Z6v rfl rfl (Z0q c10)<|k_m rfl<|k_b e19 rfl<|Z6v rfl rfl (Z0q c11)<|Z0v _ (iz e20 (Z32 (base:=0) rfl .t1 rfl (Z0g c10)))<|Z0v _ (iz e21 (Z32 (base:=0) rfl .t1 rfl (Z0g c11)))<|k_b e22 rfl<|k_b e23 rfl<|Z6v rfl rfl (Z0q c12)<|Z16 rfl (Z1z (q:=[uA' l4]) (base:=0) g4 rfl rfl rfl (Z0g c12) rfl .here<|Z03<|bH h fun z24 e24 h=>Z1<|Z7 rfl<|j_b e24 rfl<|Z7 rfl<|Z2 ?_)
      rw [q8] at h
      exact ⟨n4,Nat.lt_succ_self _,z24,l4,h,⟨⟨rfl,rfl,rfl,rfl,trivial⟩,(.o (.o (.o (.o (.o .nil)))))⟩⟩
     ·exact Z08 _ rfl<|⟨a8,h,⟨⟨rfl,rfl,trivial⟩,(.o (.o (.o (.o (.o .nil)))))⟩⟩
   ·rintro t m ⟨a7,h,hF⟩
    refine Zi hF ?_
    clear hF
    subst q7
    refine Z0<|oH h fun y1 f1 h=>Z1<|Z0z (p:=[uA' a7]) rfl .here rfl<|Z2o rfl (Zcd f1)<|Za (Zm (q:=[uA' y1]) rfl rfl rfl rfl rfl .t2<|Z2<|Zf ?_)
    cases h
    exact ⟨_,(.cons (.agg rfl .t2 rfl) .nil),rfl⟩
def Z73 (p0:Int):OL :=
 bnd (Z4 .and .u64 p0 67108863) fun z1 =>
 bnd (Zx .u64 p0 26) fun z2 =>
 bnd (Z4 .and .u64 z2 67108863) fun z3 =>
 bnd (Zx .u64 p0 52) fun z4 =>
 bnd (([z1,z3,z4,0,0,0,0,0,0,0]:LI)) fun z5 =>
 some z5
theorem Z3l {W:World} {r:(LI)} {p0:Int} (h:Z73 p0=some r)  :
    Calls Tryz.prog 271 [.int .u64 (p0)].toArray W (Z1w W (agg [uA' r])):=by
 unfold Z73 at h
 refine Z9 mo Z0vn rfl ?_
 refine Z0<|Z1<|Za (Zu fun b1 u1=>Z2<|Z0<|bH h fun z1 e1 h=>bH h fun z2 e2 h=>bH h fun z3 e3 h=>bH h fun z4 e4 h=>bH h fun z5 e5 h=>Z1<|Z7 rfl<|j_b e1 rfl<|Z7 rfl<|Zq _ (iz e2 (Z61 rfl rfl (by decide)))<|j_b e3 rfl<|Z7 rfl<|Zq _ (iz e4 (Z61 rfl rfl (by decide)))<|Zq _ (az (fun z=>agg [.ints .u64 10 z]) e5 (Zex (.one rfl rfl rfl (.one rfl rfl rfl (.one rfl rfl rfl BdR.nil)))))<|Za (Zm (q:=[uA' z5]) rfl rfl rfl rfl rfl .here<|Z2<|Zf ?_))
 cases h
 exact ⟨_,(.cons (.agg rfl .here rfl) .nil),rfl⟩
def Zfo (p0:LI) (p1:LI) (k1:(LI)->OL) (k2:Int->(LI)->OL) (i1:Int) (a1:LI):OL :=
 br ((decide (i1≥0))) (
 jn (fun (a2:LI)=>bnd (wrap .i64 (i1-1)) fun z1 =>
 k2 z1 a2) fun k3=>opt (Z24 a1 a1) fun y1 =>
 bnd (wrap .i64 (Int.tdiv i1 8)) fun z2 =>
 chk (inB z2 32) <|
 bnd (p1.getD (z2).toNat 0) fun z3 =>
 bnd (Int.tmod i1 8) fun z4 =>
 chk (decide (0<=z4)) <|
 bnd (Zx .u8 z3 z4) fun z5 =>
 bnd (Z4 .and .u8 z5 1) fun z6 =>
 br ((z6==1)) (
 opt (Z24 y1 p0) fun y2 =>
 k3 y2
 ) (
 k3 y1
 )
 ) (
 k1 a1
 )
def Z9q (p0:LI) (p1:LI) (k1:(LI)->OL):Nat->Int->(LI)->OL
  | 0,_,_=>none
  | n+1,i1,a1=>Zfo p0 p1 k1 (Z9q p0 p1 k1 n) i1 a1
def Zph (p0:LI) (p1:LI):OL :=
 opt (Z73 1) fun y1 =>
 jn (fun (a1:LI)=>some a1) fun k1=>Z9q p0 p1 k1 big 255 y1
theorem Zkb {W:World} {r:(LI)} {p0:LI} {p1:LI} (h:Zph p0 p1=some r)  :
    Calls Tryz.prog 286 [agg [uA' p0],agg [b3' p1]].toArray W (Z1w W (agg [uA' r])):=by
 unfold Zph at h
 refine Z9 mo Z0w2 rfl ?_
 refine Z0<|Z1<|Za (Z02 (s:=[uA' p0]) rfl fun b1 u1=>Za (Z02 (s:=[b3' p1]) rfl fun b2 u2=>Za (Zu fun b3 u3=>Z2<|Z0<|oH h fun y1 f1 h=>Z1<|Z2o rfl (Z3l f1)<|Za (Zu fun b4 u4=>Za (Zm (q:=[uA' y1]) rfl rfl rfl rfl rfl .here<|Z2<|Z0<|Z0<|Z1<|Z7 rfl<|Z2<|jH h fun k1 q1 h=>Zo (G:=fun t m=>∃ (a1:LI),k1 a1=some r/\Fit [(4,pt' b3),(5,pt' b4)] (ck b4 152 [uA' a1]::(ck b3 152 [uA' (replicate 10 0)]::(ck b2 22 [b3' p1]::(ck b1 152 [uA' p0] :: [])))) t m) ?_ ?_)))))
 ·refine Zb<|Zz (fun n1 t m=>∃ (i1:Int) (a2:LI),Z9q p0 p1 k1 n1 i1 a2=some r/\Fit [(2,pt' b1),(3,pt' b2),(4,pt' b3),(5,pt' b4),(6,.int .i64 (i1))] (ck b4 152 [uA' a2]::(ck b3 152 [uA' (replicate 10 0)]::(ck b2 22 [b3' p1]::(ck b1 152 [uA' p0] :: [])))) t m) big ?_ ?_
  ·exact ⟨255,y1,h,⟨⟨rfl,rfl,rfl,rfl,rfl,trivial⟩,(.o (.o (.o (.o .nil))))⟩⟩
  ·rintro n1 t m ⟨i1,a2,h,hF⟩
   refine Zi hF ?_
   clear hF
   rcases n1 with _ | n1
   · exact Z0s h
   have h:Zfo p0 p1 k1 (Z9q p0 p1 k1 n1) i1 a2=some r:=h
   unfold Zfo at h
   obtain ⟨k2,q2⟩ : ∃ k,k=Z9q p0 p1 k1 n1:=⟨_,rfl⟩
   try rw [<- q2] at h
   refine Z0<|Z0<|Z1<|Z7 rfl<|j_c rfl<|Z2<|Z0k h rfl (fun h=>?_) (fun h=>?_)
   ·refine Zp<|Z0<|jH h fun k3 q3 h=>Zo (G:=fun t m=>∃ (a3:LI),k3 a3=some r/\Fit [(2,pt' b1),(3,pt' b2),(4,pt' b3),(5,pt' b4),(6,.int .i64 (i1))] (ck b4 152 [uA' a3]::(ck b3 152 [uA' (replicate 10 0)]::(ck b2 22 [b3' p1]::(ck b1 152 [uA' p0] :: [])))) t m) ?_ ?_
    ·refine Zb<|Z0<|oH h fun y2 f2 h=>Z1<|Z0z (p:=[uA' a2]) rfl .here rfl<|Z0z (p:=[uA' a2]) rfl .here rfl<|Z2o rfl (Z0i f2)<|Za (Zm (q:=[uA' y2]) rfl rfl rfl rfl rfl .here<|Z2<|Z0<|bH h fun z1 e1 h=>cH h fun c1 h=>bH h fun z2 e2 h=>bH h fun z3 e3 h=>cH h fun c2 h=>bH h fun z4 e4 h=>bH h fun z5 e5 h=>Z1<|Z7 rfl<|Zq _ (iz e1 (Zbl rfl rfl (by decide)))<|Z44 rfl rfl (Z0q c1)<|Zq _ (iz e2 (Z32 (base:=0) rfl .t2 rfl (Z0g c1)))<|Z7 rfl<|Zq _ (iz e3 (Zdp rfl rfl (by decide)))<|Zq _ (iz e4 (Z61 rfl rfl (of_decide_eq_true c2)))<|j_b e5 rfl<|j_c rfl<|Z2<|Z0k h rfl (fun h=>?_) (fun h=>?_))
     ·exact oH h fun y3 f3 h=>Z1<|Z0z (p:=[uA' y2]) rfl .here rfl<|Z0z (p:=[uA' p0]) rfl .t3 rfl<|Z2o rfl (Z0i f3)<|Za (Zm (q:=[uA' y3]) rfl rfl rfl rfl rfl .here<|Z2<|⟨y3,h,⟨⟨rfl,rfl,rfl,rfl,rfl,trivial⟩,(.o (.o (.o (.o .nil))))⟩⟩)
     ·exact Zp<|⟨y2,h,⟨⟨rfl,rfl,rfl,rfl,rfl,trivial⟩,(.o (.o (.o (.o .nil))))⟩⟩
    ·rintro t m ⟨a3,h,hF⟩
     refine Zi hF ?_
     clear hF
     subst q3
     refine bH h fun z6 e6 h=>Z1<|Z7 rfl<|j_b e6 rfl<|Z7 rfl<|Z2 ?_
     rw [q2] at h
     exact ⟨n1,Nat.lt_succ_self _,z6,a3,h,⟨⟨rfl,rfl,rfl,rfl,rfl,trivial⟩,(.o (.o (.o (.o .nil))))⟩⟩
   ·exact Z08 _ rfl<|⟨a2,h,⟨⟨rfl,rfl,trivial⟩,(.o (.o (.o (.o .nil))))⟩⟩
 ·rintro t m ⟨a1,h,hF⟩
  refine Zi hF ?_
  clear hF
  subst q1
  refine Z0<|Z1<|Z0z (p:=[uA' a1]) rfl .here rfl<|Za (Zm (q:=[uA' a1]) rfl rfl rfl rfl rfl .t1<|Z2<|Zf ?_)
  cases h
  exact ⟨_,(.cons (.agg rfl .t1 rfl) .nil),rfl⟩
def Zkc (k1:(LI)->OL) (k2:Int->(LI)->OL) (i1:Int) (a1:LI):OL :=
 br ((decide (i1<32))) (
 chk (inB i1 32) <|
 bnd (Z2g a1 (i1).toNat 255) fun l1 =>
 bnd (wrap .i64 (i1+1)) fun z1 =>
 k2 z1 l1
 ) (
 k1 a1
 )
def Zdi (k1:(LI)->OL):Nat->Int->(LI)->OL
  | 0,_,_=>none
  | n+1,i1,a1=>Zkc k1 (Zdi k1 n) i1 a1
def Zec (p0:Int) (p1:Int):OL :=
 jn (fun (a1:LI)=>bnd (Z2g a1 0 p0) fun l1 =>
 bnd (Z2g l1 31 p1) fun l2 =>
 some l2) fun k1=>Zdi k1 big 0 (replicate 32 0)
theorem Zgk {W:World} {r:(LI)} {p0:Int} {p1:Int} (h:Zec p0 p1=some r)  :
    Calls Tryz.prog 287 [.int .u8 (p0),.int .u8 (p1)].toArray W (Z1w W (agg [b3' r])):=by
 unfold Zec at h
 refine Z9 mo Z0w3 rfl ?_
 refine Z0<|Z1<|Za (Zu fun b1 u1=>Z2<|Z0<|Z1<|Za (Zu fun b2 u2=>Z2<|Z0<|Z0<|Z1<|Z7 rfl<|Z2<|jH h fun k1 q1 h=>Zo (G:=fun t m=>∃ (a1:LI),k1 a1=some r/\Fit [(0,.int .u8 (p0)),(1,.int .u8 (p1)),(4,pt' b1),(5,pt' b2)] (ck b2 22 [b3' a1]::(ck b1 22 [b3' (replicate 32 0)] :: [])) t m) ?_ ?_))
 ·refine Zb<|Zz (fun n1 t m=>∃ (i1:Int) (a2:LI),Zdi k1 n1 i1 a2=some r/\Fit [(0,.int .u8 (p0)),(1,.int .u8 (p1)),(4,pt' b1),(5,pt' b2),(6,.int .i64 (i1))] (ck b2 22 [b3' a2]::(ck b1 22 [b3' (replicate 32 0)] :: [])) t m) big ?_ ?_
  ·exact ⟨0,(replicate 32 0),h,⟨⟨rfl,rfl,rfl,rfl,rfl,trivial⟩,(.o (.o .nil))⟩⟩
  ·rintro n1 t m ⟨i1,a2,h,hF⟩
   refine Zi hF ?_
   clear hF
   rcases n1 with _ | n1
   · exact Z0s h
   have h:Zkc k1 (Zdi k1 n1) i1 a2=some r:=h
   unfold Zkc at h
   obtain ⟨k2,q2⟩ : ∃ k,k=Zdi k1 n1:=⟨_,rfl⟩
   try rw [<- q2] at h
   refine Z0<|Z0<|Z1<|Z7 rfl<|j_c rfl<|Z2<|Z0k h rfl (fun h=>?_) (fun h=>?_)
   ·refine Zp<|Z0<|Zb<|cH h fun c1 h=>bH h fun l1 g1 h=>Z1<|Z7 rfl<|Z44 rfl rfl (Z0q c1)<|Za (Z1z (q:=[b3' l1]) (base:=0) g1 rfl rfl rfl (Z0g c1) rfl .here<|Z2<|bH h fun z1 e1 h=>Z1<|Z7 rfl<|j_b e1 rfl<|Z7 rfl<|Z2 ?_)
    rw [q2] at h
    exact ⟨n1,Nat.lt_succ_self _,z1,l1,h,⟨⟨rfl,rfl,rfl,rfl,rfl,trivial⟩,(.o (.o .nil))⟩⟩
   ·exact Z08 _ rfl<|⟨a2,h,⟨⟨rfl,rfl,rfl,rfl,trivial⟩,(.o (.o .nil))⟩⟩
 ·rintro t m ⟨a1,h,hF⟩
  refine Zi hF ?_
  clear hF
  subst q1
  refine Z0<|bH h fun l2 g2 h=>Z1<|Z7 rfl<|Z44 rfl rfl (by decide)<|Za (Z7a (q:=[b3' l2]) (congrArg (fun z=>([b3' z]:List Seg)) g2.symm) rfl rfl rfl rfl .here<|Z2<|Z0<|bH h fun l3 g3 h=>Z1<|Z7 rfl<|Z44 rfl rfl (by decide)<|Za (Z7a (q:=[b3' l3]) (congrArg (fun z=>([b3' z]:List Seg)) g3.symm) rfl rfl rfl rfl .here<|Z2<|Z0<|Z1<|Z0z (p:=[b3' l3]) rfl .here rfl<|Za (Zm (q:=[b3' l3]) rfl rfl rfl rfl rfl .t1<|Z2<|Zf ?_)))
  cases h
  exact ⟨_,(.cons (.agg rfl .t1 rfl) .nil),rfl⟩
def Zbc (p0:LI):OL :=
 opt (Zec 235 127) fun y1 =>
 opt (Zph p0 y1) fun y2 =>
 some y2
theorem Zev {W:World} {r:(LI)} {p0:LI} (h:Zbc p0=some r)  :
    Calls Tryz.prog 178 [agg [uA' p0]].toArray W (Z1w W (agg [uA' r])):=by
 unfold Zbc at h
 refine Z9 mo Z0u1 rfl ?_
 refine Z0<|Z1<|Za (Z02 (s:=[uA' p0]) rfl fun b1 u1=>Za (Zu fun b2 u2=>Z2<|Z0<|oH h fun y1 f1 h=>oH h fun y2 f2 h=>Zv<|Z4o rfl (Zgk f1)<|Z1q (p:=[uA' p0]) rfl .t1 rfl<|Z4o rfl (Zkb f2)<|Z16 rfl (Zm (q:=[uA' y2]) rfl rfl rfl rfl rfl .here<|Z03<|Zf ?_)))
 cases h
 exact ⟨_,(.cons (.agg rfl .here rfl) .nil),rfl⟩
def Zdg (p0:LI) (k1:(LI)->OL) (k2:Int->(LI)->OL) (i1:Int) (a1:LI):OL :=
 br ((decide (i1<255))) (
 bnd (wrap .i64 (Int.tdiv i1 26)) fun z1 =>
 chk (inB z1 10) <|
 bnd (p0.getD (z1).toNat 0) fun z2 =>
 bnd (Int.tmod i1 26) fun z3 =>
 chk (decide (0<=z3)) <|
 bnd (Zx .u64 z2 z3) fun z4 =>
 bnd (Z4 .and .u64 z4 1) fun z5 =>
 bnd (wrap .u8 z5) fun z6 =>
 bnd (wrap .i64 (Int.tdiv i1 8)) fun z7 =>
 bnd (wrap .i64 (Int.tdiv i1 8)) fun z8 =>
 chk (inB z8 32) <|
 bnd (Int.tmod i1 8) fun z9 =>
 chk (decide (0<=z9)) <|
 bnd (Zn .u8 z6 z9) fun z10 =>
 bnd (a1.getD (z8).toNat 0) fun z11 =>
 bnd (wrap .u8 (z11+z10)) fun z12 =>
 chk (inB z7 32) <|
 bnd (Z2g a1 (z7).toNat z12) fun l1 =>
 bnd (wrap .i64 (i1+1)) fun z13 =>
 k2 z13 l1
 ) (
 k1 a1
 )
def Z7h (p0:LI) (k1:(LI)->OL):Nat->Int->(LI)->OL
  | 0,_,_=>none
  | n+1,i1,a1=>Zdg p0 k1 (Z7h p0 k1 n) i1 a1
def Zl8 (p0:LI):OL :=
 jn (fun (a1:LI)=>some a1) fun k1=>Z7h p0 k1 big 0 (replicate 32 0)
theorem Zsu {W:World} {r:(LI)} {p0:LI} (h:Zl8 p0=some r)  :
    Calls Tryz.prog 179 [agg [uA' p0]].toArray W (Z1w W (agg [b3' r])):=by
 unfold Zl8 at h
 refine Z9 mo Z0u2 rfl ?_
 refine Z0<|Z1<|Za (Z02 (s:=[uA' p0]) rfl fun b1 u1=>Za (Zu fun b2 u2=>Z2<|Z0<|Z1<|Za (Zu fun b3 u3=>Z2<|Z0<|Z0<|Z1<|Z7 rfl<|Z2<|jH h fun k1 q1 h=>Zo (G:=fun t m=>∃ (a1:LI),k1 a1=some r/\Fit [(2,pt' b2),(3,pt' b3)] (ck b3 22 [b3' a1]::(ck b2 22 [b3' (replicate 32 0)]::(ck b1 152 [uA' p0] :: []))) t m) ?_ ?_)))
 ·refine Zb<|Zz (fun n1 t m=>∃ (i1:Int) (a2:LI),Z7h p0 k1 n1 i1 a2=some r/\Fit [(1,pt' b1),(2,pt' b2),(3,pt' b3),(4,.int .i64 (i1))] (ck b3 22 [b3' a2]::(ck b2 22 [b3' (replicate 32 0)]::(ck b1 152 [uA' p0] :: []))) t m) big ?_ ?_
  ·exact ⟨0,(replicate 32 0),h,⟨⟨rfl,rfl,rfl,rfl,trivial⟩,(.o (.o (.o .nil)))⟩⟩
  ·rintro n1 t m ⟨i1,a2,h,hF⟩
   refine Zi hF ?_
   clear hF
   rcases n1 with _ | n1
   · exact Z0s h
   have h:Zdg p0 k1 (Z7h p0 k1 n1) i1 a2=some r:=h
   unfold Zdg at h
   obtain ⟨k2,q2⟩ : ∃ k,k=Z7h p0 k1 n1:=⟨_,rfl⟩
   try rw [<- q2] at h
   refine Z0<|Z0<|Z1<|Z7 rfl<|j_c rfl<|Z2<|Z0k h rfl (fun h=>?_) (fun h=>?_)
   ·refine Zp<|Z0<|Zb<|Z0<|bH h fun z1 e1 h=>cH h fun c1 h=>bH h fun z2 e2 h=>bH h fun z3 e3 h=>cH h fun c2 h=>bH h fun z4 e4 h=>bH h fun z5 e5 h=>bH h fun z6 e6 h=>Z1<|Z7 rfl<|Zq _ (iz e1 (Zbl rfl rfl (by decide)))<|Z44 rfl rfl (Z0q c1)<|Zq _ (iz e2 (Z32 (base:=0) rfl .t2 rfl (Z0g c1)))<|Z7 rfl<|Zq _ (iz e3 (Zdp rfl rfl (by decide)))<|Zq _ (iz e4 (Z61 rfl rfl (of_decide_eq_true c2)))<|j_b e5 rfl<|j_v e6 rfl<|Z7 rfl<|Z2<|bH h fun z7 e7 h=>bH h fun z8 e8 h=>cH h fun c3 h=>bH h fun z9 e9 h=>cH h fun c4 h=>bH h fun z10 e10 h=>bH h fun z11 e11 h=>bH h fun z12 e12 h=>cH h fun c5 h=>bH h fun l1 g1 h=>Zv<|k_m rfl<|Z0x _ (iz e7 (Zbl rfl rfl (by decide)))<|k_m rfl<|Z0x _ (iz e8 (Zbl rfl rfl (by decide)))<|Z6v rfl rfl (Z0q c3)<|k_m rfl<|k_m rfl<|Z0x _ (iz e9 (Zdp rfl rfl (by decide)))<|Z0x _ (iz e10 (Zno rfl rfl (of_decide_eq_true c4)))<|Z0v _ (iz e11 (Z32 (base:=0) rfl .here rfl (Z0g c3)))<|k_b e12 rfl<|Z6v rfl rfl (Z0q c5)<|Z16 rfl (Z1z (q:=[b3' l1]) (base:=0) g1 rfl rfl rfl (Z0g c5) rfl .here<|Z03<|bH h fun z13 e13 h=>Z1<|Z7 rfl<|j_b e13 rfl<|Z7 rfl<|Z2 ?_)
    rw [q2] at h
    exact ⟨n1,Nat.lt_succ_self _,z13,l1,h,⟨⟨rfl,rfl,rfl,rfl,trivial⟩,(.o (.o (.o .nil)))⟩⟩
   ·exact Z08 _ rfl<|⟨a2,h,⟨⟨rfl,rfl,trivial⟩,(.o (.o (.o .nil)))⟩⟩
 ·rintro t m ⟨a1,h,hF⟩
  refine Zi hF ?_
  clear hF
  subst q1
  refine Z0<|Z1<|Z0z (p:=[b3' a1]) rfl .here rfl<|Za (Zm (q:=[b3' a1]) rfl rfl rfl rfl rfl .t1<|Z2<|Zf ?_)
  cases h
  exact ⟨_,(.cons (.agg rfl .t1 rfl) .nil),rfl⟩
def Zj9 (p0:LI):Option Bool :=
 bnd (p0.getD 0 0) fun z1 =>
 bnd (Z4 .and .u64 z1 1) fun z2 =>
 some (z2==1)
theorem Zl9 {W:World} {r:Bool} {p0:LI} (h:Zj9 p0=some r)  :
    Calls Tryz.prog 181 [agg [uA' p0]].toArray W (Z1w W (.bool (r))):=by
 unfold Zj9 at h
 refine Z9 mo Z0u4 rfl ?_
 refine Z0<|Z1<|Za (Z02 (s:=[uA' p0]) rfl fun b1 u1=>Z7 rfl<|Z2<|Z0<|bH h fun z1 e1 h=>bH h fun z2 e2 h=>Z1<|Z44 rfl rfl (by decide)<|j_i e1 rfl .here rfl<|j_b e2 rfl<|j_c rfl<|Z7 rfl<|Z2<|Zf ?_)
 cases h
 exact ⟨_,(.cons (.tmp rfl) .nil),rfl⟩
structure Z25 where
  gX:LI
  gY:LI
  gZ:LI
def Z7l:Z25:=⟨(replicate 10 0),(replicate 10 0),(replicate 10 0)⟩
abbrev Z8 (x:Z25) (r:List Seg):List Seg:=uA' x.gX :: uA' x.gY :: uA' x.gZ::r
def Zfu (p0:Z25):OL :=
 opt (Zbc p0.gZ) fun y1 =>
 opt (Z24 p0.gY y1) fun y2 =>
 opt (Zl8 y2) fun y3 =>
 opt (Z24 p0.gX y1) fun y4 =>
 opt (Zj9 y4) fun y5 =>
 jn (fun (a1:LI)=>some a1) fun k1=>br (y5) (
 bnd (y3.getD 31 0) fun z1 =>
 bnd (wrap .u8 (z1+128)) fun z2 =>
 bnd (Z2g y3 31 z2) fun l1 =>
 k1 l1
 ) (
 k1 y3
 )
theorem Zjy {W:World} {r:(LI)} {p0:Z25} (h:Zfu p0=some r)  :
    Calls Tryz.prog 100 [agg (Z8 p0 [])].toArray W (Z1w W (agg [b3' r])):=by
 unfold Zfu at h
 refine Z9 mo Z0sm rfl ?_
 refine Z0<|Z1<|Za (Z02 (s:=(Z8 p0 [])) rfl fun b1 u1=>Za (Zu fun b2 u2=>Z2<|Z0<|oH h fun y1 f1 h=>Z1<|Z4c rfl<|Z0z (p:=[uA' p0.gZ]) rfl .t1 rfl<|Z2o rfl (Zev f1)<|Za (Zu fun b3 u3=>Za (Zm (q:=[uA' y1]) rfl rfl rfl rfl rfl .here<|Z2<|Z0<|oH h fun y2 f2 h=>oH h fun y3 f3 h=>Z1<|Z4c rfl<|Z0z (p:=[uA' p0.gY]) rfl .t2 rfl<|Z0z (p:=[uA' y1]) rfl .here rfl<|Z2o rfl (Z0i f2)<|Z2o rfl (Zsu f3)<|Za (Zu fun b4 u4=>Za (Zm (q:=[b3' y3]) rfl rfl rfl rfl rfl .here<|Z2<|Z0<|Z0<|oH h fun y4 f4 h=>oH h fun y5 f5 h=>Z1<|Z4c rfl<|Z0z (p:=[uA' p0.gX]) rfl .t3 rfl<|Z0z (p:=[uA' y1]) rfl .t1 rfl<|Z2o rfl (Z0i f4)<|Z2o rfl (Zl9 f5)<|Z2<|jH h fun k1 q1 h=>Zo (G:=fun t m=>∃ (a1:LI),k1 a1=some r/\Fit [(2,pt' b2),(4,pt' b4)] (ck b4 22 [b3' a1]::(ck b3 152 [uA' y1]::(ck b2 44 [b3' (replicate 32 0)]::(ck b1 154 (Z8 p0 []) :: [])))) t m) ?_ ?_))))))
 ·refine Z0k h rfl (fun h=>?_) (fun h=>?_)
  ·exact bH h fun z1 e1 h=>bH h fun z2 e2 h=>bH h fun l1 g1 h=>Z1<|Z44 rfl rfl (by decide)<|j_i e1 rfl .here rfl<|j_b e2 rfl<|Z44 rfl rfl (by decide)<|Za (Z7a (q:=[b3' l1]) (congrArg (fun z=>([b3' z]:List Seg)) g1.symm) rfl rfl rfl rfl .here<|Z2<|⟨l1,h,⟨⟨rfl,rfl,trivial⟩,(.o (.o (.o (.o .nil))))⟩⟩)
  ·exact Zp<|⟨y3,h,⟨⟨rfl,rfl,trivial⟩,(.o (.o (.o (.o .nil))))⟩⟩
 ·rintro t m ⟨a1,h,hF⟩
  refine Zi hF ?_
  clear hF
  subst q1
  refine Z0<|Z1<|Z0z (p:=[b3' a1]) rfl .here rfl<|Za (Zm (q:=[b3' a1]) rfl rfl rfl rfl rfl .t2<|Z2<|Zf ?_)
  cases h
  exact ⟨_,(.cons (.agg rfl .t2 rfl) .nil),rfl⟩
def Zkd (p0:LI) (k1:(LI)->OL) (k2:Int->(LI)->OL) (i1:Int) (a1:LI):OL :=
 br ((decide (i1<32))) (
 chk (inB i1 32) <|
 bnd (p0.getD (i1).toNat 0) fun z1 =>
 chk (inB i1 32) <|
 bnd (Z2g a1 (i1).toNat z1) fun l1 =>
 bnd (wrap .i64 (i1+1)) fun z2 =>
 k2 z2 l1
 ) (
 k1 a1
 )
def Zag (p0:LI) (k1:(LI)->OL):Nat->Int->(LI)->OL
  | 0,_,_=>none
  | n+1,i1,a1=>Zkd p0 k1 (Zag p0 k1 n) i1 a1
def Zlb (p0:LI):OL :=
 jn (fun (a1:LI)=>bnd (a1.getD 0 0) fun z1 =>
 bnd (a1.getD 0 0) fun z2 =>
 bnd (Int.tmod z2 8) fun z3 =>
 bnd (wrap .u8 (z1-z3)) fun z4 =>
 bnd (Z2g a1 0 z4) fun l1 =>
 bnd (l1.getD 31 0) fun z5 =>
 bnd (Int.tmod z5 64) fun z6 =>
 bnd (wrap .u8 (z6+64)) fun z7 =>
 bnd (Z2g l1 31 z7) fun l2 =>
 some l2) fun k1=>Zag p0 k1 big 0 (replicate 32 0)
theorem Zsw {W:World} {r:(LI)} {p0:LI} (h:Zlb p0=some r)  :
    Calls Tryz.prog 209 [agg [b3' p0]].toArray W (Z1w W (agg [b3' r])):=by
 unfold Zlb at h
 refine Z9 mo Z0ub rfl ?_
 refine Z0<|Z1<|Za (Z02 (s:=[b3' p0]) rfl fun b1 u1=>Za (Zu fun b2 u2=>Z2<|Z0<|Z1<|Za (Zu fun b3 u3=>Z2<|Z0<|Z0<|Z1<|Z7 rfl<|Z2<|jH h fun k1 q1 h=>Zo (G:=fun t m=>∃ (a1:LI),k1 a1=some r/\Fit [(2,pt' b2),(3,pt' b3)] (ck b3 149 [b3' a1]::(ck b2 149 [b3' (replicate 32 0)]::(ck b1 22 [b3' p0] :: []))) t m) ?_ ?_)))
 ·refine Zb<|Zz (fun n1 t m=>∃ (i1:Int) (a2:LI),Zag p0 k1 n1 i1 a2=some r/\Fit [(1,pt' b1),(2,pt' b2),(3,pt' b3),(4,.int .i64 (i1))] (ck b3 149 [b3' a2]::(ck b2 149 [b3' (replicate 32 0)]::(ck b1 22 [b3' p0] :: []))) t m) big ?_ ?_
  ·exact ⟨0,(replicate 32 0),h,⟨⟨rfl,rfl,rfl,rfl,trivial⟩,(.o (.o (.o .nil)))⟩⟩
  ·rintro n1 t m ⟨i1,a2,h,hF⟩
   refine Zi hF ?_
   clear hF
   rcases n1 with _ | n1
   · exact Z0s h
   have h:Zkd p0 k1 (Zag p0 k1 n1) i1 a2=some r:=h
   unfold Zkd at h
   obtain ⟨k2,q2⟩ : ∃ k,k=Zag p0 k1 n1:=⟨_,rfl⟩
   try rw [<- q2] at h
   refine Z0<|Z0<|Z1<|Z7 rfl<|j_c rfl<|Z2<|Z0k h rfl (fun h=>?_) (fun h=>?_)
   ·refine Zp<|Z0<|Zb<|cH h fun c1 h=>bH h fun z1 e1 h=>cH h fun c2 h=>bH h fun l1 g1 h=>Z1<|Z7 rfl<|Z7 rfl<|Z44 rfl rfl (Z0q c1)<|Zq _ (iz e1 (Z32 (base:=0) rfl .t2 rfl (Z0g c1)))<|Z44 rfl rfl (Z0q c2)<|Za (Z1z (q:=[b3' l1]) (base:=0) g1 rfl rfl rfl (Z0g c2) rfl .here<|Z2<|bH h fun z2 e2 h=>Z1<|Z7 rfl<|j_b e2 rfl<|Z7 rfl<|Z2 ?_)
    rw [q2] at h
    exact ⟨n1,Nat.lt_succ_self _,z2,l1,h,⟨⟨rfl,rfl,rfl,rfl,trivial⟩,(.o (.o (.o .nil)))⟩⟩
   ·exact Z08 _ rfl<|⟨a2,h,⟨⟨rfl,rfl,trivial⟩,(.o (.o (.o .nil)))⟩⟩
 ·rintro t m ⟨a1,h,hF⟩
  refine Zi hF ?_
  clear hF
  subst q1
  refine Z0<|bH h fun z3 e3 h=>bH h fun z4 e4 h=>bH h fun z5 e5 h=>bH h fun z6 e6 h=>bH h fun l2 g2 h=>Z1<|Z44 rfl rfl (by decide)<|j_i e3 rfl .here rfl<|Z44 rfl rfl (by decide)<|j_i e4 rfl .here rfl<|Zq _ (iz e5 (Zdp rfl rfl (by decide)))<|j_b e6 rfl<|Z44 rfl rfl (by decide)<|Za (Z7a (q:=[b3' l2]) (congrArg (fun z=>([b3' z]:List Seg)) g2.symm) rfl rfl rfl rfl .here<|Z2<|Z0<|bH h fun z7 e7 h=>bH h fun z8 e8 h=>bH h fun z9 e9 h=>bH h fun l3 g3 h=>Z1<|Z44 rfl rfl (by decide)<|j_i e7 rfl .here rfl<|Zq _ (iz e8 (Zdp rfl rfl (by decide)))<|j_b e9 rfl<|Z44 rfl rfl (by decide)<|Za (Z7a (q:=[b3' l3]) (congrArg (fun z=>([b3' z]:List Seg)) g3.symm) rfl rfl rfl rfl .here<|Z2<|Z0<|Z1<|Z0z (p:=[b3' l3]) rfl .here rfl<|Za (Zm (q:=[b3' l3]) rfl rfl rfl rfl rfl .t1<|Z2<|Zf ?_)))
  cases h
  exact ⟨_,(.cons (.agg rfl .t1 rfl) .nil),rfl⟩
def Z85 (p0:LI):OL :=
 opt (Zn0 (tk p0 0 32)) fun y1 =>
 opt (Zmd y1 false) fun y2 =>
 opt (Zlb y2) fun y3 =>
 some y3
theorem Zee {W:World} {r:(LI)} {p0:LI} (h:Z85 p0=some r) (hG:Globs W) :
    Calls Tryz.prog 114 [agg [b3' p0]].toArray W (Z1w W (agg [b3' r])):=by
 unfold Z85 at h
 refine Z9 mo Z0sr rfl ?_
 refine Z0<|Z1<|Za (Z02 (s:=[b3' p0]) rfl fun b1 u1=>Za (Zu fun b2 u2=>Z2<|Z0<|oH h fun y1 f1 h=>Z1<|Zq _ (Z8b rfl .no .no .no (by simp) (by decide))<|Zq _ (Z06 rfl (fun w hw=>Zaf f1 (hG.at hw (by simp)) ((Z1u (s:=[b3' p0]) (N:=32) (k:=.u8) (base:=0) (lo:=0) (hi:=32) (mz:=32) .t1 rfl (by decide)) w hw)))<|Za (Zu fun b3 u3=>Za (Zm (q:=[b6' y1]) rfl rfl rfl rfl rfl .here<|Z2<|Z0<|oH h fun y2 f2 h=>oH h fun y3 f3 h=>Z1<|Z0z (p:=[b6' y1]) rfl .here rfl<|Z2o rfl (Zn5 f2)<|Z2o rfl (Zsw f3)<|Za (Zm (q:=[b3' y3]) rfl rfl rfl rfl rfl .t1<|Z2<|Zf ?_)))))
 cases h
 exact ⟨_,(.cons (.agg rfl .t1 rfl) .nil),rfl⟩
def Zrk (p0:LI):OL :=
 opt (Zgm) fun y1 =>
 opt (Z8x y1 p0) fun y2 =>
 opt (Z9o y2) fun y3 =>
 some y3
theorem Zpg {W:World} {r:(LI)} {p0:LI} (h:Zrk p0=some r)  :
    Calls Tryz.prog 166 [agg [uA' p0]].toArray W (Z1w W (agg [uA' r])):=by
 unfold Zrk at h
 refine Z9 mo Z0tp rfl ?_
 refine Z0<|Z1<|Za (Z02 (s:=[uA' p0]) rfl fun b1 u1=>Za (Zu fun b2 u2=>Z2<|Z0<|oH h fun y1 f1 h=>oH h fun y2 f2 h=>oH h fun y3 f3 h=>Zv<|Z4o rfl (Zla f1)<|Z1q (p:=[uA' p0]) rfl .t1 rfl<|Z4o rfl (Zh5 f2)<|Z4o rfl (Zcd f3)<|Z16 rfl (Zm (q:=[uA' y3]) rfl rfl rfl rfl rfl .here<|Z03<|Zf ?_)))
 cases h
 exact ⟨_,(.cons (.agg rfl .here rfl) .nil),rfl⟩
def Zpe (p1:LI) (k1:(LI)->OL) (k2:Int->(LI)->OL) (i1:Int) (a1:LI):OL :=
 br ((decide (i1<10))) (
 chk (inB i1 10) <|
 chk (inB i1 10) <|
 bnd (a1.getD (i1).toNat 0) fun z1 =>
 bnd (p1.getD (i1).toNat 0) fun z2 =>
 bnd (wrap .u64 (z1+z2)) fun z3 =>
 chk (inB i1 10) <|
 bnd (Z2g a1 (i1).toNat z3) fun l1 =>
 bnd (wrap .i64 (i1+1)) fun z4 =>
 k2 z4 l1
 ) (
 k1 a1
 )
def Zfm (p1:LI) (k1:(LI)->OL):Nat->Int->(LI)->OL
  | 0,_,_=>none
  | n+1,i1,a1=>Zpe p1 k1 (Zfm p1 k1 n) i1 a1
def Zh4 (p0:LI) (p1:LI):OL :=
 jn (fun (a1:LI)=>opt (Z9o a1) fun y1 =>
 some y1) fun k1=>Zfm p1 k1 big 0 p0
theorem Z7g {W:World} {r:(LI)} {p0:LI} {p1:LI} (h:Zh4 p0 p1=some r)  :
    Calls Tryz.prog 272 [agg [uA' p0],agg [uA' p1]].toArray W (Z1w W (agg [uA' r])):=by
 unfold Zh4 at h
 refine Z9 mo Z0vo rfl ?_
 refine Z0<|Z1<|Za (Z02 (s:=[uA' p0]) rfl fun b1 u1=>Za (Z02 (s:=[uA' p1]) rfl fun b2 u2=>Za (Zu fun b3 u3=>Z2<|Z0<|Z0<|Z1<|Z7 rfl<|Z2<|jH h fun k1 q1 h=>Zo (G:=fun t m=>∃ (a1:LI),k1 a1=some r/\Fit [(2,pt' b1),(4,pt' b3)] (ck b3 152 [uA' (replicate 10 0)]::(ck b2 152 [uA' p1]::(ck b1 152 [uA' a1] :: []))) t m) ?_ ?_)))
 ·refine Zb<|Zz (fun n1 t m=>∃ (i1:Int) (a2:LI),Zfm p1 k1 n1 i1 a2=some r/\Fit [(2,pt' b1),(3,pt' b2),(4,pt' b3),(5,.int .i64 (i1))] (ck b3 152 [uA' (replicate 10 0)]::(ck b2 152 [uA' p1]::(ck b1 152 [uA' a2] :: []))) t m) big ?_ ?_
  ·exact ⟨0,p0,h,⟨⟨rfl,rfl,rfl,rfl,trivial⟩,(.o (.o (.o .nil)))⟩⟩
  ·rintro n1 t m ⟨i1,a2,h,hF⟩
   refine Zi hF ?_
   clear hF
   rcases n1 with _ | n1
   · exact Z0s h
   have h:Zpe p1 k1 (Zfm p1 k1 n1) i1 a2=some r:=h
   unfold Zpe at h
   obtain ⟨k2,q2⟩ : ∃ k,k=Zfm p1 k1 n1:=⟨_,rfl⟩
   try rw [<- q2] at h
   refine Z0<|Z0<|Z1<|Z7 rfl<|j_c rfl<|Z2<|Z0k h rfl (fun h=>?_) (fun h=>?_)
   ·refine Zp<|Z0<|Zb<|cH h fun c1 h=>cH h fun c2 h=>bH h fun z1 e1 h=>bH h fun z2 e2 h=>bH h fun z3 e3 h=>cH h fun c3 h=>bH h fun l1 g1 h=>Zv<|k_m rfl<|k_m rfl<|Z6v rfl rfl (Z0q c1)<|k_m rfl<|Z6v rfl rfl (Z0q c2)<|Z0v _ (iz e1 (Z32 (base:=0) rfl .t2 rfl (Z0g c1)))<|Z0v _ (iz e2 (Z32 (base:=0) rfl .t1 rfl (Z0g c2)))<|k_b e3 rfl<|Z6v rfl rfl (Z0q c3)<|Z16 rfl (Z1z (q:=[uA' l1]) (base:=0) g1 rfl rfl rfl (Z0g c3) rfl .t2<|Z03<|bH h fun z4 e4 h=>Z1<|Z7 rfl<|j_b e4 rfl<|Z7 rfl<|Z2 ?_)
    rw [q2] at h
    exact ⟨n1,Nat.lt_succ_self _,z4,l1,h,⟨⟨rfl,rfl,rfl,rfl,trivial⟩,(.o (.o (.o .nil)))⟩⟩
   ·exact Z08 _ rfl<|⟨a2,h,⟨⟨rfl,rfl,trivial⟩,(.o (.o (.o .nil)))⟩⟩
 ·rintro t m ⟨a1,h,hF⟩
  refine Zi hF ?_
  clear hF
  subst q1
  refine Z0<|oH h fun y1 f1 h=>Z1<|Z0z (p:=[uA' a1]) rfl .t2 rfl<|Z2o rfl (Zcd f1)<|Za (Zm (q:=[uA' y1]) rfl rfl rfl rfl rfl .here<|Z2<|Zf ?_)
  cases h
  exact ⟨_,(.cons (.agg rfl .here rfl) .nil),rfl⟩
def Zn1 (p0:LI) (p1:LI):OL :=
 opt (Zrk p1) fun y1 =>
 opt (Zh4 p0 y1) fun y2 =>
 some y2
theorem Zgl {W:World} {r:(LI)} {p0:LI} {p1:LI} (h:Zn1 p0 p1=some r)  :
    Calls Tryz.prog 270 [agg [uA' p0],agg [uA' p1]].toArray W (Z1w W (agg [uA' r])):=by
 unfold Zn1 at h
 refine Z9 mo Z0vm rfl ?_
 refine Z0<|Z1<|Za (Z02 (s:=[uA' p0]) rfl fun b1 u1=>Za (Z02 (s:=[uA' p1]) rfl fun b2 u2=>Za (Zu fun b3 u3=>Z2<|Z0<|oH h fun y1 f1 h=>oH h fun y2 f2 h=>Zv<|Z1q (p:=[uA' p0]) rfl .t2 rfl<|Z1q (p:=[uA' p1]) rfl .t1 rfl<|Z4o rfl (Zpg f1)<|Z4o rfl (Z7g f2)<|Z16 rfl (Zm (q:=[uA' y2]) rfl rfl rfl rfl rfl .here<|Z03<|Zf ?_))))
 cases h
 exact ⟨_,(.cons (.agg rfl .here rfl) .nil),rfl⟩
def Z7i (p0:LI) (k1:(LI)->OL) (k2:Int->(LI)->OL) (i1:Int) (a1:LI):OL :=
 br ((decide (i1<255))) (
 bnd (wrap .i64 (Int.tdiv i1 8)) fun z1 =>
 chk (inB z1 32) <|
 bnd (p0.getD (z1).toNat 0) fun z2 =>
 bnd (Int.tmod i1 8) fun z3 =>
 chk (decide (0<=z3)) <|
 bnd (Zx .u8 z2 z3) fun z4 =>
 bnd (Z4 .and .u8 z4 1) fun z5 =>
 bnd (wrap .u64 z5) fun z6 =>
 bnd (wrap .i64 (Int.tdiv i1 26)) fun z7 =>
 bnd (wrap .i64 (Int.tdiv i1 26)) fun z8 =>
 chk (inB z8 10) <|
 bnd (Int.tmod i1 26) fun z9 =>
 chk (decide (0<=z9)) <|
 bnd (Zn .u64 z6 z9) fun z10 =>
 bnd (a1.getD (z8).toNat 0) fun z11 =>
 bnd (wrap .u64 (z11+z10)) fun z12 =>
 chk (inB z7 10) <|
 bnd (Z2g a1 (z7).toNat z12) fun l1 =>
 bnd (wrap .i64 (i1+1)) fun z13 =>
 k2 z13 l1
 ) (
 k1 a1
 )
def Z3z (p0:LI) (k1:(LI)->OL):Nat->Int->(LI)->OL
  | 0,_,_=>none
  | n+1,i1,a1=>Z7i p0 k1 (Z3z p0 k1 n) i1 a1
def Zbb (p0:LI):OL :=
 jn (fun (a1:LI)=>opt (Z9o a1) fun y1 =>
 some y1) fun k1=>Z3z p0 k1 big 0 (replicate 10 0)
theorem Zm5 {W:World} {r:(LI)} {p0:LI} (h:Zbb p0=some r)  :
    Calls Tryz.prog 163 [agg [b3' p0]].toArray W (Z1w W (agg [uA' r])):=by
 unfold Zbb at h
 refine Z9 mo Z0tm rfl ?_
 refine Z0<|Z1<|Za (Z02 (s:=[b3' p0]) rfl fun b1 u1=>Za (Zu fun b2 u2=>Z2<|Z0<|Z1<|Za (Zu fun b3 u3=>Z2<|Z0<|Z0<|Z1<|Z7 rfl<|Z2<|jH h fun k1 q1 h=>Zo (G:=fun t m=>∃ (a1:LI),k1 a1=some r/\Fit [(2,pt' b2),(3,pt' b3)] (ck b3 152 [uA' a1]::(ck b2 152 [uA' (replicate 10 0)]::(ck b1 22 [b3' p0] :: []))) t m) ?_ ?_)))
 ·refine Zb<|Zz (fun n1 t m=>∃ (i1:Int) (a2:LI),Z3z p0 k1 n1 i1 a2=some r/\Fit [(1,pt' b1),(2,pt' b2),(3,pt' b3),(4,.int .i64 (i1))] (ck b3 152 [uA' a2]::(ck b2 152 [uA' (replicate 10 0)]::(ck b1 22 [b3' p0] :: []))) t m) big ?_ ?_
  ·exact ⟨0,(replicate 10 0),h,⟨⟨rfl,rfl,rfl,rfl,trivial⟩,(.o (.o (.o .nil)))⟩⟩
  ·rintro n1 t m ⟨i1,a2,h,hF⟩
   refine Zi hF ?_
   clear hF
   rcases n1 with _ | n1
   · exact Z0s h
   have h:Z7i p0 k1 (Z3z p0 k1 n1) i1 a2=some r:=h
   unfold Z7i at h
   obtain ⟨k2,q2⟩ : ∃ k,k=Z3z p0 k1 n1:=⟨_,rfl⟩
   try rw [<- q2] at h
   refine Z0<|Z0<|Z1<|Z7 rfl<|j_c rfl<|Z2<|Z0k h rfl (fun h=>?_) (fun h=>?_)
   ·refine Zp<|Z0<|Zb<|Z0<|bH h fun z1 e1 h=>cH h fun c1 h=>bH h fun z2 e2 h=>bH h fun z3 e3 h=>cH h fun c2 h=>bH h fun z4 e4 h=>bH h fun z5 e5 h=>bH h fun z6 e6 h=>Z1<|Z7 rfl<|Zq _ (iz e1 (Zbl rfl rfl (by decide)))<|Z44 rfl rfl (Z0q c1)<|Zq _ (iz e2 (Z32 (base:=0) rfl .t2 rfl (Z0g c1)))<|Z7 rfl<|Zq _ (iz e3 (Zdp rfl rfl (by decide)))<|Zq _ (iz e4 (Z61 rfl rfl (of_decide_eq_true c2)))<|j_b e5 rfl<|j_v e6 rfl<|Z7 rfl<|Z2<|bH h fun z7 e7 h=>bH h fun z8 e8 h=>cH h fun c3 h=>bH h fun z9 e9 h=>cH h fun c4 h=>bH h fun z10 e10 h=>bH h fun z11 e11 h=>bH h fun z12 e12 h=>cH h fun c5 h=>bH h fun l1 g1 h=>Zv<|k_m rfl<|Z0x _ (iz e7 (Zbl rfl rfl (by decide)))<|k_m rfl<|Z0x _ (iz e8 (Zbl rfl rfl (by decide)))<|Z6v rfl rfl (Z0q c3)<|k_m rfl<|k_m rfl<|Z0x _ (iz e9 (Zdp rfl rfl (by decide)))<|Z0x _ (iz e10 (Zno rfl rfl (of_decide_eq_true c4)))<|Z0v _ (iz e11 (Z32 (base:=0) rfl .here rfl (Z0g c3)))<|k_b e12 rfl<|Z6v rfl rfl (Z0q c5)<|Z16 rfl (Z1z (q:=[uA' l1]) (base:=0) g1 rfl rfl rfl (Z0g c5) rfl .here<|Z03<|bH h fun z13 e13 h=>Z1<|Z7 rfl<|j_b e13 rfl<|Z7 rfl<|Z2 ?_)
    rw [q2] at h
    exact ⟨n1,Nat.lt_succ_self _,z13,l1,h,⟨⟨rfl,rfl,rfl,rfl,trivial⟩,(.o (.o (.o .nil)))⟩⟩
   ·exact Z08 _ rfl<|⟨a2,h,⟨⟨rfl,rfl,trivial⟩,(.o (.o (.o .nil)))⟩⟩
 ·rintro t m ⟨a1,h,hF⟩
  refine Zi hF ?_
  clear hF
  subst q1
  refine Z0<|oH h fun y1 f1 h=>Z1<|Z0z (p:=[uA' a1]) rfl .here rfl<|Z2o rfl (Zcd f1)<|Za (Zm (q:=[uA' y1]) rfl rfl rfl rfl rfl .t1<|Z2<|Zf ?_)
  cases h
  exact ⟨_,(.cons (.agg rfl .t1 rfl) .nil),rfl⟩
def q7_D:OL :=
 bnd (([163,120,89,19,202,77,235,117,171,216,65,65,77,10,112,0,152,232,121,119,121,64,199,140,115,254,111,43,238,108,3,82]:LI)) fun z1 =>
 opt (Zbb z1) fun y1 =>
 some y1
theorem Zup {W:World} {r:(LI)} (h:q7_D=some r)  :
    Calls Tryz.prog 273 [].toArray W (Z1w W (agg [uA' r])):=by
 unfold q7_D at h
 refine Z9 mo Z0vp rfl ?_
 refine Z0<|Z1<|Za (Zu fun b1 u1=>Z2<|Z0<|bH h fun z1 e1 h=>oH h fun y1 f1 h=>Z1<|Zq _ (az (fun z=>agg [.ints .u8 32 z]) e1 (Zex (.one rfl rfl rfl (.one rfl rfl rfl (.one rfl rfl rfl (.one rfl rfl rfl (.one rfl rfl rfl (.one rfl rfl rfl (.one rfl rfl rfl (.one rfl rfl rfl (.one rfl rfl rfl (.one rfl rfl rfl (.one rfl rfl rfl (.one rfl rfl rfl (.one rfl rfl rfl (.one rfl rfl rfl (.one rfl rfl rfl (.one rfl rfl rfl (.one rfl rfl rfl (.one rfl rfl rfl (.one rfl rfl rfl (.one rfl rfl rfl (.one rfl rfl rfl (.one rfl rfl rfl (.one rfl rfl rfl (.one rfl rfl rfl (.one rfl rfl rfl (.one rfl rfl rfl (.one rfl rfl rfl (.one rfl rfl rfl (.one rfl rfl rfl (.one rfl rfl rfl (.one rfl rfl rfl (.one rfl rfl rfl BdR.nil))))))))))))))))))))))))))))))))))<|Z2o rfl (Zm5 f1)<|Za (Zm (q:=[uA' y1]) rfl rfl rfl rfl rfl .here<|Z2<|Zf ?_))
 cases h
 exact ⟨_,(.cons (.agg rfl .here rfl) .nil),rfl⟩
def Zpk (p0:Z25) (p1:Z25):Option (Z25) :=
 opt (Z24 p0.gZ p1.gZ) fun y1 =>
 opt (Z24 y1 y1) fun y2 =>
 opt (Z24 p0.gX p1.gX) fun y3 =>
 opt (Z24 p0.gY p1.gY) fun y4 =>
 opt (q7_D) fun y5 =>
 opt (Z24 y3 y4) fun y6 =>
 opt (Z24 y5 y6) fun y7 =>
 opt (Zn1 y2 y7) fun y8 =>
 opt (Zh4 y2 y7) fun y9 =>
 opt (Z24 p0.gX p1.gY) fun y10 =>
 opt (Z24 p0.gY p1.gX) fun y11 =>
 opt (Zh4 y10 y11) fun y12 =>
 opt (Z24 y1 y8) fun y13 =>
 opt (Z24 y13 y12) fun y14 =>
 opt (Z24 y1 y9) fun y15 =>
 opt (Zh4 y4 y3) fun y16 =>
 opt (Z24 y15 y16) fun y17 =>
 opt (Z24 y8 y9) fun y18 =>
 some (⟨y14,y17,y18⟩:Z25)
theorem Zke {W:World} {r:Z25} {p0:Z25} {p1:Z25} (h:Zpk p0 p1=some r)  :
    Calls Tryz.prog 176 [agg (Z8 p0 []),agg (Z8 p1 [])].toArray W (Z1w W (agg (Z8 r []))):=by
 unfold Zpk at h
 refine Z9 mo Z0tz rfl ?_
 refine Z0<|Z1<|Za (Z02 (s:=(Z8 p0 [])) rfl fun b1 u1=>Za (Z02 (s:=(Z8 p1 [])) rfl fun b2 u2=>Za (Zu fun b3 u3=>Z2<|Z0<|oH h fun y1 f1 h=>Z1<|Z4c rfl<|Z0z (p:=[uA' p0.gZ]) rfl .t2 rfl<|Z4c rfl<|Z0z (p:=[uA' p1.gZ]) rfl .t1 rfl<|Z2o rfl (Z0i f1)<|Za (Zu fun b4 u4=>Za (Zm (q:=[uA' y1]) rfl rfl rfl rfl rfl .here<|Z2<|Z0<|oH h fun y2 f2 h=>Z1<|Z0z (p:=[uA' y1]) rfl .here rfl<|Z0z (p:=[uA' y1]) rfl .here rfl<|Z2o rfl (Z0i f2)<|Za (Zu fun b5 u5=>Za (Zm (q:=[uA' y2]) rfl rfl rfl rfl rfl .here<|Z2<|Z0<|oH h fun y3 f3 h=>Z1<|Z4c rfl<|Z0z (p:=[uA' p0.gX]) rfl .t4 rfl<|Z4c rfl<|Z0z (p:=[uA' p1.gX]) rfl .t3 rfl<|Z2o rfl (Z0i f3)<|Za (Zu fun b6 u6=>Za (Zm (q:=[uA' y3]) rfl rfl rfl rfl rfl .here<|Z2<|Z0<|oH h fun y4 f4 h=>Z1<|Z4c rfl<|Z0z (p:=[uA' p0.gY]) rfl .t5 rfl<|Z4c rfl<|Z0z (p:=[uA' p1.gY]) rfl .t4 rfl<|Z2o rfl (Z0i f4)<|Za (Zu fun b7 u7=>Za (Zm (q:=[uA' y4]) rfl rfl rfl rfl rfl .here<|Z2<|Z0<|oH h fun y5 f5 h=>oH h fun y6 f6 h=>oH h fun y7 f7 h=>Zv<|Z4o rfl (Zup f5)<|Z1q (p:=[uA' y3]) rfl .t1 rfl<|Z1q (p:=[uA' y4]) rfl .here rfl<|Z4o rfl (Z0i f6)<|Z4o rfl (Z0i f7)<|Z36 (Zu fun b8 u8=>⟨sU,Z16 rfl (Zm (q:=[uA' y7]) rfl rfl rfl rfl rfl .here (Z03 (Z0 (oH h fun y8 f8 h=>Z1 (Z0z (p:=[uA' y2]) rfl .t3 rfl (Z0z (p:=[uA' y7]) rfl .here rfl (Z2o rfl (Zgl f8) (Za (Zu fun b9 u9=>Za (Zm (q:=[uA' y8]) rfl rfl rfl rfl rfl .here (Z2 (Z0 (oH h fun y9 f9 h=>Z1 (Z0z (p:=[uA' y2]) rfl .t4 rfl (Z0z (p:=[uA' y7]) rfl .t1 rfl (Z2o rfl (Z7g f9) (Za (Zu fun b10 u10=>Za (Zm (q:=[uA' y9]) rfl rfl rfl rfl rfl .here (Z2 (Z0 (oH h fun y10 f10 h=>oH h fun y11 f11 h=>oH h fun y12 f12 h=>Zv (Zdc rfl (Zdc rfl (Zdc rfl (Zdc rfl (Z1q (p:=[uA' p0.gX]) rfl .t9 rfl (Z1q (p:=[uA' p1.gY]) rfl .t8 rfl (Z4o rfl (Z0i f10) (Z1q (p:=[uA' p0.gY]) rfl .t9 rfl (Z1q (p:=[uA' p1.gX]) rfl .t8 rfl (Z4o rfl (Z0i f11) (Z4o rfl (Z7g f12) (Z36 (Zu fun b11 u11=>⟨sU,Z16 rfl (Zm (q:=[uA' y12]) rfl rfl rfl rfl rfl .here (Z03 (Z0 (oH h fun y13 f13 h=>oH h fun y14 f14 h=>Zv (Z1q (p:=[uA' y1]) rfl .t7 rfl (Z1q (p:=[uA' y8]) rfl .t2 rfl (Z4o rfl (Z0i f13) (Z1q (p:=[uA' y12]) rfl .here rfl (Z4o rfl (Z0i f14) (Z36 (Zu fun b12 u12=>⟨sU,Z16 rfl (Zm (q:=[uA' y14]) rfl rfl rfl rfl rfl .here (Z03 (Z0 (oH h fun y15 f15 h=>oH h fun y16 f16 h=>oH h fun y17 f17 h=>Zv (Z1q (p:=[uA' y1]) rfl .t8 rfl (Z1q (p:=[uA' y9]) rfl .t2 rfl (Z4o rfl (Z0i f15) (Z1q (p:=[uA' y4]) rfl .t5 rfl (Z1q (p:=[uA' y3]) rfl .t6 rfl (Z4o rfl (Z7g f16) (Z4o rfl (Z0i f17) (Z36 (Zu fun b13 u13=>⟨sU,Z16 rfl (Zm (q:=[uA' y17]) rfl rfl rfl rfl rfl .here (Z03 (Z0 (oH h fun y18 f18 h=>Zv (Z1q (p:=[uA' y14]) rfl .t1 rfl (Z1q (p:=[uA' y17]) rfl .here rfl (Z1q (p:=[uA' y8]) rfl .t4 rfl (Z1q (p:=[uA' y9]) rfl .t3 rfl (Z4o rfl (Z0i f18) (Z0x _ (Zex (q:=[uA' y14,uA' y17,uA' y18]) (.agg rfl rfl rfl (.agg rfl rfl rfl (.agg rfl rfl rfl BdR.nil)))) (Z16 rfl (Zm (q:=[uA' y14,uA' y17,uA' y18]) rfl rfl rfl rfl rfl (.there .t9) (Z03 (Zf ?_))))))))))))))⟩)))))))))))))⟩)))))))))))⟩)))))))))))))))))))))))))))))))))))⟩))))))))))))
 cases h
 exact ⟨_,(.cons (.agg rfl (.there .t9) rfl) .nil),rfl⟩
def Zmb:Option (Z25) :=
 opt (Z73 0) fun y1 =>
 opt (Z73 1) fun y2 =>
 opt (Z73 1) fun y3 =>
 some (⟨y1,y2,y3⟩:Z25)
theorem Zn4 {W:World} {r:Z25} (h:Zmb=some r)  :
    Calls Tryz.prog 284 [].toArray W (Z1w W (agg (Z8 r []))):=by
 unfold Zmb at h
 refine Z9 mo Z0w0 rfl ?_
 refine Z0<|Z1<|Za (Zu fun b1 u1=>Z2<|Z0<|oH h fun y1 f1 h=>oH h fun y2 f2 h=>oH h fun y3 f3 h=>Z1<|Z2o rfl (Z3l f1)<|Z2o rfl (Z3l f2)<|Z2o rfl (Z3l f3)<|Zq _ (Zex (q:=[uA' y1,uA' y2,uA' y3]) (.agg rfl rfl rfl (.agg rfl rfl rfl (.agg rfl rfl rfl BdR.nil))))<|Za (Zm (q:=[uA' y1,uA' y2,uA' y3]) rfl rfl rfl rfl rfl .here<|Z2<|Zf ?_))
 cases h
 exact ⟨_,(.cons (.agg rfl .here rfl) .nil),rfl⟩
abbrev Z05:El (Z25):=⟨30,fun x=>cells [uA' x.gX,uA' x.gY,uA' x.gZ],fun x=>by rw [cells_length]; rfl,fun x=>(Z1b Zb8 (Z1b Zb8 (Z1b Zb8 Z6f))),by decide,Z7l⟩
def Zbj (p0:Z25) (k1:(List (Z25))->Option ((List (Z25)))) (k2:Int->(List (Z25))->Option ((List (Z25)))) (i1:Int) (a1:List (Z25)):Option ((List (Z25))) :=
 br ((decide (i1<16))) (
 bnd (wrap .i64 (i1-1)) fun z1 =>
 chk (inB z1 16) <|
 bnd (a1.getD (z1).toNat Z7l) fun x1 =>
 opt (Zpk x1 p0) fun y1 =>
 chk (inB i1 16) <|
 bnd (Zh7 Z7l a1 (i1).toNat y1) fun l1 =>
 bnd (wrap .i64 (i1+1)) fun z2 =>
 k2 z2 l1
 ) (
 k1 a1
 )
def Z6b (p0:Z25) (k1:(List (Z25))->Option ((List (Z25)))):Nat->Int->(List (Z25))->Option ((List (Z25)))
  | 0,_,_=>none
  | n+1,i1,a1=>Zbj p0 k1 (Z6b p0 k1 n) i1 a1
def Zid (p0:Z25):Option ((List (Z25))) :=
 opt (Zmb) fun y1 =>
 bnd (Zh7 Z7l (replicate 16 Z7l) 0 y1) fun l1 =>
 jn (fun (a1:List (Z25))=>some a1) fun k1=>Z6b p0 k1 big 1 l1
theorem Zqs {W:World} {r:(List (Z25))} {p0:Z25} (h:Zid p0=some r)  :
    Calls Tryz.prog 283 [agg (Z8 p0 [])].toArray W (Z1w W (agg [.rows 30 16 (Zbp Z05 (r))])):=by
 unfold Zid at h
 refine Z9 mo Z0vz rfl ?_
 refine Z0<|Z1<|Za (Z02 (s:=(Z8 p0 [])) rfl fun b1 u1=>Za (Zou (z':=[.rows 30 16 (Zbp Z05 ((replicate 16 Z7l)))]) (Zga (E:=Z05) rfl rfl) fun b2 u2=>Z2<|Z0<|Z1<|Za (Zou (z':=[.rows 30 16 (Zbp Z05 ((replicate 16 Z7l)))]) (Zga (E:=Z05) rfl rfl) fun b3 u3=>Z2<|Z0<|oH h fun y1 f1 h=>bH h fun l1 g1 h=>Z1<|Zq _ (Z06 (vs:=[]) (v:=agg (Z8 y1 [])) rfl (fun w hw=>Zn4 (r:=y1) f1 ))<|Z44 rfl rfl (by decide)<|Za (Zow (q:=[.rows 30 16 (Zbp Z05 (l1))]) (E:=Z05) (base:=0) (i:=0) (len:=16) g1 rfl rfl rfl rfl (by decide) rfl .here<|Z2<|Z0<|Z0<|Z1<|Z7 rfl<|Z2<|jH h fun k1 q1 h=>Zo (G:=fun t m=>∃ (a1:List (Z25)),k1 a1=some r/\Fit [(2,pt' b2),(3,pt' b3)] (ck b3 344 [.rows 30 16 (Zbp Z05 (a1))]::(ck b2 344 [.rows 30 16 (Zbp Z05 ((replicate 16 Z7l)))]::(ck b1 154 (Z8 p0 []) :: []))) t m) ?_ ?_))))
 ·refine Zb<|Zz (fun n1 t m=>∃ (i1:Int) (a2:List (Z25)),Z6b p0 k1 n1 i1 a2=some r/\Fit [(1,pt' b1),(2,pt' b2),(3,pt' b3),(4,.int .i64 (i1))] (ck b3 344 [.rows 30 16 (Zbp Z05 (a2))]::(ck b2 344 [.rows 30 16 (Zbp Z05 ((replicate 16 Z7l)))]::(ck b1 154 (Z8 p0 []) :: []))) t m) big ?_ ?_
  ·exact ⟨1,l1,h,⟨⟨rfl,rfl,rfl,rfl,trivial⟩,(.o (.o (.o .nil)))⟩⟩
  ·rintro n1 t m ⟨i1,a2,h,hF⟩
   refine Zi hF ?_
   clear hF
   rcases n1 with _ | n1
   · exact Z0s h
   have h:Zbj p0 k1 (Z6b p0 k1 n1) i1 a2=some r:=h
   unfold Zbj at h
   obtain ⟨k2,q2⟩ : ∃ k,k=Z6b p0 k1 n1:=⟨_,rfl⟩
   try rw [<- q2] at h
   refine Z0<|Z0<|Z1<|Z7 rfl<|j_c rfl<|Z2<|Z0k h rfl (fun h=>?_) (fun h=>?_)
   ·refine Zp<|Z0<|Zb<|bH h fun z1 e1 h=>cH h fun c1 h=>bH h fun x1 j1 h=>oH h fun y2 f2 h=>cH h fun c2 h=>bH h fun l2 g2 h=>Zv<|k_m rfl<|k_m rfl<|k_b e1 rfl<|Z6v rfl rfl (Z0q c1)<|Z0v _ (az (fun x1=>agg (Z8 x1 [])) j1 (Zrn (base:=0) (w:=30) rfl .here rfl (Z0g c1) rfl rfl rfl))<|Z1q (p:=(Z8 p0 [])) rfl .t2 rfl<|Z0x _ (Z06 (vs:=[agg (Z8 x1 []),agg (Z8 p0 [])]) (v:=agg (Z8 y2 [])) rfl (fun w hw=>Zke (r:=y2) (p0:=x1) (p1:=p0) f2 ))<|Z6v rfl rfl (Z0q c2)<|Z16 rfl (Zow (q:=[.rows 30 16 (Zbp Z05 (l2))]) (E:=Z05) (base:=0) g2 rfl rfl rfl rfl (Z0g c2) rfl .here<|Z03<|bH h fun z2 e2 h=>Z1<|Z7 rfl<|j_b e2 rfl<|Z7 rfl<|Z2 ?_)
    rw [q2] at h
    exact ⟨n1,Nat.lt_succ_self _,z2,l2,h,⟨⟨rfl,rfl,rfl,rfl,trivial⟩,(.o (.o (.o .nil)))⟩⟩
   ·exact Z08 _ rfl<|⟨a2,h,⟨⟨rfl,rfl,trivial⟩,(.o (.o (.o .nil)))⟩⟩
 ·rintro t m ⟨a1,h,hF⟩
  refine Zi hF ?_
  clear hF
  subst q1
  refine Z0<|Z1<|Z0z (p:=[.rows 30 16 (Zbp Z05 (a1))]) rfl .here (by kernel_rfl)<|Za (Zhj (p:=[.rows 30 16 (Zbp Z05 (a1))]) (q:=[.rows 30 16 (Zbp Z05 (a1))]) rfl rfl (by kernel_rfl) (by kernel_rfl) (Z1b (Zl3 (E:=Z05)) Z6f) .t1<|Z2<|Zf ?_)
  cases h
  exact ⟨_,(.cons (.agg rfl .t1 rfl) .nil),rfl⟩
def Z6n (p0:Z25):Option (Z25) :=
 opt (Z24 p0.gX p0.gX) fun y1 =>
 opt (Z24 p0.gY p0.gY) fun y2 =>
 opt (Z24 p0.gZ p0.gZ) fun y3 =>
 opt (Zn1 y2 y1) fun y4 =>
 opt (Zh4 y3 y3) fun y5 =>
 opt (Zn1 y5 y4) fun y6 =>
 opt (Z24 p0.gX p0.gY) fun y7 =>
 opt (Zh4 y7 y7) fun y8 =>
 opt (Z24 y8 y6) fun y9 =>
 opt (Zh4 y1 y2) fun y10 =>
 opt (Z24 y10 y4) fun y11 =>
 opt (Z24 y4 y6) fun y12 =>
 some (⟨y9,y11,y12⟩:Z25)
theorem Z4q {W:World} {r:Z25} {p0:Z25} (h:Z6n p0=some r)  :
    Calls Tryz.prog 285 [agg (Z8 p0 [])].toArray W (Z1w W (agg (Z8 r []))):=by
 unfold Z6n at h
 refine Z9 mo Z0w1 rfl ?_
 refine Z0<|Z1<|Za (Z02 (s:=(Z8 p0 [])) rfl fun b1 u1=>Za (Zu fun b2 u2=>Z2<|Z0<|oH h fun y1 f1 h=>Z1<|Z4c rfl<|Z0z (p:=[uA' p0.gX]) rfl .t1 rfl<|Z4c rfl<|Z0z (p:=[uA' p0.gX]) rfl .t1 rfl<|Z2o rfl (Z0i f1)<|Za (Zu fun b3 u3=>Za (Zm (q:=[uA' y1]) rfl rfl rfl rfl rfl .here<|Z2<|Z0<|oH h fun y2 f2 h=>Z1<|Z4c rfl<|Z0z (p:=[uA' p0.gY]) rfl .t2 rfl<|Z4c rfl<|Z0z (p:=[uA' p0.gY]) rfl .t2 rfl<|Z2o rfl (Z0i f2)<|Za (Zu fun b4 u4=>Za (Zm (q:=[uA' y2]) rfl rfl rfl rfl rfl .here<|Z2<|Z0<|oH h fun y3 f3 h=>Z1<|Z4c rfl<|Z0z (p:=[uA' p0.gZ]) rfl .t3 rfl<|Z4c rfl<|Z0z (p:=[uA' p0.gZ]) rfl .t3 rfl<|Z2o rfl (Z0i f3)<|Za (Zu fun b5 u5=>Za (Zm (q:=[uA' y3]) rfl rfl rfl rfl rfl .here<|Z2<|Z0<|oH h fun y4 f4 h=>Z1<|Z0z (p:=[uA' y2]) rfl .t1 rfl<|Z0z (p:=[uA' y1]) rfl .t2 rfl<|Z2o rfl (Zgl f4)<|Za (Zu fun b6 u6=>Za (Zm (q:=[uA' y4]) rfl rfl rfl rfl rfl .here<|Z2<|Z0<|oH h fun y5 f5 h=>oH h fun y6 f6 h=>Zv<|Z1q (p:=[uA' y3]) rfl .t1 rfl<|Z1q (p:=[uA' y3]) rfl .t1 rfl<|Z4o rfl (Z7g f5)<|Z1q (p:=[uA' y4]) rfl .here rfl<|Z4o rfl (Zgl f6)<|Z36 (Zu fun b7 u7=>⟨sU,Z16 rfl (Zm (q:=[uA' y6]) rfl rfl rfl rfl rfl .here (Z03 (Z0 (oH h fun y7 f7 h=>Z1 (Z4c rfl (Z0z (p:=[uA' p0.gX]) rfl .t6 rfl (Z4c rfl (Z0z (p:=[uA' p0.gY]) rfl .t6 rfl (Z2o rfl (Z0i f7) (Za (Zu fun b8 u8=>Za (Zm (q:=[uA' y7]) rfl rfl rfl rfl rfl .here (Z2 (Z0 (oH h fun y8 f8 h=>oH h fun y9 f9 h=>Zv (Z1q (p:=[uA' y7]) rfl .here rfl (Z1q (p:=[uA' y7]) rfl .here rfl (Z4o rfl (Z7g f8) (Z1q (p:=[uA' y6]) rfl .t1 rfl (Z4o rfl (Z0i f9) (Z36 (Zu fun b9 u9=>⟨sU,Z16 rfl (Zm (q:=[uA' y9]) rfl rfl rfl rfl rfl .here (Z03 (Z0 (oH h fun y10 f10 h=>oH h fun y11 f11 h=>Zv (Z1q (p:=[uA' y1]) rfl .t6 rfl (Z1q (p:=[uA' y2]) rfl .t5 rfl (Z4o rfl (Z7g f10) (Z1q (p:=[uA' y4]) rfl .t3 rfl (Z4o rfl (Z0i f11) (Z36 (Zu fun b10 u10=>⟨sU,Z16 rfl (Zm (q:=[uA' y11]) rfl rfl rfl rfl rfl .here (Z03 (Z0 (oH h fun y12 f12 h=>Zv (Z1q (p:=[uA' y9]) rfl .t1 rfl (Z1q (p:=[uA' y11]) rfl .here rfl (Z1q (p:=[uA' y4]) rfl .t4 rfl (Z1q (p:=[uA' y6]) rfl .t3 rfl (Z4o rfl (Z0i f12) (Z0x _ (Zex (q:=[uA' y9,uA' y11,uA' y12]) (.agg rfl rfl rfl (.agg rfl rfl rfl (.agg rfl rfl rfl BdR.nil)))) (Z16 rfl (Zm (q:=[uA' y9,uA' y11,uA' y12]) rfl rfl rfl rfl rfl .t8 (Z03 (Zf ?_))))))))))))))⟩)))))))))))⟩))))))))))))))))))))))⟩)))))))))))
 cases h
 exact ⟨_,(.cons (.agg rfl .t8 rfl) .nil),rfl⟩
def Zib (p0:LI) (y1:(List (Z25))) (k1:(LI)->(LI)->(LI)->Option (Z25)) (k2:Int->(LI)->(LI)->(LI)->Option (Z25)) (i1:Int) (a1:LI) (a2:LI) (a3:LI):Option (Z25) :=
 br ((decide (i1≥0))) (
 chk (inB i1 32) <|
 opt (Z6n (⟨a1,a2,a3⟩:Z25)) fun y2 =>
 opt (Z6n y2) fun y3 =>
 opt (Z6n y3) fun y4 =>
 opt (Z6n y4) fun y5 =>
 bnd (p0.getD (i1).toNat 0) fun z1 =>
 bnd (wrap .u8 (Int.tdiv z1 16)) fun z2 =>
 chk (inB z2 16) <|
 bnd (y1.getD (z2).toNat Z7l) fun x1 =>
 opt (Zpk y5 x1) fun y6 =>
 chk (inB i1 32) <|
 opt (Z6n y6) fun y7 =>
 opt (Z6n y7) fun y8 =>
 opt (Z6n y8) fun y9 =>
 opt (Z6n y9) fun y10 =>
 bnd (p0.getD (i1).toNat 0) fun z3 =>
 bnd (Int.tmod z3 16) fun z4 =>
 chk (inB z4 16) <|
 bnd (y1.getD (z4).toNat Z7l) fun x2 =>
 opt (Zpk y10 x2) fun y11 =>
 bnd (wrap .i64 (i1-1)) fun z5 =>
 k2 z5 y11.gX y11.gY y11.gZ
 ) (
 k1 a1 a2 a3
 )
def Zbi (p0:LI) (y1:(List (Z25))) (k1:(LI)->(LI)->(LI)->Option (Z25)):Nat->Int->(LI)->(LI)->(LI)->Option (Z25)
  | 0,_,_,_,_=>none
  | n+1,i1,a1,a2,a3=>Zib p0 y1 k1 (Zbi p0 y1 k1 n) i1 a1 a2 a3
def Zuq (p0:LI) (p1:Z25):Option (Z25) :=
 opt (Zid p1) fun y1 =>
 opt (Zmb) fun y2 =>
 jn (fun (a1:LI) (a2:LI) (a3:LI)=>some (⟨a1,a2,a3⟩:Z25)) fun k1=>Zbi p0 y1 k1 big 31 y2.gX y2.gY y2.gZ
theorem Zws {W:World} {r:Z25} {p0:LI} {p1:Z25} (h:Zuq p0 p1=some r)  :
    Calls Tryz.prog 177 [agg [b3' p0],agg (Z8 p1 [])].toArray W (Z1w W (agg (Z8 r []))):=by
 unfold Zuq at h
 refine Z9 mo Z0u0 rfl ?_
 refine Z0<|Z1<|Za (Z02 (s:=[b3' p0]) rfl fun b1 u1=>Za (Z02 (s:=(Z8 p1 [])) rfl fun b2 u2=>Za (Zu fun b3 u3=>Z2<|Z0<|oH h fun y1 f1 h=>Z1<|Z0z (p:=(Z8 p1 [])) rfl .t1 rfl<|Z2o rfl (Zqs f1)<|Za (Zou (z':=[.rows 30 16 (Zbp Z05 ((replicate 16 Z7l)))]) (Zga (E:=Z05) rfl rfl) fun b4 u4=>Za (Zhj (p:=[.rows 30 16 (Zbp Z05 (y1))]) (q:=[.rows 30 16 (Zbp Z05 (y1))]) rfl rfl (by kernel_rfl) (by kernel_rfl) (Z1b (Zl3 (E:=Z05)) Z6f) .here<|Z2<|Z0<|oH h fun y2 f2 h=>Z1<|Zq _ (Z06 (vs:=[]) (v:=agg (Z8 y2 [])) rfl (fun w hw=>Zn4 (r:=y2) f2 ))<|Za (Zu fun b5 u5=>Za (Zm (q:=(Z8 y2 [])) rfl rfl rfl rfl rfl .here<|Z2<|Z0<|Z0<|Z1<|Z7 rfl<|Z2<|jH h fun k1 q1 h=>Zo (G:=fun t m=>∃ (a1:LI) (a2:LI) (a3:LI),k1 a1 a2 a3=some r/\Fit [(4,pt' b3),(6,pt' b5)] (ck b5 154 [uA' a1,uA' a2,uA' a3]::(ck b4 344 [.rows 30 16 (Zbp Z05 (y1))]::(ck b3 154 [uA' (replicate 10 0),uA' (replicate 10 0),uA' (replicate 10 0)]::(ck b2 154 (Z8 p1 [])::(ck b1 149 [b3' p0] :: []))))) t m) ?_ ?_)))))))
 ·refine Zb<|Zz (fun n1 t m=>∃ (i1:Int) (a4:LI) (a5:LI) (a6:LI),Zbi p0 y1 k1 n1 i1 a4 a5 a6=some r/\Fit [(2,pt' b1),(4,pt' b3),(5,pt' b4),(6,pt' b5),(7,.int .i64 (i1))] (ck b5 154 [uA' a4,uA' a5,uA' a6]::(ck b4 344 [.rows 30 16 (Zbp Z05 (y1))]::(ck b3 154 [uA' (replicate 10 0),uA' (replicate 10 0),uA' (replicate 10 0)]::(ck b2 154 (Z8 p1 [])::(ck b1 149 [b3' p0] :: []))))) t m) big ?_ ?_
  ·exact ⟨31,y2.gX,y2.gY,y2.gZ,h,⟨⟨rfl,rfl,rfl,rfl,rfl,trivial⟩,(.o (.o (.o (.o (.o .nil)))))⟩⟩
  ·rintro n1 t m ⟨i1,a4,a5,a6,h,hF⟩
   refine Zi hF ?_
   clear hF
   rcases n1 with _ | n1
   · exact Z0s h
   have h:Zib p0 y1 k1 (Zbi p0 y1 k1 n1) i1 a4 a5 a6=some r:=h
   unfold Zib at h
   obtain ⟨k2,q2⟩ : ∃ k,k=Zbi p0 y1 k1 n1:=⟨_,rfl⟩
   try rw [<- q2] at h
   refine Z0<|Z0<|Z1<|Z7 rfl<|j_c rfl<|Z2<|Z0k h rfl (fun h=>?_) (fun h=>?_)
   ·refine Zp<|Z0<|Zb<|Z0<|cH h fun c1 h=>oH h fun y3 f3 h=>oH h fun y4 f4 h=>oH h fun y5 f5 h=>oH h fun y6 f6 h=>bH h fun z1 e1 h=>bH h fun z2 e2 h=>cH h fun c2 h=>bH h fun x1 j1 h=>oH h fun y7 f7 h=>Zv<|k_m rfl<|Z6v rfl rfl (Z0q c1)<|Z1q (p:=[uA' a4,uA' a5,uA' a6]) rfl .here rfl<|Z0x _ (Z06 (vs:=[agg [uA' a4,uA' a5,uA' a6]]) (v:=agg (Z8 y3 [])) rfl (fun w hw=>Z4q (r:=y3) (p0:=(⟨a4,a5,a6⟩:Z25)) f3 ))<|Z0x _ (Z06 (vs:=[agg (Z8 y3 [])]) (v:=agg (Z8 y4 [])) rfl (fun w hw=>Z4q (r:=y4) (p0:=y3) f4 ))<|Z0x _ (Z06 (vs:=[agg (Z8 y4 [])]) (v:=agg (Z8 y5 [])) rfl (fun w hw=>Z4q (r:=y5) (p0:=y4) f5 ))<|Z0x _ (Z06 (vs:=[agg (Z8 y5 [])]) (v:=agg (Z8 y6 [])) rfl (fun w hw=>Z4q (r:=y6) (p0:=y5) f6 ))<|Z0v _ (iz e1 (Z32 (base:=0) rfl .t4 rfl (Z0g c1)))<|Z0x _ (iz e2 (Zbl rfl rfl (by decide)))<|Z6v rfl rfl (Z0q c2)<|Z0v _ (az (fun x1=>agg (Z8 x1 [])) j1 (Zrn (base:=0) (w:=30) rfl .t1 rfl (Z0g c2) rfl rfl rfl))<|Z0x _ (Z06 (vs:=[agg (Z8 y6 []),agg (Z8 x1 [])]) (v:=agg (Z8 y7 [])) rfl (fun w hw=>Zke (r:=y7) (p0:=y6) (p1:=x1) f7 ))<|Z16 rfl (Zm (q:=(Z8 y7 [])) rfl rfl rfl rfl rfl .here<|Z03<|cH h fun c3 h=>oH h fun y8 f8 h=>oH h fun y9 f9 h=>oH h fun y10 f10 h=>oH h fun y11 f11 h=>bH h fun z3 e3 h=>bH h fun z4 e4 h=>cH h fun c4 h=>bH h fun x2 j2 h=>oH h fun y12 f12 h=>Zv<|k_m rfl<|Z6v rfl rfl (Z0q c3)<|Z1q (p:=(Z8 y7 [])) rfl .here rfl<|Z0x _ (Z06 (vs:=[agg (Z8 y7 [])]) (v:=agg (Z8 y8 [])) rfl (fun w hw=>Z4q (r:=y8) (p0:=y7) f8 ))<|Z0x _ (Z06 (vs:=[agg (Z8 y8 [])]) (v:=agg (Z8 y9 [])) rfl (fun w hw=>Z4q (r:=y9) (p0:=y8) f9 ))<|Z0x _ (Z06 (vs:=[agg (Z8 y9 [])]) (v:=agg (Z8 y10 [])) rfl (fun w hw=>Z4q (r:=y10) (p0:=y9) f10 ))<|Z0x _ (Z06 (vs:=[agg (Z8 y10 [])]) (v:=agg (Z8 y11 [])) rfl (fun w hw=>Z4q (r:=y11) (p0:=y10) f11 ))<|Z0v _ (iz e3 (Z32 (base:=0) rfl .t4 rfl (Z0g c3)))<|Z0x _ (iz e4 (Zdp rfl rfl (by decide)))<|Z6v rfl rfl (Z0q c4)<|Z0v _ (az (fun x2=>agg (Z8 x2 [])) j2 (Zrn (base:=0) (w:=30) rfl .t1 rfl (Z0g c4) rfl rfl rfl))<|Z0x _ (Z06 (vs:=[agg (Z8 y11 []),agg (Z8 x2 [])]) (v:=agg (Z8 y12 [])) rfl (fun w hw=>Zke (r:=y12) (p0:=y11) (p1:=x2) f12 ))<|Z16 rfl (Zm (q:=(Z8 y12 [])) rfl rfl rfl rfl rfl .here<|Z03<|bH h fun z5 e5 h=>Z1<|Z7 rfl<|j_b e5 rfl<|Z7 rfl<|Z2 ?_))
    rw [q2] at h
    exact ⟨n1,Nat.lt_succ_self _,z5,y12.gX,y12.gY,y12.gZ,h,⟨⟨rfl,rfl,rfl,rfl,rfl,trivial⟩,(.o (.o (.o (.o (.o .nil)))))⟩⟩
   ·exact Z08 _ rfl<|⟨a4,a5,a6,h,⟨⟨rfl,rfl,trivial⟩,(.o (.o (.o (.o (.o .nil)))))⟩⟩
 ·rintro t m ⟨a1,a2,a3,h,hF⟩
  refine Zi hF ?_
  clear hF
  subst q1
  refine Z0<|Z1<|Z0z (p:=[uA' a1,uA' a2,uA' a3]) rfl .here rfl<|Za (Zm (q:=[uA' a1,uA' a2,uA' a3]) rfl rfl rfl rfl rfl .t2<|Z2<|Zf ?_)
  cases h
  exact ⟨_,(.cons (.agg rfl .t2 rfl) .nil),rfl⟩
def Zfn (p0:LI):Option Bool :=
 bnd (([0,0,0,0,0,0,0,0,0,0]:LI)) fun z1 =>
 some (ieq 10 p0 z1)
theorem Zjw {W:World} {r:Bool} {p0:LI} (h:Zfn p0=some r)  :
    Calls Tryz.prog 165 [agg [uA' p0]].toArray W (Z1w W (.bool (r))):=by
 unfold Zfn at h
 refine Z9 mo Z0to rfl ?_
 refine Z0<|Z1<|Za (Z02 (s:=[uA' p0]) rfl fun b1 u1=>Z7 rfl<|Z2<|Z0<|bH h fun z1 e1 h=>Z1<|Z0z (p:=[uA' p0]) rfl .here rfl<|Zq _ (az (fun z=>agg [.ints .u64 10 z]) e1 (Zex BdR.nil))<|Zq _ (Z06x rfl rfl rfl rfl _ (Zny Z5b))<|Z7 rfl<|Z2<|Zf ?_)
 cases h
 exact ⟨_,(.cons (.tmp rfl) .nil),rfl⟩
def Zm7 (p0:LI):OL :=
 opt (Zj9 p0) fun y1 =>
 br (y1) (
 opt (Zrk p0) fun y2 =>
 some y2
 ) (
 some p0
 )
theorem Zn2 {W:World} {r:(LI)} {p0:LI} (h:Zm7 p0=some r)  :
    Calls Tryz.prog 400 [agg [uA' p0]].toArray W (Z1w W (agg [uA' r])):=by
 unfold Zm7 at h
 refine Z9 mo Z0y5 rfl ?_
 refine Z0<|Z1<|Za (Z02 (s:=[uA' p0]) rfl fun b1 u1=>Za (Zu fun b2 u2=>Z2<|Z0<|Z0<|oH h fun y1 f1 h=>Z1<|Z0z (p:=[uA' p0]) rfl .t1 rfl<|Z2o rfl (Zl9 f1)<|Z2<|Z0k h rfl (fun h=>?_) (fun h=>?_)))
 ·refine Z0<|oH h fun y2 f2 h=>Z1<|Z0z (p:=[uA' p0]) rfl .t1 rfl<|Z2o rfl (Zpg f2)<|Za (Zm (q:=[uA' y2]) rfl rfl rfl rfl rfl .here<|Z2<|Zf ?_)
  cases h
  exact ⟨_,(.cons (.agg rfl .here rfl) .nil),rfl⟩
 ·refine Zp<|Z0<|Z1<|Z0z (p:=[uA' p0]) rfl .t1 rfl<|Za (Zm (q:=[uA' p0]) rfl rfl rfl rfl rfl .here<|Z2<|Zf ?_)
  cases h
  exact ⟨_,(.cons (.agg rfl .here rfl) .nil),rfl⟩
def Zbf (p0:LI) (p1:LI):Option ((LI)×Bool) :=
 opt (Zfn p1) fun y1 =>
 br (y1) (
 bnd (([0,0,0,0,0,0,0,0,0,0]:LI)) fun z1 =>
 opt (Zfn p0) fun y2 =>
 some (z1,y2)
 ) (
 opt (Zbc p1) fun y3 =>
 opt (Z24 p0 y3) fun y4 =>
 opt (Zec 254 15) fun y5 =>
 opt (Zph y4 y5) fun y6 =>
 opt (Z24 y6 y6) fun y7 =>
 br ((ieq 10 y7 y4)) (
 opt (Zm7 y6) fun y8 =>
 some (y8,true)
 ) (
 opt (Z73 2) fun y9 =>
 opt (Zec 251 31) fun y10 =>
 opt (Zph y9 y10) fun y11 =>
 opt (Z24 y6 y11) fun y12 =>
 opt (Z24 y12 y12) fun y13 =>
 br ((ieq 10 y13 y4)) (
 opt (Zm7 y12) fun y14 =>
 some (y14,true)
 ) (
 bnd (([0,0,0,0,0,0,0,0,0,0]:LI)) fun z2 =>
 some (z2,false)
 )
 )
 )
theorem Zm6 {W:World} {r:(LI)×Bool} {p0:LI} {p1:LI} (h:Zbf p0 p1=some r)  :
    Calls Tryz.prog 274 [agg [uA' p0],agg [uA' p1]].toArray W (Z1w W (.tuple #[agg [uA' r.1],.bool (r.2)])):=by
 unfold Zbf at h
 refine Z9 mo Z0vq rfl ?_
 refine Z0<|Z1<|Za (Z02 (s:=[uA' p0]) rfl fun b1 u1=>Za (Z02 (s:=[uA' p1]) rfl fun b2 u2=>Za (Zu fun b3 u3=>Z7 rfl<|Z2<|Z0<|Z0<|oH h fun y1 f1 h=>Z1<|Z0z (p:=[uA' p1]) rfl .t1 rfl<|Z2o rfl (Zjw f1)<|Z2<|Z0k h rfl (fun h=>?_) (fun h=>?_))))
 ·refine Z0<|bH h fun z1 e1 h=>oH h fun y2 f2 h=>Z1<|Zq _ (az (fun z=>agg [.ints .u64 10 z]) e1 (Zex BdR.nil))<|Z0z (p:=[uA' p0]) rfl .t2 rfl<|Z2o rfl (Zjw f2)<|Za (Zm (q:=[uA' z1]) rfl rfl rfl rfl rfl .here<|Z7 rfl<|Z2<|Zf ?_)
  cases h
  exact ⟨_,(.cons (.agg rfl .here rfl) (.cons (.tmp rfl) .nil)),rfl⟩
 ·refine Zp<|Z0<|oH h fun y3 f3 h=>oH h fun y4 f4 h=>Zv<|Z1q (p:=[uA' p0]) rfl .t2 rfl<|Z1q (p:=[uA' p1]) rfl .t1 rfl<|Z4o rfl (Zev f3)<|Z4o rfl (Z0i f4)<|Z36 (Zu fun b4 u4=>⟨sU,Z16 rfl (Zm (q:=[uA' y4]) rfl rfl rfl rfl rfl .here (Z03 (Z0 (oH h fun y5 f5 h=>oH h fun y6 f6 h=>Zv (Z4o rfl (Zgk f5) (Z1q (p:=[uA' y4]) rfl .here rfl (Z4o rfl (Zkb f6) (Z36 (Zu fun b5 u5=>⟨sU,Z16 rfl (Zm (q:=[uA' y6]) rfl rfl rfl rfl rfl .here (Z03 (Z0 (Z0 (oH h fun y7 f7 h=>Zv (Z1q (p:=[uA' y6]) rfl .here rfl (Z1q (p:=[uA' y6]) rfl .here rfl (Z4o rfl (Z0i f7) (Z1q (p:=[uA' y4]) rfl .t1 rfl (Z0x _ (Z06x rfl rfl rfl rfl _ (Zny Z5b)) (Z03 (Z0k h rfl (fun h=>?_) (fun h=>?_)))))))))))))⟩)))))))))⟩)
  ·refine Z0<|oH h fun y8 f8 h=>Z1<|Z0z (p:=[uA' y6]) rfl .here rfl<|Z2o rfl (Zn2 f8)<|Za (Zm (q:=[uA' y8]) rfl rfl rfl rfl rfl .t2<|Z7 rfl<|Z2<|Zf ?_)
   cases h
   exact ⟨_,(.cons (.agg rfl .t2 rfl) (.cons (.tmp rfl) .nil)),rfl⟩
  ·refine Zp<|Z0<|oH h fun y9 f9 h=>oH h fun y10 f10 h=>oH h fun y11 f11 h=>oH h fun y12 f12 h=>Zv<|Z4o rfl (Z3l f9)<|Z4o rfl (Zgk f10)<|Z4o rfl (Zkb f11)<|Z1q (p:=[uA' y6]) rfl .here rfl<|Z4o rfl (Z0i f12)<|Z16 rfl (Zm (q:=[uA' y12]) rfl rfl rfl rfl rfl .here<|Z03<|Z0<|Z0<|oH h fun y13 f13 h=>Zv<|Z1q (p:=[uA' y12]) rfl .here rfl<|Z1q (p:=[uA' y12]) rfl .here rfl<|Z4o rfl (Z0i f13)<|Z1q (p:=[uA' y4]) rfl .t1 rfl<|Z0x _ (Z06x rfl rfl rfl rfl _ (Zny Z5b))<|Z03<|Z0k h rfl (fun h=>?_) (fun h=>?_))
   ·refine Z0<|oH h fun y14 f14 h=>Z1<|Z0z (p:=[uA' y12]) rfl .here rfl<|Z2o rfl (Zn2 f14)<|Za (Zm (q:=[uA' y14]) rfl rfl rfl rfl rfl .t2<|Z7 rfl<|Z2<|Zf ?_)
    cases h
    exact ⟨_,(.cons (.agg rfl .t2 rfl) (.cons (.tmp rfl) .nil)),rfl⟩
   ·refine Zp<|Z0<|bH h fun z2 e2 h=>Z1<|Zq _ (az (fun z=>agg [.ints .u64 10 z]) e2 (Zex BdR.nil))<|Za (Zm (q:=[uA' z2]) rfl rfl rfl rfl rfl .t2<|Z7 rfl<|Z2<|Zf ?_)
    cases h
    exact ⟨_,(.cons (.agg rfl .t2 rfl) (.cons (.tmp rfl) .nil)),rfl⟩
end Go.Proofs.YtkjfpenagcdmcaaGreatDoor
