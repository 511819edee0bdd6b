/- Texts of a proof, one behind the other: SL14 SL15 SL16 SL17 SL18 SL19 ST1 ST3 ST2 SL20 SL21 SL22 SLZ SF0 SF1 SF2 SF3 SF4 SF5. -/
import Derived.Test.YtkjfpenagcdmcaaGreatDoorMS4
namespace Go.Proofs.YtkjfpenagcdmcaaGreatDoor
open Go Go.Sx Go.RowKit
open List (replicate)
open Go.IntKind (wrap)
set_option linter.all false
set_option maxHeartbeats 400000
set_option maxRecDepth 100000
def Zic (p0:LI):Option ((LI)×Bool) :=
 opt (Z24 p0 p0) fun y1 =>
 opt (Z73 1) fun y2 =>
 opt (Zn1 y1 y2) fun y3 =>
 opt (q7_D) fun y4 =>
 opt (Z24 y4 y1) fun y5 =>
 opt (Z73 1) fun y6 =>
 opt (Zh4 y5 y6) fun y7 =>
 opt (Zbf y3 y7) fun y8 =>
 some (y8.1,y8.2)
theorem Zqq {W:World} {r:(LI)×Bool} {p0:LI} (h:Zic p0=some r)  :
    Calls Tryz.prog 164 [agg [uA' p0]].toArray W (Z1w W (.tuple #[agg [uA' r.1],.bool (r.2)])):=by
 unfold Zic at h
 refine Z9 mo Z0tn rfl ?_
 refine Z0<|Z1<|Za (Z02 (s:=[uA' p0]) rfl fun b1 u1=>Za (Zu fun b2 u2=>Z7 rfl<|Z2<|Z0<|oH h fun y1 f1 h=>Z1<|Z0z (p:=[uA' p0]) rfl .t1 rfl<|Z0z (p:=[uA' p0]) rfl .t1 rfl<|Z2o rfl (Z0i f1)<|Za (Zu fun b3 u3=>Za (Zm (q:=[uA' y1]) rfl rfl rfl rfl rfl .here<|Z2<|Z0<|oH h fun y2 f2 h=>oH h fun y3 f3 h=>Zv<|Z4o rfl (Z3l f2)<|Z1q (p:=[uA' y1]) rfl .here rfl<|Z4o rfl (Zgl f3)<|Z36 (Zu fun b4 u4=>⟨sU,Z16 rfl (Zm (q:=[uA' y3]) rfl rfl rfl rfl rfl .here (Z03 (Z0 (oH h fun y4 f4 h=>oH h fun y5 f5 h=>oH h fun y6 f6 h=>oH h fun y7 f7 h=>Zv (Z4o rfl (Zup f4) (Z1q (p:=[uA' y1]) rfl .t1 rfl (Z4o rfl (Z0i f5) (Z4o rfl (Z3l f6) (Z4o rfl (Z7g f7) (Z36 (Zu fun b5 u5=>⟨sU,Z16 rfl (Zm (q:=[uA' y7]) rfl rfl rfl rfl rfl .here (Z03 (Z0 (oH h fun y8 f8 h=>Z1 (Z0z (p:=[uA' y3]) rfl .t1 rfl (Z0z (p:=[uA' y7]) rfl .here rfl (Z2o rfl (Zm6 f8) (Zf1 rfl rfl (Zf1 rfl rfl (Za (Zm (q:=[uA' y8.1]) rfl rfl rfl rfl rfl .t3 (Z7 rfl (Z2 (Zf ?_))))))))))))))⟩)))))))))))⟩)))))
 cases h
 exact ⟨_,(.cons (.agg rfl .t3 rfl) (.cons (.tmp rfl) .nil)),rfl⟩
def Zfv (p0:LI) (p1:LI):Option (Z25) :=
 opt (Z73 1) fun y1 =>
 some (⟨p0,p1,y1⟩:Z25)
theorem Zqr {W:World} {r:Z25} {p0:LI} {p1:LI} (h:Zfv p0 p1=some r)  :
    Calls Tryz.prog 167 [agg [uA' p0],agg [uA' p1]].toArray W (Z1w W (agg (Z8 r []))):=by
 unfold Zfv at h
 refine Z9 mo Z0tq rfl ?_
 refine Z0<|Z1<|Za (Z02 (s:=[uA' p0]) rfl fun b1 u1=>Za (Z02 (s:=[uA' p1]) rfl fun b2 u2=>Za (Zu fun b3 u3=>Z2<|Z0<|oH h fun y1 f1 h=>Zv<|Z4o rfl (Z3l f1)<|Z1q (p:=[uA' p0]) rfl .t2 rfl<|Z1q (p:=[uA' p1]) rfl .t1 rfl<|Z0x _ (Zex (q:=[uA' p0,uA' p1,uA' y1]) (.agg rfl rfl rfl (.agg rfl rfl rfl (.agg rfl rfl rfl BdR.nil))))<|Z16 rfl (Zm (q:=[uA' p0,uA' p1,uA' y1]) rfl rfl rfl rfl rfl .here<|Z03<|Zf ?_))))
 cases h
 exact ⟨_,(.cons (.agg rfl .here rfl) .nil),rfl⟩
def Zpl:Option (Z25) :=
 opt (Z73 4) fun y1 =>
 opt (Z73 5) fun y2 =>
 opt (Zbc y2) fun y3 =>
 opt (Z24 y1 y3) fun y4 =>
 opt (Zic y4) fun y5 =>
 opt (Zfv y5.1 y4) fun y6 =>
 some y6
theorem Zuo {W:World} {r:Z25} (h:Zpl=some r)  :
    Calls Tryz.prog 210 [].toArray W (Z1w W (agg (Z8 r []))):=by
 unfold Zpl at h
 refine Z9 mo Z0uc rfl ?_
 refine Z0<|Z1<|Za (Zu fun b1 u1=>Z2<|Z0<|oH h fun y1 f1 h=>oH h fun y2 f2 h=>oH h fun y3 f3 h=>oH h fun y4 f4 h=>Z1<|Z2o rfl (Z3l f1)<|Z2o rfl (Z3l f2)<|Z2o rfl (Zev f3)<|Z2o rfl (Z0i f4)<|Za (Zu fun b2 u2=>Za (Zm (q:=[uA' y4]) rfl rfl rfl rfl rfl .here<|Z2<|Z0<|oH h fun y5 f5 h=>Z1<|Z0z (p:=[uA' y4]) rfl .here rfl<|Z2o rfl (Zqq f5)<|Z7 rfl<|Zf1 rfl rfl<|Zf1 rfl rfl<|Za (Zu fun b3 u3=>Za (Zm (q:=[uA' y5.1]) rfl rfl rfl rfl rfl .here<|Z7 rfl<|Z2<|Z0<|oH h fun y6 f6 h=>Z1<|Z0z (p:=[uA' y5.1]) rfl .here rfl<|Z0z (p:=[uA' y4]) rfl .t1 rfl<|Z2o rfl (Zqr f6)<|Za (Zm (q:=(Z8 y6 [])) rfl rfl rfl rfl rfl .t2<|Z2<|Zf ?_))))))
 cases h
 exact ⟨_,(.cons (.agg rfl .t2 rfl) .nil),rfl⟩
def Zcn (p0:LI):Option (Z25) :=
 opt (Zpl) fun y1 =>
 opt (Zuq p0 y1) fun y2 =>
 some y2
theorem Zia {W:World} {r:Z25} {p0:LI} (h:Zcn p0=some r)  :
    Calls Tryz.prog 116 [agg [b3' p0]].toArray W (Z1w W (agg (Z8 r []))):=by
 unfold Zcn at h
 refine Z9 mo Z0st rfl ?_
 refine Z0<|Z1<|Za (Z02 (s:=[b3' p0]) rfl fun b1 u1=>Za (Zu fun b2 u2=>Z2<|Z0<|oH h fun y1 f1 h=>oH h fun y2 f2 h=>Zv<|Z4o rfl (Zuo f1)<|Z1q (p:=[b3' p0]) rfl .t1 rfl<|Z4o rfl (Zws f2)<|Z16 rfl (Zm (q:=(Z8 y2 [])) rfl rfl rfl rfl rfl .here<|Z03<|Zf ?_)))
 cases h
 exact ⟨_,(.cons (.agg rfl .here rfl) .nil),rfl⟩
def Zie (p0:LI):OL :=
 opt (Z85 p0) fun y1 =>
 opt (Zcn y1) fun y2 =>
 opt (Zfu y2) fun y3 =>
 some y3
theorem Zqt {W:World} {r:(LI)} {p0:LI} (h:Zie p0=some r) (hG:Globs W) :
    Calls Tryz.prog 115 [agg [b3' p0]].toArray W (Z1w W (agg [b3' r])):=by
 unfold Zie at h
 refine Z9 mo Z0ss rfl ?_
 refine Z0<|Z1<|Za (Z02 (s:=[b3' p0]) rfl fun b1 u1=>Za (Zu fun b2 u2=>Z2<|Z0<|oH h fun y1 f1 h=>oH h fun y2 f2 h=>oH h fun y3 f3 h=>Z1<|Z0z (p:=[b3' p0]) rfl .t1 rfl<|Zq _ (Z06 rfl (fun w hw=>Zee f1 (hG.at hw (by simp))))<|Z2o rfl (Zia f2)<|Z2o rfl (Zjy f3)<|Za (Zm (q:=[b3' y3]) rfl rfl rfl rfl rfl .here<|Z2<|Zf ?_)))
 cases h
 exact ⟨_,(.cons (.agg rfl .here rfl) .nil),rfl⟩
def Zi8 (p0:LI) (p1:LI) (k1:(LI)->Int->OL) (k2:(LI)->Int->Int->OL) (l1:LI) (i1:Int) (i2:Int):OL :=
 opt (Zft p0 p1) fun y1 =>
 br ((decide (i2<y1))) (
 opt (Zma p0 i2) fun y2 =>
 opt (Zma p1 i2) fun y3 =>
 bnd (wrap .i64 (y2+y3)) fun z1 =>
 bnd (wrap .i64 (z1+i1)) fun z2 =>
 bnd (Int.tmod z2 256) fun z3 =>
 chk (decide ((l1.length+([z3]:LI).length)*8<=140737488355328)) <|
 bnd (l1++([z3]:LI)) fun l2 =>
 bnd (wrap .i64 (Int.tdiv z2 256)) fun z4 =>
 bnd (wrap .i64 (i2+1)) fun z5 =>
 k2 l2 z4 z5
 ) (
 k1 l1 i1
 )
def Zbg (p0:LI) (p1:LI) (k1:(LI)->Int->OL):Nat->(LI)->Int->Int->OL
  | 0,_,_,_=>none
  | n+1,l1,i1,i2=>Zi8 p0 p1 k1 (Zbg p0 p1 k1 n) l1 i1 i2
def Zum (p0:LI) (p1:LI):OL :=
 jn (fun (l1:LI) (i1:Int)=>chk (decide ((l1.length+([i1]:LI).length)*8<=140737488355328)) <|
 bnd (l1++([i1]:LI)) fun l2 =>
 some l2) fun k1=>Zbg p0 p1 k1 big [] 0 0
theorem Zwq {W:World} {r:(LI)} {p0:LI} {p1:LI} {v0:Value} {v1:Value} (h:Zum p0 p1=some r) (A0:Z6r (El.int .i64) W v0 p0) (A1:Z6r (El.int .i64) W v1 p1) :
    Calls Tryz.prog 211 [v0,v1].toArray W (Z67 W [] (fun v Ms=>∃ (u0:Value) (M1:List Zd),v=u0/\Ms = [.all M1]/\Z0c (El.int .i64) u0 M1 r)):=by
 unfold Zum at h
 refine Zj mo Z0ud rfl (Zbz _) ?_
 refine Z0<|Z1<|Z7 rfl<|Z2<|Z0<|Z1<|Z7 rfl<|Z2<|Z0<|Z1<|Z7 rfl<|Z2<|Z0<|Z0<|Z1<|Z7 rfl<|Z2<|jH h fun k1 q1 h=>Zo (G:=fun t m=>∃ (l1:LI) (i1:Int) (v84:Value) (w1:List Zd),k1 l1 i1=some r/\Z0c (El.int .i64) v84 w1 l1/\Fit [(5,v84),(6,.int .i64 (i1))] (w1 ++ []) t m) ?_ ?_
 ·refine Zb<|Zz (fun n1 t m=>∃ (l2:LI) (i2:Int) (i3:Int) (v139:Value) (w2:List Zd),Zbg p0 p1 k1 n1 l2 i2 i3=some r/\Z0c (El.int .i64) v139 w2 l2/\Fit [(0,v0),(1,v1),(5,v139),(6,.int .i64 (i2)),(7,.int .i64 (i3))] (w2 ++ []) t m) big ?_ ?_
  ·exact ⟨[],0,0,(.slice none 0 0),[],h,Z3y,⟨⟨rfl,rfl,rfl,rfl,rfl,trivial⟩,(.no .nil)⟩⟩
  ·rintro n1 t m ⟨l2,i2,i3,v139,w2,h,O1,hF⟩
   refine Zi hF ?_
   clear hF
   rcases n1 with _ | n1
   · exact Z0s h
   have h:Zi8 p0 p1 k1 (Zbg p0 p1 k1 n1) l2 i2 i3=some r:=h
   unfold Zi8 at h
   obtain ⟨k2,q2⟩ : ∃ k,k=Zbg p0 p1 k1 n1:=⟨_,rfl⟩
   try rw [<- q2] at h
   refine Z0<|Z0<|oH h fun y1 f1 h=>Z1<|Z7 rfl<|Z7 rfl<|Z7 rfl<|Zq _ (Z06 rfl (fun w hw=>Zjx f1 ((Z1n A0 Z20) w hw) ((Z1n A1 Z20) w hw)))<|j_c rfl<|Z2<|Z0k h rfl (fun h=>?_) (fun h=>?_)
   ·refine Zp<|Z0<|Zb<|Z0<|oH h fun y2 f2 h=>oH h fun y3 f3 h=>bH h fun z1 e1 h=>bH h fun z2 e2 h=>Z1<|Z7 rfl<|Z7 rfl<|Zq _ (Z06 rfl (fun w hw=>Z84 f2 ((Z1n A0 Z20) w hw)))<|Z7 rfl<|Z7 rfl<|Zq _ (Z06 rfl (fun w hw=>Z84 f3 ((Z1n A1 Z20) w hw)))<|j_b e1 rfl<|Z7 rfl<|j_b e2 rfl<|Z7 rfl<|Z2<|Z0<|bH h fun z3 e3 h=>cH h fun c1 h=>bH h fun l3 g1 h=>Z1<|Z7 rfl<|Z7 rfl<|Zq _ (iz e3 (Zdp rfl rfl (by decide)))<|Za (Z5q (E:=(El.int .i64)) (xs:=[z3]) (.one rfl rfl rfl BdR.nil) (.cons (p:=[.i z3]) rfl .nil) rfl fun v157 w3 O2=>Za (Z3i (E:=(El.int .i64)) g1 rfl O1 (.app .here) rfl (Z0l O2 .here) c1 fun v162 w4 O3=>Z7 rfl<|Z2<|bH h fun z4 e4 h=>Z1<|Z7 rfl<|Zq _ (iz e4 (Zbl rfl rfl (by decide)))<|Z7 rfl<|Z2<|bH h fun z5 e5 h=>Z1<|Z7 rfl<|j_b e5 rfl<|Z7 rfl<|Z2 ?_))
    rw [q2] at h
    exact ⟨n1,Nat.lt_succ_self _,l3,z4,z5,v162,w4,h,O3,⟨⟨rfl,rfl,rfl,rfl,rfl,trivial⟩,(.all .here .nil)⟩⟩
   ·exact Z08 _ rfl<|⟨l2,i2,v139,w2,h,O1,⟨⟨rfl,rfl,trivial⟩,(.all .here .nil)⟩⟩
 ·rintro t m ⟨l1,i1,v84,w1,h,O4,hF⟩
  refine Zi hF ?_
  clear hF
  subst q1
  refine Z0<|cH h fun c2 h=>bH h fun l4 g2 h=>Z1<|Z7 rfl<|Z7 rfl<|Za (Z5q (E:=(El.int .i64)) (xs:=[i1]) (.one rfl rfl rfl BdR.nil) (.cons (p:=[.i i1]) rfl .nil) rfl fun v170 w5 O5=>Za (Z3i (E:=(El.int .i64)) g2 rfl O4 (.app .here) rfl (Z0l O5 .here) c2 fun v175 w6 O6=>Z7 rfl<|Z2<|Zf ?_))
  cases h
  exact ⟨_,_,(.cons (.tmp rfl) .nil),(.all .here .nil),⟨_,rfl,⟨v175,w6,rfl,rfl,O6⟩⟩⟩
def Z9u (p0:LI) (p1:LI) (i1:Int) (k1:(LI)->Int->OL) (k2:(LI)->Int->Int->OL) (l1:LI) (i2:Int) (i3:Int):OL :=
 br ((decide (i3<(p1.length:Int)))) (
 bnd (wrap .i64 (i1+i3)) fun z1 =>
 chk (inB z1 l1.length) <|
 chk (inB i1 p0.length) <|
 chk (inB i3 p1.length) <|
 bnd (l1.getD (z1).toNat 0) fun z2 =>
 bnd (p0.getD (i1).toNat 0) fun z3 =>
 bnd (p1.getD (i3).toNat 0) fun z4 =>
 bnd (wrap .i64 (z3*z4)) fun z5 =>
 bnd (wrap .i64 (z2+z5)) fun z6 =>
 bnd (wrap .i64 (z6+i2)) fun z7 =>
 bnd (wrap .i64 (i1+i3)) fun z8 =>
 bnd (Int.tmod z7 256) fun z9 =>
 chk (inB z8 l1.length) <|
 bnd (Zh7 0 l1 (z8).toNat z9) fun l2 =>
 bnd (wrap .i64 (Int.tdiv z7 256)) fun z10 =>
 bnd (wrap .i64 (i3+1)) fun z11 =>
 k2 l2 z10 z11
 ) (
 k1 l1 i2
 )
def Z5i (p0:LI) (p1:LI) (i1:Int) (k1:(LI)->Int->OL):Nat->(LI)->Int->Int->OL
  | 0,_,_,_=>none
  | n+1,l1,i2,i3=>Z9u p0 p1 i1 k1 (Z5i p0 p1 i1 k1 n) l1 i2 i3
def Z9t (p0:LI) (p1:LI) (k1:(LI)->OL) (k2:(LI)->Int->OL) (l1:LI) (i1:Int):OL :=
 br ((decide (i1<(p0.length:Int)))) (
 jn (fun (l2:LI) (i2:Int)=>bnd (wrap .i64 (i1+(p1.length:Int))) fun z1 =>
 chk (inB z1 l2.length) <|
 bnd (Zh7 0 l2 (z1).toNat i2) fun l3 =>
 bnd (wrap .i64 (i1+1)) fun z2 =>
 k2 l3 z2) fun k3=>Z5i p0 p1 i1 k3 big l1 0 0
 ) (
 k1 l1
 )
def Z5h (p0:LI) (p1:LI) (k1:(LI)->OL):Nat->(LI)->Int->OL
  | 0,_,_=>none
  | n+1,l1,i1=>Z9t p0 p1 k1 (Z5h p0 p1 k1 n) l1 i1
def Zfr (p0:LI) (p1:LI):OL :=
 bnd (wrap .i64 ((p0.length:Int)+(p1.length:Int))) fun z1 =>
 chk (mkB 8 z1 z1) <|
 jn (fun (l1:LI)=>some l1) fun k1=>Z5h p0 p1 k1 big (replicate (z1).toNat 0:LI) 0
theorem Zpj {W:World} {r:(LI)} {p0:LI} {p1:LI} {v0:Value} {v1:Value} (h:Zfr p0 p1=some r) (A0:Z6r (El.int .i64) W v0 p0) (A1:Z6r (El.int .i64) W v1 p1) :
    Calls Tryz.prog 212 [v0,v1].toArray W (Z67 W [] (fun v Ms=>∃ (u0:Value) (M1:List Zd),v=u0/\Ms = [.all M1]/\Z0c (El.int .i64) u0 M1 r)):=by
 unfold Zfr at h
 refine Zj mo Z0ue rfl (Zbz _) ?_
 refine Z0<|Z1<|Z7 rfl<|Z2<|Z0<|bH h fun z1 e1 h=>cH h fun c1 h=>Z1<|Z7 rfl<|Zq _ (Z40 rfl (Shp.rd A0))<|Z7 rfl<|Zq _ (Z40 rfl (Shp.rd A1))<|j_b e1 rfl<|Za (Zk6 (E:=(El.int .i64)) rfl rfl rfl c1 fun v5 w1 O1=>Z7 rfl<|Z2<|Z0<|Z0<|Z1<|Z7 rfl<|Z2<|jH h fun k1 q1 h=>Zo (G:=fun t m=>∃ (l1:LI) (v580:Value) (w2:List Zd),k1 l1=some r/\Z0c (El.int .i64) v580 w2 l1/\Fit [(5,v580)] (w2 ++ []) t m) ?_ ?_)
 ·refine Zb<|Zz (fun n1 t m=>∃ (l2:LI) (i1:Int) (v961:Value) (w3:List Zd),Z5h p0 p1 k1 n1 l2 i1=some r/\Z0c (El.int .i64) v961 w3 l2/\Fit [(0,v0),(1,v1),(5,v961),(6,.int .i64 (i1))] (w3 ++ []) t m) big ?_ ?_
  ·exact ⟨(replicate (z1).toNat 0:LI),0,v5,w1,h,O1,⟨⟨rfl,rfl,rfl,rfl,trivial⟩,(.all .here .nil)⟩⟩
  ·rintro n1 t m ⟨l2,i1,v961,w3,h,O2,hF⟩
   refine Zi hF ?_
   clear hF
   rcases n1 with _ | n1
   · exact Z0s h
   have h:Z9t p0 p1 k1 (Z5h p0 p1 k1 n1) l2 i1=some r:=h
   unfold Z9t at h
   obtain ⟨k2,q2⟩ : ∃ k,k=Z5h p0 p1 k1 n1:=⟨_,rfl⟩
   try rw [<- q2] at h
   refine Z0<|Z0<|Z1<|Z7 rfl<|Z7 rfl<|Zq _ (Z40 rfl (Shp.rd A0))<|j_c rfl<|Z2<|Z0k h rfl (fun h=>?_) (fun h=>?_)
   ·refine Zp<|Z0<|Zb<|Z0<|Z1<|Z7 rfl<|Z2<|Z0<|Z0<|Z1<|Z7 rfl<|Z2<|jH h fun k3 q3 h=>Zo (G:=fun t m=>∃ (l3:LI) (i2:Int) (v1057:Value) (w4:List Zd),k3 l3 i2=some r/\Z0c (El.int .i64) v1057 w4 l3/\Fit [(0,v0),(1,v1),(5,v1057),(6,.int .i64 (i1)),(7,.int .i64 (i2))] (w4 ++ []) t m) ?_ ?_
    ·refine Zb<|Zz (fun n2 t m=>∃ (l4:LI) (i3:Int) (i4:Int) (v1116:Value) (w5:List Zd),Z5i p0 p1 i1 k3 n2 l4 i3 i4=some r/\Z0c (El.int .i64) v1116 w5 l4/\Fit [(0,v0),(1,v1),(5,v1116),(6,.int .i64 (i1)),(7,.int .i64 (i3)),(8,.int .i64 (i4))] (w5 ++ []) t m) big ?_ ?_
     ·exact ⟨l2,0,0,v961,w3,h,O2,⟨⟨rfl,rfl,rfl,rfl,rfl,rfl,trivial⟩,(.all .here .nil)⟩⟩
     ·rintro n2 t m ⟨l4,i3,i4,v1116,w5,h,O3,hF⟩
      refine Zi hF ?_
      clear hF
      rcases n2 with _ | n2
      · exact Z0s h
      have h:Z9u p0 p1 i1 k3 (Z5i p0 p1 i1 k3 n2) l4 i3 i4=some r:=h
      unfold Z9u at h
      obtain ⟨k4,q4⟩ : ∃ k,k=Z5i p0 p1 i1 k3 n2:=⟨_,rfl⟩
      try rw [<- q4] at h
      refine Z0<|Z0<|Z1<|Z7 rfl<|Z7 rfl<|Zq _ (Z40 rfl (Shp.rd A1))<|j_c rfl<|Z2<|Z0k h rfl (fun h=>?_) (fun h=>?_)
      ·refine Zp<|Z0<|Zb<|Z0<|bH h fun z2 e2 h=>cH h fun c2 h=>cH h fun c3 h=>cH h fun c4 h=>bH h fun z3 e3 h=>bH h fun z4 e4 h=>bH h fun z5 e5 h=>bH h fun z6 e6 h=>bH h fun z7 e7 h=>bH h fun z8 e8 h=>Zv<|k_m rfl<|k_m rfl<|k_m rfl<|k_b e2 rfl<|Z0x _ (Z48 rfl rfl (Shp.own O3) c2)<|k_m rfl<|k_m rfl<|Z0x _ (Z48 rfl rfl (Shp.rd A0) c3)<|k_m rfl<|k_m rfl<|Z0x _ (Z48 rfl rfl (Shp.rd A1) c4)<|k_m rfl<|Z0v _ (iz e3 (Z4y (E:=(El.int .i64)) (s:=[.i (l4.getD (z2).toNat 0)]) rfl (Z0l O3 .here) (Z0g c2) rfl rfl))<|Z0v _ (iz e4 (Z4y (E:=(El.int .i64)) (s:=[.i (p0.getD (i1).toNat 0)]) rfl (Z1n A0 Z20) (Z0g c3) rfl rfl))<|Z0v _ (iz e5 (Z4y (E:=(El.int .i64)) (s:=[.i (p1.getD (i4).toNat 0)]) rfl (Z1n A1 Z20) (Z0g c4) rfl rfl))<|k_b e6 rfl<|k_b e7 rfl<|k_b e8 rfl<|k_m rfl<|Z03<|Z0<|bH h fun z9 e9 h=>bH h fun z10 e10 h=>cH h fun c5 h=>bH h fun l5 g1 h=>Z1<|Z7 rfl<|Z7 rfl<|Z7 rfl<|j_b e9 rfl<|Z7 rfl<|Zq _ (iz e10 (Zdp rfl rfl (by decide)))<|Zq _ (Z48 rfl rfl (Shp.own O3) c5)<|Za (Zmu (E:=(El.int .i64)) g1 O3 .here rfl rfl rfl (Z0g c5) fun w6 O4=>Z2<|bH h fun z11 e11 h=>Z1<|Z7 rfl<|Zq _ (iz e11 (Zbl rfl rfl (by decide)))<|Z7 rfl<|Z2<|bH h fun z12 e12 h=>Z1<|Z7 rfl<|j_b e12 rfl<|Z7 rfl<|Z2 ?_)
       rw [q4] at h
       exact ⟨n2,Nat.lt_succ_self _,l5,z11,z12,v1116,w6,h,O4,⟨⟨rfl,rfl,rfl,rfl,rfl,rfl,trivial⟩,(.all .here .nil)⟩⟩
      ·exact Z08 _ rfl<|⟨l4,i3,v1116,w5,h,O3,⟨⟨rfl,rfl,rfl,rfl,rfl,trivial⟩,(.all .here .nil)⟩⟩
    ·rintro t m ⟨l3,i2,v1057,w4,h,O5,hF⟩
     refine Zi hF ?_
     clear hF
     subst q3
     refine bH h fun z13 e13 h=>cH h fun c6 h=>bH h fun l6 g2 h=>Z1<|Z7 rfl<|Z7 rfl<|Z7 rfl<|Zq _ (Z40 rfl (Shp.rd A1))<|j_b e13 rfl<|Z7 rfl<|Zq _ (Z48 rfl rfl (Shp.own O5) c6)<|Za (Zmu (E:=(El.int .i64)) g2 O5 .here rfl rfl rfl (Z0g c6) fun w7 O6=>Z2<|bH h fun z14 e14 h=>Z1<|Z7 rfl<|j_b e14 rfl<|Z7 rfl<|Z2 ?_)
     rw [q2] at h
     exact ⟨n1,Nat.lt_succ_self _,l6,z14,v1057,w7,h,O6,⟨⟨rfl,rfl,rfl,rfl,trivial⟩,(.all .here .nil)⟩⟩
   ·exact Z08 _ rfl<|⟨l2,v961,w3,h,O2,⟨⟨rfl,trivial⟩,(.all .here .nil)⟩⟩
 ·rintro t m ⟨l1,v580,w2,h,O7,hF⟩
  refine Zi hF ?_
  clear hF
  subst q1
  refine Z0<|Z1<|Z7 rfl<|Z7 rfl<|Z2<|Zf ?_
  cases h
  exact ⟨_,_,(.cons (.tmp rfl) .nil),(.all .here .nil),⟨_,rfl,⟨v580,w2,rfl,rfl,O7⟩⟩⟩
def Zfq (p0:LI) (p1:LI) (p2:LI):OL :=
 opt (Zul (tk p0 0 32)) fun y1 =>
 opt (Zul (tk p1 0 32)) fun y2 =>
 opt (Zfr y1 y2) fun y3 =>
 opt (Zul (tk p2 0 32)) fun y4 =>
 opt (Zum y3 y4) fun y5 =>
 opt (Zrl y5) fun y6 =>
 opt (Zm9 y6) fun y7 =>
 some y7
theorem Zqp {W:World} {r:(LI)} {p0:LI} {p1:LI} {p2:LI} (h:Zfq p0 p1 p2=some r)  :
    Calls Tryz.prog 117 [agg [b3' p0],agg [b3' p1],agg [b3' p2]].toArray W (Z1w W (agg [b3' r])):=by
 unfold Zfq at h
 refine Z9 mo Z0su rfl ?_
 refine Z0<|Z1<|Za (Z02 (s:=[b3' p0]) rfl fun b1 u1=>Za (Z02 (s:=[b3' p1]) rfl fun b2 u2=>Za (Z02 (s:=[b3' p2]) rfl fun b3 u3=>Za (Zu fun b4 u4=>Z2<|Z0<|oH h fun y1 f1 h=>oH h fun y2 f2 h=>oH h fun y3 f3 h=>oH h fun y4 f4 h=>oH h fun y5 f5 h=>oH h fun y6 f6 h=>oH h fun y7 f7 h=>Zv<|Z0x _ (Z8b rfl .no .no .no (by simp) (by decide))<|Z0x _ (Z8b rfl .no .no .no (by simp) (by decide))<|Z0x _ (Z8b rfl .no .no .no (by simp) (by decide))<|Z36 (Zg rfl (fun w hw=>Zjb  f1 ((Z1u (s:=[b3' p0]) (N:=32) (k:=.u8) (base:=0) (lo:=0) (hi:=32) (mz:=32) .t3 rfl (by decide)) w hw)) fun v8 o1 R1=>?_)))))
 obtain ⟨_,w1,rfl,rfl,O1⟩:=R1
 refine ⟨sU,Z36 (Zg rfl (fun w hw=>Zjb  f2 ((Z1u (s:=[b3' p1]) (N:=32) (k:=.u8) (base:=0) (lo:=0) (hi:=32) (mz:=32) (.app .t2) rfl (by decide)) w hw)) fun v14 o2 R2=>?_)⟩
 obtain ⟨_,w2,rfl,rfl,O2⟩:=R2
 refine ⟨sU,Z36 (Zg rfl (fun w hw=>Zpj  f3 ((Z0l O1 (.app .here)) w hw) ((Z0l O2 .here) w hw)) fun v20 o3 R3=>?_)⟩
 obtain ⟨_,w3,rfl,rfl,O3⟩:=R3
 refine ⟨sU,Z36 (Zg rfl (fun w hw=>Zjb  f4 ((Z1u (s:=[b3' p2]) (N:=32) (k:=.u8) (base:=0) (lo:=0) (hi:=32) (mz:=32) (.app (.app (.app .t1))) rfl (by decide)) w hw)) fun v26 o4 R4=>?_)⟩
 obtain ⟨_,w4,rfl,rfl,O4⟩:=R4
 refine ⟨sU,Z36 (Zg rfl (fun w hw=>Zwq  f5 ((Z0l O3 (.app .here)) w hw) ((Z0l O4 .here) w hw)) fun v32 o5 R5=>?_)⟩
 obtain ⟨_,w5,rfl,rfl,O5⟩:=R5
 refine ⟨sU,Z36 (Zg rfl (fun w hw=>Zpi  f6 ((Z0l O5 .here) w hw)) fun v38 o6 R6=>?_)⟩
 obtain ⟨_,w6,rfl,rfl,O6⟩:=R6
 refine ⟨sU,Z88 _ (Z06 rfl (fun w hw=>Zn3 f7 ((Z0l O6 .here) w hw))) (Z16 rfl (Zm (q:=[b3' y7]) rfl rfl rfl rfl rfl (.app (.app (.app (.app (.app (.app .here)))))) (Z03 (Zf ?_)))) sU⟩
 cases h
 exact ⟨_,(.cons (.agg rfl (.app (.app (.app (.app (.app (.app .here)))))) rfl) .nil),rfl⟩
def Zmc (y1:(LI)) (y2:(LI)) (k1:(LI)->OL) (k2:Int->(LI)->OL) (i1:Int) (a1:LI):OL :=
 br ((decide (i1<32))) (
 chk (inB i1 32) <|
 bnd (y1.getD (i1).toNat 0) fun z1 =>
 chk (inB i1 64) <|
 bnd (Z2g a1 (i1).toNat z1) fun l1 =>
 bnd (wrap .i64 (32+i1)) fun z2 =>
 chk (inB i1 32) <|
 bnd (y2.getD (i1).toNat 0) fun z3 =>
 chk (inB z2 64) <|
 bnd (Z2g l1 (z2).toNat z3) fun l2 =>
 bnd (wrap .i64 (i1+1)) fun z4 =>
 k2 z4 l2
 ) (
 k1 a1
 )
def Zco (y1:(LI)) (y2:(LI)) (k1:(LI)->OL):Nat->Int->(LI)->OL
  | 0,_,_=>none
  | n+1,i1,a1=>Zmc y1 y2 k1 (Zco y1 y2 k1 n) i1 a1
def Zdm (p0:LI) (p1:LI):OL :=
 opt (Z85 p0) fun y1 =>
 opt (Zie p0) fun y2 =>
 opt (Zn0 (tk p0 0 32)) fun y3 =>
 opt (Zmd y3 true) fun y4 =>
 opt (Zdn (tk y4 0 32) p1 []) fun y5 =>
 opt (Zn0 y5) fun y6 =>
 opt (Zdk y6) fun y7 =>
 opt (Zcn y7) fun y8 =>
 opt (Zfu y8) fun y9 =>
 jn (fun (a1:LI)=>opt (Zfq a1 y1 y7) fun y10 =>
 jn (fun (a2:LI)=>some a2) fun k1=>Zco y9 y10 k1 big 0 (replicate 64 0)) fun k2=>opt (Zdn (tk y9 0 32) (tk y2 0 32) p1) fun y11 =>
 opt (Zn0 y11) fun y12 =>
 opt (Zdk y12) fun y13 =>
 k2 y13
theorem Z7m {W:World} {r:(LI)} {p0:LI} {p1:LI} {v1:Value} (h:Zdm p0 p1=some r) (hG:Globs W) (A1:Z6r (El.int .u8) W v1 p1) :
    Calls Tryz.prog 52 [agg [b3' p0],v1].toArray W (Z1w W (agg [b6' r])):=by
 unfold Zdm at h
 refine Z9 mo ok52 rfl ?_
 refine Z0<|Z1<|Za (Z02 (s:=[b3' p0]) rfl fun b1 u1=>Za (Zu fun b2 u2=>Z2<|Z0<|oH h fun y1 f1 h=>Z1<|Z0z (p:=[b3' p0]) rfl .t1 rfl<|Zq _ (Z06 rfl (fun w hw=>Zee f1 (hG.at hw (by simp))))<|Za (Zu fun b3 u3=>Za (Zm (q:=[b3' y1]) rfl rfl rfl rfl rfl .here<|Z2<|Z0<|oH h fun y2 f2 h=>Z1<|Z0z (p:=[b3' p0]) rfl .t2 rfl<|Zq _ (Z06 rfl (fun w hw=>Zqt f2 (hG.at hw (by simp))))<|Za (Zu fun b4 u4=>Za (Zm (q:=[b3' y2]) rfl rfl rfl rfl rfl .here<|Z2<|Z0<|oH h fun y3 f3 h=>oH h fun y4 f4 h=>Z1<|Zq _ (Z8b rfl .no .no .no (by simp) (by decide))<|Zq _ (Z06 rfl (fun w hw=>Zaf f3 (hG.at hw (by simp)) ((Z1u (s:=[b3' p0]) (N:=32) (k:=.u8) (base:=0) (lo:=0) (hi:=32) (mz:=32) .t3 rfl (by decide)) w hw)))<|Z2o rfl (Zn5 f4)<|Za (Zu fun b5 u5=>Za (Zm (q:=[b3' y4]) rfl rfl rfl rfl rfl .here<|Z2<|Z0<|oH h fun y5 f5 h=>oH h fun y6 f6 h=>oH h fun y7 f7 h=>Z1<|Zq _ (Z8b rfl .no .no .no (by simp) (by decide))<|Z7 rfl<|Za (Zg rfl (fun w hw=>Zew  f5 ((Z1u (s:=[b3' y4]) (N:=32) (k:=.u8) (base:=0) (lo:=0) (hi:=32) (mz:=32) .here rfl (by decide)) w hw) ((Z1n A1 Z20) w hw) (Z0cl w hw)) fun v16 o1 R1=>?_)))))))))
 obtain ⟨_,w1,rfl,rfl,O1⟩:=R1
 refine Zq _ (Z06 rfl (fun w hw=>Zaf f6 (hG.at hw (by simp)) ((Z0l O1 .here) w hw)))<|Z2o rfl (Zas f7)<|Za (Zu fun b6 u6=>Za (Zm (q:=[b3' y7]) rfl rfl rfl rfl rfl .here<|Z2<|Z0<|oH h fun y8 f8 h=>oH h fun y9 f9 h=>Z1<|Z0z (p:=[b3' y7]) rfl .here rfl<|Z2o rfl (Zia f8)<|Z2o rfl (Zjy f9)<|Za (Zu fun b7 u7=>Za (Zm (q:=[b3' y9]) rfl rfl rfl rfl rfl .here<|Z2<|Z0<|jH h fun k1 q1 h=>Zo (G:=fun t m=>∃ (a1:LI) (b8:Nat),k1 a1=some r/\Fit [(4,pt' b2),(5,pt' b3),(8,pt' b6),(9,pt' b7),(10,pt' b8)] (ck b8 149 [b3' a1]::(ck b7 44 [b3' y9]::(ck b6 149 [b3' y7]::(ck b5 22 [b3' y4]::(ck b4 44 [b3' y2]::(ck b3 149 [b3' y1]::(ck b2 25 [b6' (replicate 64 0)]::(ck b1 23 [b3' p0] :: [])))))))) t m) ?_ ?_))))
 ·refine oH h fun y10 f10 h=>oH h fun y11 f11 h=>oH h fun y12 f12 h=>Zv<|Z0x _ (Z8b rfl .no .no .no (by simp) (by decide))<|Z0x _ (Z8b rfl .no .no .no (by simp) (by decide))<|k_m rfl<|Zz7 (Zg rfl (fun w hw=>Zew  f10 ((Z1u (s:=[b3' y9]) (N:=32) (k:=.u8) (base:=0) (lo:=0) (hi:=32) (mz:=32) .here rfl (by decide)) w hw) ((Z1u (s:=[b3' y2]) (N:=32) (k:=.u8) (base:=0) (lo:=0) (hi:=32) (mz:=32) (.there (.there (.app .t1))) rfl (by decide)) w hw) ((Z1n A1 Z20) w hw)) fun v43 o2 R2=>?_) (Zu fun b9 u8=>?_)
  ·obtain ⟨_,w2,rfl,rfl,O2⟩:=R2
   refine ⟨sU,Zz7 (ef_q _ (Z06 rfl (fun w hw=>Zaf f11 (hG.at hw (by simp)) ((Z0l O2 .here) w hw))) ⟨sU,?_⟩) (Zu fun b9 u8=>⟨sU,?_⟩)⟩
   ·exact Z4o rfl (Zas f12)<|Z36 (Zu fun b9 u8=>⟨sU,Z16 rfl (Zm (q:=[b3' y12]) rfl rfl rfl rfl rfl .here (Z03 (⟨y12,b9,h,⟨⟨rfl,rfl,rfl,rfl,rfl,trivial⟩,(.o (.one (.app .here) (.one (.app .here) (.one (.app (.app .here)) (.one (.app (.app .here)) (.one (.app (.app .here)) (.one (.app (.app .here)) (.one (.app (.app .here)) .nil))))))))⟩⟩)))⟩)
   ·exact Z88 _ (Z06 rfl (fun w hw=>Zaf f11 (hG.at hw (by simp)) ((Z0l O2 .t1) w hw))) (Z4o rfl (Zas f12) (Z16 rfl (Zm (q:=[b3' y12]) rfl rfl rfl rfl rfl .here (Z03 (⟨y12,b9,h,⟨⟨rfl,rfl,rfl,rfl,rfl,trivial⟩,(.o (.one (.app .here) (.one (.app .here) (.one (.app (.app .here)) (.one (.app (.app .here)) (.one (.app (.app .here)) (.one (.app (.app .here)) (.one (.app (.app .here)) .nil))))))))⟩⟩))))) sU
  ·refine ⟨sU,Z36 (Zg rfl (fun w hw=>Zew  f10 ((Z1u (s:=[b3' y9]) (N:=32) (k:=.u8) (base:=0) (lo:=0) (hi:=32) (mz:=32) .t1 rfl (by decide)) w hw) ((Z1u (s:=[b3' y2]) (N:=32) (k:=.u8) (base:=0) (lo:=0) (hi:=32) (mz:=32) (.there (.there (.there (.app .t1)))) rfl (by decide)) w hw) ((Z1n A1 Z20) w hw)) fun v43 o2 R2=>?_)⟩
   obtain ⟨_,w2,rfl,rfl,O2⟩:=R2
   exact ⟨sU,Z88 _ (Z06 rfl (fun w hw=>Zaf f11 (hG.at hw (by simp)) ((Z0l O2 .here) w hw))) (Z4o rfl (Zas f12) (Z16 rfl (Zm (q:=[b3' y12]) rfl rfl rfl rfl rfl (.app .here) (Z03 (⟨y12,b9,h,⟨⟨rfl,rfl,rfl,rfl,rfl,trivial⟩,(.one (.app .here) (.one (.app .here) (.one (.app .here) (.one (.app (.app .here)) (.one (.app (.app .here)) (.one (.app (.app .here)) (.one (.app (.app .here)) (.one (.app (.app .here)) .nil))))))))⟩⟩))))) sU⟩
 ·rintro t m ⟨a1,b8,h,hF⟩
  refine Zi hF ?_
  clear hF
  subst q1
  refine Z0<|oH h fun y13 f13 h=>Z1<|Z0z (p:=[b3' a1]) rfl .here rfl<|Z0z (p:=[b3' y1]) rfl .t5 rfl<|Z0z (p:=[b3' y7]) rfl .t2 rfl<|Z2o rfl (Zqp f13)<|Za (Zu fun b10 u9=>Za (Zm (q:=[b3' y13]) rfl rfl rfl rfl rfl .here<|Z2<|Z0<|Z1<|Za (Zu fun b11 u10=>Z2<|Z0<|Z0<|Z1<|Z7 rfl<|Z2<|jH h fun k2 q2 h=>Zo (G:=fun t m=>∃ (a2:LI),k2 a2=some r/\Fit [(4,pt' b2),(12,pt' b11)] (ck b11 25 [b6' a2]::(ck b10 149 [b3' y13]::(ck b8 149 [b3' a1]::(ck b7 44 [b3' y9]::(ck b6 149 [b3' y7]::(ck b5 22 [b3' y4]::(ck b4 44 [b3' y2]::(ck b3 149 [b3' y1]::(ck b2 25 [b6' (replicate 64 0)]::(ck b1 23 [b3' p0] :: [])))))))))) t m) ?_ ?_)))
  ·refine Zb<|Zz (fun n1 t m=>∃ (i1:Int) (a3:LI),Zco y9 y13 k2 n1 i1 a3=some r/\Fit [(4,pt' b2),(9,pt' b7),(11,pt' b10),(12,pt' b11),(13,.int .i64 (i1))] (ck b11 25 [b6' a3]::(ck b10 149 [b3' y13]::(ck b8 149 [b3' a1]::(ck b7 44 [b3' y9]::(ck b6 149 [b3' y7]::(ck b5 22 [b3' y4]::(ck b4 44 [b3' y2]::(ck b3 149 [b3' y1]::(ck b2 25 [b6' (replicate 64 0)]::(ck b1 23 [b3' p0] :: [])))))))))) t m) big ?_ ?_
   ·exact ⟨0,(replicate 64 0),h,⟨⟨rfl,rfl,rfl,rfl,rfl,trivial⟩,(.o (.o (.o (.o (.o (.o (.o (.o (.o (.o .nil))))))))))⟩⟩
   ·rintro n1 t m ⟨i1,a3,h,hF⟩
    refine Zi hF ?_
    clear hF
    rcases n1 with _ | n1
    · exact Z0s h
    have h:Zmc y9 y13 k2 (Zco y9 y13 k2 n1) i1 a3=some r:=h
    unfold Zmc at h
    obtain ⟨k3,q3⟩ : ∃ k,k=Zco y9 y13 k2 n1:=⟨_,rfl⟩
    try rw [<- q3] at h
    refine Z0<|Z0<|Z1<|Z7 rfl<|j_c rfl<|Z2<|Z0k h rfl (fun h=>?_) (fun h=>?_)
    ·refine Zp<|Z0<|Zb<|Z0<|cH h fun c1 h=>bH h fun z1 e1 h=>cH h fun c2 h=>bH h fun l1 g1 h=>Z1<|Z7 rfl<|Z7 rfl<|Z44 rfl rfl (Z0q c1)<|Zq _ (iz e1 (Z32 (base:=0) rfl .t3 rfl (Z0g c1)))<|Z44 rfl rfl (Z0q c2)<|Za (Z1z (q:=[b6' l1]) (base:=0) g1 rfl rfl rfl (Z0g c2) rfl .here<|Z2<|bH h fun z2 e2 h=>cH h fun c3 h=>bH h fun z3 e3 h=>cH h fun c4 h=>bH h fun l2 g2 h=>Z1<|Z7 rfl<|j_b e2 rfl<|Z7 rfl<|Z44 rfl rfl (Z0q c3)<|Zq _ (iz e3 (Z32 (base:=0) rfl .t1 rfl (Z0g c3)))<|Z44 rfl rfl (Z0q c4)<|Za (Z1z (q:=[b6' l2]) (base:=0) g2 rfl rfl rfl (Z0g c4) rfl .here<|Z2<|bH h fun z4 e4 h=>Z1<|Z7 rfl<|j_b e4 rfl<|Z7 rfl<|Z2 ?_))
     rw [q3] at h
     exact ⟨n1,Nat.lt_succ_self _,z4,l2,h,⟨⟨rfl,rfl,rfl,rfl,rfl,trivial⟩,(.o (.o (.o (.o (.o (.o (.o (.o (.o (.o .nil))))))))))⟩⟩
    ·exact Z08 _ rfl<|⟨a3,h,⟨⟨rfl,rfl,trivial⟩,(.o (.o (.o (.o (.o (.o (.o (.o (.o (.o .nil))))))))))⟩⟩
  ·rintro t m ⟨a2,h,hF⟩
   refine Zi hF ?_
   clear hF
   subst q2
   refine Z0<|Z1<|Z0z (p:=[b6' a2]) rfl .here rfl<|Za (Zm (q:=[b6' a2]) rfl rfl rfl rfl rfl .t8<|Z2<|Zf ?_)
   cases h
   exact ⟨_,(.cons (.agg rfl .t8 rfl) .nil),rfl⟩
end Go.Proofs.YtkjfpenagcdmcaaGreatDoor
namespace Go.Proofs.YtkjfpenagcdmcaaGreatDoor
open Go Go.Sx Go.RowKit
open Go.IntKind (wrap)
set_option linter.all false
set_option maxHeartbeats 400000
set_option maxRecDepth 100000
def Z3t (p0:LI) (p1:Z09):Option (Z09) :=
 opt (Z4g p1) fun y1 =>
 opt (Zdm p0 y1) fun y2 =>
 some (⟨p1.gSerial,p1.gRides,p1.gPrice,p1.gAnchor,y2⟩:Z09)
theorem Ze3 {W:World} {r:Z09} {p0:LI} {p1:Z09} (h:Z3t p0 p1=some r) (hG:Globs W) :
    Calls Tryz.prog 16 [agg [b3' p0],agg (Z6 p1 [])].toArray W (Z1w W (agg (Z6 r []))):=by
 unfold Z3t at h
 refine Z9 mo ok16 rfl ?_
 refine Z0<|Z1<|Za (Z02 (s:=[b3' p0]) rfl fun b1 u1=>Za (Z02 (s:=(Z6 p1 [])) rfl fun b2 u2=>Za (Zu fun b3 u3=>Z2<|Z0<|oH h fun y1 f1 h=>oH h fun y2 f2 h=>Zv<|Z1q (p:=[b3' p0]) rfl .t2 rfl<|Z1q (p:=(Z6 p1 [])) rfl .t1 rfl<|Z36 (Zg rfl (fun w hw=>Zeo  f1 ) fun v7 o1 R1=>?_))))
 obtain ⟨_,w1,rfl,rfl,O1⟩:=R1
 refine ⟨sU,Z88 _ (Z06 rfl (fun w hw=>Z7m f2 (hG.at hw (by simp)) ((Z0l O1 .here) w hw))) (Zdc rfl (Z16 rfl (Zm (q:=[.i p1.gSerial,.i p1.gRides,.i p1.gPrice,b3' p1.gAnchor,b6' y2]) rfl rfl rfl rfl rfl (.app .t1) (Z03 (Z0 (Z1 (Z0z (p:=[.i p1.gSerial,.i p1.gRides,.i p1.gPrice,b3' p1.gAnchor,b6' y2]) rfl (.app .t1) rfl (Za (Zm (q:=[.i p1.gSerial,.i p1.gRides,.i p1.gPrice,b3' p1.gAnchor,b6' y2]) rfl rfl rfl rfl rfl (.app .here) (Z2 (Zf ?_))))))))))) sU⟩
 cases h
 exact ⟨_,(.cons (.agg rfl (.app .here) rfl) .nil),rfl⟩
def Zef:Option (Unit) :=
 some ()
theorem Zmh {W:World} {r:Unit} (h:Zef=some r)  :
    Calls Tryz.prog 53 [].toArray W (Z1w W (agg [.one (.func (.func 118) #[] #[]),.one (.func (.func 119) #[] #[]),.one (.func (.func 120) #[] #[]),.one (.func (.func 121) #[] #[])])):=by
 unfold Zef at h
 refine Z9 mo ok53 rfl ?_
 refine Z0<|Z1<|Za (Zu fun b1 u1=>Z2<|Z0<|Z1<|Zq _ (Zex (q:=[.one (.func (.func 118) #[] #[]),.one (.func (.func 119) #[] #[]),.one (.func (.func 120) #[] #[]),.one (.func (.func 121) #[] #[])]) (.one rfl rfl rfl (.one rfl rfl rfl (.one rfl rfl rfl (.one rfl rfl rfl BdR.nil)))))<|Za (Zm (q:=[.one (.func (.func 118) #[] #[]),.one (.func (.func 119) #[] #[]),.one (.func (.func 120) #[] #[]),.one (.func (.func 121) #[] #[])]) rfl rfl rfl rfl rfl .here<|Z2<|Zf ?_))
 cases h
 exact ⟨_,(.cons (.agg rfl .here rfl) .nil),rfl⟩
def Z37 (p0:Z27) (p1:Z09):Option (Z27) :=
 opt (Z38 p0 p1) fun y1 =>
 opt (Z5j y1 (tk p1.gSig 0 64)) fun y2 =>
 some y2
theorem Z8e {W:World} {r:Z27} {p0:Z27} {p1:Z09} {v0:Value} {M1:List Zd} {b:Nat} {T:TypeId} (h:Z37 p0 p1=some r) (h0:Sat W (b::M1.map (·.b)) (ck b T [.one (v0),.i p0.gE]::(M1 ++ [])) W) (O1:Z0c (El.int .u8) v0 M1 p0.gB) :
    Calls Tryz.prog 90 [.pointer (some ⟨b,0,none⟩),agg (Z6 p1 [])].toArray W (Z67 W (b::M1.map (·.b)) (fun v Ms=>∃ (uw:Value) (Mw:List Zd),v = .tuple #[]/\Ms = [.one (ck b T [.one (uw),.i r.gE]),.all Mw]/\Z0c (El.int .u8) uw Mw r.gB)):=by
 unfold Z37 at h
 refine Zj mo ok90 rfl h0 ?_
 refine Z0<|Z1<|Za (Z02 (s:=(Z6 p1 [])) rfl fun b1 u1=>Z2<|Z0<|oH h fun y1 f1 h=>Z1<|Z7 rfl<|Z0z (p:=(Z6 p1 [])) rfl .here rfl<|Za (Z0j (mS:=_::M1) rfl (Z1f .t1 .t1) (fun w hw=>Z8f  f1 (Z0w hw (Z1f .t1 .t1)) O1) fun v5 o1 R1=>?_))
 obtain ⟨v7,w1,rfl,rfl,O2⟩:=R1
 refine Z2<|oH h fun y2 f2 h=>Z1<|Z7 rfl<|Z4c rfl<|Zq _ (Z8b rfl .no .no .no (by simp) (by decide))<|Za (Z0j (mS:=_::w1) rfl (Z1f .here .here) (fun w hw=>Z60  f2 (Z0w hw (Z1f .here .here)) O2 ⟨(Z1u (s:=(Z6 p1 [])) (N:=64) (k:=.u8) (base:=35) (lo:=0) (hi:=64) (mz:=64) (.there (.app .here)) rfl (by decide)) w hw,(Zh2 (Zj1 (.there (.app .here)) .here hw Z5m) (Zj2 (.there (.app .here)) .t1 hw Z5m))⟩) fun v12 o2 R2=>?_)
 obtain ⟨v14,w2,rfl,rfl,O3⟩:=R2
 refine Z2 ?_
 cases h
 exact ⟨_,_,.nil,(.o (.all .here .nil)),⟨_,rfl,⟨v14,w2,rfl,rfl,O3⟩⟩⟩
def Z3r (p0:Z0e):Option Bool :=
 opt (Z2n p0.gCert) fun y1 =>
 some y1
theorem Ze1 {W:World} {r:Bool} {p0:Z0e} (h:Z3r p0=some r)  :
    Calls Tryz.prog 122 [agg (Z6 p0.gCert [b6' p0.gSig])].toArray W (Z1w W (.bool (r))):=by
 unfold Z3r at h
 refine Z9 mo Z0sx rfl ?_
 refine Z0<|Z1<|Za (Z02 (s:=(Z6 p0.gCert [b6' p0.gSig])) rfl fun b1 u1=>Z7 rfl<|Z2<|Z0<|oH h fun y1 f1 h=>Z1<|Z4c rfl<|Z0z (p:=(Z6 p0.gCert [])) rfl .here (by kernel_rfl)<|Z2o rfl (Z5t f1)<|Z7 rfl<|Z2<|Zf ?_)
 cases h
 exact ⟨_,(.cons (.tmp rfl) .nil),rfl⟩
def Z3f (p0:Z0e):OL :=
 opt (Z3r p0) fun y1 =>
 br ((!y1)) (
 some []
 ) (
 opt (Z17 4) fun y2 =>
 opt (Z37 y2 p0.gCert) fun y3 =>
 opt (Z1k y3) fun y4 =>
 some y4.1
 )
theorem Zd4 {W:World} {r:(LI)} {p0:Z0e} (h:Z3f p0=some r)  :
    Calls Tryz.prog 55 [agg (Z6 p0.gCert [b6' p0.gSig])].toArray W (Z67 W [] (fun v Ms=>∃ (u0:Value) (M1:List Zd),v=u0/\Ms = [.all M1]/\Z0c (El.int .u8) u0 M1 r)):=by
 unfold Z3f at h
 refine Zj mo ok55 rfl (Zbz _) ?_
 refine Z0<|Z1<|Za (Z02 (s:=(Z6 p0.gCert [b6' p0.gSig])) rfl fun b1 hb1=>Z7 rfl<|Z2<|Z0<|Z0<|oH h fun y1 f1 h=>Z1<|Z0z (p:=(Z6 p0.gCert [b6' p0.gSig])) rfl .here (by kernel_rfl)<|Z2o rfl (Ze1 f1)<|Zq _ (Zuu rfl rfl)<|Z2<|Z0k h rfl (fun h=>?_) (fun h=>?_))
 ·refine Z0<|Z1<|Z7 rfl<|Z2<|Zf ?_
  cases h
  exact ⟨_,_,(.cons (.tmp rfl) .nil),(.no .nil),⟨_,rfl,⟨(.slice none 0 0),[],rfl,rfl,Z3y⟩⟩⟩
 ·refine Zp<|Z0<|oH h fun y2 f2 h=>Z1<|Za (Zg rfl (fun w hw=>Z1h  f2 ) fun v9 o1 R1=>?_)
  obtain ⟨b2,T12,v13,w1,rfl,rfl,O1⟩:=R1
  refine Z7 rfl<|Z2<|Z0<|oH h fun y3 f3 h=>Z1<|Z7 rfl<|Z4c rfl<|Z0z (p:=(Z6 p0.gCert [])) rfl (.there (.app .here)) (by kernel_rfl)<|Za (Z0j (mS:=_::w1) rfl (Z1f .here .here) (fun w hw=>Z8e  f3 (Z0w hw (Z1f .here .here)) O1) fun v18 o2 R2=>?_)
  obtain ⟨v20,w2,rfl,rfl,O2⟩:=R2
  refine Z2<|Z0<|oH h fun y4 f4 h=>Z1<|Z7 rfl<|Za (Z0j (mS:=_::w2) rfl (Z1f .here .here) (fun w hw=>Z1p  f4 (Z0w hw (Z1f .here .here)) O2) fun v25 o3 R3=>?_)
  obtain ⟨_,w3,v30,rfl,rfl,O3⟩:=R3
  refine Z7 rfl<|Z2<|Zf ?_
  cases h
  exact ⟨_,_,(.cons (.tmp rfl) .nil),(.all .here .nil),⟨_,rfl,⟨v25,w3,rfl,rfl,O3⟩⟩⟩
def Z2z (p0:LI) (p1:Z0e):Option (Z0e) :=
 opt (Z3f p1) fun y1 =>
 opt (Zdm p0 y1) fun y2 =>
 some (⟨p1.gCert,y2⟩:Z0e)
theorem Zc8 {W:World} {r:Z0e} {p0:LI} {p1:Z0e} (h:Z2z p0 p1=some r) (hG:Globs W) :
    Calls Tryz.prog 18 [agg [b3' p0],agg (Z6 p1.gCert [b6' p1.gSig])].toArray W (Z1w W (agg (Z6 r.gCert [b6' r.gSig]))):=by
 unfold Z2z at h
 refine Z9 mo ok18 rfl ?_
 refine Z0<|Z1<|Za (Z02 (s:=[b3' p0]) rfl fun b1 u1=>Za (Z02 (s:=(Z6 p1.gCert [b6' p1.gSig])) rfl fun b2 u2=>Za (Zu fun b3 u3=>Z2<|Z0<|oH h fun y1 f1 h=>oH h fun y2 f2 h=>Zv<|Z1q (p:=[b3' p0]) rfl .t2 rfl<|Z1q (p:=(Z6 p1.gCert [b6' p1.gSig])) rfl .t1 (by kernel_rfl)<|Z36 (Zg rfl (fun w hw=>Zd4  f1 ) fun v7 o1 R1=>?_))))
 obtain ⟨_,w1,rfl,rfl,O1⟩:=R1
 refine ⟨sU,Z88 _ (Z06 rfl (fun w hw=>Z7m f2 (hG.at hw (by simp)) ((Z0l O1 .here) w hw))) (Zdc rfl (Z16 rfl (Zm (p:=[b6' y2]) (q:=(Z6 p1.gCert [b6' y2])) rfl rfl (by kernel_rfl) (by kernel_rfl) (by kernel_rfl) (.app .t1) (Z03 (Z0 (Z1 (Z0z (p:=(Z6 p1.gCert [b6' y2])) rfl (.app .t1) (by kernel_rfl) (Za (Zm (p:=(Z6 p1.gCert [b6' y2])) (q:=(Z6 p1.gCert [b6' y2])) rfl rfl (by kernel_rfl) (by kernel_rfl) (by kernel_rfl) (.app .here) (Z2 (Zf ?_))))))))))) sU⟩
 cases h
 exact ⟨_,(.cons (.agg rfl (.app .here) rfl) .nil),rfl⟩
def Zlf:Option (Unit) :=
 some ()
theorem Zqu {W:World} {r:Unit} (h:Zlf=some r)  :
    Calls Tryz.prog 56 [].toArray W (Z1w W (agg [.one (.func (.func 123) #[] #[]),.one (.func (.func 124) #[] #[]),.one (.func (.func 125) #[] #[]),.one (.func (.func 126) #[] #[])])):=by
 unfold Zlf at h
 refine Z9 mo ok56 rfl ?_
 refine Z0<|Z1<|Za (Zu fun b1 u1=>Z2<|Z0<|Z1<|Zq _ (Zex (q:=[.one (.func (.func 123) #[] #[]),.one (.func (.func 124) #[] #[]),.one (.func (.func 125) #[] #[]),.one (.func (.func 126) #[] #[])]) (.one rfl rfl rfl (.one rfl rfl rfl (.one rfl rfl rfl (.one rfl rfl rfl BdR.nil)))))<|Za (Zm (q:=[.one (.func (.func 123) #[] #[]),.one (.func (.func 124) #[] #[]),.one (.func (.func 125) #[] #[]),.one (.func (.func 126) #[] #[])]) rfl rfl rfl rfl rfl .here<|Z2<|Zf ?_))
 cases h
 exact ⟨_,(.cons (.agg rfl .here rfl) .nil),rfl⟩
def Z5c (p0:Z0r):Option Bool :=
 opt (Z0f p0.gSerial 1 65535) fun y1 =>
 chk (imp y1 ((Z0f p0.gGate 1 16).isSome)) <|
 chk (imp (y1&&((Z0f p0.gGate 1 16).getD false)) ((Z0f p0.gIndex 0 4096).isSome)) <|
 some ((y1&&((Z0f p0.gGate 1 16).getD false))&&((Z0f p0.gIndex 0 4096).getD false))
theorem Zgd {W:World} {r:Bool} {p0:Z0r} (h:Z5c p0=some r)  :
    Calls Tryz.prog 127 [agg (Z0d p0 [])].toArray W (Z1w W (.bool (r))):=by
 unfold Z5c at h
 refine Z9 mo Z0t0 rfl ?_
 refine Z0<|Z1<|Za (Z02 (s:=(Z0d p0 [])) rfl fun b1 u1=>Z7 rfl<|Z2<|Z0<|oH h fun y1 f1 h=>cH h fun c1 h=>cH h fun c2 h=>Z1<|Z4c rfl<|Zky rfl .here rfl<|Z2o rfl (Z11 f1)<|Z7 rfl<|Ziy rfl rfl rfl (fun hg1=>Z8y rfl _ (Zrm rfl) (Z8y rfl _ (Z86 rfl .here rfl) (Z8y rfl _ (Z06 rfl (fun _ _=>Z11 (getD_some (z:=false) (Z066 c1 hg1)))) (Z8m)))) (fun hg1=>rfl) rfl<|Z7 rfl<|Ziy rfl rfl rfl (fun hg1=>Z8y rfl _ (Zrm rfl) (Z8y rfl _ (Z86 rfl .here rfl) (Z8y rfl _ (Z06 rfl (fun _ _=>Z11 (getD_some (z:=false) (Z066 c2 hg1)))) (Z8m)))) (fun hg1=>rfl) rfl<|Z7 rfl<|Z2<|Zf ?_)
 cases h
 exact ⟨_,(.cons (.tmp rfl) .nil),rfl⟩
def Z4w (p0:Z27) (p1:Z0r):Option (Z27) :=
 bnd (wrap .u32 p1.gSerial) fun z1 =>
 opt (Z4s p0 z1) fun y1 =>
 bnd (wrap .u32 p1.gGate) fun z2 =>
 opt (Z4s y1 z2) fun y2 =>
 bnd (wrap .u32 p1.gIndex) fun z3 =>
 opt (Z4s y2 z3) fun y3 =>
 opt (Z5j y3 (tk p1.gValue 0 32)) fun y4 =>
 some y4
theorem Zfg {W:World} {r:Z27} {p0:Z27} {p1:Z0r} {v0:Value} {M1:List Zd} {b:Nat} {T:TypeId} (h:Z4w p0 p1=some r) (h0:Sat W (b::M1.map (·.b)) (ck b T [.one (v0),.i p0.gE]::(M1 ++ [])) W) (O1:Z0c (El.int .u8) v0 M1 p0.gB) :
    Calls Tryz.prog 128 [.pointer (some ⟨b,0,none⟩),agg (Z0d p1 [])].toArray W (Z67 W (b::M1.map (·.b)) (fun v Ms=>∃ (uw:Value) (Mw:List Zd),v = .tuple #[]/\Ms = [.one (ck b T [.one (uw),.i r.gE]),.all Mw]/\Z0c (El.int .u8) uw Mw r.gB)):=by
 unfold Z4w at h
 refine Zj mo Z0t1 rfl h0 ?_
 refine Z0<|Z1<|Za (Z02 (s:=(Z0d p1 [])) rfl fun b1 u1=>Z2<|Z0<|bH h fun z1 e1 h=>oH h fun y1 f1 h=>Z1<|Z7 rfl<|Z4c rfl<|Zky rfl .here rfl<|j_v e1 rfl<|Za (Z0j (mS:=_::M1) rfl (Z1f .t1 .t1) (fun w hw=>Z31  f1 (Z0w hw (Z1f .t1 .t1)) O1) fun v6 o1 R1=>?_))
 obtain ⟨v8,w1,rfl,rfl,O2⟩:=R1
 refine Z2<|Z0<|bH h fun z2 e2 h=>oH h fun y2 f2 h=>Z1<|Z7 rfl<|Z4c rfl<|Zky rfl (.there (.app .here)) rfl<|j_v e2 rfl<|Za (Z0j (mS:=_::w1) rfl (Z1f .here .here) (fun w hw=>Z31  f2 (Z0w hw (Z1f .here .here)) O2) fun v14 o2 R2=>?_)
 obtain ⟨v16,w2,rfl,rfl,O3⟩:=R2
 refine Z2<|Z0<|bH h fun z3 e3 h=>oH h fun y3 f3 h=>Z1<|Z7 rfl<|Z4c rfl<|Zky rfl (.there (.app .here)) rfl<|j_v e3 rfl<|Za (Z0j (mS:=_::w2) rfl (Z1f .here .here) (fun w hw=>Z31  f3 (Z0w hw (Z1f .here .here)) O3) fun v22 o3 R3=>?_)
 obtain ⟨v24,w3,rfl,rfl,O4⟩:=R3
 refine Z2<|oH h fun y4 f4 h=>Z1<|Z7 rfl<|Z4c rfl<|Zq _ (Z8b rfl .no .no .no (by simp) (by decide))<|Za (Z0j (mS:=_::w3) rfl (Z1f .here .here) (fun w hw=>Z60  f4 (Z0w hw (Z1f .here .here)) O4 ⟨(Z1u (s:=(Z0d p1 [])) (N:=32) (k:=.u8) (base:=3) (lo:=0) (hi:=32) (mz:=32) (.there (.app .here)) rfl (by decide)) w hw,(Zh2 (Zj1 (.there (.app .here)) .here hw Z5m) (Zj2 (.there (.app .here)) .t1 hw Z5m))⟩) fun v29 o4 R4=>?_)
 obtain ⟨v31,w4,rfl,rfl,O5⟩:=R4
 refine Z2 ?_
 cases h
 exact ⟨_,_,.nil,(.o (.all .here .nil)),⟨_,rfl,⟨v31,w4,rfl,rfl,O5⟩⟩⟩
def Z4v (p0:Z0r):OL :=
 opt (Z5c p0) fun y1 =>
 br ((!y1)) (
 some []
 ) (
 opt (Z17 5) fun y2 =>
 opt (Z4w y2 p0) fun y3 =>
 opt (Z1k y3) fun y4 =>
 some y4.1
 )
theorem Zff {W:World} {r:(LI)} {p0:Z0r} (h:Z4v p0=some r)  :
    Calls Tryz.prog 58 [agg (Z0d p0 [])].toArray W (Z67 W [] (fun v Ms=>∃ (u0:Value) (M1:List Zd),v=u0/\Ms = [.all M1]/\Z0c (El.int .u8) u0 M1 r)):=by
 unfold Z4v at h
 refine Zj mo ok58 rfl (Zbz _) ?_
 refine Z0<|Z1<|Za (Z02 (s:=(Z0d p0 [])) rfl fun b1 hb1=>Z7 rfl<|Z2<|Z0<|Z0<|oH h fun y1 f1 h=>Z1<|Z0z (p:=(Z0d p0 [])) rfl .here rfl<|Z2o rfl (Zgd f1)<|Zq _ (Zuu rfl rfl)<|Z2<|Z0k h rfl (fun h=>?_) (fun h=>?_))
 ·refine Z0<|Z1<|Z7 rfl<|Z2<|Zf ?_
  cases h
  exact ⟨_,_,(.cons (.tmp rfl) .nil),(.no .nil),⟨_,rfl,⟨(.slice none 0 0),[],rfl,rfl,Z3y⟩⟩⟩
 ·refine Zp<|Z0<|oH h fun y2 f2 h=>Z1<|Za (Zg rfl (fun w hw=>Z1h  f2 ) fun v9 o1 R1=>?_)
  obtain ⟨b2,T12,v13,w1,rfl,rfl,O1⟩:=R1
  refine Z7 rfl<|Z2<|Z0<|oH h fun y3 f3 h=>Z1<|Z7 rfl<|Z0z (p:=(Z0d p0 [])) rfl (.there (.app .here)) rfl<|Za (Z0j (mS:=_::w1) rfl (Z1f .here .here) (fun w hw=>Zfg  f3 (Z0w hw (Z1f .here .here)) O1) fun v18 o2 R2=>?_)
  obtain ⟨v20,w2,rfl,rfl,O2⟩:=R2
  refine Z2<|Z0<|oH h fun y4 f4 h=>Z1<|Z7 rfl<|Za (Z0j (mS:=_::w2) rfl (Z1f .here .here) (fun w hw=>Z1p  f4 (Z0w hw (Z1f .here .here)) O2) fun v25 o3 R3=>?_)
  obtain ⟨_,w3,v30,rfl,rfl,O3⟩:=R3
  refine Z7 rfl<|Z2<|Zf ?_
  cases h
  exact ⟨_,_,(.cons (.tmp rfl) .nil),(.all .here .nil),⟨_,rfl,⟨v25,w3,rfl,rfl,O3⟩⟩⟩
def Z4i (p0:LI) (p1:Z0r):Option (Z0r) :=
 opt (Z4v p1) fun y1 =>
 opt (Zdm p0 y1) fun y2 =>
 some (⟨p1.gSerial,p1.gGate,p1.gIndex,p1.gValue,y2⟩:Z0r)
theorem Zeq {W:World} {r:Z0r} {p0:LI} {p1:Z0r} (h:Z4i p0 p1=some r) (hG:Globs W) :
    Calls Tryz.prog 20 [agg [b3' p0],agg (Z0d p1 [])].toArray W (Z1w W (agg (Z0d r []))):=by
 unfold Z4i at h
 refine Z9 mo ok20 rfl ?_
 refine Z0<|Z1<|Za (Z02 (s:=[b3' p0]) rfl fun b1 u1=>Za (Z02 (s:=(Z0d p1 [])) rfl fun b2 u2=>Za (Zu fun b3 u3=>Z2<|Z0<|oH h fun y1 f1 h=>oH h fun y2 f2 h=>Zv<|Z1q (p:=[b3' p0]) rfl .t2 rfl<|Z1q (p:=(Z0d p1 [])) rfl .t1 rfl<|Z36 (Zg rfl (fun w hw=>Zff  f1 ) fun v7 o1 R1=>?_))))
 obtain ⟨_,w1,rfl,rfl,O1⟩:=R1
 refine ⟨sU,Z88 _ (Z06 rfl (fun w hw=>Z7m f2 (hG.at hw (by simp)) ((Z0l O1 .here) w hw))) (Zdc rfl (Z16 rfl (Zm (q:=[.i p1.gSerial,.i p1.gGate,.i p1.gIndex,b3' p1.gValue,b6' y2]) rfl rfl rfl rfl rfl (.app .t1) (Z03 (Z0 (Z1 (Z0z (p:=[.i p1.gSerial,.i p1.gGate,.i p1.gIndex,b3' p1.gValue,b6' y2]) rfl (.app .t1) rfl (Za (Zm (q:=[.i p1.gSerial,.i p1.gGate,.i p1.gIndex,b3' p1.gValue,b6' y2]) rfl rfl rfl rfl rfl (.app .here) (Z2 (Zf ?_))))))))))) sU⟩
 cases h
 exact ⟨_,(.cons (.agg rfl (.app .here) rfl) .nil),rfl⟩
def Z8s:Option (Unit) :=
 some ()
theorem Zil {W:World} {r:Unit} (h:Z8s=some r)  :
    Calls Tryz.prog 59 [].toArray W (Z1w W (agg [.one (.func (.func 129) #[] #[]),.one (.func (.func 130) #[] #[]),.one (.func (.func 131) #[] #[]),.one (.func (.func 132) #[] #[])])):=by
 unfold Z8s at h
 refine Z9 mo ok59 rfl ?_
 refine Z0<|Z1<|Za (Zu fun b1 u1=>Z2<|Z0<|Z1<|Zq _ (Zex (q:=[.one (.func (.func 129) #[] #[]),.one (.func (.func 130) #[] #[]),.one (.func (.func 131) #[] #[]),.one (.func (.func 132) #[] #[])]) (.one rfl rfl rfl (.one rfl rfl rfl (.one rfl rfl rfl (.one rfl rfl rfl BdR.nil)))))<|Za (Zm (q:=[.one (.func (.func 129) #[] #[]),.one (.func (.func 130) #[] #[]),.one (.func (.func 131) #[] #[]),.one (.func (.func 132) #[] #[])]) rfl rfl rfl rfl rfl .here<|Z2<|Zf ?_))
 cases h
 exact ⟨_,(.cons (.agg rfl .here rfl) .nil),rfl⟩
def Z2e (p0:Zs):Option Bool :=
 opt (Z2n p0.gCert) fun y1 =>
 some y1
theorem Zaz {W:World} {r:Bool} {p0:Zs} (h:Z2e p0=some r)  :
    Calls Tryz.prog 133 [agg (Z6 p0.gCert [b6' p0.gSig])].toArray W (Z1w W (.bool (r))):=by
 unfold Z2e at h
 refine Z9 mo Z0t4 rfl ?_
 refine Z0<|Z1<|Za (Z02 (s:=(Z6 p0.gCert [b6' p0.gSig])) rfl fun b1 u1=>Z7 rfl<|Z2<|Z0<|oH h fun y1 f1 h=>Z1<|Z4c rfl<|Z0z (p:=(Z6 p0.gCert [])) rfl .here (by kernel_rfl)<|Z2o rfl (Z5t f1)<|Z7 rfl<|Z2<|Zf ?_)
 cases h
 exact ⟨_,(.cons (.tmp rfl) .nil),rfl⟩
def Z26 (p0:Zs):OL :=
 opt (Z2e p0) fun y1 =>
 br ((!y1)) (
 some []
 ) (
 opt (Z17 6) fun y2 =>
 opt (Z37 y2 p0.gCert) fun y3 =>
 opt (Z1k y3) fun y4 =>
 some y4.1
 )
theorem Zad {W:World} {r:(LI)} {p0:Zs} (h:Z26 p0=some r)  :
    Calls Tryz.prog 61 [agg (Z6 p0.gCert [b6' p0.gSig])].toArray W (Z67 W [] (fun v Ms=>∃ (u0:Value) (M1:List Zd),v=u0/\Ms = [.all M1]/\Z0c (El.int .u8) u0 M1 r)):=by
 unfold Z26 at h
 refine Zj mo ok61 rfl (Zbz _) ?_
 refine Z0<|Z1<|Za (Z02 (s:=(Z6 p0.gCert [b6' p0.gSig])) rfl fun b1 hb1=>Z7 rfl<|Z2<|Z0<|Z0<|oH h fun y1 f1 h=>Z1<|Z0z (p:=(Z6 p0.gCert [b6' p0.gSig])) rfl .here (by kernel_rfl)<|Z2o rfl (Zaz f1)<|Zq _ (Zuu rfl rfl)<|Z2<|Z0k h rfl (fun h=>?_) (fun h=>?_))
 ·refine Z0<|Z1<|Z7 rfl<|Z2<|Zf ?_
  cases h
  exact ⟨_,_,(.cons (.tmp rfl) .nil),(.no .nil),⟨_,rfl,⟨(.slice none 0 0),[],rfl,rfl,Z3y⟩⟩⟩
 ·refine Zp<|Z0<|oH h fun y2 f2 h=>Z1<|Za (Zg rfl (fun w hw=>Z1h  f2 ) fun v9 o1 R1=>?_)
  obtain ⟨b2,T12,v13,w1,rfl,rfl,O1⟩:=R1
  refine Z7 rfl<|Z2<|Z0<|oH h fun y3 f3 h=>Z1<|Z7 rfl<|Z4c rfl<|Z0z (p:=(Z6 p0.gCert [])) rfl (.there (.app .here)) (by kernel_rfl)<|Za (Z0j (mS:=_::w1) rfl (Z1f .here .here) (fun w hw=>Z8e  f3 (Z0w hw (Z1f .here .here)) O1) fun v18 o2 R2=>?_)
  obtain ⟨v20,w2,rfl,rfl,O2⟩:=R2
  refine Z2<|Z0<|oH h fun y4 f4 h=>Z1<|Z7 rfl<|Za (Z0j (mS:=_::w2) rfl (Z1f .here .here) (fun w hw=>Z1p  f4 (Z0w hw (Z1f .here .here)) O2) fun v25 o3 R3=>?_)
  obtain ⟨_,w3,v30,rfl,rfl,O3⟩:=R3
  refine Z7 rfl<|Z2<|Zf ?_
  cases h
  exact ⟨_,_,(.cons (.tmp rfl) .nil),(.all .here .nil),⟨_,rfl,⟨v25,w3,rfl,rfl,O3⟩⟩⟩
def Z22 (p0:LI) (p1:Zs):Option (Zs) :=
 opt (Z26 p1) fun y1 =>
 opt (Zdm p0 y1) fun y2 =>
 some (⟨p1.gCert,y2⟩:Zs)
theorem Za2 {W:World} {r:Zs} {p0:LI} {p1:Zs} (h:Z22 p0 p1=some r) (hG:Globs W) :
    Calls Tryz.prog 22 [agg [b3' p0],agg (Z6 p1.gCert [b6' p1.gSig])].toArray W (Z1w W (agg (Z6 r.gCert [b6' r.gSig]))):=by
 unfold Z22 at h
 refine Z9 mo ok22 rfl ?_
 refine Z0<|Z1<|Za (Z02 (s:=[b3' p0]) rfl fun b1 u1=>Za (Z02 (s:=(Z6 p1.gCert [b6' p1.gSig])) rfl fun b2 u2=>Za (Zu fun b3 u3=>Z2<|Z0<|oH h fun y1 f1 h=>oH h fun y2 f2 h=>Zv<|Z1q (p:=[b3' p0]) rfl .t2 rfl<|Z1q (p:=(Z6 p1.gCert [b6' p1.gSig])) rfl .t1 (by kernel_rfl)<|Z36 (Zg rfl (fun w hw=>Zad  f1 ) fun v7 o1 R1=>?_))))
 obtain ⟨_,w1,rfl,rfl,O1⟩:=R1
 refine ⟨sU,Z88 _ (Z06 rfl (fun w hw=>Z7m f2 (hG.at hw (by simp)) ((Z0l O1 .here) w hw))) (Zdc rfl (Z16 rfl (Zm (p:=[b6' y2]) (q:=(Z6 p1.gCert [b6' y2])) rfl rfl (by kernel_rfl) (by kernel_rfl) (by kernel_rfl) (.app .t1) (Z03 (Z0 (Z1 (Z0z (p:=(Z6 p1.gCert [b6' y2])) rfl (.app .t1) (by kernel_rfl) (Za (Zm (p:=(Z6 p1.gCert [b6' y2])) (q:=(Z6 p1.gCert [b6' y2])) rfl rfl (by kernel_rfl) (by kernel_rfl) (by kernel_rfl) (.app .here) (Z2 (Zf ?_))))))))))) sU⟩
 cases h
 exact ⟨_,(.cons (.agg rfl (.app .here) rfl) .nil),rfl⟩
def Zgn:Option (Unit) :=
 some ()
theorem Znp {W:World} {r:Unit} (h:Zgn=some r)  :
    Calls Tryz.prog 62 [].toArray W (Z1w W (agg [.one (.func (.func 134) #[] #[]),.one (.func (.func 135) #[] #[]),.one (.func (.func 136) #[] #[]),.one (.func (.func 137) #[] #[])])):=by
 unfold Zgn at h
 refine Z9 mo ok62 rfl ?_
 refine Z0<|Z1<|Za (Zu fun b1 u1=>Z2<|Z0<|Z1<|Zq _ (Zex (q:=[.one (.func (.func 134) #[] #[]),.one (.func (.func 135) #[] #[]),.one (.func (.func 136) #[] #[]),.one (.func (.func 137) #[] #[])]) (.one rfl rfl rfl (.one rfl rfl rfl (.one rfl rfl rfl (.one rfl rfl rfl BdR.nil)))))<|Za (Zm (q:=[.one (.func (.func 134) #[] #[]),.one (.func (.func 135) #[] #[]),.one (.func (.func 136) #[] #[]),.one (.func (.func 137) #[] #[])]) rfl rfl rfl rfl rfl .here<|Z2<|Zf ?_))
 cases h
 exact ⟨_,(.cons (.agg rfl .here rfl) .nil),rfl⟩
def Z4f (p0:Z0h):Option Bool :=
 opt (Z0f p0.gFloor 1 65536) fun y1 =>
 some y1
theorem Zen {W:World} {r:Bool} {p0:Z0h} (h:Z4f p0=some r)  :
    Calls Tryz.prog 138 [agg (Z04 p0 [])].toArray W (Z1w W (.bool (r))):=by
 unfold Z4f at h
 refine Z9 mo Z0t7 rfl ?_
 refine Z0<|Z1<|Za (Z02 (s:=(Z04 p0 [])) rfl fun b1 u1=>Z7 rfl<|Z2<|Z0<|oH h fun y1 f1 h=>Z1<|Z4c rfl<|Zky rfl .here rfl<|Z2o rfl (Z11 f1)<|Z7 rfl<|Z2<|Zf ?_)
 cases h
 exact ⟨_,(.cons (.tmp rfl) .nil),rfl⟩
def Z3s (p0:Z0h):OL :=
 opt (Z4f p0) fun y1 =>
 br ((!y1)) (
 some []
 ) (
 opt (Z17 7) fun y2 =>
 bnd (wrap .u32 p0.gFloor) fun z1 =>
 opt (Z4s y2 z1) fun y3 =>
 opt (Z1k y3) fun y4 =>
 some y4.1
 )
theorem Ze2 {W:World} {r:(LI)} {p0:Z0h} (h:Z3s p0=some r)  :
    Calls Tryz.prog 64 [agg (Z04 p0 [])].toArray W (Z67 W [] (fun v Ms=>∃ (u0:Value) (M1:List Zd),v=u0/\Ms = [.all M1]/\Z0c (El.int .u8) u0 M1 r)):=by
 unfold Z3s at h
 refine Zj mo ok64 rfl (Zbz _) ?_
 refine Z0<|Z1<|Za (Z02 (s:=(Z04 p0 [])) rfl fun b1 hb1=>Z7 rfl<|Z2<|Z0<|Z0<|oH h fun y1 f1 h=>Z1<|Z0z (p:=(Z04 p0 [])) rfl .here rfl<|Z2o rfl (Zen f1)<|Zq _ (Zuu rfl rfl)<|Z2<|Z0k h rfl (fun h=>?_) (fun h=>?_))
 ·refine Z0<|Z1<|Z7 rfl<|Z2<|Zf ?_
  cases h
  exact ⟨_,_,(.cons (.tmp rfl) .nil),(.no .nil),⟨_,rfl,⟨(.slice none 0 0),[],rfl,rfl,Z3y⟩⟩⟩
 ·refine Zp<|Z0<|oH h fun y2 f2 h=>Z1<|Za (Zg rfl (fun w hw=>Z1h  f2 ) fun v9 o1 R1=>?_)
  obtain ⟨b2,T12,v13,w1,rfl,rfl,O1⟩:=R1
  refine Z7 rfl<|Z2<|Z0<|bH h fun z1 e1 h=>oH h fun y3 f3 h=>Z1<|Z7 rfl<|Z4c rfl<|Zky rfl (.there (.app .here)) rfl<|j_v e1 rfl<|Za (Z0j (mS:=_::w1) rfl (Z1f .here .here) (fun w hw=>Z31  f3 (Z0w hw (Z1f .here .here)) O1) fun v19 o2 R2=>?_)
  obtain ⟨v21,w2,rfl,rfl,O2⟩:=R2
  refine Z2<|Z0<|oH h fun y4 f4 h=>Z1<|Z7 rfl<|Za (Z0j (mS:=_::w2) rfl (Z1f .here .here) (fun w hw=>Z1p  f4 (Z0w hw (Z1f .here .here)) O2) fun v26 o3 R3=>?_)
  obtain ⟨_,w3,v31,rfl,rfl,O3⟩:=R3
  refine Z7 rfl<|Z2<|Zf ?_
  cases h
  exact ⟨_,_,(.cons (.tmp rfl) .nil),(.all .here .nil),⟨_,rfl,⟨v26,w3,rfl,rfl,O3⟩⟩⟩
def Z3g (p0:LI) (p1:Z0h):Option (Z0h) :=
 opt (Z3s p1) fun y1 =>
 opt (Zdm p0 y1) fun y2 =>
 some (⟨p1.gFloor,y2⟩:Z0h)
theorem Zd5 {W:World} {r:Z0h} {p0:LI} {p1:Z0h} (h:Z3g p0 p1=some r) (hG:Globs W) :
    Calls Tryz.prog 24 [agg [b3' p0],agg (Z04 p1 [])].toArray W (Z1w W (agg (Z04 r []))):=by
 unfold Z3g at h
 refine Z9 mo ok24 rfl ?_
 refine Z0<|Z1<|Za (Z02 (s:=[b3' p0]) rfl fun b1 u1=>Za (Z02 (s:=(Z04 p1 [])) rfl fun b2 u2=>Za (Zu fun b3 u3=>Z2<|Z0<|oH h fun y1 f1 h=>oH h fun y2 f2 h=>Zv<|Z1q (p:=[b3' p0]) rfl .t2 rfl<|Z1q (p:=(Z04 p1 [])) rfl .t1 rfl<|Z36 (Zg rfl (fun w hw=>Ze2  f1 ) fun v7 o1 R1=>?_))))
 obtain ⟨_,w1,rfl,rfl,O1⟩:=R1
 refine ⟨sU,Z88 _ (Z06 rfl (fun w hw=>Z7m f2 (hG.at hw (by simp)) ((Z0l O1 .here) w hw))) (Zdc rfl (Z16 rfl (Zm (q:=[.i p1.gFloor,b6' y2]) rfl rfl rfl rfl rfl (.app .t1) (Z03 (Z0 (Z1 (Z0z (p:=[.i p1.gFloor,b6' y2]) rfl (.app .t1) rfl (Za (Zm (q:=[.i p1.gFloor,b6' y2]) rfl rfl rfl rfl rfl (.app .here) (Z2 (Zf ?_))))))))))) sU⟩
 cases h
 exact ⟨_,(.cons (.agg rfl (.app .here) rfl) .nil),rfl⟩
def Zch:Option (Unit) :=
 some ()
theorem Zlg {W:World} {r:Unit} (h:Zch=some r)  :
    Calls Tryz.prog 65 [].toArray W (Z1w W (agg [.one (.func (.func 139) #[] #[]),.one (.func (.func 140) #[] #[]),.one (.func (.func 141) #[] #[]),.one (.func (.func 142) #[] #[])])):=by
 unfold Zch at h
 refine Z9 mo ok65 rfl ?_
 refine Z0<|Z1<|Za (Zu fun b1 u1=>Z2<|Z0<|Z1<|Zq _ (Zex (q:=[.one (.func (.func 139) #[] #[]),.one (.func (.func 140) #[] #[]),.one (.func (.func 141) #[] #[]),.one (.func (.func 142) #[] #[])]) (.one rfl rfl rfl (.one rfl rfl rfl (.one rfl rfl rfl (.one rfl rfl rfl BdR.nil)))))<|Za (Zm (q:=[.one (.func (.func 139) #[] #[]),.one (.func (.func 140) #[] #[]),.one (.func (.func 141) #[] #[]),.one (.func (.func 142) #[] #[])]) rfl rfl rfl rfl rfl .here<|Z2<|Zf ?_))
 cases h
 exact ⟨_,(.cons (.agg rfl .here rfl) .nil),rfl⟩
def Z3e (p0:Zw):Option Bool :=
 opt (Z0f p0.gSerial 1 65535) fun y1 =>
 chk (imp y1 ((Z0f p0.gRides 0 4096).isSome)) <|
 some ((y1&&((Z0f p0.gRides 0 4096).getD false))&&(decide (p0.gAmount≥0)))
theorem Zd3 {W:World} {r:Bool} {p0:Zw} (h:Z3e p0=some r)  :
    Calls Tryz.prog 143 [agg (Zt p0 [])].toArray W (Z1w W (.bool (r))):=by
 unfold Z3e at h
 refine Z9 mo Z0ta rfl ?_
 refine Z0<|Z1<|Za (Z02 (s:=(Zt p0 [])) rfl fun b1 u1=>Z7 rfl<|Z2<|Z0<|oH h fun y1 f1 h=>cH h fun c1 h=>Z1<|Z4c rfl<|Zky rfl .here rfl<|Z2o rfl (Z11 f1)<|Z7 rfl<|Ziy rfl rfl rfl (fun hg1=>Z8y rfl _ (Zrm rfl) (Z8y rfl _ (Z86 rfl .here rfl) (Z8y rfl _ (Z06 rfl (fun _ _=>Z11 (getD_some (z:=false) (Z066 c1 hg1)))) (Z8m)))) (fun hg1=>rfl) rfl<|Z7 rfl<|Ziy rfl rfl rfl (fun hg1=>Z8y rfl _ (Zrm rfl) (Z8y rfl _ (Z86 rfl .here rfl) (Z8y rfl _ (Zbk rfl rfl rfl) (Z8m)))) (fun hg1=>rfl) rfl<|Z7 rfl<|Z2<|Zf ?_)
 cases h
 exact ⟨_,(.cons (.tmp rfl) .nil),rfl⟩
def Z2y (p0:Z27) (p1:Zw):Option (Z27) :=
 bnd (wrap .u32 p1.gSerial) fun z1 =>
 opt (Z4s p0 z1) fun y1 =>
 bnd (wrap .u32 p1.gRides) fun z2 =>
 opt (Z4s y1 z2) fun y2 =>
 bnd (wrap .u64 p1.gAmount) fun z3 =>
 opt (Zcp y2 z3) fun y3 =>
 some y3
theorem Zc7 {W:World} {r:Z27} {p0:Z27} {p1:Zw} {v0:Value} {M1:List Zd} {b:Nat} {T:TypeId} (h:Z2y p0 p1=some r) (h0:Sat W (b::M1.map (·.b)) (ck b T [.one (v0),.i p0.gE]::(M1 ++ [])) W) (O1:Z0c (El.int .u8) v0 M1 p0.gB) :
    Calls Tryz.prog 144 [.pointer (some ⟨b,0,none⟩),agg (Zt p1 [])].toArray W (Z67 W (b::M1.map (·.b)) (fun v Ms=>∃ (uw:Value) (Mw:List Zd),v = .tuple #[]/\Ms = [.one (ck b T [.one (uw),.i r.gE]),.all Mw]/\Z0c (El.int .u8) uw Mw r.gB)):=by
 unfold Z2y at h
 refine Zj mo Z0tb rfl h0 ?_
 refine Z0<|Z1<|Za (Z02 (s:=(Zt p1 [])) rfl fun b1 u1=>Z2<|Z0<|bH h fun z1 e1 h=>oH h fun y1 f1 h=>Z1<|Z7 rfl<|Z4c rfl<|Zky rfl .here rfl<|j_v e1 rfl<|Za (Z0j (mS:=_::M1) rfl (Z1f .t1 .t1) (fun w hw=>Z31  f1 (Z0w hw (Z1f .t1 .t1)) O1) fun v6 o1 R1=>?_))
 obtain ⟨v8,w1,rfl,rfl,O2⟩:=R1
 refine Z2<|Z0<|bH h fun z2 e2 h=>oH h fun y2 f2 h=>Z1<|Z7 rfl<|Z4c rfl<|Zky rfl (.there (.app .here)) rfl<|j_v e2 rfl<|Za (Z0j (mS:=_::w1) rfl (Z1f .here .here) (fun w hw=>Z31  f2 (Z0w hw (Z1f .here .here)) O2) fun v14 o2 R2=>?_)
 obtain ⟨v16,w2,rfl,rfl,O3⟩:=R2
 refine Z2<|bH h fun z3 e3 h=>oH h fun y3 f3 h=>Z1<|Z7 rfl<|Z4c rfl<|Zky rfl (.there (.app .here)) rfl<|j_v e3 rfl<|Za (Z0j (mS:=_::w2) rfl (Z1f .here .here) (fun w hw=>Zif  f3 (Z0w hw (Z1f .here .here)) O3) fun v22 o3 R3=>?_)
 obtain ⟨v24,w3,rfl,rfl,O4⟩:=R3
 refine Z2 ?_
 cases h
 exact ⟨_,_,.nil,(.o (.all .here .nil)),⟨_,rfl,⟨v24,w3,rfl,rfl,O4⟩⟩⟩
def Z2x (p0:Zw):OL :=
 opt (Z3e p0) fun y1 =>
 br ((!y1)) (
 some []
 ) (
 opt (Z17 8) fun y2 =>
 opt (Z2y y2 p0) fun y3 =>
 opt (Z1k y3) fun y4 =>
 some y4.1
 )
theorem Zc6 {W:World} {r:(LI)} {p0:Zw} (h:Z2x p0=some r)  :
    Calls Tryz.prog 67 [agg (Zt p0 [])].toArray W (Z67 W [] (fun v Ms=>∃ (u0:Value) (M1:List Zd),v=u0/\Ms = [.all M1]/\Z0c (El.int .u8) u0 M1 r)):=by
 unfold Z2x at h
 refine Zj mo ok67 rfl (Zbz _) ?_
 refine Z0<|Z1<|Za (Z02 (s:=(Zt p0 [])) rfl fun b1 hb1=>Z7 rfl<|Z2<|Z0<|Z0<|oH h fun y1 f1 h=>Z1<|Z0z (p:=(Zt p0 [])) rfl .here rfl<|Z2o rfl (Zd3 f1)<|Zq _ (Zuu rfl rfl)<|Z2<|Z0k h rfl (fun h=>?_) (fun h=>?_))
 ·refine Z0<|Z1<|Z7 rfl<|Z2<|Zf ?_
  cases h
  exact ⟨_,_,(.cons (.tmp rfl) .nil),(.no .nil),⟨_,rfl,⟨(.slice none 0 0),[],rfl,rfl,Z3y⟩⟩⟩
 ·refine Zp<|Z0<|oH h fun y2 f2 h=>Z1<|Za (Zg rfl (fun w hw=>Z1h  f2 ) fun v9 o1 R1=>?_)
  obtain ⟨b2,T12,v13,w1,rfl,rfl,O1⟩:=R1
  refine Z7 rfl<|Z2<|Z0<|oH h fun y3 f3 h=>Z1<|Z7 rfl<|Z0z (p:=(Zt p0 [])) rfl (.there (.app .here)) rfl<|Za (Z0j (mS:=_::w1) rfl (Z1f .here .here) (fun w hw=>Zc7  f3 (Z0w hw (Z1f .here .here)) O1) fun v18 o2 R2=>?_)
  obtain ⟨v20,w2,rfl,rfl,O2⟩:=R2
  refine Z2<|Z0<|oH h fun y4 f4 h=>Z1<|Z7 rfl<|Za (Z0j (mS:=_::w2) rfl (Z1f .here .here) (fun w hw=>Z1p  f4 (Z0w hw (Z1f .here .here)) O2) fun v25 o3 R3=>?_)
  obtain ⟨_,w3,v30,rfl,rfl,O3⟩:=R3
  refine Z7 rfl<|Z2<|Zf ?_
  cases h
  exact ⟨_,_,(.cons (.tmp rfl) .nil),(.all .here .nil),⟨_,rfl,⟨v25,w3,rfl,rfl,O3⟩⟩⟩
end Go.Proofs.YtkjfpenagcdmcaaGreatDoor
namespace Go.Proofs.YtkjfpenagcdmcaaGreatDoor
open Go Go.Sx Go.RowKit
set_option linter.all false
set_option maxHeartbeats 400000
set_option maxRecDepth 100000
def Z2q (p0:LI) (p1:Zw):Option (Zw) :=
 opt (Z2x p1) fun y1 =>
 opt (Zdm p0 y1) fun y2 =>
 some (⟨p1.gSerial,p1.gRides,p1.gAmount,y2⟩:Zw)
theorem Zbv {W:World} {r:Zw} {p0:LI} {p1:Zw} (h:Z2q p0 p1=some r) (hG:Globs W) :
    Calls Tryz.prog 26 [agg [b3' p0],agg (Zt p1 [])].toArray W (Z1w W (agg (Zt r []))):=by
 unfold Z2q at h
 refine Z9 mo ok26 rfl ?_
 refine Z0<|Z1<|Za (Z02 (s:=[b3' p0]) rfl fun b1 u1=>Za (Z02 (s:=(Zt p1 [])) rfl fun b2 u2=>Za (Zu fun b3 u3=>Z2<|Z0<|oH h fun y1 f1 h=>oH h fun y2 f2 h=>Zv<|Z1q (p:=[b3' p0]) rfl .t2 rfl<|Z1q (p:=(Zt p1 [])) rfl .t1 rfl<|Z36 (Zg rfl (fun w hw=>Zc6  f1 ) fun v7 o1 R1=>?_))))
 obtain ⟨_,w1,rfl,rfl,O1⟩:=R1
 refine ⟨sU,Z88 _ (Z06 rfl (fun w hw=>Z7m f2 (hG.at hw (by simp)) ((Z0l O1 .here) w hw))) (Zdc rfl (Z16 rfl (Zm (q:=[.i p1.gSerial,.i p1.gRides,.i p1.gAmount,b6' y2]) rfl rfl rfl rfl rfl (.app .t1) (Z03 (Z0 (Z1 (Z0z (p:=[.i p1.gSerial,.i p1.gRides,.i p1.gAmount,b6' y2]) rfl (.app .t1) rfl (Za (Zm (q:=[.i p1.gSerial,.i p1.gRides,.i p1.gAmount,b6' y2]) rfl rfl rfl rfl rfl (.app .here) (Z2 (Zf ?_))))))))))) sU⟩
 cases h
 exact ⟨_,(.cons (.agg rfl (.app .here) rfl) .nil),rfl⟩
def Zje:Option (Unit) :=
 some ()
theorem Zpu {W:World} {r:Unit} (h:Zje=some r)  :
    Calls Tryz.prog 68 [].toArray W (Z1w W (agg [.one (.func (.func 145) #[] #[]),.one (.func (.func 146) #[] #[]),.one (.func (.func 147) #[] #[]),.one (.func (.func 148) #[] #[])])):=by
 unfold Zje at h
 refine Z9 mo ok68 rfl ?_
 refine Z0<|Z1<|Za (Zu fun b1 u1=>Z2<|Z0<|Z1<|Zq _ (Zex (q:=[.one (.func (.func 145) #[] #[]),.one (.func (.func 146) #[] #[]),.one (.func (.func 147) #[] #[]),.one (.func (.func 148) #[] #[])]) (.one rfl rfl rfl (.one rfl rfl rfl (.one rfl rfl rfl (.one rfl rfl rfl BdR.nil)))))<|Za (Zm (q:=[.one (.func (.func 145) #[] #[]),.one (.func (.func 146) #[] #[]),.one (.func (.func 147) #[] #[]),.one (.func (.func 148) #[] #[])]) rfl rfl rfl rfl rfl .here<|Z2<|Zf ?_))
 cases h
 exact ⟨_,(.cons (.agg rfl .here rfl) .nil),rfl⟩
def Z4u (p0:Z0n):Option Bool :=
 opt (Z0f p0.gSize 0 65536) fun y1 =>
 some y1
theorem Zfe {W:World} {r:Bool} {p0:Z0n} (h:Z4u p0=some r)  :
    Calls Tryz.prog 149 [agg (Z0a p0 [])].toArray W (Z1w W (.bool (r))):=by
 unfold Z4u at h
 refine Z9 mo Z0te rfl ?_
 refine Z0<|Z1<|Za (Z02 (s:=(Z0a p0 [])) rfl fun b1 u1=>Z7 rfl<|Z2<|Z0<|oH h fun y1 f1 h=>Z1<|Z4c rfl<|Zky rfl .here rfl<|Z2o rfl (Z11 f1)<|Z7 rfl<|Z2<|Zf ?_)
 cases h
 exact ⟨_,(.cons (.tmp rfl) .nil),rfl⟩
def Z4h (p0:Z0n):OL :=
 opt (Z4u p0) fun y1 =>
 br ((!y1)) (
 some []
 ) (
 opt (Z17 10) fun y2 =>
 bnd (IntKind.wrap .u32 p0.gSize) fun z1 =>
 opt (Z4s y2 z1) fun y3 =>
 opt (Z5j y3 (tk p0.gRoot 0 32)) fun y4 =>
 opt (Z1k y4) fun y5 =>
 some y5.1
 )
theorem Zep {W:World} {r:(LI)} {p0:Z0n} (h:Z4h p0=some r)  :
    Calls Tryz.prog 70 [agg (Z0a p0 [])].toArray W (Z67 W [] (fun v Ms=>∃ (u0:Value) (M1:List Zd),v=u0/\Ms = [.all M1]/\Z0c (El.int .u8) u0 M1 r)):=by
 unfold Z4h at h
 refine Zj mo ok70 rfl (Zbz _) ?_
 refine Z0<|Z1<|Za (Z02 (s:=(Z0a p0 [])) rfl fun b1 hb1=>Z7 rfl<|Z2<|Z0<|Z0<|oH h fun y1 f1 h=>Z1<|Z0z (p:=(Z0a p0 [])) rfl .here rfl<|Z2o rfl (Zfe f1)<|Zq _ (Zuu rfl rfl)<|Z2<|Z0k h rfl (fun h=>?_) (fun h=>?_))
 ·refine Z0<|Z1<|Z7 rfl<|Z2<|Zf ?_
  cases h
  exact ⟨_,_,(.cons (.tmp rfl) .nil),(.no .nil),⟨_,rfl,⟨(.slice none 0 0),[],rfl,rfl,Z3y⟩⟩⟩
 ·refine Zp<|Z0<|oH h fun y2 f2 h=>Z1<|Za (Zg rfl (fun w hw=>Z1h  f2 ) fun v9 o1 R1=>?_)
  obtain ⟨b2,T12,v13,w1,rfl,rfl,O1⟩:=R1
  refine Z7 rfl<|Z2<|Z0<|bH h fun z1 e1 h=>oH h fun y3 f3 h=>Z1<|Z7 rfl<|Z4c rfl<|Zky rfl (.there (.app .here)) rfl<|j_v e1 rfl<|Za (Z0j (mS:=_::w1) rfl (Z1f .here .here) (fun w hw=>Z31  f3 (Z0w hw (Z1f .here .here)) O1) fun v19 o2 R2=>?_)
  obtain ⟨v21,w2,rfl,rfl,O2⟩:=R2
  refine Z2<|Z0<|oH h fun y4 f4 h=>Z1<|Z7 rfl<|Z4c rfl<|Zq _ (Z8b rfl .no .no .no (by simp) (by decide))<|Za (Z0j (mS:=_::w2) rfl (Z1f .here .here) (fun w hw=>Z60  f4 (Z0w hw (Z1f .here .here)) O2 ⟨(Z1u (s:=(Z0a p0 [])) (N:=32) (k:=.u8) (base:=1) (lo:=0) (hi:=32) (mz:=32) (.there (.app .here)) rfl (by decide)) w hw,(Zh2 (Zj1 (.there (.app .here)) .here hw Z5m) (Zj2 (.there (.app .here)) .t1 hw Z5m))⟩) fun v26 o3 R3=>?_)
  obtain ⟨v28,w3,rfl,rfl,O3⟩:=R3
  refine Z2<|Z0<|oH h fun y5 f5 h=>Z1<|Z7 rfl<|Za (Z0j (mS:=_::w3) rfl (Z1f .here .here) (fun w hw=>Z1p  f5 (Z0w hw (Z1f .here .here)) O3) fun v33 o4 R4=>?_)
  obtain ⟨_,w4,v38,rfl,rfl,O4⟩:=R4
  refine Z7 rfl<|Z2<|Zf ?_
  cases h
  exact ⟨_,_,(.cons (.tmp rfl) .nil),(.all .here .nil),⟨_,rfl,⟨v33,w4,rfl,rfl,O4⟩⟩⟩
def Z3u (p0:LI) (p1:Z0n):Option (Z0n) :=
 opt (Z4h p1) fun y1 =>
 opt (Zdm p0 y1) fun y2 =>
 some (⟨p1.gSize,p1.gRoot,y2⟩:Z0n)
theorem Ze4 {W:World} {r:Z0n} {p0:LI} {p1:Z0n} (h:Z3u p0 p1=some r) (hG:Globs W) :
    Calls Tryz.prog 28 [agg [b3' p0],agg (Z0a p1 [])].toArray W (Z1w W (agg (Z0a r []))):=by
 unfold Z3u at h
 refine Z9 mo ok28 rfl ?_
 refine Z0<|Z1<|Za (Z02 (s:=[b3' p0]) rfl fun b1 u1=>Za (Z02 (s:=(Z0a p1 [])) rfl fun b2 u2=>Za (Zu fun b3 u3=>Z2<|Z0<|oH h fun y1 f1 h=>oH h fun y2 f2 h=>Zv<|Z1q (p:=[b3' p0]) rfl .t2 rfl<|Z1q (p:=(Z0a p1 [])) rfl .t1 rfl<|Z36 (Zg rfl (fun w hw=>Zep  f1 ) fun v7 o1 R1=>?_))))
 obtain ⟨_,w1,rfl,rfl,O1⟩:=R1
 refine ⟨sU,Z88 _ (Z06 rfl (fun w hw=>Z7m f2 (hG.at hw (by simp)) ((Z0l O1 .here) w hw))) (Zdc rfl (Z16 rfl (Zm (q:=[.i p1.gSize,b3' p1.gRoot,b6' y2]) rfl rfl rfl rfl rfl (.app .t1) (Z03 (Z0 (Z1 (Z0z (p:=[.i p1.gSize,b3' p1.gRoot,b6' y2]) rfl (.app .t1) rfl (Za (Zm (q:=[.i p1.gSize,b3' p1.gRoot,b6' y2]) rfl rfl rfl rfl rfl (.app .here) (Z2 (Zf ?_))))))))))) sU⟩
 cases h
 exact ⟨_,(.cons (.agg rfl (.app .here) rfl) .nil),rfl⟩
structure Zeh (α:Type) where
 put:Z07->α->Option Z07
 may:α->Bool
 sgn:Bool
abbrev wck (b:Nat) (T:TypeId) (u:Value) (f:Int):Zd:=ck b T [.one u,.one (.int .i64 f)]
section
variable {α:Type} (L:α->List Seg) (ms:List Zd)
def MayM (c:ClT) (may:α->Bool):Prop :=
 Zxp Tryz.prog c.1=true /\ ∀ (W:World) (b:Nat) (x:α),Zbu ms W->Mem W b 0 (L x)->Calls Tryz.prog c.1 (pt0 b::c.2).toArray W (Z1w W (.bool (may x)))
def HiM (c:ClT) (hi:α->Int):Prop :=
 Zxp Tryz.prog c.1=true /\ ∀ (W:World) (b:Nat) (x:α),Zbu ms W->Mem W b 0 (L x)->Calls Tryz.prog c.1 (pt0 b::c.2).toArray W (Z1w W (.int .i64 (hi x)))
def PutM (c:ClT) (put:Z07->α->Option Z07):Prop :=
 Zxp Tryz.prog c.1=true /\ ∀ (W:World) (b:Nat) (x:α) (bw:Nat) (Tw:TypeId) (vw:Value) (Mw:List Zd) (p r:Z07),put p x=some r->Zbu ms W->(∀ k∈ms,k.b∉bw::Mw.map (·.b)) ->
  Mem W b 0 (L x)->b∉bw::Mw.map (·.b)->Sat W (bw::Mw.map (·.b)) (wck bw Tw vw p.gfault::(Mw ++ [])) W->Z0c (El.int .u8) vw Mw p.gbytes ->
  Calls Tryz.prog c.1 (pt0 bw::pt0 b::c.2).toArray W (Z67 W (bw::Mw.map (·.b)) (fun v Ms=>∃ (uw:Value) (Mw:List Zd),v = .tuple #[]/\Ms = [.one (wck bw Tw uw r.gfault),.all Mw]/\Z0c (El.int .u8) uw Mw r.gbytes))
end
def AtF (c:FuncId) (off:Nat):Prop:=Zxp Tryz.prog c=true /\ ∀ (W:World) (b:Nat),Calls Tryz.prog c [pt0 b].toArray W (Z1w W (.pointer (some ⟨b,0+off,none⟩)))
def SlF (c:FuncId) (off n:Nat):Prop:=Zxp Tryz.prog c=true/\0<n /\ ∀ (W:World) (b:Nat),Calls Tryz.prog c [pt0 b].toArray W (Z1w W (.slice (some ⟨b,0+off,none⟩) n n))
section
variable {α:Type} {L:α->List Seg} {ms:List Zd} {F cb db eb tb:Nat} {td te:TypeId} {g g2:FuncId} {off off2:Nat}
theorem MayM.mono {ns:List Zd} {c:ClT} {f:α->Bool} (h:MayM L ms c f) (hs : ∀ k∈ms,k∈ns):MayM L ns c f:=⟨h.1,fun W b x hH=>h.2 W b x (hH.sub hs)⟩
theorem HiM.mono {ns:List Zd} {c:ClT} {f:α->Int} (h:HiM L ms c f) (hs : ∀ k∈ms,k∈ns):HiM L ns c f:=⟨h.1,fun W b x hH=>h.2 W b x (hH.sub hs)⟩
theorem PutM.mono {ns:List Zd} {c:ClT} {f:Z07->α->Option Z07} (h:PutM L ms c f) (hs : ∀ k∈ms,k∈ns):PutM L ns c f :=
 ⟨h.1,fun W b x bw Tw vw Mw p r hr hH hd=>h.2 W b x bw Tw vw Mw p r hr (hH.sub hs) fun k hk=>hd k (hs k hk)⟩
def dAt (os:List Nat) (n:Nat):FnD:=⟨n,[.tmp 2],.seq (.ops [oj 2 (.mv (.const (.pointer none)))]) (.seq (.ops (oj 3 (.mv 0)::oj 4 (.nilc 3)::os.zipIdx.map (fun p=>oj (5+p.2) (.fa p.1 (.tmp (4+p.2)))) ++ [oj 2 (.mv (.tmp (4+os.length)))])) .ret)⟩
theorem Zr7 {n o:Nat} (ok:okF Tryz.prog F (dAt [o] n)=true) (hn:Z66 Tryz.prog F=true) (h6:Nat.ble 1 n=true):AtF F o:=by
 refine ⟨Zd2 ok hn,fun W b=>Z9 mo ok h6 ?_⟩
 exact Z0<|Z1<|Zq _ (Z5r rfl)<|Z2<|Z0<|Z1<|Zq _ (Z5r rfl)<|Zq _ (Z28 rfl)<|Zq _ (Zrm rfl)<|Zq _ (Z5r rfl)<|Z2<|Zf ⟨_,.cons (.tmp rfl) .nil,rfl⟩
def dSl (o N:Nat):FnD:=⟨7,[.tmp 2],.seq (.ops [oj 2 (.mv (.const (.slice none 0 0)))]) (.seq (.ops [oj 3 (.mv 0),oj 4 (.nilc 3),oj 5 (.fa o 4),oj 6 (.sla N 1 5 none none none),oj 2 (.mv 6)]) .ret)⟩
theorem slF {o N:Nat} (ok:okF Tryz.prog F (dSl o N)=true) (hn:Z66 Tryz.prog F=true) (h0:0<N):SlF F o N:=by
 refine ⟨Zd2 ok hn,h0,fun W b=>Z9 mo ok rfl ?_⟩
 have e:Z4a b (0+o) (0:Int).toNat (N:Int).toNat 1=⟨b,0+o,none⟩:=by unfold Z4a; split <;> simp
 have e2:(N:Int).toNat-(0:Int).toNat=N:=by simp
 refine Z0<|Z1<|Zq _ (Z5r rfl)<|Z2<|Z0<|Z1<|Zq _ (Z5r rfl)<|Zq _ (Z28 rfl)<|Zq _ (Zrm rfl)<|Zq (.slice (some ⟨b,0+o,none⟩) N N) ?_<|Zq _ (Z5r rfl)<|Z2<|Zf ⟨_,.cons (.tmp rfl) .nil,rfl⟩
 have:=Z8b (C:=⟨Tryz.prog,7,W,[]⟩) (m:=[]) (t:=(5,.pointer (some ⟨b,0+o,none⟩))::(4,pt0 b)::(3,pt0 b)::(2,.slice none 0 0)::Ztn 0 [pt0 b]) (len:=N) (w:=1) (x:=5) (lo:=none) (hi:=none) (mx:=none) (lz:=0) (hz:=N) (mz:=N) rfl .no .no .no (by simp) ⟨by omega,by omega,by omega,by omega⟩
 rw [e,e2] at this
 exact this
def dAny:FnD:=⟨3,[.tmp 2],.seq (.ops [oj 2 (.mv (.const (.bool false)))]) (.seq (.ops [oj 2 (.mv (.const (.bool true)))]) .ret)⟩
theorem Z09o (ok:okF Tryz.prog F dAny=true) (hn:Z66 Tryz.prog F=true):MayM L ms (F,[]) (fun _=>true) :=
 ⟨Zd2 ok hn,fun W b x _ _=>Z9 mo ok rfl<|Z0<|Z1<|Zq _ (Z5r rfl)<|Z2<|Z0<|Z1<|Zq _ (Z5r rfl)<|Z2<|Zf ⟨_,.cons (.tmp rfl) .nil,rfl⟩⟩
def Zw3:FnD:=⟨5,[.tmp 3],.seq (.ops [oj 3 (.mv (ci 0))]) (.seq (.ops [oj 4 (.ld 1 false 1),oj 3 (.mv 4)]) .ret)⟩
theorem Z0kj {n:Int} (ok:okF Tryz.prog F Zw3=true) (hn:Z66 Tryz.prog F=true) (hc:ck cb tb [.one (.int .i64 n)]∈ms):HiM L ms (F,[pt0 cb]) (fun _=>n) :=
 ⟨Zd2 ok hn,fun W b x hH _=>Z9 mo ok rfl<|Z0<|Z1<|Zq _ (Z5r rfl)<|Z2<|Z0<|Z1<|Zq _ (Zig rfl (Zcx (hH.cap hc) (by simp)))<|Zq _ (Z5r rfl)<|Z2<|Zf ⟨_,.cons (.tmp rfl) .nil,rfl⟩⟩
def Zos (u:FuncId) (k:IntKind):FnD:=⟨13,[],.ops [oj 5 (.mv 0),oj 6 (.ld 1 false 2),oj 7 (.mv 1),oj 8 (.cv 6 [7]),oj 9 (.nilc 8),oj 10 (.ld 1 false 9),oj 11 (.conv k 10),oj 12 (.call u [5,11])]⟩
theorem Z0bi {get:α->Int} (ok:okF Tryz.prog F (Zos 293 .u32)=true) (hn:Z66 Tryz.prog F=true) (hat:AtF g off) (hg : ∀ x,Z93 (L x) off=some (.int .i64 (get x))) (hc:ck cb tb [.one (clV (g,[]))]∈ms) :
  PutM L ms (F,[pt0 cb]) (fun w x=>Z64 w (IntKind.u32.wrap (get x))):=by
 refine ⟨Zd2 ok hn,fun W b x bw Tw vw Mw p r h hH hd hm hb h0 hO=>Zj mo ok rfl h0 ?_⟩
 refine Z1<|Zq _ (Z5r rfl)<|Zq _ (Zig rfl (Zcx (hH.cap hc) (hd _ hc)))<|Zq _ (Z5r rfl)<|Zq _ (Znn (caps:=[]) hat.1 rfl rfl (fun w hw=>hat.2 w b))<|Zq _ (Z28 rfl)<|Zq _ (Zn7 rfl hm hb (hg x))<|Zq _ (Zpo rfl) <|
  Za (Z0j (mS:=_::Mw) rfl (Z1f .here .here) (fun w hw=>Zjr h (Z0w hw (Z1f .here .here)) hO) fun v Ms hR=>Z2 ?_)
 obtain ⟨uw,Mw',rfl,rfl,hO'⟩:=hR
 exact ⟨_,_,.nil,.one .here (.all .here .nil),⟨_,rfl,⟨uw,Mw',rfl,rfl,hO'⟩⟩⟩
theorem Z0b8 {get:α->Int} (ok:okF Tryz.prog F (Zos 372 .u64)=true) (hn:Z66 Tryz.prog F=true) (hat:AtF g off) (hg : ∀ x,Z93 (L x) off=some (.int .i64 (get x))) (hc:ck cb tb [.one (clV (g,[]))]∈ms) :
  PutM L ms (F,[pt0 cb]) (fun w x=>Z65 w (IntKind.u64.wrap (get x))):=by
 refine ⟨Zd2 ok hn,fun W b x bw Tw vw Mw p r h hH hd hm hb h0 hO=>Zj mo ok rfl h0 ?_⟩
 refine Z1<|Zq _ (Z5r rfl)<|Zq _ (Zig rfl (Zcx (hH.cap hc) (hd _ hc)))<|Zq _ (Z5r rfl)<|Zq _ (Znn (caps:=[]) hat.1 rfl rfl (fun w hw=>hat.2 w b))<|Zq _ (Z28 rfl)<|Zq _ (Zn7 rfl hm hb (hg x))<|Zq _ (Zpo rfl) <|
  Za (Z0j (mS:=_::Mw) rfl (Z1f .here .here) (fun w hw=>Zjs h (Z0w hw (Z1f .here .here)) hO) fun v Ms hR=>Z2 ?_)
 obtain ⟨uw,Mw',rfl,rfl,hO'⟩:=hR
 exact ⟨_,_,.nil,.one .here (.all .here .nil),⟨_,rfl,⟨uw,Mw',rfl,rfl,hO'⟩⟩⟩
abbrev oG (d tc:Nat) (w:Bool) (i:IOp):J:=.op ⟨some d,some (tc,w),i⟩
def Zw4:FnD:=⟨24,[.tmp 5],.seq (.ops [oj 5 (.mv (.const (.bool false)))]) (.seq (.draw (.q [0] (oj 6 (.ld 1 false 1)) (.q [1] (oj 7 (.mv 0)) (.q [2] (oj 8 (.cv 6 [7])) (.q [3] (oj 9 (.nilc 8)) (.q [4] (oj 10 (.ld 1 false 9)) (.q [5] (oj 11 (.ld 1 false 2)) (.q [6] (oj 12 (.bin .geq 10 11)) (.q [7] (oj 13 (.mv 12))
 (.q [8,9,10,11,12,13,14,15,16,17] (.lg false 13 23 none [oG 14 13 true (.ld 1 false 1),oG 15 13 true (.mv 0),oG 16 13 true (.cv 14 [15]),oG 17 13 true (.nilc 16),oG 18 13 true (.ld 1 false 17),oG 19 13 true (.ld 1 false 3),oG 20 13 true (.mv 0),oG 21 13 true (.cv 19 [20]),oG 22 13 true (.bin .leq 18 21)] 22)
 (.q [18] (oj 5 (.mv 23)) .nil)))))))))) []) .ret)⟩
theorem Z0bh {get:α->Int} {lo:Int} {c:ClT} {hi:α->Int} (ok:okF Tryz.prog F Zw4=true) (hn:Z66 Tryz.prog F=true) (hat:AtF g off) (hg : ∀ x,Z93 (L x) off=some (.int .i64 (get x))) (hh:HiM L ms c hi)
  (hc:ck cb tb [.one (clV (g,[]))]∈ms) (hd:ck db td [.one (.int .i64 lo)]∈ms) (he:ck eb te [.one (clV c)]∈ms) :
  MayM L ms (F,[pt0 cb,pt0 db,pt0 eb]) (fun x=>decide (get x≥lo)&&decide (get x<=hi x)):=by
 refine ⟨Zd2 ok hn,fun W b x hH hm=>Z9 mo ok rfl ?_⟩
 have qc:=fun (t:TS) (x:Operand) (hx:ev t x=some (pt0 cb))=>Zig (C:=⟨Tryz.prog,24,W,[]⟩) (m:=[]) (t:=t) hx (Zcx (C:=⟨Tryz.prog,24,W,[]⟩) (hH.cap hc) (by simp))
 refine Z0<|Z1<|Zq _ (Z5r rfl)<|Z2<|Z0<|Zv<|Z0v _ (qc _ _ rfl)<|Z0v _ (Z5r rfl)<|Z0v _ (Znn (caps:=[]) hat.1 rfl rfl (fun w hw=>hat.2 w b))<|Z0v _ (Z28 rfl)<|Z0v _ (Zn7 rfl hm (by simp) (hg x)) <|
  Z0v _ (Zig rfl (Zcx (hH.cap hd) (by simp)))<|Z0v _ (Zbk rfl rfl rfl)<|Z0v _ (Z5r rfl)<|Z09e (v:=decide (get x<=hi x)) rfl rfl rfl (fun hg1=>Z8y rfl _ (qc _ _ rfl) (Z8y rfl _ (Z5r rfl) (Z8y rfl _ (Znn (caps:=[]) hat.1 rfl rfl (fun w hw=>hat.2 w b)) (Z8y rfl _ (Z28 rfl)
   (Z8y rfl _ (Zn7 rfl hm (by simp) (hg x)) (Z8y rfl _ (Zig rfl (Zcx (hH.cap he) (by simp))) (Z8y rfl _ (Z5r rfl) (Z8y rfl _ (Znn (caps:=c.2) hh.1 rfl rfl (fun w hw=>hh.2 w b x (hH.still0 hw) (Z7d hm (by simp) hw))) (Z8y rfl _ (Zbk rfl rfl rfl) Z8m))))))))) (fun _=>rfl) rfl <|
  Z0v _ (Z5r rfl)<|Z03<|Zf ⟨_,.cons (.tmp rfl) .nil,rfl⟩
def Z05u:FnD:=⟨20,[.tmp 4],.seq (.ops [oj 4 (.mv (.const (.bool false)))]) (.seq (.draw (.q [0] (oj 5 (.ld 1 false 1)) (.q [1] (oj 6 (.mv 0)) (.q [2] (oj 7 (.cv 5 [6])) (.q [3] (oj 8 (.nilc 7)) (.q [4] (oj 9 (.ld 1 false 8)) (.q [5] (oj 10 (.bin .geq 9 (ci 0))) (.q [6] (oj 11 (.mv 10))
 (.q [7,8,9,10,11,12,13,14] (.lg false 11 19 none [oG 12 11 true (.ld 1 false 1),oG 13 11 true (.mv 0),oG 14 11 true (.cv 12 [13]),oG 15 11 true (.nilc 14),oG 16 11 true (.ld 1 false 15),oG 17 11 true (.ld 1 false 2),oG 18 11 true (.bin .leq 16 17)] 18)
 (.q [15] (oj 4 (.mv 19)) .nil))))))))) []) .ret)⟩
theorem Z0b7 {get:α->Int} {hi:Int} (ok:okF Tryz.prog F Z05u=true) (hn:Z66 Tryz.prog F=true) (hat:AtF g off) (hg : ∀ x,Z93 (L x) off=some (.int .i64 (get x)))
  (hc:ck cb tb [.one (clV (g,[]))]∈ms) (hd:ck db td [.one (.int .i64 hi)]∈ms) :
  MayM L ms (F,[pt0 cb,pt0 db]) (fun x=>decide (get x≥0)&&decide (get x<=hi)):=by
 refine ⟨Zd2 ok hn,fun W b x hH hm=>Z9 mo ok rfl ?_⟩
 have qc:=fun (t:TS) (x:Operand) (hx:ev t x=some (pt0 cb))=>Zig (C:=⟨Tryz.prog,20,W,[]⟩) (m:=[]) (t:=t) hx (Zcx (C:=⟨Tryz.prog,20,W,[]⟩) (hH.cap hc) (by simp))
 refine Z0<|Z1<|Zq _ (Z5r rfl)<|Z2<|Z0<|Zv<|Z0v _ (qc _ _ rfl)<|Z0v _ (Z5r rfl)<|Z0v _ (Znn (caps:=[]) hat.1 rfl rfl (fun w hw=>hat.2 w b))<|Z0v _ (Z28 rfl)<|Z0v _ (Zn7 rfl hm (by simp) (hg x)) <|
  Z0v _ (Zbk rfl rfl rfl)<|Z0v _ (Z5r rfl)<|Z09e (v:=decide (get x<=hi)) rfl rfl rfl (fun hg1=>Z8y rfl _ (qc _ _ rfl) (Z8y rfl _ (Z5r rfl) (Z8y rfl _ (Znn (caps:=[]) hat.1 rfl rfl (fun w hw=>hat.2 w b)) (Z8y rfl _ (Z28 rfl)
   (Z8y rfl _ (Zn7 rfl hm (by simp) (hg x)) (Z8y rfl _ (Zig rfl (Zcx (hH.cap hd) (by simp))) (Z8y rfl _ (Zbk rfl rfl rfl) Z8m))))))) (fun _=>rfl) rfl <|
  Z0v _ (Z5r rfl)<|Z03<|Zf ⟨_,.cons (.tmp rfl) .nil,rfl⟩
theorem Z071 {w:World} {b o N:Nat} {k:IntKind} {xs:LI} {s:List Seg} (hm:Mem w b 0 s) (hs:Ze6 s o=some (.ints k N xs)):Z6r (El.int k) w (.slice (some ⟨b,0+o,none⟩) N N) (tk xs 0 N):=by
 refine .inr (.inl ⟨b,0+o,N,by rw [Z0o],by rw [Z0o]; exact Nat.le_refl _,fun i hi j hj=>?_⟩)
 rw [Z0o] at hi
 obtain rfl:j=0:=by simp only at hj; omega
 have h1:=Z7x hs i (by simpa [Seg.width] using hi)
 have h2:=Zdv hs
 have h3:=hm.cell (o+i) (by simp only [Seg.width] at h2; omega)
 simp only [Nat.mul_one,Nat.add_zero] at h3 ⊢
 rw [Nat.zero_add] at h3 ⊢
 rw [h3,h1]
 simp only [Seg.cells,Z2i hi]
 rw [Zmq,if_pos hi,Nat.zero_add]
 rfl
theorem Z05d {b o n c:Nat} {xs:LI} {S:List Nat} (hb:b∉S):Za8 (.slice (some ⟨b,o,none⟩) n c) xs S:=by
 intro a n' c' e _
 injection e with e
 injection e with e
 subst e
 exact hb
theorem Z02o {W0:World} {S:List Nat} {m:List Zd} {w:World} {b:Nat} (hw:Sat W0 S m w) (h1:b<W0.heap.size) (h2:b∉S):b∉m.map (·.b):=by
 intro hm
 obtain ⟨c,hc,e⟩:=List.mem_map.1 hm
 rcases hw.base c hc with h | h
 ·omega
 ·exact h2 (e▸h)
def Zsc:FnD:=⟨10,[],.ops [oj 5 (.mv 0),oj 6 (.ld 1 false 2),oj 7 (.mv 1),oj 8 (.cv 6 [7]),oj 9 (.call 298 [5,8])]⟩
theorem Z0b5 {N:Nat} {get:α->LI} (ok:okF Tryz.prog F Zsc=true) (hn:Z66 Tryz.prog F=true) (hat:SlF g off N) (hg : ∀ x,Ze6 (L x) off=some (.ints .u8 N (get x))) (hc:ck cb tb [.one (clV (g,[]))]∈ms) :
  PutM L ms (F,[pt0 cb]) (fun w x=>Z2t w (tk (get x) 0 N)):=by
 refine ⟨Zd2 ok hn,fun W b x bw Tw vw Mw p r h hH hd hm hb h0 hO=>Zj mo ok rfl h0 ?_⟩
 refine Z1<|Zq _ (Z5r rfl)<|Zq _ (Zig rfl (Zcx (hH.cap hc) (hd _ hc)))<|Zq _ (Z5r rfl)<|Zq _ (Znn (caps:=[]) hat.1 rfl rfl (fun w hw=>hat.2.2 w b)) <|
  Za (Z0j (mS:=_::Mw) rfl (Z1f .here .here) (fun w hw=>Za7 h (Z0w hw (Z1f .here .here)) hO ⟨Z071 (Z7d hm hb hw) (hg x),Z05d hb⟩) fun v Ms hR=>Z2 ?_)
 obtain ⟨uw,Mw',rfl,rfl,hO'⟩:=hR
 exact ⟨_,_,.nil,.one .here (.all .here .nil),⟨_,rfl,⟨uw,Mw',rfl,rfl,hO'⟩⟩⟩
def Z0ef (flag:α->Bool) (sig:α->LI) (w:Z07) (x:α):Option Z07:=opt (Znu w (flag x)) fun w=>br (flag x) (Z2t w (tk (sig x) 0 64)) (some w)
end
abbrev Cl4:=ClT×ClT×ClT×Bool
abbrev Z0p (x:Cl4):List Seg:=[.one (clV x.1),.one (clV x.2.1),.one (clV x.2.2.1),.one (.bool x.2.2.2)]
abbrev E4:El Cl4:=⟨4,fun x=>cells (Z0p x),fun x=>by rw [cells_length]; rfl,fun x=>(Z1b (Z54 rfl) (Z1b (Z54 rfl) (Z1b (Z54 rfl) (Z1b (Z54 rfl) Z6f)))),by decide,((0,[]),(0,[]),(0,[]),false)⟩
def Zqx {α:Type} (L:α->List Seg) (ms:List Zd) (x:Cl4) (s:Zeh α):Prop:=PutM L ms x.1 s.put/\MayM L ms x.2.2.1 s.may/\x.2.2.2=s.sgn
inductive Z91 {α:Type} (L:α->List Seg) (ms:List Zd):List Cl4->List (Zeh α)->Prop
 | nil:Z91 L ms [] []
 | cons {x:Cl4} {s:Zeh α} {xs:List Cl4} {fs:List (Zeh α)}:Zqx L ms x s->Z91 L ms xs fs->Z91 L ms (x::xs) (s::fs)
section
variable {α:Type} {L:α->List Seg} {ms ns ms0:List Zd}
theorem Zqx.mono {x:Cl4} {s:Zeh α} (h:Zqx L ms x s) (hs : ∀ k∈ms,k∈ns):Zqx L ns x s:=⟨h.1.mono hs,h.2.1.mono hs,h.2.2⟩
theorem Z91.mono {xs:List Cl4} {fs:List (Zeh α)} (h:Z91 L ms xs fs) (hs : ∀ k∈ms,k∈ns):Z91 L ns xs fs:=by
 induction h with
 | nil=>exact .nil
 | cons h _ ih=>exact .cons (h.mono hs) ih
theorem Z91.app {xs ys:List Cl4} {fs gs:List (Zeh α)} (h:Z91 L ms xs fs) (h':Z91 L ms ys gs):Z91 L ms (xs++ys) (fs++gs):=by
 induction h with
 | nil=>exact h'
 | cons h _ ih=>exact .cons h ih
theorem Z91.len {xs:List Cl4} {fs:List (Zeh α)} (h:Z91 L ms xs fs):xs.length=fs.length:=by
 induction h with
 | nil=>rfl
 | cons _ _ ih=>simp [ih]
def fz:Zeh α:=⟨fun w _=>some w,fun _=>true,false⟩
theorem Z91.get {xs:List Cl4} {fs:List (Zeh α)} (h:Z91 L ms xs fs) : ∀ i,i<fs.length->Zqx L ms (xs.getD i E4.z) (fs.getD i fz):=by
 induction h with
 | nil=>intro i hi; simp at hi
 | cons h _ ih =>
  intro i hi
  cases i with
  | zero=>exact h
  | succ i=>exact ih i (by simpa using hi)
def RF (L:α->List Seg) (ms0:List Zd) (s:Zeh α) (v:Value) (Ms:List Pc):Prop:=∃ (x:Cl4) (M:List Zd),v=agg (Z0p x)/\Ms = [.all M]/\Zqx L (M++ms0) x s
abbrev zF:List Seg:=[.one .nilFunc,.one .nilFunc,.one .nilFunc,.one (.bool false)]
variable {F F1 F2 F3 g g2 off off2:Nat}
def Zfc (get:α->Int) (lo:Int) (hi:α->Int):Zeh α:=⟨fun w x=>Z64 w (IntKind.u32.wrap (get x)),fun x=>decide (get x≥lo)&&decide (get x<=hi x),true⟩
def Zlx (get:α->Int) (hi:Int):Zeh α:=⟨fun w x=>Z65 w (IntKind.u64.wrap (get x)),fun x=>decide (get x≥0)&&decide (get x<=hi),true⟩
def Zem (get:α->LI) (N:Nat) (s:Bool):Zeh α:=⟨fun w x=>Z2t w (tk (get x) 0 N),fun _=>true,s⟩
def Zse (flag:α->Bool) (sig:α->LI):Zeh α:=⟨Z0ef flag sig,fun x=>flag x||ieq 64 (sig x) (List.replicate 64 0),false⟩
def Zlp {β:Type} (inn:α->β) (s:Zeh β):Zeh α:=⟨fun w x=>s.put w (inn x),fun x=>s.may (inn x),true⟩
def dLim (tb F1:Nat):FnD:=⟨4,[.tmp 2],.seq (.ops [oj 1 (.bx tb 0),oj 2 (.mv (.const .nilFunc))]) (.seq (.ops [oj 3 (.mf F1 [1]),oj 2 (.mv 3)]) .ret)⟩
theorem Zc9 {tb:Nat} {W:World} {n:Int} (ok:okF Tryz.prog F (dLim tb F1)=true) (ok1:okF Tryz.prog F1 Zw3=true) (hn1:Z66 Tryz.prog F1=true) :
  Calls Tryz.prog F [.int .i64 n].toArray W (Z67 W [] (fun v Ms=>∃ (c:ClT) (M:List Zd),v=clV c/\Ms = [.all M]/\HiM L M c (fun _=>n))):=by
 refine Zj mo ok rfl (Zbz _) ?_
 refine Z0<|Z1<|Za (Zmt rfl rfl fun b _=>Zq _ (Z5r rfl)<|Z2<|Z0<|Z1<|Zq _ (q_mf rfl)<|Zq _ (Z5r rfl)<|Z2<|Zf ?_)
 exact ⟨_,_,.cons (.tmp rfl) .nil,.all (ms:=[ck b tb [.one (.int .i64 n)]]) .here .nil,⟨_,rfl,(F1,[pt0 b]),[ck b tb [.one (.int .i64 n)]],rfl,rfl,Z0kj (tb:=tb) ok1 hn1 (by simp)⟩⟩
def dNum (ta tb tc tf F1 F2 F3:Nat):FnD:=⟨11,[.cell 6 4 true],.seq (.ops [oj 3 (.bx ta 0),oj 4 (.bx tb 1),oj 5 (.bx tc 2),oj 6 (.al tf zF)]) (.seq (.ops [oj 7 (.mf F1 [3]),oj 8 (.mf F2 [3]),oj 9 (.mf F3 [3,4,5]),oj 10 (.bd zF [(0,1,7),(1,1,8),(2,1,9),(3,1,.const (.bool true))]),on_ (.st 4 6 10)]) .ret)⟩
theorem Zcb {ta tb tc tf:Nat} {W:World} {get:α->Int} {lo:Int} {c:ClT} {hi:α->Int} (ok:okF Tryz.prog F (dNum ta tb tc tf F1 F2 F3)=true) (ok1:okF Tryz.prog F1 (Zos 293 .u32)=true) (ok3:okF Tryz.prog F3 Zw4=true) (hn1:Z66 Tryz.prog F1=true) (hn3:Z66 Tryz.prog F3=true)
  (hat:AtF g off) (hg : ∀ x,Z93 (L x) off=some (.int .i64 (get x))) (hh:HiM L ms0 c hi) :
  Calls Tryz.prog F [clV (g,[]),.int .i64 lo,clV c].toArray W (Z67 W [] (RF L ms0 (Zfc get lo hi))):=by
 refine Zj mo ok rfl (Zbz _) ?_
 refine Z0<|Z1<|Za (Zmt rfl rfl fun b1 _=>Za (Zmt rfl rfl fun b2 _=>Za (Zmt rfl rfl fun b3 _=>Za (Zu fun b4 _=>Z2<|Z0<|Z1<|Zq _ (q_mf rfl)<|Zq _ (q_mf rfl)<|Zq _ (q_mf rfl) <|
  Zq _ (Zex (q:=Z0p ((F1,[pt0 b1]),(F2,[pt0 b1]),(F3,[pt0 b1,pt0 b2,pt0 b3]),true)) (.one rfl rfl rfl (.one rfl rfl rfl (.one rfl rfl rfl (.one rfl rfl rfl BdR.nil))))) <|
  Za (Zm (q:=Z0p ((F1,[pt0 b1]),(F2,[pt0 b1]),(F3,[pt0 b1,pt0 b2,pt0 b3]),true)) rfl rfl rfl rfl rfl .here<|Z2<|Zf ?_)))))
 exact ⟨_,_,.cons (.agg rfl .here rfl) .nil,.all (ms:=[ck b3 tc [.one (clV c)],ck b2 tb [.one (.int .i64 lo)],ck b1 ta [.one (clV (g,[]))]]) (.there .here) .nil,⟨_,rfl,_,_,rfl,rfl,
  Z0bi (tb:=ta) ok1 hn1 hat hg (by simp),Z0bh (tb:=ta) (td:=tb) (te:=tc) ok3 hn3 hat hg (hh.mono fun k hk=>List.mem_append_right _ hk) (by simp) (by simp) (by simp),rfl⟩⟩
def dMon (ta tb tf F1 F2 F3:Nat):FnD:=⟨9,[.cell 4 4 true],.seq (.ops [oj 2 (.bx ta 0),oj 3 (.bx tb 1),oj 4 (.al tf zF)]) (.seq (.ops [oj 5 (.mf F1 [2]),oj 6 (.mf F2 [2]),oj 7 (.mf F3 [2,3]),oj 8 (.bd zF [(0,1,5),(1,1,6),(2,1,7),(3,1,.const (.bool true))]),on_ (.st 4 4 8)]) .ret)⟩
theorem Zy7 {ta tb tf:Nat} {W:World} {get:α->Int} {hi:Int} (ok:okF Tryz.prog F (dMon ta tb tf F1 F2 F3)=true) (ok1:okF Tryz.prog F1 (Zos 372 .u64)=true) (ok3:okF Tryz.prog F3 Z05u=true) (hn1:Z66 Tryz.prog F1=true) (hn3:Z66 Tryz.prog F3=true)
  (hat:AtF g off) (hg : ∀ x,Z93 (L x) off=some (.int .i64 (get x))) :
  Calls Tryz.prog F [clV (g,[]),.int .i64 hi].toArray W (Z67 W [] (RF L [] (Zlx get hi))):=by
 refine Zj mo ok rfl (Zbz _) ?_
 refine Z0<|Z1<|Za (Zmt rfl rfl fun b1 _=>Za (Zmt rfl rfl fun b2 _=>Za (Zu fun b4 _=>Z2<|Z0<|Z1<|Zq _ (q_mf rfl)<|Zq _ (q_mf rfl)<|Zq _ (q_mf rfl) <|
  Zq _ (Zex (q:=Z0p ((F1,[pt0 b1]),(F2,[pt0 b1]),(F3,[pt0 b1,pt0 b2]),true)) (.one rfl rfl rfl (.one rfl rfl rfl (.one rfl rfl rfl (.one rfl rfl rfl BdR.nil))))) <|
  Za (Zm (q:=Z0p ((F1,[pt0 b1]),(F2,[pt0 b1]),(F3,[pt0 b1,pt0 b2]),true)) rfl rfl rfl rfl rfl .here<|Z2<|Zf ?_))))
 exact ⟨_,_,.cons (.agg rfl .here rfl) .nil,.all (ms:=[ck b2 tb [.one (.int .i64 hi)],ck b1 ta [.one (clV (g,[]))]]) (.there .here) .nil,⟨_,rfl,_,_,rfl,rfl,
  Z0b8 (tb:=ta) ok1 hn1 hat hg (by simp),Z0b7 (tb:=ta) (td:=tb) ok3 hn3 hat hg (by simp) (by simp),rfl⟩⟩
def dLst (ta tf F1 F2 F3:Nat):FnD:=⟨9,[.cell 4 4 true],.seq (.ops [oj 2 (.bx ta 0),oj 4 (.al tf zF)]) (.seq (.ops [oj 5 (.mf F1 [2]),oj 6 (.mf F2 [2]),oj 7 (.mv 1),oj 8 (.bd zF [(0,1,5),(1,1,6),(2,1,.func F3),(3,1,7)]),on_ (.st 4 4 8)]) .ret)⟩
theorem Zar {ta tf N:Nat} {W:World} {get:α->LI} {s:Bool} (ok:okF Tryz.prog F (dLst ta tf F1 F2 F3)=true) (ok1:okF Tryz.prog F1 Zsc=true) (ok3:okF Tryz.prog F3 dAny=true) (hn1:Z66 Tryz.prog F1=true) (hn3:Z66 Tryz.prog F3=true)
  (hat:SlF g off N) (hg : ∀ x,Ze6 (L x) off=some (.ints .u8 N (get x))) :
  Calls Tryz.prog F [clV (g,[]),.bool s].toArray W (Z67 W [] (RF L [] (Zem get N s))):=by
 refine Zj mo ok rfl (Zbz _) ?_
 refine Z0<|Z1<|Za (Zmt rfl rfl fun b1 _=>Za (Zu fun b4 _=>Z2<|Z0<|Z1<|Zq _ (q_mf rfl)<|Zq _ (q_mf rfl)<|Zq _ (Z5r rfl) <|
  Zq _ (Zex (q:=Z0p ((F1,[pt0 b1]),(F2,[pt0 b1]),(F3,[]),s)) (.one rfl rfl rfl (.one rfl rfl rfl (.one rfl rfl rfl (.one rfl rfl rfl BdR.nil))))) <|
  Za (Zm (q:=Z0p ((F1,[pt0 b1]),(F2,[pt0 b1]),(F3,[]),s)) rfl rfl rfl rfl rfl .here<|Z2<|Zf ?_)))
 exact ⟨_,_,.cons (.agg rfl .here rfl) .nil,.all (ms:=[ck b1 ta [.one (clV (g,[]))]]) (.there .here) .nil,⟨_,rfl,_,_,rfl,rfl,
  Z0b5 (tb:=ta) ok1 hn1 hat hg (by simp),Z09o ok3 hn3,rfl⟩⟩
end
section
variable {α β:Type} {L:α->List Seg} {F:Nat}
theorem Zoa {i:Nat} (h:i<=1000):(((i+1:Nat):Int))=IntKind.wrap .i64 ((i:Int)+1):=by rw [IntKind.wrap_i64]; omega
def Zvt (L:α->List Seg) (W:World) (v:Value) (dom:Int) (fs:List (Zeh α)):Prop:=∃ (u:Value) (B:List Zd) (vs:List Cl4),v=agg [.one (.int .i64 dom),.one u]/\Z6r E4 W u vs/\Zbu B W/\Z91 L B vs fs
theorem Zvt.still {W0 w:World} {m:List Zd} {v:Value} {dom:Int} {fs:List (Zeh α)} (h:Zvt L W0 v dom fs) (hw:Sat W0 [] m w):Zvt L w v dom fs:=by
  obtain ⟨u,B,vs,h1,h2,h3,h4⟩:=h
  exact ⟨u,B,vs,h1,h2.below hw.now,h3.still0 hw,h4⟩
def RC (L:α->List Seg) (dom:Int) (fs:List (Zeh α)) (v:Value) (Ms:List Pc):Prop:=∃ (u:Value) (M B:List Zd) (vs:List Cl4),v=agg [.one (.int .i64 dom),.one u]/\Ms = [.all M,.all B]/\Z0c E4 u M vs/\Z91 L B vs fs
def RL (L:α->List Seg) (fs:List (Zeh α)) (v:Value) (Ms:List Pc):Prop:=∃ (M B:List Zd) (vs:List Cl4),Ms = [.all M,.all B]/\Z0c E4 v M vs/\Z91 L B vs fs
theorem RC.form {dom:Int} {fs:List (Zeh α)} {u:Value} {M B:List Zd} {vs:List Cl4} {W0 w:World} {S:List Nat} {m m1 m2:List Zd} (h1:Z0c E4 u M vs) (h2:Z91 L B vs fs) (hw:Sat W0 S m w) (t1:Zf3 M m m1) (t2:Zf3 B m m2) :
    Zvt L w (agg [.one (.int .i64 dom),.one u]) dom fs:=⟨u,B,vs,rfl,Z6r.own h1 (hw.take t1),Zbu.take hw t2,h2⟩
theorem Zgj {B:List Zd}:Zvq (B ++ []) B:=by
  rw [List.append_nil]
  induction B with
  | nil=>exact .nil
  | cons c B ih=>exact .one .here ih
def Z1t (fs:List (Zeh α)) (s:Bool) (x:α):Bool:=fs.all fun f => !((f.sgn || !s) && !f.may x)
theorem Zmv {fs:List (Zeh α)} {s:Bool} {x:α} {i:Nat} (h:i<fs.length):Z1t (fs.drop i) s x=(!(((fs.getD i fz).sgn || !s) && !(fs.getD i fz).may x)&&Z1t (fs.drop (i+1)) s x):=by
  unfold Z1t
  rw [List.drop_eq_getElem_cons h,List.all_cons]
  simp [List.getD_eq_getElem?_getD,h]
def dRng (tf tc:Nat):FnD:=⟨30,[.tmp 6],.seq (.ops [oj 3 (.bx tf 0),oj 6 (.mv (.const (.bool false)))]) (.seq (.seq (.ops [oj 9 (.fa 1 3),oj 10 (.ld 1 false 9),oj 11 (.len 10),oj 12 (.mv (ci 0))]) (.block 0 (.loop
  (.seq (.ops [oj 13 (.bin .lss 12 11)]) (.seq (.cond 13 .skip (.exit 0)) (.seq (.block 1 (.seq (.ops [oj 14 (.ias 4 10 12),oj 15 (.ld 4 true 14),oj 8 (.al tc zF),on_ (.st 4 8 15)]) (.seq (.ops [oj 16 (.fa 3 8),oj 17 (.ld 1 false 16),oj 18 (.mv 17),
    .lg true 18 21 none [oG 19 18 false (.mv 2),oG 20 18 false (.un .not 19)] 20,oj 22 (.mv 21),.lg false 22 28 none [oG 23 22 true (.fa 2 8),oG 24 22 true (.ld 1 false 23),oG 25 22 true (.mv 1),oG 26 22 true (.cv 24 [25]),oG 27 22 true (.un .not 26)] 27])
    (.cond 28 (.seq (.ops [oj 6 (.mv (.const (.bool false)))]) .ret) .skip)))) (.ops [oj 29 (.bin .add 12 (ci 1)),oj 12 (.mv 29)]))))))) (.seq (.ops [oj 6 (.mv (.const (.bool true)))]) .ret))⟩
theorem Z07b {tf tc:Nat} {W:World} {v:Value} {dom:Int} {fs:List (Zeh α)} {b:Nat} {x:α} {s:Bool} (ok:okF Tryz.prog F (dRng tf tc)=true) (hF:Zvt L W v dom fs) (hm:Mem W b 0 (L x)) (hlen:fs.length<=1000) :
    Calls Tryz.prog F [v,pt0 b,.bool s].toArray W (Z1w W (.bool (Z1t fs s x))):=by
  obtain ⟨u,B,vs,rfl,hR,hH,hf⟩:=hF
  have hl:=hf.len
  refine Z9 mo ok rfl ?_
  refine Z0<|Z1<|Za (Z02 (s:=[.one (.int .i64 dom),.one u]) rfl fun b3 _=>Zq _ (Z5r rfl)<|Z2<|Z0<|Z0<|Z1<|Zq _ (Zrm rfl)<|Zq _ (Z86 rfl .here rfl)<|Zq _ (Z40 rfl (Shp.rd hR))<|Zq _ (Z5r rfl)<|Z2 <|
    Zo (G:=fun t m=>Z1t fs s x=true/\Fit [] [] t m) ?_ ?_)
  · refine Zb<|Zz (fun n t m=>∃ i:Nat,i<=fs.length/\n=fs.length-i/\Z1t (fs.drop i) s x=Z1t fs s x/\Fit [(1,pt0 b),(2,.bool s),(10,u),(11,.int .i64 (vs.length:Nat)),(12,.int .i64 (i:Nat))] [] t m) fs.length ?_ ?_
    · exact ⟨0,Nat.zero_le _,rfl,rfl,⟨⟨rfl,rfl,rfl,rfl,rfl,trivial⟩,.nil⟩⟩
    · rintro n t m ⟨i,hi,rfl,he,hFit⟩
      refine Zi hFit ?_
      clear hFit
      refine Z0<|Z1<|Zq _ (Zbk rfl rfl rfl)<|Z2<|Z0<|Z04q (c:=decide ((i:Int)<(vs.length:Nat))) rfl (fun hc=>?_) (fun hc=>?_)
      · have hi2:i<fs.length:=by simp at hc; omega
        have hz:inB (i:Int) vs.length=true:=by simp [inB]; omega
        have fM:=hf.get (i:Int).toNat (by simpa using hi2)
        have hfM:(fs.getD (i:Int).toNat fz)=fs.getD i fz:=by simp
        have hsg:(vs.getD (i:Int).toNat E4.z).2.2.2=(fs.getD (i:Int).toNat fz).sgn:=fM.2.2
        obtain ⟨xv,hxv⟩ : ∃ xv,xv=vs.getD (i:Int).toNat E4.z:=⟨_,rfl⟩
        obtain ⟨f,hff⟩ : ∃ f,f=fs.getD (i:Int).toNat fz:=⟨_,rfl⟩
        rw [<- hff] at hfM hsg fM
        rw [<- hxv] at hsg fM
        refine Zp<|Z0<|Zb<|Z0<|Z1<|Zq _ (Z48 rfl rfl (Shp.rd hR) hz)<|Zq (agg (Z0p xv)) (by rw [hxv]; exact Z036 (E:=E4) (s:=Z0p (vs.getD (i:Int).toNat E4.z)) rfl (Z1n hR Z20) (Z0g hz) rfl rfl) <|
          Za (Zu fun b8 _=>Za (Zm (p:=Z0p xv) (q:=Z0p xv) rfl rfl rfl rfl rfl .here<|Z2<|Z0<|Z1<|Zq _ (Zrm rfl)<|Zq _ (Z86 rfl .here rfl)<|Zq _ (Z5r rfl) <|
          Z04s (v := !s) rfl rfl rfl (fun _=>Z8y rfl _ (Z5r rfl) (Z8y rfl _ (Zuu rfl rfl) Z8m)) (fun _=>rfl) rfl<|Zq _ (Z5r rfl) <|
          Ziy (v := !f.may x) rfl rfl rfl (fun _=>Z8y rfl _ (Zrm rfl) (Z8y rfl _ (Z86 rfl .here rfl) (Z8y rfl _ (Z5r rfl) (Z8y rfl _ (Znn (caps:=xv.2.2.1.2) fM.2.1.1 rfl rfl (fun w hw=>fM.2.1.2 w b x (hH.still0 hw) (Z7d hm (by simp) hw))) (Z8y rfl _ (Zuu rfl rfl) Z8m))))) (fun _=>rfl) rfl <|
          Z2<|Z04q (c:=(xv.2.2.2 || !s) && !f.may x) rfl (fun h2=>?_) (fun h2=>?_)))
        · refine Z0<|Z1<|Zq _ (Z5r rfl)<|Z2<|Zf ⟨_,.cons (.tmp rfl) .nil,?_⟩
          rw [<- he,Zmv hi2,<- hfM,<- hsg,h2]; rfl
        · refine Zp<|Z1<|Zq _ (iz (Zoa (by omega)) (Zbk rfl rfl rfl))<|Zq _ (Z5r rfl)<|Z2 ?_
          refine ⟨fs.length-(i+1),by omega,i+1,by omega,rfl,?_,⟨⟨rfl,rfl,rfl,rfl,rfl,trivial⟩,.nil⟩⟩
          rw [<- he,Zmv hi2,<- hfM,<- hsg,h2]; rfl
      · have hi2:i=fs.length:=by simp at hc; omega
        refine Z08 _ rfl<|⟨?_,⟨trivial,.nil⟩⟩
        rw [<- he,hi2,List.drop_length]; rfl
  · rintro t m ⟨h,hF⟩
    refine Zi hF ?_
    exact Z0<|Z1<|Zq _ (Z5r rfl)<|Z2<|Zf ⟨_,.cons (.tmp rfl) .nil,by rw [h]; rfl⟩
def Zhr:List (Zeh α)->Bool->Z07->α->Option Z07
  | [],_,w,_=>some w
  | f::r,s,w,x=>opt (br (f.sgn || !s) (f.put w x) (some w)) fun w=>Zhr r s w x
theorem Ztz {fs:List (Zeh α)} {s:Bool} {x:α} {p:Z07} {i:Nat} (h:i<fs.length):Zhr (fs.drop i) s p x=opt (br ((fs.getD i fz).sgn || !s) ((fs.getD i fz).put p x) (some p)) fun w=>Zhr (fs.drop (i+1)) s w x:=by
  rw [List.drop_eq_getElem_cons h]
  simp [Zhr,List.getD_eq_getElem?_getD,h]
def Zhq (fs:List (Zeh α)) (dom:Int) (s:Bool) (x:α):Option (LI) :=
  opt Zau fun w=>opt (Ziw dom) fun h=>opt (Z2t w h) fun w=>opt (Zhr fs s w x) fun w=>opt (Z6q w) fun d=>some d.1
def dByt (tf tc:Nat):FnD:=⟨43,[.tmp 6],.seq (.ops [oj 3 (.bx tf 0),oj 6 (.mv (.const (.slice none 0 0)))]) (.seq (.ops [oj 12 (.call 307 []),oj 7 (.mv 12)]) (.seq (.ops [oj 13 (.mv 7),oj 14 (.fa 0 3),oj 15 (.ld 1 false 14),oj 16 (.call 308 [15]),oj 17 (.call 298 [13,16])])
  (.seq (.seq (.ops [oj 18 (.fa 1 3),oj 19 (.ld 1 false 18),oj 20 (.len 19),oj 21 (.mv (ci 0))]) (.block 0 (.loop
    (.seq (.ops [oj 22 (.bin .lss 21 20)]) (.seq (.cond 22 .skip (.exit 0)) (.seq (.block 1 (.seq (.ops [oj 23 (.ias 4 19 21),oj 24 (.ld 4 true 23),oj 9 (.al tc zF),on_ (.st 4 9 24)]) (.seq (.ops [oj 25 (.fa 3 9),oj 26 (.ld 1 false 25),oj 27 (.mv 26),
      .lg true 27 30 none [oG 28 27 false (.mv 2),oG 29 27 false (.un .not 28)] 29]) (.cond 30 (.ops [oj 31 (.fa 0 9),oj 32 (.ld 1 false 31),oj 33 (.mv 7),oj 34 (.mv 1),oj 35 (.cv 32 [33,34])]) .skip)))) (.ops [oj 36 (.bin .add 21 (ci 1)),oj 21 (.mv 36)])))))))
  (.seq (.ops [oj 38 (.mv 7),oj 39 (.call 309 [38]),oj 37 (.mv 39),oj 40 (.ext 37 0),oj 41 (.ext 37 1),oj 10 (.mv 40),oj 11 (.mv 41)]) (.seq (.ops [oj 42 (.mv 10),oj 6 (.mv 42)]) .ret)))))⟩
theorem Z05j {tf tc:Nat} {W:World} {v:Value} {dom:Int} {fs:List (Zeh α)} {b:Nat} {x:α} {s:Bool} {r:LI} (ok:okF Tryz.prog F (dByt tf tc)=true) (hF:Zvt L W v dom fs) (hm:Mem W b 0 (L x)) (hlen:fs.length<=1000) (h:Zhq fs dom s x=some r) :
    Calls Tryz.prog F [v,pt0 b,.bool s].toArray W (Z67 W [] (fun v Ms=>∃ (u0:Value) (M0:List Zd),v=u0/\Ms = [.all M0]/\Z0c (El.int .u8) u0 M0 r)):=by
  obtain ⟨u,B,vs,rfl,hR,hH,hf⟩:=hF
  have hl:=hf.len
  unfold Zhq at h
  refine Zj mo ok rfl (Zbz _) ?_
  refine oH h fun y1 e1 h=>oH h fun y2 e2 h=>oH h fun y3 e3 h=>oH h fun q eq h=>oH h fun d ed h=>?_
  refine Z0<|Z1<|Za (Z02 (s:=[.one (.int .i64 dom),.one u]) rfl fun b3 _=>Zq _ (Z5r rfl)<|Z2<|Z0<|Z1<|Za (Zg rfl (fun w hw=>Zko e1) fun v1 Ms1 R1=>?_))
  obtain ⟨bw,Tw,uw,Mw,rfl,rfl,O1⟩:=R1
  refine Zq _ (Z5r rfl)<|Z2<|Z0<|Z1<|Zq _ (Z5r rfl)<|Zq _ (Zrm rfl)<|Zq _ (Z86 rfl (.there (.app .here)) rfl)<|Za (Zg rfl (fun w hw=>Zqw e2) fun v2 Ms2 R2=>?_)
  obtain ⟨u2,M2,rfl,rfl,O2⟩:=R2
  refine Za (Z0j (mS:=_::Mw) rfl (Z1f (.app .here) (.app .here)) (fun w hw=>Za7 e3 (Z0w hw (Z1f (.app .here) (.app .here))) O1 ⟨(Z0l O2 .here) w hw,(Zh2 (Zcw (E:=(El.int .u8)) O2 .here .here hw) (Zf5 (E:=(El.int .u8)) O2 .here (.there .here) hw))⟩) fun v3 Ms3 R3=>?_)
  obtain ⟨u3,M3,rfl,rfl,O3⟩:=R3
  refine Z2<|Z0<|Z0<|Z1<|Zq _ (Zrm rfl)<|Zq _ (Z86 rfl (.there (.app (.app .here))) rfl)<|Zq _ (Z40 rfl (Shp.rd hR))<|Zq _ (Z5r rfl)<|Z2 <|
    Zo (G:=fun t m=>∃ (p:Value) (Mp:List Zd),Z0c (El.int .u8) p Mp q.gbytes/\Fit [(7,pt0 bw)] (wck bw Tw p q.gfault::(Mp ++ [])) t m) ?_ ?_
  · refine Zb<|Zz (fun n t m=>∃ (i:Nat) (p:Z07) (up:Value) (Mp:List Zd),i<=fs.length/\n=fs.length-i/\Zhr (fs.drop i) s p x=some q/\Z0c (El.int .u8) up Mp p.gbytes /\
      Fit [(1,pt0 b),(2,.bool s),(7,pt0 bw),(19,u),(20,.int .i64 (vs.length:Nat)),(21,.int .i64 (i:Nat))] (wck bw Tw up p.gfault::(Mp ++ [])) t m) fs.length ?_ ?_
    · exact ⟨0,y3,u3,M3,Nat.zero_le _,rfl,eq,O3,⟨⟨rfl,rfl,rfl,rfl,rfl,rfl,trivial⟩,.one .here (.all .here .nil)⟩⟩
    · rintro n t m ⟨i,p,up,Mp,hi,rfl,he,Op,hFit⟩
      refine Zi hFit ?_
      clear hFit
      refine Z0<|Z1<|Zq _ (Zbk rfl rfl rfl)<|Z2<|Z0<|Z04q (c:=decide ((i:Int)<(vs.length:Nat))) rfl (fun hc=>?_) (fun hc=>?_)
      · have hi2:i<fs.length:=by simp at hc; omega
        have hz:inB (i:Int) vs.length=true:=by simp [inB]; omega
        have fM:=hf.get (i:Int).toNat (by simpa using hi2)
        have hfM:(fs.getD (i:Int).toNat fz)=fs.getD i fz:=by simp
        have hsg:(vs.getD (i:Int).toNat E4.z).2.2.2=(fs.getD (i:Int).toNat fz).sgn:=fM.2.2
        obtain ⟨xv,hxv⟩ : ∃ xv,xv=vs.getD (i:Int).toNat E4.z:=⟨_,rfl⟩
        obtain ⟨f,hff⟩ : ∃ f,f=fs.getD (i:Int).toNat fz:=⟨_,rfl⟩
        rw [<- hff] at hfM hsg fM
        rw [<- hxv] at hsg fM
        rw [Ztz hi2,<- hfM,<- hsg] at he
        refine oH he fun p2 ep he=>Zp<|Z0<|Zb<|Z0<|Z1<|Zq _ (Z48 rfl rfl (Shp.rd hR) hz)<|Zq (agg (Z0p xv)) (by rw [hxv]; exact Z036 (E:=E4) (s:=Z0p (vs.getD (i:Int).toNat E4.z)) rfl (Z1n hR Z20) (Z0g hz) rfl rfl) <|
          Za (Zu fun b8 _=>Za (Zm (p:=Z0p xv) (q:=Z0p xv) rfl rfl rfl rfl rfl .here<|Z2<|Z0<|Z1<|Zq _ (Zrm rfl)<|Zq _ (Z86 rfl .here rfl)<|Zq _ (Z5r rfl) <|
          Z04s (v := !s) rfl rfl rfl (fun _=>Z8y rfl _ (Z5r rfl) (Z8y rfl _ (Zuu rfl rfl) Z8m)) (fun _=>rfl) rfl<|Z2<|Z0k ep rfl (fun ep=>?_) (fun ep=>?_)))
        · refine Z1 <| Zq _ (Zrm rfl) <| Zq _ (Z86 rfl .here rfl) <| Zq _ (Z5r rfl) <| Zq _ (Z5r rfl) <| Za (Z01r (mS := _ :: Mp) (caps := xv.1.2) fM.1.1 rfl rfl (Z1f (.there .here) (.there .here)) (fun w hw => fM.1.2 w b x bw Tw up Mp p p2 ep (hH.still0 hw)
              (fun k hk=>by have:=Z02o hw (hH.lt hk) (by simp); simp only [List.map_cons,List.mem_cons,List.append_nil,not_or] at this ⊢; exact ⟨this.2.1,this.2.2⟩) (Z7d hm (by simp) hw)
              (by have:=Z02o hw hm.lt (by simp); simp only [List.map_cons,List.mem_cons,List.append_nil,not_or] at this ⊢; exact ⟨this.2.1,this.2.2⟩) (Z0w hw (Z1f (.there .here) (.there .here))) Op) fun v4 Ms4 R4=>?_)
          obtain ⟨u4,M4,rfl,rfl,O4⟩:=R4
          refine Z2<|Z1<|Zq _ (iz (Zoa (by omega)) (Zbk rfl rfl rfl))<|Zq _ (Z5r rfl)<|Z2 ?_
          exact ⟨fs.length-(i+1),by omega,i+1,p2,u4,M4,by omega,rfl,he,O4,⟨⟨rfl,rfl,rfl,rfl,rfl,rfl,trivial⟩,.one .here (.all .here .nil)⟩⟩
        · obtain rfl:p=p2:=Option.some.inj ep
          refine Zp<|Z1<|Zq _ (iz (Zoa (by omega)) (Zbk rfl rfl rfl))<|Zq _ (Z5r rfl)<|Z2 ?_
          exact ⟨fs.length-(i+1),by omega,i+1,p,up,Mp,by omega,rfl,he,Op,⟨⟨rfl,rfl,rfl,rfl,rfl,rfl,trivial⟩,.one (.there .here) (.all (.there .here) .nil)⟩⟩
      · have hi2:i=fs.length:=by simp at hc; omega
        rw [hi2,List.drop_length] at he
        obtain rfl:p=q:=Option.some.inj he
        exact Z08 _ rfl<|⟨up,Mp,Op,⟨⟨rfl,trivial⟩,.one .here (.all .here .nil)⟩⟩
  · rintro t m ⟨p,Mp,Op,hF⟩
    refine Zi hF ?_
    refine Z0<|Z1<|Zq _ (Z5r rfl)<|Za (Z0j (mS:=_::Mp) rfl (Z1f .here .here) (fun w hw=>Zix ed (Z0w hw (Z1f .here .here)) Op) fun v4 Ms4 R4=>?_)
    obtain ⟨u4,M4,uw4,Mw4,rfl,rfl,O4,_⟩:=R4
    refine Zq _ (Z5r rfl)<|Zq _ (Zpp rfl rfl)<|Zq _ (Zpp rfl rfl)<|Zq _ (Z5r rfl)<|Zq _ (Z5r rfl)<|Z2<|Z0<|Z1<|Zq _ (Z5r rfl)<|Zq _ (Z5r rfl)<|Z2<|Zf ?_
    obtain rfl:d.1=r:=Option.some.inj h
    exact ⟨_,_,.cons (.tmp rfl) .nil,.all .here .nil,⟨_,rfl,u4,M4,rfl,rfl,O4⟩⟩
def Zbw (fs:List (Zeh α)) (dom:Int) (x:α):Option (LI):=br (!Z1t fs true x) (some []) (opt (Zhq fs dom true x) fun b=>some b)
abbrev RSay (r:LI) (v:Value) (Ms:List Pc):Prop:=∃ (u0:Value) (M0:List Zd),v=u0/\Ms = [.all M0]/\Z0c (El.int .u8) u0 M0 r
def dSay (tf tT R B:Nat):FnD:=⟨10,[.tmp 4],.seq (.ops [oj 2 (.bx tf 0),oj 3 (.bx tT 1),oj 4 (.mv (.const (.slice none 0 0)))]) (.seq (.seq (.ops [oj 5 (.ld 2 true 2),oj 6 (.call R [5,3,.const (.bool true)]),oj 7 (.un .not 6)])
  (.cond 7 (.seq (.ops [oj 4 (.mv (.const (.slice none 0 0)))]) .ret) .skip)) (.seq (.ops [oj 8 (.ld 2 true 2),oj 9 (.call B [8,3,.const (.bool true)]),oj 4 (.mv 9)]) .ret))⟩
theorem Z07m {tf tc tT R B:Nat} {W:World} {v:Value} {dom:Int} {fs:List (Zeh α)} {x:α} {r:LI} (ok:okF Tryz.prog F (dSay tf tT R B)=true) (okR:okF Tryz.prog R (dRng tf tc)=true) (okB:okF Tryz.prog B (dByt tf tc)=true) (hF:Zvt L W v dom fs) (hlen:fs.length<=1000)
    (h:Zbw fs dom x=some r):Calls Tryz.prog F [v,agg (L x)].toArray W (Z67 W [] (RSay r)):=by
  have hF':=hF
  obtain ⟨u,B',vs,rfl,_⟩:=hF'
  unfold Zbw at h
  refine Zj mo ok rfl (Zbz _) ?_
  refine Z0<|Z1<|Za (Z02 (s:=[.one (.int .i64 dom),.one u]) rfl fun b2 _=>Za (Z02 (s:=L x) rfl fun b3 _=>Zq _ (Z5r rfl)<|Z2<|Z0<|Z0<|Z1<|Zq _ (q_ld (p:=[.one (.int .i64 dom),.one u]) rfl (.there .here) rfl) <|
    Zq _ (Z06 rfl (fun w hw=>Z07b (s:=true) (x:=x) okR (hF.still hw) (Z02d hw .here) hlen))<|Zq _ (Zuu rfl rfl)<|Z2<|Z0k h rfl (fun h=>?_) (fun h=>?_)))
  · obtain rfl:=Option.some.inj h
    exact Z0<|Z1<|Zq _ (Z5r rfl)<|Z2<|Zf ⟨_,_,.cons (.tmp rfl) .nil,.no .nil,⟨_,rfl,.slice none 0 0,[],rfl,rfl,Z3y⟩⟩
  · refine oH h fun y ey h=>Zp<|Z0<|Z1<|Zq _ (q_ld (p:=[.one (.int .i64 dom),.one u]) rfl (.there .here) rfl)<|Za (Zg rfl (fun w hw=>Z05j okB (hF.still hw) (Z02d hw .here) hlen ey) fun v1 Ms1 R1=>?_)
    obtain ⟨u1,M1,rfl,rfl,O1⟩:=R1
    obtain rfl:=Option.some.inj h
    exact Zq _ (Z5r rfl)<|Z2<|Zf ⟨_,_,.cons (.tmp rfl) .nil,.all .here .nil,⟨_,rfl,_,M1,rfl,rfl,O1⟩⟩
def Ztu (tT w C E:Nat):FnD:=⟨6,[.tmp 2],.seq (.ops [oj 1 (.bx tT 0),oj 2 (.mv (.const (.slice none 0 0)))]) (.seq (.draw (.q [1] (oj 4 (.ld w true 1)) (.e 0 (oi 3 (.call C [])) (.e 2 (oi 5 (.call E [3,4])) (.p [3] (oj 2 (.mv 5)) .nil)))) [2]) .ret)⟩
theorem Zds {tf tc tT n C E R B:Nat} {W:World} {dom:Int} {fs:List (Zeh α)} {x:α} {r:LI} (ok:okF Tryz.prog F (Ztu tT n C E)=true) (okE:okF Tryz.prog E (dSay tf tT R B)=true) (okR:okF Tryz.prog R (dRng tf tc)=true) (okB:okF Tryz.prog B (dByt tf tc)=true)
    (hC : ∀ W,Calls Tryz.prog C #[] W (Z67 W [] (RC L dom fs))) (hlen:fs.length<=1000) (hs:sub (L x) 0 n=some (L x)) (h:Zbw fs dom x=some r):Calls Tryz.prog F [agg (L x)].toArray W (Z67 W [] (RSay r)):=by
  refine Zj mo ok rfl (Zbz _) ?_
  refine Z0<|Z1<|Za (Z02 (s:=L x) rfl fun b1 _=>Zq _ (Z5r rfl)<|Z2<|Z0<|Zv<|Z0v _ (q_ld (p:=L x) rfl .here hs)<|Z36 (Zg (vs:=[]) rfl (fun w hw=>hC w) fun v1 Ms1 R1=>?_))
  obtain ⟨u,M,B',vs,rfl,rfl,O1,hf⟩:=R1
  refine ⟨by repeat (first | exact Sup.refl _ | apply Sup.cons | apply Sup.app),Z16 rfl (Zg rfl (fun w hw=>Z07m okE okR okB (RC.form O1 hf hw .here (.app .here)) hlen h) fun v2 Ms2 R2=>?_)⟩
  obtain ⟨u2,M2,rfl,rfl,O2⟩:=R2
  exact Z0x _ (Z5r rfl)<|Z03<|Zf ⟨_,_,.cons (.tmp rfl) .nil,.all .here .nil,⟨_,rfl,_,M2,rfl,rfl,O2⟩⟩
variable {Lc:β->List Seg} {ms B:List Zd} {b1 b5 ta tc:Nat} {g:FuncId} {rest:α->List Seg} {inn:α->β}
def Z05t:FnD:=⟨13,[],.draw (.q [0] (oj 6 (.fa 0 2)) (.q [1] (oj 7 (.ld 1 false 6)) (.q [2] (oj 8 (.mv 0)) (.q [3] (oj 9 (.ld 1 false 3)) (.q [4] (oj 10 (.mv 1)) (.q [5] (oj 11 (.cv 9 [10])) (.e 6 (oi 12 (.cv 7 [8,11])) .nil))))))) [6]⟩
theorem Z0az {xv:Cl4} {put:Z07->β->Option Z07} (ok:okF Tryz.prog F Z05t=true) (hn:Z66 Tryz.prog F=true) (hat:AtF g 0) (hL : ∀ x,L x=Lc (inn x)++rest x) (hP:PutM Lc B xv.1 put) (hB : ∀ k∈B,k∈ms)
    (h5:ck b5 tc (Z0p xv)∈ms) (h1:ck b1 ta [.one (clV (g,[]))]∈ms):PutM L ms (F,[pt0 b5,pt0 b1]) (fun w x=>put w (inn x)):=by
  refine ⟨Zd2 ok hn,fun W b x bw Tw vw Mw p r h hH hd hm hb h0 hO=>Zj mo ok rfl h0 ?_⟩
  have hm2:Mem W b 0 (Lc (inn x)):=Z02e (by rw [<- hL]; exact hm)
  refine Zv<|Z0v _ (Zrm rfl)<|Z0v _ (Zn7 (o0:=0) (off:=0) rfl (hH.mem h5) (hd _ h5) rfl)<|Z0v _ (Z5r rfl)<|Z0v _ (Zig rfl (Zcx (hH.cap h1) (hd _ h1)))<|Z0v _ (Z5r rfl)<|Z0v _ (Znn (caps:=[]) hat.1 rfl rfl (fun w hw=>hat.2 w b)) <|
    Z16 rfl (Z01r (mS:=_::Mw) (caps:=xv.1.2) hP.1 rfl rfl (Z1f .here .here) (fun w hw=>hP.2 w b (inn x) bw Tw vw Mw p r h ((hH.sub hB).still (C:=⟨Tryz.prog,13,W,bw::Mw.map (·.b)⟩) (fun k hk=>hd k (hB k hk)) hw) (fun k hk=>hd k (hB k hk)) (Z7d hm2 hb hw) hb (Z0w hw (Z1f .here .here)) hO) fun v Ms hR=>Z03 ?_)
  obtain ⟨uw,Mw',rfl,rfl,hO'⟩:=hR
  exact ⟨_,_,.nil,.one .here (.all .here .nil),⟨_,rfl,⟨uw,Mw',rfl,rfl,hO'⟩⟩⟩
def Z05s:FnD:=⟨11,[.tmp 4],.seq (.ops [oj 4 (.mv (.const (.bool false)))]) (.seq (.draw (.q [0] (oj 5 (.fa 2 1)) (.q [1] (oj 6 (.ld 1 false 5)) (.q [2] (oj 7 (.ld 1 false 2)) (.q [3] (oj 8 (.mv 0)) (.q [4] (oj 9 (.cv 7 [8])) (.q [5] (oj 10 (.cv 6 [9])) (.q [6] (oj 4 (.mv 10)) .nil))))))) []) .ret)⟩
theorem Z0ay {xv:Cl4} {may:β->Bool} (ok:okF Tryz.prog F Z05s=true) (hn:Z66 Tryz.prog F=true) (hat:AtF g 0) (hL : ∀ x,L x=Lc (inn x)++rest x) (hP:MayM Lc B xv.2.2.1 may) (hB : ∀ k∈B,k∈ms)
    (h5:ck b5 tc (Z0p xv)∈ms) (h1:ck b1 ta [.one (clV (g,[]))]∈ms):MayM L ms (F,[pt0 b5,pt0 b1]) (fun x=>may (inn x)):=by
  refine ⟨Zd2 ok hn,fun W b x hH hm=>Z9 mo ok rfl ?_⟩
  have hm2:Mem W b 0 (Lc (inn x)):=Z02e (by rw [<- hL]; exact hm)
  exact Z0<|Z1<|Zq _ (Z5r rfl)<|Z2<|Z0<|Zv<|Z0v _ (Zrm rfl)<|Z0v _ (Zn7 (o0:=0) (off:=2) rfl (hH.mem h5) (by simp) rfl)<|Z0v _ (Zig rfl (Zcx (hH.cap h1) (by simp)))<|Z0v _ (Z5r rfl)<|Z0v _ (Znn (caps:=[]) hat.1 rfl rfl (fun w hw=>hat.2 w b)) <|
    Z0v _ (Znn (caps:=xv.2.2.1.2) hP.1 rfl rfl (fun w hw=>hP.2 w b (inn x) ((hH.sub hB).still0 hw) (Z7d hm2 (by simp) hw)))<|Z0v _ (Z5r rfl)<|Z03<|Zf ⟨_,.cons (.tmp rfl) .nil,rfl⟩
def dInn (C ta tc te F1 F2 F3:Nat):FnD:=⟨22,[.tmp 2],.seq (.ops [oj 1 (.bx ta 0),oj 2 (.mv (.const (.slice none 0 0)))]) (.seq (.ops [oj 3 (.mv (.const (.slice none 0 0)))]) (.seq (.seq (.ops [oj 6 (.call C []),oj 7 (.fld 1 1 false 6),oj 8 (.len 7),oj 9 (.mv (ci 0))]) (.block 0 (.loop
  (.seq (.ops [oj 10 (.bin .lss 9 8)]) (.seq (.cond 10 .skip (.exit 0)) (.seq (.block 1 (.seq (.ops [oj 11 (.ias 4 7 9),oj 12 (.ld 4 true 11),oj 5 (.al tc zF),on_ (.st 4 5 12)]) (.ops [oj 13 (.mv 3),oj 14 (.mf F1 [5,1]),oj 15 (.mf F2 [5,1]),oj 16 (.mf F3 [5,1]),
    oj 17 (.bd zF [(0,1,14),(1,1,15),(2,1,16),(3,1,.const (.bool true))]),oj 18 (.bs te 1 4 zF [(0,4,17)]),oj 19 (.app te 4 32 zF 13 18),oj 3 (.mv 19)]))) (.ops [oj 20 (.bin .add 9 (ci 1)),oj 9 (.mv 20)]))))))) (.seq (.ops [oj 21 (.mv 3),oj 2 (.mv 21)]) .ret)))⟩
theorem Zy2 {C te F1 F2 F3:Nat} {dom:Int} {fs:List (Zeh β)} (ok:okF Tryz.prog F (dInn C ta tc te F1 F2 F3)=true) (ok1:okF Tryz.prog F1 Z05t=true) (ok3:okF Tryz.prog F3 Z05s=true) (hn1:Z66 Tryz.prog F1=true) (hn3:Z66 Tryz.prog F3=true) (hat:AtF g 0) (hL : ∀ x,L x=Lc (inn x)++rest x)
    (hC : ∀ W,Calls Tryz.prog C #[] W (Z67 W [] (RC Lc dom fs))) (hlen:fs.length<=1000) (W:World):Calls Tryz.prog F [clV (g,[])].toArray W (Z67 W [] (RL L (fs.map (Zlp inn)))):=by
  refine Zj mo ok rfl (Zbz _) ?_
  refine Z0<|Z1<|Za (Zmt rfl rfl fun b1 _=>Zq _ (Z5r rfl)<|Z2<|Z0<|Z1<|Zq _ (Z5r rfl)<|Z2<|Z0<|Z0<|Z1<|Za (Zg (vs:=[]) rfl (fun w hw=>hC w) fun v1 Ms1 R1=>?_))
  obtain ⟨u,M,B,vs,rfl,rfl,O1,hf⟩:=R1
  have hl:=hf.len
  refine Zq _ (Z0lx rfl rfl)<|Zq _ (Z40 rfl (Shp.own O1))<|Zq _ (Z5r rfl)<|Z2 <|
    Zo (G:=fun t m=>∃ (v:Value) (Y X:List Zd) (ys:List Cl4),Z0c E4 v Y ys/\Z91 L (X++(B ++ [ck b1 ta [.one (clV (g,[]))]])) ys (fs.map (Zlp inn))/\Fit [(3,v)] (Y++((X++(B ++ [ck b1 ta [.one (clV (g,[]))]])) ++ [])) t m) ?_ ?_
  · refine Zb<|Zz (fun n t m=>∃ (i:Nat) (v:Value) (Y X:List Zd) (ys:List Cl4),i<=fs.length/\n=fs.length-i/\Z0c E4 v Y ys/\Z91 L (X++(B ++ [ck b1 ta [.one (clV (g,[]))]])) ys ((fs.take i).map (Zlp inn)) /\
      Fit [(1,pt0 b1),(3,v),(7,u),(8,.int .i64 (vs.length:Nat)),(9,.int .i64 (i:Nat))] (Y++(M++(X++(B++(ck b1 ta [.one (clV (g,[]))] :: []))))) t m) fs.length ?_ ?_
    · exact ⟨0,.slice none 0 0,[],[],[],Nat.zero_le _,rfl,Z3y,.nil,⟨⟨rfl,rfl,rfl,rfl,rfl,trivial⟩,.no (.all .here (.no (.all .here (.one .here .nil))))⟩⟩
    · rintro n t m ⟨i,v,Y,X,ys,hi,rfl,O2,hys,hFit⟩
      refine Zi hFit ?_
      clear hFit
      have hyl:=hys.len
      rw [List.length_map,List.length_take] at hyl
      refine Z0<|Z1<|Zq _ (Zbk rfl rfl rfl)<|Z2<|Z0<|Z04q (c:=decide ((i:Int)<(vs.length:Nat))) rfl (fun hc=>?_) (fun hc=>?_)
      · have hi2:i<fs.length:=by simp at hc; omega
        have hz:inB (i:Int) vs.length=true:=by simp [inB]; omega
        have fM:=hf.get i hi2
        obtain ⟨xv,hxv⟩ : ∃ xv,xv=vs.getD (i:Int).toNat E4.z:=⟨_,rfl⟩
        rw [show vs.getD i E4.z=xv by rw [hxv]; simp] at fM
        refine Zp<|Z0<|Zb<|Z0<|Z1<|Zq _ (Z48 rfl rfl (Shp.own O1) hz)<|Zq (agg (Z0p xv)) (by rw [hxv]; exact Z036 (E:=E4) (s:=Z0p (vs.getD (i:Int).toNat E4.z)) rfl (Z0l O1 (.app .here)) (Z0g hz) rfl rfl) <|
          Za (Zu fun b5 _=>Za (Zm (p:=Z0p xv) (q:=Z0p xv) rfl rfl rfl rfl rfl .here<|Z2<|Z1<|Zq _ (Z5r rfl)<|Zq _ (q_mf rfl)<|Zq _ (q_mf rfl)<|Zq _ (q_mf rfl) <|
          Zq _ (Zex (q:=Z0p ((F1,[pt0 b5,pt0 b1]),(F2,[pt0 b5,pt0 b1]),(F3,[pt0 b5,pt0 b1]),true)) (.one rfl rfl rfl (.one rfl rfl rfl (.one rfl rfl rfl (.one rfl rfl rfl BdR.nil))))) <|
          Za (Z5q (E:=E4) (xs:=[((F1,[pt0 b5,pt0 b1]),(F2,[pt0 b5,pt0 b1]),(F3,[pt0 b5,pt0 b1]),true)]) (.agg rfl rfl rfl BdR.nil) (.cons (p:=Z0p ((F1,[pt0 b5,pt0 b1]),(F2,[pt0 b5,pt0 b1]),(F3,[pt0 b5,pt0 b1]),true)) rfl .nil) rfl fun v3 ms3 O3 =>
          Za (Z3i (E:=E4) (xs':=ys ++ [((F1,[pt0 b5,pt0 b1]),(F2,[pt0 b5,pt0 b1]),(F3,[pt0 b5,pt0 b1]),true)]) rfl rfl O2 (.app (.there .here)) rfl (Z0l O3 .here) (by rw [decide_eq_true_iff]; simp only [List.length_singleton]; omega) fun v4 ms4 O4=>Zq _ (Z5r rfl)<|Z2 <|
          Z1<|Zq _ (iz (Zoa (by omega)) (Zbk rfl rfl rfl))<|Zq _ (Z5r rfl)<|Z2 ?_))))
        refine ⟨fs.length-(i+1),by omega,i+1,v4,ms4,ck b5 tc (Z0p xv)::X,_,by omega,rfl,O4,?_,⟨⟨rfl,rfl,rfl,rfl,rfl,trivial⟩,?_⟩⟩
        · rw [List.take_add_one,List.getElem?_eq_getElem hi2,List.map_append]
          refine (hys.mono fun k hk=>List.mem_cons_of_mem _ hk).app ?_
          rw [show List.map (Zlp (α:=α) inn) (some fs[i]).toList = [Zlp inn (fs.getD i fz)] by simp [List.getD_eq_getElem?_getD,hi2]]
          exact .cons ⟨Z0az (tc:=tc) (ta:=ta) (Lc:=Lc) (inn:=inn) (put:=(fs.getD i fz).put) (xv:=xv) ok1 hn1 hat hL fM.1 (fun k hk=>by simp [hk]) (by simp) (by simp),Z0ay (tc:=tc) (ta:=ta) (Lc:=Lc) (inn:=inn) (may:=(fs.getD i fz).may) (xv:=xv) ok3 hn3 hat hL fM.2.1 (fun k hk=>by simp [hk]) (by simp) (by simp),rfl⟩ .nil
        · exact .all .here (.all (.app (.there .here)) (.one (.app .here) (.all (.app .here) (.all (.app .here) (.one (.app .here) .nil)))))
      · have hi2:i=fs.length:=by simp at hc; omega
        rw [hi2,List.take_length] at hys
        exact Z08 _ rfl<|⟨v,Y,X,ys,O2,hys,⟨⟨rfl,trivial⟩,by
          rw [List.append_assoc,List.append_assoc]
          exact .all .here (.all (.app .here) (.all (.app .here) (.one (.app .here) .nil)))⟩⟩
  · rintro t m ⟨v,Y,X,ys,O2,hys,hF⟩
    refine Zi hF ?_
    exact Z0<|Z1<|Zq _ (Z5r rfl)<|Zq _ (Z5r rfl)<|Z2<|Zf ⟨_,_,.cons (.tmp rfl) .nil,.all .here (.all .here .nil),⟨_,rfl,Y,_,ys,rfl,O2,hys⟩⟩
end
def zFs:Nat->List Seg
 | 0=>[]
 | n+1=>.one .nilFunc :: .one .nilFunc :: .one .nilFunc :: .one (.bool false)::zFs n
abbrev Zhd:Z09->List Seg:=fun x=>(Z6 x [])
theorem Z0l5:okF Tryz.prog 234 (dLim 3 370)=true:=by kernel_rfl
theorem Z0ld:okF Tryz.prog 370 (Zw3)=true:=by kernel_rfl
theorem Z0kt:Z66 Tryz.prog 370=true:=by kernel_rfl
theorem Z0ur:okF Tryz.prog 233 (dAt [0] 6)=true:=by kernel_rfl
theorem Z0rd:Z66 Tryz.prog 233=true:=by kernel_rfl
theorem Z0pr:AtF 233 0:=Zr7 Z0ur Z0rd rfl
theorem Z0l4:okF Tryz.prog 232 (dNum 302 3 303 300 367 368 369)=true:=by kernel_rfl
theorem Z0lb:okF Tryz.prog 367 (Zos 293 .u32)=true:=by kernel_rfl
theorem Z0kr:Z66 Tryz.prog 367=true:=by kernel_rfl
theorem Z0lc:okF Tryz.prog 369 (Zw4)=true:=by kernel_rfl
theorem Z0ks:Z66 Tryz.prog 369=true:=by kernel_rfl
theorem Z0us:okF Tryz.prog 235 (dAt [1] 6)=true:=by kernel_rfl
theorem Z0re:Z66 Tryz.prog 235=true:=by kernel_rfl
theorem Z0ps:AtF 235 1:=Zr7 Z0us Z0re rfl
theorem Z0uu:okF Tryz.prog 237 (dAt [2] 6)=true:=by kernel_rfl
theorem Z0rf:Z66 Tryz.prog 237=true:=by kernel_rfl
theorem Z0pt:AtF 237 2:=Zr7 Z0uu Z0rf rfl
theorem Z0ut:okF Tryz.prog 236 (dMon 307 2 300 371 373 375)=true:=by kernel_rfl
theorem Z0xl:okF Tryz.prog 371 (Zos 372 .u64)=true:=by kernel_rfl
theorem Z0s0:Z66 Tryz.prog 371=true:=by kernel_rfl
theorem Z0xn:okF Tryz.prog 375 (Z05u)=true:=by kernel_rfl
theorem Z0s1:Z66 Tryz.prog 375=true:=by kernel_rfl
theorem Z0uv:okF Tryz.prog 239 (dSl 3 32)=true:=by kernel_rfl
theorem Z0rg:Z66 Tryz.prog 239=true:=by kernel_rfl
theorem Z0pu:SlF 239 3 32:=slF Z0uv Z0rg (by decide)
theorem Z0l6:okF Tryz.prog 238 (dLst 309 300 376 377 378)=true:=by kernel_rfl
theorem Z0le:okF Tryz.prog 376 (Zsc)=true:=by kernel_rfl
theorem Z0ku:Z66 Tryz.prog 376=true:=by kernel_rfl
theorem Z0lf:okF Tryz.prog 378 (dAny)=true:=by kernel_rfl
theorem Z0kv:Z66 Tryz.prog 378=true:=by kernel_rfl
theorem Z0uw:okF Tryz.prog 240 (dSl 35 64)=true:=by kernel_rfl
theorem Z0rh:Z66 Tryz.prog 240=true:=by kernel_rfl
theorem Z0pv:SlF 240 35 64:=slF Z0uw Z0rh (by decide)
def d150:FnD:=⟨10,[.cell 0 2 true],.seq (.ops [oj 0 (.al 199 [.one (.int .i64 0),.one (.slice none 0 0)])]) (.seq (.ops [oj 1 (.call 234 [ci (65535)]),oj 2 (.call 232 [.func 233,ci (1),1]),oj 3 (.call 234 [ci (4096)]),oj 4 (.call 232 [.func 235,ci (1),3]),oj 5 (.call 236 [.func 237,ci (1000000000)]),oj 6 (.call 238 [.func 239,.const (.bool true)]),oj 7 (.call 238 [.func 240,.const (.bool false)]),oj 8 (.bs 300 5 4 (zFs 5) [(0,4,2),(4,4,4),(8,4,5),(12,4,6),(16,4,7)]),oj 9 (.bd [.one (.int .i64 0),.one (.slice none 0 0)] [(0,1,ci 1),(1,1,8)]),on_ (.st 2 0 9)]) .ret)⟩
theorem Z0tf:okF Tryz.prog 150 (d150)=true:=by kernel_rfl
def F_Cert:List (Zeh Z09):=[Zfc (fun x:Z09=>x.gSerial) (1) (fun _=>65535),Zfc (fun x:Z09=>x.gRides) (1) (fun _=>4096),Zlx (fun x:Z09=>x.gPrice) 1000000000,Zem (fun x:Z09=>x.gAnchor) 32 true,Zem (fun x:Z09=>x.gSig) 64 false]
theorem Z00u (W:World):Calls Tryz.prog 150 #[] W (Z67 W [] (RC Zhd 1 F_Cert)):=by
 refine Zj (args:=[]) mo Z0tf rfl (Zbz _) ?_
 refine Z0<|Z1<|Za (Zu fun b0 _=>Z2<|Z0<|Z1 <| ?_)
 refine Za (Zg rfl (fun w hw=>Zc9 (L:=Zhd) Z0l5 Z0ld Z0kt) fun v1 Ms1 R1=>?_)
 obtain ⟨c1,M1,rfl,rfl,H1⟩:=R1
 refine Za (Zg rfl (fun w hw=>Zcb (L:=Zhd) (get:=fun x:Z09=>x.gSerial) Z0l4 Z0lb Z0lc Z0kr Z0ks Z0pr (fun _=>rfl) H1) fun v2 Ms2 R2=>?_)
 obtain ⟨x2,M2,rfl,rfl,H2⟩:=R2
 refine Za (Zg rfl (fun w hw=>Zc9 (L:=Zhd) Z0l5 Z0ld Z0kt) fun v3 Ms3 R3=>?_)
 obtain ⟨c3,M3,rfl,rfl,H3⟩:=R3
 refine Za (Zg rfl (fun w hw=>Zcb (L:=Zhd) (get:=fun x:Z09=>x.gRides) Z0l4 Z0lb Z0lc Z0kr Z0ks Z0ps (fun _=>rfl) H3) fun v4 Ms4 R4=>?_)
 obtain ⟨x4,M4,rfl,rfl,H4⟩:=R4
 refine Za (Zg rfl (fun w hw=>Zy7 (L:=Zhd) (get:=fun x:Z09=>x.gPrice) Z0ut Z0xl Z0xn Z0s0 Z0s1 Z0pt (fun _=>rfl)) fun v5 Ms5 R5=>?_)
 obtain ⟨x5,M5,rfl,rfl,H5⟩:=R5
 refine Za (Zg rfl (fun w hw=>Zar (L:=Zhd) (get:=fun x:Z09=>x.gAnchor) Z0l6 Z0le Z0lf Z0ku Z0kv Z0pu (fun _=>rfl)) fun v6 Ms6 R6=>?_)
 obtain ⟨x6,M6,rfl,rfl,H6⟩:=R6
 refine Za (Zg rfl (fun w hw=>Zar (L:=Zhd) (get:=fun x:Z09=>x.gSig) Z0l6 Z0le Z0lf Z0ku Z0kv Z0pv (fun _=>rfl)) fun v7 Ms7 R7=>?_)
 obtain ⟨x7,M7,rfl,rfl,H7⟩:=R7
 refine Za (Z5q (E:=E4) (xs:=[x2,x4,x5,x6,x7]) (.agg (p:=Z0p x2) (z':=Z0p x2++(zFs 4)) rfl rfl (by kernel_rfl) (.agg (p:=Z0p x4) (z':=Z0p x2++(Z0p x4++(zFs 3))) rfl rfl (by kernel_rfl) (.agg (p:=Z0p x5) (z':=Z0p x2++(Z0p x4++(Z0p x5++(zFs 2)))) rfl rfl (by kernel_rfl) (.agg (p:=Z0p x6) (z':=Z0p x2++(Z0p x4++(Z0p x5++(Z0p x6++(zFs 1))))) rfl rfl (by kernel_rfl) (.agg (p:=Z0p x7) (z':=Z0p x2++(Z0p x4++(Z0p x5++(Z0p x6++(Z0p x7++([])))))) rfl rfl (by kernel_rfl) BdR.nil))))) (.cons (p:=Z0p x2) rfl (.cons (p:=Z0p x4) rfl (.cons (p:=Z0p x5) rfl (.cons (p:=Z0p x6) rfl (.cons (p:=Z0p x7) rfl .nil))))) rfl fun u8 S8 O8=>?_)
 refine Zq _ (Zex (q:=[.one (.int .i64 1),.one u8]) (.one rfl rfl rfl (.one rfl (Zjk.cells (Z0c.isSl O8)) rfl BdR.nil))) <| ?_
 refine Za (Zhj (q:=[.one (.int .i64 1),.one u8]) rfl rfl rfl rfl (Z1b (Z54 rfl) (Z1b (Z54 (Zjk.one1 (Z0c.isSl O8))) Z6f)) (.app (.app (.app (.app (.app (.app (.app (.app .here))))))))<|Z2<|Zf ?_)
 refine ⟨_,_,.cons (.agg rfl (.app (.app (.app (.app (.app (.app (.app (.app .here)))))))) rfl) .nil,.all .here Zgj,⟨_,rfl,u8,S8,(M7++(M6++(M5++(M4++(M3++(M2++(M1++(ck b0 199 [.one (.int .i64 1),.one u8] :: [])))))))),_,rfl,rfl,O8,?_⟩⟩
 exact (.cons (H2.mono (by intro k hk; simp only [List.mem_append,List.mem_cons,List.not_mem_nil,or_false] at hk ⊢; first | (rcases hk with hk | hk <;> simp [hk]) | simp [hk])) (.cons (H4.mono (by intro k hk; simp only [List.mem_append,List.mem_cons,List.not_mem_nil,or_false] at hk ⊢; first | (rcases hk with hk | hk <;> simp [hk]) | simp [hk])) (.cons (H5.mono (by intro k hk; simp only [List.mem_append,List.mem_cons,List.not_mem_nil,or_false] at hk ⊢; first | (rcases hk with hk | hk <;> simp [hk]) | simp [hk])) (.cons (H6.mono (by intro k hk; simp only [List.mem_append,List.mem_cons,List.not_mem_nil,or_false] at hk ⊢; first | (rcases hk with hk | hk <;> simp [hk]) | simp [hk])) (.cons (H7.mono (by intro k hk; simp only [List.mem_append,List.mem_cons,List.not_mem_nil,or_false] at hk ⊢; first | (rcases hk with hk | hk <;> simp [hk]) | simp [hk])) .nil)))))
theorem Z0ux:okF Tryz.prog 241 (dRng 199 300)=true:=by kernel_rfl
theorem Z0uy:okF Tryz.prog 242 (dByt 199 300)=true:=by kernel_rfl
theorem Z0tg:okF Tryz.prog 152 (dSay 199 27 241 242)=true:=by kernel_rfl
theorem ok84:okF Tryz.prog 84 (Ztu 27 99 150 152)=true:=by kernel_rfl
def Zgv (p0:Z09):Option (LI):=Zbw F_Cert 1 p0
theorem Zln {W:World} {r:LI} {p0:Z09} (h:Zgv p0=some r) :
  Calls Tryz.prog 84 [agg (Z6 p0 [])].toArray W (Z67 W [] (fun v Ms=>∃ (u0:Value) (M0:List Zd),v=u0/\Ms = [.all M0]/\Z0c (El.int .u8) u0 M0 r)) :=
 Zds (L:=Zhd) ok84 Z0tg Z0ux Z0uy Z00u (by decide) (by kernel_rfl) h
abbrev Znv:Z0e->List Seg:=fun x=>(Z6 x.gCert [.ints .u8 64 (x.gSig)])
theorem Z0wh:okF Tryz.prog 321 (dAt [0] 6)=true:=by kernel_rfl
theorem Z0ri:Z66 Tryz.prog 321=true:=by kernel_rfl
theorem Z0pw:AtF 321 0:=Zr7 Z0wh Z0ri rfl
theorem Z0wg:okF Tryz.prog 320 (dInn 150 362 300 367 422 423 424)=true:=by kernel_rfl
theorem Z0yh:okF Tryz.prog 422 (Z05t)=true:=by kernel_rfl
theorem Z0s2:Z66 Tryz.prog 422=true:=by kernel_rfl
theorem Z0yi:okF Tryz.prog 424 (Z05s)=true:=by kernel_rfl
theorem Z0s3:Z66 Tryz.prog 424=true:=by kernel_rfl
theorem Z0wj:okF Tryz.prog 323 (dSl 99 64)=true:=by kernel_rfl
theorem Z0rj:Z66 Tryz.prog 323=true:=by kernel_rfl
theorem Z0px:SlF 323 99 64:=slF Z0wj Z0rj (by decide)
theorem Z0wi:okF Tryz.prog 322 (dLst 369 367 425 426 427)=true:=by kernel_rfl
theorem Z0yj:okF Tryz.prog 425 (Zsc)=true:=by kernel_rfl
theorem Z0s4:Z66 Tryz.prog 425=true:=by kernel_rfl
theorem Z0yk:okF Tryz.prog 427 (dAny)=true:=by kernel_rfl
theorem Z0s5:Z66 Tryz.prog 427=true:=by kernel_rfl
def d213:FnD:=⟨6,[.cell 0 2 true],.seq (.ops [oj 0 (.al 274 [.one (.int .i64 0),.one (.slice none 0 0)])]) (.seq (.ops [oj 1 (.call 320 [.func 321]),oj 2 (.call 322 [.func 323,.const (.bool false)]),oj 3 (.bs 367 1 4 (zFs 1) [(0,4,2)]),oj 4 (.app 367 4 32 zF 1 3),oj 5 (.bd [.one (.int .i64 0),.one (.slice none 0 0)] [(0,1,ci 4),(1,1,4)]),on_ (.st 2 0 5)]) .ret)⟩
theorem Z0uf:okF Tryz.prog 213 (d213)=true:=by kernel_rfl
def Zg8:List (Zeh Z0e):=(F_Cert.map (Zlp (fun x:Z0e=>x.gCert))) ++ [Zem (fun x:Z0e=>x.gSig) 64 false]
theorem Z057 (W:World):Calls Tryz.prog 213 #[] W (Z67 W [] (RC Znv 4 Zg8)):=by
 refine Zj (args:=[]) mo Z0uf rfl (Zbz _) ?_
 refine Z0<|Z1<|Za (Zu fun b0 _=>Z2<|Z0<|Z1 <| ?_)
 refine Za (Zg rfl (fun w hw=>Zy2 (L:=Znv) (Lc:=Zhd) (inn:=fun x:Z0e=>x.gCert) (rest:=fun x=>[.ints .u8 64 (x.gSig)]) Z0wg Z0yh Z0yi Z0s2 Z0s3 Z0pw (fun _=>rfl) Z00u (by decide) w) fun v1 Ms1 R1=>?_)
 obtain ⟨M1,B1,xs1,rfl,O1,H1⟩:=R1
 refine Za (Zg rfl (fun w hw=>Zar (L:=Znv) (get:=fun x:Z0e=>x.gSig) Z0wi Z0yj Z0yk Z0s4 Z0s5 Z0px (fun _=>rfl)) fun v2 Ms2 R2=>?_)
 obtain ⟨x2,M2,rfl,rfl,H2⟩:=R2
 refine Za (Z5q (E:=E4) (xs:=[x2]) (.agg (p:=Z0p x2) (z':=Z0p x2++([])) rfl rfl (by kernel_rfl) BdR.nil) (.cons (p:=Z0p x2) rfl .nil) rfl fun u3 S3 O3=>?_)
 refine Za (Z3i (E:=E4) (xs':=xs1 ++ [x2]) rfl rfl O1 (.app (.app .here)) rfl (Z0l O3 .here) (by rw [H1.len]; rfl) fun u4 S4 O4=>?_)
 refine Zq _ (Zex (q:=[.one (.int .i64 4),.one u4]) (.one rfl rfl rfl (.one rfl (Zjk.cells (Z0c.isSl O4)) rfl BdR.nil))) <| ?_
 refine Za (Zhj (q:=[.one (.int .i64 4),.one u4]) rfl rfl rfl rfl (Z1b (Z54 rfl) (Z1b (Z54 (Zjk.one1 (Z0c.isSl O4))) Z6f)) (.app (.app (.app (.app .here))))<|Z2<|Zf ?_)
 refine ⟨_,_,.cons (.agg rfl (.app (.app (.app (.app .here)))) rfl) .nil,.all .here Zgj,⟨_,rfl,u4,S4,(S3++(M2++(B1++(ck b0 274 [.one (.int .i64 4),.one u4] :: [])))),_,rfl,rfl,O4,?_⟩⟩
 exact (H1.mono (by intro k hk; simp [hk])).app (.cons (H2.mono (by intro k hk; simp only [List.mem_append,List.mem_cons,List.not_mem_nil,or_false] at hk ⊢; first | (rcases hk with hk | hk <;> simp [hk]) | simp [hk])) .nil)
theorem Z0wk:okF Tryz.prog 324 (dRng 274 367)=true:=by kernel_rfl
theorem Z0wl:okF Tryz.prog 325 (dByt 274 367)=true:=by kernel_rfl
theorem Z0ug:okF Tryz.prog 215 (dSay 274 29 324 325)=true:=by kernel_rfl
theorem Z0sv:okF Tryz.prog 119 (Ztu 29 163 213 215)=true:=by kernel_rfl
def Zdz (p0:Z0e):Option (LI):=Zbw Zg8 4 p0
theorem Zjp {W:World} {r:LI} {p0:Z0e} (h:Zdz p0=some r) :
  Calls Tryz.prog 119 [agg (Z6 p0.gCert [.ints .u8 64 (p0.gSig)])].toArray W (Z67 W [] (fun v Ms=>∃ (u0:Value) (M0:List Zd),v=u0/\Ms = [.all M0]/\Z0c (El.int .u8) u0 M0 r)) :=
 Zds (L:=Znv) Z0sv Z0ug Z0wk Z0wl Z057 (by decide) (by kernel_rfl) h
abbrev Zqf:Z0r->List Seg:=fun x=>(Z0d x [])
theorem Z0bm:okF Tryz.prog 328 (dLim 3 431)=true:=by kernel_rfl
theorem Z0bp:okF Tryz.prog 431 (Zw3)=true:=by kernel_rfl
theorem Z0bf:Z66 Tryz.prog 431=true:=by kernel_rfl
theorem Z0wm:okF Tryz.prog 327 (dAt [0] 6)=true:=by kernel_rfl
theorem Z0rk:Z66 Tryz.prog 327=true:=by kernel_rfl
theorem Z0py:AtF 327 0:=Zr7 Z0wm Z0rk rfl
theorem Z0bl:okF Tryz.prog 326 (dNum 378 3 379 376 428 429 430)=true:=by kernel_rfl
theorem Z0bn:okF Tryz.prog 428 (Zos 293 .u32)=true:=by kernel_rfl
theorem Z0bd:Z66 Tryz.prog 428=true:=by kernel_rfl
theorem Z0bo:okF Tryz.prog 430 (Zw4)=true:=by kernel_rfl
theorem Z0be:Z66 Tryz.prog 430=true:=by kernel_rfl
theorem Z0wn:okF Tryz.prog 329 (dAt [1] 6)=true:=by kernel_rfl
theorem Z0rl:Z66 Tryz.prog 329=true:=by kernel_rfl
theorem Z0pz:AtF 329 1:=Zr7 Z0wn Z0rl rfl
theorem Z0wo:okF Tryz.prog 330 (dAt [2] 6)=true:=by kernel_rfl
theorem Z0rm:Z66 Tryz.prog 330=true:=by kernel_rfl
theorem Z0q0:AtF 330 2:=Zr7 Z0wo Z0rm rfl
theorem Z0wp:okF Tryz.prog 332 (dSl 3 32)=true:=by kernel_rfl
theorem Z0rn:Z66 Tryz.prog 332=true:=by kernel_rfl
theorem Z0q1:SlF 332 3 32:=slF Z0wp Z0rn (by decide)
theorem Z0l7:okF Tryz.prog 331 (dLst 382 376 432 433 434)=true:=by kernel_rfl
theorem Z0lg:okF Tryz.prog 432 (Zsc)=true:=by kernel_rfl
theorem Z0kw:Z66 Tryz.prog 432=true:=by kernel_rfl
theorem Z0lh:okF Tryz.prog 434 (dAny)=true:=by kernel_rfl
theorem Z0kx:Z66 Tryz.prog 434=true:=by kernel_rfl
theorem Z0wq:okF Tryz.prog 333 (dSl 35 64)=true:=by kernel_rfl
theorem Z0ro:Z66 Tryz.prog 333=true:=by kernel_rfl
theorem Z0q2:SlF 333 35 64:=slF Z0wq Z0ro (by decide)
def d216:FnD:=⟨11,[.cell 0 2 true],.seq (.ops [oj 0 (.al 278 [.one (.int .i64 0),.one (.slice none 0 0)])]) (.seq (.ops [oj 1 (.call 328 [ci (65535)]),oj 2 (.call 326 [.func 327,ci (1),1]),oj 3 (.call 328 [ci (16)]),oj 4 (.call 326 [.func 329,ci (1),3]),oj 5 (.call 328 [ci (4096)]),oj 6 (.call 326 [.func 330,ci (0),5]),oj 7 (.call 331 [.func 332,.const (.bool true)]),oj 8 (.call 331 [.func 333,.const (.bool false)]),oj 9 (.bs 376 5 4 (zFs 5) [(0,4,2),(4,4,4),(8,4,6),(12,4,7),(16,4,8)]),oj 10 (.bd [.one (.int .i64 0),.one (.slice none 0 0)] [(0,1,ci 5),(1,1,9)]),on_ (.st 2 0 10)]) .ret)⟩
theorem Z0uh:okF Tryz.prog 216 (d216)=true:=by kernel_rfl
def Zvs:List (Zeh Z0r):=[Zfc (fun x:Z0r=>x.gSerial) (1) (fun _=>65535),Zfc (fun x:Z0r=>x.gGate) (1) (fun _=>16),Zfc (fun x:Z0r=>x.gIndex) (0) (fun _=>4096),Zem (fun x:Z0r=>x.gValue) 32 true,Zem (fun x:Z0r=>x.gSig) 64 false]
theorem Z0pl (W:World):Calls Tryz.prog 216 #[] W (Z67 W [] (RC Zqf 5 Zvs)):=by
 refine Zj (args:=[]) mo Z0uh rfl (Zbz _) ?_
 refine Z0<|Z1<|Za (Zu fun b0 _=>Z2<|Z0<|Z1 <| ?_)
 refine Za (Zg rfl (fun w hw=>Zc9 (L:=Zqf) Z0bm Z0bp Z0bf) fun v1 Ms1 R1=>?_)
 obtain ⟨c1,M1,rfl,rfl,H1⟩:=R1
 refine Za (Zg rfl (fun w hw=>Zcb (L:=Zqf) (get:=fun x:Z0r=>x.gSerial) Z0bl Z0bn Z0bo Z0bd Z0be Z0py (fun _=>rfl) H1) fun v2 Ms2 R2=>?_)
 obtain ⟨x2,M2,rfl,rfl,H2⟩:=R2
 refine Za (Zg rfl (fun w hw=>Zc9 (L:=Zqf) Z0bm Z0bp Z0bf) fun v3 Ms3 R3=>?_)
 obtain ⟨c3,M3,rfl,rfl,H3⟩:=R3
 refine Za (Zg rfl (fun w hw=>Zcb (L:=Zqf) (get:=fun x:Z0r=>x.gGate) Z0bl Z0bn Z0bo Z0bd Z0be Z0pz (fun _=>rfl) H3) fun v4 Ms4 R4=>?_)
 obtain ⟨x4,M4,rfl,rfl,H4⟩:=R4
 refine Za (Zg rfl (fun w hw=>Zc9 (L:=Zqf) Z0bm Z0bp Z0bf) fun v5 Ms5 R5=>?_)
 obtain ⟨c5,M5,rfl,rfl,H5⟩:=R5
 refine Za (Zg rfl (fun w hw=>Zcb (L:=Zqf) (get:=fun x:Z0r=>x.gIndex) Z0bl Z0bn Z0bo Z0bd Z0be Z0q0 (fun _=>rfl) H5) fun v6 Ms6 R6=>?_)
 obtain ⟨x6,M6,rfl,rfl,H6⟩:=R6
 refine Za (Zg rfl (fun w hw=>Zar (L:=Zqf) (get:=fun x:Z0r=>x.gValue) Z0l7 Z0lg Z0lh Z0kw Z0kx Z0q1 (fun _=>rfl)) fun v7 Ms7 R7=>?_)
 obtain ⟨x7,M7,rfl,rfl,H7⟩:=R7
 refine Za (Zg rfl (fun w hw=>Zar (L:=Zqf) (get:=fun x:Z0r=>x.gSig) Z0l7 Z0lg Z0lh Z0kw Z0kx Z0q2 (fun _=>rfl)) fun v8 Ms8 R8=>?_)
 obtain ⟨x8,M8,rfl,rfl,H8⟩:=R8
 refine Za (Z5q (E:=E4) (xs:=[x2,x4,x6,x7,x8]) (.agg (p:=Z0p x2) (z':=Z0p x2++(zFs 4)) rfl rfl (by kernel_rfl) (.agg (p:=Z0p x4) (z':=Z0p x2++(Z0p x4++(zFs 3))) rfl rfl (by kernel_rfl) (.agg (p:=Z0p x6) (z':=Z0p x2++(Z0p x4++(Z0p x6++(zFs 2)))) rfl rfl (by kernel_rfl) (.agg (p:=Z0p x7) (z':=Z0p x2++(Z0p x4++(Z0p x6++(Z0p x7++(zFs 1))))) rfl rfl (by kernel_rfl) (.agg (p:=Z0p x8) (z':=Z0p x2++(Z0p x4++(Z0p x6++(Z0p x7++(Z0p x8++([])))))) rfl rfl (by kernel_rfl) BdR.nil))))) (.cons (p:=Z0p x2) rfl (.cons (p:=Z0p x4) rfl (.cons (p:=Z0p x6) rfl (.cons (p:=Z0p x7) rfl (.cons (p:=Z0p x8) rfl .nil))))) rfl fun u9 S9 O9=>?_)
 refine Zq _ (Zex (q:=[.one (.int .i64 5),.one u9]) (.one rfl rfl rfl (.one rfl (Zjk.cells (Z0c.isSl O9)) rfl BdR.nil))) <| ?_
 refine Za (Zhj (q:=[.one (.int .i64 5),.one u9]) rfl rfl rfl rfl (Z1b (Z54 rfl) (Z1b (Z54 (Zjk.one1 (Z0c.isSl O9))) Z6f)) (.app (.app (.app (.app (.app (.app (.app (.app (.app .here)))))))))<|Z2<|Zf ?_)
 refine ⟨_,_,.cons (.agg rfl (.app (.app (.app (.app (.app (.app (.app (.app (.app .here))))))))) rfl) .nil,.all .here Zgj,⟨_,rfl,u9,S9,(M8++(M7++(M6++(M5++(M4++(M3++(M2++(M1++(ck b0 278 [.one (.int .i64 5),.one u9] :: []))))))))),_,rfl,rfl,O9,?_⟩⟩
 exact (.cons (H2.mono (by intro k hk; simp only [List.mem_append,List.mem_cons,List.not_mem_nil,or_false] at hk ⊢; first | (rcases hk with hk | hk <;> simp [hk]) | simp [hk])) (.cons (H4.mono (by intro k hk; simp only [List.mem_append,List.mem_cons,List.not_mem_nil,or_false] at hk ⊢; first | (rcases hk with hk | hk <;> simp [hk]) | simp [hk])) (.cons (H6.mono (by intro k hk; simp only [List.mem_append,List.mem_cons,List.not_mem_nil,or_false] at hk ⊢; first | (rcases hk with hk | hk <;> simp [hk]) | simp [hk])) (.cons (H7.mono (by intro k hk; simp only [List.mem_append,List.mem_cons,List.not_mem_nil,or_false] at hk ⊢; first | (rcases hk with hk | hk <;> simp [hk]) | simp [hk])) (.cons (H8.mono (by intro k hk; simp only [List.mem_append,List.mem_cons,List.not_mem_nil,or_false] at hk ⊢; first | (rcases hk with hk | hk <;> simp [hk]) | simp [hk])) .nil)))))
theorem Z0wr:okF Tryz.prog 334 (dRng 278 376)=true:=by kernel_rfl
theorem Z0ws:okF Tryz.prog 335 (dByt 278 376)=true:=by kernel_rfl
theorem Z0ui:okF Tryz.prog 218 (dSay 278 31 334 335)=true:=by kernel_rfl
theorem Z0sy:okF Tryz.prog 124 (Ztu 31 99 216 218)=true:=by kernel_rfl
def Ziu (p0:Z0r):Option (LI):=Zbw Zvs 5 p0
theorem Zmp {W:World} {r:LI} {p0:Z0r} (h:Ziu p0=some r) :
  Calls Tryz.prog 124 [agg (Z0d p0 [])].toArray W (Z67 W [] (fun v Ms=>∃ (u0:Value) (M0:List Zd),v=u0/\Ms = [.all M0]/\Z0c (El.int .u8) u0 M0 r)) :=
 Zds (L:=Zqf) Z0sy Z0ui Z0wr Z0ws Z0pl (by decide) (by kernel_rfl) h
abbrev Ze7:Zs->List Seg:=fun x=>(Z6 x.gCert [.ints .u8 64 (x.gSig)])
theorem Z0wu:okF Tryz.prog 337 (dAt [0] 6)=true:=by kernel_rfl
theorem Z0rp:Z66 Tryz.prog 337=true:=by kernel_rfl
theorem Z0q3:AtF 337 0:=Zr7 Z0wu Z0rp rfl
theorem Z0wt:okF Tryz.prog 336 (dInn 150 386 300 391 435 436 437)=true:=by kernel_rfl
theorem Z0yl:okF Tryz.prog 435 (Z05t)=true:=by kernel_rfl
theorem Z0s6:Z66 Tryz.prog 435=true:=by kernel_rfl
theorem Z0ym:okF Tryz.prog 437 (Z05s)=true:=by kernel_rfl
theorem Z0s7:Z66 Tryz.prog 437=true:=by kernel_rfl
theorem Z0ww:okF Tryz.prog 339 (dSl 99 64)=true:=by kernel_rfl
theorem Z0rq:Z66 Tryz.prog 339=true:=by kernel_rfl
theorem Z0q4:SlF 339 99 64:=slF Z0ww Z0rq (by decide)
theorem Z0wv:okF Tryz.prog 338 (dLst 393 391 438 439 440)=true:=by kernel_rfl
theorem Z0yn:okF Tryz.prog 438 (Zsc)=true:=by kernel_rfl
theorem Z0s8:Z66 Tryz.prog 438=true:=by kernel_rfl
theorem Z0yo:okF Tryz.prog 440 (dAny)=true:=by kernel_rfl
theorem Z0s9:Z66 Tryz.prog 440=true:=by kernel_rfl
def d220:FnD:=⟨6,[.cell 0 2 true],.seq (.ops [oj 0 (.al 282 [.one (.int .i64 0),.one (.slice none 0 0)])]) (.seq (.ops [oj 1 (.call 336 [.func 337]),oj 2 (.call 338 [.func 339,.const (.bool false)]),oj 3 (.bs 391 1 4 (zFs 1) [(0,4,2)]),oj 4 (.app 391 4 32 zF 1 3),oj 5 (.bd [.one (.int .i64 0),.one (.slice none 0 0)] [(0,1,ci 6),(1,1,4)]),on_ (.st 2 0 5)]) .ret)⟩
theorem Z0uj:okF Tryz.prog 220 (d220)=true:=by kernel_rfl
def Z75:List (Zeh Zs):=(F_Cert.map (Zlp (fun x:Zs=>x.gCert))) ++ [Zem (fun x:Zs=>x.gSig) 64 false]
theorem Ztd (W:World):Calls Tryz.prog 220 #[] W (Z67 W [] (RC Ze7 6 Z75)):=by
 refine Zj (args:=[]) mo Z0uj rfl (Zbz _) ?_
 refine Z0<|Z1<|Za (Zu fun b0 _=>Z2<|Z0<|Z1 <| ?_)
 refine Za (Zg rfl (fun w hw=>Zy2 (L:=Ze7) (Lc:=Zhd) (inn:=fun x:Zs=>x.gCert) (rest:=fun x=>[.ints .u8 64 (x.gSig)]) Z0wt Z0yl Z0ym Z0s6 Z0s7 Z0q3 (fun _=>rfl) Z00u (by decide) w) fun v1 Ms1 R1=>?_)
 obtain ⟨M1,B1,xs1,rfl,O1,H1⟩:=R1
 refine Za (Zg rfl (fun w hw=>Zar (L:=Ze7) (get:=fun x:Zs=>x.gSig) Z0wv Z0yn Z0yo Z0s8 Z0s9 Z0q4 (fun _=>rfl)) fun v2 Ms2 R2=>?_)
 obtain ⟨x2,M2,rfl,rfl,H2⟩:=R2
 refine Za (Z5q (E:=E4) (xs:=[x2]) (.agg (p:=Z0p x2) (z':=Z0p x2++([])) rfl rfl (by kernel_rfl) BdR.nil) (.cons (p:=Z0p x2) rfl .nil) rfl fun u3 S3 O3=>?_)
 refine Za (Z3i (E:=E4) (xs':=xs1 ++ [x2]) rfl rfl O1 (.app (.app .here)) rfl (Z0l O3 .here) (by rw [H1.len]; rfl) fun u4 S4 O4=>?_)
 refine Zq _ (Zex (q:=[.one (.int .i64 6),.one u4]) (.one rfl rfl rfl (.one rfl (Zjk.cells (Z0c.isSl O4)) rfl BdR.nil))) <| ?_
 refine Za (Zhj (q:=[.one (.int .i64 6),.one u4]) rfl rfl rfl rfl (Z1b (Z54 rfl) (Z1b (Z54 (Zjk.one1 (Z0c.isSl O4))) Z6f)) (.app (.app (.app (.app .here))))<|Z2<|Zf ?_)
 refine ⟨_,_,.cons (.agg rfl (.app (.app (.app (.app .here)))) rfl) .nil,.all .here Zgj,⟨_,rfl,u4,S4,(S3++(M2++(B1++(ck b0 282 [.one (.int .i64 6),.one u4] :: [])))),_,rfl,rfl,O4,?_⟩⟩
 exact (H1.mono (by intro k hk; simp [hk])).app (.cons (H2.mono (by intro k hk; simp only [List.mem_append,List.mem_cons,List.not_mem_nil,or_false] at hk ⊢; first | (rcases hk with hk | hk <;> simp [hk]) | simp [hk])) .nil)
theorem Z0wx:okF Tryz.prog 340 (dRng 282 391)=true:=by kernel_rfl
theorem Z0wy:okF Tryz.prog 341 (dByt 282 391)=true:=by kernel_rfl
theorem Z0uk:okF Tryz.prog 222 (dSay 282 32 340 341)=true:=by kernel_rfl
theorem Z0t2:okF Tryz.prog 130 (Ztu 32 163 220 222)=true:=by kernel_rfl
def Z8z (p0:Zs):Option (LI):=Zbw Z75 6 p0
theorem Zg7 {W:World} {r:LI} {p0:Zs} (h:Z8z p0=some r) :
  Calls Tryz.prog 130 [agg (Z6 p0.gCert [.ints .u8 64 (p0.gSig)])].toArray W (Z67 W [] (fun v Ms=>∃ (u0:Value) (M0:List Zd),v=u0/\Ms = [.all M0]/\Z0c (El.int .u8) u0 M0 r)) :=
 Zds (L:=Ze7) Z0t2 Z0uk Z0wx Z0wy Ztd (by decide) (by kernel_rfl) h
abbrev Zog:Z0h->List Seg:=fun x=>(Z04 x [])
theorem Z0x1:okF Tryz.prog 344 (dLim 3 444)=true:=by kernel_rfl
theorem Z0yr:okF Tryz.prog 444 (Zw3)=true:=by kernel_rfl
theorem Z0sc:Z66 Tryz.prog 444=true:=by kernel_rfl
theorem Z0x0:okF Tryz.prog 343 (dAt [0] 6)=true:=by kernel_rfl
theorem Z0rr:Z66 Tryz.prog 343=true:=by kernel_rfl
theorem Z0q5:AtF 343 0:=Zr7 Z0x0 Z0rr rfl
theorem Z0wz:okF Tryz.prog 342 (dNum 402 3 403 400 441 442 443)=true:=by kernel_rfl
theorem Z0yp:okF Tryz.prog 441 (Zos 293 .u32)=true:=by kernel_rfl
theorem Z0sa:Z66 Tryz.prog 441=true:=by kernel_rfl
theorem Z0yq:okF Tryz.prog 443 (Zw4)=true:=by kernel_rfl
theorem Z0sb:Z66 Tryz.prog 443=true:=by kernel_rfl
theorem Z0x3:okF Tryz.prog 346 (dSl 1 64)=true:=by kernel_rfl
theorem Z0rs:Z66 Tryz.prog 346=true:=by kernel_rfl
theorem Z0q6:SlF 346 1 64:=slF Z0x3 Z0rs (by decide)
theorem Z0x2:okF Tryz.prog 345 (dLst 406 400 445 446 447)=true:=by kernel_rfl
theorem Z0ys:okF Tryz.prog 445 (Zsc)=true:=by kernel_rfl
theorem Z0sd:Z66 Tryz.prog 445=true:=by kernel_rfl
theorem Z0yt:okF Tryz.prog 447 (dAny)=true:=by kernel_rfl
theorem Z0se:Z66 Tryz.prog 447=true:=by kernel_rfl
def d223:FnD:=⟨6,[.cell 0 2 true],.seq (.ops [oj 0 (.al 286 [.one (.int .i64 0),.one (.slice none 0 0)])]) (.seq (.ops [oj 1 (.call 344 [ci (65536)]),oj 2 (.call 342 [.func 343,ci (1),1]),oj 3 (.call 345 [.func 346,.const (.bool false)]),oj 4 (.bs 400 2 4 (zFs 2) [(0,4,2),(4,4,3)]),oj 5 (.bd [.one (.int .i64 0),.one (.slice none 0 0)] [(0,1,ci 7),(1,1,4)]),on_ (.st 2 0 5)]) .ret)⟩
theorem Z0ul:okF Tryz.prog 223 (d223)=true:=by kernel_rfl
def Zk3:List (Zeh Z0h):=[Zfc (fun x:Z0h=>x.gFloor) (1) (fun _=>65536),Zem (fun x:Z0h=>x.gSig) 64 false]
theorem Z09f (W:World):Calls Tryz.prog 223 #[] W (Z67 W [] (RC Zog 7 Zk3)):=by
 refine Zj (args:=[]) mo Z0ul rfl (Zbz _) ?_
 refine Z0<|Z1<|Za (Zu fun b0 _=>Z2<|Z0<|Z1 <| ?_)
 refine Za (Zg rfl (fun w hw=>Zc9 (L:=Zog) Z0x1 Z0yr Z0sc) fun v1 Ms1 R1=>?_)
 obtain ⟨c1,M1,rfl,rfl,H1⟩:=R1
 refine Za (Zg rfl (fun w hw=>Zcb (L:=Zog) (get:=fun x:Z0h=>x.gFloor) Z0wz Z0yp Z0yq Z0sa Z0sb Z0q5 (fun _=>rfl) H1) fun v2 Ms2 R2=>?_)
 obtain ⟨x2,M2,rfl,rfl,H2⟩:=R2
 refine Za (Zg rfl (fun w hw=>Zar (L:=Zog) (get:=fun x:Z0h=>x.gSig) Z0x2 Z0ys Z0yt Z0sd Z0se Z0q6 (fun _=>rfl)) fun v3 Ms3 R3=>?_)
 obtain ⟨x3,M3,rfl,rfl,H3⟩:=R3
 refine Za (Z5q (E:=E4) (xs:=[x2,x3]) (.agg (p:=Z0p x2) (z':=Z0p x2++(zFs 1)) rfl rfl (by kernel_rfl) (.agg (p:=Z0p x3) (z':=Z0p x2++(Z0p x3++([]))) rfl rfl (by kernel_rfl) BdR.nil)) (.cons (p:=Z0p x2) rfl (.cons (p:=Z0p x3) rfl .nil)) rfl fun u4 S4 O4=>?_)
 refine Zq _ (Zex (q:=[.one (.int .i64 7),.one u4]) (.one rfl rfl rfl (.one rfl (Zjk.cells (Z0c.isSl O4)) rfl BdR.nil))) <| ?_
 refine Za (Zhj (q:=[.one (.int .i64 7),.one u4]) rfl rfl rfl rfl (Z1b (Z54 rfl) (Z1b (Z54 (Zjk.one1 (Z0c.isSl O4))) Z6f)) (.app (.app (.app (.app .here))))<|Z2<|Zf ?_)
 refine ⟨_,_,.cons (.agg rfl (.app (.app (.app (.app .here)))) rfl) .nil,.all .here Zgj,⟨_,rfl,u4,S4,(M3++(M2++(M1++(ck b0 286 [.one (.int .i64 7),.one u4] :: [])))),_,rfl,rfl,O4,?_⟩⟩
 exact (.cons (H2.mono (by intro k hk; simp only [List.mem_append,List.mem_cons,List.not_mem_nil,or_false] at hk ⊢; first | (rcases hk with hk | hk <;> simp [hk]) | simp [hk])) (.cons (H3.mono (by intro k hk; simp only [List.mem_append,List.mem_cons,List.not_mem_nil,or_false] at hk ⊢; first | (rcases hk with hk | hk <;> simp [hk]) | simp [hk])) .nil))
theorem Z0x4:okF Tryz.prog 347 (dRng 286 400)=true:=by kernel_rfl
theorem Z0x5:okF Tryz.prog 348 (dByt 286 400)=true:=by kernel_rfl
theorem Z0um:okF Tryz.prog 225 (dSay 286 34 347 348)=true:=by kernel_rfl
theorem Z0t5:okF Tryz.prog 135 (Ztu 34 65 223 225)=true:=by kernel_rfl
def Zf0 (p0:Z0h):Option (LI):=Zbw Zk3 7 p0
theorem Zkn {W:World} {r:LI} {p0:Z0h} (h:Zf0 p0=some r) :
  Calls Tryz.prog 135 [agg (Z04 p0 [])].toArray W (Z67 W [] (fun v Ms=>∃ (u0:Value) (M0:List Zd),v=u0/\Ms = [.all M0]/\Z0c (El.int .u8) u0 M0 r)) :=
 Zds (L:=Zog) Z0t5 Z0um Z0x4 Z0x5 Z09f (by decide) (by kernel_rfl) h
abbrev Zav:Zw->List Seg:=fun x=>(Zt x [])
theorem Z0l9:okF Tryz.prog 351 (dLim 3 451)=true:=by kernel_rfl
theorem Z0lk:okF Tryz.prog 451 (Zw3)=true:=by kernel_rfl
theorem Z0l0:Z66 Tryz.prog 451=true:=by kernel_rfl
theorem Z0x6:okF Tryz.prog 350 (dAt [0] 6)=true:=by kernel_rfl
theorem Z0rt:Z66 Tryz.prog 350=true:=by kernel_rfl
theorem Z0q7:AtF 350 0:=Zr7 Z0x6 Z0rt rfl
theorem Z0l8:okF Tryz.prog 349 (dNum 415 3 416 413 448 449 450)=true:=by kernel_rfl
theorem Z0li:okF Tryz.prog 448 (Zos 293 .u32)=true:=by kernel_rfl
theorem Z0ky:Z66 Tryz.prog 448=true:=by kernel_rfl
theorem Z0lj:okF Tryz.prog 450 (Zw4)=true:=by kernel_rfl
theorem Z0kz:Z66 Tryz.prog 450=true:=by kernel_rfl
theorem Z0x7:okF Tryz.prog 352 (dAt [1] 6)=true:=by kernel_rfl
theorem Z0ru:Z66 Tryz.prog 352=true:=by kernel_rfl
theorem Z0q8:AtF 352 1:=Zr7 Z0x7 Z0ru rfl
theorem Z0x9:okF Tryz.prog 354 (dAt [2] 6)=true:=by kernel_rfl
theorem Z0rv:Z66 Tryz.prog 354=true:=by kernel_rfl
theorem Z0q9:AtF 354 2:=Zr7 Z0x9 Z0rv rfl
theorem Z0x8:okF Tryz.prog 353 (dMon 419 2 413 452 453 454)=true:=by kernel_rfl
theorem Z0yu:okF Tryz.prog 452 (Zos 372 .u64)=true:=by kernel_rfl
theorem Z0sf:Z66 Tryz.prog 452=true:=by kernel_rfl
theorem Z0yv:okF Tryz.prog 454 (Z05u)=true:=by kernel_rfl
theorem Z0sg:Z66 Tryz.prog 454=true:=by kernel_rfl
theorem Z0xb:okF Tryz.prog 356 (dSl 3 64)=true:=by kernel_rfl
theorem Z0rw:Z66 Tryz.prog 356=true:=by kernel_rfl
theorem Z0qa:SlF 356 3 64:=slF Z0xb Z0rw (by decide)
theorem Z0xa:okF Tryz.prog 355 (dLst 421 413 455 456 457)=true:=by kernel_rfl
theorem Z0yw:okF Tryz.prog 455 (Zsc)=true:=by kernel_rfl
theorem Z0sh:Z66 Tryz.prog 455=true:=by kernel_rfl
theorem Z0yx:okF Tryz.prog 457 (dAny)=true:=by kernel_rfl
theorem Z0si:Z66 Tryz.prog 457=true:=by kernel_rfl
def d226:FnD:=⟨9,[.cell 0 2 true],.seq (.ops [oj 0 (.al 290 [.one (.int .i64 0),.one (.slice none 0 0)])]) (.seq (.ops [oj 1 (.call 351 [ci (65535)]),oj 2 (.call 349 [.func 350,ci (1),1]),oj 3 (.call 351 [ci (4096)]),oj 4 (.call 349 [.func 352,ci (0),3]),oj 5 (.call 353 [.func 354,ci (9223372036854775807)]),oj 6 (.call 355 [.func 356,.const (.bool false)]),oj 7 (.bs 413 4 4 (zFs 4) [(0,4,2),(4,4,4),(8,4,5),(12,4,6)]),oj 8 (.bd [.one (.int .i64 0),.one (.slice none 0 0)] [(0,1,ci 8),(1,1,7)]),on_ (.st 2 0 8)]) .ret)⟩
theorem Z0un:okF Tryz.prog 226 (d226)=true:=by kernel_rfl
def Zcu:List (Zeh Zw):=[Zfc (fun x:Zw=>x.gSerial) (1) (fun _=>65535),Zfc (fun x:Zw=>x.gRides) (0) (fun _=>4096),Zlx (fun x:Zw=>x.gAmount) 9223372036854775807,Zem (fun x:Zw=>x.gSig) 64 false]
theorem Z00v (W:World):Calls Tryz.prog 226 #[] W (Z67 W [] (RC Zav 8 Zcu)):=by
 refine Zj (args:=[]) mo Z0un rfl (Zbz _) ?_
 refine Z0<|Z1<|Za (Zu fun b0 _=>Z2<|Z0<|Z1 <| ?_)
 refine Za (Zg rfl (fun w hw=>Zc9 (L:=Zav) Z0l9 Z0lk Z0l0) fun v1 Ms1 R1=>?_)
 obtain ⟨c1,M1,rfl,rfl,H1⟩:=R1
 refine Za (Zg rfl (fun w hw=>Zcb (L:=Zav) (get:=fun x:Zw=>x.gSerial) Z0l8 Z0li Z0lj Z0ky Z0kz Z0q7 (fun _=>rfl) H1) fun v2 Ms2 R2=>?_)
 obtain ⟨x2,M2,rfl,rfl,H2⟩:=R2
 refine Za (Zg rfl (fun w hw=>Zc9 (L:=Zav) Z0l9 Z0lk Z0l0) fun v3 Ms3 R3=>?_)
 obtain ⟨c3,M3,rfl,rfl,H3⟩:=R3
 refine Za (Zg rfl (fun w hw=>Zcb (L:=Zav) (get:=fun x:Zw=>x.gRides) Z0l8 Z0li Z0lj Z0ky Z0kz Z0q8 (fun _=>rfl) H3) fun v4 Ms4 R4=>?_)
 obtain ⟨x4,M4,rfl,rfl,H4⟩:=R4
 refine Za (Zg rfl (fun w hw=>Zy7 (L:=Zav) (get:=fun x:Zw=>x.gAmount) Z0x8 Z0yu Z0yv Z0sf Z0sg Z0q9 (fun _=>rfl)) fun v5 Ms5 R5=>?_)
 obtain ⟨x5,M5,rfl,rfl,H5⟩:=R5
 refine Za (Zg rfl (fun w hw=>Zar (L:=Zav) (get:=fun x:Zw=>x.gSig) Z0xa Z0yw Z0yx Z0sh Z0si Z0qa (fun _=>rfl)) fun v6 Ms6 R6=>?_)
 obtain ⟨x6,M6,rfl,rfl,H6⟩:=R6
 refine Za (Z5q (E:=E4) (xs:=[x2,x4,x5,x6]) (.agg (p:=Z0p x2) (z':=Z0p x2++(zFs 3)) rfl rfl (by kernel_rfl) (.agg (p:=Z0p x4) (z':=Z0p x2++(Z0p x4++(zFs 2))) rfl rfl (by kernel_rfl) (.agg (p:=Z0p x5) (z':=Z0p x2++(Z0p x4++(Z0p x5++(zFs 1)))) rfl rfl (by kernel_rfl) (.agg (p:=Z0p x6) (z':=Z0p x2++(Z0p x4++(Z0p x5++(Z0p x6++([]))))) rfl rfl (by kernel_rfl) BdR.nil)))) (.cons (p:=Z0p x2) rfl (.cons (p:=Z0p x4) rfl (.cons (p:=Z0p x5) rfl (.cons (p:=Z0p x6) rfl .nil)))) rfl fun u7 S7 O7=>?_)
 refine Zq _ (Zex (q:=[.one (.int .i64 8),.one u7]) (.one rfl rfl rfl (.one rfl (Zjk.cells (Z0c.isSl O7)) rfl BdR.nil))) <| ?_
 refine Za (Zhj (q:=[.one (.int .i64 8),.one u7]) rfl rfl rfl rfl (Z1b (Z54 rfl) (Z1b (Z54 (Zjk.one1 (Z0c.isSl O7))) Z6f)) (.app (.app (.app (.app (.app (.app (.app .here)))))))<|Z2<|Zf ?_)
 refine ⟨_,_,.cons (.agg rfl (.app (.app (.app (.app (.app (.app (.app .here))))))) rfl) .nil,.all .here Zgj,⟨_,rfl,u7,S7,(M6++(M5++(M4++(M3++(M2++(M1++(ck b0 290 [.one (.int .i64 8),.one u7] :: []))))))),_,rfl,rfl,O7,?_⟩⟩
 exact (.cons (H2.mono (by intro k hk; simp only [List.mem_append,List.mem_cons,List.not_mem_nil,or_false] at hk ⊢; first | (rcases hk with hk | hk <;> simp [hk]) | simp [hk])) (.cons (H4.mono (by intro k hk; simp only [List.mem_append,List.mem_cons,List.not_mem_nil,or_false] at hk ⊢; first | (rcases hk with hk | hk <;> simp [hk]) | simp [hk])) (.cons (H5.mono (by intro k hk; simp only [List.mem_append,List.mem_cons,List.not_mem_nil,or_false] at hk ⊢; first | (rcases hk with hk | hk <;> simp [hk]) | simp [hk])) (.cons (H6.mono (by intro k hk; simp only [List.mem_append,List.mem_cons,List.not_mem_nil,or_false] at hk ⊢; first | (rcases hk with hk | hk <;> simp [hk]) | simp [hk])) .nil))))
theorem Z0xc:okF Tryz.prog 357 (dRng 290 413)=true:=by kernel_rfl
theorem Z0xd:okF Tryz.prog 358 (dByt 290 413)=true:=by kernel_rfl
theorem Z0uo:okF Tryz.prog 228 (dSay 290 36 357 358)=true:=by kernel_rfl
theorem Z0t8:okF Tryz.prog 140 (Ztu 36 67 226 228)=true:=by kernel_rfl
def Zc1 (p0:Zw):Option (LI):=Zbw Zcu 8 p0
theorem Ziv {W:World} {r:LI} {p0:Zw} (h:Zc1 p0=some r) :
  Calls Tryz.prog 140 [agg (Zt p0 [])].toArray W (Z67 W [] (fun v Ms=>∃ (u0:Value) (M0:List Zd),v=u0/\Ms = [.all M0]/\Z0c (El.int .u8) u0 M0 r)) :=
 Zds (L:=Zav) Z0t8 Z0uo Z0xc Z0xd Z00v (by decide) (by kernel_rfl) h
abbrev Zqz:Z0n->List Seg:=fun x=>(Z0a x [])
theorem Z0xg:okF Tryz.prog 361 (dLim 3 461)=true:=by kernel_rfl
theorem Z0z0:okF Tryz.prog 461 (Zw3)=true:=by kernel_rfl
theorem Z0sl:Z66 Tryz.prog 461=true:=by kernel_rfl
theorem Z0xf:okF Tryz.prog 360 (dAt [0] 6)=true:=by kernel_rfl
theorem Z0rx:Z66 Tryz.prog 360=true:=by kernel_rfl
theorem Z0qb:AtF 360 0:=Zr7 Z0xf Z0rx rfl
theorem Z0xe:okF Tryz.prog 359 (dNum 430 3 431 428 458 459 460)=true:=by kernel_rfl
theorem Z0yy:okF Tryz.prog 458 (Zos 293 .u32)=true:=by kernel_rfl
theorem Z0sj:Z66 Tryz.prog 458=true:=by kernel_rfl
theorem Z0yz:okF Tryz.prog 460 (Zw4)=true:=by kernel_rfl
theorem Z0sk:Z66 Tryz.prog 460=true:=by kernel_rfl
theorem Z0xh:okF Tryz.prog 363 (dSl 1 32)=true:=by kernel_rfl
theorem Z0ry:Z66 Tryz.prog 363=true:=by kernel_rfl
theorem Z0qc:SlF 363 1 32:=slF Z0xh Z0ry (by decide)
theorem Z0la:okF Tryz.prog 362 (dLst 434 428 462 463 464)=true:=by kernel_rfl
theorem Z0ll:okF Tryz.prog 462 (Zsc)=true:=by kernel_rfl
theorem Z0l1:Z66 Tryz.prog 462=true:=by kernel_rfl
theorem Z0lm:okF Tryz.prog 464 (dAny)=true:=by kernel_rfl
theorem Z0l2:Z66 Tryz.prog 464=true:=by kernel_rfl
theorem Z0xi:okF Tryz.prog 364 (dSl 33 64)=true:=by kernel_rfl
theorem Z0rz:Z66 Tryz.prog 364=true:=by kernel_rfl
theorem Z0qd:SlF 364 33 64:=slF Z0xi Z0rz (by decide)
def d229:FnD:=⟨7,[.cell 0 2 true],.seq (.ops [oj 0 (.al 294 [.one (.int .i64 0),.one (.slice none 0 0)])]) (.seq (.ops [oj 1 (.call 361 [ci (65536)]),oj 2 (.call 359 [.func 360,ci (0),1]),oj 3 (.call 362 [.func 363,.const (.bool true)]),oj 4 (.call 362 [.func 364,.const (.bool false)]),oj 5 (.bs 428 3 4 (zFs 3) [(0,4,2),(4,4,3),(8,4,4)]),oj 6 (.bd [.one (.int .i64 0),.one (.slice none 0 0)] [(0,1,ci 10),(1,1,5)]),on_ (.st 2 0 6)]) .ret)⟩
theorem Z0up:okF Tryz.prog 229 (d229)=true:=by kernel_rfl
def Zod:List (Zeh Z0n):=[Zfc (fun x:Z0n=>x.gSize) (0) (fun _=>65536),Zem (fun x:Z0n=>x.gRoot) 32 true,Zem (fun x:Z0n=>x.gSig) 64 false]
theorem Z0di (W:World):Calls Tryz.prog 229 #[] W (Z67 W [] (RC Zqz 10 Zod)):=by
 refine Zj (args:=[]) mo Z0up rfl (Zbz _) ?_
 refine Z0<|Z1<|Za (Zu fun b0 _=>Z2<|Z0<|Z1 <| ?_)
 refine Za (Zg rfl (fun w hw=>Zc9 (L:=Zqz) Z0xg Z0z0 Z0sl) fun v1 Ms1 R1=>?_)
 obtain ⟨c1,M1,rfl,rfl,H1⟩:=R1
 refine Za (Zg rfl (fun w hw=>Zcb (L:=Zqz) (get:=fun x:Z0n=>x.gSize) Z0xe Z0yy Z0yz Z0sj Z0sk Z0qb (fun _=>rfl) H1) fun v2 Ms2 R2=>?_)
 obtain ⟨x2,M2,rfl,rfl,H2⟩:=R2
 refine Za (Zg rfl (fun w hw=>Zar (L:=Zqz) (get:=fun x:Z0n=>x.gRoot) Z0la Z0ll Z0lm Z0l1 Z0l2 Z0qc (fun _=>rfl)) fun v3 Ms3 R3=>?_)
 obtain ⟨x3,M3,rfl,rfl,H3⟩:=R3
 refine Za (Zg rfl (fun w hw=>Zar (L:=Zqz) (get:=fun x:Z0n=>x.gSig) Z0la Z0ll Z0lm Z0l1 Z0l2 Z0qd (fun _=>rfl)) fun v4 Ms4 R4=>?_)
 obtain ⟨x4,M4,rfl,rfl,H4⟩:=R4
 refine Za (Z5q (E:=E4) (xs:=[x2,x3,x4]) (.agg (p:=Z0p x2) (z':=Z0p x2++(zFs 2)) rfl rfl (by kernel_rfl) (.agg (p:=Z0p x3) (z':=Z0p x2++(Z0p x3++(zFs 1))) rfl rfl (by kernel_rfl) (.agg (p:=Z0p x4) (z':=Z0p x2++(Z0p x3++(Z0p x4++([])))) rfl rfl (by kernel_rfl) BdR.nil))) (.cons (p:=Z0p x2) rfl (.cons (p:=Z0p x3) rfl (.cons (p:=Z0p x4) rfl .nil))) rfl fun u5 S5 O5=>?_)
 refine Zq _ (Zex (q:=[.one (.int .i64 10),.one u5]) (.one rfl rfl rfl (.one rfl (Zjk.cells (Z0c.isSl O5)) rfl BdR.nil))) <| ?_
 refine Za (Zhj (q:=[.one (.int .i64 10),.one u5]) rfl rfl rfl rfl (Z1b (Z54 rfl) (Z1b (Z54 (Zjk.one1 (Z0c.isSl O5))) Z6f)) (.app (.app (.app (.app (.app .here)))))<|Z2<|Zf ?_)
 refine ⟨_,_,.cons (.agg rfl (.app (.app (.app (.app (.app .here))))) rfl) .nil,.all .here Zgj,⟨_,rfl,u5,S5,(M4++(M3++(M2++(M1++(ck b0 294 [.one (.int .i64 10),.one u5] :: []))))),_,rfl,rfl,O5,?_⟩⟩
 exact (.cons (H2.mono (by intro k hk; simp only [List.mem_append,List.mem_cons,List.not_mem_nil,or_false] at hk ⊢; first | (rcases hk with hk | hk <;> simp [hk]) | simp [hk])) (.cons (H3.mono (by intro k hk; simp only [List.mem_append,List.mem_cons,List.not_mem_nil,or_false] at hk ⊢; first | (rcases hk with hk | hk <;> simp [hk]) | simp [hk])) (.cons (H4.mono (by intro k hk; simp only [List.mem_append,List.mem_cons,List.not_mem_nil,or_false] at hk ⊢; first | (rcases hk with hk | hk <;> simp [hk]) | simp [hk])) .nil)))
theorem Z0xj:okF Tryz.prog 365 (dRng 294 428)=true:=by kernel_rfl
theorem Z0xk:okF Tryz.prog 366 (dByt 294 428)=true:=by kernel_rfl
theorem Z0uq:okF Tryz.prog 231 (dSay 294 38 365 366)=true:=by kernel_rfl
theorem Z0tc:okF Tryz.prog 146 (Ztu 38 97 229 231)=true:=by kernel_rfl
def Zgw (p0:Z0n):Option (LI):=Zbw Zod 10 p0
theorem Zlo {W:World} {r:LI} {p0:Z0n} (h:Zgw p0=some r) :
  Calls Tryz.prog 146 [agg (Z0a p0 [])].toArray W (Z67 W [] (fun v Ms=>∃ (u0:Value) (M0:List Zd),v=u0/\Ms = [.all M0]/\Z0c (El.int .u8) u0 M0 r)) :=
 Zds (L:=Zqz) Z0tc Z0uq Z0xj Z0xk Z0di (by decide) (by kernel_rfl) h
end Go.Proofs.YtkjfpenagcdmcaaGreatDoor
namespace Go.Proofs.YtkjfpenagcdmcaaGreatDoor
open Go Go.Sx Go.RowKit
open List (replicate)
set_option linter.all false
set_option maxHeartbeats 400000
set_option maxRecDepth 100000
theorem ok85:okF Tryz.prog 85 (dAt [35] 6)=true:=by kernel_rfl
theorem Z0cx:AtF 85 35:=Zr7 ok85 (by kernel_rfl) rfl
theorem Z0sw:okF Tryz.prog 120 (dAt [99] 6)=true:=by kernel_rfl
theorem Z07r:AtF 120 99:=Zr7 Z0sw (by kernel_rfl) rfl
theorem Z0sz:okF Tryz.prog 125 (dAt [35] 6)=true:=by kernel_rfl
theorem Z07s:AtF 125 35:=Zr7 Z0sz (by kernel_rfl) rfl
theorem Z0t3:okF Tryz.prog 131 (dAt [99] 6)=true:=by kernel_rfl
theorem Z07t:AtF 131 99:=Zr7 Z0t3 (by kernel_rfl) rfl
theorem Z0t6:okF Tryz.prog 136 (dAt [1] 6)=true:=by kernel_rfl
theorem Z07u:AtF 136 1:=Zr7 Z0t6 (by kernel_rfl) rfl
theorem Z0t9:okF Tryz.prog 141 (dAt [3] 6)=true:=by kernel_rfl
theorem Z07v:AtF 141 3:=Zr7 Z0t9 (by kernel_rfl) rfl
theorem Z0td:okF Tryz.prog 147 (dAt [33] 6)=true:=by kernel_rfl
theorem Z07w:AtF 147 33:=Zr7 Z0td (by kernel_rfl) rfl
def Z4k (p1:LI) (p2:Z09):Option (Z09) :=
 opt (Zgv p2) fun y1 =>
 opt (Z80 p1 y1) fun y2 =>
 some (⟨p2.gSerial,p2.gRides,p2.gPrice,p2.gAnchor,y2⟩:Z09)
theorem Zcf {W:World} {r:Z09} {p1:LI} {p2:Z09} (h:Z4k p1 p2=some r) (hG:Globs W) :
    Calls Tryz.prog 51 [agg [.one (.func (.func 83) #[] #[]),.one (.func (.func 84) #[] #[]),.one (.func (.func 85) #[] #[]),.one (.func (.func 86) #[] #[])],agg [b3' p1],agg (Z6 p2 [])].toArray W (Z1w W (agg (Z6 r []))):=by
 unfold Z4k at h
 refine Z9 mo ok51 rfl ?_
 refine Z0<|Z1<|Za (Z02 (s:=[.one (.func (.func 83) #[] #[]),.one (.func (.func 84) #[] #[]),.one (.func (.func 85) #[] #[]),.one (.func (.func 86) #[] #[])]) rfl fun b1 u1=>Za (Z02 (s:=[b3' p1]) rfl fun b2 u2=>Za (Z02 (s:=(Z6 p2 [])) rfl fun b3 u3=>Za (Zu fun b4 u4=>Z2<|Z0<|oH h fun y1 f1 h=>oH h fun y2 f2 h=>Zv<|Zdc rfl<|Zdc rfl<|Z0v _ (Z86 rfl .t3 rfl)<|Z1q (p:=[b3' p1]) rfl .t2 rfl<|Z0v _ (Z86 rfl .t3 rfl)<|Z1q (p:=(Z6 p2 [])) rfl .t1 rfl<|Z36 (Zov rfl rfl rfl (fun w hw=>Z0cx.2 w b3) ⟨sU,Z36 (Zk5 rfl rfl rfl (fun w hw=>Zln  f1 ) fun v8 o1 R1=>?_)⟩)))))
 obtain ⟨_,w1,rfl,rfl,O1⟩:=R1
 refine ⟨sU,Z88 _ (Z06 rfl (fun w hw=>Z5p f2 (hG.at hw (by simp)) ((Z0l O1 .here) w hw))) (Z0x _ (Z28 rfl) (Z16 rfl (Zm (q:=[.i p2.gSerial,.i p2.gRides,.i p2.gPrice,b3' p2.gAnchor,b6' y2]) rfl rfl rfl rfl rfl (.app .t1) (Z03 (Z0 (Z1 (Z0z (p:=[.i p2.gSerial,.i p2.gRides,.i p2.gPrice,b3' p2.gAnchor,b6' y2]) rfl (.app .t1) rfl (Za (Zm (q:=[.i p2.gSerial,.i p2.gRides,.i p2.gPrice,b3' p2.gAnchor,b6' y2]) rfl rfl rfl rfl rfl (.app .here) (Z2 (Zf ?_))))))))))) sU⟩
 cases h
 exact ⟨_,(.cons (.agg rfl (.app .here) rfl) .nil),rfl⟩
def Z9v (p0:LI) (p1:Z09):Option (Z09) :=
 opt (Zjd) fun y1 =>
 opt (Z4k p0 p1) fun y2 =>
 some y2
theorem Zld {W:World} {r:Z09} {p0:LI} {p1:Z09} (h:Z9v p0 p1=some r) (hG:Globs W) :
    Calls Tryz.prog 15 [agg [b3' p0],agg (Z6 p1 [])].toArray W (Z1w W (agg (Z6 r []))):=by
 unfold Z9v at h
 refine Z9 mo ok15 rfl ?_
 refine Z0<|Z1<|Za (Z02 (s:=[b3' p0]) rfl fun b1 u1=>Za (Z02 (s:=(Z6 p1 [])) rfl fun b2 u2=>Za (Zu fun b3 u3=>Z2<|Z0<|oH h fun y1 f1 h=>oH h fun y2 f2 h=>Zv<|Z1q (p:=[b3' p0]) rfl .t2 rfl<|Z1q (p:=(Z6 p1 [])) rfl .t1 rfl<|Z88 _ (q_cl rfl (Zpt f1)) (Z88 _ (Z06 rfl (fun w hw=>Zcf f2 (hG.at hw (by simp)))) (Z16 rfl (Zm (q:=(Z6 y2 [])) rfl rfl rfl rfl rfl .here (Z03 (Zf ?_)))) sU) sU)))
 cases h
 exact ⟨_,(.cons (.agg rfl .here rfl) .nil),rfl⟩
def Z3m (p1:LI) (p2:Z0e):Option (Z0e) :=
 opt (Zdz p2) fun y1 =>
 opt (Z80 p1 y1) fun y2 =>
 some (⟨p2.gCert,y2⟩:Z0e)
theorem Zbo {W:World} {r:Z0e} {p1:LI} {p2:Z0e} (h:Z3m p1 p2=some r) (hG:Globs W) :
    Calls Tryz.prog 54 [agg [.one (.func (.func 118) #[] #[]),.one (.func (.func 119) #[] #[]),.one (.func (.func 120) #[] #[]),.one (.func (.func 121) #[] #[])],agg [b3' p1],agg (Z6 p2.gCert [b6' p2.gSig])].toArray W (Z1w W (agg (Z6 r.gCert [b6' r.gSig]))):=by
 unfold Z3m at h
 refine Z9 mo ok54 rfl ?_
 refine Z0<|Z1<|Za (Z02 (s:=[.one (.func (.func 118) #[] #[]),.one (.func (.func 119) #[] #[]),.one (.func (.func 120) #[] #[]),.one (.func (.func 121) #[] #[])]) rfl fun b1 u1=>Za (Z02 (s:=[b3' p1]) rfl fun b2 u2=>Za (Z02 (s:=(Z6 p2.gCert [b6' p2.gSig])) rfl fun b3 u3=>Za (Zu fun b4 u4=>Z2<|Z0<|oH h fun y1 f1 h=>oH h fun y2 f2 h=>Zv<|Zdc rfl<|Zdc rfl<|Z0v _ (Z86 rfl .t3 rfl)<|Z1q (p:=[b3' p1]) rfl .t2 rfl<|Z0v _ (Z86 rfl .t3 rfl)<|Z1q (p:=(Z6 p2.gCert [b6' p2.gSig])) rfl .t1 (by kernel_rfl)<|Z36 (Zov rfl rfl rfl (fun w hw=>Z07r.2 w b3) ⟨sU,Z36 (Zk5 rfl rfl rfl (fun w hw=>Zjp  f1 ) fun v8 o1 R1=>?_)⟩)))))
 obtain ⟨_,w1,rfl,rfl,O1⟩:=R1
 refine ⟨sU,Z88 _ (Z06 rfl (fun w hw=>Z5p f2 (hG.at hw (by simp)) ((Z0l O1 .here) w hw))) (Z0x _ (Z28 rfl) (Z16 rfl (Zm (p:=[b6' y2]) (q:=(Z6 p2.gCert [b6' y2])) rfl rfl (by kernel_rfl) (by kernel_rfl) (by kernel_rfl) (.app .t1) (Z03 (Z0 (Z1 (Z0z (p:=(Z6 p2.gCert [b6' y2])) rfl (.app .t1) (by kernel_rfl) (Za (Zm (p:=(Z6 p2.gCert [b6' y2])) (q:=(Z6 p2.gCert [b6' y2])) rfl rfl (by kernel_rfl) (by kernel_rfl) (by kernel_rfl) (.app .here) (Z2 (Zf ?_))))))))))) sU⟩
 cases h
 exact ⟨_,(.cons (.agg rfl (.app .here) rfl) .nil),rfl⟩
def Z7n (p0:LI) (p1:Z0e):Option (Z0e) :=
 opt (Zef) fun y1 =>
 opt (Z3m p0 p1) fun y2 =>
 some y2
theorem Zjn {W:World} {r:Z0e} {p0:LI} {p1:Z0e} (h:Z7n p0 p1=some r) (hG:Globs W) :
    Calls Tryz.prog 17 [agg [b3' p0],agg (Z6 p1.gCert [b6' p1.gSig])].toArray W (Z1w W (agg (Z6 r.gCert [b6' r.gSig]))):=by
 unfold Z7n at h
 refine Z9 mo ok17 rfl ?_
 refine Z0<|Z1<|Za (Z02 (s:=[b3' p0]) rfl fun b1 u1=>Za (Z02 (s:=(Z6 p1.gCert [b6' p1.gSig])) rfl fun b2 u2=>Za (Zu fun b3 u3=>Z2<|Z0<|oH h fun y1 f1 h=>oH h fun y2 f2 h=>Zv<|Z1q (p:=[b3' p0]) rfl .t2 rfl<|Z1q (p:=(Z6 p1.gCert [b6' p1.gSig])) rfl .t1 (by kernel_rfl)<|Z88 _ (q_cl rfl (Zmh f1)) (Z88 _ (Z06 rfl (fun w hw=>Zbo f2 (hG.at hw (by simp)))) (Z16 rfl (Zm (p:=(Z6 y2.gCert [b6' y2.gSig])) (q:=(Z6 y2.gCert [b6' y2.gSig])) rfl rfl (by kernel_rfl) (by kernel_rfl) (by kernel_rfl) .here (Z03 (Zf ?_)))) sU) sU)))
 cases h
 exact ⟨_,(.cons (.agg rfl .here rfl) .nil),rfl⟩
def Z55 (p1:LI) (p2:Z0r):Option (Z0r) :=
 opt (Ziu p2) fun y1 =>
 opt (Z80 p1 y1) fun y2 =>
 some (⟨p2.gSerial,p2.gGate,p2.gIndex,p2.gValue,y2⟩:Z0r)
theorem Zdq {W:World} {r:Z0r} {p1:LI} {p2:Z0r} (h:Z55 p1 p2=some r) (hG:Globs W) :
    Calls Tryz.prog 57 [agg [.one (.func (.func 123) #[] #[]),.one (.func (.func 124) #[] #[]),.one (.func (.func 125) #[] #[]),.one (.func (.func 126) #[] #[])],agg [b3' p1],agg (Z0d p2 [])].toArray W (Z1w W (agg (Z0d r []))):=by
 unfold Z55 at h
 refine Z9 mo ok57 rfl ?_
 refine Z0<|Z1<|Za (Z02 (s:=[.one (.func (.func 123) #[] #[]),.one (.func (.func 124) #[] #[]),.one (.func (.func 125) #[] #[]),.one (.func (.func 126) #[] #[])]) rfl fun b1 u1=>Za (Z02 (s:=[b3' p1]) rfl fun b2 u2=>Za (Z02 (s:=(Z0d p2 [])) rfl fun b3 u3=>Za (Zu fun b4 u4=>Z2<|Z0<|oH h fun y1 f1 h=>oH h fun y2 f2 h=>Zv<|Zdc rfl<|Zdc rfl<|Z0v _ (Z86 rfl .t3 rfl)<|Z1q (p:=[b3' p1]) rfl .t2 rfl<|Z0v _ (Z86 rfl .t3 rfl)<|Z1q (p:=(Z0d p2 [])) rfl .t1 rfl<|Z36 (Zov rfl rfl rfl (fun w hw=>Z07s.2 w b3) ⟨sU,Z36 (Zk5 rfl rfl rfl (fun w hw=>Zmp  f1 ) fun v8 o1 R1=>?_)⟩)))))
 obtain ⟨_,w1,rfl,rfl,O1⟩:=R1
 refine ⟨sU,Z88 _ (Z06 rfl (fun w hw=>Z5p f2 (hG.at hw (by simp)) ((Z0l O1 .here) w hw))) (Z0x _ (Z28 rfl) (Z16 rfl (Zm (q:=[.i p2.gSerial,.i p2.gGate,.i p2.gIndex,b3' p2.gValue,b6' y2]) rfl rfl rfl rfl rfl (.app .t1) (Z03 (Z0 (Z1 (Z0z (p:=[.i p2.gSerial,.i p2.gGate,.i p2.gIndex,b3' p2.gValue,b6' y2]) rfl (.app .t1) rfl (Za (Zm (q:=[.i p2.gSerial,.i p2.gGate,.i p2.gIndex,b3' p2.gValue,b6' y2]) rfl rfl rfl rfl rfl (.app .here) (Z2 (Zf ?_))))))))))) sU⟩
 cases h
 exact ⟨_,(.cons (.agg rfl (.app .here) rfl) .nil),rfl⟩
def Zbn (p0:LI) (p1:Z0r):Option (Z0r) :=
 opt (Zlf) fun y1 =>
 opt (Z55 p0 p1) fun y2 =>
 some y2
theorem Zmg {W:World} {r:Z0r} {p0:LI} {p1:Z0r} (h:Zbn p0 p1=some r) (hG:Globs W) :
    Calls Tryz.prog 19 [agg [b3' p0],agg (Z0d p1 [])].toArray W (Z1w W (agg (Z0d r []))):=by
 unfold Zbn at h
 refine Z9 mo ok19 rfl ?_
 refine Z0<|Z1<|Za (Z02 (s:=[b3' p0]) rfl fun b1 u1=>Za (Z02 (s:=(Z0d p1 [])) rfl fun b2 u2=>Za (Zu fun b3 u3=>Z2<|Z0<|oH h fun y1 f1 h=>oH h fun y2 f2 h=>Zv<|Z1q (p:=[b3' p0]) rfl .t2 rfl<|Z1q (p:=(Z0d p1 [])) rfl .t1 rfl<|Z88 _ (q_cl rfl (Zqu f1)) (Z88 _ (Z06 rfl (fun w hw=>Zdq f2 (hG.at hw (by simp)))) (Z16 rfl (Zm (q:=(Z0d y2 [])) rfl rfl rfl rfl rfl .here (Z03 (Zf ?_)))) sU) sU)))
 cases h
 exact ⟨_,(.cons (.agg rfl .here rfl) .nil),rfl⟩
def Z2j (p1:LI) (p2:Zs):Option (Zs) :=
 opt (Z8z p2) fun y1 =>
 opt (Z80 p1 y1) fun y2 =>
 some (⟨p2.gCert,y2⟩:Zs)
theorem Z9j {W:World} {r:Zs} {p1:LI} {p2:Zs} (h:Z2j p1 p2=some r) (hG:Globs W) :
    Calls Tryz.prog 60 [agg [.one (.func (.func 129) #[] #[]),.one (.func (.func 130) #[] #[]),.one (.func (.func 131) #[] #[]),.one (.func (.func 132) #[] #[])],agg [b3' p1],agg (Z6 p2.gCert [b6' p2.gSig])].toArray W (Z1w W (agg (Z6 r.gCert [b6' r.gSig]))):=by
 unfold Z2j at h
 refine Z9 mo ok60 rfl ?_
 refine Z0<|Z1<|Za (Z02 (s:=[.one (.func (.func 129) #[] #[]),.one (.func (.func 130) #[] #[]),.one (.func (.func 131) #[] #[]),.one (.func (.func 132) #[] #[])]) rfl fun b1 u1=>Za (Z02 (s:=[b3' p1]) rfl fun b2 u2=>Za (Z02 (s:=(Z6 p2.gCert [b6' p2.gSig])) rfl fun b3 u3=>Za (Zu fun b4 u4=>Z2<|Z0<|oH h fun y1 f1 h=>oH h fun y2 f2 h=>Zv<|Zdc rfl<|Zdc rfl<|Z0v _ (Z86 rfl .t3 rfl)<|Z1q (p:=[b3' p1]) rfl .t2 rfl<|Z0v _ (Z86 rfl .t3 rfl)<|Z1q (p:=(Z6 p2.gCert [b6' p2.gSig])) rfl .t1 (by kernel_rfl)<|Z36 (Zov rfl rfl rfl (fun w hw=>Z07t.2 w b3) ⟨sU,Z36 (Zk5 rfl rfl rfl (fun w hw=>Zg7  f1 ) fun v8 o1 R1=>?_)⟩)))))
 obtain ⟨_,w1,rfl,rfl,O1⟩:=R1
 refine ⟨sU,Z88 _ (Z06 rfl (fun w hw=>Z5p f2 (hG.at hw (by simp)) ((Z0l O1 .here) w hw))) (Z0x _ (Z28 rfl) (Z16 rfl (Zm (p:=[b6' y2]) (q:=(Z6 p2.gCert [b6' y2])) rfl rfl (by kernel_rfl) (by kernel_rfl) (by kernel_rfl) (.app .t1) (Z03 (Z0 (Z1 (Z0z (p:=(Z6 p2.gCert [b6' y2])) rfl (.app .t1) (by kernel_rfl) (Za (Zm (p:=(Z6 p2.gCert [b6' y2])) (q:=(Z6 p2.gCert [b6' y2])) rfl rfl (by kernel_rfl) (by kernel_rfl) (by kernel_rfl) (.app .here) (Z2 (Zf ?_))))))))))) sU⟩
 cases h
 exact ⟨_,(.cons (.agg rfl (.app .here) rfl) .nil),rfl⟩
def Z4z (p0:LI) (p1:Zs):Option (Zs) :=
 opt (Z8s) fun y1 =>
 opt (Z2j p0 p1) fun y2 =>
 some y2
theorem Zfx {W:World} {r:Zs} {p0:LI} {p1:Zs} (h:Z4z p0 p1=some r) (hG:Globs W) :
    Calls Tryz.prog 21 [agg [b3' p0],agg (Z6 p1.gCert [b6' p1.gSig])].toArray W (Z1w W (agg (Z6 r.gCert [b6' r.gSig]))):=by
 unfold Z4z at h
 refine Z9 mo ok21 rfl ?_
 refine Z0<|Z1<|Za (Z02 (s:=[b3' p0]) rfl fun b1 u1=>Za (Z02 (s:=(Z6 p1.gCert [b6' p1.gSig])) rfl fun b2 u2=>Za (Zu fun b3 u3=>Z2<|Z0<|oH h fun y1 f1 h=>oH h fun y2 f2 h=>Zv<|Z1q (p:=[b3' p0]) rfl .t2 rfl<|Z1q (p:=(Z6 p1.gCert [b6' p1.gSig])) rfl .t1 (by kernel_rfl)<|Z88 _ (q_cl rfl (Zil f1)) (Z88 _ (Z06 rfl (fun w hw=>Z9j f2 (hG.at hw (by simp)))) (Z16 rfl (Zm (p:=(Z6 y2.gCert [b6' y2.gSig])) (q:=(Z6 y2.gCert [b6' y2.gSig])) rfl rfl (by kernel_rfl) (by kernel_rfl) (by kernel_rfl) .here (Z03 (Zf ?_)))) sU) sU)))
 cases h
 exact ⟨_,(.cons (.agg rfl .here rfl) .nil),rfl⟩
def Z49 (p1:LI) (p2:Z0h):Option (Z0h) :=
 opt (Zf0 p2) fun y1 =>
 opt (Z80 p1 y1) fun y2 =>
 some (⟨p2.gFloor,y2⟩:Z0h)
theorem Zby {W:World} {r:Z0h} {p1:LI} {p2:Z0h} (h:Z49 p1 p2=some r) (hG:Globs W) :
    Calls Tryz.prog 63 [agg [.one (.func (.func 134) #[] #[]),.one (.func (.func 135) #[] #[]),.one (.func (.func 136) #[] #[]),.one (.func (.func 137) #[] #[])],agg [b3' p1],agg (Z04 p2 [])].toArray W (Z1w W (agg (Z04 r []))):=by
 unfold Z49 at h
 refine Z9 mo ok63 rfl ?_
 refine Z0<|Z1<|Za (Z02 (s:=[.one (.func (.func 134) #[] #[]),.one (.func (.func 135) #[] #[]),.one (.func (.func 136) #[] #[]),.one (.func (.func 137) #[] #[])]) rfl fun b1 u1=>Za (Z02 (s:=[b3' p1]) rfl fun b2 u2=>Za (Z02 (s:=(Z04 p2 [])) rfl fun b3 u3=>Za (Zu fun b4 u4=>Z2<|Z0<|oH h fun y1 f1 h=>oH h fun y2 f2 h=>Zv<|Zdc rfl<|Zdc rfl<|Z0v _ (Z86 rfl .t3 rfl)<|Z1q (p:=[b3' p1]) rfl .t2 rfl<|Z0v _ (Z86 rfl .t3 rfl)<|Z1q (p:=(Z04 p2 [])) rfl .t1 rfl<|Z36 (Zov rfl rfl rfl (fun w hw=>Z07u.2 w b3) ⟨sU,Z36 (Zk5 rfl rfl rfl (fun w hw=>Zkn  f1 ) fun v8 o1 R1=>?_)⟩)))))
 obtain ⟨_,w1,rfl,rfl,O1⟩:=R1
 refine ⟨sU,Z88 _ (Z06 rfl (fun w hw=>Z5p f2 (hG.at hw (by simp)) ((Z0l O1 .here) w hw))) (Z0x _ (Z28 rfl) (Z16 rfl (Zm (q:=[.i p2.gFloor,b6' y2]) rfl rfl rfl rfl rfl (.app .t1) (Z03 (Z0 (Z1 (Z0z (p:=[.i p2.gFloor,b6' y2]) rfl (.app .t1) rfl (Za (Zm (q:=[.i p2.gFloor,b6' y2]) rfl rfl rfl rfl rfl (.app .here) (Z2 (Zf ?_))))))))))) sU⟩
 cases h
 exact ⟨_,(.cons (.agg rfl (.app .here) rfl) .nil),rfl⟩
def Z8n (p0:LI) (p1:Z0h):Option (Z0h) :=
 opt (Zgn) fun y1 =>
 opt (Z49 p0 p1) fun y2 =>
 some y2
theorem Zkh {W:World} {r:Z0h} {p0:LI} {p1:Z0h} (h:Z8n p0 p1=some r) (hG:Globs W) :
    Calls Tryz.prog 23 [agg [b3' p0],agg (Z04 p1 [])].toArray W (Z1w W (agg (Z04 r []))):=by
 unfold Z8n at h
 refine Z9 mo ok23 rfl ?_
 refine Z0<|Z1<|Za (Z02 (s:=[b3' p0]) rfl fun b1 u1=>Za (Z02 (s:=(Z04 p1 [])) rfl fun b2 u2=>Za (Zu fun b3 u3=>Z2<|Z0<|oH h fun y1 f1 h=>oH h fun y2 f2 h=>Zv<|Z1q (p:=[b3' p0]) rfl .t2 rfl<|Z1q (p:=(Z04 p1 [])) rfl .t1 rfl<|Z88 _ (q_cl rfl (Znp f1)) (Z88 _ (Z06 rfl (fun w hw=>Zby f2 (hG.at hw (by simp)))) (Z16 rfl (Zm (q:=(Z04 y2 [])) rfl rfl rfl rfl rfl .here (Z03 (Zf ?_)))) sU) sU)))
 cases h
 exact ⟨_,(.cons (.agg rfl .here rfl) .nil),rfl⟩
def Z3a (p1:LI) (p2:Zw):Option (Zw) :=
 opt (Zc1 p2) fun y1 =>
 opt (Z80 p1 y1) fun y2 =>
 some (⟨p2.gSerial,p2.gRides,p2.gAmount,y2⟩:Zw)
theorem Zaj {W:World} {r:Zw} {p1:LI} {p2:Zw} (h:Z3a p1 p2=some r) (hG:Globs W) :
    Calls Tryz.prog 66 [agg [.one (.func (.func 139) #[] #[]),.one (.func (.func 140) #[] #[]),.one (.func (.func 141) #[] #[]),.one (.func (.func 142) #[] #[])],agg [b3' p1],agg (Zt p2 [])].toArray W (Z1w W (agg (Zt r []))):=by
 unfold Z3a at h
 refine Z9 mo ok66 rfl ?_
 refine Z0<|Z1<|Za (Z02 (s:=[.one (.func (.func 139) #[] #[]),.one (.func (.func 140) #[] #[]),.one (.func (.func 141) #[] #[]),.one (.func (.func 142) #[] #[])]) rfl fun b1 u1=>Za (Z02 (s:=[b3' p1]) rfl fun b2 u2=>Za (Z02 (s:=(Zt p2 [])) rfl fun b3 u3=>Za (Zu fun b4 u4=>Z2<|Z0<|oH h fun y1 f1 h=>oH h fun y2 f2 h=>Zv<|Zdc rfl<|Zdc rfl<|Z0v _ (Z86 rfl .t3 rfl)<|Z1q (p:=[b3' p1]) rfl .t2 rfl<|Z0v _ (Z86 rfl .t3 rfl)<|Z1q (p:=(Zt p2 [])) rfl .t1 rfl<|Z36 (Zov rfl rfl rfl (fun w hw=>Z07v.2 w b3) ⟨sU,Z36 (Zk5 rfl rfl rfl (fun w hw=>Ziv  f1 ) fun v8 o1 R1=>?_)⟩)))))
 obtain ⟨_,w1,rfl,rfl,O1⟩:=R1
 refine ⟨sU,Z88 _ (Z06 rfl (fun w hw=>Z5p f2 (hG.at hw (by simp)) ((Z0l O1 .here) w hw))) (Z0x _ (Z28 rfl) (Z16 rfl (Zm (q:=[.i p2.gSerial,.i p2.gRides,.i p2.gAmount,b6' y2]) rfl rfl rfl rfl rfl (.app .t1) (Z03 (Z0 (Z1 (Z0z (p:=[.i p2.gSerial,.i p2.gRides,.i p2.gAmount,b6' y2]) rfl (.app .t1) rfl (Za (Zm (q:=[.i p2.gSerial,.i p2.gRides,.i p2.gAmount,b6' y2]) rfl rfl rfl rfl rfl (.app .here) (Z2 (Zf ?_))))))))))) sU⟩
 cases h
 exact ⟨_,(.cons (.agg rfl (.app .here) rfl) .nil),rfl⟩
def Z6o (p0:LI) (p1:Zw):Option (Zw) :=
 opt (Zch) fun y1 =>
 opt (Z3a p0 p1) fun y2 =>
 some y2
theorem Zik {W:World} {r:Zw} {p0:LI} {p1:Zw} (h:Z6o p0 p1=some r) (hG:Globs W) :
    Calls Tryz.prog 25 [agg [b3' p0],agg (Zt p1 [])].toArray W (Z1w W (agg (Zt r []))):=by
 unfold Z6o at h
 refine Z9 mo ok25 rfl ?_
 refine Z0<|Z1<|Za (Z02 (s:=[b3' p0]) rfl fun b1 u1=>Za (Z02 (s:=(Zt p1 [])) rfl fun b2 u2=>Za (Zu fun b3 u3=>Z2<|Z0<|oH h fun y1 f1 h=>oH h fun y2 f2 h=>Zv<|Z1q (p:=[b3' p0]) rfl .t2 rfl<|Z1q (p:=(Zt p1 [])) rfl .t1 rfl<|Z88 _ (q_cl rfl (Zlg f1)) (Z88 _ (Z06 rfl (fun w hw=>Zaj f2 (hG.at hw (by simp)))) (Z16 rfl (Zm (q:=(Zt y2 [])) rfl rfl rfl rfl rfl .here (Z03 (Zf ?_)))) sU) sU)))
 cases h
 exact ⟨_,(.cons (.agg rfl .here rfl) .nil),rfl⟩
def Z4l (p1:LI) (p2:Z0n):Option (Z0n) :=
 opt (Zgw p2) fun y1 =>
 opt (Z80 p1 y1) fun y2 =>
 some (⟨p2.gSize,p2.gRoot,y2⟩:Z0n)
theorem Zcg {W:World} {r:Z0n} {p1:LI} {p2:Z0n} (h:Z4l p1 p2=some r) (hG:Globs W) :
    Calls Tryz.prog 69 [agg [.one (.func (.func 145) #[] #[]),.one (.func (.func 146) #[] #[]),.one (.func (.func 147) #[] #[]),.one (.func (.func 148) #[] #[])],agg [b3' p1],agg (Z0a p2 [])].toArray W (Z1w W (agg (Z0a r []))):=by
 unfold Z4l at h
 refine Z9 mo ok69 rfl ?_
 refine Z0<|Z1<|Za (Z02 (s:=[.one (.func (.func 145) #[] #[]),.one (.func (.func 146) #[] #[]),.one (.func (.func 147) #[] #[]),.one (.func (.func 148) #[] #[])]) rfl fun b1 u1=>Za (Z02 (s:=[b3' p1]) rfl fun b2 u2=>Za (Z02 (s:=(Z0a p2 [])) rfl fun b3 u3=>Za (Zu fun b4 u4=>Z2<|Z0<|oH h fun y1 f1 h=>oH h fun y2 f2 h=>Zv<|Zdc rfl<|Zdc rfl<|Z0v _ (Z86 rfl .t3 rfl)<|Z1q (p:=[b3' p1]) rfl .t2 rfl<|Z0v _ (Z86 rfl .t3 rfl)<|Z1q (p:=(Z0a p2 [])) rfl .t1 rfl<|Z36 (Zov rfl rfl rfl (fun w hw=>Z07w.2 w b3) ⟨sU,Z36 (Zk5 rfl rfl rfl (fun w hw=>Zlo  f1 ) fun v8 o1 R1=>?_)⟩)))))
 obtain ⟨_,w1,rfl,rfl,O1⟩:=R1
 refine ⟨sU,Z88 _ (Z06 rfl (fun w hw=>Z5p f2 (hG.at hw (by simp)) ((Z0l O1 .here) w hw))) (Z0x _ (Z28 rfl) (Z16 rfl (Zm (q:=[.i p2.gSize,b3' p2.gRoot,b6' y2]) rfl rfl rfl rfl rfl (.app .t1) (Z03 (Z0 (Z1 (Z0z (p:=[.i p2.gSize,b3' p2.gRoot,b6' y2]) rfl (.app .t1) rfl (Za (Zm (q:=[.i p2.gSize,b3' p2.gRoot,b6' y2]) rfl rfl rfl rfl rfl (.app .here) (Z2 (Zf ?_))))))))))) sU⟩
 cases h
 exact ⟨_,(.cons (.agg rfl (.app .here) rfl) .nil),rfl⟩
def Z9w (p0:LI) (p1:Z0n):Option (Z0n) :=
 opt (Zje) fun y1 =>
 opt (Z4l p0 p1) fun y2 =>
 some y2
theorem Zle {W:World} {r:Z0n} {p0:LI} {p1:Z0n} (h:Z9w p0 p1=some r) (hG:Globs W) :
    Calls Tryz.prog 27 [agg [b3' p0],agg (Z0a p1 [])].toArray W (Z1w W (agg (Z0a r []))):=by
 unfold Z9w at h
 refine Z9 mo ok27 rfl ?_
 refine Z0<|Z1<|Za (Z02 (s:=[b3' p0]) rfl fun b1 u1=>Za (Z02 (s:=(Z0a p1 [])) rfl fun b2 u2=>Za (Zu fun b3 u3=>Z2<|Z0<|oH h fun y1 f1 h=>oH h fun y2 f2 h=>Zv<|Z1q (p:=[b3' p0]) rfl .t2 rfl<|Z1q (p:=(Z0a p1 [])) rfl .t1 rfl<|Z88 _ (q_cl rfl (Zpu f1)) (Z88 _ (Z06 rfl (fun w hw=>Zcg f2 (hG.at hw (by simp)))) (Z16 rfl (Zm (q:=(Z0a y2 [])) rfl rfl rfl rfl rfl .here (Z03 (Zf ?_)))) sU) sU)))
 cases h
 exact ⟨_,(.cons (.agg rfl .here rfl) .nil),rfl⟩
structure Zc where
  gKind:Int
  gCert:Z09
  gFreeze:Z0e
  gAck:Z0r
  gRevocation:Zs
  gFloor:Z0h
  gReceipt:Zw
  gHead:Z0n
abbrev Zh (x:Zc) (r:List Seg):List Seg:=.i x.gKind :: .i x.gCert.gSerial :: .i x.gCert.gRides :: .i x.gCert.gPrice :: b3' x.gCert.gAnchor :: b6' x.gCert.gSig :: .i x.gFreeze.gCert.gSerial :: .i x.gFreeze.gCert.gRides :: .i x.gFreeze.gCert.gPrice :: b3' x.gFreeze.gCert.gAnchor :: b6' x.gFreeze.gCert.gSig :: b6' x.gFreeze.gSig :: .i x.gAck.gSerial :: .i x.gAck.gGate :: .i x.gAck.gIndex :: b3' x.gAck.gValue :: b6' x.gAck.gSig :: .i x.gRevocation.gCert.gSerial :: .i x.gRevocation.gCert.gRides :: .i x.gRevocation.gCert.gPrice :: b3' x.gRevocation.gCert.gAnchor :: b6' x.gRevocation.gCert.gSig :: b6' x.gRevocation.gSig :: .i x.gFloor.gFloor :: b6' x.gFloor.gSig :: .i x.gReceipt.gSerial :: .i x.gReceipt.gRides :: .i x.gReceipt.gAmount :: b6' x.gReceipt.gSig :: .i x.gHead.gSize :: b3' x.gHead.gRoot :: b6' x.gHead.gSig::r
def Z4t (p0:LI) (p1:Zc):Option (Zc×Zc) :=
 jn (fun (x1:Zc) (x2:Zc)=>jn (fun (x3:Zc) (x4:Zc)=>some (x3,x4)) fun k1=>k1 x1 x2) fun k2=>br ((p1.gKind==1)) (
 opt (Z9v p0 p1.gCert) fun y1 =>
 opt (Z3t p0 p1.gCert) fun y2 =>
 k2 (⟨p1.gKind,y1,p1.gFreeze,p1.gAck,p1.gRevocation,p1.gFloor,p1.gReceipt,p1.gHead⟩:Zc) (⟨p1.gKind,y2,p1.gFreeze,p1.gAck,p1.gRevocation,p1.gFloor,p1.gReceipt,p1.gHead⟩:Zc)
 ) (
 br ((p1.gKind==2)) (
 opt (Z7n p0 p1.gFreeze) fun y3 =>
 opt (Z2z p0 p1.gFreeze) fun y4 =>
 k2 (⟨p1.gKind,p1.gCert,y3,p1.gAck,p1.gRevocation,p1.gFloor,p1.gReceipt,p1.gHead⟩:Zc) (⟨p1.gKind,p1.gCert,y4,p1.gAck,p1.gRevocation,p1.gFloor,p1.gReceipt,p1.gHead⟩:Zc)
 ) (
 br ((p1.gKind==3)) (
 opt (Zbn p0 p1.gAck) fun y5 =>
 opt (Z4i p0 p1.gAck) fun y6 =>
 k2 (⟨p1.gKind,p1.gCert,p1.gFreeze,y5,p1.gRevocation,p1.gFloor,p1.gReceipt,p1.gHead⟩:Zc) (⟨p1.gKind,p1.gCert,p1.gFreeze,y6,p1.gRevocation,p1.gFloor,p1.gReceipt,p1.gHead⟩:Zc)
 ) (
 br ((p1.gKind==4)) (
 opt (Z4z p0 p1.gRevocation) fun y7 =>
 opt (Z22 p0 p1.gRevocation) fun y8 =>
 k2 (⟨p1.gKind,p1.gCert,p1.gFreeze,p1.gAck,y7,p1.gFloor,p1.gReceipt,p1.gHead⟩:Zc) (⟨p1.gKind,p1.gCert,p1.gFreeze,p1.gAck,y8,p1.gFloor,p1.gReceipt,p1.gHead⟩:Zc)
 ) (
 br ((p1.gKind==5)) (
 opt (Z8n p0 p1.gFloor) fun y9 =>
 opt (Z3g p0 p1.gFloor) fun y10 =>
 k2 (⟨p1.gKind,p1.gCert,p1.gFreeze,p1.gAck,p1.gRevocation,y9,p1.gReceipt,p1.gHead⟩:Zc) (⟨p1.gKind,p1.gCert,p1.gFreeze,p1.gAck,p1.gRevocation,y10,p1.gReceipt,p1.gHead⟩:Zc)
 ) (
 br ((p1.gKind==6)) (
 opt (Z6o p0 p1.gReceipt) fun y11 =>
 opt (Z2q p0 p1.gReceipt) fun y12 =>
 k2 (⟨p1.gKind,p1.gCert,p1.gFreeze,p1.gAck,p1.gRevocation,p1.gFloor,y11,p1.gHead⟩:Zc) (⟨p1.gKind,p1.gCert,p1.gFreeze,p1.gAck,p1.gRevocation,p1.gFloor,y12,p1.gHead⟩:Zc)
 ) (
 br ((p1.gKind==7)) (
 opt (Z9w p0 p1.gHead) fun y13 =>
 opt (Z3u p0 p1.gHead) fun y14 =>
 k2 (⟨p1.gKind,p1.gCert,p1.gFreeze,p1.gAck,p1.gRevocation,p1.gFloor,p1.gReceipt,y13⟩:Zc) (⟨p1.gKind,p1.gCert,p1.gFreeze,p1.gAck,p1.gRevocation,p1.gFloor,p1.gReceipt,y14⟩:Zc)
 ) (
 k2 p1 p1
 )
 )
 )
 )
 )
 )
 )
theorem Zfd {W:World} {r:Zc×Zc} {p0:LI} {p1:Zc} (h:Z4t p0 p1=some r) (hG:Globs W) :
    Calls Tryz.prog 6 [agg [b3' p0],agg (Zh p1 [])].toArray W (Z1w W (.tuple #[agg (Zh r.1 []),agg (Zh r.2 [])])):=by
 unfold Z4t at h
 refine Z9 mo ok6 rfl ?_
 refine Z0<|Z1<|Za (Z02 (s:=[b3' p0]) rfl fun b1 u1=>Za (Z02 (s:=(Zh p1 [])) rfl fun b2 u2=>Za (Zu fun b3 u3=>Za (Zu fun b4 u4=>Z2<|Z0<|Z1<|Z0z (p:=(Zh p1 [])) rfl .t2 (by kernel_rfl)<|Za (Zu fun b5 u5=>Za (Zm (p:=(Zh p1 [])) (q:=(Zh p1 [])) rfl rfl (by kernel_rfl) (by kernel_rfl) (by kernel_rfl) .here<|Z2<|Z0<|Z0<|Z1<|Z4c rfl<|Zky rfl .t3 rfl<|Z2<|jH h fun k1 q1 h=>Zo (G:=fun t m=>∃ (x1:Zc) (x2:Zc),k1 x1 x2=some r/\Fit [(3,pt' b2),(4,pt' b3),(5,pt' b4),(6,pt' b5)] (ck b5 40 (Zh x2 [])::(ck b4 40 [.i 0,.i 0,.i 0,.i 0,b3' (replicate 32 0),b6' (replicate 64 0),.i 0,.i 0,.i 0,b3' (replicate 32 0),b6' (replicate 64 0),b6' (replicate 64 0),.i 0,.i 0,.i 0,b3' (replicate 32 0),b6' (replicate 64 0),.i 0,.i 0,.i 0,b3' (replicate 32 0),b6' (replicate 64 0),b6' (replicate 64 0),.i 0,b6' (replicate 64 0),.i 0,.i 0,.i 0,b6' (replicate 64 0),.i 0,b3' (replicate 32 0),b6' (replicate 64 0)]::(ck b3 40 [.i 0,.i 0,.i 0,.i 0,b3' (replicate 32 0),b6' (replicate 64 0),.i 0,.i 0,.i 0,b3' (replicate 32 0),b6' (replicate 64 0),b6' (replicate 64 0),.i 0,.i 0,.i 0,b3' (replicate 32 0),b6' (replicate 64 0),.i 0,.i 0,.i 0,b3' (replicate 32 0),b6' (replicate 64 0),b6' (replicate 64 0),.i 0,b6' (replicate 64 0),.i 0,.i 0,.i 0,b6' (replicate 64 0),.i 0,b3' (replicate 32 0),b6' (replicate 64 0)]::(ck b2 40 (Zh x1 [])::(ck b1 23 [b3' p0] :: []))))) t m) ?_ ?_))))))
 ·refine Zb<|Z0<|Z1<|j_c rfl<|Z7 rfl<|Z2<|Z0k h rfl (fun h=>?_) (fun h=>?_)
  ·exact Z0<|oH h fun y1 f1 h=>Z1<|Z0z (p:=[b3' p0]) rfl .t4 rfl<|Z4c rfl<|Z0z (p:=(Z6 p1.gCert [])) rfl .t3 (by kernel_rfl)<|Zq _ (Z06 rfl (fun w hw=>Zld f1 (hG.at hw (by simp))))<|Z4c rfl<|Za (Zm (p:=(Z6 y1 [])) (q:=(.i p1.gKind::(Z6 y1 (Z6 p1.gFreeze.gCert (b6' p1.gFreeze.gSig::(Z0d p1.gAck (Z6 p1.gRevocation.gCert (b6' p1.gRevocation.gSig::(Z04 p1.gFloor (Zt p1.gReceipt (Z0a p1.gHead []))))))))))) rfl rfl (by kernel_rfl) (by kernel_rfl) (by kernel_rfl) .t3<|Z2<|oH h fun y2 f2 h=>Z1<|Z0z (p:=[b3' p0]) rfl .t4 rfl<|Z4c rfl<|Z0z (p:=(Z6 p1.gCert [])) rfl .here (by kernel_rfl)<|Zq _ (Z06 rfl (fun w hw=>Ze3 f2 (hG.at hw (by simp))))<|Z4c rfl<|Za (Zm (p:=(Z6 y2 [])) (q:=(.i p1.gKind::(Z6 y2 (Z6 p1.gFreeze.gCert (b6' p1.gFreeze.gSig::(Z0d p1.gAck (Z6 p1.gRevocation.gCert (b6' p1.gRevocation.gSig::(Z04 p1.gFloor (Zt p1.gReceipt (Z0a p1.gHead []))))))))))) rfl rfl (by kernel_rfl) (by kernel_rfl) (by kernel_rfl) .here<|Z2<|⟨(⟨p1.gKind,y1,p1.gFreeze,p1.gAck,p1.gRevocation,p1.gFloor,p1.gReceipt,p1.gHead⟩:Zc),(⟨p1.gKind,y2,p1.gFreeze,p1.gAck,p1.gRevocation,p1.gFloor,p1.gReceipt,p1.gHead⟩:Zc),h,⟨⟨rfl,rfl,rfl,rfl,trivial⟩,(.o (.o (.o (.o (.o .nil)))))⟩⟩))
  ·refine Z0<|Z1<|j_c rfl<|Z7 rfl<|Z2<|Z0k h rfl (fun h=>?_) (fun h=>?_)
   ·exact Z0<|oH h fun y3 f3 h=>Z1<|Z0z (p:=[b3' p0]) rfl .t4 rfl<|Z4c rfl<|Z0z (p:=(Z6 p1.gFreeze.gCert [b6' p1.gFreeze.gSig])) rfl .t3 (by kernel_rfl)<|Zq _ (Z06 rfl (fun w hw=>Zjn f3 (hG.at hw (by simp))))<|Z4c rfl<|Za (Zm (p:=(Z6 y3.gCert [b6' y3.gSig])) (q:=(.i p1.gKind::(Z6 p1.gCert (Z6 y3.gCert (b6' y3.gSig::(Z0d p1.gAck (Z6 p1.gRevocation.gCert (b6' p1.gRevocation.gSig::(Z04 p1.gFloor (Zt p1.gReceipt (Z0a p1.gHead []))))))))))) rfl rfl (by kernel_rfl) (by kernel_rfl) (by kernel_rfl) .t3<|Z2<|oH h fun y4 f4 h=>Z1<|Z0z (p:=[b3' p0]) rfl .t4 rfl<|Z4c rfl<|Z0z (p:=(Z6 p1.gFreeze.gCert [b6' p1.gFreeze.gSig])) rfl .here (by kernel_rfl)<|Zq _ (Z06 rfl (fun w hw=>Zc8 f4 (hG.at hw (by simp))))<|Z4c rfl<|Za (Zm (p:=(Z6 y4.gCert [b6' y4.gSig])) (q:=(.i p1.gKind::(Z6 p1.gCert (Z6 y4.gCert (b6' y4.gSig::(Z0d p1.gAck (Z6 p1.gRevocation.gCert (b6' p1.gRevocation.gSig::(Z04 p1.gFloor (Zt p1.gReceipt (Z0a p1.gHead []))))))))))) rfl rfl (by kernel_rfl) (by kernel_rfl) (by kernel_rfl) .here<|Z2<|⟨(⟨p1.gKind,p1.gCert,y3,p1.gAck,p1.gRevocation,p1.gFloor,p1.gReceipt,p1.gHead⟩:Zc),(⟨p1.gKind,p1.gCert,y4,p1.gAck,p1.gRevocation,p1.gFloor,p1.gReceipt,p1.gHead⟩:Zc),h,⟨⟨rfl,rfl,rfl,rfl,trivial⟩,(.o (.o (.o (.o (.o .nil)))))⟩⟩))
   ·refine Z0<|Z1<|j_c rfl<|Z7 rfl<|Z2<|Z0k h rfl (fun h=>?_) (fun h=>?_)
    ·exact Z0<|oH h fun y5 f5 h=>Z1<|Z0z (p:=[b3' p0]) rfl .t4 rfl<|Z4c rfl<|Z0z (p:=(Z0d p1.gAck [])) rfl .t3 (by kernel_rfl)<|Zq _ (Z06 rfl (fun w hw=>Zmg f5 (hG.at hw (by simp))))<|Z4c rfl<|Za (Zm (p:=(Z0d y5 [])) (q:=(.i p1.gKind::(Z6 p1.gCert (Z6 p1.gFreeze.gCert (b6' p1.gFreeze.gSig::(Z0d y5 (Z6 p1.gRevocation.gCert (b6' p1.gRevocation.gSig::(Z04 p1.gFloor (Zt p1.gReceipt (Z0a p1.gHead []))))))))))) rfl rfl (by kernel_rfl) (by kernel_rfl) (by kernel_rfl) .t3<|Z2<|oH h fun y6 f6 h=>Z1<|Z0z (p:=[b3' p0]) rfl .t4 rfl<|Z4c rfl<|Z0z (p:=(Z0d p1.gAck [])) rfl .here (by kernel_rfl)<|Zq _ (Z06 rfl (fun w hw=>Zeq f6 (hG.at hw (by simp))))<|Z4c rfl<|Za (Zm (p:=(Z0d y6 [])) (q:=(.i p1.gKind::(Z6 p1.gCert (Z6 p1.gFreeze.gCert (b6' p1.gFreeze.gSig::(Z0d y6 (Z6 p1.gRevocation.gCert (b6' p1.gRevocation.gSig::(Z04 p1.gFloor (Zt p1.gReceipt (Z0a p1.gHead []))))))))))) rfl rfl (by kernel_rfl) (by kernel_rfl) (by kernel_rfl) .here<|Z2<|⟨(⟨p1.gKind,p1.gCert,p1.gFreeze,y5,p1.gRevocation,p1.gFloor,p1.gReceipt,p1.gHead⟩:Zc),(⟨p1.gKind,p1.gCert,p1.gFreeze,y6,p1.gRevocation,p1.gFloor,p1.gReceipt,p1.gHead⟩:Zc),h,⟨⟨rfl,rfl,rfl,rfl,trivial⟩,(.o (.o (.o (.o (.o .nil)))))⟩⟩))
    ·refine Z0<|Z1<|j_c rfl<|Z7 rfl<|Z2<|Z0k h rfl (fun h=>?_) (fun h=>?_)
     ·exact Z0<|oH h fun y7 f7 h=>Z1<|Z0z (p:=[b3' p0]) rfl .t4 rfl<|Z4c rfl<|Z0z (p:=(Z6 p1.gRevocation.gCert [b6' p1.gRevocation.gSig])) rfl .t3 (by kernel_rfl)<|Zq _ (Z06 rfl (fun w hw=>Zfx f7 (hG.at hw (by simp))))<|Z4c rfl<|Za (Zm (p:=(Z6 y7.gCert [b6' y7.gSig])) (q:=(.i p1.gKind::(Z6 p1.gCert (Z6 p1.gFreeze.gCert (b6' p1.gFreeze.gSig::(Z0d p1.gAck (Z6 y7.gCert (b6' y7.gSig::(Z04 p1.gFloor (Zt p1.gReceipt (Z0a p1.gHead []))))))))))) rfl rfl (by kernel_rfl) (by kernel_rfl) (by kernel_rfl) .t3<|Z2<|oH h fun y8 f8 h=>Z1<|Z0z (p:=[b3' p0]) rfl .t4 rfl<|Z4c rfl<|Z0z (p:=(Z6 p1.gRevocation.gCert [b6' p1.gRevocation.gSig])) rfl .here (by kernel_rfl)<|Zq _ (Z06 rfl (fun w hw=>Za2 f8 (hG.at hw (by simp))))<|Z4c rfl<|Za (Zm (p:=(Z6 y8.gCert [b6' y8.gSig])) (q:=(.i p1.gKind::(Z6 p1.gCert (Z6 p1.gFreeze.gCert (b6' p1.gFreeze.gSig::(Z0d p1.gAck (Z6 y8.gCert (b6' y8.gSig::(Z04 p1.gFloor (Zt p1.gReceipt (Z0a p1.gHead []))))))))))) rfl rfl (by kernel_rfl) (by kernel_rfl) (by kernel_rfl) .here<|Z2<|⟨(⟨p1.gKind,p1.gCert,p1.gFreeze,p1.gAck,y7,p1.gFloor,p1.gReceipt,p1.gHead⟩:Zc),(⟨p1.gKind,p1.gCert,p1.gFreeze,p1.gAck,y8,p1.gFloor,p1.gReceipt,p1.gHead⟩:Zc),h,⟨⟨rfl,rfl,rfl,rfl,trivial⟩,(.o (.o (.o (.o (.o .nil)))))⟩⟩))
     ·refine Z0<|Z1<|j_c rfl<|Z7 rfl<|Z2<|Z0k h rfl (fun h=>?_) (fun h=>?_)
      ·exact Z0<|oH h fun y9 f9 h=>Z1<|Z0z (p:=[b3' p0]) rfl .t4 rfl<|Z4c rfl<|Z0z (p:=(Z04 p1.gFloor [])) rfl .t3 (by kernel_rfl)<|Zq _ (Z06 rfl (fun w hw=>Zkh f9 (hG.at hw (by simp))))<|Z4c rfl<|Za (Zm (p:=(Z04 y9 [])) (q:=(.i p1.gKind::(Z6 p1.gCert (Z6 p1.gFreeze.gCert (b6' p1.gFreeze.gSig::(Z0d p1.gAck (Z6 p1.gRevocation.gCert (b6' p1.gRevocation.gSig::(Z04 y9 (Zt p1.gReceipt (Z0a p1.gHead []))))))))))) rfl rfl (by kernel_rfl) (by kernel_rfl) (by kernel_rfl) .t3<|Z2<|oH h fun y10 f10 h=>Z1<|Z0z (p:=[b3' p0]) rfl .t4 rfl<|Z4c rfl<|Z0z (p:=(Z04 p1.gFloor [])) rfl .here (by kernel_rfl)<|Zq _ (Z06 rfl (fun w hw=>Zd5 f10 (hG.at hw (by simp))))<|Z4c rfl<|Za (Zm (p:=(Z04 y10 [])) (q:=(.i p1.gKind::(Z6 p1.gCert (Z6 p1.gFreeze.gCert (b6' p1.gFreeze.gSig::(Z0d p1.gAck (Z6 p1.gRevocation.gCert (b6' p1.gRevocation.gSig::(Z04 y10 (Zt p1.gReceipt (Z0a p1.gHead []))))))))))) rfl rfl (by kernel_rfl) (by kernel_rfl) (by kernel_rfl) .here<|Z2<|⟨(⟨p1.gKind,p1.gCert,p1.gFreeze,p1.gAck,p1.gRevocation,y9,p1.gReceipt,p1.gHead⟩:Zc),(⟨p1.gKind,p1.gCert,p1.gFreeze,p1.gAck,p1.gRevocation,y10,p1.gReceipt,p1.gHead⟩:Zc),h,⟨⟨rfl,rfl,rfl,rfl,trivial⟩,(.o (.o (.o (.o (.o .nil)))))⟩⟩))
      ·refine Z0<|Z1<|j_c rfl<|Z7 rfl<|Z2<|Z0k h rfl (fun h=>?_) (fun h=>?_)
       ·exact Z0<|oH h fun y11 f11 h=>Z1<|Z0z (p:=[b3' p0]) rfl .t4 rfl<|Z4c rfl<|Z0z (p:=(Zt p1.gReceipt [])) rfl .t3 (by kernel_rfl)<|Zq _ (Z06 rfl (fun w hw=>Zik f11 (hG.at hw (by simp))))<|Z4c rfl<|Za (Zm (p:=(Zt y11 [])) (q:=(.i p1.gKind::(Z6 p1.gCert (Z6 p1.gFreeze.gCert (b6' p1.gFreeze.gSig::(Z0d p1.gAck (Z6 p1.gRevocation.gCert (b6' p1.gRevocation.gSig::(Z04 p1.gFloor (Zt y11 (Z0a p1.gHead []))))))))))) rfl rfl (by kernel_rfl) (by kernel_rfl) (by kernel_rfl) .t3<|Z2<|oH h fun y12 f12 h=>Z1<|Z0z (p:=[b3' p0]) rfl .t4 rfl<|Z4c rfl<|Z0z (p:=(Zt p1.gReceipt [])) rfl .here (by kernel_rfl)<|Zq _ (Z06 rfl (fun w hw=>Zbv f12 (hG.at hw (by simp))))<|Z4c rfl<|Za (Zm (p:=(Zt y12 [])) (q:=(.i p1.gKind::(Z6 p1.gCert (Z6 p1.gFreeze.gCert (b6' p1.gFreeze.gSig::(Z0d p1.gAck (Z6 p1.gRevocation.gCert (b6' p1.gRevocation.gSig::(Z04 p1.gFloor (Zt y12 (Z0a p1.gHead []))))))))))) rfl rfl (by kernel_rfl) (by kernel_rfl) (by kernel_rfl) .here<|Z2<|⟨(⟨p1.gKind,p1.gCert,p1.gFreeze,p1.gAck,p1.gRevocation,p1.gFloor,y11,p1.gHead⟩:Zc),(⟨p1.gKind,p1.gCert,p1.gFreeze,p1.gAck,p1.gRevocation,p1.gFloor,y12,p1.gHead⟩:Zc),h,⟨⟨rfl,rfl,rfl,rfl,trivial⟩,(.o (.o (.o (.o (.o .nil)))))⟩⟩))
       ·refine Z0<|Z1<|j_c rfl<|Z7 rfl<|Z2<|Z0k h rfl (fun h=>?_) (fun h=>?_)
        ·exact Z0<|oH h fun y13 f13 h=>Z1<|Z0z (p:=[b3' p0]) rfl .t4 rfl<|Z4c rfl<|Z0z (p:=(Z0a p1.gHead [])) rfl .t3 (by kernel_rfl)<|Zq _ (Z06 rfl (fun w hw=>Zle f13 (hG.at hw (by simp))))<|Z4c rfl<|Za (Zm (p:=(Z0a y13 [])) (q:=(.i p1.gKind::(Z6 p1.gCert (Z6 p1.gFreeze.gCert (b6' p1.gFreeze.gSig::(Z0d p1.gAck (Z6 p1.gRevocation.gCert (b6' p1.gRevocation.gSig::(Z04 p1.gFloor (Zt p1.gReceipt (Z0a y13 []))))))))))) rfl rfl (by kernel_rfl) (by kernel_rfl) (by kernel_rfl) .t3<|Z2<|oH h fun y14 f14 h=>Z1<|Z0z (p:=[b3' p0]) rfl .t4 rfl<|Z4c rfl<|Z0z (p:=(Z0a p1.gHead [])) rfl .here (by kernel_rfl)<|Zq _ (Z06 rfl (fun w hw=>Ze4 f14 (hG.at hw (by simp))))<|Z4c rfl<|Za (Zm (p:=(Z0a y14 [])) (q:=(.i p1.gKind::(Z6 p1.gCert (Z6 p1.gFreeze.gCert (b6' p1.gFreeze.gSig::(Z0d p1.gAck (Z6 p1.gRevocation.gCert (b6' p1.gRevocation.gSig::(Z04 p1.gFloor (Zt p1.gReceipt (Z0a y14 []))))))))))) rfl rfl (by kernel_rfl) (by kernel_rfl) (by kernel_rfl) .here<|Z2<|⟨(⟨p1.gKind,p1.gCert,p1.gFreeze,p1.gAck,p1.gRevocation,p1.gFloor,p1.gReceipt,y13⟩:Zc),(⟨p1.gKind,p1.gCert,p1.gFreeze,p1.gAck,p1.gRevocation,p1.gFloor,p1.gReceipt,y14⟩:Zc),h,⟨⟨rfl,rfl,rfl,rfl,trivial⟩,(.o (.o (.o (.o (.o .nil)))))⟩⟩))
        ·exact Zp<|⟨p1,p1,h,⟨⟨rfl,rfl,rfl,rfl,trivial⟩,(.o (.o (.o (.o (.o .nil)))))⟩⟩
 ·rintro t m ⟨x1,x2,h,hF⟩
  refine Zi hF ?_
  clear hF
  subst q1
  refine Z0<|jH h fun k2 q2 h=>Zo (G:=fun t m=>∃ (x3:Zc) (x4:Zc),k2 x3 x4=some r/\Fit [(4,pt' b3),(5,pt' b4)] (ck b5 40 (Zh x2 [])::(ck b4 40 (Zh x4 [])::(ck b3 40 (Zh x3 [])::(ck b2 40 (Zh x1 [])::(ck b1 23 [b3' p0] :: []))))) t m) ?_ ?_
  ·exact Z08c (m0:=(ck b5 40 (Zh x2 [])::(ck b2 40 (Zh x1 [])::(ck b1 23 [b3' p0] :: [])))) (.cons₂ _ (.cons _ (.cons _ (List.Sublist.refl _))))<|Z1q (p:=(Zh x1 [])) rfl .t1 (by kernel_rfl)<|Z1q (p:=(Zh x2 [])) rfl .here (by kernel_rfl)<|Z36 (Zm (p:=(Zh x1 [])) (q:=(Zh x1 [])) rfl rfl (by kernel_rfl) (by kernel_rfl) (by kernel_rfl) .t2 ⟨fun c h=>List.Sublist.subset (.cons₂ _ (.cons _ (.cons _ (List.Sublist.refl _)))) h,Z36 (Zm (p:=(Zh x2 [])) (q:=(Zh x2 [])) rfl rfl (by kernel_rfl) (by kernel_rfl) (by kernel_rfl) .t1 ⟨fun c h=>List.Sublist.subset (.cons₂ _ (.cons _ (.cons _ (List.Sublist.refl _)))) h,Z03 (⟨x1,x2,h,⟨⟨rfl,rfl,trivial⟩,(.o (.o (.o (.o (.o .nil)))))⟩⟩)⟩)⟩)
  ·rintro t m ⟨x3,x4,h,hF⟩
   refine Zi hF ?_
   clear hF
   subst q2
   refine Zf ?_
   cases h
   exact ⟨_,(.cons (.agg rfl .t2 rfl) (.cons (.agg rfl .t1 rfl) .nil)),rfl⟩
end Go.Proofs.YtkjfpenagcdmcaaGreatDoor
namespace Go.Proofs.YtkjfpenagcdmcaaGreatDoor
open Go Go.Sx Go.RowKit
set_option linter.all false
set_option maxHeartbeats 400000
set_option maxRecDepth 100000
def Z53 (p0:LI) (p1:Zc):Option Bool :=
 opt (Z4t p0 p1) fun y1 =>
 some ((y1.1.gKind==y1.2.gKind)&&((y1.1.gCert.gSerial==y1.2.gCert.gSerial)&&((y1.1.gCert.gRides==y1.2.gCert.gRides)&&((y1.1.gCert.gPrice==y1.2.gCert.gPrice)&&((ieq 32 y1.1.gCert.gAnchor y1.2.gCert.gAnchor)&&((ieq 64 y1.1.gCert.gSig y1.2.gCert.gSig)&&((y1.1.gFreeze.gCert.gSerial==y1.2.gFreeze.gCert.gSerial)&&((y1.1.gFreeze.gCert.gRides==y1.2.gFreeze.gCert.gRides)&&((y1.1.gFreeze.gCert.gPrice==y1.2.gFreeze.gCert.gPrice)&&((ieq 32 y1.1.gFreeze.gCert.gAnchor y1.2.gFreeze.gCert.gAnchor)&&((ieq 64 y1.1.gFreeze.gCert.gSig y1.2.gFreeze.gCert.gSig)&&((ieq 64 y1.1.gFreeze.gSig y1.2.gFreeze.gSig)&&((y1.1.gAck.gSerial==y1.2.gAck.gSerial)&&((y1.1.gAck.gGate==y1.2.gAck.gGate)&&((y1.1.gAck.gIndex==y1.2.gAck.gIndex)&&((ieq 32 y1.1.gAck.gValue y1.2.gAck.gValue)&&((ieq 64 y1.1.gAck.gSig y1.2.gAck.gSig)&&((y1.1.gRevocation.gCert.gSerial==y1.2.gRevocation.gCert.gSerial)&&((y1.1.gRevocation.gCert.gRides==y1.2.gRevocation.gCert.gRides)&&((y1.1.gRevocation.gCert.gPrice==y1.2.gRevocation.gCert.gPrice)&&((ieq 32 y1.1.gRevocation.gCert.gAnchor y1.2.gRevocation.gCert.gAnchor)&&((ieq 64 y1.1.gRevocation.gCert.gSig y1.2.gRevocation.gCert.gSig)&&((ieq 64 y1.1.gRevocation.gSig y1.2.gRevocation.gSig)&&((y1.1.gFloor.gFloor==y1.2.gFloor.gFloor)&&((ieq 64 y1.1.gFloor.gSig y1.2.gFloor.gSig)&&((y1.1.gReceipt.gSerial==y1.2.gReceipt.gSerial)&&((y1.1.gReceipt.gRides==y1.2.gReceipt.gRides)&&((y1.1.gReceipt.gAmount==y1.2.gReceipt.gAmount)&&((ieq 64 y1.1.gReceipt.gSig y1.2.gReceipt.gSig)&&((y1.1.gHead.gSize==y1.2.gHead.gSize)&&((ieq 32 y1.1.gHead.gRoot y1.2.gHead.gRoot)&&(ieq 64 y1.1.gHead.gSig y1.2.gHead.gSig))))))))))))))))))))))))))))))))
theorem fareboxlaw11_RingSeals_spec {W:World} {r:Bool} {p0:LI} {p1:Zc} (h:Z53 p0 p1=some r) (hG:Globs W) :
    Calls Tryz.prog 3 [agg [b3' p0],agg (Zh p1 [])].toArray W (Z1w W (.bool (r))):=by
 unfold Z53 at h
 refine Z9 mo ok3 rfl ?_
 refine Z0<|Z1<|Za (Z02 (s:=[b3' p0]) rfl fun b1 u1=>Za (Z02 (s:=(Zh p1 [])) rfl fun b2 u2=>Z7 rfl<|Z2<|Z0<|oH h fun y1 f1 h=>Z1<|Z0z (p:=[b3' p0]) rfl .t1 rfl<|Z0z (p:=(Zh p1 [])) rfl .here (by kernel_rfl)<|Zq _ (Z06 rfl (fun w hw=>Zfd f1 (hG.at hw (by simp))))<|Z7 rfl<|Zf1 rfl rfl<|Zf1 rfl rfl<|Za (Zu fun b3 u3=>Za (Zu fun b4 u4=>Za (Zm (p:=(Zh y1.1 [])) (q:=(Zh y1.1 [])) rfl rfl (by kernel_rfl) (by kernel_rfl) (by kernel_rfl) .t1<|Za (Zm (p:=(Zh y1.2 [])) (q:=(Zh y1.2 [])) rfl rfl (by kernel_rfl) (by kernel_rfl) (by kernel_rfl) .here<|Z2<|Z0<|Z1<|Z0z (p:=(Zh y1.1 [])) rfl .t1 (by kernel_rfl)<|Z0z (p:=(Zh y1.2 [])) rfl .here (by kernel_rfl)<|Zq _ (Z06x (s:=(Zh y1.1 [])) (s':=(Zh y1.2 [])) rfl rfl rfl rfl _ (Z1o rfl Z6z (Z1o rfl Z6z (Z1o rfl Z6z (Z1o rfl Z6z (Z1o rfl Z5b (Z1o rfl Z5b (Z1o rfl Z6z (Z1o rfl Z6z (Z1o rfl Z6z (Z1o rfl Z5b (Z1o rfl Z5b (Z1o rfl Z5b (Z1o rfl Z6z (Z1o rfl Z6z (Z1o rfl Z6z (Z1o rfl Z5b (Z1o rfl Z5b (Z1o rfl Z6z (Z1o rfl Z6z (Z1o rfl Z6z (Z1o rfl Z5b (Z1o rfl Z5b (Z1o rfl Z5b (Z1o rfl Z6z (Z1o rfl Z5b (Z1o rfl Z6z (Z1o rfl Z6z (Z1o rfl Z6z (Z1o rfl Z5b (Z1o rfl Z6z (Z1o rfl Z5b (Zny Z5b)))))))))))))))))))))))))))))))))<|Z7 rfl<|Z2<|Zf ?_))))))
 cases h
 exact ⟨_,(.cons (.tmp rfl) .nil),rfl⟩
end Go.Proofs.YtkjfpenagcdmcaaGreatDoor

namespace Go.Proofs.YtkjfpenagcdmcaaGreatDoor
open Go Go.Sx Go.RowKit
set_option linter.all false
theorem Zh0 (x:Int):IntKind.u64.wrap x=x%18446744073709551616:=by simp [IntKind.wrap,IntKind.bits,IntKind.signed]
theorem Z0u (x:Int):IntKind.u8.wrap x=x%256:=by simp [IntKind.wrap,IntKind.bits,IntKind.signed]
theorem Ze {x:Int} (h0:0<=x) (h1:x<18446744073709551616):IntKind.u64.wrap x=x:=by rw [Zh0]; omega
theorem Zk {x:Int} (h0 : -9223372036854775808<=x) (h1:x<=9223372036854775807):IntKind.i64.wrap x=x:=by rw [IntKind.wrap_i64]; omega
theorem bv64 (m:Nat) (h:m<18446744073709551616):(BitVec.ofInt 64 (m:Int)).toNat=m:=by
 rw [BitVec.toNat_ofInt]; simp; omega
theorem bv8 (m:Nat) (h:m<256):(BitVec.ofInt 8 (m:Int)).toNat=m:=by
 rw [BitVec.toNat_ofInt]; simp; omega
theorem Z0pq {x y:Int} (m n:Nat) (hx:x=m) (hy:y=n) (h1:m<18446744073709551616) (h2:n<18446744073709551616):Z4 .and .u64 x y=((m &&& n:Nat):Int):=by
 subst hx; subst hy
 show IntKind.u64.wrap (((BitVec.ofInt 64 (m:Int) &&& BitVec.ofInt 64 (n:Int)).toNat:Nat):Int)=_
 rw [BitVec.toNat_and,bv64 m h1,bv64 n h2,Ze (by omega)]
 have:m &&& n<=m:=Nat.and_le_left
 omega
theorem or64 {x y:Int} (m n:Nat) (hx:x=m) (hy:y=n) (h1:m<18446744073709551616) (h2:n<18446744073709551616):Z4 .or .u64 x y=((m ||| n:Nat):Int):=by
 subst hx; subst hy
 show IntKind.u64.wrap (((BitVec.ofInt 64 (m:Int) ||| BitVec.ofInt 64 (n:Int)).toNat:Nat):Int)=_
 rw [BitVec.toNat_or,bv64 m h1,bv64 n h2,Ze (by omega)]
 have:m ||| n<2^64:=Nat.or_lt_two_pow (by simpa using h1) (by simpa using h2)
 simp at this; omega
theorem Zlq (k:Nat) {x y:Int} (hy:y=((2^k-1:Nat):Int)) (hk:2^k<=18446744073709551616) (h0:0<=x) (h1:x<18446744073709551616):Z4 .and .u64 x y=x%((2^k:Nat):Int):=by
 have hp:0<2^k:=Nat.pow_pos (by decide)
 rw [Z0pq x.toNat (2^k-1) (by omega) hy (by omega) (by omega),Nat.and_two_pow_sub_one_eq_mod]
 rw [Int.natCast_emod]
 congr 1; omega
theorem Zsa {x:Int} (h0:0<=x) (h1:x<18446744073709551616):Z4 .and .u64 x 2251799813685247=x%2251799813685248:=Zlq 51 (by decide) (by decide) h0 h1
theorem Z09n {x:Int} (h0:0<=x) (h1:x<18446744073709551616):Z4 .and .u64 x 4294967295=x%4294967296:=Zlq 32 (by decide) (by decide) h0 h1
theorem Zyd (k:Nat) {x y a:Int} (hx:x=a*((2^k:Nat):Int)) (ha:0<=a) (h0:0<=y) (hy:y<((2^k:Nat):Int)) (h1:x+y<18446744073709551616):Z4 .or .u64 x y=x+y:=by
 have hp:(0:Int)<=((2^k:Nat):Int):=Int.natCast_nonneg _
 have hx0:0<=x:=by rw [hx]; exact Int.mul_nonneg ha hp
 rw [or64 x.toNat y.toNat (by omega) (by omega) (by omega) (by omega)]
 have e:x.toNat=a.toNat <<< k:=by
  rw [Nat.shiftLeft_eq]
  have:(x.toNat:Int)=((a.toNat*2^k:Nat):Int):=by
   rw [Int.natCast_mul,Int.toNat_of_nonneg hx0,Int.toNat_of_nonneg ha,hx]
  exact Int.ofNat_inj.1 this
 rw [e,<- Nat.shiftLeft_add_eq_or_of_lt (by omega:y.toNat<2^k),<- e]
 omega
theorem Z9z (k:IntKind) {x:Int} {n:Nat} (h:n<=k.bits):Zx k x (n:Int)=x / ((2^n:Nat):Int):=by
 simp only [Zx,Int.toNat_natCast,Nat.min_eq_left h]
 rw [Int.fdiv_eq_ediv_of_nonneg]
 ·simp
 ·exact Int.le_of_lt (Int.pow_pos (by decide))
theorem Z00k (x:Int):Zx .u64 x 51=x / 2251799813685248:=by have:=Z9z .u64 (x:=x) (n:=51) (by decide); simpa using this
theorem Z119 (x:Int):Zx .u64 x 32=x / 4294967296:=by have:=Z9z .u64 (x:=x) (n:=32) (by decide); simpa using this
theorem Zis (k:IntKind) {x:Int} {n:Nat} (h:n<=k.bits):Zn k x (n:Int)=k.wrap (x*((2^n:Nat):Int)):=by
 simp only [Zn,Int.toNat_natCast,Nat.min_eq_left h]
 simp
theorem Z0oy (x:Int):Zn .u64 x 13=(x*8192)%18446744073709551616:=by have:=Zis .u64 (x:=x) (n:=13) (by decide); rw [Zh0] at this; simpa using this
section
variable {α β:Type}
theorem Zr (x:α) (f:α->Option β):bnd x f=f x:=by
 have h : ∀ y,y=bnd x f->y=f x:=fun y e=>e
 exact h _ rfl
theorem Z0b {c:Bool} {o:Option β} (h:c=true):chk c o=o:=by subst h; rfl
theorem Z3 {o:Option α} {f:α->Option β} {y:α} (h:o=some y):opt o f=f y:=by subst h; rfl
theorem Z1s {c:Bool} {a b:Option β} (h:c=true):br c a b=a:=by subst h; rfl
theorem Z1e {c:Bool} {a b:Option β} (h:c=false):br c a b=b:=by subst h; rfl
theorem Z1v {K:Type} (k:K) (g:K->Option β):jn k g=g k:=by
 have h : ∀ y,y=jn k g->y=g k:=fun y e=>e
 exact h _ rfl
end
theorem Z19 {z:Int} {n:Nat} (h0:0<=z) (h1:z<n):inB z n=true:=by simp [inB,h0,h1]
abbrev PP:Int:=57896044618658097711785492504343953926634992332820282019728792003956564819949
abbrev M51:Int:=2251799813685248
def Z8w (x:LI):Int:=x.getD 0 0+x.getD 1 0*2251799813685248+x.getD 2 0*5070602400912917605986812821504+x.getD 3 0*11417981541647679048466287755595961091061972992+x.getD 4 0*25711008708143844408671393477458601640355247900524685364822016
structure U5 (x:LI):Prop where
 a0:0<=x.getD 0 0
 a1:0<=x.getD 1 0
 a2:0<=x.getD 2 0
 a3:0<=x.getD 3 0
 a4:0<=x.getD 4 0
 b0:x.getD 0 0<18446744073709551616
 b1:x.getD 1 0<18446744073709551616
 b2:x.getD 2 0<18446744073709551616
 b3:x.getD 3 0<18446744073709551616
 b4:x.getD 4 0<18446744073709551616
def Zoy (n:Int):LI:=[n%M51,n / M51%M51,n / (M51*M51)%M51,n / (M51*M51*M51)%M51,n / (M51*M51*M51*M51)%M51]
theorem Zwa {n d0 d1 d2 d3 d4:Int} (h:n=d0+d1*2251799813685248+d2*5070602400912917605986812821504+d3*11417981541647679048466287755595961091061972992+d4*25711008708143844408671393477458601640355247900524685364822016)
  (h0:0<=d0/\d0<2251799813685248) (h1:0<=d1/\d1<2251799813685248) (h2:0<=d2/\d2<2251799813685248) (h3:0<=d3/\d3<2251799813685248) (h4:0<=d4/\d4<2251799813685248) : [d0,d1,d2,d3,d4]=Zoy n:=by
 unfold Zoy
 simp only [M51,List.cons.injEq,and_true]
 refine ⟨?_,?_,?_,?_,?_⟩ <;> omega
theorem Zp0 {n:Int} (h0:0<=n) (h1:n<PP):Z8w (Zoy n)=n:=by
 simp only [Z8w,Zoy,M51,PP,List.getD_cons_zero,List.getD_cons_succ] at *
 omega
theorem Zw9 (n:Int):U5 (Zoy n):=by
 constructor <;> simp only [Zoy,M51,List.getD_cons_zero,List.getD_cons_succ] <;> omega
end Go.Proofs.YtkjfpenagcdmcaaGreatDoor
namespace Go.Proofs.YtkjfpenagcdmcaaGreatDoor
open Go Go.Sx Go.RowKit
open Go.IntKind (wrap)
set_option linter.all false
set_option maxRecDepth 100000
def Zcy (x:LI):LI :=
  [x.getD 0 0%2251799813685248+x.getD 4 0 / 2251799813685248*19,x.getD 1 0%2251799813685248+x.getD 0 0 / 2251799813685248,x.getD 2 0%2251799813685248+x.getD 1 0 / 2251799813685248,
   x.getD 3 0%2251799813685248+x.getD 2 0 / 2251799813685248,x.getD 4 0%2251799813685248+x.getD 3 0 / 2251799813685248]
theorem Zj4 {x:LI} (h:U5 x):Z5o x=some (Zcy x):=by
  have ⟨a0,a1,a2,a3,a4,b0,b1,b2,b3,b4⟩:=h
  simp only [Z5o,Zr,Z00k,Zh0,Zsa a0 b0,Zsa a1 b1,Zsa a2 b2,Zsa a3 b3,Zsa a4 b4,Zcy]
  simp only [Option.some.injEq,List.cons.injEq,and_true]
  refine ⟨?_,?_,?_,?_,?_⟩ <;> omega
structure C5 (x:LI) (e:Int):Prop where
  a0:0<=x.getD 0 0
  a1:0<=x.getD 1 0
  a2:0<=x.getD 2 0
  a3:0<=x.getD 3 0
  a4:0<=x.getD 4 0
  b0:x.getD 0 0<2251799813685248+e
  b1:x.getD 1 0<2251799813685248+e
  b2:x.getD 2 0<2251799813685248+e
  b3:x.getD 3 0<2251799813685248+e
  b4:x.getD 4 0<2251799813685248+e
theorem C5.u {x:LI} {e:Int} (h:C5 x e) (he:e<=1125899906842624):U5 x:=by
  have ⟨a0,a1,a2,a3,a4,b0,b1,b2,b3,b4⟩:=h
  constructor <;> omega
theorem Z01i {x:LI} (h:U5 x):C5 (Zcy x) 262144:=by
  have ⟨a0,a1,a2,a3,a4,b0,b1,b2,b3,b4⟩:=h
  constructor <;> simp only [Zcy,List.getD_cons_zero,List.getD_cons_succ] <;> omega
theorem Z0e2 {x:LI} (h:C5 x 262144):C5 (Zcy x) 20:=by
  have ⟨a0,a1,a2,a3,a4,b0,b1,b2,b3,b4⟩:=h
  constructor <;> simp only [Zcy,List.getD_cons_zero,List.getD_cons_succ] <;> omega
theorem Z0ag {x:LI} : ∃ q,Z8w x=Z8w (Zcy x)+q*PP:=by
  refine ⟨x.getD 4 0 / 2251799813685248,?_⟩
  simp only [Z8w,Zcy,PP,List.getD_cons_zero,List.getD_cons_succ]
  omega
theorem Zls {x:LI}:Z8w (Zcy x)%PP=Z8w x%PP:=by
  obtain ⟨q,hq⟩:=Z0ag (x:=x)
  rw [hq,Int.add_mul_emod_self_right]
def Zql (x:LI):LI:=Zoy (Z8w x%PP)
abbrev shw (x:Int):Int:=Zx .u64 x 51
abbrev wuu (x:Int):Int:=wrap .u64 x
abbrev low (x:Int):Int:=Z4 .and .u64 x 2251799813685247
def rQ (y1 y2 y3 y4 q:Int):Int:=shw (wuu (y4+shw (wuu (y3+shw (wuu (y2+shw (wuu (y1+q))))))))
def rr0 (y0 Q:Int):Int:=wuu (y0+wuu (19*Q))
theorem Z0co (y0 y1 y2 y3 y4 q:Int):Z5x [y0,y1,y2,y3,y4] (fun i46=>Z5y (fun a149=>some (Z2g a149 4 (Z4 .and .u64 (a149.getD 4 0) 2251799813685247))) big 0 (Z2g [y0,y1,y2,y3,y4] 0 (wrap .u64 (y0+wrap .u64 (19*i46))))) big q 0 =
    some [low (rr0 y0 (rQ y1 y2 y3 y4 q)),low (wuu (y1+shw (rr0 y0 (rQ y1 y2 y3 y4 q)))),low (wuu (y2+shw (wuu (y1+shw (rr0 y0 (rQ y1 y2 y3 y4 q)))))),
      low (wuu (y3+shw (wuu (y2+shw (wuu (y1+shw (rr0 y0 (rQ y1 y2 y3 y4 q)))))))),low (wuu (y4+shw (wuu (y3+shw (wuu (y2+shw (wuu (y1+shw (rr0 y0 (rQ y1 y2 y3 y4 q)))))))))) ]:=by kernel_rfl
theorem Zyl {y q:Int} (hy:0<=y/\y<2251799813685268) (hq:0<=q/\q<=1) : ∃ q' s,shw (wuu (y+q))=q'/\y+q=2251799813685248*q'+s/\(0<=s/\s<2251799813685248)/\(0<=q'/\q'<=1):=by
  refine ⟨(y+q) / 2251799813685248,(y+q)%2251799813685248,?_,by omega,by omega,by omega⟩
  rw [shw,Z00k,wuu,Ze (by omega) (by omega)]
theorem Zuy {y r:Int} (hy:0<=y/\y<2251799813685268) (hr:0<=r/\r<4503599627370496) : ∃ c d r',shw r=c/\low r=d/\r=2251799813685248*c+d/\(0<=d/\d<2251799813685248)/\wuu (y+c)=r'/\r'=y+c/\(0<=r'/\r'<4503599627370496):=by
  refine ⟨r / 2251799813685248,r%2251799813685248,y+r / 2251799813685248,Z00k _,Zsa hr.1 (by omega),by omega,by omega,Ze (by omega) (by omega),rfl,by omega⟩
theorem Z073 {y0 y1 y2 y3 y4 q0 q1 q2 q3 q4 s0 s1 s2 s3 s4 c0 c1 c2 c3 c4 d0 d1 d2 d3 d4:Int}
    (h0:y0+19=2251799813685248*q0+s0) (h1:y1+q0=2251799813685248*q1+s1) (h2:y2+q1=2251799813685248*q2+s2) (h3:y3+q2=2251799813685248*q3+s3) (h4:y4+q3=2251799813685248*q4+s4)
    (k0:y0+19*q4=2251799813685248*c0+d0) (k1:y1+c0=2251799813685248*c1+d1) (k2:y2+c1=2251799813685248*c2+d2) (k3:y3+c2=2251799813685248*c3+d3) (k4:y4+c3=2251799813685248*c4+d4)
    (t0:0<=s0/\s0<2251799813685248) (t1:0<=s1/\s1<2251799813685248) (t2:0<=s2/\s2<2251799813685248) (t3:0<=s3/\s3<2251799813685248) (t4:0<=s4/\s4<2251799813685248)
    (u0:0<=d0/\d0<2251799813685248) (u1:0<=d1/\d1<2251799813685248) (u2:0<=d2/\d2<2251799813685248) (u3:0<=d3/\d3<2251799813685248) (u4:0<=d4/\d4<2251799813685248) (hq:0<=q4/\q4<=1) (hy:0<=(y0+y1*2251799813685248+y2*5070602400912917605986812821504+y3*11417981541647679048466287755595961091061972992+y4*25711008708143844408671393477458601640355247900524685364822016)/\(y0+y1*2251799813685248+y2*5070602400912917605986812821504+y3*11417981541647679048466287755595961091061972992+y4*25711008708143844408671393477458601640355247900524685364822016)<115792089237316195423570985008687907853269984665640564039457584007913129639836) :
    (y0+y1*2251799813685248+y2*5070602400912917605986812821504+y3*11417981541647679048466287755595961091061972992+y4*25711008708143844408671393477458601640355247900524685364822016)-q4*PP=(d0+d1*2251799813685248+d2*5070602400912917605986812821504+d3*11417981541647679048466287755595961091061972992+d4*25711008708143844408671393477458601640355247900524685364822016)/\0<=(d0+d1*2251799813685248+d2*5070602400912917605986812821504+d3*11417981541647679048466287755595961091061972992+d4*25711008708143844408671393477458601640355247900524685364822016)/\(d0+d1*2251799813685248+d2*5070602400912917605986812821504+d3*11417981541647679048466287755595961091061972992+d4*25711008708143844408671393477458601640355247900524685364822016)<PP:=by
  have e1:(y0+y1*2251799813685248+y2*5070602400912917605986812821504+y3*11417981541647679048466287755595961091061972992+y4*25711008708143844408671393477458601640355247900524685364822016)+19=q4*57896044618658097711785492504343953926634992332820282019728792003956564819968+(s0+s1*2251799813685248+s2*5070602400912917605986812821504+s3*11417981541647679048466287755595961091061972992+s4*25711008708143844408671393477458601640355247900524685364822016):=by omega
  have e2:(y0+y1*2251799813685248+y2*5070602400912917605986812821504+y3*11417981541647679048466287755595961091061972992+y4*25711008708143844408671393477458601640355247900524685364822016)+19*q4=c4*57896044618658097711785492504343953926634992332820282019728792003956564819968+(d0+d1*2251799813685248+d2*5070602400912917605986812821504+d3*11417981541647679048466287755595961091061972992+d4*25711008708143844408671393477458601640355247900524685364822016):=by omega
  have b1:0<=(s0+s1*2251799813685248+s2*5070602400912917605986812821504+s3*11417981541647679048466287755595961091061972992+s4*25711008708143844408671393477458601640355247900524685364822016)/\(s0+s1*2251799813685248+s2*5070602400912917605986812821504+s3*11417981541647679048466287755595961091061972992+s4*25711008708143844408671393477458601640355247900524685364822016)<57896044618658097711785492504343953926634992332820282019728792003956564819968:=by omega
  have b2:0<=(d0+d1*2251799813685248+d2*5070602400912917605986812821504+d3*11417981541647679048466287755595961091061972992+d4*25711008708143844408671393477458601640355247900524685364822016)/\(d0+d1*2251799813685248+d2*5070602400912917605986812821504+d3*11417981541647679048466287755595961091061972992+d4*25711008708143844408671393477458601640355247900524685364822016)<57896044618658097711785492504343953926634992332820282019728792003956564819968:=by omega
  generalize (y0+y1*2251799813685248+y2*5070602400912917605986812821504+y3*11417981541647679048466287755595961091061972992+y4*25711008708143844408671393477458601640355247900524685364822016)=V at *
  generalize (d0+d1*2251799813685248+d2*5070602400912917605986812821504+d3*11417981541647679048466287755595961091061972992+d4*25711008708143844408671393477458601640355247900524685364822016)=D at *
  generalize (s0+s1*2251799813685248+s2*5070602400912917605986812821504+s3*11417981541647679048466287755595961091061972992+s4*25711008708143844408671393477458601640355247900524685364822016)=S at *
  clear h0 h1 h2 h3 h4 k0 k1 k2 k3 k4 t0 t1 t2 t3 t4 u0 u1 u2 u3 u4
  simp only [PP]
  have hc:q4=0∨q4=1:=by omega
  rcases hc with rfl | rfl
  · obtain rfl:c4=0:=by omega
    omega
  · obtain rfl:c4=1:=by omega
    omega
theorem Zbm {x:LI} (h:U5 x):Z2r x=some (Zql x):=by
  have h1:=Z01i h
  have h2:=Z0e2 h1
  have hm:Z8w (Zcy (Zcy x))%PP=Z8w x%PP:=by rw [Zls,Zls]
  rw [Z2r,Z3 (Zj4 h),Z3 (Zj4 (h1.u (by decide)))]
  unfold Zql
  rw [<- hm]
  have hl:Zcy (Zcy x) = [(Zcy (Zcy x)).getD 0 0,(Zcy (Zcy x)).getD 1 0,(Zcy (Zcy x)).getD 2 0,(Zcy (Zcy x)).getD 3 0,(Zcy (Zcy x)).getD 4 0]:=rfl
  generalize Zcy (Zcy x)=y at *
  have ⟨a0,a1,a2,a3,a4,b0,b1,b2,b3,b4⟩:=h2
  simp only [Zr,Z1v,Z8w]
  generalize y.getD 0 0=y0 at *
  generalize y.getD 1 0=y1 at *
  generalize y.getD 2 0=y2 at *
  generalize y.getD 3 0=y3 at *
  generalize y.getD 4 0=y4 at *
  rw [hl,Z0co]
  congr 1
  clear hl h1 h2 hm h
  have e0:Zx .u64 (wrap .u64 (y0+19)) 51=(y0+19) / 2251799813685248:=by rw [Z00k,Ze (by omega) (by omega)]
  obtain ⟨q0,s0,hq0,hs0,hs0',hq0'⟩ : ∃ q s,(y0+19) / 2251799813685248=q/\y0+19=2251799813685248*q+s/\(0<=s/\s<2251799813685248)/\(0<=q/\q<=1):=⟨_,(y0+19)%2251799813685248,rfl,by omega,by omega,by omega⟩
  rw [e0,hq0]
  obtain ⟨q1,s1,e1,hs1,hs1',hq1'⟩:=Zyl (y:=y1) (q:=q0) (by omega) hq0'
  obtain ⟨q2,s2,e2,hs2,hs2',hq2'⟩:=Zyl (y:=y2) (q:=q1) (by omega) hq1'
  obtain ⟨q3,s3,e3,hs3,hs3',hq3'⟩:=Zyl (y:=y3) (q:=q2) (by omega) hq2'
  obtain ⟨q4,s4,e4,hs4,hs4',hq4'⟩:=Zyl (y:=y4) (q:=q3) (by omega) hq3'
  have f0:rr0 y0 q4=y0+19*q4:=by rw [rr0,wuu,wuu,Ze (x:=19*q4) (by omega) (by omega),Ze (by omega) (by omega)]
  have hy:0<=(y0+y1*2251799813685248+y2*5070602400912917605986812821504+y3*11417981541647679048466287755595961091061972992+y4*25711008708143844408671393477458601640355247900524685364822016)/\(y0+y1*2251799813685248+y2*5070602400912917605986812821504+y3*11417981541647679048466287755595961091061972992+y4*25711008708143844408671393477458601640355247900524685364822016)<115792089237316195423570985008687907853269984665640564039457584007913129639836:=by omega
  unfold rQ
  rw [e1,e2,e3,e4,f0]
  obtain ⟨c0,d0,r1,g0,l0,k0,u0,w1,v1,z1⟩:=Zuy (y:=y1) (r:=y0+19*q4) (by omega) (by omega)
  rw [g0,l0,w1]
  obtain ⟨c1,d1,r2,g1,l1,k1,u1,w2,v2,z2⟩:=Zuy (y:=y2) (r:=r1) (by omega) z1
  rw [g1,l1,w2]
  obtain ⟨c2,d2,r3,g2,l2,k2,u2,w3,v3,z3⟩:=Zuy (y:=y3) (r:=r2) (by omega) z2
  rw [g2,l2,w3]
  obtain ⟨c3,d3,r4,g3,l3,k3,u3,w4,v4,z4⟩:=Zuy (y:=y4) (r:=r3) (by omega) z3
  rw [g3,l3,w4]
  obtain ⟨c4,d4,r5,g4,l4,k4,u4,w5,v5,z5⟩:=Zuy (y:=y4) (r:=r4) (by omega) z4
  rw [l4]
  subst v1 v2 v3 v4
  obtain ⟨hv,hlo⟩:=Z073 hs0 hs1 hs2 hs3 hs4 k0 k1 k2 k3 k4 hs0' hs1' hs2' hs3' hs4' u0 u1 u2 u3 u4 hq4' hy
  refine Zwa ?_ u0 u1 u2 u3 u4
  rw [<- hv] at hlo ⊢
  rw [<- Int.emod_eq_of_lt hlo.1 hlo.2,Int.sub_mul_emod_self_right]
end Go.Proofs.YtkjfpenagcdmcaaGreatDoor
namespace Go.Proofs.YtkjfpenagcdmcaaGreatDoor
open Go Go.Sx Go.RowKit
set_option linter.all false
set_option maxRecDepth 100000
theorem Zhw {a b:Int} {A B:Int} (ha:0<=a/\a<=A) (hb:0<=b/\b<=B):0<=a*b/\a*b<=A*B :=
 ⟨Int.mul_nonneg ha.1 hb.1,Int.mul_le_mul ha.2 hb.2 hb.1 (Int.le_trans ha.1 ha.2)⟩
theorem Zy8 {x y:Int} (hx:0<=x/\x<18446744073709551616) (hy:0<=y/\y<18446744073709551616) :
  Z5z x y=some (x*y / 18446744073709551616,x*y%18446744073709551616):=by
 simp only [Z5z,Zr,Z09n hx.1 hx.2,Z09n hy.1 hy.2,Z119]
 have ex:x=x / 4294967296*4294967296+x%4294967296:=by omega
 have ey:y=y / 4294967296*4294967296+y%4294967296:=by omega
 have bxl:0<=x%4294967296/\x%4294967296<=4294967295:=by omega
 have byl:0<=y%4294967296/\y%4294967296<=4294967295:=by omega
 have bxh:0<=x / 4294967296/\x / 4294967296<=4294967295:=by omega
 have byh:0<=y / 4294967296/\y / 4294967296<=4294967295:=by omega
 have hxy:x*y=x / 4294967296*(y / 4294967296)*18446744073709551616+(x / 4294967296*(y%4294967296)+x%4294967296*(y / 4294967296))*4294967296+x%4294967296*(y%4294967296):=by
  conv=>lhs; rw [ex,ey]
  generalize x / 4294967296=a
  generalize x%4294967296=b
  generalize y / 4294967296=c
  generalize y%4294967296=d
  grind
 have p00:=Zhw bxl byl
 have p10:=Zhw bxh byl
 have p01:=Zhw bxl byh
 have p11:=Zhw bxh byh
 rw [hxy]
 generalize x%4294967296*(y%4294967296)=A at *
 generalize x / 4294967296*(y%4294967296)=B at *
 generalize x%4294967296*(y / 4294967296)=D at *
 generalize x / 4294967296*(y / 4294967296)=F at *
 clear hxy ex ey bxl byl bxh byh
 rw [Ze (x:=A) (by omega) (by omega),Ze (x:=B) (by omega) (by omega),Ze (x:=D) (by omega) (by omega),Ze (x:=F) (by omega) (by omega)]
 rw [Ze (x:=B+A / 4294967296) (by omega) (by omega),Z09n (by omega) (by omega)]
 rw [Ze (x:=(B+A / 4294967296)%4294967296+D) (by omega) (by omega),Ze (x:=F+(B+A / 4294967296) / 4294967296) (by omega) (by omega)]
 rw [Ze (by omega) (by omega),Zh0]
 congr 1
 refine Prod.ext ?_ rfl
 show F+(B+A / 4294967296) / 4294967296+((B+A / 4294967296)%4294967296+D) / 4294967296=_
 omega
def Zmx (s:Int):Int:=s / 18446744073709551616
def Zj5 (s:Int):Int:=s%18446744073709551616
theorem Zs8 (a b c:Int):Zcv a b c=(a+b+c)%18446744073709551616:=rfl
theorem Znw (a b c:Int):Zk4 a b c=(a+b+c) / 18446744073709551616:=rfl
theorem Z04p {xs:LI} {o L:Nat} {s a c:Int} (hs:0<=s) (h1:xs.getD o 0=Zmx s) (h2:xs.getD (o+1) 0=Zj5 s) (hL:o+1<L) (ha:0<=a/\a<18446744073709551616) (hc:0<=c/\c<18446744073709551616)
  (hb:s+a*c<340282366920938463463374607431768211456) :
  Z2w xs o L a c=some (Z2g (Z2g xs (o+1) (Zj5 (s+a*c))) o (Zmx (s+a*c))):=by
 have hp:=Zhw (A:=18446744073709551615) (B:=18446744073709551615) (a:=a) (b:=c) (by omega) (by omega)
 rw [Z2w,Z3 (Zy8 ha hc)]
 rw [Z0b (by simpa using hL)]
 simp only [Zr,h2]
 have e1:Zj5 s+a*c%18446744073709551616=Zj5 s+a*c%18446744073709551616:=rfl
 generalize a*c=p at *
 have hlo:0<=Zj5 s/\Zj5 s<18446744073709551616:=by unfold Zj5; omega
 have hhi:0<=Zmx s/\Zmx s<18446744073709551616:=by unfold Zmx; omega
 rw [Z0b (by simp [Zh9]; omega),Z0b (by simpa using hL),Z0b (by simp; omega)]
 simp only [Nat.add_zero,Z1a]
 rw [if_neg (by omega),h1,Z0b (by simp [Zh9,Znw]; omega),Z0b (by simp; omega)]
 simp only [Zs8,Znw]
 congr 2
 ·congr 1
  unfold Zj5; omega
 ·unfold Zmx Zj5; omega
end Go.Proofs.YtkjfpenagcdmcaaGreatDoor
namespace Go.Proofs.YtkjfpenagcdmcaaGreatDoor
open Go Go.Sx Go.RowKit
open Go.IntKind (wrap)
set_option linter.all false
set_option maxRecDepth 100000
def Zq8 (S:Nat->Int):LI:=[Zmx (S 0),Zj5 (S 0),Zmx (S 1),Zj5 (S 1),Zmx (S 2),Zj5 (S 2),Zmx (S 3),Zj5 (S 3),Zmx (S 4),Zj5 (S 4)]
theorem Z00n {S T:Nat->Int} (h : ∀ k,k<5->S k=T k):Zq8 S=Zq8 T:=by
  simp only [Zq8,h 0 (by decide),h 1 (by decide),h 2 (by decide),h 3 (by decide),h 4 (by decide)]
def updN (S:Nat->Int) (k:Nat) (v:Int):Nat->Int:=fun j=>if j=k then v else S j
theorem Zz6 {S:Nat->Int} {k:Nat} {a c:Int} (hk:k<5) (hs:0<=S k) (ha:0<=a/\a<18446744073709551616) (hc:0<=c/\c<18446744073709551616) (hb:S k+a*c<340282366920938463463374607431768211456) :
    Z2w (Zq8 S) (0+k*2) 10 a c=some (Zq8 (updN S k (S k+a*c))):=by
  have h1:(Zq8 S).getD (0+k*2) 0=Zmx (S k):=by
    match k,hk with
    | 0,_=>rfl
    | 1,_=>rfl
    | 2,_=>rfl
    | 3,_=>rfl
    | 4,_=>rfl
  have h2:(Zq8 S).getD (0+k*2+1) 0=Zj5 (S k):=by
    match k,hk with
    | 0,_=>rfl
    | 1,_=>rfl
    | 2,_=>rfl
    | 3,_=>rfl
    | 4,_=>rfl
  rw [Z04p hs h1 h2 (by omega) ha hc hb]
  congr 1
  match k,hk with
  | 0,_=>rfl
  | 1,_=>rfl
  | 2,_=>rfl
  | 3,_=>rfl
  | 4,_=>rfl
def Zsl (x:Int) (y:LI) (i j:Nat):Int:=x*(if i+j<5 then y.getD j 0 else 19*y.getD j 0)
theorem Z02l {y:LI} {i j:Nat} {kk:LI->Option (LI)} {k':Int->LI->Option (LI)} {x:Int} {S:Nat->Int} {T:Int} (hi:i<5) (hj:j<5) (hx:0<=x/\x<=2251799813947392) (hy : ∀ j,j<5->0<=y.getD j 0/\y.getD j 0<=2251799813947392)
    (hS : ∀ k,k<5->0<=S k/\S k<=T) (hT:T<=100000000000000000000000000000000000) :
    Z7b y (i:Int) x kk k' (j:Int) (Zq8 S)=k' ((j+1:Nat):Int) (Zq8 (updN S ((i+j)%5) (S ((i+j)%5)+Zsl x y i j))):=by
  have hyj:=hy j hj
  rw [Z7b,Z1s (by simp; omega),Z1v,Z0b (Z19 (by omega) (by omega))]
  simp only [Zr,Int.toNat_natCast]
  have hij:wrap .i64 ((i:Int)+(j:Int))=((i+j:Nat):Int):=by rw [Zk (by omega) (by omega)]; omega
  have hj1:wrap .i64 ((j:Int)+1)=((j+1:Nat):Int):=by rw [Zk (by omega) (by omega)]; omega
  rw [hij,hj1]
  have hSk:=hS ((i+j)%5) (Nat.mod_lt _ (by decide))
  by_cases h:i+j<5
  · have hm:(i+j)%5=i+j:=Nat.mod_eq_of_lt h
    rw [hm] at hSk ⊢
    have hp:=Zhw hx hyj
    rw [Z1s (by simp; omega),Z0b (Z19 (by omega) (by omega)),Z3 (Zz6 (S:=S) (k:=((i+j:Nat):Int).toNat) (by omega) (by rw [Int.toNat_natCast]; exact hSk.1) (by omega) (by omega) (by rw [Int.toNat_natCast]; omega))]
    simp only [Int.toNat_natCast,Zsl,if_pos h]
  · have hm:(i+j)%5=i+j-5:=by omega
    rw [hm] at hSk ⊢
    have h5:wrap .i64 (((i+j:Nat):Int)-5)=((i+j-5:Nat):Int):=by rw [Zk (by omega) (by omega)]; omega
    have h19:wrap .u64 (19*y.getD j 0)=19*y.getD j 0:=Ze (by omega) (by omega)
    rw [h5,h19]
    have hp:=Zhw (b:=19*y.getD j 0) (B:=42784196465000448) hx (by omega)
    rw [Z1e (by simp; omega),Z0b (Z19 (by omega) (by omega)),Z3 (Zz6 (S:=S) (k:=((i+j-5:Nat):Int).toNat) (by omega) (by rw [Int.toNat_natCast]; exact hSk.1) (by omega) (by omega) (by rw [Int.toNat_natCast]; omega))]
    simp only [Int.toNat_natCast,Zsl,if_neg h]
theorem Z06g {y:LI} {i:Nat} {kk:LI->Option (LI)} {k':Int->LI->Option (LI)} {x:Int} {a:LI} (hi:i<5):Z7b y (i:Int) x kk k' 5 a=kk a:=by
  rw [Z7b,Z1e (by decide)]
theorem Z06e {x:Int} {y:LI} {i j:Nat} (hj:j<5) (hx:0<=x/\x<=2251799813947392) (hy : ∀ j,j<5->0<=y.getD j 0/\y.getD j 0<=2251799813947392):0<=Zsl x y i j/\Zsl x y i j<=96341445639776675308685928431616:=by
  have hyj:=hy j hj
  unfold Zsl
  split
  · have:=Zhw hx hyj; omega
  · have:=Zhw (b:=19*y.getD j 0) (B:=42784196465000448) hx (by omega); omega
theorem Z0p6 {S:Nat->Int} {T v:Int} {k:Nat} (hS : ∀ k,k<5->0<=S k/\S k<=T) (hv:0<=v/\v<=T+96341445639776675308685928431616) : ∀ j,j<5->0<=updN S k v j/\updN S k v j<=T+96341445639776675308685928431616:=by
  intro j hj
  have:=hS j hj
  unfold updN
  split <;> omega
def inn (S:Nat->Int) (x:Int) (y:LI) (i:Nat):Nat->Int:=fun k=>S k+x*(if i<=k then y.getD (k-i) 0 else 19*y.getD (k+5-i) 0)
theorem Z02j {y:LI} {i:Nat} {kk:LI->Option (LI)} {x:Int} {S:Nat->Int} {T:Int} (hi:i<5) (hx:0<=x/\x<=2251799813947392) (hy : ∀ j,j<5->0<=y.getD j 0/\y.getD j 0<=2251799813947392)
    (hS : ∀ k,k<5->0<=S k/\S k<=T) (hT:T<=10000000000000000000000000000000000) :
    Z6a y (i:Int) x kk big 0 (Zq8 S)=kk (Zq8 (inn S x y i)):=by
  obtain ⟨n,hn⟩ : ∃ n,big=n+6:=⟨18446744073709551610,Z21⟩
  rw [hn]
  have step : ∀ (n j:Nat) (S:Nat->Int) (T:Int),j<5->(∀ k,k<5->0<=S k/\S k<=T)->T<=100000000000000000000000000000000000 ->
      Z6a y (i:Int) x kk (n+1) (j:Int) (Zq8 S)=Z6a y (i:Int) x kk n ((j+1:Nat):Int) (Zq8 (updN S ((i+j)%5) (S ((i+j)%5)+Zsl x y i j))) :=
    fun n j S T hj hS hT=>Z02l hi hj hx hy hS hT
  have bd : ∀ (j:Nat) (S:Nat->Int) (T:Int),j<5->(∀ k,k<5->0<=S k/\S k<=T)->∀ k,k<5->0<=updN S ((i+j)%5) (S ((i+j)%5)+Zsl x y i j) k/\updN S ((i+j)%5) (S ((i+j)%5)+Zsl x y i j) k<=T+96341445639776675308685928431616 :=
    fun j S T hj hS=>Z0p6 hS (by have:=Z06e (i:=i) hj hx hy; have:=hS ((i+j)%5) (Nat.mod_lt _ (by decide)); omega)
  have s0:=step (n+5) 0 S T (by decide) hS (by omega)
  have b0:=bd 0 S T (by decide) hS
  have s1:=step (n+4) 1 _ _ (by decide) b0 (by omega)
  have b1:=bd 1 _ _ (by decide) b0
  have s2:=step (n+3) 2 _ _ (by decide) b1 (by omega)
  have b2:=bd 2 _ _ (by decide) b1
  have s3:=step (n+2) 3 _ _ (by decide) b2 (by omega)
  have b3:=bd 3 _ _ (by decide) b2
  have s4:=step (n+1) 4 _ _ (by decide) b3 (by omega)
  refine (s0.trans (s1.trans (s2.trans (s3.trans (s4.trans ((Z06g hi).trans ?_))))))
  congr 1
  apply Z00n
  intro k hk
  clear s0 s1 s2 s3 s4 b0 b1 b2 b3 bd step hS hy hx hn
  match i,hi,k,hk with
  | 0,_,0,_ | 0,_,1,_ | 0,_,2,_ | 0,_,3,_ | 0,_,4,_ | 1,_,0,_ | 1,_,1,_ | 1,_,2,_ | 1,_,3,_ | 1,_,4,_ | 2,_,0,_ | 2,_,1,_ | 2,_,2,_ | 2,_,3,_ | 2,_,4,_
  | 3,_,0,_ | 3,_,1,_ | 3,_,2,_ | 3,_,3,_ | 3,_,4,_ | 4,_,0,_ | 4,_,1,_ | 4,_,2,_ | 4,_,3,_ | 4,_,4,_=>rfl
theorem Zkx {S:Nat->Int} {x T:Int} {y:LI} {i:Nat} (hi:i<5) (hx:0<=x/\x<=2251799813947392) (hy : ∀ j,j<5->0<=y.getD j 0/\y.getD j 0<=2251799813947392) (hS : ∀ k,k<5->0<=S k/\S k<=T) :
    ∀ k,k<5->0<=inn S x y i k/\inn S x y i k<=T+96341445639776675308685928431616:=by
  intro k hk
  have h1:=hS k hk
  unfold inn
  split
  · have:=Zhw hx (hy (k-i) (by omega)); omega
  · have:=Zhw (b:=19*y.getD (k+5-i) 0) (B:=42784196465000448) hx (by have:=hy (k+5-i) (by omega); omega); omega
def Zqd (x y:LI):Nat->Int:=inn (inn (inn (inn (inn (fun _=>0) (x.getD 0 0) y 0) (x.getD 1 0) y 1) (x.getD 2 0) y 2) (x.getD 3 0) y 3) (x.getD 4 0) y 4
theorem Z0b9 {x y:LI} (hx : ∀ j,j<5->0<=x.getD j 0/\x.getD j 0<=2251799813947392) (hy : ∀ j,j<5->0<=y.getD j 0/\y.getD j 0<=2251799813947392) : ∀ k,k<5->0<=Zqd x y k/\Zqd x y k<=481707228198883376543429642158080:=by
  have b0:=Zkx (S:=fun _=>0) (T:=0) (i:=0) (by decide) (hx 0 (by decide)) hy (fun _ _=>by simp)
  have b1:=Zkx (i:=1) (by decide) (hx 1 (by decide)) hy b0
  have b2:=Zkx (i:=2) (by decide) (hx 2 (by decide)) hy b1
  have b3:=Zkx (i:=3) (by decide) (hx 3 (by decide)) hy b2
  have b4:=Zkx (i:=4) (by decide) (hx 4 (by decide)) hy b3
  intro k hk
  have:=b4 k hk
  unfold Zqd
  omega
theorem Zfh {x y : LI} (hx : ∀ j, j < 5 -> 0 <= x.getD j 0 /\ x.getD j 0 <= 2251799813947392) (hy : ∀ j, j < 5 -> 0 <= y.getD j 0 /\ y.getD j 0 <= 2251799813947392) (n i : Nat) (S : Nat -> Int) (T : Int) (hi : i < 5) (hS : ∀ k, k < 5 -> 0 <= S k /\ S k <= T) (hT : T <= 10000000000000000000000000000000000) (kk : LI -> Option (LI)) :
      Z3v x y kk (n+1) (i:Int) (Zq8 S)=Z3v x y kk n ((i+1:Nat):Int) (Zq8 (inn S (x.getD i 0) y i)):=by
  rw [Z3v,Zb1,Z1s (by simp; omega),Z0b (Z19 (by omega) (by omega))]
  simp only [Zr,Z1v,Int.toNat_natCast]
  rw [Z02j hi (hx i hi) hy hS hT,Zk (by omega) (by omega)]
  rfl
theorem Zzy {x y:LI} (n:Nat) (a:LI) (kk:LI->Option (LI)):Z3v x y kk (n+1) ((5:Nat):Int) a=kk a:=by
  rw [Z3v,Zb1,Z1e (by decide)]
theorem Z11b:(List.replicate 10 0:LI)=Zq8 (fun _=>0):=by decide
theorem Z02k {x y:LI} (hx : ∀ j,j<5->0<=x.getD j 0/\x.getD j 0<=2251799813947392) (hy : ∀ j,j<5->0<=y.getD j 0/\y.getD j 0<=2251799813947392) (kk:LI->Option (LI)) :
    Z3v x y kk big 0 (List.replicate 10 0)=kk (Zq8 (Zqd x y)):=by
  obtain ⟨n,hn⟩ : ∃ n,big=n+1+1+1+1+1+1:=⟨18446744073709551610,Z21⟩
  have b0:=Zkx (S:=fun _=>0) (T:=0) (i:=0) (by decide) (hx 0 (by decide)) hy (fun _ _=>by simp)
  have b1:=Zkx (i:=1) (by decide) (hx 1 (by decide)) hy b0
  have b2:=Zkx (i:=2) (by decide) (hx 2 (by decide)) hy b1
  have b3:=Zkx (i:=3) (by decide) (hx 3 (by decide)) hy b2
  have s0:=Zfh (kk:=kk) hx hy (n+1+1+1+1+1) 0 (fun _=>0) 0 (by decide) (fun _ _=>by simp) (by omega)
  have s1:=Zfh (kk:=kk) hx hy (n+1+1+1+1) 1 _ _ (by decide) b0 (by omega)
  have s2:=Zfh (kk:=kk) hx hy (n+1+1+1) 2 _ _ (by decide) b1 (by omega)
  have s3:=Zfh (kk:=kk) hx hy (n+1+1) 3 _ _ (by decide) b2 (by omega)
  have s4:=Zfh (kk:=kk) hx hy (n+1) 4 _ _ (by decide) b3 (by omega)
  have s5:=Zzy (x:=x) (y:=y) n (Zq8 (Zqd x y)) kk
  unfold Zqd at s5 ⊢
  rw [<- hn] at s0
  rw [Z11b]
  exact s0.trans (s1.trans (s2.trans (s3.trans (s4.trans s5))))
theorem Z02h {S:Nat->Int} {kk:Int->LI->Option (LI)} {k':Int->Int->LI->Option (LI)} {i:Nat} {c:Int} {out:LI} (hi:i<5) (hS:0<=S i/\S i<=481707228198883376543429642158080) (hc:0<=c/\c<18446744073709551616) :
    Z98 (Zq8 S) kk k' c (i:Int) out=k' ((S i+c) / 2251799813685248) ((i+1:Nat):Int) (Z2g out i ((S i+c)%2251799813685248)):=by
  have ht:tk (Zq8 S) (i*2) 2 = [Zmx (S i),Zj5 (S i)]:=by
    match i,hi with
    | 0,_=>rfl
    | 1,_=>rfl
    | 2,_=>rfl
    | 3,_=>rfl
    | 4,_=>rfl
  rw [Z98,Z1s (by simp; omega),Z0b (Z19 (by omega) (by omega))]
  simp only [Zr,Int.toNat_natCast,ht,List.getD_cons_zero,List.getD_cons_succ]
  generalize S i=s at *
  have hl:0<=Zj5 s/\Zj5 s<18446744073709551616:=by unfold Zj5; omega
  rw [Z0b (by simp [Zh9]; omega),Z0b (Z19 (by omega) (by omega))]
  simp only [Zs8,Znw,Int.add_zero]
  rw [Zk (by omega) (by omega),Z00k,Z0oy,Zsa (by omega) (by omega)]
  have hh:0<=Zmx s/\Zmx s<1000000000000000:=by unfold Zmx; omega
  have hcar:0<=(Zj5 s+c) / 18446744073709551616/\(Zj5 s+c) / 18446744073709551616<=1:=by omega
  rw [Ze (x:=Zmx s+(Zj5 s+c) / 18446744073709551616) (by omega) (by omega)]
  have hm:(Zmx s+(Zj5 s+c) / 18446744073709551616)*8192%18446744073709551616=(Zmx s+(Zj5 s+c) / 18446744073709551616)*8192:=by omega
  rw [hm,Zyd 13 (x:=(Zmx s+(Zj5 s+c) / 18446744073709551616)*8192) (a:=Zmx s+(Zj5 s+c) / 18446744073709551616) rfl (by omega) (by omega) (by omega) (by omega)]
  have e1:(Zj5 s+c)%18446744073709551616%2251799813685248=(s+c)%2251799813685248:=by unfold Zj5; omega
  have e2:(Zmx s+(Zj5 s+c) / 18446744073709551616)*8192+(Zj5 s+c)%18446744073709551616 / 2251799813685248=(s+c) / 2251799813685248:=by unfold Zmx Zj5; omega
  rw [e1,e2]
  rfl
theorem alg5 (x0 x1 x2 x3 x4 y0 y1 y2 y3 y4 m:Int):(x0+x1*m+x2*(m*m)+x3*(m*m*m)+x4*(m*m*m*m))*(y0+y1*m+y2*(m*m)+y3*(m*m*m)+y4*(m*m*m*m)) =
    x0*y0+(x0*y1+x1*y0)*m+(x0*y2+x1*y1+x2*y0)*(m*m)+(x0*y3+x1*y2+x2*y1+x3*y0)*(m*m*m)+(x0*y4+x1*y3+x2*y2+x3*y1+x4*y0)*(m*m*m*m)
     + ((x1*y4+x2*y3+x3*y2+x4*y1)+(x2*y4+x3*y3+x4*y2)*m+(x3*y4+x4*y3)*(m*m)+x4*y4*(m*m*m))*(m*m*m*m*m):=by grind
theorem Z06d (x y:LI) : ∃ q,Z8w x*Z8w y=Zqd x y 0+Zqd x y 1*2251799813685248+Zqd x y 2*5070602400912917605986812821504+Zqd x y 3*11417981541647679048466287755595961091061972992+Zqd x y 4*25711008708143844408671393477458601640355247900524685364822016+q*PP:=by
  have h:=alg5 (x.getD 0 0) (x.getD 1 0) (x.getD 2 0) (x.getD 3 0) (x.getD 4 0) (y.getD 0 0) (y.getD 1 0) (y.getD 2 0) (y.getD 3 0) (y.getD 4 0) 2251799813685248
  have e0:Zqd x y 0=x.getD 0 0*y.getD 0 0+19*(x.getD 1 0*y.getD 4 0+x.getD 2 0*y.getD 3 0+x.getD 3 0*y.getD 2 0+x.getD 4 0*y.getD 1 0):=by simp [Zqd,inn] <;> grind
  have e1:Zqd x y 1=x.getD 0 0*y.getD 1 0+x.getD 1 0*y.getD 0 0+19*(x.getD 2 0*y.getD 4 0+x.getD 3 0*y.getD 3 0+x.getD 4 0*y.getD 2 0):=by simp [Zqd,inn] <;> grind
  have e2:Zqd x y 2=x.getD 0 0*y.getD 2 0+x.getD 1 0*y.getD 1 0+x.getD 2 0*y.getD 0 0+19*(x.getD 3 0*y.getD 4 0+x.getD 4 0*y.getD 3 0):=by simp [Zqd,inn] <;> grind
  have e3:Zqd x y 3=x.getD 0 0*y.getD 3 0+x.getD 1 0*y.getD 2 0+x.getD 2 0*y.getD 1 0+x.getD 3 0*y.getD 0 0+19*(x.getD 4 0*y.getD 4 0):=by simp [Zqd,inn] <;> grind
  have e4:Zqd x y 4=x.getD 0 0*y.getD 4 0+x.getD 1 0*y.getD 3 0+x.getD 2 0*y.getD 2 0+x.getD 3 0*y.getD 1 0+x.getD 4 0*y.getD 0 0:=by simp [Zqd,inn] <;> grind
  refine ⟨(x.getD 1 0*y.getD 4 0+x.getD 2 0*y.getD 3 0+x.getD 3 0*y.getD 2 0+x.getD 4 0*y.getD 1 0)+(x.getD 2 0*y.getD 4 0+x.getD 3 0*y.getD 3 0+x.getD 4 0*y.getD 2 0)*2251799813685248+(x.getD 3 0*y.getD 4 0+x.getD 4 0*y.getD 3 0)*5070602400912917605986812821504+x.getD 4 0*y.getD 4 0*11417981541647679048466287755595961091061972992,?_⟩
  rw [e0,e1,e2,e3,e4]
  simp only [Z8w,PP]
  simp only [Int.reduceMul] at h
  rw [h]
  omega
end Go.Proofs.YtkjfpenagcdmcaaGreatDoor
namespace Go.Proofs.YtkjfpenagcdmcaaGreatDoor
open Go Go.Sx Go.RowKit
open List (replicate)
set_option linter.all false
set_option maxRecDepth 100000
theorem U5.mk5 {d0 d1 d2 d3 d4:Int} (h0:0<=d0/\d0<18446744073709551616) (h1:0<=d1/\d1<18446744073709551616) (h2:0<=d2/\d2<18446744073709551616) (h3:0<=d3/\d3<18446744073709551616) (h4:0<=d4/\d4<18446744073709551616):U5 [d0,d1,d2,d3,d4] :=
 ⟨h0.1,h1.1,h2.1,h3.1,h4.1,h0.2,h1.2,h2.2,h3.2,h4.2⟩
theorem Z06h {c d0 d1 d2 d3 d4:Int} (hc:0<=c/\c<900000000000000000)
  (h0:0<=d0/\d0<2251799813685248) (h1:0<=d1/\d1<2251799813685248) (h2:0<=d2/\d2<2251799813685248) (h3:0<=d3/\d3<2251799813685248) (h4:0<=d4/\d4<2251799813685248) :
  (opt (Z2w (replicate 2 0) 0 2 c 19) fun y1819 =>
   bnd (y1819.getD 1 0) fun z1823 =>
   bnd ([d0,d1,d2,d3,d4].getD 0 0) fun z1824 =>
   chk (Zh9 z1823 z1824 0) <|
   bnd (Zcv z1823 z1824 0) fun z1826 =>
   bnd (Zk4 z1823 z1824 0) fun z1827 =>
   bnd (Z4 .and .u64 z1826 2251799813685247) fun z1829 =>
   bnd (Z2g [d0,d1,d2,d3,d4] 0 z1829) fun l1830 =>
   bnd (l1830.getD 1 0) fun z1832 =>
   bnd (y1819.getD 0 0) fun z1833 =>
   bnd (IntKind.wrap .u64 (z1833+z1827)) fun z1834 =>
   bnd (Zn .u64 z1834 13) fun z1835 =>
   bnd (Zx .u64 z1826 51) fun z1836 =>
   bnd (Z4 .or .u64 z1835 z1836) fun z1837 =>
   bnd (IntKind.wrap .u64 (z1832+z1837)) fun z1838 =>
   bnd (Z2g l1830 1 z1838) fun l1839 =>
   opt (Z2r l1839) fun y1841 =>
   some y1841)=some (Zoy ((d0+d1*2251799813685248+d2*5070602400912917605986812821504+d3*11417981541647679048466287755595961091061972992+d4*25711008708143844408671393477458601640355247900524685364822016+19*c)%PP)):=by
 have hw:Z2w (replicate 2 0) 0 2 c 19=some [Zmx (0+c*19),Zj5 (0+c*19)]:=Z04p (s:=0) (by decide) rfl rfl (by decide) (by omega) (by omega) (by omega)
 rw [Z3 hw]
 simp only [Zr,List.getD_cons_zero,List.getD_cons_succ]
 have hl:Zj5 (0+c*19)=c*19%18446744073709551616:=by unfold Zj5; rw [Int.zero_add]
 have hh:Zmx (0+c*19)=c*19 / 18446744073709551616:=by unfold Zmx; rw [Int.zero_add]
 rw [hl,hh]
 have hlt:c*19<18446744073709551616:=by omega
 rw [Int.emod_eq_of_lt (by omega) hlt,Int.ediv_eq_zero_of_lt (by omega) hlt]
 rw [Z0b (by simp [Zh9]; omega)]
 simp only [Zs8,Znw,Int.add_zero,Int.zero_add]
 rw [Int.emod_eq_of_lt (a:=c*19+d0) (by omega) (by omega),Int.ediv_eq_zero_of_lt (a:=c*19+d0) (by omega) (by omega)]
 have ew:IntKind.wrap .u64 0=0:=by decide
 rw [ew,Z00k,Z0oy,Zsa (by omega) (by omega)]
 have e0:(0:Int)*8192%18446744073709551616=0:=by decide
 rw [e0,Zyd 13 (x:=0) (a:=0) (by simp) (by omega) (by omega) (by omega) (by omega),Int.zero_add]
 have hs1:Z2g [d0,d1,d2,d3,d4] 0 ((c*19+d0)%2251799813685248) = [(c*19+d0)%2251799813685248,d1,d2,d3,d4]:=rfl
 rw [hs1]
 simp only [List.getD_cons_zero,List.getD_cons_succ]
 rw [Ze (by omega) (by omega)]
 have hs2:Z2g [(c*19+d0)%2251799813685248,d1,d2,d3,d4] 1 (d1+(c*19+d0) / 2251799813685248) = [(c*19+d0)%2251799813685248,d1+(c*19+d0) / 2251799813685248,d2,d3,d4]:=rfl
 rw [hs2,Z3 (Zbm (U5.mk5 (by omega) (by omega) (by omega) (by omega) (by omega)))]
 unfold Zql
 congr 3
 simp only [Z8w,List.getD_cons_zero,List.getD_cons_succ]
 omega
theorem C5.le {x:LI} (h:C5 x 262144) : ∀ j,j<5->0<=x.getD j 0/\x.getD j 0<=2251799813947392:=by
 have ⟨a0,a1,a2,a3,a4,b0,b1,b2,b3,b4⟩:=h
 intro j hj
 match j,hj with
 | 0,_=>omega
 | 1,_=>omega
 | 2,_=>omega
 | 3,_=>omega
 | 4,_=>omega
theorem Z02i {x y:LI} (hx:U5 x) (hy:U5 y):Z1x x y=some (Zoy (Z8w x*Z8w y%PP)):=by
 have cx:=(Z01i hx).le
 have cy:=(Z01i hy).le
 rw [Z1x,Z3 (Zj4 hx),Z3 (Zj4 hy),Z1v,Z02k cx cy,Z1v]
 have hb:=Z0b9 cx cy
 obtain ⟨q,hq⟩:=Z06d (Zcy x) (Zcy y)
 have hm:Z8w x*Z8w y%PP=Z8w (Zcy x)*Z8w (Zcy y)%PP:=by
  rw [Int.mul_emod,<- Zls (x:=x),<- Zls (x:=y),<- Int.mul_emod]
 rw [hm,hq,Int.add_mul_emod_self_right]
 generalize Zqd (Zcy x) (Zcy y)=S at *
 obtain ⟨n,hn⟩ : ∃ n,big=n+1+1+1+1+1+1:=⟨18446744073709551610,Z21⟩
 generalize hkk:(fun (i1740:Int) (a1741:LI)=>_)=kk
 have step : ∀ (n i:Nat) (c:Int) (out:LI),i<5->(0<=c/\c<18446744073709551616)->Z4n (Zq8 S) kk (n+1) c (i:Int) out=Z4n (Zq8 S) kk n ((S i+c) / 2251799813685248) ((i+1:Nat):Int) (Z2g out i ((S i+c)%2251799813685248)):=by
  intro n i c out hi hc
  rw [Z4n,Z02h hi (hb i hi) hc]
 have c0:=hb 0 (by decide)
 have c1:=hb 1 (by decide)
 have c2:=hb 2 (by decide)
 have c3:=hb 3 (by decide)
 have c4:=hb 4 (by decide)
 have k1 : ∃ d,(S 0+0)%2251799813685248=d/\(0<=d/\d<2251799813685248):=⟨_,rfl,by omega⟩
 have s0:=step (n+1+1+1+1+1) 0 0 (replicate 5 0) (by decide) (by decide)
 generalize hd0:(S 0+0)%2251799813685248=d0 at s0
 generalize hv0:(S 0+0) / 2251799813685248=v0 at s0
 have s1:=step (n+1+1+1+1) 1 v0 (Z2g (replicate 5 0) 0 d0) (by decide) (by omega)
 generalize hd1:(S 1+v0)%2251799813685248=d1 at s1
 generalize hv1:(S 1+v0) / 2251799813685248=v1 at s1
 have s2:=step (n+1+1+1) 2 v1 (Z2g (Z2g (replicate 5 0) 0 d0) 1 d1) (by decide) (by omega)
 generalize hd2:(S 2+v1)%2251799813685248=d2 at s2
 generalize hv2:(S 2+v1) / 2251799813685248=v2 at s2
 have s3:=step (n+1+1) 3 v2 (Z2g (Z2g (Z2g (replicate 5 0) 0 d0) 1 d1) 2 d2) (by decide) (by omega)
 generalize hd3:(S 3+v2)%2251799813685248=d3 at s3
 generalize hv3:(S 3+v2) / 2251799813685248=v3 at s3
 have s4:=step (n+1) 4 v3 (Z2g (Z2g (Z2g (Z2g (replicate 5 0) 0 d0) 1 d1) 2 d2) 3 d3) (by decide) (by omega)
 generalize hd4:(S 4+v3)%2251799813685248=d4 at s4
 generalize hv4:(S 4+v3) / 2251799813685248=v4 at s4
 have hout:Z2g (Z2g (Z2g (Z2g (Z2g (replicate 5 0) 0 d0) 1 d1) 2 d2) 3 d3) 4 d4 = [d0,d1,d2,d3,d4]:=rfl
 rw [hout] at s4
 have s5:Z4n (Zq8 S) kk (n+1) v4 ((4+1:Nat):Int) [d0,d1,d2,d3,d4]=kk v4 [d0,d1,d2,d3,d4]:=by rw [Z4n,Z98,Z1e (by decide)]
 subst hkk
 have s5:=s5.trans (Z06h (c:=v4) (d0:=d0) (d1:=d1) (d2:=d2) (d3:=d3) (d4:=d4) (by omega) (by omega) (by omega) (by omega) (by omega) (by omega))
 rw [<- hn] at s0
 refine s0.trans (s1.trans (s2.trans (s3.trans (s4.trans (s5.trans ?_)))))
 congr 2
 clear s0 s1 s2 s3 s4 s5 step hout hb hn k1 cx cy
 have e0:S 0=v0*2251799813685248+d0:=by omega
 have e1:S 1+v0=v1*2251799813685248+d1:=by omega
 have e2:S 2+v1=v2*2251799813685248+d2:=by omega
 have e3:S 3+v2=v3*2251799813685248+d3:=by omega
 have e4:S 4+v3=v4*2251799813685248+d4:=by omega
 clear hd0 hd1 hd2 hd3 hd4 hv0 hv1 hv2 hv3 hv4
 have key:S 0+S 1*2251799813685248+S 2*5070602400912917605986812821504+S 3*11417981541647679048466287755595961091061972992+S 4*25711008708143844408671393477458601640355247900524685364822016 =
   d0+d1*2251799813685248+d2*5070602400912917605986812821504+d3*11417981541647679048466287755595961091061972992+d4*25711008708143844408671393477458601640355247900524685364822016+19*v4+v4*PP:=by
  simp only [PP]; omega
 rw [key,Int.add_mul_emod_self_right]
theorem Zvi {x:LI} (hx:U5 x):Z2c x=some (Zoy (Z8w x*Z8w x%PP)):=by
 rw [Z2c,Z3 (Z02i hx hx)]
end Go.Proofs.YtkjfpenagcdmcaaGreatDoor
namespace Go.Proofs.YtkjfpenagcdmcaaGreatDoor
open Go Go.Sx Go.RowKit
open Go.IntKind (wrap)
set_option linter.all false
set_option maxRecDepth 100000
def fe (n:Int):LI:=Zoy (n%PP)
theorem Zoz (n:Int):U5 (fe n):=Zw9 _
theorem Zoi:(0:Int)<PP:=by decide
theorem Zbx (n:Int):Z8w (fe n)=n%PP:=Zp0 (Int.emod_nonneg _ (by decide)) (Int.emod_lt_of_pos _ Zoi)
theorem Z0ea (n:Int):fe (n%PP)=fe n:=by unfold fe; rw [Int.emod_emod_of_dvd _ (Int.dvd_refl _)]
theorem Zkt {a b:Int} (h:a%PP=b%PP):fe a=fe b:=by unfold fe; rw [h]
theorem Z09l (k:LI->Option (LI)) (x0 x1 x2 x3 x4 y0 y1 y2 y3 y4:Int):Z96 [y0,y1,y2,y3,y4] k big 0 [x0,x1,x2,x3,x4] =
  k ([wrap .u64 (x0+y0),wrap .u64 (x1+y1),wrap .u64 (x2+y2),wrap .u64 (x3+y3),wrap .u64 (x4+y4)]):=by kernel_rfl
theorem Z08h {x y:LI} (hx:U5 x) (hy:U5 y):Z30 x y=some (fe (Z8w x+Z8w y)):=by
 have cx:=Z01i hx
 have cy:=Z01i hy
 have ex:=Zls (x:=x)
 have ey:=Zls (x:=y)
 rw [Z30,Z3 (Zj4 hx),Z3 (Zj4 hy),Z1v]
 have hlx:Zcy x = [(Zcy x).getD 0 0,(Zcy x).getD 1 0,(Zcy x).getD 2 0,(Zcy x).getD 3 0,(Zcy x).getD 4 0]:=rfl
 have hly:Zcy y = [(Zcy y).getD 0 0,(Zcy y).getD 1 0,(Zcy y).getD 2 0,(Zcy y).getD 3 0,(Zcy y).getD 4 0]:=rfl
 have hm:(Z8w x+Z8w y)%PP=(Z8w (Zcy x)+Z8w (Zcy y))%PP:=by rw [Int.add_emod,<- ex,<- ey,<- Int.add_emod]
 rw [Zkt hm]
 generalize Zcy x=a at *
 generalize Zcy y=b at *
 have ⟨p0,p1,p2,p3,p4,q0,q1,q2,q3,q4⟩:=cx
 have ⟨r0,r1,r2,r3,r4,s0,s1,s2,s3,s4⟩:=cy
 rw [hlx,hly,Z09l]
 rw [Ze (by omega) (by omega),Ze (by omega) (by omega),Ze (by omega) (by omega),Ze (by omega) (by omega),Ze (by omega) (by omega)]
 rw [Z3 (Zbm (U5.mk5 (by omega) (by omega) (by omega) (by omega) (by omega)))]
 unfold Zql fe
 congr 3
 simp only [Z8w,List.getD_cons_zero,List.getD_cons_succ]
 omega
theorem Z0bb (k:LI->Option (LI)) (y0 y1 y2 y3 y4 z:Int):Z99 [y0,y1,y2,y3,y4] k big 1 [z,0,0,0,0] =
  k ([z,wrap .u64 (4503599627370494-y1),wrap .u64 (4503599627370494-y2),wrap .u64 (4503599627370494-y3),wrap .u64 (4503599627370494-y4)]):=by kernel_rfl
theorem Z0kq {x:LI} (hx:U5 x):Zhn x=some (fe (- Z8w x)):=by
 rw [Zhn,Z3 (Zbm hx)]
 simp only [Zr,Z1v]
 have hv:Z8w (Zql x)=Z8w x%PP:=Zbx (Z8w x)
 have hl:Zql x = [(Zql x).getD 0 0,(Zql x).getD 1 0,(Zql x).getD 2 0,(Zql x).getD 3 0,(Zql x).getD 4 0]:=rfl
 have hb : ∀ j,j<5->0<=(Zql x).getD j 0/\(Zql x).getD j 0<2251799813685248:=by
  intro j hj
  unfold Zql Zoy
  match j,hj with
  | 0,_=>simp only [M51,List.getD_cons_zero,List.getD_cons_succ]; omega
  | 1,_=>simp only [M51,List.getD_cons_zero,List.getD_cons_succ]; omega
  | 2,_=>simp only [M51,List.getD_cons_zero,List.getD_cons_succ]; omega
  | 3,_=>simp only [M51,List.getD_cons_zero,List.getD_cons_succ]; omega
  | 4,_=>simp only [M51,List.getD_cons_zero,List.getD_cons_succ]; omega
 have hm:(- Z8w x)%PP=(2*PP-Z8w (Zql x))%PP:=by
  rw [hv]
  have e : - Z8w x=2*PP-Z8w x%PP+(-2-Z8w x / PP)*PP:=by
   have:=Int.emod_add_mul_ediv (Z8w x) PP
   rw [Int.mul_comm] at this
   have h2:(-2-Z8w x / PP)*PP = -2*PP-Z8w x / PP*PP:=by rw [Int.sub_mul]
   omega
  rw [e,Int.add_mul_emod_self_right]
 rw [Zkt hm]
 generalize Zql x=a at *
 have b0:=hb 0 (by decide)
 have b1:=hb 1 (by decide)
 have b2:=hb 2 (by decide)
 have b3:=hb 3 (by decide)
 have b4:=hb 4 (by decide)
 rw [hl]
 simp only [List.getD_cons_zero]
 rw [Z0bb]
 rw [Ze (by omega) (by omega),Ze (by omega) (by omega),Ze (by omega) (by omega),Ze (by omega) (by omega),Ze (by omega) (by omega)]
 rw [Z3 (Zbm (U5.mk5 (by omega) (by omega) (by omega) (by omega) (by omega)))]
 unfold Zql fe
 congr 3
 simp only [Z8w,PP,List.getD_cons_zero,List.getD_cons_succ]
 omega
theorem Z0p1 {x y:LI} (hx:U5 x) (hy:U5 y):Z5w x y=some (fe (Z8w x-Z8w y)):=by
 rw [Z5w,Z3 (Z0kq hy),Z3 (Z08h hx (Zoz _)),Zbx]
 rw [Zkt (a:=Z8w x + -Z8w y%PP) (b:=Z8w x-Z8w y)]
 rw [Int.sub_eq_add_neg,Int.add_emod,Int.emod_emod_of_dvd _ (Int.dvd_refl _),<- Int.add_emod]
theorem Z07x {n:Int} (h:0<=n/\n<18446744073709551616):Zd9 n=some (fe n):=by
 rw [Zd9]
 simp only [Zr]
 rw [Z3 (Zbm (U5.mk5 h (by omega) (by omega) (by omega) (by omega)))]
 unfold Zql fe
 congr 3
 simp only [Z8w,List.getD_cons_zero,List.getD_cons_succ]
 omega
theorem Zvw {x:Int} (h0:0<=x) (h1:x<18446744073709551616):Z4 .and .u64 x 1=x%2:=Zlq 1 (by decide) (by decide) h0 h1
theorem Z067 {x:LI} (hx:U5 x):Zd8 x=some (Z8w x%PP%2==1):=by
 rw [Zd8,Z3 (Zbm hx)]
 simp only [Zr]
 have e:(Zql x).getD 0 0=Z8w x%PP%2251799813685248:=rfl
 rw [e,Zvw (by omega) (by omega)]
 congr 2
 omega
theorem and8 {x y:Int} (m n:Nat) (hx:x=m) (hy:y=n) (h1:m<256) (h2:n<256):Z4 .and .u8 x y=((m &&& n:Nat):Int):=by
 subst hx; subst hy
 show IntKind.u8.wrap (((BitVec.ofInt 8 (m:Int) &&& BitVec.ofInt 8 (n:Int)).toNat:Nat):Int)=_
 rw [BitVec.toNat_and,bv8 m h1,bv8 n h2,Z0u]
 have:m &&& n<=m:=Nat.and_le_left
 omega
theorem Znx (k:Nat) {x y:Int} (hy:y=((2^k-1:Nat):Int)) (hk:2^k<=256) (h0:0<=x) (h1:x<256):Z4 .and .u8 x y=x%((2^k:Nat):Int):=by
 have hp:0<2^k:=Nat.pow_pos (by decide)
 rw [and8 x.toNat (2^k-1) (by omega) hy (by omega) (by omega),Nat.and_two_pow_sub_one_eq_mod]
 rw [Int.natCast_emod]
 congr 1; omega
theorem Z016 {x:Int} (h0:0<=x) (h1:x<256):Z4 .and .u8 x 1=x%2:=Znx 1 (by decide) (by decide) h0 h1
def Byt (e:LI):Prop:=∀ i,0<=e.getD i 0/\e.getD i 0<256
def ebit (e:LI) (i:Nat):Bool:=(e.getD (i / 8) 0 / ((2^(i%8):Nat):Int))%2==1
def pw (x:Int) (e:LI):Nat->Int
 | 0=>1
 | k+1=>if ebit e (255-k) then pw x e k*pw x e k%PP*x%PP else pw x e k*pw x e k%PP
theorem Z08w (x:Int) (e:LI) (k:Nat):0<=pw x e k/\pw x e k<PP:=by
 cases k with
 | zero=>exact ⟨by show (0:Int)<=1; decide,by show (1:Int)<PP; decide⟩
 | succ k =>
  unfold pw
  split
  ·exact ⟨Int.emod_nonneg _ (by decide),Int.emod_lt_of_pos _ Zoi⟩
  ·exact ⟨Int.emod_nonneg _ (by decide),Int.emod_lt_of_pos _ Zoi⟩
theorem Z061 {n:Int} (h0:0<=n) (h1:n<PP):fe n=Zoy n:=by unfold fe; rw [Int.emod_eq_of_lt h0 h1]
theorem Z02z {x e:LI} (hx:U5 x) (he:Byt e) {kk:LI->Option (LI)} {k':Int->LI->Option (LI)} {i:Nat} (hi:i<256) (a:Int) (ha:0<=a/\a<PP) :
  Z9a x e kk k' (i:Int) (Zoy a)=k' ((i:Int)-1) (Zoy (if ebit e i then a*a%PP*Z8w x%PP else a*a%PP)):=by
 have hsq:Z2c (Zoy a)=some (Zoy (a*a%PP)):=by rw [Zvi (Zw9 _),Zp0 ha.1 ha.2]
 rw [Z9a,Z1s (by simp),Z1v,Z3 hsq]
 simp only [Zr]
 have hd:wrap .i64 (Int.tdiv (i:Int) 8)=((i / 8:Nat):Int):=by
  rw [Int.tdiv_eq_ediv_of_nonneg (by omega),Zk (by omega) (by omega)]; omega
 have hm:Int.tmod (i:Int) 8=((i%8:Nat):Int):=by
  rw [Int.tmod_eq_emod_of_nonneg (by omega)]; omega
 rw [hd,hm,Z0b (Z19 (by omega) (by omega)),Z0b (by simp; omega)]
 have hb:=he (i / 8)
 simp only [Int.toNat_natCast]
 rw [Z9z .u8 (n:=i%8) (by show i%8<=8; omega)]
 have hp:(0:Int)<((2^(i%8):Nat):Int):=by have:=Nat.pow_pos (n:=i%8) (show 0<2 by decide); omega
 have hq0:=Int.ediv_nonneg hb.1 (Int.le_of_lt hp)
 have hq1:e.getD (i / 8) 0 / ((2^(i%8):Nat):Int)<256:=Int.lt_of_le_of_lt (Int.ediv_le_self _ hb.1) hb.2
 rw [Z016 hq0 hq1]
 have hw:wrap .i64 ((i:Int)-1)=(i:Int)-1:=Zk (by omega) (by omega)
 by_cases hbit:ebit e i=true
 ·have hb':(e.getD (i / 8) 0 / ((2^(i%8):Nat):Int)%2==1)=true:=hbit
  rw [Z1s hb',if_pos hbit,Z3 (Z02i (Zw9 _) hx),Zp0 (Int.emod_nonneg _ (by decide)) (Int.emod_lt_of_pos _ Zoi),hw]
 ·rw [Bool.not_eq_true] at hbit
  have hb':(e.getD (i / 8) 0 / ((2^(i%8):Nat):Int)%2==1)=false:=hbit
  rw [Z1e hb',if_neg (by rw [hbit]; decide),hw]
theorem Zyg {x e:LI} (hx:U5 x) (he:Byt e) : ∀ (k n:Nat),k<=256->Z5d x e some (n+1+k) ((k:Int)-1) (Zoy (pw (Z8w x) e (256-k)))=some (Zoy (pw (Z8w x) e 256))
 | 0,n,_=>by
  show Z5d x e some (n+1) _ _=_
  rw [Z5d,Z9a,Z1e (by decide)]
 | k+1,n,hk=>by
  have ih:=Zyg hx he k n (by omega)
  rw [<- Nat.add_assoc,Z5d]
  have hi:((k+1:Nat):Int)-1=(k:Int):=by omega
  rw [hi,Z02z hx he (by omega) _ (Z08w _ _ _)]
  have e1:256-k=(256-(k+1))+1:=by omega
  have e2:255-(256-(k+1))=k:=by omega
  rw [e1,pw,e2] at ih
  exact ih
theorem Z0lt {x e:LI} (hx:U5 x) (he:Byt e):Zhp x e=some (Zoy (pw (Z8w x) e 256)):=by
 rw [Zhp,Z3 (Z07x (by decide)),Z1v]
 obtain ⟨n,hn⟩ : ∃ n,big=n+1+256:=⟨18446744073709551359,Z21⟩
 have:=Zyg hx he 256 n (Nat.le_refl _)
 rw [<- hn] at this
 have e1:fe 1=Zoy (pw (Z8w x) e (256-256)):=rfl
 rw [e1]
 exact this
end Go.Proofs.YtkjfpenagcdmcaaGreatDoor
