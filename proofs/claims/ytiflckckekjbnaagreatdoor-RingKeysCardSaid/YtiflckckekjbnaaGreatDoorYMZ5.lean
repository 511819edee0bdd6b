/- Texts of a proof, one behind the other: L11 L12 L13 L14 L15 L16 LZ F0 F1 F2 F3 F4 F5. -/
import Derived.Test.YtiflckckekjbnaaGreatDoorYMZ4
namespace Go.Proofs.YtiflckckekjbnaaGreatDoor
open Go Go.Sx Go.RowKit
open List (replicate)
open Go.IntKind (wrap)
set_option linter.all false
set_option maxHeartbeats 400000
set_option maxRecDepth 100000
abbrev Z0k:El (Zi):=⟨20,fun x=>cells [u5' x.gX,u5' x.gY,u5' x.gZ,u5' x.gT],fun x=>by rw [cells_length]; rfl,fun x=>(Z0z Z3q (Z0z Z3q (Z0z Z3q (Z0z Z3q Z5i)))),by decide,Z1z⟩
def Z3h (p0:Zi) (k1:(List (Zi))->Option ((List (Zi)))) (k2:Int->(List (Zi))->Option ((List (Zi)))) (i1:Int) (a1:List (Zi)):Option ((List (Zi))) :=
 br ((decide (i1<15))) (
 bnd (wrap .i64 (i1+1)) fun z1 =>
 chk (inB i1 16) <|
 bnd (a1.getD (i1).toNat Z1z) fun x1 =>
 opt (Za4 x1 p0) fun y1 =>
 chk (inB z1 16) <|
 bnd (Zkm Z1z a1 (z1).toNat y1) fun l1 =>
 bnd (wrap .i64 (i1+1)) fun z2 =>
 k2 z2 l1
 ) (
 k1 a1
 )
def Z22 (p0:Zi) (k1:(List (Zi))->Option ((List (Zi)))):Nat->Int->(List (Zi))->Option ((List (Zi)))
  | 0,_,_=>none
  | n+1,i1,a1=>Z3h p0 k1 (Z22 p0 k1 n) i1 a1
def Z64 (p0:Zi):Option ((List (Zi))) :=
 opt (Z9v) fun y1 =>
 bnd (Zkm Z1z (replicate 16 Z1z) 0 y1) fun l1 =>
 jn (fun (a1:List (Zi))=>some a1) fun k1=>Z22 p0 k1 big 0 l1
theorem Zf0 {W:World} {r:(List (Zi))} {p0:Zi} (h:Z64 p0=some r)  :
    Calls Tryz.prog 133 [agg [u5' p0.gX,u5' p0.gY,u5' p0.gZ,u5' p0.gT]].toArray W (Z34 W (agg [.rows 20 16 (Zb2 Z0k (r))])):=by
 unfold Z64 at h
 refine Zc mo Z0jf rfl ?_
 refine Z0<|Z2<|Zd (Z0l (s:=[u5' p0.gX,u5' p0.gY,u5' p0.gZ,u5' p0.gT]) rfl fun b1 u1=>Zd (Zl9 (z':=[.rows 20 16 (Zb2 Z0k ((replicate 16 Z1z)))]) (Zej (E:=Z0k) rfl rfl) fun b2 u2=>Z1<|Z0<|Z2<|Zd (Zl9 (z':=[.rows 20 16 (Zb2 Z0k ((replicate 16 Z1z)))]) (Zej (E:=Z0k) rfl rfl) fun b3 u3=>Z1<|Z0<|oH h fun y1 f1 h=>bH h fun l1 g1 h=>Z2<|Z4 _ (Z1a (vs:=[]) (v:=agg [u5' y1.gX,u5' y1.gY,u5' y1.gZ,u5' y1.gT]) rfl (fun w hw=>Zdi (r:=y1) f1 ))<|Z4 _ (Z0i rfl rfl (by decide))<|Zd (Zm8 (q:=[.rows 20 16 (Zb2 Z0k (l1))]) (E:=Z0k) (base:=0) (i:=0) (len:=16) g1 rfl rfl rfl rfl (by decide) rfl .here<|Z1<|Z0<|Z0<|Z2<|Z6 rfl<|Z1<|jH h fun k1 q1 h=>Zg (G:=fun t m=>∃ (a1:List (Zi)),k1 a1=some r/\Fit [(2,pt' b2),(3,pt' b3)] (ck b3 166 [.rows 20 16 (Zb2 Z0k (a1))]::(ck b2 166 [.rows 20 16 (Zb2 Z0k ((replicate 16 Z1z)))]::(ck b1 82 [u5' p0.gX,u5' p0.gY,u5' p0.gZ,u5' p0.gT] :: []))) t m) ?_ ?_))))
 ·refine Z9<|Zm (fun n1 t m=>∃ (i1:Int) (a2:List (Zi)),Z22 p0 k1 n1 i1 a2=some r/\Fit [(1,pt' b1),(2,pt' b2),(3,pt' b3),(7,.int .i64 (i1))] (ck b3 166 [.rows 20 16 (Zb2 Z0k (a2))]::(ck b2 166 [.rows 20 16 (Zb2 Z0k ((replicate 16 Z1z)))]::(ck b1 82 [u5' p0.gX,u5' p0.gY,u5' p0.gZ,u5' p0.gT] :: []))) t m) big ?_ ?_
  ·exact ⟨0,l1,h,⟨⟨rfl,rfl,rfl,rfl,trivial⟩,(.o (.o (.o .nil)))⟩⟩
  ·rintro n1 t m ⟨i1,a2,h,hF⟩
   refine Ze hF ?_
   clear hF
   rcases n1 with _ | n1
   · exact Z07 h
   have h:Z3h p0 k1 (Z22 p0 k1 n1) i1 a2=some r:=h
   unfold Z3h at h
   obtain ⟨k2,q2⟩ : ∃ k,k=Z22 p0 k1 n1:=⟨_,rfl⟩
   try rw [<- q2] at h
   refine Z0<|Z2<|Z4 _ (Z8 rfl rfl rfl)<|Z1<|Z0<|Z09 h rfl (fun h=>?_) (fun h=>?_)
   ·refine Zh<|Z0<|Z9<|Z0<|Z2<|Z6 rfl<|Z6 rfl<|Z1<|bH h fun z1 e1 h=>cH h fun c1 h=>bH h fun x1 j1 h=>oH h fun y2 f2 h=>cH h fun c2 h=>bH h fun l2 g2 h=>Zt<|Z7 _ (Z0j rfl)<|Z7 _ (iz e1 (Z8 rfl rfl rfl))<|Z7 _ (Z0j rfl)<|Z7 _ (Z0i rfl rfl (Z08 c1))<|Zo _ (az (fun x1=>agg [u5' x1.gX,u5' x1.gY,u5' x1.gZ,u5' x1.gT]) j1 (Zo9 (base:=0) (w:=20) rfl .here rfl (Z01 c1) rfl rfl rfl))<|Zo _ (Z02 (p:=[u5' p0.gX,u5' p0.gY,u5' p0.gZ,u5' p0.gT]) rfl .t2 rfl)<|Z7 _ (Z1a (vs:=[agg [u5' x1.gX,u5' x1.gY,u5' x1.gZ,u5' x1.gT],agg [u5' p0.gX,u5' p0.gY,u5' p0.gZ,u5' p0.gT]]) (v:=agg [u5' y2.gX,u5' y2.gY,u5' y2.gZ,u5' y2.gT]) rfl (fun w hw=>Zf8 (r:=y2) (p0:=x1) (p1:=p0) f2 ))<|Z7 _ (Z0i rfl rfl (Z08 c2))<|Z1i rfl (Zm8 (q:=[.rows 20 16 (Zb2 Z0k (l2))]) (E:=Z0k) (base:=0) g2 rfl rfl rfl rfl (Z01 c2) rfl .here<|Z04<|bH h fun z2 e2 h=>Z2<|Z4 _ (iz e2 (Z8 rfl rfl rfl))<|Z6 rfl<|Z1 ?_)
    rw [q2] at h
    exact ⟨n1,Nat.lt_succ_self _,z2,l2,h,⟨⟨rfl,rfl,rfl,rfl,trivial⟩,(.o (.o (.o .nil)))⟩⟩
   ·exact Zs _ rfl<|⟨a2,h,⟨⟨rfl,rfl,trivial⟩,(.o (.o (.o .nil)))⟩⟩
 ·rintro t m ⟨a1,h,hF⟩
  refine Ze hF ?_
  clear hF
  subst q1
  refine Z0<|Z2<|Z4 _ (Z02 (p:=[.rows 20 16 (Zb2 Z0k (a1))]) rfl .here rfl)<|Zd (Zcy (q:=[.rows 20 16 (Zb2 Z0k (a1))]) rfl rfl rfl rfl (Z0z (Zga (E:=Z0k)) Z5i) .t1<|Z1<|Zj ?_)
  revert h; refine Zv fun h=>?_
  subst h
  exact ⟨_,(.cons (.agg rfl .t1 rfl) .nil),rfl⟩
def Z7h (p0:Zi):Option (Zi) :=
 opt (Z24 p0.gX) fun y1 =>
 opt (Z24 p0.gY) fun y2 =>
 opt (Z24 p0.gZ) fun y3 =>
 opt (Z2r y1 y2) fun y4 =>
 opt (Z2r p0.gX p0.gY) fun y5 =>
 opt (Z24 y5) fun y6 =>
 opt (Z4x y4 y6) fun y7 =>
 opt (Z4x y1 y2) fun y8 =>
 opt (Z2r y3 y3) fun y9 =>
 opt (Z2r y9 y8) fun y10 =>
 opt (Z7j y7 y10 y8 y4) fun y11 =>
 some y11
theorem Zgy {W:World} {r:Zi} {p0:Zi} (h:Z7h p0=some r)  :
    Calls Tryz.prog 135 [agg [u5' p0.gX,u5' p0.gY,u5' p0.gZ,u5' p0.gT]].toArray W (Z34 W (agg [u5' r.gX,u5' r.gY,u5' r.gZ,u5' r.gT])):=by
 unfold Z7h at h
 refine Zc mo Z0jh rfl ?_
 refine Z0<|Z2<|Zd (Z0l (s:=[u5' p0.gX,u5' p0.gY,u5' p0.gZ,u5' p0.gT]) rfl fun b1 u1=>Zd (Zq fun b2 u2=>Z1<|Z0<|oH h fun y1 f1 h=>Z2<|Z4 _ (Z2l rfl)<|Z4 _ (Z02 (p:=[u5' p0.gX]) rfl .t1 rfl)<|Z4 _ (Z0h rfl (Z4w f1))<|Zd (Zq fun b3 u3=>Zd (Zp (q:=[u5' y1]) rfl rfl rfl rfl rfl .here<|Z1<|Z0<|oH h fun y2 f2 h=>Z2<|Z4 _ (Z2l rfl)<|Z4 _ (Z02 (p:=[u5' p0.gY]) rfl .t2 rfl)<|Z4 _ (Z0h rfl (Z4w f2))<|Zd (Zq fun b4 u4=>Zd (Zp (q:=[u5' y2]) rfl rfl rfl rfl rfl .here<|Z1<|Z0<|oH h fun y3 f3 h=>Z2<|Z4 _ (Z2l rfl)<|Z4 _ (Z02 (p:=[u5' p0.gZ]) rfl .t3 rfl)<|Z4 _ (Z0h rfl (Z4w f3))<|Zd (Zq fun b5 u5=>Zd (Zp (q:=[u5' y3]) rfl rfl rfl rfl rfl .here<|Z1<|Z0<|oH h fun y4 f4 h=>Z2<|Z4 _ (Z02 (p:=[u5' y1]) rfl .t2 rfl)<|Z4 _ (Z02 (p:=[u5' y2]) rfl .t1 rfl)<|Z4 _ (Z0h rfl (Z2n f4))<|Zd (Zq fun b6 u6=>Zd (Zp (q:=[u5' y4]) rfl rfl rfl rfl rfl .here<|Z1<|Z0<|oH h fun y5 f5 h=>oH h fun y6 f6 h=>oH h fun y7 f7 h=>Zt<|Z7 _ (Z2l rfl)<|Z7 _ (Z2l rfl)<|Zo _ (Z02 (p:=[u5' y4]) rfl .here rfl)<|Zo _ (Z02 (p:=[u5' p0.gX]) rfl .t5 rfl)<|Zo _ (Z02 (p:=[u5' p0.gY]) rfl .t5 rfl)<|Z7 _ (Z0h rfl (Z2n f5))<|Z7 _ (Z0h rfl (Z4w f6))<|Z7 _ (Z0h rfl (Z5t f7))<|Z47 (Zq fun b7 u7=>⟨(by repeat (first | exact Sup.refl _ | apply Sup.cons | apply Sup.app)),Z1i rfl (Zp (q:=[u5' y7]) rfl rfl rfl rfl rfl .here (Z04 (Z0 (oH h fun y8 f8 h=>Z2 (Z4 _ (Z02 (p:=[u5' y1]) rfl .t4 rfl) (Z4 _ (Z02 (p:=[u5' y2]) rfl .t3 rfl) (Z4 _ (Z0h rfl (Z5t f8)) (Zd (Zq fun b8 u8=>Zd (Zp (q:=[u5' y8]) rfl rfl rfl rfl rfl .here (Z1 (Z0 (oH h fun y9 f9 h=>oH h fun y10 f10 h=>Zt (Zo _ (Z02 (p:=[u5' y3]) rfl .t3 rfl) (Zo _ (Z02 (p:=[u5' y3]) rfl .t3 rfl) (Z7 _ (Z0h rfl (Z2n f9)) (Zo _ (Z02 (p:=[u5' y8]) rfl .here rfl) (Z7 _ (Z0h rfl (Z2n f10)) (Z47 (Zq fun b9 u9=>⟨(by repeat (first | exact Sup.refl _ | apply Sup.cons | apply Sup.app)),Z1i rfl (Zp (q:=[u5' y10]) rfl rfl rfl rfl rfl .here (Z04 (Z0 (oH h fun y11 f11 h=>Z2 (Z4 _ (Z02 (p:=[u5' y7]) rfl .t2 rfl) (Z4 _ (Z02 (p:=[u5' y10]) rfl .here rfl) (Z4 _ (Z02 (p:=[u5' y8]) rfl .t1 rfl) (Z4 _ (Z02 (p:=[u5' y4]) rfl .t3 rfl) (Z4 _ (Z0h rfl (Zbk f11)) (Zd (Zp (q:=[u5' y11.gX,u5' y11.gY,u5' y11.gZ,u5' y11.gT]) rfl rfl rfl rfl rfl .t7 (Z1 (Zj ?_)))))))))))))⟩))))))))))))))))))))⟩)))))))))))
 revert h; refine Zv fun h=>?_
 subst h
 exact ⟨_,(.cons (.agg rfl .t7 rfl) .nil),rfl⟩
def Z8z (p0:LI) (p1:Int):Option Int :=
 bnd (wrap .i64 (Int.tdiv p1 2)) fun z1 =>
 bnd (wrap .i64 (31-z1)) fun z2 =>
 chk (inB z2 32) <|
 bnd (p0.getD (z2).toNat 0) fun z3 =>
 bnd (Int.tmod p1 2) fun z4 =>
 bnd (wrap .i64 (1-z4)) fun z5 =>
 bnd (wrap .i64 (4*z5)) fun z6 =>
 chk (decide (0<=z6)) <|
 bnd (Z0f .u8 z3 z6) fun z7 =>
 bnd (Za .and .u8 z7 15) fun z8 =>
 some z8
theorem Zh0 {W:World} {r:Int} {p0:LI} {p1:Int} (h:Z8z p0 p1=some r)  :
    Calls Tryz.prog 137 [agg [b3' p0],.int .i64 (p1)].toArray W (Z34 W (.int .u8 (r))):=by
 unfold Z8z at h
 refine Zc mo Z0jj rfl ?_
 refine Z0<|Z2<|Zd (Z0l (s:=[b3' p0]) rfl fun b1 u1=>Z6 rfl<|Z1<|Z0<|bH h fun z1 e1 h=>bH h fun z2 e2 h=>cH h fun c1 h=>bH h fun z3 e3 h=>bH h fun z4 e4 h=>bH h fun z5 e5 h=>bH h fun z6 e6 h=>cH h fun c2 h=>bH h fun z7 e7 h=>bH h fun z8 e8 h=>Z2<|Z6 rfl<|Z4 _ (iz e1 (Zbf rfl rfl (by decide)))<|Z4 _ (iz e2 (Z8 rfl rfl rfl))<|Z4 _ (Z0i rfl rfl (Z08 c1))<|Z4 _ (iz e3 (Z1w (base:=0) rfl .here rfl (Z01 c1)))<|Z6 rfl<|Z4 _ (iz e4 (Z8c rfl rfl (by decide)))<|Z4 _ (iz e5 (Z8 rfl rfl rfl))<|Z4 _ (iz e6 (Z8 rfl rfl rfl))<|Z4 _ (iz e7 (Z48 rfl rfl (of_decide_eq_true c2)))<|Z4 _ (iz e8 (Z8 rfl rfl rfl))<|Z6 rfl<|Z1<|Zj ?_)
 revert h; refine Zv fun h=>?_
 subst h
 exact ⟨_,(.cons (.tmp rfl) .nil),rfl⟩
def Z8y (k1:(LI)->(LI)->(LI)->(LI)->Option (Zi)) (k2:Int->(LI)->(LI)->(LI)->(LI)->Option (Zi)) (i1:Int) (a1:LI) (a2:LI) (a3:LI) (a4:LI):Option (Zi) :=
 br ((decide (i1<4))) (
 opt (Z7h (⟨a1,a2,a3,a4⟩:Zi)) fun y1 =>
 bnd (wrap .i64 (i1+1)) fun z1 =>
 k2 z1 y1.gX y1.gY y1.gZ y1.gT
 ) (
 k1 a1 a2 a3 a4
 )
def Z3s (k1:(LI)->(LI)->(LI)->(LI)->Option (Zi)):Nat->Int->(LI)->(LI)->(LI)->(LI)->Option (Zi)
  | 0,_,_,_,_,_=>none
  | n+1,i1,a1,a2,a3,a4=>Z8y k1 (Z3s k1 n) i1 a1 a2 a3 a4
def Z8x (p0:LI) (y1:(List (Zi))) (k1:(LI)->(LI)->(LI)->(LI)->Option (Zi)) (k2:Int->(LI)->(LI)->(LI)->(LI)->Option (Zi)) (i1:Int) (a1:LI) (a2:LI) (a3:LI) (a4:LI):Option (Zi) :=
 br ((decide (i1<64))) (
 jn (fun (a5:LI) (a6:LI) (a7:LI) (a8:LI)=>opt (Z8z p0 i1) fun y2 =>
 chk (inB y2 16) <|
 bnd (y1.getD (y2).toNat Z1z) fun x1 =>
 opt (Za4 (⟨a5,a6,a7,a8⟩:Zi) x1) fun y3 =>
 bnd (wrap .i64 (i1+1)) fun z1 =>
 k2 z1 y3.gX y3.gY y3.gZ y3.gT) fun k3=>Z3s k3 big 0 a1 a2 a3 a4
 ) (
 k1 a1 a2 a3 a4
 )
def Z59 (p0:LI) (y1:(List (Zi))) (k1:(LI)->(LI)->(LI)->(LI)->Option (Zi)):Nat->Int->(LI)->(LI)->(LI)->(LI)->Option (Zi)
  | 0,_,_,_,_,_=>none
  | n+1,i1,a1,a2,a3,a4=>Z8x p0 y1 k1 (Z59 p0 y1 k1 n) i1 a1 a2 a3 a4
def Zdh (p0:LI) (p1:Zi):Option (Zi) :=
 opt (Z64 p1) fun y1 =>
 opt (Z9v) fun y2 =>
 jn (fun (a1:LI) (a2:LI) (a3:LI) (a4:LI)=>some (⟨a1,a2,a3,a4⟩:Zi)) fun k1=>Z59 p0 y1 k1 big 0 y2.gX y2.gY y2.gZ y2.gT
theorem Zko {W:World} {r:Zi} {p0:LI} {p1:Zi} (h:Zdh p0 p1=some r)  :
    Calls Tryz.prog 94 [agg [b3' p0],agg [u5' p1.gX,u5' p1.gY,u5' p1.gZ,u5' p1.gT]].toArray W (Z34 W (agg [u5' r.gX,u5' r.gY,u5' r.gZ,u5' r.gT])):=by
 unfold Zdh at h
 refine Zc mo ok94 rfl ?_
 refine Z0<|Z2<|Zd (Z0l (s:=[b3' p0]) rfl fun b1 u1=>Zd (Z0l (s:=[u5' p1.gX,u5' p1.gY,u5' p1.gZ,u5' p1.gT]) rfl fun b2 u2=>Zd (Zq fun b3 u3=>Z1<|Z0<|oH h fun y1 f1 h=>Z2<|Z4 _ (Z02 (p:=[u5' p1.gX,u5' p1.gY,u5' p1.gZ,u5' p1.gT]) rfl .t1 rfl)<|Z4 _ (Z0h rfl (Zf0 f1))<|Zd (Zl9 (z':=[.rows 20 16 (Zb2 Z0k ((replicate 16 Z1z)))]) (Zej (E:=Z0k) rfl rfl) fun b4 u4=>Zd (Zcy (q:=[.rows 20 16 (Zb2 Z0k (y1))]) rfl rfl rfl rfl (Z0z (Zga (E:=Z0k)) Z5i) .here<|Z1<|Z0<|oH h fun y2 f2 h=>Z2<|Z4 _ (Z1a (vs:=[]) (v:=agg [u5' y2.gX,u5' y2.gY,u5' y2.gZ,u5' y2.gT]) rfl (fun w hw=>Zdi (r:=y2) f2 ))<|Zd (Zq fun b5 u5=>Zd (Zp (q:=[u5' y2.gX,u5' y2.gY,u5' y2.gZ,u5' y2.gT]) rfl rfl rfl rfl rfl .here<|Z1<|Z0<|Z0<|Z2<|Z6 rfl<|Z1<|jH h fun k1 q1 h=>Zg (G:=fun t m=>∃ (a1:LI) (a2:LI) (a3:LI) (a4:LI),k1 a1 a2 a3 a4=some r/\Fit [(4,pt' b3),(6,pt' b5)] (ck b5 82 [u5' a1,u5' a2,u5' a3,u5' a4]::(ck b4 166 [.rows 20 16 (Zb2 Z0k (y1))]::(ck b3 82 [u5' (replicate 5 0),u5' (replicate 5 0),u5' (replicate 5 0),u5' (replicate 5 0)]::(ck b2 82 [u5' p1.gX,u5' p1.gY,u5' p1.gZ,u5' p1.gT]::(ck b1 74 [b3' p0] :: []))))) t m) ?_ ?_)))))))
 ·refine Z9<|Zm (fun n1 t m=>∃ (i1:Int) (a5:LI) (a6:LI) (a7:LI) (a8:LI),Z59 p0 y1 k1 n1 i1 a5 a6 a7 a8=some r/\Fit [(2,pt' b1),(4,pt' b3),(5,pt' b4),(6,pt' b5),(11,.int .i64 (i1))] (ck b5 82 [u5' a5,u5' a6,u5' a7,u5' a8]::(ck b4 166 [.rows 20 16 (Zb2 Z0k (y1))]::(ck b3 82 [u5' (replicate 5 0),u5' (replicate 5 0),u5' (replicate 5 0),u5' (replicate 5 0)]::(ck b2 82 [u5' p1.gX,u5' p1.gY,u5' p1.gZ,u5' p1.gT]::(ck b1 74 [b3' p0] :: []))))) t m) big ?_ ?_
  ·exact ⟨0,y2.gX,y2.gY,y2.gZ,y2.gT,h,⟨⟨rfl,rfl,rfl,rfl,rfl,trivial⟩,(.o (.o (.o (.o (.o .nil)))))⟩⟩
  ·rintro n1 t m ⟨i1,a5,a6,a7,a8,h,hF⟩
   refine Ze hF ?_
   clear hF
   rcases n1 with _ | n1
   · exact Z07 h
   have h:Z8x p0 y1 k1 (Z59 p0 y1 k1 n1) i1 a5 a6 a7 a8=some r:=h
   unfold Z8x at h
   obtain ⟨k2,q2⟩ : ∃ k,k=Z59 p0 y1 k1 n1:=⟨_,rfl⟩
   try rw [<- q2] at h
   refine Z0<|Z2<|Z4 _ (Z8 rfl rfl rfl)<|Z1<|Z0<|Z09 h rfl (fun h=>?_) (fun h=>?_)
   ·refine Zh<|Z0<|Z9<|Z0<|Z2<|Z6 rfl<|Z6 rfl<|Z1<|Z0<|Z0<|Z2<|Z6 rfl<|Z1<|jH h fun k3 q3 h=>Zg (G:=fun t m=>∃ (a9:LI) (a10:LI) (a11:LI) (a12:LI),k3 a9 a10 a11 a12=some r/\Fit [(2,pt' b1),(4,pt' b3),(5,pt' b4),(6,pt' b5),(7,.int .i64 (i1)),(11,.int .i64 (i1))] (ck b5 82 [u5' a9,u5' a10,u5' a11,u5' a12]::(ck b4 166 [.rows 20 16 (Zb2 Z0k (y1))]::(ck b3 82 [u5' (replicate 5 0),u5' (replicate 5 0),u5' (replicate 5 0),u5' (replicate 5 0)]::(ck b2 82 [u5' p1.gX,u5' p1.gY,u5' p1.gZ,u5' p1.gT]::(ck b1 74 [b3' p0] :: []))))) t m) ?_ ?_
    ·refine Z9<|Zm (fun n2 t m=>∃ (i2:Int) (a13:LI) (a14:LI) (a15:LI) (a16:LI),Z3s k3 n2 i2 a13 a14 a15 a16=some r/\Fit [(2,pt' b1),(4,pt' b3),(5,pt' b4),(6,pt' b5),(7,.int .i64 (i1)),(11,.int .i64 (i1)),(14,.int .i64 (i2))] (ck b5 82 [u5' a13,u5' a14,u5' a15,u5' a16]::(ck b4 166 [.rows 20 16 (Zb2 Z0k (y1))]::(ck b3 82 [u5' (replicate 5 0),u5' (replicate 5 0),u5' (replicate 5 0),u5' (replicate 5 0)]::(ck b2 82 [u5' p1.gX,u5' p1.gY,u5' p1.gZ,u5' p1.gT]::(ck b1 74 [b3' p0] :: []))))) t m) big ?_ ?_
     ·exact ⟨0,a5,a6,a7,a8,h,⟨⟨rfl,rfl,rfl,rfl,rfl,rfl,rfl,trivial⟩,(.o (.o (.o (.o (.o .nil)))))⟩⟩
     ·rintro n2 t m ⟨i2,a13,a14,a15,a16,h,hF⟩
      refine Ze hF ?_
      clear hF
      rcases n2 with _ | n2
      · exact Z07 h
      have h:Z8y k3 (Z3s k3 n2) i2 a13 a14 a15 a16=some r:=h
      unfold Z8y at h
      obtain ⟨k4,q4⟩ : ∃ k,k=Z3s k3 n2:=⟨_,rfl⟩
      try rw [<- q4] at h
      refine Z0<|Z2<|Z4 _ (Z8 rfl rfl rfl)<|Z1<|Z0<|Z09 h rfl (fun h=>?_) (fun h=>?_)
      ·refine Zh<|Z0<|Z9<|oH h fun y3 f3 h=>Z2<|Z4 _ (Z02 (p:=[u5' a13,u5' a14,u5' a15,u5' a16]) rfl .here rfl)<|Z4 _ (Z1a (vs:=[agg [u5' a13,u5' a14,u5' a15,u5' a16]]) (v:=agg [u5' y3.gX,u5' y3.gY,u5' y3.gZ,u5' y3.gT]) rfl (fun w hw=>Zgy (r:=y3) (p0:=(⟨a13,a14,a15,a16⟩:Zi)) f3 ))<|Zd (Zp (q:=[u5' y3.gX,u5' y3.gY,u5' y3.gZ,u5' y3.gT]) rfl rfl rfl rfl rfl .here<|Z1<|bH h fun z1 e1 h=>Z2<|Z4 _ (iz e1 (Z8 rfl rfl rfl))<|Z6 rfl<|Z1 ?_)
       rw [q4] at h
       exact ⟨n2,Nat.lt_succ_self _,z1,y3.gX,y3.gY,y3.gZ,y3.gT,h,⟨⟨rfl,rfl,rfl,rfl,rfl,rfl,rfl,trivial⟩,(.o (.o (.o (.o (.o .nil)))))⟩⟩
      ·exact Zs _ rfl<|⟨a13,a14,a15,a16,h,⟨⟨rfl,rfl,rfl,rfl,rfl,rfl,trivial⟩,(.o (.o (.o (.o (.o .nil)))))⟩⟩
    ·rintro t m ⟨a9,a10,a11,a12,h,hF⟩
     refine Ze hF ?_
     clear hF
     subst q3
     refine oH h fun y4 f4 h=>cH h fun c1 h=>bH h fun x1 j1 h=>oH h fun y5 f5 h=>Zt<|Z7 _ (Z0j rfl)<|Zo _ (Z02 (p:=[u5' a9,u5' a10,u5' a11,u5' a12]) rfl .here rfl)<|Zo _ (Z02 (p:=[b3' p0]) rfl .t4 rfl)<|Z7 _ (Z1a (vs:=[agg [b3' p0],.int .i64 (i1)]) (v:=.int .u8 (y4)) rfl (fun w hw=>Zh0 (r:=y4) (p0:=p0) (p1:=i1) f4 ))<|Z7 _ (Z0i rfl rfl (Z08 c1))<|Zo _ (az (fun x1=>agg [u5' x1.gX,u5' x1.gY,u5' x1.gZ,u5' x1.gT]) j1 (Zo9 (base:=0) (w:=20) rfl .t1 rfl (Z01 c1) rfl rfl rfl))<|Z7 _ (Z1a (vs:=[agg [u5' a9,u5' a10,u5' a11,u5' a12],agg [u5' x1.gX,u5' x1.gY,u5' x1.gZ,u5' x1.gT]]) (v:=agg [u5' y5.gX,u5' y5.gY,u5' y5.gZ,u5' y5.gT]) rfl (fun w hw=>Zf8 (r:=y5) (p0:=(⟨a9,a10,a11,a12⟩:Zi)) (p1:=x1) f5 ))<|Z1i rfl (Zp (q:=[u5' y5.gX,u5' y5.gY,u5' y5.gZ,u5' y5.gT]) rfl rfl rfl rfl rfl .here<|Z04<|bH h fun z2 e2 h=>Z2<|Z4 _ (iz e2 (Z8 rfl rfl rfl))<|Z6 rfl<|Z1 ?_)
     rw [q2] at h
     exact ⟨n1,Nat.lt_succ_self _,z2,y5.gX,y5.gY,y5.gZ,y5.gT,h,⟨⟨rfl,rfl,rfl,rfl,rfl,trivial⟩,(.o (.o (.o (.o (.o .nil)))))⟩⟩
   ·exact Zs _ rfl<|⟨a5,a6,a7,a8,h,⟨⟨rfl,rfl,trivial⟩,(.o (.o (.o (.o (.o .nil)))))⟩⟩
 ·rintro t m ⟨a1,a2,a3,a4,h,hF⟩
  refine Ze hF ?_
  clear hF
  subst q1
  refine Z0<|Z2<|Z4 _ (Z02 (p:=[u5' a1,u5' a2,u5' a3,u5' a4]) rfl .here rfl)<|Zd (Zp (q:=[u5' a1,u5' a2,u5' a3,u5' a4]) rfl rfl rfl rfl rfl .t2<|Z1<|Zj ?_)
  revert h; refine Zv fun h=>?_
  subst h
  exact ⟨_,(.cons (.agg rfl .t2 rfl) .nil),rfl⟩
def Z7y (p0:LI) (k1:(LI)->OL) (k2:Int->(LI)->OL) (i1:Int) (a1:LI):OL :=
 br ((decide (i1<32))) (
 jn (fun (a2:LI)=>bnd (wrap .i64 (i1+1)) fun z1 =>
 k2 z1 a2) fun k3=>chk (inB i1 32) <|
 bnd (p0.getD (i1).toNat 0) fun z2 =>
 jn (fun (i2:Int)=>bnd (wrap .i64 (8*i1)) fun z3 =>
 bnd (wrap .i64 (Int.tdiv z3 51)) fun z4 =>
 bnd (wrap .i64 (8*i1)) fun z5 =>
 bnd (Int.tmod z5 51) fun z6 =>
 chk (inB z4 5) <|
 bnd (wrap .u64 i2) fun z7 =>
 chk (decide (0<=z6)) <|
 bnd (Z1v .u64 z7 z6) fun z8 =>
 bnd (Za .and .u64 z8 2251799813685247) fun z9 =>
 bnd (a1.getD (z4).toNat 0) fun z10 =>
 bnd (Za .or .u64 z10 z9) fun z11 =>
 chk (inB z4 5) <|
 bnd (Z28 a1 (z4).toNat z11) fun l1 =>
 br (((decide (z6>43))&&(decide (z4<4)))) (
 bnd (wrap .i64 (z4+1)) fun z12 =>
 chk (inB z12 5) <|
 bnd (wrap .u64 i2) fun z13 =>
 bnd (wrap .i64 (51-z6)) fun z14 =>
 chk (decide (0<=z14)) <|
 bnd (Z0f .u64 z13 z14) fun z15 =>
 bnd (l1.getD (z12).toNat 0) fun z16 =>
 bnd (Za .or .u64 z16 z15) fun z17 =>
 chk (inB z12 5) <|
 bnd (Z28 l1 (z12).toNat z17) fun l2 =>
 k3 l2
 ) (
 k3 l1
 )) fun k4=>br ((i1==31)) (
 bnd (Za .and .u8 z2 127) fun z18 =>
 k4 z18
 ) (
 k4 z2
 )
 ) (
 k1 a1
 )
def Z3k (p0:LI) (k1:(LI)->OL):Nat->Int->(LI)->OL
  | 0,_,_=>none
  | n+1,i1,a1=>Z7y p0 k1 (Z3k p0 k1 n) i1 a1
def Z4v (p0:LI):OL :=
 jn (fun (a1:LI)=>opt (Z2i a1) fun y1 =>
 some y1) fun k1=>Z3k p0 k1 big 0 (replicate 5 0)
theorem Z9q {W:World} {r:(LI)} {p0:LI} (h:Z4v p0=some r)  :
    Calls Tryz.prog 122 [agg [b3' p0]].toArray W (Z34 W (agg [u5' r])):=by
 unfold Z4v at h
 refine Zc mo Z0j9 rfl ?_
 refine Z0<|Z2<|Zd (Z0l (s:=[b3' p0]) rfl fun b1 u1=>Zd (Zq fun b2 u2=>Z1<|Z0<|Z2<|Zd (Zq fun b3 u3=>Z1<|Z0<|Z0<|Z2<|Z4 _ (Z02 (p:=[b3' p0]) rfl .t2 rfl)<|Z6 rfl<|Z1<|jH h fun k1 q1 h=>Zg (G:=fun t m=>∃ (a1:LI),k1 a1=some r/\Fit [(2,pt' b2),(3,pt' b3)] (ck b3 80 [u5' a1]::(ck b2 80 [u5' (replicate 5 0)]::(ck b1 22 [b3' p0] :: []))) t m) ?_ ?_)))
 ·refine Z9<|Zm (fun n1 t m=>∃ (i1:Int) (a2:LI),Z3k p0 k1 n1 i1 a2=some r/\Fit [(2,pt' b2),(3,pt' b3),(8,agg [b3' p0]),(9,.int .i64 (i1))] (ck b3 80 [u5' a2]::(ck b2 80 [u5' (replicate 5 0)]::(ck b1 22 [b3' p0] :: []))) t m) big ?_ ?_
  ·exact ⟨0,(replicate 5 0),h,⟨⟨rfl,rfl,rfl,rfl,trivial⟩,(.o (.o (.o .nil)))⟩⟩
  ·rintro n1 t m ⟨i1,a2,h,hF⟩
   refine Ze hF ?_
   clear hF
   rcases n1 with _ | n1
   · exact Z07 h
   have h:Z7y p0 k1 (Z3k p0 k1 n1) i1 a2=some r:=h
   unfold Z7y at h
   obtain ⟨k2,q2⟩ : ∃ k,k=Z3k p0 k1 n1:=⟨_,rfl⟩
   try rw [<- q2] at h
   refine Z0<|Z2<|Z4 _ (Z8 rfl rfl rfl)<|Z1<|Z0<|Z09 h rfl (fun h=>?_) (fun h=>?_)
   ·refine Zh<|Z0<|jH h fun k3 q3 h=>Zg (G:=fun t m=>∃ (a3:LI),k3 a3=some r/\Fit [(2,pt' b2),(3,pt' b3),(8,agg [b3' p0]),(9,.int .i64 (i1))] (ck b3 80 [u5' a3]::(ck b2 80 [u5' (replicate 5 0)]::(ck b1 22 [b3' p0] :: []))) t m) ?_ ?_
    ·refine Z9<|Z0<|cH h fun c1 h=>bH h fun z1 e1 h=>Z2<|Z6 rfl<|Z4 _ (iz e1 (Zfb (len:=32) rfl rfl (Z08 c1)))<|Z6 rfl<|Z6 rfl<|Z1<|Z0<|Z0<|Z2<|Z6 rfl<|Z4 _ (Z8 rfl rfl rfl)<|Z1<|jH h fun k4 q4 h=>Zg (G:=fun t m=>∃ (i2:Int),k4 i2=some r/\Fit [(2,pt' b2),(3,pt' b3),(4,.int .i64 (i1)),(5,.int .u8 (i2)),(8,agg [b3' p0]),(9,.int .i64 (i1))] (ck b3 80 [u5' a2]::(ck b2 80 [u5' (replicate 5 0)]::(ck b1 22 [b3' p0] :: []))) t m) ?_ ?_
     ·refine Z09 h rfl (fun h=>?_) (fun h=>?_)
      ·exact bH h fun z2 e2 h=>Z2<|Z6 rfl<|Z4 _ (iz e2 (Z8 rfl rfl rfl))<|Z6 rfl<|Z1<|⟨z2,h,⟨⟨rfl,rfl,rfl,rfl,rfl,rfl,trivial⟩,(.o (.o (.o .nil)))⟩⟩
      ·exact Zh<|⟨z1,h,⟨⟨rfl,rfl,rfl,rfl,rfl,rfl,trivial⟩,(.o (.o (.o .nil)))⟩⟩
     ·rintro t m ⟨i2,h,hF⟩
      refine Ze hF ?_
      clear hF
      subst q4
      refine Z0<|bH h fun z3 e3 h=>bH h fun z4 e4 h=>bH h fun z5 e5 h=>bH h fun z6 e6 h=>Z2<|Z6 rfl<|Z4 _ (iz e3 (Z8 rfl rfl rfl))<|Z4 _ (iz e4 (Zbf rfl rfl (by decide)))<|Z6 rfl<|Z4 _ (iz e5 (Z8 rfl rfl rfl))<|Z4 _ (iz e6 (Z8c rfl rfl (by decide)))<|Z6 rfl<|Z6 rfl<|Z1<|Z0<|cH h fun c2 h=>bH h fun z7 e7 h=>cH h fun c3 h=>bH h fun z8 e8 h=>bH h fun z9 e9 h=>bH h fun z10 e10 h=>bH h fun z11 e11 h=>cH h fun c4 h=>bH h fun l1 g1 h=>Zt<|Z7 _ (Z0j rfl)<|Z7 _ (Z0i rfl rfl (Z08 c2))<|Z7 _ (Z0j rfl)<|Z7 _ (iz e7 (Z33 rfl))<|Z7 _ (Z0j rfl)<|Z7 _ (iz e8 (Zhg rfl rfl (of_decide_eq_true c3)))<|Z7 _ (iz e9 (Z8 rfl rfl rfl))<|Zo _ (iz e10 (Z1w (base:=0) rfl .here rfl (Z01 c2)))<|Z7 _ (iz e11 (Z8 rfl rfl rfl))<|Z7 _ (Z0i rfl rfl (Z08 c4))<|Z1i rfl (Z1h (q:=[u5' l1]) (base:=0) g1 rfl rfl rfl (Z01 c4) rfl .here<|Z04<|Z0<|Z2<|Z6 rfl<|Z4 _ (Z8 rfl rfl rfl)<|Z6 rfl<|Zi2 rfl rfl rfl (fun hg1=>Z2z rfl _ (Z0j rfl) (Z2z rfl _ (Z8 rfl rfl rfl) (Z3f))) (fun hg1=>rfl) rfl<|Z1<|Z09 h rfl (fun h=>?_) (fun h=>?_))
      ·exact bH h fun z12 e12 h=>cH h fun c5 h=>bH h fun z13 e13 h=>bH h fun z14 e14 h=>cH h fun c6 h=>bH h fun z15 e15 h=>bH h fun z16 e16 h=>bH h fun z17 e17 h=>cH h fun c7 h=>bH h fun l2 g2 h=>Zt<|Z7 _ (Z0j rfl)<|Z7 _ (iz e12 (Z8 rfl rfl rfl))<|Z7 _ (Z0i rfl rfl (Z08 c5))<|Z7 _ (Z0j rfl)<|Z7 _ (iz e13 (Z33 rfl))<|Z7 _ (Z0j rfl)<|Z7 _ (iz e14 (Z8 rfl rfl rfl))<|Z7 _ (iz e15 (Z48 rfl rfl (of_decide_eq_true c6)))<|Zo _ (iz e16 (Z1w (base:=0) rfl .here rfl (Z01 c5)))<|Z7 _ (iz e17 (Z8 rfl rfl rfl))<|Z7 _ (Z0i rfl rfl (Z08 c7))<|Z1i rfl (Z1h (q:=[u5' l2]) (base:=0) g2 rfl rfl rfl (Z01 c7) rfl .here<|Z04<|⟨l2,h,⟨⟨rfl,rfl,rfl,rfl,trivial⟩,(.o (.o (.o .nil)))⟩⟩)
      ·exact Zh<|⟨l1,h,⟨⟨rfl,rfl,rfl,rfl,trivial⟩,(.o (.o (.o .nil)))⟩⟩
    ·rintro t m ⟨a3,h,hF⟩
     refine Ze hF ?_
     clear hF
     subst q3
     refine bH h fun z18 e18 h=>Z2<|Z4 _ (iz e18 (Z8 rfl rfl rfl))<|Z6 rfl<|Z1 ?_
     rw [q2] at h
     exact ⟨n1,Nat.lt_succ_self _,z18,a3,h,⟨⟨rfl,rfl,rfl,rfl,trivial⟩,(.o (.o (.o .nil)))⟩⟩
   ·exact Zs _ rfl<|⟨a2,h,⟨⟨rfl,rfl,trivial⟩,(.o (.o (.o .nil)))⟩⟩
 ·rintro t m ⟨a1,h,hF⟩
  refine Ze hF ?_
  clear hF
  subst q1
  refine Z0<|oH h fun y1 f1 h=>Z2<|Z4 _ (Z02 (p:=[u5' a1]) rfl .here rfl)<|Z4 _ (Z0h rfl (Z2j f1))<|Zd (Zp (q:=[u5' y1]) rfl rfl rfl rfl rfl .t1<|Z1<|Zj ?_)
  revert h; refine Zv fun h=>?_
  subst h
  exact ⟨_,(.cons (.agg rfl .t1 rfl) .nil),rfl⟩
def Zb9 (k1:(LI)->Option (Zi)) (k2:Int->(LI)->Option (Zi)) (i1:Int) (a1:LI):Option (Zi) :=
 br ((decide (i1<31))) (
 bnd (wrap .i64 (i1+1)) fun z1 =>
 chk (inB z1 32) <|
 bnd (Z28 a1 (z1).toNat 102) fun l1 =>
 bnd (wrap .i64 (i1+1)) fun z2 =>
 k2 z2 l1
 ) (
 k1 a1
 )
def Z5r (k1:(LI)->Option (Zi)):Nat->Int->(LI)->Option (Zi)
  | 0,_,_=>none
  | n+1,i1,a1=>Zb9 k1 (Z5r k1 n) i1 a1
def Za5:Option (Zi) :=
 bnd (([26,213,37,143,96,45,86,201,178,167,37,149,96,199,44,105,92,220,214,253,49,226,164,192,254,83,110,205,211,54,105,33]:LI)) fun z1 =>
 opt (Z4v z1) fun y1 =>
 bnd (([88,0,0,0,0,0,0,0,0,0,0,0,0,0,0,0,0,0,0,0,0,0,0,0,0,0,0,0,0,0,0,0]:LI)) fun z2 =>
 jn (fun (a1:LI)=>opt (Z4v a1) fun y2 =>
 opt (Z8g) fun y3 =>
 opt (Z1k y1 y2) fun y4 =>
 some (⟨y1,y2,y3,y4⟩:Zi)) fun k1=>Z5r k1 big 0 z2
theorem Zi7 {W:World} {r:Zi} (h:Za5=some r)  :
    Calls Tryz.prog 95 [].toArray W (Z34 W (agg [u5' r.gX,u5' r.gY,u5' r.gZ,u5' r.gT])):=by
 unfold Za5 at h
 refine Zc mo ok95 rfl ?_
 refine Z0<|Z2<|Zd (Zq fun b1 u1=>Z1<|Z0<|bH h fun z1 e1 h=>oH h fun y1 f1 h=>Z2<|Z4 _ (az (fun z=>agg [.ints .u8 32 z]) e1 (Zd2 (.one rfl rfl rfl (.one rfl rfl rfl (.one rfl rfl rfl (.one rfl rfl rfl (.one rfl rfl rfl (.one rfl rfl rfl (.one rfl rfl rfl (.one rfl rfl rfl (.one rfl rfl rfl (.one rfl rfl rfl (.one rfl rfl rfl (.one rfl rfl rfl (.one rfl rfl rfl (.one rfl rfl rfl (.one rfl rfl rfl (.one rfl rfl rfl (.one rfl rfl rfl (.one rfl rfl rfl (.one rfl rfl rfl (.one rfl rfl rfl (.one rfl rfl rfl (.one rfl rfl rfl (.one rfl rfl rfl (.one rfl rfl rfl (.one rfl rfl rfl (.one rfl rfl rfl (.one rfl rfl rfl (.one rfl rfl rfl (.one rfl rfl rfl (.one rfl rfl rfl (.one rfl rfl rfl (.one rfl rfl rfl BdR.nil))))))))))))))))))))))))))))))))))<|Z4 _ (Z0h rfl (Z9q f1))<|Zd (Zq fun b2 u2=>Zd (Zp (q:=[u5' y1]) rfl rfl rfl rfl rfl .here<|Z1<|Z0<|bH h fun z2 e2 h=>Z2<|Z4 _ (az (fun z=>agg [.ints .u8 32 z]) e2 (Zd2 (.one rfl rfl rfl BdR.nil)))<|Zd (Zq fun b3 u3=>Zd (Zp (q:=[b3' z2]) rfl rfl rfl rfl rfl .here<|Z1<|Z0<|Z0<|Z2<|Z6 rfl<|Z1<|jH h fun k1 q1 h=>Zg (G:=fun t m=>∃ (a1:LI),k1 a1=some r/\Fit [(0,pt' b1),(1,pt' b2),(2,pt' b3)] (ck b3 22 [b3' a1]::(ck b2 80 [u5' y1]::(ck b1 82 [u5' (replicate 5 0),u5' (replicate 5 0),u5' (replicate 5 0),u5' (replicate 5 0)] :: []))) t m) ?_ ?_)))))
 ·refine Z9<|Zm (fun n1 t m=>∃ (i1:Int) (a2:LI),Z5r k1 n1 i1 a2=some r/\Fit [(0,pt' b1),(1,pt' b2),(2,pt' b3),(8,.int .i64 (i1))] (ck b3 22 [b3' a2]::(ck b2 80 [u5' y1]::(ck b1 82 [u5' (replicate 5 0),u5' (replicate 5 0),u5' (replicate 5 0),u5' (replicate 5 0)] :: []))) t m) big ?_ ?_
  ·exact ⟨0,z2,h,⟨⟨rfl,rfl,rfl,rfl,trivial⟩,(.o (.o (.o .nil)))⟩⟩
  ·rintro n1 t m ⟨i1,a2,h,hF⟩
   refine Ze hF ?_
   clear hF
   rcases n1 with _ | n1
   · exact Z07 h
   have h:Zb9 k1 (Z5r k1 n1) i1 a2=some r:=h
   unfold Zb9 at h
   obtain ⟨k2,q2⟩ : ∃ k,k=Z5r k1 n1:=⟨_,rfl⟩
   try rw [<- q2] at h
   refine Z0<|Z2<|Z4 _ (Z8 rfl rfl rfl)<|Z1<|Z0<|Z09 h rfl (fun h=>?_) (fun h=>?_)
   ·refine Zh<|Z0<|Z9<|Z0<|Z2<|Z6 rfl<|Z6 rfl<|Z1<|bH h fun z3 e3 h=>cH h fun c1 h=>bH h fun l1 g1 h=>Z2<|Z6 rfl<|Z4 _ (iz e3 (Z8 rfl rfl rfl))<|Z4 _ (Z0i rfl rfl (Z08 c1))<|Zd (Z1h (q:=[b3' l1]) (base:=0) g1 rfl rfl rfl (Z01 c1) rfl .here<|Z1<|bH h fun z4 e4 h=>Z2<|Z4 _ (iz e4 (Z8 rfl rfl rfl))<|Z6 rfl<|Z1 ?_)
    rw [q2] at h
    exact ⟨n1,Nat.lt_succ_self _,z4,l1,h,⟨⟨rfl,rfl,rfl,rfl,trivial⟩,(.o (.o (.o .nil)))⟩⟩
   ·exact Zs _ rfl<|⟨a2,h,⟨⟨rfl,rfl,rfl,trivial⟩,(.o (.o (.o .nil)))⟩⟩
 ·rintro t m ⟨a1,h,hF⟩
  refine Ze hF ?_
  clear hF
  subst q1
  refine Z0<|oH h fun y2 f2 h=>Z2<|Z4 _ (Z02 (p:=[b3' a1]) rfl .here rfl)<|Z4 _ (Z0h rfl (Z9q f2))<|Zd (Zq fun b4 u4=>Zd (Zp (q:=[u5' y2]) rfl rfl rfl rfl rfl .here<|Z1<|Z0<|oH h fun y3 f3 h=>oH h fun y4 f4 h=>Zt<|Z7 _ (Z0h rfl (Za6 f3))<|Zo _ (Z02 (p:=[u5' y1]) rfl .t2 rfl)<|Zo _ (Z02 (p:=[u5' y2]) rfl .here rfl)<|Zo _ (Z02 (p:=[u5' y1]) rfl .t2 rfl)<|Zo _ (Z02 (p:=[u5' y2]) rfl .here rfl)<|Z7 _ (Z0h rfl (Z1b f4))<|Z7 _ (Zd2 (q:=[u5' y1,u5' y2,u5' y3,u5' y4]) (.agg rfl rfl rfl (.agg rfl rfl rfl (.agg rfl rfl rfl (.agg rfl rfl rfl BdR.nil)))))<|Z1i rfl (Zp (q:=[u5' y1,u5' y2,u5' y3,u5' y4]) rfl rfl rfl rfl rfl .t3<|Z04<|Zj ?_)))
  revert h; refine Zv fun h=>?_
  subst h
  exact ⟨_,(.cons (.agg rfl .t3 rfl) .nil),rfl⟩
def Z6p (p0:LI):Option (Zi) :=
 opt (Za5) fun y1 =>
 opt (Zdh p0 y1) fun y2 =>
 some y2
theorem Zg3 {W:World} {r:Zi} {p0:LI} (h:Z6p p0=some r)  :
    Calls Tryz.prog 51 [agg [b3' p0]].toArray W (Z34 W (agg [u5' r.gX,u5' r.gY,u5' r.gZ,u5' r.gT])):=by
 unfold Z6p at h
 refine Zc mo ok51 rfl ?_
 refine Z0<|Z2<|Zd (Z0l (s:=[b3' p0]) rfl fun b1 u1=>Zd (Zq fun b2 u2=>Z1<|Z0<|oH h fun y1 f1 h=>oH h fun y2 f2 h=>Zt<|Z7 _ (Z0h rfl (Zi7 f1))<|Zo _ (Z02 (p:=[b3' p0]) rfl .t1 rfl)<|Z7 _ (Z0h rfl (Zko f2))<|Z1i rfl (Zp (q:=[u5' y2.gX,u5' y2.gY,u5' y2.gZ,u5' y2.gT]) rfl rfl rfl rfl rfl .here<|Z04<|Zj ?_)))
 revert h; refine Zv fun h=>?_
 subst h
 exact ⟨_,(.cons (.agg rfl .here rfl) .nil),rfl⟩
def Z8p (p0:LI):OL :=
 opt (Zay p0) fun y1 =>
 opt (Z6p y1.1) fun y2 =>
 opt (Z7i y2) fun y3 =>
 some y3
theorem Zid {W:World} {r:(LI)} {p0:LI} (h:Z8p p0=some r) (hG:Globs W) :
    Calls Tryz.prog 12 [agg [b3' p0]].toArray W (Z34 W (agg [b3' r])):=by
 unfold Z8p at h
 refine Zc mo ok12 rfl ?_
 refine Z0<|Z2<|Zd (Z0l (s:=[b3' p0]) rfl fun b1 u1=>Zd (Zq fun b2 u2=>Z1<|Z0<|oH h fun y1 f1 h=>Z2<|Z4 _ (Z02 (p:=[b3' p0]) rfl .t1 rfl)<|Zd (Z05 rfl (fun w hw=>Zie  f1 (hG.at hw (by simp))) fun v6 o1 R1=>?_)))
 obtain ⟨v8,w1,rfl,rfl,O1⟩:=R1
 refine Z6 rfl<|Z4 _ (Z40 rfl rfl)<|Z4 _ (Z40 rfl rfl)<|Zd (Zq fun b3 u3=>Zd (Zp (q:=[b3' y1.1]) rfl rfl rfl rfl rfl .here<|Z6 rfl<|Z1<|Z0<|oH h fun y2 f2 h=>oH h fun y3 f3 h=>Z2<|Z4 _ (Z02 (p:=[b3' y1.1]) rfl .here rfl)<|Z4 _ (Z0h rfl (Zg3 f2))<|Z4 _ (Z0h rfl (Zgz f3))<|Zd (Zp (q:=[b3' y3]) rfl rfl rfl rfl rfl (.there (.app .here))<|Z1<|Zj ?_)))
 revert h; refine Zv fun h=>?_
 subst h
 exact ⟨_,(.cons (.agg rfl (.there (.app .here)) rfl) .nil),rfl⟩
structure Z2a where
  gIssuer:LI
  gGates:List (LI)
abbrev Zn:El (LI):=⟨32,fun x=>cells [b3' x],fun x=>by rw [cells_length]; rfl,fun x=>(Z0z Z3q Z5i),by decide,(replicate 32 0)⟩
def Z6l (p0:Zz) (z1:Int) (k1:(LI)->(List (LI))->Option (Z2a×Int)) (k2:Int->(LI)->(List (LI))->Option (Z2a×Int)) (i1:Int) (a1:LI) (l1:List (LI)):Option (Z2a×Int) :=
 br ((decide (i1<z1))) (
 jn (fun (a2:LI) (l2:List (LI))=>bnd (wrap .i64 (i1+1)) fun z2 =>
 k2 z2 a2 l2) fun k3=>opt (Zat p0 i1) fun y1 =>
 opt (Z8p y1.1) fun y2 =>
 br ((i1==0)) (
 k3 y2 l1
 ) (
 chk (decide ((l1.length+([y2]:List (LI)).length)*32<=140737488355328)) <|
 bnd (l1++([y2]:List (LI))) fun l3 =>
 k3 a1 l3
 )
 ) (
 k1 a1 l1
 )
def Z5d (p0:Zz) (z1:Int) (k1:(LI)->(List (LI))->Option (Z2a×Int)):Nat->Int->(LI)->(List (LI))->Option (Z2a×Int)
  | 0,_,_,_=>none
  | n+1,i1,a1,l1=>Z6l p0 z1 k1 (Z5d p0 z1 k1 n) i1 a1 l1
def Z9j (p0:Zz):Option (Z2a×Int) :=
 opt (Z8l p0) fun y1 =>
 br ((y1 != 0)) (
 some ((⟨(replicate 32 0),[]⟩:Z2a),y1)
 ) (
 bnd (wrap .i64 (p0.gGates+1)) fun z1 =>
 jn (fun (a1:LI) (l1:List (LI))=>some ((⟨a1,l1⟩:Z2a),0)) fun k1=>Z5d p0 z1 k1 big 0 (replicate 32 0) []
 )
theorem Z8t {W:World} {r:Z2a×Int} {p0:Zz} (h:Z9j p0=some r) (hG:Globs W) :
    Calls Tryz.prog 21 [agg [.one (.int .i64 (p0.gGates)),.one (.int .i64 (p0.gWallets)),.one (.int .i64 (p0.gRows)),.one (.int .i64 (p0.gFlash)),.one (.int .i64 (p0.gSerials)),b3' p0.gSecret]].toArray W (Zd9 W [] (fun v Ms=>∃ (u0:Value) (M1:List Zf),v = .tuple #[agg [b3' r.1.gIssuer,.one (u0)],.int .i64 (r.2)]/\Ms = [.all M1]/\Z03 Zn u0 M1 r.1.gGates)):=by
 unfold Z9j at h
 refine Z0e mo ok21 rfl (Zgt _) ?_
 refine Z0<|Z2<|Zd (Z0l (s:=[.one (.int .i64 (p0.gGates)),.one (.int .i64 (p0.gWallets)),.one (.int .i64 (p0.gRows)),.one (.int .i64 (p0.gFlash)),.one (.int .i64 (p0.gSerials)),b3' p0.gSecret]) rfl fun b1 hb1=>Zd (Zq fun b2 hb2=>Z6 rfl<|Z1<|Z0<|Z0<|oH h fun y1 f1 h=>Z2<|Z4 _ (Z02 (p:=[.one (.int .i64 (p0.gGates)),.one (.int .i64 (p0.gWallets)),.one (.int .i64 (p0.gRows)),.one (.int .i64 (p0.gFlash)),.one (.int .i64 (p0.gSerials)),b3' p0.gSecret]) rfl .t1 rfl)<|Z4 _ (Z0h rfl (Zas f1))<|Z6 rfl<|Z1<|Z0<|Z2<|Z6 rfl<|Z4 _ (Z8 rfl rfl rfl)<|Z1<|Z09 h rfl (fun h=>?_) (fun h=>?_)))
 ·refine Z0<|Z2<|Z4 _ (Zd2 (q:=[b3' (replicate 32 0),.one (.slice none 0 0)]) BdR.nil)<|Z6 rfl<|Zd (Zp (q:=[b3' (replicate 32 0),.one (.slice none 0 0)]) rfl rfl rfl rfl rfl .here<|Z6 rfl<|Z1<|Zj ?_)
  revert h; refine Zv fun h=>?_
  subst h
  exact ⟨_,_,(.cons (.agg rfl .here rfl) (.cons (.tmp rfl) .nil)),(.no .nil),⟨_,rfl,⟨(.slice none 0 0),[],rfl,rfl,Z49⟩⟩⟩
 ·refine Zh<|Z0<|Z2<|Zd (Zq fun b3 hb3=>Z1<|Z0<|Z0<|bH h fun z1 e1 h=>Z2<|Z4 _ (Z2l rfl)<|Z4 _ (Z0c rfl .t2 rfl)<|Z4 _ (iz e1 (Z8 rfl rfl rfl))<|Z6 rfl<|Z1<|jH h fun k1 q1 h=>Zg (G:=fun t m=>∃ (a1:LI) (l1:List (LI)) (v197:Value) (w1:List Zf),k1 a1 l1=some r/\Z03 Zn v197 w1 l1/\Fit [(2,pt' b2),(5,pt' b3)] (ck b3 42 [b3' a1,.one (v197)]::(ck b2 42 [b3' (replicate 32 0),.one (.slice none 0 0)]::(ck b1 34 [.one (.int .i64 (p0.gGates)),.one (.int .i64 (p0.gWallets)),.one (.int .i64 (p0.gRows)),.one (.int .i64 (p0.gFlash)),.one (.int .i64 (p0.gSerials)),b3' p0.gSecret]::(w1 ++ [])))) t m) ?_ ?_)
  ·refine Z9<|Zm (fun n1 t m=>∃ (i1:Int) (a2:LI) (l2:List (LI)) (v331:Value) (w2:List Zf),Z5d p0 z1 k1 n1 i1 a2 l2=some r/\Z03 Zn v331 w2 l2/\Fit [(1,pt' b1),(2,pt' b2),(5,pt' b3),(18,.int .i64 (z1)),(19,.int .i64 (i1))] (ck b3 42 [b3' a2,.one (v331)]::(ck b2 42 [b3' (replicate 32 0),.one (.slice none 0 0)]::(ck b1 34 [.one (.int .i64 (p0.gGates)),.one (.int .i64 (p0.gWallets)),.one (.int .i64 (p0.gRows)),.one (.int .i64 (p0.gFlash)),.one (.int .i64 (p0.gSerials)),b3' p0.gSecret]::(w2 ++ [])))) t m) big ?_ ?_
   ·exact ⟨0,(replicate 32 0),[],(.slice none 0 0),[],h,Z49,⟨⟨rfl,rfl,rfl,rfl,rfl,trivial⟩,(.o (.o (.o (.no .nil))))⟩⟩
   ·rintro n1 t m ⟨i1,a2,l2,v331,w2,h,O1,hF⟩
    refine Ze hF ?_
    clear hF
    rcases n1 with _ | n1
    · exact Z07 h
    have h:Z6l p0 z1 k1 (Z5d p0 z1 k1 n1) i1 a2 l2=some r:=h
    unfold Z6l at h
    obtain ⟨k2,q2⟩ : ∃ k,k=Z5d p0 z1 k1 n1:=⟨_,rfl⟩
    try rw [<- q2] at h
    refine Z0<|Z2<|Z4 _ (Z8 rfl rfl rfl)<|Z1<|Z0<|Z09 h rfl (fun h=>?_) (fun h=>?_)
    ·refine Zh<|Z0<|jH h fun k3 q3 h=>Zg (G:=fun t m=>∃ (a3:LI) (l3:List (LI)) (v359:Value) (w3:List Zf),k3 a3 l3=some r/\Z03 Zn v359 w3 l3/\Fit [(1,pt' b1),(2,pt' b2),(5,pt' b3),(18,.int .i64 (z1)),(19,.int .i64 (i1))] (ck b3 42 [b3' a3,.one (v359)]::(ck b2 42 [b3' (replicate 32 0),.one (.slice none 0 0)]::(ck b1 34 [.one (.int .i64 (p0.gGates)),.one (.int .i64 (p0.gWallets)),.one (.int .i64 (p0.gRows)),.one (.int .i64 (p0.gFlash)),.one (.int .i64 (p0.gSerials)),b3' p0.gSecret]::(w3 ++ [])))) t m) ?_ ?_
     ·refine Z9<|Z0<|Z2<|Z6 rfl<|Z6 rfl<|Z1<|Z0<|oH h fun y2 f2 h=>Z2<|Z4 _ (Z02 (p:=[.one (.int .i64 (p0.gGates)),.one (.int .i64 (p0.gWallets)),.one (.int .i64 (p0.gRows)),.one (.int .i64 (p0.gFlash)),.one (.int .i64 (p0.gSerials)),b3' p0.gSecret]) rfl .t2 rfl)<|Z6 rfl<|Z4 _ (Z1a rfl (fun w hw=>Zfd f2 (hG.at hw (by simp))))<|Z6 rfl<|Z4 _ (Z40 rfl rfl)<|Z4 _ (Z40 rfl rfl)<|Zd (Zq fun b4 hb4=>Zd (Zp (q:=[b3' y2.1]) rfl rfl rfl rfl rfl .here<|Z6 rfl<|Z1<|Z0<|oH h fun y3 f3 h=>Z2<|Z4 _ (Z02 (p:=[b3' y2.1]) rfl .here rfl)<|Z4 _ (Z1a rfl (fun w hw=>Zid f3 (hG.at hw (by simp))))<|Zd (Zq fun b5 hb5=>Zd (Zp (q:=[b3' y3]) rfl rfl rfl rfl rfl .here<|Z1<|Z0<|Z2<|Z6 rfl<|Z4 _ (Z8 rfl rfl rfl)<|Z1<|Z09 h rfl (fun h=>?_) (fun h=>?_)))))
      ·exact Z2<|Z4 _ (Z02 (p:=[b3' y3]) rfl .here rfl)<|Z4 _ (Z2l rfl)<|Zd (Zp (q:=[b3' y3,.one (v331)]) rfl rfl rfl rfl rfl .t2<|Z1<|⟨y3,l2,v331,w2,h,O1,⟨⟨rfl,rfl,rfl,rfl,rfl,trivial⟩,(.one .t2 (.one .t2 (.one .t2 (.all .t2 .nil))))⟩⟩)
      ·exact cH h fun c1 h=>bH h fun l4 g1 h=>Z2<|Z4 _ (Z2l rfl)<|Z4 _ (Z0c rfl .t2 rfl)<|Z4 _ (Z02 (p:=[b3' y3]) rfl .here rfl)<|Zd (Z3i (E:=Zn) (xs:=[y3]) (.agg rfl rfl rfl BdR.nil) (.cons (p:=[b3' y3]) rfl .nil) rfl fun v375 w4 O2=>Zd (Z1m (E:=Zn) g1 rfl O1 (.app .t5) rfl (Z00 O2 .here) c1 fun v380 w5 O3=>Z4 _ (Z2l rfl)<|Zd (Zhp (q:=[b3' a2,.one (v380)]) rfl rfl (Zbg.one1 (Z03.isSl O3)) rfl (.app (.app .t2))<|Z1<|⟨a2,l4,v380,w5,h,O3,⟨⟨rfl,rfl,rfl,rfl,rfl,trivial⟩,(.one (.app (.app .t2)) (.one (.app (.app .t2)) (.one (.app (.app .t2)) (.all .here .nil))))⟩⟩)))
     ·rintro t m ⟨a3,l3,v359,w3,h,O4,hF⟩
      refine Ze hF ?_
      clear hF
      subst q3
      refine bH h fun z2 e2 h=>Z2<|Z4 _ (iz e2 (Z8 rfl rfl rfl))<|Z6 rfl<|Z1 ?_
      rw [q2] at h
      exact ⟨n1,Nat.lt_succ_self _,z2,a3,l3,v359,w3,h,O4,⟨⟨rfl,rfl,rfl,rfl,rfl,trivial⟩,(.o (.o (.o (.all .here .nil))))⟩⟩
    ·exact Zs _ rfl<|⟨a2,l2,v331,w2,h,O1,⟨⟨rfl,rfl,trivial⟩,(.o (.o (.o (.all .here .nil))))⟩⟩
  ·rintro t m ⟨a1,l1,v197,w1,h,O5,hF⟩
   refine Ze hF ?_
   clear hF
   subst q1
   refine Z0<|Z2<|Z4 _ (Z02 (p:=[b3' a1,.one (v197)]) rfl .here rfl)<|Zd (Zcy (q:=[b3' a1,.one (v197)]) rfl rfl rfl rfl (Z0z Z3q (Z0z (Zb5 (Zbg.one1 (Z03.isSl O5))) Z5i)) .t1<|Z6 rfl<|Z1<|Zj ?_)
   revert h; refine Zv fun h=>?_
   subst h
   exact ⟨_,_,(.cons (.agg rfl .t1 rfl) (.cons (.tmp rfl) .nil)),(.all .t3 .nil),⟨_,rfl,⟨v197,w1,rfl,rfl,O5⟩⟩⟩
def Z75 (p1:LI) (k1:(LI)->OL) (k2:Int->Int->(LI)->OL) (i1:Int) (i2:Int) (a1:LI):OL :=
 br ((decide (i2<10))) (
 chk (inB i2 10) <|
 chk (inB i2 10) <|
 bnd (a1.getD (i2).toNat 0) fun z1 =>
 bnd (wrap .u64 (z1+67108863)) fun z2 =>
 bnd (wrap .u64 (z2+1)) fun z3 =>
 bnd (p1.getD (i2).toNat 0) fun z4 =>
 bnd (wrap .u64 (z3-z4)) fun z5 =>
 bnd (wrap .u64 (z5-i1)) fun z6 =>
 bnd (Z0f .u64 z6 26) fun z7 =>
 bnd (wrap .u64 (1-z7)) fun z8 =>
 bnd (Za .and .u64 z6 67108863) fun z9 =>
 chk (inB i2 10) <|
 bnd (Z28 a1 (i2).toNat z9) fun l1 =>
 bnd (wrap .i64 (i2+1)) fun z10 =>
 k2 z8 z10 l1
 ) (
 k1 a1
 )
def Z3u (p1:LI) (k1:(LI)->OL):Nat->Int->Int->(LI)->OL
  | 0,_,_,_=>none
  | n+1,i1,i2,a1=>Z75 p1 k1 (Z3u p1 k1 n) i1 i2 a1
def Z7e (p0:LI) (p1:LI):OL :=
 jn (fun (a1:LI)=>some a1) fun k1=>Z3u p1 k1 big 0 0 p0
theorem Zd1 {W:World} {r:(LI)} {p0:LI} {p1:LI} (h:Z7e p0 p1=some r)  :
    Calls Tryz.prog 197 [agg [uA' p0],agg [uA' p1]].toArray W (Z34 W (agg [uA' r])):=by
 unfold Z7e at h
 refine Zc mo Z0kj rfl ?_
 refine Z0<|Z2<|Zd (Z0l (s:=[uA' p0]) rfl fun b1 u1=>Zd (Z0l (s:=[uA' p1]) rfl fun b2 u2=>Zd (Zq fun b3 u3=>Z1<|Z0<|Z2<|Z6 rfl<|Z1<|Z0<|Z0<|Z2<|Z6 rfl<|Z1<|jH h fun k1 q1 h=>Zg (G:=fun t m=>∃ (a1:LI),k1 a1=some r/\Fit [(2,pt' b1),(4,pt' b3)] (ck b3 88 [uA' (replicate 10 0)]::(ck b2 88 [uA' p1]::(ck b1 88 [uA' a1] :: []))) t m) ?_ ?_)))
 ·refine Z9<|Zm (fun n1 t m=>∃ (i1:Int) (i2:Int) (a2:LI),Z3u p1 k1 n1 i1 i2 a2=some r/\Fit [(2,pt' b1),(3,pt' b2),(4,pt' b3),(5,.int .u64 (i1)),(6,.int .i64 (i2))] (ck b3 88 [uA' (replicate 10 0)]::(ck b2 88 [uA' p1]::(ck b1 88 [uA' a2] :: []))) t m) big ?_ ?_
  ·exact ⟨0,0,p0,h,⟨⟨rfl,rfl,rfl,rfl,rfl,trivial⟩,(.o (.o (.o .nil)))⟩⟩
  ·rintro n1 t m ⟨i1,i2,a2,h,hF⟩
   refine Ze hF ?_
   clear hF
   rcases n1 with _ | n1
   · exact Z07 h
   have h:Z75 p1 k1 (Z3u p1 k1 n1) i1 i2 a2=some r:=h
   unfold Z75 at h
   obtain ⟨k2,q2⟩ : ∃ k,k=Z3u p1 k1 n1:=⟨_,rfl⟩
   try rw [<- q2] at h
   refine Z0<|Z0<|Z2<|Z6 rfl<|Z4 _ (Z8 rfl rfl rfl)<|Z1<|Z09 h rfl (fun h=>?_) (fun h=>?_)
   ·refine Zh<|Z0<|Z9<|Z0<|cH h fun c1 h=>cH h fun c2 h=>bH h fun z1 e1 h=>bH h fun z2 e2 h=>bH h fun z3 e3 h=>bH h fun z4 e4 h=>bH h fun z5 e5 h=>bH h fun z6 e6 h=>Zt<|Z7 _ (Z0j rfl)<|Z7 _ (Z0i rfl rfl (Z08 c1))<|Z7 _ (Z0j rfl)<|Z7 _ (Z0i rfl rfl (Z08 c2))<|Z7 _ (Z0j rfl)<|Zo _ (iz e1 (Z1w (base:=0) rfl .t2 rfl (Z01 c1)))<|Z7 _ (iz e2 (Z8 rfl rfl rfl))<|Z7 _ (iz e3 (Z8 rfl rfl rfl))<|Zo _ (iz e4 (Z1w (base:=0) rfl .t1 rfl (Z01 c2)))<|Z7 _ (iz e5 (Z8 rfl rfl rfl))<|Z7 _ (iz e6 (Z8 rfl rfl rfl))<|Z7 _ (Z0j rfl)<|Z04<|Z0<|bH h fun z7 e7 h=>bH h fun z8 e8 h=>Z2<|Z6 rfl<|Z4 _ (iz e7 (Z48 rfl rfl (by decide)))<|Z4 _ (iz e8 (Z8 rfl rfl rfl))<|Z6 rfl<|Z1<|bH h fun z9 e9 h=>cH h fun c3 h=>bH h fun l1 g1 h=>Z2<|Z6 rfl<|Z6 rfl<|Z4 _ (iz e9 (Z8 rfl rfl rfl))<|Z4 _ (Z0i rfl rfl (Z08 c3))<|Zd (Z1h (q:=[uA' l1]) (base:=0) g1 rfl rfl rfl (Z01 c3) rfl .t2<|Z1<|bH h fun z10 e10 h=>Z2<|Z6 rfl<|Z4 _ (iz e10 (Z8 rfl rfl rfl))<|Z6 rfl<|Z1 ?_)
    rw [q2] at h
    exact ⟨n1,Nat.lt_succ_self _,z8,z10,l1,h,⟨⟨rfl,rfl,rfl,rfl,rfl,trivial⟩,(.o (.o (.o .nil)))⟩⟩
   ·exact Zs _ rfl<|⟨a2,h,⟨⟨rfl,rfl,trivial⟩,(.o (.o (.o .nil)))⟩⟩
 ·rintro t m ⟨a1,h,hF⟩
  refine Ze hF ?_
  clear hF
  subst q1
  refine Z0<|Z2<|Z4 _ (Z02 (p:=[uA' a1]) rfl .t2 rfl)<|Zd (Zp (q:=[uA' a1]) rfl rfl rfl rfl rfl .here<|Z1<|Zj ?_)
  revert h; refine Zv fun h=>?_
  subst h
  exact ⟨_,(.cons (.agg rfl .here rfl) .nil),rfl⟩
def Zcq:OL :=
 bnd (([67108845,67108863,67108863,67108863,67108863,67108863,67108863,67108863,67108863,2097151]:LI)) fun z1 =>
 some z1
theorem Zgk {W:World} {r:(LI)} (h:Zcq=some r)  :
    Calls Tryz.prog 198 [].toArray W (Z34 W (agg [uA' r])):=by
 unfold Zcq at h
 refine Zc mo Z0kk rfl ?_
 refine Z0<|Z2<|Zd (Zq fun b1 u1=>Z1<|Z0<|bH h fun z1 e1 h=>Z2<|Z4 _ (az (fun z=>agg [.ints .u64 10 z]) e1 (Zd2 (.one rfl rfl rfl (.one rfl rfl rfl (.one rfl rfl rfl (.one rfl rfl rfl (.one rfl rfl rfl (.one rfl rfl rfl (.one rfl rfl rfl (.one rfl rfl rfl (.one rfl rfl rfl (.one rfl rfl rfl BdR.nil))))))))))))<|Zd (Zp (q:=[uA' z1]) rfl rfl rfl rfl rfl .here<|Z1<|Zj ?_))
 revert h; refine Zv fun h=>?_
 subst h
 exact ⟨_,(.cons (.agg rfl .here rfl) .nil),rfl⟩
def Z88 (k1:(LI)->OL) (k2:Int->(LI)->OL) (i1:Int) (a1:LI):OL :=
 br ((decide (i1<9))) (
 bnd (wrap .i64 (i1+1)) fun z1 =>
 bnd (wrap .i64 (i1+1)) fun z2 =>
 chk (inB z2 10) <|
 chk (inB i1 10) <|
 bnd (a1.getD (z2).toNat 0) fun z3 =>
 bnd (a1.getD (i1).toNat 0) fun z4 =>
 bnd (Z0f .u64 z4 26) fun z5 =>
 bnd (wrap .u64 (z3+z5)) fun z6 =>
 chk (inB z1 10) <|
 bnd (Z28 a1 (z1).toNat z6) fun l1 =>
 chk (inB i1 10) <|
 bnd (l1.getD (i1).toNat 0) fun z7 =>
 bnd (Za .and .u64 z7 67108863) fun z8 =>
 chk (inB i1 10) <|
 bnd (Z28 l1 (i1).toNat z8) fun l2 =>
 bnd (wrap .i64 (i1+1)) fun z9 =>
 k2 z9 l2
 ) (
 k1 a1
 )
def Z4h (k1:(LI)->OL):Nat->Int->(LI)->OL
  | 0,_,_=>none
  | n+1,i1,a1=>Z88 k1 (Z4h k1 n) i1 a1
def Z9y (p0:LI):OL :=
 jn (fun (a1:LI)=>some a1) fun k1=>Z4h k1 big 0 p0
theorem Ze6 {W:World} {r:(LI)} {p0:LI} (h:Z9y p0=some r)  :
    Calls Tryz.prog 207 [agg [uA' p0]].toArray W (Z34 W (agg [uA' r])):=by
 unfold Z9y at h
 refine Zc mo Z0kq rfl ?_
 refine Z0<|Z2<|Zd (Z0l (s:=[uA' p0]) rfl fun b1 u1=>Zd (Zq fun b2 u2=>Z1<|Z0<|Z0<|Z2<|Z6 rfl<|Z1<|jH h fun k1 q1 h=>Zg (G:=fun t m=>∃ (a1:LI),k1 a1=some r/\Fit [(1,pt' b1),(2,pt' b2)] (ck b2 88 [uA' (replicate 10 0)]::(ck b1 88 [uA' a1] :: [])) t m) ?_ ?_))
 ·refine Z9<|Zm (fun n1 t m=>∃ (i1:Int) (a2:LI),Z4h k1 n1 i1 a2=some r/\Fit [(1,pt' b1),(2,pt' b2),(3,.int .i64 (i1))] (ck b2 88 [uA' (replicate 10 0)]::(ck b1 88 [uA' a2] :: [])) t m) big ?_ ?_
  ·exact ⟨0,p0,h,⟨⟨rfl,rfl,rfl,trivial⟩,(.o (.o .nil))⟩⟩
  ·rintro n1 t m ⟨i1,a2,h,hF⟩
   refine Ze hF ?_
   clear hF
   rcases n1 with _ | n1
   · exact Z07 h
   have h:Z88 k1 (Z4h k1 n1) i1 a2=some r:=h
   unfold Z88 at h
   obtain ⟨k2,q2⟩ : ∃ k,k=Z4h k1 n1:=⟨_,rfl⟩
   try rw [<- q2] at h
   refine Z0<|Z0<|Z2<|Z6 rfl<|Z4 _ (Z8 rfl rfl rfl)<|Z1<|Z09 h rfl (fun h=>?_) (fun h=>?_)
   ·refine Zh<|Z0<|Z9<|Z0<|bH h fun z1 e1 h=>bH h fun z2 e2 h=>cH h fun c1 h=>cH h fun c2 h=>bH h fun z3 e3 h=>bH h fun z4 e4 h=>bH h fun z5 e5 h=>bH h fun z6 e6 h=>cH h fun c3 h=>bH h fun l1 g1 h=>Zt<|Z7 _ (Z0j rfl)<|Z7 _ (iz e1 (Z8 rfl rfl rfl))<|Z7 _ (Z0j rfl)<|Z7 _ (iz e2 (Z8 rfl rfl rfl))<|Z7 _ (Z0i rfl rfl (Z08 c1))<|Z7 _ (Z0j rfl)<|Z7 _ (Z0i rfl rfl (Z08 c2))<|Zo _ (iz e3 (Z1w (base:=0) rfl .t1 rfl (Z01 c1)))<|Zo _ (iz e4 (Z1w (base:=0) rfl .t1 rfl (Z01 c2)))<|Z7 _ (iz e5 (Z48 rfl rfl (by decide)))<|Z7 _ (iz e6 (Z8 rfl rfl rfl))<|Z7 _ (Z0i rfl rfl (Z08 c3))<|Z1i rfl (Z1h (q:=[uA' l1]) (base:=0) g1 rfl rfl rfl (Z01 c3) rfl .t1<|Z04<|cH h fun c4 h=>bH h fun z7 e7 h=>bH h fun z8 e8 h=>cH h fun c5 h=>bH h fun l2 g2 h=>Z2<|Z6 rfl<|Z6 rfl<|Z4 _ (Z0i rfl rfl (Z08 c4))<|Z4 _ (iz e7 (Z1w (base:=0) rfl .t1 rfl (Z01 c4)))<|Z4 _ (iz e8 (Z8 rfl rfl rfl))<|Z4 _ (Z0i rfl rfl (Z08 c5))<|Zd (Z1h (q:=[uA' l2]) (base:=0) g2 rfl rfl rfl (Z01 c5) rfl .t1<|Z1<|bH h fun z9 e9 h=>Z2<|Z6 rfl<|Z4 _ (iz e9 (Z8 rfl rfl rfl))<|Z6 rfl<|Z1 ?_))
    rw [q2] at h
    exact ⟨n1,Nat.lt_succ_self _,z9,l2,h,⟨⟨rfl,rfl,rfl,trivial⟩,(.o (.o .nil))⟩⟩
   ·exact Zs _ rfl<|⟨a2,h,⟨⟨rfl,rfl,trivial⟩,(.o (.o .nil))⟩⟩
 ·rintro t m ⟨a1,h,hF⟩
  refine Ze hF ?_
  clear hF
  subst q1
  refine Z0<|Z2<|Z4 _ (Z02 (p:=[uA' a1]) rfl .t1 rfl)<|Zd (Zp (q:=[uA' a1]) rfl rfl rfl rfl rfl .here<|Z1<|Zj ?_)
  revert h; refine Zv fun h=>?_
  subst h
  exact ⟨_,(.cons (.agg rfl .here rfl) .nil),rfl⟩
def Zaq (p0:LI) (p1:LI) (k1:Unit->Option Bool) (k2:Int->Option Bool) (i1:Int):Option Bool :=
 br ((decide (i1≥0))) (
 chk (inB i1 10) <|
 chk (inB i1 10) <|
 bnd (p0.getD (i1).toNat 0) fun z1 =>
 bnd (p1.getD (i1).toNat 0) fun z2 =>
 br ((z1 != z2)) (
 chk (inB i1 10) <|
 chk (inB i1 10) <|
 bnd (p0.getD (i1).toNat 0) fun z3 =>
 bnd (p1.getD (i1).toNat 0) fun z4 =>
 some (decide (z3<z4))
 ) (
 bnd (wrap .i64 (i1-1)) fun z5 =>
 k2 z5
 )
 ) (
 k1 ()
 )
def Z6i (p0:LI) (p1:LI) (k1:Unit->Option Bool):Nat->Int->Option Bool
  | 0,_=>none
  | n+1,i1=>Zaq p0 p1 k1 (Z6i p0 p1 k1 n) i1
def Zer (p0:LI) (p1:LI):Option Bool :=
 jn (fun (_:Unit)=>some false) fun k1=>Z6i p0 p1 k1 big 9
theorem Zmq {W:World} {r:Bool} {p0:LI} {p1:LI} (h:Zer p0 p1=some r)  :
    Calls Tryz.prog 208 [agg [uA' p0],agg [uA' p1]].toArray W (Z34 W (.bool (r))):=by
 unfold Zer at h
 refine Zc mo Z0kr rfl ?_
 refine Z0<|Z2<|Zd (Z0l (s:=[uA' p0]) rfl fun b1 u1=>Zd (Z0l (s:=[uA' p1]) rfl fun b2 u2=>Z6 rfl<|Z1<|Z0<|Z0<|Z2<|Z6 rfl<|Z1<|jH h fun k1 q1 h=>Zg (G:=fun t m=>k1 ()=some r/\Fit [] (ck b2 88 [uA' p1]::(ck b1 88 [uA' p0] :: [])) t m) ?_ ?_))
 ·refine Z9<|Zm (fun n1 t m=>∃ (i1:Int),Z6i p0 p1 k1 n1 i1=some r/\Fit [(2,pt' b1),(3,pt' b2),(5,.int .i64 (i1))] (ck b2 88 [uA' p1]::(ck b1 88 [uA' p0] :: [])) t m) big ?_ ?_
  ·exact ⟨9,h,⟨⟨rfl,rfl,rfl,trivial⟩,(.o (.o .nil))⟩⟩
  ·rintro n1 t m ⟨i1,h,hF⟩
   refine Ze hF ?_
   clear hF
   rcases n1 with _ | n1
   · exact Z07 h
   have h:Zaq p0 p1 k1 (Z6i p0 p1 k1 n1) i1=some r:=h
   unfold Zaq at h
   obtain ⟨k2,q2⟩ : ∃ k,k=Z6i p0 p1 k1 n1:=⟨_,rfl⟩
   try rw [<- q2] at h
   refine Z0<|Z0<|Z2<|Z6 rfl<|Z4 _ (Z8 rfl rfl rfl)<|Z1<|Z09 h rfl (fun h=>?_) (fun h=>?_)
   ·refine Zh<|Z0<|Z9<|Z0<|cH h fun c1 h=>cH h fun c2 h=>bH h fun z1 e1 h=>bH h fun z2 e2 h=>Zt<|Z7 _ (Z0j rfl)<|Z7 _ (Z0i rfl rfl (Z08 c1))<|Z7 _ (Z0j rfl)<|Z7 _ (Z0i rfl rfl (Z08 c2))<|Zo _ (iz e1 (Z1w (base:=0) rfl .t1 rfl (Z01 c1)))<|Zo _ (iz e2 (Z1w (base:=0) rfl .here rfl (Z01 c2)))<|Z7 _ (Z8 rfl rfl rfl)<|Z04<|Z09 h rfl (fun h=>?_) (fun h=>?_)
    ·refine Z0<|cH h fun c3 h=>cH h fun c4 h=>bH h fun z3 e3 h=>bH h fun z4 e4 h=>Zt<|Z7 _ (Z0j rfl)<|Z7 _ (Z0i rfl rfl (Z08 c3))<|Z7 _ (Z0j rfl)<|Z7 _ (Z0i rfl rfl (Z08 c4))<|Zo _ (iz e3 (Z1w (base:=0) rfl .t1 rfl (Z01 c3)))<|Zo _ (iz e4 (Z1w (base:=0) rfl .here rfl (Z01 c4)))<|Z7 _ (Z8 rfl rfl rfl)<|Z7 _ (Z0j rfl)<|Z04<|Zj ?_
     revert h; refine Zv fun h=>?_
     subst h
     exact ⟨_,(.cons (.tmp rfl) .nil),rfl⟩
    ·refine Zh<|bH h fun z5 e5 h=>Z2<|Z6 rfl<|Z4 _ (iz e5 (Z8 rfl rfl rfl))<|Z6 rfl<|Z1 ?_
     rw [q2] at h
     exact ⟨n1,Nat.lt_succ_self _,z5,h,⟨⟨rfl,rfl,rfl,trivial⟩,(.o (.o .nil))⟩⟩
   ·exact Zs _ rfl<|⟨h,⟨trivial,(.o (.o .nil))⟩⟩
 ·rintro t m ⟨h,hF⟩
  refine Ze hF ?_
  clear hF
  subst q1
  refine Z0<|Z2<|Z6 rfl<|Z1<|Zj ?_
  revert h; refine Zv fun h=>?_
  subst h
  exact ⟨_,(.cons (.tmp rfl) .nil),rfl⟩
def Zao (k1:(LI)->OL) (k2:(LI)->OL) (a1:LI):OL :=
 bnd (a1.getD 9 0) fun z1 =>
 br ((decide (z1>2097151))) (
 bnd (a1.getD 0 0) fun z2 =>
 bnd (a1.getD 9 0) fun z3 =>
 bnd (Z0f .u64 z3 21) fun z4 =>
 bnd (wrap .u64 (19*z4)) fun z5 =>
 bnd (wrap .u64 (z2+z5)) fun z6 =>
 bnd (Z28 a1 0 z6) fun l1 =>
 bnd (l1.getD 9 0) fun z7 =>
 bnd (Za .and .u64 z7 2097151) fun z8 =>
 bnd (Z28 l1 9 z8) fun l2 =>
 opt (Z9y l2) fun y1 =>
 k2 y1
 ) (
 k1 a1
 )
def Z44 (k1:(LI)->OL):Nat->(LI)->OL
  | 0,_=>none
  | n+1,a1=>Zao k1 (Z44 k1 n) a1
def Z85 (p0:LI):OL :=
 opt (Z9y p0) fun y1 =>
 jn (fun (a1:LI)=>opt (Zcq) fun y2 =>
 opt (Zer a1 y2) fun y3 =>
 jn (fun (a2:LI)=>some a2) fun k1=>br ((!y3)) (
 opt (Z7e a1 y2) fun y4 =>
 k1 y4
 ) (
 k1 a1
 )) fun k2=>Z44 k2 big y1
theorem Z9t {W:World} {r:(LI)} {p0:LI} (h:Z85 p0=some r)  :
    Calls Tryz.prog 172 [agg [uA' p0]].toArray W (Z34 W (agg [uA' r])):=by
 unfold Z85 at h
 refine Zc mo Z0k1 rfl ?_
 refine Z0<|Z2<|Zd (Z0l (s:=[uA' p0]) rfl fun b1 u1=>Zd (Zq fun b2 u2=>Z1<|Z0<|oH h fun y1 f1 h=>Z2<|Z4 _ (Z02 (p:=[uA' p0]) rfl .t1 rfl)<|Z4 _ (Z0h rfl (Ze6 f1))<|Zd (Zp (q:=[uA' y1]) rfl rfl rfl rfl rfl .t1<|Z1<|Z0<|jH h fun k1 q1 h=>Zg (G:=fun t m=>∃ (a1:LI),k1 a1=some r/\Fit [(1,pt' b1),(2,pt' b2)] (ck b2 88 [uA' (replicate 10 0)]::(ck b1 88 [uA' a1] :: [])) t m) ?_ ?_)))
 ·refine Z9<|Zm (fun n1 t m=>∃ (a2:LI),Z44 k1 n1 a2=some r/\Fit [(1,pt' b1),(2,pt' b2)] (ck b2 88 [uA' (replicate 10 0)]::(ck b1 88 [uA' a2] :: [])) t m) big ?_ ?_
  ·exact ⟨y1,h,⟨⟨rfl,rfl,trivial⟩,(.o (.o .nil))⟩⟩
  ·rintro n1 t m ⟨a2,h,hF⟩
   refine Ze hF ?_
   clear hF
   rcases n1 with _ | n1
   · exact Z07 h
   have h:Zao k1 (Z44 k1 n1) a2=some r:=h
   unfold Zao at h
   obtain ⟨k2,q2⟩ : ∃ k,k=Z44 k1 n1:=⟨_,rfl⟩
   try rw [<- q2] at h
   refine Z0<|Z0<|bH h fun z1 e1 h=>Z2<|Z4 _ (Z0i rfl rfl (by decide))<|Z4 _ (iz e1 (Z0c rfl .t1 rfl))<|Z4 _ (Z8 rfl rfl rfl)<|Z1<|Z09 h rfl (fun h=>?_) (fun h=>?_)
   ·refine Zh<|Z9<|Z0<|bH h fun z2 e2 h=>bH h fun z3 e3 h=>bH h fun z4 e4 h=>bH h fun z5 e5 h=>bH h fun z6 e6 h=>bH h fun l1 g1 h=>Z2<|Z4 _ (Z0i rfl rfl (by decide))<|Z4 _ (iz e2 (Z0c rfl .t1 rfl))<|Z4 _ (Z0i rfl rfl (by decide))<|Z4 _ (iz e3 (Z0c rfl .t1 rfl))<|Z4 _ (iz e4 (Z48 rfl rfl (by decide)))<|Z4 _ (iz e5 (Z8 rfl rfl rfl))<|Z4 _ (iz e6 (Z8 rfl rfl rfl))<|Z4 _ (Z0i rfl rfl (by decide))<|Zd (Z5e (q:=[uA' l1]) (congrArg (fun z=>([uA' z]:List Seg)) g1.symm) rfl rfl rfl rfl .t1<|Z1<|Z0<|bH h fun z7 e7 h=>bH h fun z8 e8 h=>bH h fun l2 g2 h=>Z2<|Z4 _ (Z0i rfl rfl (by decide))<|Z4 _ (iz e7 (Z0c rfl .t1 rfl))<|Z4 _ (iz e8 (Z8 rfl rfl rfl))<|Z4 _ (Z0i rfl rfl (by decide))<|Zd (Z5e (q:=[uA' l2]) (congrArg (fun z=>([uA' z]:List Seg)) g2.symm) rfl rfl rfl rfl .t1<|Z1<|oH h fun y2 f2 h=>Z2<|Z4 _ (Z02 (p:=[uA' l2]) rfl .t1 rfl)<|Z4 _ (Z0h rfl (Ze6 f2))<|Zd (Zp (q:=[uA' y2]) rfl rfl rfl rfl rfl .t1<|Z1 ?_)))
    rw [q2] at h
    exact ⟨n1,Nat.lt_succ_self _,y2,h,⟨⟨rfl,rfl,trivial⟩,(.o (.o .nil))⟩⟩
   ·exact Zs _ rfl<|⟨a2,h,⟨⟨rfl,rfl,trivial⟩,(.o (.o .nil))⟩⟩
 ·rintro t m ⟨a1,h,hF⟩
  refine Ze hF ?_
  clear hF
  subst q1
  refine Z0<|oH h fun y3 f3 h=>Z2<|Z4 _ (Z0h rfl (Zgk f3))<|Zd (Zq fun b3 u3=>Zd (Zp (q:=[uA' y3]) rfl rfl rfl rfl rfl .here<|Z1<|Z0<|Z0<|oH h fun y4 f4 h=>Z2<|Z4 _ (Z02 (p:=[uA' a1]) rfl .t2 rfl)<|Z4 _ (Z02 (p:=[uA' y3]) rfl .here rfl)<|Z4 _ (Z0h rfl (Zmq f4))<|Z4 _ (Zv4 rfl rfl)<|Z1<|jH h fun k3 q3 h=>Zg (G:=fun t m=>∃ (a3:LI),k3 a3=some r/\Fit [(1,pt' b1),(2,pt' b2)] (ck b3 88 [uA' y3]::(ck b2 88 [uA' (replicate 10 0)]::(ck b1 88 [uA' a3] :: []))) t m) ?_ ?_))
  ·refine Z09 h rfl (fun h=>?_) (fun h=>?_)
   ·exact oH h fun y5 f5 h=>Z2<|Z4 _ (Z02 (p:=[uA' a1]) rfl .t2 rfl)<|Z4 _ (Z02 (p:=[uA' y3]) rfl .here rfl)<|Z4 _ (Z0h rfl (Zd1 f5))<|Zd (Zp (q:=[uA' y5]) rfl rfl rfl rfl rfl .t2<|Z1<|⟨y5,h,⟨⟨rfl,rfl,trivial⟩,(.o (.o (.o .nil)))⟩⟩)
   ·exact Zh<|⟨a1,h,⟨⟨rfl,rfl,trivial⟩,(.o (.o (.o .nil)))⟩⟩
  ·rintro t m ⟨a3,h,hF⟩
   refine Ze hF ?_
   clear hF
   subst q3
   refine Z0<|Z2<|Z4 _ (Z02 (p:=[uA' a3]) rfl .t2 rfl)<|Zd (Zp (q:=[uA' a3]) rfl rfl rfl rfl rfl .t1<|Z1<|Zj ?_)
   revert h; refine Zv fun h=>?_
   subst h
   exact ⟨_,(.cons (.agg rfl .t1 rfl) .nil),rfl⟩
def Ze4 (p0:LI) (p1:LI) (i1:Int) (k1:(LI)->OL) (k2:Int->(LI)->OL) (i2:Int) (a1:LI):OL :=
 br ((decide (i2<10))) (
 bnd (wrap .i64 (i1+i2)) fun z1 =>
 bnd (wrap .i64 (i1+i2)) fun z2 =>
 chk (inB z2 20) <|
 chk (inB i1 10) <|
 chk (inB i2 10) <|
 bnd (a1.getD (z2).toNat 0) fun z3 =>
 bnd (p0.getD (i1).toNat 0) fun z4 =>
 bnd (p1.getD (i2).toNat 0) fun z5 =>
 bnd (wrap .u64 (z4*z5)) fun z6 =>
 bnd (wrap .u64 (z3+z6)) fun z7 =>
 chk (inB z1 20) <|
 bnd (Z28 a1 (z1).toNat z7) fun l1 =>
 bnd (wrap .i64 (i2+1)) fun z8 =>
 k2 z8 l1
 ) (
 k1 a1
 )
def Z9d (p0:LI) (p1:LI) (i1:Int) (k1:(LI)->OL):Nat->Int->(LI)->OL
  | 0,_,_=>none
  | n+1,i2,a1=>Ze4 p0 p1 i1 k1 (Z9d p0 p1 i1 k1 n) i2 a1
def Ze3 (p0:LI) (p1:LI) (k1:(LI)->OL) (k2:Int->(LI)->OL) (i1:Int) (a1:LI):OL :=
 br ((decide (i1<10))) (
 jn (fun (a2:LI)=>bnd (wrap .i64 (i1+1)) fun z1 =>
 k2 z1 a2) fun k3=>Z9d p0 p1 i1 k3 big 0 a1
 ) (
 k1 a1
 )
def Z86 (p0:LI) (p1:LI) (k1:(LI)->OL):Nat->Int->(LI)->OL
  | 0,_,_=>none
  | n+1,i1,a1=>Ze3 p0 p1 k1 (Z86 p0 p1 k1 n) i1 a1
def Ze5 (k1:(LI)->OL) (k2:Int->(LI)->OL) (i1:Int) (a1:LI):OL :=
 br ((decide (i1<19))) (
 bnd (wrap .i64 (i1+1)) fun z1 =>
 bnd (wrap .i64 (i1+1)) fun z2 =>
 chk (inB z2 20) <|
 chk (inB i1 20) <|
 bnd (a1.getD (z2).toNat 0) fun z3 =>
 bnd (a1.getD (i1).toNat 0) fun z4 =>
 bnd (Z0f .u64 z4 26) fun z5 =>
 bnd (wrap .u64 (z3+z5)) fun z6 =>
 chk (inB z1 20) <|
 bnd (Z28 a1 (z1).toNat z6) fun l1 =>
 chk (inB i1 20) <|
 bnd (l1.getD (i1).toNat 0) fun z7 =>
 bnd (Za .and .u64 z7 67108863) fun z8 =>
 chk (inB i1 20) <|
 bnd (Z28 l1 (i1).toNat z8) fun l2 =>
 bnd (wrap .i64 (i1+1)) fun z9 =>
 k2 z9 l2
 ) (
 k1 a1
 )
def Z74 (k1:(LI)->OL):Nat->Int->(LI)->OL
  | 0,_,_=>none
  | n+1,i1,a1=>Ze5 k1 (Z74 k1 n) i1 a1
def Zjw (a1:LI) (k1:(LI)->OL) (k2:Int->(LI)->OL) (i1:Int) (a2:LI):OL :=
 br ((decide (i1<10))) (
 chk (inB i1 20) <|
 bnd (wrap .i64 (i1+10)) fun z1 =>
 chk (inB z1 20) <|
 bnd (a1.getD (i1).toNat 0) fun z2 =>
 bnd (a1.getD (z1).toNat 0) fun z3 =>
 bnd (wrap .u64 (608*z3)) fun z4 =>
 bnd (wrap .u64 (z2+z4)) fun z5 =>
 chk (inB i1 10) <|
 bnd (Z28 a2 (i1).toNat z5) fun l1 =>
 bnd (wrap .i64 (i1+1)) fun z6 =>
 k2 z6 l1
 ) (
 k1 a2
 )
def Z9e (a1:LI) (k1:(LI)->OL):Nat->Int->(LI)->OL
  | 0,_,_=>none
  | n+1,i1,a2=>Zjw a1 k1 (Z9e a1 k1 n) i1 a2
def Z1u (p0:LI) (p1:LI):OL :=
 jn (fun (a1:LI)=>jn (fun (a2:LI)=>jn (fun (a3:LI)=>opt (Z85 a3) fun y1 =>
 some y1) fun k1=>Z9e a2 k1 big 0 (replicate 10 0)) fun k2=>Z74 k2 big 0 a1) fun k3=>Z86 p0 p1 k3 big 0 (replicate 20 0)
theorem Z0b {W:World} {r:(LI)} {p0:LI} {p1:LI} (h:Z1u p0 p1=some r)  :
    Calls Tryz.prog 104 [agg [uA' p0],agg [uA' p1]].toArray W (Z34 W (agg [uA' r])):=by
 unfold Z1u at h
 refine Zc mo Z0ix rfl ?_
 refine Z0<|Z2<|Zd (Z0l (s:=[uA' p0]) rfl fun b1 u1=>Zd (Z0l (s:=[uA' p1]) rfl fun b2 u2=>Zd (Zq fun b3 u3=>Z1<|Z0<|Z2<|Zd (Zq fun b4 u4=>Z1<|Z0<|Z0<|Z2<|Z6 rfl<|Z1<|jH h fun k1 q1 h=>Zg (G:=fun t m=>∃ (a1:LI),k1 a1=some r/\Fit [(4,pt' b3),(5,pt' b4)] (ck b4 205 [.ints .u64 20 (a1)]::(ck b3 88 [uA' (replicate 10 0)]::(ck b2 88 [uA' p1]::(ck b1 88 [uA' p0] :: [])))) t m) ?_ ?_))))
 ·refine Z9<|Zm (fun n1 t m=>∃ (i1:Int) (a2:LI),Z86 p0 p1 k1 n1 i1 a2=some r/\Fit [(2,pt' b1),(3,pt' b2),(4,pt' b3),(5,pt' b4),(6,.int .i64 (i1))] (ck b4 205 [.ints .u64 20 (a2)]::(ck b3 88 [uA' (replicate 10 0)]::(ck b2 88 [uA' p1]::(ck b1 88 [uA' p0] :: [])))) t m) big ?_ ?_
  ·exact ⟨0,(replicate 20 0),h,⟨⟨rfl,rfl,rfl,rfl,rfl,trivial⟩,(.o (.o (.o (.o .nil))))⟩⟩
  ·rintro n1 t m ⟨i1,a2,h,hF⟩
   refine Ze hF ?_
   clear hF
   rcases n1 with _ | n1
   · exact Z07 h
   have h:Ze3 p0 p1 k1 (Z86 p0 p1 k1 n1) i1 a2=some r:=h
   unfold Ze3 at h
   obtain ⟨k2,q2⟩ : ∃ k,k=Z86 p0 p1 k1 n1:=⟨_,rfl⟩
   try rw [<- q2] at h
   refine Z0<|Z0<|Z2<|Z6 rfl<|Z4 _ (Z8 rfl rfl rfl)<|Z1<|Z09 h rfl (fun h=>?_) (fun h=>?_)
   ·refine Zh<|Z0<|Z9<|Z0<|Z2<|Z6 rfl<|Z1<|jH h fun k3 q3 h=>Zg (G:=fun t m=>∃ (a3:LI),k3 a3=some r/\Fit [(2,pt' b1),(3,pt' b2),(4,pt' b3),(5,pt' b4),(6,.int .i64 (i1))] (ck b4 205 [.ints .u64 20 (a3)]::(ck b3 88 [uA' (replicate 10 0)]::(ck b2 88 [uA' p1]::(ck b1 88 [uA' p0] :: [])))) t m) ?_ ?_
    ·refine Z9<|Zm (fun n2 t m=>∃ (i2:Int) (a4:LI),Z9d p0 p1 i1 k3 n2 i2 a4=some r/\Fit [(2,pt' b1),(3,pt' b2),(4,pt' b3),(5,pt' b4),(6,.int .i64 (i1)),(7,.int .i64 (i2))] (ck b4 205 [.ints .u64 20 (a4)]::(ck b3 88 [uA' (replicate 10 0)]::(ck b2 88 [uA' p1]::(ck b1 88 [uA' p0] :: [])))) t m) big ?_ ?_
     ·exact ⟨0,a2,h,⟨⟨rfl,rfl,rfl,rfl,rfl,rfl,trivial⟩,(.o (.o (.o (.o .nil))))⟩⟩
     ·rintro n2 t m ⟨i2,a4,h,hF⟩
      refine Ze hF ?_
      clear hF
      rcases n2 with _ | n2
      · exact Z07 h
      have h:Ze4 p0 p1 i1 k3 (Z9d p0 p1 i1 k3 n2) i2 a4=some r:=h
      unfold Ze4 at h
      obtain ⟨k4,q4⟩ : ∃ k,k=Z9d p0 p1 i1 k3 n2:=⟨_,rfl⟩
      try rw [<- q4] at h
      refine Z0<|Z0<|Z2<|Z6 rfl<|Z4 _ (Z8 rfl rfl rfl)<|Z1<|Z09 h rfl (fun h=>?_) (fun h=>?_)
      ·refine Zh<|Z0<|Z9<|bH h fun z1 e1 h=>bH h fun z2 e2 h=>cH h fun c1 h=>cH h fun c2 h=>cH h fun c3 h=>bH h fun z3 e3 h=>bH h fun z4 e4 h=>bH h fun z5 e5 h=>bH h fun z6 e6 h=>bH h fun z7 e7 h=>cH h fun c4 h=>bH h fun l1 g1 h=>Zt<|Z7 _ (Z0j rfl)<|Z7 _ (Z0j rfl)<|Z7 _ (iz e1 (Z8 rfl rfl rfl))<|Z7 _ (Z0j rfl)<|Z7 _ (Z0j rfl)<|Z7 _ (iz e2 (Z8 rfl rfl rfl))<|Z7 _ (Z0i rfl rfl (Z08 c1))<|Z7 _ (Z0j rfl)<|Z7 _ (Z0i rfl rfl (Z08 c2))<|Z7 _ (Z0j rfl)<|Z7 _ (Z0i rfl rfl (Z08 c3))<|Zo _ (iz e3 (Z1w (base:=0) rfl .here rfl (Z01 c1)))<|Zo _ (iz e4 (Z1w (base:=0) rfl .t3 rfl (Z01 c2)))<|Zo _ (iz e5 (Z1w (base:=0) rfl .t2 rfl (Z01 c3)))<|Z7 _ (iz e6 (Z8 rfl rfl rfl))<|Z7 _ (iz e7 (Z8 rfl rfl rfl))<|Z7 _ (Z0i rfl rfl (Z08 c4))<|Z1i rfl (Z1h (q:=[.ints .u64 20 (l1)]) (base:=0) g1 rfl rfl rfl (Z01 c4) rfl .here<|Z04<|bH h fun z8 e8 h=>Z2<|Z6 rfl<|Z4 _ (iz e8 (Z8 rfl rfl rfl))<|Z6 rfl<|Z1 ?_)
       rw [q4] at h
       exact ⟨n2,Nat.lt_succ_self _,z8,l1,h,⟨⟨rfl,rfl,rfl,rfl,rfl,rfl,trivial⟩,(.o (.o (.o (.o .nil))))⟩⟩
      ·exact Zs _ rfl<|⟨a4,h,⟨⟨rfl,rfl,rfl,rfl,rfl,trivial⟩,(.o (.o (.o (.o .nil))))⟩⟩
    ·rintro t m ⟨a3,h,hF⟩
     refine Ze hF ?_
     clear hF
     subst q3
     refine bH h fun z9 e9 h=>Z2<|Z6 rfl<|Z4 _ (iz e9 (Z8 rfl rfl rfl))<|Z6 rfl<|Z1 ?_
     rw [q2] at h
     exact ⟨n1,Nat.lt_succ_self _,z9,a3,h,⟨⟨rfl,rfl,rfl,rfl,rfl,trivial⟩,(.o (.o (.o (.o .nil))))⟩⟩
   ·exact Zs _ rfl<|⟨a2,h,⟨⟨rfl,rfl,trivial⟩,(.o (.o (.o (.o .nil))))⟩⟩
 ·rintro t m ⟨a1,h,hF⟩
  refine Ze hF ?_
  clear hF
  subst q1
  refine Z0<|Z0<|Z2<|Z6 rfl<|Z1<|jH h fun k5 q5 h=>Zg (G:=fun t m=>∃ (a5:LI),k5 a5=some r/\Fit [(4,pt' b3),(5,pt' b4)] (ck b4 205 [.ints .u64 20 (a5)]::(ck b3 88 [uA' (replicate 10 0)]::(ck b2 88 [uA' p1]::(ck b1 88 [uA' p0] :: [])))) t m) ?_ ?_
  ·refine Z9<|Zm (fun n3 t m=>∃ (i3:Int) (a6:LI),Z74 k5 n3 i3 a6=some r/\Fit [(4,pt' b3),(5,pt' b4),(8,.int .i64 (i3))] (ck b4 205 [.ints .u64 20 (a6)]::(ck b3 88 [uA' (replicate 10 0)]::(ck b2 88 [uA' p1]::(ck b1 88 [uA' p0] :: [])))) t m) big ?_ ?_
   ·exact ⟨0,a1,h,⟨⟨rfl,rfl,rfl,trivial⟩,(.o (.o (.o (.o .nil))))⟩⟩
   ·rintro n3 t m ⟨i3,a6,h,hF⟩
    refine Ze hF ?_
    clear hF
    rcases n3 with _ | n3
    · exact Z07 h
    have h:Ze5 k5 (Z74 k5 n3) i3 a6=some r:=h
    unfold Ze5 at h
    obtain ⟨k6,q6⟩ : ∃ k,k=Z74 k5 n3:=⟨_,rfl⟩
    try rw [<- q6] at h
    refine Z0<|Z0<|Z2<|Z6 rfl<|Z4 _ (Z8 rfl rfl rfl)<|Z1<|Z09 h rfl (fun h=>?_) (fun h=>?_)
    ·refine Zh<|Z0<|Z9<|Z0<|bH h fun z10 e10 h=>bH h fun z11 e11 h=>cH h fun c5 h=>cH h fun c6 h=>bH h fun z12 e12 h=>bH h fun z13 e13 h=>bH h fun z14 e14 h=>bH h fun z15 e15 h=>cH h fun c7 h=>bH h fun l2 g2 h=>Zt<|Z7 _ (Z0j rfl)<|Z7 _ (iz e10 (Z8 rfl rfl rfl))<|Z7 _ (Z0j rfl)<|Z7 _ (iz e11 (Z8 rfl rfl rfl))<|Z7 _ (Z0i rfl rfl (Z08 c5))<|Z7 _ (Z0j rfl)<|Z7 _ (Z0i rfl rfl (Z08 c6))<|Zo _ (iz e12 (Z1w (base:=0) rfl .here rfl (Z01 c5)))<|Zo _ (iz e13 (Z1w (base:=0) rfl .here rfl (Z01 c6)))<|Z7 _ (iz e14 (Z48 rfl rfl (by decide)))<|Z7 _ (iz e15 (Z8 rfl rfl rfl))<|Z7 _ (Z0i rfl rfl (Z08 c7))<|Z1i rfl (Z1h (q:=[.ints .u64 20 (l2)]) (base:=0) g2 rfl rfl rfl (Z01 c7) rfl .here<|Z04<|cH h fun c8 h=>bH h fun z16 e16 h=>bH h fun z17 e17 h=>cH h fun c9 h=>bH h fun l3 g3 h=>Z2<|Z6 rfl<|Z6 rfl<|Z4 _ (Z0i rfl rfl (Z08 c8))<|Z4 _ (iz e16 (Z1w (base:=0) rfl .here rfl (Z01 c8)))<|Z4 _ (iz e17 (Z8 rfl rfl rfl))<|Z4 _ (Z0i rfl rfl (Z08 c9))<|Zd (Z1h (q:=[.ints .u64 20 (l3)]) (base:=0) g3 rfl rfl rfl (Z01 c9) rfl .here<|Z1<|bH h fun z18 e18 h=>Z2<|Z6 rfl<|Z4 _ (iz e18 (Z8 rfl rfl rfl))<|Z6 rfl<|Z1 ?_))
     rw [q6] at h
     exact ⟨n3,Nat.lt_succ_self _,z18,l3,h,⟨⟨rfl,rfl,rfl,trivial⟩,(.o (.o (.o (.o .nil))))⟩⟩
    ·exact Zs _ rfl<|⟨a6,h,⟨⟨rfl,rfl,trivial⟩,(.o (.o (.o (.o .nil))))⟩⟩
  ·rintro t m ⟨a5,h,hF⟩
   refine Ze hF ?_
   clear hF
   subst q5
   refine Z0<|Z2<|Zd (Zq fun b5 u5=>Z1<|Z0<|Z0<|Z2<|Z6 rfl<|Z1<|jH h fun k7 q7 h=>Zg (G:=fun t m=>∃ (a7:LI),k7 a7=some r/\Fit [(4,pt' b3),(9,pt' b5)] (ck b5 88 [uA' a7]::(ck b4 205 [.ints .u64 20 (a5)]::(ck b3 88 [uA' (replicate 10 0)]::(ck b2 88 [uA' p1]::(ck b1 88 [uA' p0] :: []))))) t m) ?_ ?_)
   ·refine Z9<|Zm (fun n4 t m=>∃ (i4:Int) (a8:LI),Z9e a5 k7 n4 i4 a8=some r/\Fit [(4,pt' b3),(5,pt' b4),(9,pt' b5),(10,.int .i64 (i4))] (ck b5 88 [uA' a8]::(ck b4 205 [.ints .u64 20 (a5)]::(ck b3 88 [uA' (replicate 10 0)]::(ck b2 88 [uA' p1]::(ck b1 88 [uA' p0] :: []))))) t m) big ?_ ?_
    ·exact ⟨0,(replicate 10 0),h,⟨⟨rfl,rfl,rfl,rfl,trivial⟩,(.o (.o (.o (.o (.o .nil)))))⟩⟩
    ·rintro n4 t m ⟨i4,a8,h,hF⟩
     refine Ze hF ?_
     clear hF
     rcases n4 with _ | n4
     · exact Z07 h
     have h:Zjw a5 k7 (Z9e a5 k7 n4) i4 a8=some r:=h
     unfold Zjw at h
     obtain ⟨k8,q8⟩ : ∃ k,k=Z9e a5 k7 n4:=⟨_,rfl⟩
     try rw [<- q8] at h
     refine Z0<|Z0<|Z2<|Z6 rfl<|Z4 _ (Z8 rfl rfl rfl)<|Z1<|Z09 h rfl (fun h=>?_) (fun h=>?_)
     ·refine Zh<|Z0<|Z9<|cH h fun c10 h=>bH h fun z19 e19 h=>cH h fun c11 h=>bH h fun z20 e20 h=>bH h fun z21 e21 h=>bH h fun z22 e22 h=>bH h fun z23 e23 h=>cH h fun c12 h=>bH h fun l4 g4 h=>Zt<|Z7 _ (Z0j rfl)<|Z7 _ (Z0j rfl)<|Z7 _ (Z0i rfl rfl (Z08 c10))<|Z7 _ (Z0j rfl)<|Z7 _ (iz e19 (Z8 rfl rfl rfl))<|Z7 _ (Z0i rfl rfl (Z08 c11))<|Zo _ (iz e20 (Z1w (base:=0) rfl .t1 rfl (Z01 c10)))<|Zo _ (iz e21 (Z1w (base:=0) rfl .t1 rfl (Z01 c11)))<|Z7 _ (iz e22 (Z8 rfl rfl rfl))<|Z7 _ (iz e23 (Z8 rfl rfl rfl))<|Z7 _ (Z0i rfl rfl (Z08 c12))<|Z1i rfl (Z1h (q:=[uA' l4]) (base:=0) g4 rfl rfl rfl (Z01 c12) rfl .here<|Z04<|bH h fun z24 e24 h=>Z2<|Z6 rfl<|Z4 _ (iz e24 (Z8 rfl rfl rfl))<|Z6 rfl<|Z1 ?_)
      rw [q8] at h
      exact ⟨n4,Nat.lt_succ_self _,z24,l4,h,⟨⟨rfl,rfl,rfl,rfl,trivial⟩,(.o (.o (.o (.o (.o .nil)))))⟩⟩
     ·exact Zs _ rfl<|⟨a8,h,⟨⟨rfl,rfl,trivial⟩,(.o (.o (.o (.o (.o .nil)))))⟩⟩
   ·rintro t m ⟨a7,h,hF⟩
    refine Ze hF ?_
    clear hF
    subst q7
    refine Z0<|oH h fun y1 f1 h=>Z2<|Z4 _ (Z02 (p:=[uA' a7]) rfl .here rfl)<|Z4 _ (Z0h rfl (Z9t f1))<|Zd (Zp (q:=[uA' y1]) rfl rfl rfl rfl rfl .t2<|Z1<|Zj ?_)
    revert h; refine Zv fun h=>?_
    subst h
    exact ⟨_,(.cons (.agg rfl .t2 rfl) .nil),rfl⟩
def Z60 (p0:Int):OL :=
 bnd (Za .and .u64 p0 67108863) fun z1 =>
 bnd (Z0f .u64 p0 26) fun z2 =>
 bnd (Za .and .u64 z2 67108863) fun z3 =>
 bnd (Z0f .u64 p0 52) fun z4 =>
 bnd (([z1,z3,z4,0,0,0,0,0,0,0]:LI)) fun z5 =>
 some z5
theorem Z37 {W:World} {r:(LI)} {p0:Int} (h:Z60 p0=some r)  :
    Calls Tryz.prog 176 [.int .u64 (p0)].toArray W (Z34 W (agg [uA' r])):=by
 unfold Z60 at h
 refine Zc mo Z0k5 rfl ?_
 refine Z0<|Z2<|Zd (Zq fun b1 u1=>Z1<|Z0<|bH h fun z1 e1 h=>bH h fun z2 e2 h=>bH h fun z3 e3 h=>bH h fun z4 e4 h=>bH h fun z5 e5 h=>Z2<|Z6 rfl<|Z4 _ (iz e1 (Z8 rfl rfl rfl))<|Z6 rfl<|Z4 _ (iz e2 (Z48 rfl rfl (by decide)))<|Z4 _ (iz e3 (Z8 rfl rfl rfl))<|Z6 rfl<|Z4 _ (iz e4 (Z48 rfl rfl (by decide)))<|Z4 _ (az (fun z=>agg [.ints .u64 10 z]) e5 (Zd2 (.one rfl rfl rfl (.one rfl rfl rfl (.one rfl rfl rfl BdR.nil)))))<|Zd (Zp (q:=[uA' z5]) rfl rfl rfl rfl rfl .here<|Z1<|Zj ?_))
 revert h; refine Zv fun h=>?_
 subst h
 exact ⟨_,(.cons (.agg rfl .here rfl) .nil),rfl⟩
def Zbz (p0:LI) (p1:LI) (k1:(LI)->OL) (k2:Int->(LI)->OL) (i1:Int) (a1:LI):OL :=
 br ((decide (i1≥0))) (
 jn (fun (a2:LI)=>bnd (wrap .i64 (i1-1)) fun z1 =>
 k2 z1 a2) fun k3=>opt (Z1u a1 a1) fun y1 =>
 bnd (wrap .i64 (Int.tdiv i1 8)) fun z2 =>
 chk (inB z2 32) <|
 bnd (p1.getD (z2).toNat 0) fun z3 =>
 bnd (Int.tmod i1 8) fun z4 =>
 chk (decide (0<=z4)) <|
 bnd (Z0f .u8 z3 z4) fun z5 =>
 bnd (Za .and .u8 z5 1) fun z6 =>
 br ((z6==1)) (
 opt (Z1u y1 p0) fun y2 =>
 k3 y2
 ) (
 k3 y1
 )
 ) (
 k1 a1
 )
def Z87 (p0:LI) (p1:LI) (k1:(LI)->OL):Nat->Int->(LI)->OL
  | 0,_,_=>none
  | n+1,i1,a1=>Zbz p0 p1 k1 (Z87 p0 p1 k1 n) i1 a1
def Zjy (p0:LI) (p1:LI):OL :=
 opt (Z60 1) fun y1 =>
 jn (fun (a1:LI)=>some a1) fun k1=>Z87 p0 p1 k1 big 255 y1
theorem Zfp {W:World} {r:(LI)} {p0:LI} {p1:LI} (h:Zjy p0 p1=some r)  :
    Calls Tryz.prog 170 [agg [uA' p0],agg [b3' p1]].toArray W (Z34 W (agg [uA' r])):=by
 unfold Zjy at h
 refine Zc mo Z0jz rfl ?_
 refine Z0<|Z2<|Zd (Z0l (s:=[uA' p0]) rfl fun b1 u1=>Zd (Z0l (s:=[b3' p1]) rfl fun b2 u2=>Zd (Zq fun b3 u3=>Z1<|Z0<|oH h fun y1 f1 h=>Z2<|Z4 _ (Z0h rfl (Z37 f1))<|Zd (Zq fun b4 u4=>Zd (Zp (q:=[uA' y1]) rfl rfl rfl rfl rfl .here<|Z1<|Z0<|Z0<|Z2<|Z6 rfl<|Z1<|jH h fun k1 q1 h=>Zg (G:=fun t m=>∃ (a1:LI),k1 a1=some r/\Fit [(4,pt' b3),(5,pt' b4)] (ck b4 88 [uA' a1]::(ck b3 88 [uA' (replicate 10 0)]::(ck b2 22 [b3' p1]::(ck b1 88 [uA' p0] :: [])))) t m) ?_ ?_)))))
 ·refine Z9<|Zm (fun n1 t m=>∃ (i1:Int) (a2:LI),Z87 p0 p1 k1 n1 i1 a2=some r/\Fit [(2,pt' b1),(3,pt' b2),(4,pt' b3),(5,pt' b4),(6,.int .i64 (i1))] (ck b4 88 [uA' a2]::(ck b3 88 [uA' (replicate 10 0)]::(ck b2 22 [b3' p1]::(ck b1 88 [uA' p0] :: [])))) t m) big ?_ ?_
  ·exact ⟨255,y1,h,⟨⟨rfl,rfl,rfl,rfl,rfl,trivial⟩,(.o (.o (.o (.o .nil))))⟩⟩
  ·rintro n1 t m ⟨i1,a2,h,hF⟩
   refine Ze hF ?_
   clear hF
   rcases n1 with _ | n1
   · exact Z07 h
   have h:Zbz p0 p1 k1 (Z87 p0 p1 k1 n1) i1 a2=some r:=h
   unfold Zbz at h
   obtain ⟨k2,q2⟩ : ∃ k,k=Z87 p0 p1 k1 n1:=⟨_,rfl⟩
   try rw [<- q2] at h
   refine Z0<|Z0<|Z2<|Z6 rfl<|Z4 _ (Z8 rfl rfl rfl)<|Z1<|Z09 h rfl (fun h=>?_) (fun h=>?_)
   ·refine Zh<|Z0<|jH h fun k3 q3 h=>Zg (G:=fun t m=>∃ (a3:LI),k3 a3=some r/\Fit [(2,pt' b1),(3,pt' b2),(4,pt' b3),(5,pt' b4),(6,.int .i64 (i1))] (ck b4 88 [uA' a3]::(ck b3 88 [uA' (replicate 10 0)]::(ck b2 22 [b3' p1]::(ck b1 88 [uA' p0] :: [])))) t m) ?_ ?_
    ·refine Z9<|Z0<|oH h fun y2 f2 h=>Z2<|Z4 _ (Z02 (p:=[uA' a2]) rfl .here rfl)<|Z4 _ (Z02 (p:=[uA' a2]) rfl .here rfl)<|Z4 _ (Z0h rfl (Z0b f2))<|Zd (Zp (q:=[uA' y2]) rfl rfl rfl rfl rfl .here<|Z1<|Z0<|bH h fun z1 e1 h=>cH h fun c1 h=>bH h fun z2 e2 h=>bH h fun z3 e3 h=>cH h fun c2 h=>bH h fun z4 e4 h=>bH h fun z5 e5 h=>Z2<|Z6 rfl<|Z4 _ (iz e1 (Zbf rfl rfl (by decide)))<|Z4 _ (Z0i rfl rfl (Z08 c1))<|Z4 _ (iz e2 (Z1w (base:=0) rfl .t2 rfl (Z01 c1)))<|Z6 rfl<|Z4 _ (iz e3 (Z8c rfl rfl (by decide)))<|Z4 _ (iz e4 (Z48 rfl rfl (of_decide_eq_true c2)))<|Z4 _ (iz e5 (Z8 rfl rfl rfl))<|Z4 _ (Z8 rfl rfl rfl)<|Z1<|Z09 h rfl (fun h=>?_) (fun h=>?_))
     ·exact oH h fun y3 f3 h=>Z2<|Z4 _ (Z02 (p:=[uA' y2]) rfl .here rfl)<|Z4 _ (Z02 (p:=[uA' p0]) rfl .t3 rfl)<|Z4 _ (Z0h rfl (Z0b f3))<|Zd (Zp (q:=[uA' y3]) rfl rfl rfl rfl rfl .here<|Z1<|⟨y3,h,⟨⟨rfl,rfl,rfl,rfl,rfl,trivial⟩,(.o (.o (.o (.o .nil))))⟩⟩)
     ·exact Zh<|⟨y2,h,⟨⟨rfl,rfl,rfl,rfl,rfl,trivial⟩,(.o (.o (.o (.o .nil))))⟩⟩
    ·rintro t m ⟨a3,h,hF⟩
     refine Ze hF ?_
     clear hF
     subst q3
     refine bH h fun z6 e6 h=>Z2<|Z6 rfl<|Z4 _ (iz e6 (Z8 rfl rfl rfl))<|Z6 rfl<|Z1 ?_
     rw [q2] at h
     exact ⟨n1,Nat.lt_succ_self _,z6,a3,h,⟨⟨rfl,rfl,rfl,rfl,rfl,trivial⟩,(.o (.o (.o (.o .nil))))⟩⟩
   ·exact Zs _ rfl<|⟨a2,h,⟨⟨rfl,rfl,trivial⟩,(.o (.o (.o (.o .nil))))⟩⟩
 ·rintro t m ⟨a1,h,hF⟩
  refine Ze hF ?_
  clear hF
  subst q1
  refine Z0<|Z2<|Z4 _ (Z02 (p:=[uA' a1]) rfl .here rfl)<|Zd (Zp (q:=[uA' a1]) rfl rfl rfl rfl rfl .t1<|Z1<|Zj ?_)
  revert h; refine Zv fun h=>?_
  subst h
  exact ⟨_,(.cons (.agg rfl .t1 rfl) .nil),rfl⟩
def Zfq (k1:(LI)->OL) (k2:Int->(LI)->OL) (i1:Int) (a1:LI):OL :=
 br ((decide (i1<32))) (
 chk (inB i1 32) <|
 bnd (Z28 a1 (i1).toNat 255) fun l1 =>
 bnd (wrap .i64 (i1+1)) fun z1 =>
 k2 z1 l1
 ) (
 k1 a1
 )
def Zap (k1:(LI)->OL):Nat->Int->(LI)->OL
  | 0,_,_=>none
  | n+1,i1,a1=>Zfq k1 (Zap k1 n) i1 a1
def Zb6 (p0:Int) (p1:Int):OL :=
 jn (fun (a1:LI)=>bnd (Z28 a1 0 p0) fun l1 =>
 bnd (Z28 l1 31 p1) fun l2 =>
 some l2) fun k1=>Zap k1 big 0 (replicate 32 0)
theorem Zco {W:World} {r:(LI)} {p0:Int} {p1:Int} (h:Zb6 p0 p1=some r)  :
    Calls Tryz.prog 171 [.int .u8 (p0),.int .u8 (p1)].toArray W (Z34 W (agg [b3' r])):=by
 unfold Zb6 at h
 refine Zc mo Z0k0 rfl ?_
 refine Z0<|Z2<|Zd (Zq fun b1 u1=>Z1<|Z0<|Z2<|Zd (Zq fun b2 u2=>Z1<|Z0<|Z0<|Z2<|Z6 rfl<|Z1<|jH h fun k1 q1 h=>Zg (G:=fun t m=>∃ (a1:LI),k1 a1=some r/\Fit [(0,.int .u8 (p0)),(1,.int .u8 (p1)),(4,pt' b1),(5,pt' b2)] (ck b2 22 [b3' a1]::(ck b1 22 [b3' (replicate 32 0)] :: [])) t m) ?_ ?_))
 ·refine Z9<|Zm (fun n1 t m=>∃ (i1:Int) (a2:LI),Zap k1 n1 i1 a2=some r/\Fit [(0,.int .u8 (p0)),(1,.int .u8 (p1)),(4,pt' b1),(5,pt' b2),(6,.int .i64 (i1))] (ck b2 22 [b3' a2]::(ck b1 22 [b3' (replicate 32 0)] :: [])) t m) big ?_ ?_
  ·exact ⟨0,(replicate 32 0),h,⟨⟨rfl,rfl,rfl,rfl,rfl,trivial⟩,(.o (.o .nil))⟩⟩
  ·rintro n1 t m ⟨i1,a2,h,hF⟩
   refine Ze hF ?_
   clear hF
   rcases n1 with _ | n1
   · exact Z07 h
   have h:Zfq k1 (Zap k1 n1) i1 a2=some r:=h
   unfold Zfq at h
   obtain ⟨k2,q2⟩ : ∃ k,k=Zap k1 n1:=⟨_,rfl⟩
   try rw [<- q2] at h
   refine Z0<|Z0<|Z2<|Z6 rfl<|Z4 _ (Z8 rfl rfl rfl)<|Z1<|Z09 h rfl (fun h=>?_) (fun h=>?_)
   ·refine Zh<|Z0<|Z9<|cH h fun c1 h=>bH h fun l1 g1 h=>Z2<|Z6 rfl<|Z4 _ (Z0i rfl rfl (Z08 c1))<|Zd (Z1h (q:=[b3' l1]) (base:=0) g1 rfl rfl rfl (Z01 c1) rfl .here<|Z1<|bH h fun z1 e1 h=>Z2<|Z6 rfl<|Z4 _ (iz e1 (Z8 rfl rfl rfl))<|Z6 rfl<|Z1 ?_)
    rw [q2] at h
    exact ⟨n1,Nat.lt_succ_self _,z1,l1,h,⟨⟨rfl,rfl,rfl,rfl,rfl,trivial⟩,(.o (.o .nil))⟩⟩
   ·exact Zs _ rfl<|⟨a2,h,⟨⟨rfl,rfl,rfl,rfl,trivial⟩,(.o (.o .nil))⟩⟩
 ·rintro t m ⟨a1,h,hF⟩
  refine Ze hF ?_
  clear hF
  subst q1
  refine Z0<|bH h fun l2 g2 h=>Z2<|Z6 rfl<|Z4 _ (Z0i rfl rfl (by decide))<|Zd (Z5e (q:=[b3' l2]) (congrArg (fun z=>([b3' z]:List Seg)) g2.symm) rfl rfl rfl rfl .here<|Z1<|Z0<|bH h fun l3 g3 h=>Z2<|Z6 rfl<|Z4 _ (Z0i rfl rfl (by decide))<|Zd (Z5e (q:=[b3' l3]) (congrArg (fun z=>([b3' z]:List Seg)) g3.symm) rfl rfl rfl rfl .here<|Z1<|Z0<|Z2<|Z4 _ (Z02 (p:=[b3' l3]) rfl .here rfl)<|Zd (Zp (q:=[b3' l3]) rfl rfl rfl rfl rfl .t1<|Z1<|Zj ?_)))
  revert h; refine Zv fun h=>?_
  subst h
  exact ⟨_,(.cons (.agg rfl .t1 rfl) .nil),rfl⟩
def Z9c (p0:LI):OL :=
 opt (Zb6 235 127) fun y1 =>
 opt (Zjy p0 y1) fun y2 =>
 some y2
theorem Zbe {W:World} {r:(LI)} {p0:LI} (h:Z9c p0=some r)  :
    Calls Tryz.prog 102 [agg [uA' p0]].toArray W (Z34 W (agg [uA' r])):=by
 unfold Z9c at h
 refine Zc mo Z0iv rfl ?_
 refine Z0<|Z2<|Zd (Z0l (s:=[uA' p0]) rfl fun b1 u1=>Zd (Zq fun b2 u2=>Z1<|Z0<|oH h fun y1 f1 h=>oH h fun y2 f2 h=>Zt<|Z7 _ (Z0h rfl (Zco f1))<|Zo _ (Z02 (p:=[uA' p0]) rfl .t1 rfl)<|Z7 _ (Z0h rfl (Zfp f2))<|Z1i rfl (Zp (q:=[uA' y2]) rfl rfl rfl rfl rfl .here<|Z04<|Zj ?_)))
 revert h; refine Zv fun h=>?_
 subst h
 exact ⟨_,(.cons (.agg rfl .here rfl) .nil),rfl⟩
def Zan (p0:LI) (k1:(LI)->OL) (k2:Int->(LI)->OL) (i1:Int) (a1:LI):OL :=
 br ((decide (i1<255))) (
 bnd (wrap .i64 (Int.tdiv i1 26)) fun z1 =>
 chk (inB z1 10) <|
 bnd (p0.getD (z1).toNat 0) fun z2 =>
 bnd (Int.tmod i1 26) fun z3 =>
 chk (decide (0<=z3)) <|
 bnd (Z0f .u64 z2 z3) fun z4 =>
 bnd (Za .and .u64 z4 1) fun z5 =>
 bnd (wrap .u8 z5) fun z6 =>
 bnd (wrap .i64 (Int.tdiv i1 8)) fun z7 =>
 bnd (wrap .i64 (Int.tdiv i1 8)) fun z8 =>
 chk (inB z8 32) <|
 bnd (Int.tmod i1 8) fun z9 =>
 chk (decide (0<=z9)) <|
 bnd (Z1v .u8 z6 z9) fun z10 =>
 bnd (a1.getD (z8).toNat 0) fun z11 =>
 bnd (wrap .u8 (z11+z10)) fun z12 =>
 chk (inB z7 32) <|
 bnd (Z28 a1 (z7).toNat z12) fun l1 =>
 bnd (wrap .i64 (i1+1)) fun z13 =>
 k2 z13 l1
 ) (
 k1 a1
 )
def Z6g (p0:LI) (k1:(LI)->OL):Nat->Int->(LI)->OL
  | 0,_,_=>none
  | n+1,i1,a1=>Zan p0 k1 (Z6g p0 k1 n) i1 a1
def Zgi (p0:LI):OL :=
 jn (fun (a1:LI)=>some a1) fun k1=>Z6g p0 k1 big 0 (replicate 32 0)
theorem Zmp {W:World} {r:(LI)} {p0:LI} (h:Zgi p0=some r)  :
    Calls Tryz.prog 103 [agg [uA' p0]].toArray W (Z34 W (agg [b3' r])):=by
 unfold Zgi at h
 refine Zc mo Z0iw rfl ?_
 refine Z0<|Z2<|Zd (Z0l (s:=[uA' p0]) rfl fun b1 u1=>Zd (Zq fun b2 u2=>Z1<|Z0<|Z2<|Zd (Zq fun b3 u3=>Z1<|Z0<|Z0<|Z2<|Z6 rfl<|Z1<|jH h fun k1 q1 h=>Zg (G:=fun t m=>∃ (a1:LI),k1 a1=some r/\Fit [(2,pt' b2),(3,pt' b3)] (ck b3 22 [b3' a1]::(ck b2 22 [b3' (replicate 32 0)]::(ck b1 88 [uA' p0] :: []))) t m) ?_ ?_)))
 ·refine Z9<|Zm (fun n1 t m=>∃ (i1:Int) (a2:LI),Z6g p0 k1 n1 i1 a2=some r/\Fit [(1,pt' b1),(2,pt' b2),(3,pt' b3),(4,.int .i64 (i1))] (ck b3 22 [b3' a2]::(ck b2 22 [b3' (replicate 32 0)]::(ck b1 88 [uA' p0] :: []))) t m) big ?_ ?_
  ·exact ⟨0,(replicate 32 0),h,⟨⟨rfl,rfl,rfl,rfl,trivial⟩,(.o (.o (.o .nil)))⟩⟩
  ·rintro n1 t m ⟨i1,a2,h,hF⟩
   refine Ze hF ?_
   clear hF
   rcases n1 with _ | n1
   · exact Z07 h
   have h:Zan p0 k1 (Z6g p0 k1 n1) i1 a2=some r:=h
   unfold Zan at h
   obtain ⟨k2,q2⟩ : ∃ k,k=Z6g p0 k1 n1:=⟨_,rfl⟩
   try rw [<- q2] at h
   refine Z0<|Z0<|Z2<|Z6 rfl<|Z4 _ (Z8 rfl rfl rfl)<|Z1<|Z09 h rfl (fun h=>?_) (fun h=>?_)
   ·refine Zh<|Z0<|Z9<|Z0<|bH h fun z1 e1 h=>cH h fun c1 h=>bH h fun z2 e2 h=>bH h fun z3 e3 h=>cH h fun c2 h=>bH h fun z4 e4 h=>bH h fun z5 e5 h=>bH h fun z6 e6 h=>Z2<|Z6 rfl<|Z4 _ (iz e1 (Zbf rfl rfl (by decide)))<|Z4 _ (Z0i rfl rfl (Z08 c1))<|Z4 _ (iz e2 (Z1w (base:=0) rfl .t2 rfl (Z01 c1)))<|Z6 rfl<|Z4 _ (iz e3 (Z8c rfl rfl (by decide)))<|Z4 _ (iz e4 (Z48 rfl rfl (of_decide_eq_true c2)))<|Z4 _ (iz e5 (Z8 rfl rfl rfl))<|Z4 _ (iz e6 (Z33 rfl))<|Z6 rfl<|Z1<|bH h fun z7 e7 h=>bH h fun z8 e8 h=>cH h fun c3 h=>bH h fun z9 e9 h=>cH h fun c4 h=>bH h fun z10 e10 h=>bH h fun z11 e11 h=>bH h fun z12 e12 h=>cH h fun c5 h=>bH h fun l1 g1 h=>Zt<|Z7 _ (Z0j rfl)<|Z7 _ (iz e7 (Zbf rfl rfl (by decide)))<|Z7 _ (Z0j rfl)<|Z7 _ (iz e8 (Zbf rfl rfl (by decide)))<|Z7 _ (Z0i rfl rfl (Z08 c3))<|Z7 _ (Z0j rfl)<|Z7 _ (Z0j rfl)<|Z7 _ (iz e9 (Z8c rfl rfl (by decide)))<|Z7 _ (iz e10 (Zhg rfl rfl (of_decide_eq_true c4)))<|Zo _ (iz e11 (Z1w (base:=0) rfl .here rfl (Z01 c3)))<|Z7 _ (iz e12 (Z8 rfl rfl rfl))<|Z7 _ (Z0i rfl rfl (Z08 c5))<|Z1i rfl (Z1h (q:=[b3' l1]) (base:=0) g1 rfl rfl rfl (Z01 c5) rfl .here<|Z04<|bH h fun z13 e13 h=>Z2<|Z6 rfl<|Z4 _ (iz e13 (Z8 rfl rfl rfl))<|Z6 rfl<|Z1 ?_)
    rw [q2] at h
    exact ⟨n1,Nat.lt_succ_self _,z13,l1,h,⟨⟨rfl,rfl,rfl,rfl,trivial⟩,(.o (.o (.o .nil)))⟩⟩
   ·exact Zs _ rfl<|⟨a2,h,⟨⟨rfl,rfl,trivial⟩,(.o (.o (.o .nil)))⟩⟩
 ·rintro t m ⟨a1,h,hF⟩
  refine Ze hF ?_
  clear hF
  subst q1
  refine Z0<|Z2<|Z4 _ (Z02 (p:=[b3' a1]) rfl .here rfl)<|Zd (Zp (q:=[b3' a1]) rfl rfl rfl rfl rfl .t1<|Z1<|Zj ?_)
  revert h; refine Zv fun h=>?_
  subst h
  exact ⟨_,(.cons (.agg rfl .t1 rfl) .nil),rfl⟩
def Zeq (p0:LI):Option Bool :=
 bnd (p0.getD 0 0) fun z1 =>
 bnd (Za .and .u64 z1 1) fun z2 =>
 some (z2==1)
theorem Zgj {W:World} {r:Bool} {p0:LI} (h:Zeq p0=some r)  :
    Calls Tryz.prog 105 [agg [uA' p0]].toArray W (Z34 W (.bool (r))):=by
 unfold Zeq at h
 refine Zc mo Z0iy rfl ?_
 refine Z0<|Z2<|Zd (Z0l (s:=[uA' p0]) rfl fun b1 u1=>Z6 rfl<|Z1<|Z0<|bH h fun z1 e1 h=>bH h fun z2 e2 h=>Z2<|Z4 _ (Z0i rfl rfl (by decide))<|Z4 _ (iz e1 (Z0c rfl .here rfl))<|Z4 _ (iz e2 (Z8 rfl rfl rfl))<|Z4 _ (Z8 rfl rfl rfl)<|Z6 rfl<|Z1<|Zj ?_)
 revert h; refine Zv fun h=>?_
 subst h
 exact ⟨_,(.cons (.tmp rfl) .nil),rfl⟩
structure Z1y where
  gX:LI
  gY:LI
  gZ:LI
def Z6j:Z1y:=⟨(replicate 10 0),(replicate 10 0),(replicate 10 0)⟩
def Ze7 (p0:Z1y):OL :=
 opt (Z9c p0.gZ) fun y1 =>
 opt (Z1u p0.gY y1) fun y2 =>
 opt (Zgi y2) fun y3 =>
 opt (Z1u p0.gX y1) fun y4 =>
 opt (Zeq y4) fun y5 =>
 jn (fun (a1:LI)=>some a1) fun k1=>br (y5) (
 bnd (y3.getD 31 0) fun z1 =>
 bnd (wrap .u8 (z1+128)) fun z2 =>
 bnd (Z28 y3 31 z2) fun l1 =>
 k1 l1
 ) (
 k1 y3
 )
theorem Zkz {W:World} {r:(LI)} {p0:Z1y} (h:Ze7 p0=some r)  :
    Calls Tryz.prog 54 [agg [uA' p0.gX,uA' p0.gY,uA' p0.gZ]].toArray W (Z34 W (agg [b3' r])):=by
 unfold Ze7 at h
 refine Zc mo ok54 rfl ?_
 refine Z0<|Z2<|Zd (Z0l (s:=[uA' p0.gX,uA' p0.gY,uA' p0.gZ]) rfl fun b1 u1=>Zd (Zq fun b2 u2=>Z1<|Z0<|oH h fun y1 f1 h=>Z2<|Z4 _ (Z2l rfl)<|Z4 _ (Z02 (p:=[uA' p0.gZ]) rfl .t1 rfl)<|Z4 _ (Z0h rfl (Zbe f1))<|Zd (Zq fun b3 u3=>Zd (Zp (q:=[uA' y1]) rfl rfl rfl rfl rfl .here<|Z1<|Z0<|oH h fun y2 f2 h=>oH h fun y3 f3 h=>Z2<|Z4 _ (Z2l rfl)<|Z4 _ (Z02 (p:=[uA' p0.gY]) rfl .t2 rfl)<|Z4 _ (Z02 (p:=[uA' y1]) rfl .here rfl)<|Z4 _ (Z0h rfl (Z0b f2))<|Z4 _ (Z0h rfl (Zmp f3))<|Zd (Zq fun b4 u4=>Zd (Zp (q:=[b3' y3]) rfl rfl rfl rfl rfl .here<|Z1<|Z0<|Z0<|oH h fun y4 f4 h=>oH h fun y5 f5 h=>Z2<|Z4 _ (Z2l rfl)<|Z4 _ (Z02 (p:=[uA' p0.gX]) rfl .t3 rfl)<|Z4 _ (Z02 (p:=[uA' y1]) rfl .t1 rfl)<|Z4 _ (Z0h rfl (Z0b f4))<|Z4 _ (Z0h rfl (Zgj f5))<|Z1<|jH h fun k1 q1 h=>Zg (G:=fun t m=>∃ (a1:LI),k1 a1=some r/\Fit [(2,pt' b2),(4,pt' b4)] (ck b4 22 [b3' a1]::(ck b3 88 [uA' y1]::(ck b2 29 [b3' (replicate 32 0)]::(ck b1 90 [uA' p0.gX,uA' p0.gY,uA' p0.gZ] :: [])))) t m) ?_ ?_))))))
 ·refine Z09 h rfl (fun h=>?_) (fun h=>?_)
  ·exact bH h fun z1 e1 h=>bH h fun z2 e2 h=>bH h fun l1 g1 h=>Z2<|Z4 _ (Z0i rfl rfl (by decide))<|Z4 _ (iz e1 (Z0c rfl .here rfl))<|Z4 _ (iz e2 (Z8 rfl rfl rfl))<|Z4 _ (Z0i rfl rfl (by decide))<|Zd (Z5e (q:=[b3' l1]) (congrArg (fun z=>([b3' z]:List Seg)) g1.symm) rfl rfl rfl rfl .here<|Z1<|⟨l1,h,⟨⟨rfl,rfl,trivial⟩,(.o (.o (.o (.o .nil))))⟩⟩)
  ·exact Zh<|⟨y3,h,⟨⟨rfl,rfl,trivial⟩,(.o (.o (.o (.o .nil))))⟩⟩
 ·rintro t m ⟨a1,h,hF⟩
  refine Ze hF ?_
  clear hF
  subst q1
  refine Z0<|Z2<|Z4 _ (Z02 (p:=[b3' a1]) rfl .here rfl)<|Zd (Zp (q:=[b3' a1]) rfl rfl rfl rfl rfl .t2<|Z1<|Zj ?_)
  revert h; refine Zv fun h=>?_
  subst h
  exact ⟨_,(.cons (.agg rfl .t2 rfl) .nil),rfl⟩
def Zli (p0:LI):OL :=
 opt (Zcq) fun y1 =>
 opt (Z7e y1 p0) fun y2 =>
 opt (Z85 y2) fun y3 =>
 some y3
theorem Zjx {W:World} {r:(LI)} {p0:LI} (h:Zli p0=some r)  :
    Calls Tryz.prog 142 [agg [uA' p0]].toArray W (Z34 W (agg [uA' r])):=by
 unfold Zli at h
 refine Zc mo Z0jn rfl ?_
 refine Z0<|Z2<|Zd (Z0l (s:=[uA' p0]) rfl fun b1 u1=>Zd (Zq fun b2 u2=>Z1<|Z0<|oH h fun y1 f1 h=>oH h fun y2 f2 h=>oH h fun y3 f3 h=>Zt<|Z7 _ (Z0h rfl (Zgk f1))<|Zo _ (Z02 (p:=[uA' p0]) rfl .t1 rfl)<|Z7 _ (Z0h rfl (Zd1 f2))<|Z7 _ (Z0h rfl (Z9t f3))<|Z1i rfl (Zp (q:=[uA' y3]) rfl rfl rfl rfl rfl .here<|Z04<|Zj ?_)))
 revert h; refine Zv fun h=>?_
 subst h
 exact ⟨_,(.cons (.agg rfl .here rfl) .nil),rfl⟩
def Zjv (p1:LI) (k1:(LI)->OL) (k2:Int->(LI)->OL) (i1:Int) (a1:LI):OL :=
 br ((decide (i1<10))) (
 chk (inB i1 10) <|
 chk (inB i1 10) <|
 bnd (a1.getD (i1).toNat 0) fun z1 =>
 bnd (p1.getD (i1).toNat 0) fun z2 =>
 bnd (wrap .u64 (z1+z2)) fun z3 =>
 chk (inB i1 10) <|
 bnd (Z28 a1 (i1).toNat z3) fun l1 =>
 bnd (wrap .i64 (i1+1)) fun z4 =>
 k2 z4 l1
 ) (
 k1 a1
 )
def Zbx (p1:LI) (k1:(LI)->OL):Nat->Int->(LI)->OL
  | 0,_,_=>none
  | n+1,i1,a1=>Zjv p1 k1 (Zbx p1 k1 n) i1 a1
def Zd0 (p0:LI) (p1:LI):OL :=
 jn (fun (a1:LI)=>opt (Z85 a1) fun y1 =>
 some y1) fun k1=>Zbx p1 k1 big 0 p0
theorem Z6f {W:World} {r:(LI)} {p0:LI} {p1:LI} (h:Zd0 p0 p1=some r)  :
    Calls Tryz.prog 194 [agg [uA' p0],agg [uA' p1]].toArray W (Z34 W (agg [uA' r])):=by
 unfold Zd0 at h
 refine Zc mo Z0kg rfl ?_
 refine Z0<|Z2<|Zd (Z0l (s:=[uA' p0]) rfl fun b1 u1=>Zd (Z0l (s:=[uA' p1]) rfl fun b2 u2=>Zd (Zq fun b3 u3=>Z1<|Z0<|Z0<|Z2<|Z6 rfl<|Z1<|jH h fun k1 q1 h=>Zg (G:=fun t m=>∃ (a1:LI),k1 a1=some r/\Fit [(2,pt' b1),(4,pt' b3)] (ck b3 88 [uA' (replicate 10 0)]::(ck b2 88 [uA' p1]::(ck b1 88 [uA' a1] :: []))) t m) ?_ ?_)))
 ·refine Z9<|Zm (fun n1 t m=>∃ (i1:Int) (a2:LI),Zbx p1 k1 n1 i1 a2=some r/\Fit [(2,pt' b1),(3,pt' b2),(4,pt' b3),(5,.int .i64 (i1))] (ck b3 88 [uA' (replicate 10 0)]::(ck b2 88 [uA' p1]::(ck b1 88 [uA' a2] :: []))) t m) big ?_ ?_
  ·exact ⟨0,p0,h,⟨⟨rfl,rfl,rfl,rfl,trivial⟩,(.o (.o (.o .nil)))⟩⟩
  ·rintro n1 t m ⟨i1,a2,h,hF⟩
   refine Ze hF ?_
   clear hF
   rcases n1 with _ | n1
   · exact Z07 h
   have h:Zjv p1 k1 (Zbx p1 k1 n1) i1 a2=some r:=h
   unfold Zjv at h
   obtain ⟨k2,q2⟩ : ∃ k,k=Zbx p1 k1 n1:=⟨_,rfl⟩
   try rw [<- q2] at h
   refine Z0<|Z0<|Z2<|Z6 rfl<|Z4 _ (Z8 rfl rfl rfl)<|Z1<|Z09 h rfl (fun h=>?_) (fun h=>?_)
   ·refine Zh<|Z0<|Z9<|cH h fun c1 h=>cH h fun c2 h=>bH h fun z1 e1 h=>bH h fun z2 e2 h=>bH h fun z3 e3 h=>cH h fun c3 h=>bH h fun l1 g1 h=>Zt<|Z7 _ (Z0j rfl)<|Z7 _ (Z0j rfl)<|Z7 _ (Z0i rfl rfl (Z08 c1))<|Z7 _ (Z0j rfl)<|Z7 _ (Z0i rfl rfl (Z08 c2))<|Zo _ (iz e1 (Z1w (base:=0) rfl .t2 rfl (Z01 c1)))<|Zo _ (iz e2 (Z1w (base:=0) rfl .t1 rfl (Z01 c2)))<|Z7 _ (iz e3 (Z8 rfl rfl rfl))<|Z7 _ (Z0i rfl rfl (Z08 c3))<|Z1i rfl (Z1h (q:=[uA' l1]) (base:=0) g1 rfl rfl rfl (Z01 c3) rfl .t2<|Z04<|bH h fun z4 e4 h=>Z2<|Z6 rfl<|Z4 _ (iz e4 (Z8 rfl rfl rfl))<|Z6 rfl<|Z1 ?_)
    rw [q2] at h
    exact ⟨n1,Nat.lt_succ_self _,z4,l1,h,⟨⟨rfl,rfl,rfl,rfl,trivial⟩,(.o (.o (.o .nil)))⟩⟩
   ·exact Zs _ rfl<|⟨a2,h,⟨⟨rfl,rfl,trivial⟩,(.o (.o (.o .nil)))⟩⟩
 ·rintro t m ⟨a1,h,hF⟩
  refine Ze hF ?_
  clear hF
  subst q1
  refine Z0<|oH h fun y1 f1 h=>Z2<|Z4 _ (Z02 (p:=[uA' a1]) rfl .t2 rfl)<|Z4 _ (Z0h rfl (Z9t f1))<|Zd (Zp (q:=[uA' y1]) rfl rfl rfl rfl rfl .here<|Z1<|Zj ?_)
  revert h; refine Zv fun h=>?_
  subst h
  exact ⟨_,(.cons (.agg rfl .here rfl) .nil),rfl⟩
def Zht (p0:LI) (p1:LI):OL :=
 opt (Zli p1) fun y1 =>
 opt (Zd0 p0 y1) fun y2 =>
 some y2
theorem Zcp {W:World} {r:(LI)} {p0:LI} {p1:LI} (h:Zht p0 p1=some r)  :
    Calls Tryz.prog 193 [agg [uA' p0],agg [uA' p1]].toArray W (Z34 W (agg [uA' r])):=by
 unfold Zht at h
 refine Zc mo Z0kf rfl ?_
 refine Z0<|Z2<|Zd (Z0l (s:=[uA' p0]) rfl fun b1 u1=>Zd (Z0l (s:=[uA' p1]) rfl fun b2 u2=>Zd (Zq fun b3 u3=>Z1<|Z0<|oH h fun y1 f1 h=>oH h fun y2 f2 h=>Zt<|Zo _ (Z02 (p:=[uA' p0]) rfl .t2 rfl)<|Zo _ (Z02 (p:=[uA' p1]) rfl .t1 rfl)<|Z7 _ (Z0h rfl (Zjx f1))<|Z7 _ (Z0h rfl (Z6f f2))<|Z1i rfl (Zp (q:=[uA' y2]) rfl rfl rfl rfl rfl .here<|Z04<|Zj ?_))))
 revert h; refine Zv fun h=>?_
 subst h
 exact ⟨_,(.cons (.agg rfl .here rfl) .nil),rfl⟩
def Z6h (p0:LI) (k1:(LI)->OL) (k2:Int->(LI)->OL) (i1:Int) (a1:LI):OL :=
 br ((decide (i1<255))) (
 bnd (wrap .i64 (Int.tdiv i1 8)) fun z1 =>
 chk (inB z1 32) <|
 bnd (p0.getD (z1).toNat 0) fun z2 =>
 bnd (Int.tmod i1 8) fun z3 =>
 chk (decide (0<=z3)) <|
 bnd (Z0f .u8 z2 z3) fun z4 =>
 bnd (Za .and .u8 z4 1) fun z5 =>
 bnd (wrap .u64 z5) fun z6 =>
 bnd (wrap .i64 (Int.tdiv i1 26)) fun z7 =>
 bnd (wrap .i64 (Int.tdiv i1 26)) fun z8 =>
 chk (inB z8 10) <|
 bnd (Int.tmod i1 26) fun z9 =>
 chk (decide (0<=z9)) <|
 bnd (Z1v .u64 z6 z9) fun z10 =>
 bnd (a1.getD (z8).toNat 0) fun z11 =>
 bnd (wrap .u64 (z11+z10)) fun z12 =>
 chk (inB z7 10) <|
 bnd (Z28 a1 (z7).toNat z12) fun l1 =>
 bnd (wrap .i64 (i1+1)) fun z13 =>
 k2 z13 l1
 ) (
 k1 a1
 )
def Z3e (p0:LI) (k1:(LI)->OL):Nat->Int->(LI)->OL
  | 0,_,_=>none
  | n+1,i1,a1=>Z6h p0 k1 (Z3e p0 k1 n) i1 a1
def Z9b (p0:LI):OL :=
 jn (fun (a1:LI)=>opt (Z85 a1) fun y1 =>
 some y1) fun k1=>Z3e p0 k1 big 0 (replicate 10 0)
theorem Zhb {W:World} {r:(LI)} {p0:LI} (h:Z9b p0=some r)  :
    Calls Tryz.prog 139 [agg [b3' p0]].toArray W (Z34 W (agg [uA' r])):=by
 unfold Z9b at h
 refine Zc mo Z0jk rfl ?_
 refine Z0<|Z2<|Zd (Z0l (s:=[b3' p0]) rfl fun b1 u1=>Zd (Zq fun b2 u2=>Z1<|Z0<|Z2<|Zd (Zq fun b3 u3=>Z1<|Z0<|Z0<|Z2<|Z6 rfl<|Z1<|jH h fun k1 q1 h=>Zg (G:=fun t m=>∃ (a1:LI),k1 a1=some r/\Fit [(2,pt' b2),(3,pt' b3)] (ck b3 88 [uA' a1]::(ck b2 88 [uA' (replicate 10 0)]::(ck b1 22 [b3' p0] :: []))) t m) ?_ ?_)))
 ·refine Z9<|Zm (fun n1 t m=>∃ (i1:Int) (a2:LI),Z3e p0 k1 n1 i1 a2=some r/\Fit [(1,pt' b1),(2,pt' b2),(3,pt' b3),(4,.int .i64 (i1))] (ck b3 88 [uA' a2]::(ck b2 88 [uA' (replicate 10 0)]::(ck b1 22 [b3' p0] :: []))) t m) big ?_ ?_
  ·exact ⟨0,(replicate 10 0),h,⟨⟨rfl,rfl,rfl,rfl,trivial⟩,(.o (.o (.o .nil)))⟩⟩
  ·rintro n1 t m ⟨i1,a2,h,hF⟩
   refine Ze hF ?_
   clear hF
   rcases n1 with _ | n1
   · exact Z07 h
   have h:Z6h p0 k1 (Z3e p0 k1 n1) i1 a2=some r:=h
   unfold Z6h at h
   obtain ⟨k2,q2⟩ : ∃ k,k=Z3e p0 k1 n1:=⟨_,rfl⟩
   try rw [<- q2] at h
   refine Z0<|Z0<|Z2<|Z6 rfl<|Z4 _ (Z8 rfl rfl rfl)<|Z1<|Z09 h rfl (fun h=>?_) (fun h=>?_)
   ·refine Zh<|Z0<|Z9<|Z0<|bH h fun z1 e1 h=>cH h fun c1 h=>bH h fun z2 e2 h=>bH h fun z3 e3 h=>cH h fun c2 h=>bH h fun z4 e4 h=>bH h fun z5 e5 h=>bH h fun z6 e6 h=>Z2<|Z6 rfl<|Z4 _ (iz e1 (Zbf rfl rfl (by decide)))<|Z4 _ (Z0i rfl rfl (Z08 c1))<|Z4 _ (iz e2 (Z1w (base:=0) rfl .t2 rfl (Z01 c1)))<|Z6 rfl<|Z4 _ (iz e3 (Z8c rfl rfl (by decide)))<|Z4 _ (iz e4 (Z48 rfl rfl (of_decide_eq_true c2)))<|Z4 _ (iz e5 (Z8 rfl rfl rfl))<|Z4 _ (iz e6 (Z33 rfl))<|Z6 rfl<|Z1<|bH h fun z7 e7 h=>bH h fun z8 e8 h=>cH h fun c3 h=>bH h fun z9 e9 h=>cH h fun c4 h=>bH h fun z10 e10 h=>bH h fun z11 e11 h=>bH h fun z12 e12 h=>cH h fun c5 h=>bH h fun l1 g1 h=>Zt<|Z7 _ (Z0j rfl)<|Z7 _ (iz e7 (Zbf rfl rfl (by decide)))<|Z7 _ (Z0j rfl)<|Z7 _ (iz e8 (Zbf rfl rfl (by decide)))<|Z7 _ (Z0i rfl rfl (Z08 c3))<|Z7 _ (Z0j rfl)<|Z7 _ (Z0j rfl)<|Z7 _ (iz e9 (Z8c rfl rfl (by decide)))<|Z7 _ (iz e10 (Zhg rfl rfl (of_decide_eq_true c4)))<|Zo _ (iz e11 (Z1w (base:=0) rfl .here rfl (Z01 c3)))<|Z7 _ (iz e12 (Z8 rfl rfl rfl))<|Z7 _ (Z0i rfl rfl (Z08 c5))<|Z1i rfl (Z1h (q:=[uA' l1]) (base:=0) g1 rfl rfl rfl (Z01 c5) rfl .here<|Z04<|bH h fun z13 e13 h=>Z2<|Z6 rfl<|Z4 _ (iz e13 (Z8 rfl rfl rfl))<|Z6 rfl<|Z1 ?_)
    rw [q2] at h
    exact ⟨n1,Nat.lt_succ_self _,z13,l1,h,⟨⟨rfl,rfl,rfl,rfl,trivial⟩,(.o (.o (.o .nil)))⟩⟩
   ·exact Zs _ rfl<|⟨a2,h,⟨⟨rfl,rfl,trivial⟩,(.o (.o (.o .nil)))⟩⟩
 ·rintro t m ⟨a1,h,hF⟩
  refine Ze hF ?_
  clear hF
  subst q1
  refine Z0<|oH h fun y1 f1 h=>Z2<|Z4 _ (Z02 (p:=[uA' a1]) rfl .here rfl)<|Z4 _ (Z0h rfl (Z9t f1))<|Zd (Zp (q:=[uA' y1]) rfl rfl rfl rfl rfl .t1<|Z1<|Zj ?_)
  revert h; refine Zv fun h=>?_
  subst h
  exact ⟨_,(.cons (.agg rfl .t1 rfl) .nil),rfl⟩
def q7_D:OL :=
 bnd (([163,120,89,19,202,77,235,117,171,216,65,65,77,10,112,0,152,232,121,119,121,64,199,140,115,254,111,43,238,108,3,82]:LI)) fun z1 =>
 opt (Z9b z1) fun y1 =>
 some y1
theorem Zo6 {W:World} {r:(LI)} (h:q7_D=some r)  :
    Calls Tryz.prog 195 [].toArray W (Z34 W (agg [uA' r])):=by
 unfold q7_D at h
 refine Zc mo Z0kh rfl ?_
 refine Z0<|Z2<|Zd (Zq fun b1 u1=>Z1<|Z0<|bH h fun z1 e1 h=>oH h fun y1 f1 h=>Z2<|Z4 _ (az (fun z=>agg [.ints .u8 32 z]) e1 (Zd2 (.one rfl rfl rfl (.one rfl rfl rfl (.one rfl rfl rfl (.one rfl rfl rfl (.one rfl rfl rfl (.one rfl rfl rfl (.one rfl rfl rfl (.one rfl rfl rfl (.one rfl rfl rfl (.one rfl rfl rfl (.one rfl rfl rfl (.one rfl rfl rfl (.one rfl rfl rfl (.one rfl rfl rfl (.one rfl rfl rfl (.one rfl rfl rfl (.one rfl rfl rfl (.one rfl rfl rfl (.one rfl rfl rfl (.one rfl rfl rfl (.one rfl rfl rfl (.one rfl rfl rfl (.one rfl rfl rfl (.one rfl rfl rfl (.one rfl rfl rfl (.one rfl rfl rfl (.one rfl rfl rfl (.one rfl rfl rfl (.one rfl rfl rfl (.one rfl rfl rfl (.one rfl rfl rfl (.one rfl rfl rfl BdR.nil))))))))))))))))))))))))))))))))))<|Z4 _ (Z0h rfl (Zhb f1))<|Zd (Zp (q:=[uA' y1]) rfl rfl rfl rfl rfl .here<|Z1<|Zj ?_))
 revert h; refine Zv fun h=>?_
 subst h
 exact ⟨_,(.cons (.agg rfl .here rfl) .nil),rfl⟩
def Zjz (p0:Z1y) (p1:Z1y):Option (Z1y) :=
 opt (Z1u p0.gZ p1.gZ) fun y1 =>
 opt (Z1u y1 y1) fun y2 =>
 opt (Z1u p0.gX p1.gX) fun y3 =>
 opt (Z1u p0.gY p1.gY) fun y4 =>
 opt (q7_D) fun y5 =>
 opt (Z1u y3 y4) fun y6 =>
 opt (Z1u y5 y6) fun y7 =>
 opt (Zht y2 y7) fun y8 =>
 opt (Zd0 y2 y7) fun y9 =>
 opt (Z1u p0.gX p1.gY) fun y10 =>
 opt (Z1u p0.gY p1.gX) fun y11 =>
 opt (Zd0 y10 y11) fun y12 =>
 opt (Z1u y1 y8) fun y13 =>
 opt (Z1u y13 y12) fun y14 =>
 opt (Z1u y1 y9) fun y15 =>
 opt (Zd0 y4 y3) fun y16 =>
 opt (Z1u y15 y16) fun y17 =>
 opt (Z1u y8 y9) fun y18 =>
 some (⟨y14,y17,y18⟩:Z1y)
theorem Zfs {W:World} {r:Z1y} {p0:Z1y} {p1:Z1y} (h:Zjz p0 p1=some r)  :
    Calls Tryz.prog 146 [agg [uA' p0.gX,uA' p0.gY,uA' p0.gZ],agg [uA' p1.gX,uA' p1.gY,uA' p1.gZ]].toArray W (Z34 W (agg [uA' r.gX,uA' r.gY,uA' r.gZ])):=by
 unfold Zjz at h
 refine Zc mo Z0jp rfl ?_
 refine Z0<|Z2<|Zd (Z0l (s:=[uA' p0.gX,uA' p0.gY,uA' p0.gZ]) rfl fun b1 u1=>Zd (Z0l (s:=[uA' p1.gX,uA' p1.gY,uA' p1.gZ]) rfl fun b2 u2=>Zd (Zq fun b3 u3=>Z1<|Z0<|oH h fun y1 f1 h=>Z2<|Z4 _ (Z2l rfl)<|Z4 _ (Z02 (p:=[uA' p0.gZ]) rfl .t2 rfl)<|Z4 _ (Z2l rfl)<|Z4 _ (Z02 (p:=[uA' p1.gZ]) rfl .t1 rfl)<|Z4 _ (Z0h rfl (Z0b f1))<|Zd (Zq fun b4 u4=>Zd (Zp (q:=[uA' y1]) rfl rfl rfl rfl rfl .here<|Z1<|Z0<|oH h fun y2 f2 h=>Z2<|Z4 _ (Z02 (p:=[uA' y1]) rfl .here rfl)<|Z4 _ (Z02 (p:=[uA' y1]) rfl .here rfl)<|Z4 _ (Z0h rfl (Z0b f2))<|Zd (Zq fun b5 u5=>Zd (Zp (q:=[uA' y2]) rfl rfl rfl rfl rfl .here<|Z1<|Z0<|oH h fun y3 f3 h=>Z2<|Z4 _ (Z2l rfl)<|Z4 _ (Z02 (p:=[uA' p0.gX]) rfl .t4 rfl)<|Z4 _ (Z2l rfl)<|Z4 _ (Z02 (p:=[uA' p1.gX]) rfl .t3 rfl)<|Z4 _ (Z0h rfl (Z0b f3))<|Zd (Zq fun b6 u6=>Zd (Zp (q:=[uA' y3]) rfl rfl rfl rfl rfl .here<|Z1<|Z0<|oH h fun y4 f4 h=>Z2<|Z4 _ (Z2l rfl)<|Z4 _ (Z02 (p:=[uA' p0.gY]) rfl .t5 rfl)<|Z4 _ (Z2l rfl)<|Z4 _ (Z02 (p:=[uA' p1.gY]) rfl .t4 rfl)<|Z4 _ (Z0h rfl (Z0b f4))<|Zd (Zq fun b7 u7=>Zd (Zp (q:=[uA' y4]) rfl rfl rfl rfl rfl .here<|Z1<|Z0<|oH h fun y5 f5 h=>oH h fun y6 f6 h=>oH h fun y7 f7 h=>Zt<|Z7 _ (Z0h rfl (Zo6 f5))<|Zo _ (Z02 (p:=[uA' y3]) rfl .t1 rfl)<|Zo _ (Z02 (p:=[uA' y4]) rfl .here rfl)<|Z7 _ (Z0h rfl (Z0b f6))<|Z7 _ (Z0h rfl (Z0b f7))<|Z47 (Zq fun b8 u8=>⟨(by repeat (first | exact Sup.refl _ | apply Sup.cons | apply Sup.app)),Z1i rfl (Zp (q:=[uA' y7]) rfl rfl rfl rfl rfl .here (Z04 (Z0 (oH h fun y8 f8 h=>Z2 (Z4 _ (Z02 (p:=[uA' y2]) rfl .t3 rfl) (Z4 _ (Z02 (p:=[uA' y7]) rfl .here rfl) (Z4 _ (Z0h rfl (Zcp f8)) (Zd (Zq fun b9 u9=>Zd (Zp (q:=[uA' y8]) rfl rfl rfl rfl rfl .here (Z1 (Z0 (oH h fun y9 f9 h=>Z2 (Z4 _ (Z02 (p:=[uA' y2]) rfl .t4 rfl) (Z4 _ (Z02 (p:=[uA' y7]) rfl .t1 rfl) (Z4 _ (Z0h rfl (Z6f f9)) (Zd (Zq fun b10 u10=>Zd (Zp (q:=[uA' y9]) rfl rfl rfl rfl rfl .here (Z1 (Z0 (oH h fun y10 f10 h=>oH h fun y11 f11 h=>oH h fun y12 f12 h=>Zt (Z7 _ (Z2l rfl) (Z7 _ (Z2l rfl) (Z7 _ (Z2l rfl) (Z7 _ (Z2l rfl) (Zo _ (Z02 (p:=[uA' p0.gX]) rfl .t9 rfl) (Zo _ (Z02 (p:=[uA' p1.gY]) rfl .t8 rfl) (Z7 _ (Z0h rfl (Z0b f10)) (Zo _ (Z02 (p:=[uA' p0.gY]) rfl .t9 rfl) (Zo _ (Z02 (p:=[uA' p1.gX]) rfl .t8 rfl) (Z7 _ (Z0h rfl (Z0b f11)) (Z7 _ (Z0h rfl (Z6f f12)) (Z47 (Zq fun b11 u11=>⟨(by repeat (first | exact Sup.refl _ | apply Sup.cons | apply Sup.app)),Z1i rfl (Zp (q:=[uA' y12]) rfl rfl rfl rfl rfl .here (Z04 (Z0 (oH h fun y13 f13 h=>oH h fun y14 f14 h=>Zt (Zo _ (Z02 (p:=[uA' y1]) rfl .t7 rfl) (Zo _ (Z02 (p:=[uA' y8]) rfl .t2 rfl) (Z7 _ (Z0h rfl (Z0b f13)) (Zo _ (Z02 (p:=[uA' y12]) rfl .here rfl) (Z7 _ (Z0h rfl (Z0b f14)) (Z47 (Zq fun b12 u12=>⟨(by repeat (first | exact Sup.refl _ | apply Sup.cons | apply Sup.app)),Z1i rfl (Zp (q:=[uA' y14]) rfl rfl rfl rfl rfl .here (Z04 (Z0 (oH h fun y15 f15 h=>oH h fun y16 f16 h=>oH h fun y17 f17 h=>Zt (Zo _ (Z02 (p:=[uA' y1]) rfl .t8 rfl) (Zo _ (Z02 (p:=[uA' y9]) rfl .t2 rfl) (Z7 _ (Z0h rfl (Z0b f15)) (Zo _ (Z02 (p:=[uA' y4]) rfl .t5 rfl) (Zo _ (Z02 (p:=[uA' y3]) rfl .t6 rfl) (Z7 _ (Z0h rfl (Z6f f16)) (Z7 _ (Z0h rfl (Z0b f17)) (Z47 (Zq fun b13 u13=>⟨(by repeat (first | exact Sup.refl _ | apply Sup.cons | apply Sup.app)),Z1i rfl (Zp (q:=[uA' y17]) rfl rfl rfl rfl rfl .here (Z04 (Z0 (oH h fun y18 f18 h=>Zt (Zo _ (Z02 (p:=[uA' y14]) rfl .t1 rfl) (Zo _ (Z02 (p:=[uA' y17]) rfl .here rfl) (Zo _ (Z02 (p:=[uA' y8]) rfl .t4 rfl) (Zo _ (Z02 (p:=[uA' y9]) rfl .t3 rfl) (Z7 _ (Z0h rfl (Z0b f18)) (Z7 _ (Zd2 (q:=[uA' y14,uA' y17,uA' y18]) (.agg rfl rfl rfl (.agg rfl rfl rfl (.agg rfl rfl rfl BdR.nil)))) (Z1i rfl (Zp (q:=[uA' y14,uA' y17,uA' y18]) rfl rfl rfl rfl rfl (.there .t9) (Z04 (Zj ?_))))))))))))))⟩)))))))))))))⟩)))))))))))⟩)))))))))))))))))))))))))))))))))))⟩))))))))))))
 revert h; refine Zv fun h=>?_
 subst h
 exact ⟨_,(.cons (.agg rfl (.there .t9) rfl) .nil),rfl⟩
def Zhe:Option (Z1y) :=
 opt (Z60 0) fun y1 =>
 opt (Z60 1) fun y2 =>
 opt (Z60 1) fun y3 =>
 some (⟨y1,y2,y3⟩:Z1y)
theorem Zhv {W:World} {r:Z1y} (h:Zhe=some r)  :
    Calls Tryz.prog 174 [].toArray W (Z34 W (agg [uA' r.gX,uA' r.gY,uA' r.gZ])):=by
 unfold Zhe at h
 refine Zc mo Z0k3 rfl ?_
 refine Z0<|Z2<|Zd (Zq fun b1 u1=>Z1<|Z0<|oH h fun y1 f1 h=>oH h fun y2 f2 h=>oH h fun y3 f3 h=>Z2<|Z4 _ (Z0h rfl (Z37 f1))<|Z4 _ (Z0h rfl (Z37 f2))<|Z4 _ (Z0h rfl (Z37 f3))<|Z4 _ (Zd2 (q:=[uA' y1,uA' y2,uA' y3]) (.agg rfl rfl rfl (.agg rfl rfl rfl (.agg rfl rfl rfl BdR.nil))))<|Zd (Zp (q:=[uA' y1,uA' y2,uA' y3]) rfl rfl rfl rfl rfl .here<|Z1<|Zj ?_))
 revert h; refine Zv fun h=>?_
 subst h
 exact ⟨_,(.cons (.agg rfl .here rfl) .nil),rfl⟩
abbrev Zx:El (Z1y):=⟨30,fun x=>cells [uA' x.gX,uA' x.gY,uA' x.gZ],fun x=>by rw [cells_length]; rfl,fun x=>(Z0z Z3q (Z0z Z3q (Z0z Z3q Z5i))),by decide,Z6j⟩
def Z9h (p0:Z1y) (k1:(List (Z1y))->Option ((List (Z1y)))) (k2:Int->(List (Z1y))->Option ((List (Z1y)))) (i1:Int) (a1:List (Z1y)):Option ((List (Z1y))) :=
 br ((decide (i1<16))) (
 bnd (wrap .i64 (i1-1)) fun z1 =>
 chk (inB z1 16) <|
 bnd (a1.getD (z1).toNat Z6j) fun x1 =>
 opt (Zjz x1 p0) fun y1 =>
 chk (inB i1 16) <|
 bnd (Zkm Z6j a1 (i1).toNat y1) fun l1 =>
 bnd (wrap .i64 (i1+1)) fun z2 =>
 k2 z2 l1
 ) (
 k1 a1
 )
def Z5c (p0:Z1y) (k1:(List (Z1y))->Option ((List (Z1y)))):Nat->Int->(List (Z1y))->Option ((List (Z1y)))
  | 0,_,_=>none
  | n+1,i1,a1=>Z9h p0 k1 (Z5c p0 k1 n) i1 a1
def Zea (p0:Z1y):Option ((List (Z1y))) :=
 opt (Zhe) fun y1 =>
 bnd (Zkm Z6j (replicate 16 Z6j) 0 y1) fun l1 =>
 jn (fun (a1:List (Z1y))=>some a1) fun k1=>Z5c p0 k1 big 1 l1
theorem Zl2 {W:World} {r:(List (Z1y))} {p0:Z1y} (h:Zea p0=some r)  :
    Calls Tryz.prog 173 [agg [uA' p0.gX,uA' p0.gY,uA' p0.gZ]].toArray W (Z34 W (agg [.rows 30 16 (Zb2 Zx (r))])):=by
 unfold Zea at h
 refine Zc mo Z0k2 rfl ?_
 refine Z0<|Z2<|Zd (Z0l (s:=[uA' p0.gX,uA' p0.gY,uA' p0.gZ]) rfl fun b1 u1=>Zd (Zl9 (z':=[.rows 30 16 (Zb2 Zx ((replicate 16 Z6j)))]) (Zej (E:=Zx) rfl rfl) fun b2 u2=>Z1<|Z0<|Z2<|Zd (Zl9 (z':=[.rows 30 16 (Zb2 Zx ((replicate 16 Z6j)))]) (Zej (E:=Zx) rfl rfl) fun b3 u3=>Z1<|Z0<|oH h fun y1 f1 h=>bH h fun l1 g1 h=>Z2<|Z4 _ (Z1a (vs:=[]) (v:=agg [uA' y1.gX,uA' y1.gY,uA' y1.gZ]) rfl (fun w hw=>Zhv (r:=y1) f1 ))<|Z4 _ (Z0i rfl rfl (by decide))<|Zd (Zm8 (q:=[.rows 30 16 (Zb2 Zx (l1))]) (E:=Zx) (base:=0) (i:=0) (len:=16) g1 rfl rfl rfl rfl (by decide) rfl .here<|Z1<|Z0<|Z0<|Z2<|Z6 rfl<|Z1<|jH h fun k1 q1 h=>Zg (G:=fun t m=>∃ (a1:List (Z1y)),k1 a1=some r/\Fit [(2,pt' b2),(3,pt' b3)] (ck b3 206 [.rows 30 16 (Zb2 Zx (a1))]::(ck b2 206 [.rows 30 16 (Zb2 Zx ((replicate 16 Z6j)))]::(ck b1 90 [uA' p0.gX,uA' p0.gY,uA' p0.gZ] :: []))) t m) ?_ ?_))))
 ·refine Z9<|Zm (fun n1 t m=>∃ (i1:Int) (a2:List (Z1y)),Z5c p0 k1 n1 i1 a2=some r/\Fit [(1,pt' b1),(2,pt' b2),(3,pt' b3),(4,.int .i64 (i1))] (ck b3 206 [.rows 30 16 (Zb2 Zx (a2))]::(ck b2 206 [.rows 30 16 (Zb2 Zx ((replicate 16 Z6j)))]::(ck b1 90 [uA' p0.gX,uA' p0.gY,uA' p0.gZ] :: []))) t m) big ?_ ?_
  ·exact ⟨1,l1,h,⟨⟨rfl,rfl,rfl,rfl,trivial⟩,(.o (.o (.o .nil)))⟩⟩
  ·rintro n1 t m ⟨i1,a2,h,hF⟩
   refine Ze hF ?_
   clear hF
   rcases n1 with _ | n1
   · exact Z07 h
   have h:Z9h p0 k1 (Z5c p0 k1 n1) i1 a2=some r:=h
   unfold Z9h at h
   obtain ⟨k2,q2⟩ : ∃ k,k=Z5c p0 k1 n1:=⟨_,rfl⟩
   try rw [<- q2] at h
   refine Z0<|Z0<|Z2<|Z6 rfl<|Z4 _ (Z8 rfl rfl rfl)<|Z1<|Z09 h rfl (fun h=>?_) (fun h=>?_)
   ·refine Zh<|Z0<|Z9<|bH h fun z1 e1 h=>cH h fun c1 h=>bH h fun x1 j1 h=>oH h fun y2 f2 h=>cH h fun c2 h=>bH h fun l2 g2 h=>Zt<|Z7 _ (Z0j rfl)<|Z7 _ (Z0j rfl)<|Z7 _ (iz e1 (Z8 rfl rfl rfl))<|Z7 _ (Z0i rfl rfl (Z08 c1))<|Zo _ (az (fun x1=>agg [uA' x1.gX,uA' x1.gY,uA' x1.gZ]) j1 (Zo9 (base:=0) (w:=30) rfl .here rfl (Z01 c1) rfl rfl rfl))<|Zo _ (Z02 (p:=[uA' p0.gX,uA' p0.gY,uA' p0.gZ]) rfl .t2 rfl)<|Z7 _ (Z1a (vs:=[agg [uA' x1.gX,uA' x1.gY,uA' x1.gZ],agg [uA' p0.gX,uA' p0.gY,uA' p0.gZ]]) (v:=agg [uA' y2.gX,uA' y2.gY,uA' y2.gZ]) rfl (fun w hw=>Zfs (r:=y2) (p0:=x1) (p1:=p0) f2 ))<|Z7 _ (Z0i rfl rfl (Z08 c2))<|Z1i rfl (Zm8 (q:=[.rows 30 16 (Zb2 Zx (l2))]) (E:=Zx) (base:=0) g2 rfl rfl rfl rfl (Z01 c2) rfl .here<|Z04<|bH h fun z2 e2 h=>Z2<|Z6 rfl<|Z4 _ (iz e2 (Z8 rfl rfl rfl))<|Z6 rfl<|Z1 ?_)
    rw [q2] at h
    exact ⟨n1,Nat.lt_succ_self _,z2,l2,h,⟨⟨rfl,rfl,rfl,rfl,trivial⟩,(.o (.o (.o .nil)))⟩⟩
   ·exact Zs _ rfl<|⟨a2,h,⟨⟨rfl,rfl,trivial⟩,(.o (.o (.o .nil)))⟩⟩
 ·rintro t m ⟨a1,h,hF⟩
  refine Ze hF ?_
  clear hF
  subst q1
  refine Z0<|Z2<|Z4 _ (Z02 (p:=[.rows 30 16 (Zb2 Zx (a1))]) rfl .here rfl)<|Zd (Zcy (q:=[.rows 30 16 (Zb2 Zx (a1))]) rfl rfl rfl rfl (Z0z (Zga (E:=Zx)) Z5i) .t1<|Z1<|Zj ?_)
  revert h; refine Zv fun h=>?_
  subst h
  exact ⟨_,(.cons (.agg rfl .t1 rfl) .nil),rfl⟩
def Z5o (p0:Z1y):Option (Z1y) :=
 opt (Z1u p0.gX p0.gX) fun y1 =>
 opt (Z1u p0.gY p0.gY) fun y2 =>
 opt (Z1u p0.gZ p0.gZ) fun y3 =>
 opt (Zht y2 y1) fun y4 =>
 opt (Zd0 y3 y3) fun y5 =>
 opt (Zht y5 y4) fun y6 =>
 opt (Z1u p0.gX p0.gY) fun y7 =>
 opt (Zd0 y7 y7) fun y8 =>
 opt (Z1u y8 y6) fun y9 =>
 opt (Zd0 y1 y2) fun y10 =>
 opt (Z1u y10 y4) fun y11 =>
 opt (Z1u y4 y6) fun y12 =>
 some (⟨y9,y11,y12⟩:Z1y)
theorem Z3v {W:World} {r:Z1y} {p0:Z1y} (h:Z5o p0=some r)  :
    Calls Tryz.prog 175 [agg [uA' p0.gX,uA' p0.gY,uA' p0.gZ]].toArray W (Z34 W (agg [uA' r.gX,uA' r.gY,uA' r.gZ])):=by
 unfold Z5o at h
 refine Zc mo Z0k4 rfl ?_
 refine Z0<|Z2<|Zd (Z0l (s:=[uA' p0.gX,uA' p0.gY,uA' p0.gZ]) rfl fun b1 u1=>Zd (Zq fun b2 u2=>Z1<|Z0<|oH h fun y1 f1 h=>Z2<|Z4 _ (Z2l rfl)<|Z4 _ (Z02 (p:=[uA' p0.gX]) rfl .t1 rfl)<|Z4 _ (Z2l rfl)<|Z4 _ (Z02 (p:=[uA' p0.gX]) rfl .t1 rfl)<|Z4 _ (Z0h rfl (Z0b f1))<|Zd (Zq fun b3 u3=>Zd (Zp (q:=[uA' y1]) rfl rfl rfl rfl rfl .here<|Z1<|Z0<|oH h fun y2 f2 h=>Z2<|Z4 _ (Z2l rfl)<|Z4 _ (Z02 (p:=[uA' p0.gY]) rfl .t2 rfl)<|Z4 _ (Z2l rfl)<|Z4 _ (Z02 (p:=[uA' p0.gY]) rfl .t2 rfl)<|Z4 _ (Z0h rfl (Z0b f2))<|Zd (Zq fun b4 u4=>Zd (Zp (q:=[uA' y2]) rfl rfl rfl rfl rfl .here<|Z1<|Z0<|oH h fun y3 f3 h=>Z2<|Z4 _ (Z2l rfl)<|Z4 _ (Z02 (p:=[uA' p0.gZ]) rfl .t3 rfl)<|Z4 _ (Z2l rfl)<|Z4 _ (Z02 (p:=[uA' p0.gZ]) rfl .t3 rfl)<|Z4 _ (Z0h rfl (Z0b f3))<|Zd (Zq fun b5 u5=>Zd (Zp (q:=[uA' y3]) rfl rfl rfl rfl rfl .here<|Z1<|Z0<|oH h fun y4 f4 h=>Z2<|Z4 _ (Z02 (p:=[uA' y2]) rfl .t1 rfl)<|Z4 _ (Z02 (p:=[uA' y1]) rfl .t2 rfl)<|Z4 _ (Z0h rfl (Zcp f4))<|Zd (Zq fun b6 u6=>Zd (Zp (q:=[uA' y4]) rfl rfl rfl rfl rfl .here<|Z1<|Z0<|oH h fun y5 f5 h=>oH h fun y6 f6 h=>Zt<|Zo _ (Z02 (p:=[uA' y3]) rfl .t1 rfl)<|Zo _ (Z02 (p:=[uA' y3]) rfl .t1 rfl)<|Z7 _ (Z0h rfl (Z6f f5))<|Zo _ (Z02 (p:=[uA' y4]) rfl .here rfl)<|Z7 _ (Z0h rfl (Zcp f6))<|Z47 (Zq fun b7 u7=>⟨(by repeat (first | exact Sup.refl _ | apply Sup.cons | apply Sup.app)),Z1i rfl (Zp (q:=[uA' y6]) rfl rfl rfl rfl rfl .here (Z04 (Z0 (oH h fun y7 f7 h=>Z2 (Z4 _ (Z2l rfl) (Z4 _ (Z02 (p:=[uA' p0.gX]) rfl .t6 rfl) (Z4 _ (Z2l rfl) (Z4 _ (Z02 (p:=[uA' p0.gY]) rfl .t6 rfl) (Z4 _ (Z0h rfl (Z0b f7)) (Zd (Zq fun b8 u8=>Zd (Zp (q:=[uA' y7]) rfl rfl rfl rfl rfl .here (Z1 (Z0 (oH h fun y8 f8 h=>oH h fun y9 f9 h=>Zt (Zo _ (Z02 (p:=[uA' y7]) rfl .here rfl) (Zo _ (Z02 (p:=[uA' y7]) rfl .here rfl) (Z7 _ (Z0h rfl (Z6f f8)) (Zo _ (Z02 (p:=[uA' y6]) rfl .t1 rfl) (Z7 _ (Z0h rfl (Z0b f9)) (Z47 (Zq fun b9 u9=>⟨(by repeat (first | exact Sup.refl _ | apply Sup.cons | apply Sup.app)),Z1i rfl (Zp (q:=[uA' y9]) rfl rfl rfl rfl rfl .here (Z04 (Z0 (oH h fun y10 f10 h=>oH h fun y11 f11 h=>Zt (Zo _ (Z02 (p:=[uA' y1]) rfl .t6 rfl) (Zo _ (Z02 (p:=[uA' y2]) rfl .t5 rfl) (Z7 _ (Z0h rfl (Z6f f10)) (Zo _ (Z02 (p:=[uA' y4]) rfl .t3 rfl) (Z7 _ (Z0h rfl (Z0b f11)) (Z47 (Zq fun b10 u10=>⟨(by repeat (first | exact Sup.refl _ | apply Sup.cons | apply Sup.app)),Z1i rfl (Zp (q:=[uA' y11]) rfl rfl rfl rfl rfl .here (Z04 (Z0 (oH h fun y12 f12 h=>Zt (Zo _ (Z02 (p:=[uA' y9]) rfl .t1 rfl) (Zo _ (Z02 (p:=[uA' y11]) rfl .here rfl) (Zo _ (Z02 (p:=[uA' y4]) rfl .t4 rfl) (Zo _ (Z02 (p:=[uA' y6]) rfl .t3 rfl) (Z7 _ (Z0h rfl (Z0b f12)) (Z7 _ (Zd2 (q:=[uA' y9,uA' y11,uA' y12]) (.agg rfl rfl rfl (.agg rfl rfl rfl (.agg rfl rfl rfl BdR.nil)))) (Z1i rfl (Zp (q:=[uA' y9,uA' y11,uA' y12]) rfl rfl rfl rfl rfl .t8 (Z04 (Zj ?_))))))))))))))⟩)))))))))))⟩))))))))))))))))))))))⟩)))))))))))
 revert h; refine Zv fun h=>?_
 subst h
 exact ⟨_,(.cons (.agg rfl .t8 rfl) .nil),rfl⟩
def Ze8 (p0:LI) (y1:(List (Z1y))) (k1:(LI)->(LI)->(LI)->Option (Z1y)) (k2:Int->(LI)->(LI)->(LI)->Option (Z1y)) (i1:Int) (a1:LI) (a2:LI) (a3:LI):Option (Z1y) :=
 br ((decide (i1≥0))) (
 chk (inB i1 32) <|
 opt (Z5o (⟨a1,a2,a3⟩:Z1y)) fun y2 =>
 opt (Z5o y2) fun y3 =>
 opt (Z5o y3) fun y4 =>
 opt (Z5o y4) fun y5 =>
 bnd (p0.getD (i1).toNat 0) fun z1 =>
 bnd (wrap .u8 (Int.tdiv z1 16)) fun z2 =>
 chk (inB z2 16) <|
 bnd (y1.getD (z2).toNat Z6j) fun x1 =>
 opt (Zjz y5 x1) fun y6 =>
 chk (inB i1 32) <|
 opt (Z5o y6) fun y7 =>
 opt (Z5o y7) fun y8 =>
 opt (Z5o y8) fun y9 =>
 opt (Z5o y9) fun y10 =>
 bnd (p0.getD (i1).toNat 0) fun z3 =>
 bnd (Int.tmod z3 16) fun z4 =>
 chk (inB z4 16) <|
 bnd (y1.getD (z4).toNat Z6j) fun x2 =>
 opt (Zjz y10 x2) fun y11 =>
 bnd (wrap .i64 (i1-1)) fun z5 =>
 k2 z5 y11.gX y11.gY y11.gZ
 ) (
 k1 a1 a2 a3
 )
def Z9g (p0:LI) (y1:(List (Z1y))) (k1:(LI)->(LI)->(LI)->Option (Z1y)):Nat->Int->(LI)->(LI)->(LI)->Option (Z1y)
  | 0,_,_,_,_=>none
  | n+1,i1,a1,a2,a3=>Ze8 p0 y1 k1 (Z9g p0 y1 k1 n) i1 a1 a2 a3
def Zo7 (p0:LI) (p1:Z1y):Option (Z1y) :=
 opt (Zea p1) fun y1 =>
 opt (Zhe) fun y2 =>
 jn (fun (a1:LI) (a2:LI) (a3:LI)=>some (⟨a1,a2,a3⟩:Z1y)) fun k1=>Z9g p0 y1 k1 big 31 y2.gX y2.gY y2.gZ
theorem Zpy {W:World} {r:Z1y} {p0:LI} {p1:Z1y} (h:Zo7 p0 p1=some r)  :
    Calls Tryz.prog 106 [agg [b3' p0],agg [uA' p1.gX,uA' p1.gY,uA' p1.gZ]].toArray W (Z34 W (agg [uA' r.gX,uA' r.gY,uA' r.gZ])):=by
 unfold Zo7 at h
 refine Zc mo Z0iz rfl ?_
 refine Z0<|Z2<|Zd (Z0l (s:=[b3' p0]) rfl fun b1 u1=>Zd (Z0l (s:=[uA' p1.gX,uA' p1.gY,uA' p1.gZ]) rfl fun b2 u2=>Zd (Zq fun b3 u3=>Z1<|Z0<|oH h fun y1 f1 h=>Z2<|Z4 _ (Z02 (p:=[uA' p1.gX,uA' p1.gY,uA' p1.gZ]) rfl .t1 rfl)<|Z4 _ (Z0h rfl (Zl2 f1))<|Zd (Zl9 (z':=[.rows 30 16 (Zb2 Zx ((replicate 16 Z6j)))]) (Zej (E:=Zx) rfl rfl) fun b4 u4=>Zd (Zcy (q:=[.rows 30 16 (Zb2 Zx (y1))]) rfl rfl rfl rfl (Z0z (Zga (E:=Zx)) Z5i) .here<|Z1<|Z0<|oH h fun y2 f2 h=>Z2<|Z4 _ (Z1a (vs:=[]) (v:=agg [uA' y2.gX,uA' y2.gY,uA' y2.gZ]) rfl (fun w hw=>Zhv (r:=y2) f2 ))<|Zd (Zq fun b5 u5=>Zd (Zp (q:=[uA' y2.gX,uA' y2.gY,uA' y2.gZ]) rfl rfl rfl rfl rfl .here<|Z1<|Z0<|Z0<|Z2<|Z6 rfl<|Z1<|jH h fun k1 q1 h=>Zg (G:=fun t m=>∃ (a1:LI) (a2:LI) (a3:LI),k1 a1 a2 a3=some r/\Fit [(4,pt' b3),(6,pt' b5)] (ck b5 90 [uA' a1,uA' a2,uA' a3]::(ck b4 206 [.rows 30 16 (Zb2 Zx (y1))]::(ck b3 90 [uA' (replicate 10 0),uA' (replicate 10 0),uA' (replicate 10 0)]::(ck b2 90 [uA' p1.gX,uA' p1.gY,uA' p1.gZ]::(ck b1 74 [b3' p0] :: []))))) t m) ?_ ?_)))))))
 ·refine Z9<|Zm (fun n1 t m=>∃ (i1:Int) (a4:LI) (a5:LI) (a6:LI),Z9g p0 y1 k1 n1 i1 a4 a5 a6=some r/\Fit [(2,pt' b1),(4,pt' b3),(5,pt' b4),(6,pt' b5),(7,.int .i64 (i1))] (ck b5 90 [uA' a4,uA' a5,uA' a6]::(ck b4 206 [.rows 30 16 (Zb2 Zx (y1))]::(ck b3 90 [uA' (replicate 10 0),uA' (replicate 10 0),uA' (replicate 10 0)]::(ck b2 90 [uA' p1.gX,uA' p1.gY,uA' p1.gZ]::(ck b1 74 [b3' p0] :: []))))) t m) big ?_ ?_
  ·exact ⟨31,y2.gX,y2.gY,y2.gZ,h,⟨⟨rfl,rfl,rfl,rfl,rfl,trivial⟩,(.o (.o (.o (.o (.o .nil)))))⟩⟩
  ·rintro n1 t m ⟨i1,a4,a5,a6,h,hF⟩
   refine Ze hF ?_
   clear hF
   rcases n1 with _ | n1
   · exact Z07 h
   have h:Ze8 p0 y1 k1 (Z9g p0 y1 k1 n1) i1 a4 a5 a6=some r:=h
   unfold Ze8 at h
   obtain ⟨k2,q2⟩ : ∃ k,k=Z9g p0 y1 k1 n1:=⟨_,rfl⟩
   try rw [<- q2] at h
   refine Z0<|Z0<|Z2<|Z6 rfl<|Z4 _ (Z8 rfl rfl rfl)<|Z1<|Z09 h rfl (fun h=>?_) (fun h=>?_)
   ·refine Zh<|Z0<|Z9<|Z0<|cH h fun c1 h=>oH h fun y3 f3 h=>oH h fun y4 f4 h=>oH h fun y5 f5 h=>oH h fun y6 f6 h=>bH h fun z1 e1 h=>bH h fun z2 e2 h=>cH h fun c2 h=>bH h fun x1 j1 h=>oH h fun y7 f7 h=>Zt<|Z7 _ (Z0j rfl)<|Z7 _ (Z0i rfl rfl (Z08 c1))<|Zo _ (Z02 (p:=[uA' a4,uA' a5,uA' a6]) rfl .here rfl)<|Z7 _ (Z1a (vs:=[agg [uA' a4,uA' a5,uA' a6]]) (v:=agg [uA' y3.gX,uA' y3.gY,uA' y3.gZ]) rfl (fun w hw=>Z3v (r:=y3) (p0:=(⟨a4,a5,a6⟩:Z1y)) f3 ))<|Z7 _ (Z1a (vs:=[agg [uA' y3.gX,uA' y3.gY,uA' y3.gZ]]) (v:=agg [uA' y4.gX,uA' y4.gY,uA' y4.gZ]) rfl (fun w hw=>Z3v (r:=y4) (p0:=y3) f4 ))<|Z7 _ (Z1a (vs:=[agg [uA' y4.gX,uA' y4.gY,uA' y4.gZ]]) (v:=agg [uA' y5.gX,uA' y5.gY,uA' y5.gZ]) rfl (fun w hw=>Z3v (r:=y5) (p0:=y4) f5 ))<|Z7 _ (Z1a (vs:=[agg [uA' y5.gX,uA' y5.gY,uA' y5.gZ]]) (v:=agg [uA' y6.gX,uA' y6.gY,uA' y6.gZ]) rfl (fun w hw=>Z3v (r:=y6) (p0:=y5) f6 ))<|Zo _ (iz e1 (Z1w (base:=0) rfl .t4 rfl (Z01 c1)))<|Z7 _ (iz e2 (Zbf rfl rfl (by decide)))<|Z7 _ (Z0i rfl rfl (Z08 c2))<|Zo _ (az (fun x1=>agg [uA' x1.gX,uA' x1.gY,uA' x1.gZ]) j1 (Zo9 (base:=0) (w:=30) rfl .t1 rfl (Z01 c2) rfl rfl rfl))<|Z7 _ (Z1a (vs:=[agg [uA' y6.gX,uA' y6.gY,uA' y6.gZ],agg [uA' x1.gX,uA' x1.gY,uA' x1.gZ]]) (v:=agg [uA' y7.gX,uA' y7.gY,uA' y7.gZ]) rfl (fun w hw=>Zfs (r:=y7) (p0:=y6) (p1:=x1) f7 ))<|Z1i rfl (Zp (q:=[uA' y7.gX,uA' y7.gY,uA' y7.gZ]) rfl rfl rfl rfl rfl .here<|Z04<|cH h fun c3 h=>oH h fun y8 f8 h=>oH h fun y9 f9 h=>oH h fun y10 f10 h=>oH h fun y11 f11 h=>bH h fun z3 e3 h=>bH h fun z4 e4 h=>cH h fun c4 h=>bH h fun x2 j2 h=>oH h fun y12 f12 h=>Zt<|Z7 _ (Z0j rfl)<|Z7 _ (Z0i rfl rfl (Z08 c3))<|Zo _ (Z02 (p:=[uA' y7.gX,uA' y7.gY,uA' y7.gZ]) rfl .here rfl)<|Z7 _ (Z1a (vs:=[agg [uA' y7.gX,uA' y7.gY,uA' y7.gZ]]) (v:=agg [uA' y8.gX,uA' y8.gY,uA' y8.gZ]) rfl (fun w hw=>Z3v (r:=y8) (p0:=y7) f8 ))<|Z7 _ (Z1a (vs:=[agg [uA' y8.gX,uA' y8.gY,uA' y8.gZ]]) (v:=agg [uA' y9.gX,uA' y9.gY,uA' y9.gZ]) rfl (fun w hw=>Z3v (r:=y9) (p0:=y8) f9 ))<|Z7 _ (Z1a (vs:=[agg [uA' y9.gX,uA' y9.gY,uA' y9.gZ]]) (v:=agg [uA' y10.gX,uA' y10.gY,uA' y10.gZ]) rfl (fun w hw=>Z3v (r:=y10) (p0:=y9) f10 ))<|Z7 _ (Z1a (vs:=[agg [uA' y10.gX,uA' y10.gY,uA' y10.gZ]]) (v:=agg [uA' y11.gX,uA' y11.gY,uA' y11.gZ]) rfl (fun w hw=>Z3v (r:=y11) (p0:=y10) f11 ))<|Zo _ (iz e3 (Z1w (base:=0) rfl .t4 rfl (Z01 c3)))<|Z7 _ (iz e4 (Z8c rfl rfl (by decide)))<|Z7 _ (Z0i rfl rfl (Z08 c4))<|Zo _ (az (fun x2=>agg [uA' x2.gX,uA' x2.gY,uA' x2.gZ]) j2 (Zo9 (base:=0) (w:=30) rfl .t1 rfl (Z01 c4) rfl rfl rfl))<|Z7 _ (Z1a (vs:=[agg [uA' y11.gX,uA' y11.gY,uA' y11.gZ],agg [uA' x2.gX,uA' x2.gY,uA' x2.gZ]]) (v:=agg [uA' y12.gX,uA' y12.gY,uA' y12.gZ]) rfl (fun w hw=>Zfs (r:=y12) (p0:=y11) (p1:=x2) f12 ))<|Z1i rfl (Zp (q:=[uA' y12.gX,uA' y12.gY,uA' y12.gZ]) rfl rfl rfl rfl rfl .here<|Z04<|bH h fun z5 e5 h=>Z2<|Z6 rfl<|Z4 _ (iz e5 (Z8 rfl rfl rfl))<|Z6 rfl<|Z1 ?_))
    rw [q2] at h
    exact ⟨n1,Nat.lt_succ_self _,z5,y12.gX,y12.gY,y12.gZ,h,⟨⟨rfl,rfl,rfl,rfl,rfl,trivial⟩,(.o (.o (.o (.o (.o .nil)))))⟩⟩
   ·exact Zs _ rfl<|⟨a4,a5,a6,h,⟨⟨rfl,rfl,trivial⟩,(.o (.o (.o (.o (.o .nil)))))⟩⟩
 ·rintro t m ⟨a1,a2,a3,h,hF⟩
  refine Ze hF ?_
  clear hF
  subst q1
  refine Z0<|Z2<|Z4 _ (Z02 (p:=[uA' a1,uA' a2,uA' a3]) rfl .here rfl)<|Zd (Zp (q:=[uA' a1,uA' a2,uA' a3]) rfl rfl rfl rfl rfl .t2<|Z1<|Zj ?_)
  revert h; refine Zv fun h=>?_
  subst h
  exact ⟨_,(.cons (.agg rfl .t2 rfl) .nil),rfl⟩
def Zby (p0:LI):Option Bool :=
 bnd (([0,0,0,0,0,0,0,0,0,0]:LI)) fun z1 =>
 some (ieq 10 p0 z1)
theorem Zfa {W:World} {r:Bool} {p0:LI} (h:Zby p0=some r)  :
    Calls Tryz.prog 141 [agg [uA' p0]].toArray W (Z34 W (.bool (r))):=by
 unfold Zby at h
 refine Zc mo Z0jm rfl ?_
 refine Z0<|Z2<|Zd (Z0l (s:=[uA' p0]) rfl fun b1 u1=>Z6 rfl<|Z1<|Z0<|bH h fun z1 e1 h=>Z2<|Z4 _ (Z02 (p:=[uA' p0]) rfl .here rfl)<|Z4 _ (az (fun z=>agg [.ints .u64 10 z]) e1 (Zd2 BdR.nil))<|Z4 _ (Zpz rfl rfl rfl rfl _ (Zcg Zcf))<|Z6 rfl<|Z1<|Zj ?_)
 revert h; refine Zv fun h=>?_
 subst h
 exact ⟨_,(.cons (.tmp rfl) .nil),rfl⟩
def Zhd (p0:LI):OL :=
 opt (Zeq p0) fun y1 =>
 br (y1) (
 opt (Zli p0) fun y2 =>
 some y2
 ) (
 some p0
 )
theorem Zhu {W:World} {r:(LI)} {p0:LI} (h:Zhd p0=some r)  :
    Calls Tryz.prog 217 [agg [uA' p0]].toArray W (Z34 W (agg [uA' r])):=by
 unfold Zhd at h
 refine Zc mo Z0l0 rfl ?_
 refine Z0<|Z2<|Zd (Z0l (s:=[uA' p0]) rfl fun b1 u1=>Zd (Zq fun b2 u2=>Z1<|Z0<|Z0<|oH h fun y1 f1 h=>Z2<|Z4 _ (Z02 (p:=[uA' p0]) rfl .t1 rfl)<|Z4 _ (Z0h rfl (Zgj f1))<|Z1<|Z09 h rfl (fun h=>?_) (fun h=>?_)))
 ·refine Z0<|oH h fun y2 f2 h=>Z2<|Z4 _ (Z02 (p:=[uA' p0]) rfl .t1 rfl)<|Z4 _ (Z0h rfl (Zjx f2))<|Zd (Zp (q:=[uA' y2]) rfl rfl rfl rfl rfl .here<|Z1<|Zj ?_)
  revert h; refine Zv fun h=>?_
  subst h
  exact ⟨_,(.cons (.agg rfl .here rfl) .nil),rfl⟩
 ·refine Zh<|Z0<|Z2<|Z4 _ (Z02 (p:=[uA' p0]) rfl .t1 rfl)<|Zd (Zp (q:=[uA' p0]) rfl rfl rfl rfl rfl .here<|Z1<|Zj ?_)
  revert h; refine Zv fun h=>?_
  subst h
  exact ⟨_,(.cons (.agg rfl .here rfl) .nil),rfl⟩
def Z9f (p0:LI) (p1:LI):Option ((LI)×Bool) :=
 opt (Zby p1) fun y1 =>
 br (y1) (
 bnd (([0,0,0,0,0,0,0,0,0,0]:LI)) fun z1 =>
 opt (Zby p0) fun y2 =>
 some (z1,y2)
 ) (
 opt (Z9c p1) fun y3 =>
 opt (Z1u p0 y3) fun y4 =>
 opt (Zb6 254 15) fun y5 =>
 opt (Zjy y4 y5) fun y6 =>
 opt (Z1u y6 y6) fun y7 =>
 br ((ieq 10 y7 y4)) (
 opt (Zhd y6) fun y8 =>
 some (y8,true)
 ) (
 opt (Z60 2) fun y9 =>
 opt (Zb6 251 31) fun y10 =>
 opt (Zjy y9 y10) fun y11 =>
 opt (Z1u y6 y11) fun y12 =>
 opt (Z1u y12 y12) fun y13 =>
 br ((ieq 10 y13 y4)) (
 opt (Zhd y12) fun y14 =>
 some (y14,true)
 ) (
 bnd (([0,0,0,0,0,0,0,0,0,0]:LI)) fun z2 =>
 some (z2,false)
 )
 )
 )
theorem Zhc {W:World} {r:(LI)×Bool} {p0:LI} {p1:LI} (h:Z9f p0 p1=some r)  :
    Calls Tryz.prog 196 [agg [uA' p0],agg [uA' p1]].toArray W (Z34 W (.tuple #[agg [uA' r.1],.bool (r.2)])):=by
 unfold Z9f at h
 refine Zc mo Z0ki rfl ?_
 refine Z0<|Z2<|Zd (Z0l (s:=[uA' p0]) rfl fun b1 u1=>Zd (Z0l (s:=[uA' p1]) rfl fun b2 u2=>Zd (Zq fun b3 u3=>Z6 rfl<|Z1<|Z0<|Z0<|oH h fun y1 f1 h=>Z2<|Z4 _ (Z02 (p:=[uA' p1]) rfl .t1 rfl)<|Z4 _ (Z0h rfl (Zfa f1))<|Z1<|Z09 h rfl (fun h=>?_) (fun h=>?_))))
 ·refine Z0<|bH h fun z1 e1 h=>oH h fun y2 f2 h=>Z2<|Z4 _ (az (fun z=>agg [.ints .u64 10 z]) e1 (Zd2 BdR.nil))<|Z4 _ (Z02 (p:=[uA' p0]) rfl .t2 rfl)<|Z4 _ (Z0h rfl (Zfa f2))<|Zd (Zp (q:=[uA' z1]) rfl rfl rfl rfl rfl .here<|Z6 rfl<|Z1<|Zj ?_)
  revert h; refine Zv fun h=>?_
  subst h
  exact ⟨_,(.cons (.agg rfl .here rfl) (.cons (.tmp rfl) .nil)),rfl⟩
 ·refine Zh<|Z0<|oH h fun y3 f3 h=>oH h fun y4 f4 h=>Zt<|Zo _ (Z02 (p:=[uA' p0]) rfl .t2 rfl)<|Zo _ (Z02 (p:=[uA' p1]) rfl .t1 rfl)<|Z7 _ (Z0h rfl (Zbe f3))<|Z7 _ (Z0h rfl (Z0b f4))<|Z47 (Zq fun b4 u4=>⟨(by repeat (first | exact Sup.refl _ | apply Sup.cons | apply Sup.app)),Z1i rfl (Zp (q:=[uA' y4]) rfl rfl rfl rfl rfl .here (Z04 (Z0 (oH h fun y5 f5 h=>oH h fun y6 f6 h=>Zt (Z7 _ (Z0h rfl (Zco f5)) (Zo _ (Z02 (p:=[uA' y4]) rfl .here rfl) (Z7 _ (Z0h rfl (Zfp f6)) (Z47 (Zq fun b5 u5=>⟨(by repeat (first | exact Sup.refl _ | apply Sup.cons | apply Sup.app)),Z1i rfl (Zp (q:=[uA' y6]) rfl rfl rfl rfl rfl .here (Z04 (Z0 (Z0 (oH h fun y7 f7 h=>Zt (Zo _ (Z02 (p:=[uA' y6]) rfl .here rfl) (Zo _ (Z02 (p:=[uA' y6]) rfl .here rfl) (Z7 _ (Z0h rfl (Z0b f7)) (Zo _ (Z02 (p:=[uA' y4]) rfl .t1 rfl) (Z7 _ (Zpz rfl rfl rfl rfl _ (Zcg Zcf)) (Z04 (Z09 h rfl (fun h=>?_) (fun h=>?_)))))))))))))⟩)))))))))⟩)
  ·refine Z0<|oH h fun y8 f8 h=>Z2<|Z4 _ (Z02 (p:=[uA' y6]) rfl .here rfl)<|Z4 _ (Z0h rfl (Zhu f8))<|Zd (Zp (q:=[uA' y8]) rfl rfl rfl rfl rfl .t2<|Z6 rfl<|Z1<|Zj ?_)
   revert h; refine Zv fun h=>?_
   subst h
   exact ⟨_,(.cons (.agg rfl .t2 rfl) (.cons (.tmp rfl) .nil)),rfl⟩
  ·refine Zh<|Z0<|oH h fun y9 f9 h=>oH h fun y10 f10 h=>oH h fun y11 f11 h=>oH h fun y12 f12 h=>Zt<|Z7 _ (Z0h rfl (Z37 f9))<|Z7 _ (Z0h rfl (Zco f10))<|Z7 _ (Z0h rfl (Zfp f11))<|Zo _ (Z02 (p:=[uA' y6]) rfl .here rfl)<|Z7 _ (Z0h rfl (Z0b f12))<|Z1i rfl (Zp (q:=[uA' y12]) rfl rfl rfl rfl rfl .here<|Z04<|Z0<|Z0<|oH h fun y13 f13 h=>Zt<|Zo _ (Z02 (p:=[uA' y12]) rfl .here rfl)<|Zo _ (Z02 (p:=[uA' y12]) rfl .here rfl)<|Z7 _ (Z0h rfl (Z0b f13))<|Zo _ (Z02 (p:=[uA' y4]) rfl .t1 rfl)<|Z7 _ (Zpz rfl rfl rfl rfl _ (Zcg Zcf))<|Z04<|Z09 h rfl (fun h=>?_) (fun h=>?_))
   ·refine Z0<|oH h fun y14 f14 h=>Z2<|Z4 _ (Z02 (p:=[uA' y12]) rfl .here rfl)<|Z4 _ (Z0h rfl (Zhu f14))<|Zd (Zp (q:=[uA' y14]) rfl rfl rfl rfl rfl .t2<|Z6 rfl<|Z1<|Zj ?_)
    revert h; refine Zv fun h=>?_
    subst h
    exact ⟨_,(.cons (.agg rfl .t2 rfl) (.cons (.tmp rfl) .nil)),rfl⟩
   ·refine Zh<|Z0<|bH h fun z2 e2 h=>Z2<|Z4 _ (az (fun z=>agg [.ints .u64 10 z]) e2 (Zd2 BdR.nil))<|Zd (Zp (q:=[uA' z2]) rfl rfl rfl rfl rfl .t2<|Z6 rfl<|Z1<|Zj ?_)
    revert h; refine Zv fun h=>?_
    subst h
    exact ⟨_,(.cons (.agg rfl .t2 rfl) (.cons (.tmp rfl) .nil)),rfl⟩
def Ze9 (p0:LI):Option ((LI)×Bool) :=
 opt (Z1u p0 p0) fun y1 =>
 opt (Z60 1) fun y2 =>
 opt (Zht y1 y2) fun y3 =>
 opt (q7_D) fun y4 =>
 opt (Z1u y4 y1) fun y5 =>
 opt (Z60 1) fun y6 =>
 opt (Zd0 y5 y6) fun y7 =>
 opt (Z9f y3 y7) fun y8 =>
 some (y8.1,y8.2)
theorem Zl0 {W:World} {r:(LI)×Bool} {p0:LI} (h:Ze9 p0=some r)  :
    Calls Tryz.prog 140 [agg [uA' p0]].toArray W (Z34 W (.tuple #[agg [uA' r.1],.bool (r.2)])):=by
 unfold Ze9 at h
 refine Zc mo Z0jl rfl ?_
 refine Z0<|Z2<|Zd (Z0l (s:=[uA' p0]) rfl fun b1 u1=>Zd (Zq fun b2 u2=>Z6 rfl<|Z1<|Z0<|oH h fun y1 f1 h=>Z2<|Z4 _ (Z02 (p:=[uA' p0]) rfl .t1 rfl)<|Z4 _ (Z02 (p:=[uA' p0]) rfl .t1 rfl)<|Z4 _ (Z0h rfl (Z0b f1))<|Zd (Zq fun b3 u3=>Zd (Zp (q:=[uA' y1]) rfl rfl rfl rfl rfl .here<|Z1<|Z0<|oH h fun y2 f2 h=>oH h fun y3 f3 h=>Zt<|Z7 _ (Z0h rfl (Z37 f2))<|Zo _ (Z02 (p:=[uA' y1]) rfl .here rfl)<|Z7 _ (Z0h rfl (Zcp f3))<|Z47 (Zq fun b4 u4=>⟨(by repeat (first | exact Sup.refl _ | apply Sup.cons | apply Sup.app)),Z1i rfl (Zp (q:=[uA' y3]) rfl rfl rfl rfl rfl .here (Z04 (Z0 (oH h fun y4 f4 h=>oH h fun y5 f5 h=>oH h fun y6 f6 h=>oH h fun y7 f7 h=>Zt (Z7 _ (Z0h rfl (Zo6 f4)) (Zo _ (Z02 (p:=[uA' y1]) rfl .t1 rfl) (Z7 _ (Z0h rfl (Z0b f5)) (Z7 _ (Z0h rfl (Z37 f6)) (Z7 _ (Z0h rfl (Z6f f7)) (Z47 (Zq fun b5 u5=>⟨(by repeat (first | exact Sup.refl _ | apply Sup.cons | apply Sup.app)),Z1i rfl (Zp (q:=[uA' y7]) rfl rfl rfl rfl rfl .here (Z04 (Z0 (oH h fun y8 f8 h=>Z2 (Z4 _ (Z02 (p:=[uA' y3]) rfl .t1 rfl) (Z4 _ (Z02 (p:=[uA' y7]) rfl .here rfl) (Z4 _ (Z0h rfl (Zhc f8)) (Z4 _ (Z40 rfl rfl) (Z4 _ (Z40 rfl rfl) (Zd (Zp (q:=[uA' y8.1]) rfl rfl rfl rfl rfl .t3 (Z6 rfl (Z1 (Zj ?_))))))))))))))⟩)))))))))))⟩)))))
 revert h; refine Zv fun h=>?_
 subst h
 exact ⟨_,(.cons (.agg rfl .t3 rfl) (.cons (.tmp rfl) .nil)),rfl⟩
def Zc1 (p0:LI) (p1:LI):Option (Z1y) :=
 opt (Z60 1) fun y1 =>
 some (⟨p0,p1,y1⟩:Z1y)
theorem Zl1 {W:World} {r:Z1y} {p0:LI} {p1:LI} (h:Zc1 p0 p1=some r)  :
    Calls Tryz.prog 143 [agg [uA' p0],agg [uA' p1]].toArray W (Z34 W (agg [uA' r.gX,uA' r.gY,uA' r.gZ])):=by
 unfold Zc1 at h
 refine Zc mo Z0jo rfl ?_
 refine Z0<|Z2<|Zd (Z0l (s:=[uA' p0]) rfl fun b1 u1=>Zd (Z0l (s:=[uA' p1]) rfl fun b2 u2=>Zd (Zq fun b3 u3=>Z1<|Z0<|oH h fun y1 f1 h=>Zt<|Z7 _ (Z0h rfl (Z37 f1))<|Zo _ (Z02 (p:=[uA' p0]) rfl .t2 rfl)<|Zo _ (Z02 (p:=[uA' p1]) rfl .t1 rfl)<|Z7 _ (Zd2 (q:=[uA' p0,uA' p1,uA' y1]) (.agg rfl rfl rfl (.agg rfl rfl rfl (.agg rfl rfl rfl BdR.nil))))<|Z1i rfl (Zp (q:=[uA' p0,uA' p1,uA' y1]) rfl rfl rfl rfl rfl .here<|Z04<|Zj ?_))))
 revert h; refine Zv fun h=>?_
 subst h
 exact ⟨_,(.cons (.agg rfl .here rfl) .nil),rfl⟩
def Zk0:Option (Z1y) :=
 opt (Z60 4) fun y1 =>
 opt (Z60 5) fun y2 =>
 opt (Z9c y2) fun y3 =>
 opt (Z1u y1 y3) fun y4 =>
 opt (Ze9 y4) fun y5 =>
 opt (Zc1 y5.1 y4) fun y6 =>
 some y6
theorem Zo5 {W:World} {r:Z1y} (h:Zk0=some r)  :
    Calls Tryz.prog 107 [].toArray W (Z34 W (agg [uA' r.gX,uA' r.gY,uA' r.gZ])):=by
 unfold Zk0 at h
 refine Zc mo Z0j0 rfl ?_
 refine Z0<|Z2<|Zd (Zq fun b1 u1=>Z1<|Z0<|oH h fun y1 f1 h=>oH h fun y2 f2 h=>oH h fun y3 f3 h=>oH h fun y4 f4 h=>Z2<|Z4 _ (Z0h rfl (Z37 f1))<|Z4 _ (Z0h rfl (Z37 f2))<|Z4 _ (Z0h rfl (Zbe f3))<|Z4 _ (Z0h rfl (Z0b f4))<|Zd (Zq fun b2 u2=>Zd (Zp (q:=[uA' y4]) rfl rfl rfl rfl rfl .here<|Z1<|Z0<|oH h fun y5 f5 h=>Z2<|Z4 _ (Z02 (p:=[uA' y4]) rfl .here rfl)<|Z4 _ (Z0h rfl (Zl0 f5))<|Z6 rfl<|Z4 _ (Z40 rfl rfl)<|Z4 _ (Z40 rfl rfl)<|Zd (Zq fun b3 u3=>Zd (Zp (q:=[uA' y5.1]) rfl rfl rfl rfl rfl .here<|Z6 rfl<|Z1<|Z0<|oH h fun y6 f6 h=>Z2<|Z4 _ (Z02 (p:=[uA' y5.1]) rfl .here rfl)<|Z4 _ (Z02 (p:=[uA' y4]) rfl .t1 rfl)<|Z4 _ (Z0h rfl (Zl1 f6))<|Zd (Zp (q:=[uA' y6.gX,uA' y6.gY,uA' y6.gZ]) rfl rfl rfl rfl rfl .t2<|Z1<|Zj ?_))))))
 revert h; refine Zv fun h=>?_
 subst h
 exact ⟨_,(.cons (.agg rfl .t2 rfl) .nil),rfl⟩
def Zc0 (p0:LI):Option (Z1y) :=
 opt (Zk0) fun y1 =>
 opt (Zo7 p0 y1) fun y2 =>
 some y2
theorem Zk1 {W:World} {r:Z1y} {p0:LI} (h:Zc0 p0=some r)  :
    Calls Tryz.prog 55 [agg [b3' p0]].toArray W (Z34 W (agg [uA' r.gX,uA' r.gY,uA' r.gZ])):=by
 unfold Zc0 at h
 refine Zc mo ok55 rfl ?_
 refine Z0<|Z2<|Zd (Z0l (s:=[b3' p0]) rfl fun b1 u1=>Zd (Zq fun b2 u2=>Z1<|Z0<|oH h fun y1 f1 h=>oH h fun y2 f2 h=>Zt<|Z7 _ (Z0h rfl (Zo5 f1))<|Zo _ (Z02 (p:=[b3' p0]) rfl .t1 rfl)<|Z7 _ (Z0h rfl (Zpy f2))<|Z1i rfl (Zp (q:=[uA' y2.gX,uA' y2.gY,uA' y2.gZ]) rfl rfl rfl rfl rfl .here<|Z04<|Zj ?_)))
 revert h; refine Zv fun h=>?_
 subst h
 exact ⟨_,(.cons (.agg rfl .here rfl) .nil),rfl⟩
def Zhf (p0:LI) (p1:Bool) (k1:(LI)->OL) (k2:Int->(LI)->OL) (i1:Int) (a1:LI):OL :=
 br ((decide (i1<32))) (
 jn (fun (a2:LI)=>bnd (wrap .i64 (i1+1)) fun z1 =>
 k2 z1 a2) fun k3=>chk (inB i1 64) <|
 bnd (p0.getD (i1).toNat 0) fun z2 =>
 chk (inB i1 32) <|
 bnd (Z28 a1 (i1).toNat z2) fun l1 =>
 br (p1) (
 bnd (wrap .i64 (32+i1)) fun z3 =>
 chk (inB z3 64) <|
 bnd (p0.getD (z3).toNat 0) fun z4 =>
 chk (inB i1 32) <|
 bnd (Z28 l1 (i1).toNat z4) fun l2 =>
 k3 l2
 ) (
 k3 l1
 )
 ) (
 k1 a1
 )
def Zc2 (p0:LI) (p1:Bool) (k1:(LI)->OL):Nat->Int->(LI)->OL
  | 0,_,_=>none
  | n+1,i1,a1=>Zhf p0 p1 k1 (Zc2 p0 p1 k1 n) i1 a1
def Zms (p0:LI) (p1:Bool):OL :=
 jn (fun (a1:LI)=>some a1) fun k1=>Zc2 p0 p1 k1 big 0 (replicate 32 0)
theorem Zo8 {W:World} {r:(LI)} {p0:LI} {p1:Bool} (h:Zms p0 p1=some r)  :
    Calls Tryz.prog 57 [agg [b6' p0],.bool (p1)].toArray W (Z34 W (agg [b3' r])):=by
 unfold Zms at h
 refine Zc mo ok57 rfl ?_
 refine Z0<|Z2<|Zd (Z0l (s:=[b6' p0]) rfl fun b1 u1=>Zd (Zq fun b2 u2=>Z1<|Z0<|Z2<|Zd (Zq fun b3 u3=>Z1<|Z0<|Z0<|Z2<|Z6 rfl<|Z1<|jH h fun k1 q1 h=>Zg (G:=fun t m=>∃ (a1:LI),k1 a1=some r/\Fit [(4,pt' b2),(5,pt' b3)] (ck b3 22 [b3' a1]::(ck b2 22 [b3' (replicate 32 0)]::(ck b1 94 [b6' p0] :: []))) t m) ?_ ?_)))
 ·refine Z9<|Zm (fun n1 t m=>∃ (i1:Int) (a2:LI),Zc2 p0 p1 k1 n1 i1 a2=some r/\Fit [(1,.bool (p1)),(2,pt' b1),(4,pt' b2),(5,pt' b3),(6,.int .i64 (i1))] (ck b3 22 [b3' a2]::(ck b2 22 [b3' (replicate 32 0)]::(ck b1 94 [b6' p0] :: []))) t m) big ?_ ?_
  ·exact ⟨0,(replicate 32 0),h,⟨⟨rfl,rfl,rfl,rfl,rfl,trivial⟩,(.o (.o (.o .nil)))⟩⟩
  ·rintro n1 t m ⟨i1,a2,h,hF⟩
   refine Ze hF ?_
   clear hF
   rcases n1 with _ | n1
   · exact Z07 h
   have h:Zhf p0 p1 k1 (Zc2 p0 p1 k1 n1) i1 a2=some r:=h
   unfold Zhf at h
   obtain ⟨k2,q2⟩ : ∃ k,k=Zc2 p0 p1 k1 n1:=⟨_,rfl⟩
   try rw [<- q2] at h
   refine Z0<|Z0<|Z2<|Z6 rfl<|Z4 _ (Z8 rfl rfl rfl)<|Z1<|Z09 h rfl (fun h=>?_) (fun h=>?_)
   ·refine Zh<|Z0<|jH h fun k3 q3 h=>Zg (G:=fun t m=>∃ (a3:LI),k3 a3=some r/\Fit [(1,.bool (p1)),(2,pt' b1),(4,pt' b2),(5,pt' b3),(6,.int .i64 (i1))] (ck b3 22 [b3' a3]::(ck b2 22 [b3' (replicate 32 0)]::(ck b1 94 [b6' p0] :: []))) t m) ?_ ?_
    ·refine Z9<|Z0<|cH h fun c1 h=>bH h fun z1 e1 h=>cH h fun c2 h=>bH h fun l1 g1 h=>Z2<|Z6 rfl<|Z6 rfl<|Z4 _ (Z0i rfl rfl (Z08 c1))<|Z4 _ (iz e1 (Z1w (base:=0) rfl .t2 rfl (Z01 c1)))<|Z4 _ (Z0i rfl rfl (Z08 c2))<|Zd (Z1h (q:=[b3' l1]) (base:=0) g1 rfl rfl rfl (Z01 c2) rfl .here<|Z1<|Z0<|Z2<|Z6 rfl<|Z1<|Z09 h rfl (fun h=>?_) (fun h=>?_))
     ·exact bH h fun z2 e2 h=>cH h fun c3 h=>bH h fun z3 e3 h=>cH h fun c4 h=>bH h fun l2 g2 h=>Z2<|Z6 rfl<|Z6 rfl<|Z4 _ (iz e2 (Z8 rfl rfl rfl))<|Z4 _ (Z0i rfl rfl (Z08 c3))<|Z4 _ (iz e3 (Z1w (base:=0) rfl .t2 rfl (Z01 c3)))<|Z4 _ (Z0i rfl rfl (Z08 c4))<|Zd (Z1h (q:=[b3' l2]) (base:=0) g2 rfl rfl rfl (Z01 c4) rfl .here<|Z1<|⟨l2,h,⟨⟨rfl,rfl,rfl,rfl,rfl,trivial⟩,(.o (.o (.o .nil)))⟩⟩)
     ·exact Zh<|⟨l1,h,⟨⟨rfl,rfl,rfl,rfl,rfl,trivial⟩,(.o (.o (.o .nil)))⟩⟩
    ·rintro t m ⟨a3,h,hF⟩
     refine Ze hF ?_
     clear hF
     subst q3
     refine bH h fun z4 e4 h=>Z2<|Z6 rfl<|Z4 _ (iz e4 (Z8 rfl rfl rfl))<|Z6 rfl<|Z1 ?_
     rw [q2] at h
     exact ⟨n1,Nat.lt_succ_self _,z4,a3,h,⟨⟨rfl,rfl,rfl,rfl,rfl,trivial⟩,(.o (.o (.o .nil)))⟩⟩
   ·exact Zs _ rfl<|⟨a2,h,⟨⟨rfl,rfl,trivial⟩,(.o (.o (.o .nil)))⟩⟩
 ·rintro t m ⟨a1,h,hF⟩
  refine Ze hF ?_
  clear hF
  subst q1
  refine Z0<|Z2<|Z4 _ (Z02 (p:=[b3' a1]) rfl .here rfl)<|Zd (Zp (q:=[b3' a1]) rfl rfl rfl rfl rfl .t1<|Z1<|Zj ?_)
  revert h; refine Zv fun h=>?_
  subst h
  exact ⟨_,(.cons (.agg rfl .t1 rfl) .nil),rfl⟩
def Zfr (p0:LI) (k1:(LI)->OL) (k2:Int->(LI)->OL) (i1:Int) (a1:LI):OL :=
 br ((decide (i1<32))) (
 chk (inB i1 32) <|
 bnd (p0.getD (i1).toNat 0) fun z1 =>
 chk (inB i1 32) <|
 bnd (Z28 a1 (i1).toNat z1) fun l1 =>
 bnd (wrap .i64 (i1+1)) fun z2 =>
 k2 z2 l1
 ) (
 k1 a1
 )
def Z8j (p0:LI) (k1:(LI)->OL):Nat->Int->(LI)->OL
  | 0,_,_=>none
  | n+1,i1,a1=>Zfr p0 k1 (Z8j p0 k1 n) i1 a1
def Zgl (p0:LI):OL :=
 jn (fun (a1:LI)=>bnd (a1.getD 0 0) fun z1 =>
 bnd (a1.getD 0 0) fun z2 =>
 bnd (Int.tmod z2 8) fun z3 =>
 bnd (wrap .u8 (z1-z3)) fun z4 =>
 bnd (Z28 a1 0 z4) fun l1 =>
 bnd (l1.getD 31 0) fun z5 =>
 bnd (Int.tmod z5 64) fun z6 =>
 bnd (wrap .u8 (z6+64)) fun z7 =>
 bnd (Z28 l1 31 z7) fun l2 =>
 some l2) fun k1=>Z8j p0 k1 big 0 (replicate 32 0)
theorem Zmr {W:World} {r:(LI)} {p0:LI} (h:Zgl p0=some r)  :
    Calls Tryz.prog 108 [agg [b3' p0]].toArray W (Z34 W (agg [b3' r])):=by
 unfold Zgl at h
 refine Zc mo Z0j1 rfl ?_
 refine Z0<|Z2<|Zd (Z0l (s:=[b3' p0]) rfl fun b1 u1=>Zd (Zq fun b2 u2=>Z1<|Z0<|Z2<|Zd (Zq fun b3 u3=>Z1<|Z0<|Z0<|Z2<|Z6 rfl<|Z1<|jH h fun k1 q1 h=>Zg (G:=fun t m=>∃ (a1:LI),k1 a1=some r/\Fit [(2,pt' b2),(3,pt' b3)] (ck b3 74 [b3' a1]::(ck b2 74 [b3' (replicate 32 0)]::(ck b1 22 [b3' p0] :: []))) t m) ?_ ?_)))
 ·refine Z9<|Zm (fun n1 t m=>∃ (i1:Int) (a2:LI),Z8j p0 k1 n1 i1 a2=some r/\Fit [(1,pt' b1),(2,pt' b2),(3,pt' b3),(4,.int .i64 (i1))] (ck b3 74 [b3' a2]::(ck b2 74 [b3' (replicate 32 0)]::(ck b1 22 [b3' p0] :: []))) t m) big ?_ ?_
  ·exact ⟨0,(replicate 32 0),h,⟨⟨rfl,rfl,rfl,rfl,trivial⟩,(.o (.o (.o .nil)))⟩⟩
  ·rintro n1 t m ⟨i1,a2,h,hF⟩
   refine Ze hF ?_
   clear hF
   rcases n1 with _ | n1
   · exact Z07 h
   have h:Zfr p0 k1 (Z8j p0 k1 n1) i1 a2=some r:=h
   unfold Zfr at h
   obtain ⟨k2,q2⟩ : ∃ k,k=Z8j p0 k1 n1:=⟨_,rfl⟩
   try rw [<- q2] at h
   refine Z0<|Z0<|Z2<|Z6 rfl<|Z4 _ (Z8 rfl rfl rfl)<|Z1<|Z09 h rfl (fun h=>?_) (fun h=>?_)
   ·refine Zh<|Z0<|Z9<|cH h fun c1 h=>bH h fun z1 e1 h=>cH h fun c2 h=>bH h fun l1 g1 h=>Z2<|Z6 rfl<|Z6 rfl<|Z4 _ (Z0i rfl rfl (Z08 c1))<|Z4 _ (iz e1 (Z1w (base:=0) rfl .t2 rfl (Z01 c1)))<|Z4 _ (Z0i rfl rfl (Z08 c2))<|Zd (Z1h (q:=[b3' l1]) (base:=0) g1 rfl rfl rfl (Z01 c2) rfl .here<|Z1<|bH h fun z2 e2 h=>Z2<|Z6 rfl<|Z4 _ (iz e2 (Z8 rfl rfl rfl))<|Z6 rfl<|Z1 ?_)
    rw [q2] at h
    exact ⟨n1,Nat.lt_succ_self _,z2,l1,h,⟨⟨rfl,rfl,rfl,rfl,trivial⟩,(.o (.o (.o .nil)))⟩⟩
   ·exact Zs _ rfl<|⟨a2,h,⟨⟨rfl,rfl,trivial⟩,(.o (.o (.o .nil)))⟩⟩
 ·rintro t m ⟨a1,h,hF⟩
  refine Ze hF ?_
  clear hF
  subst q1
  refine Z0<|bH h fun z3 e3 h=>bH h fun z4 e4 h=>bH h fun z5 e5 h=>bH h fun z6 e6 h=>bH h fun l2 g2 h=>Z2<|Z4 _ (Z0i rfl rfl (by decide))<|Z4 _ (iz e3 (Z0c rfl .here rfl))<|Z4 _ (Z0i rfl rfl (by decide))<|Z4 _ (iz e4 (Z0c rfl .here rfl))<|Z4 _ (iz e5 (Z8c rfl rfl (by decide)))<|Z4 _ (iz e6 (Z8 rfl rfl rfl))<|Z4 _ (Z0i rfl rfl (by decide))<|Zd (Z5e (q:=[b3' l2]) (congrArg (fun z=>([b3' z]:List Seg)) g2.symm) rfl rfl rfl rfl .here<|Z1<|Z0<|bH h fun z7 e7 h=>bH h fun z8 e8 h=>bH h fun z9 e9 h=>bH h fun l3 g3 h=>Z2<|Z4 _ (Z0i rfl rfl (by decide))<|Z4 _ (iz e7 (Z0c rfl .here rfl))<|Z4 _ (iz e8 (Z8c rfl rfl (by decide)))<|Z4 _ (iz e9 (Z8 rfl rfl rfl))<|Z4 _ (Z0i rfl rfl (by decide))<|Zd (Z5e (q:=[b3' l3]) (congrArg (fun z=>([b3' z]:List Seg)) g3.symm) rfl rfl rfl rfl .here<|Z1<|Z0<|Z2<|Z4 _ (Z02 (p:=[b3' l3]) rfl .here rfl)<|Zd (Zp (q:=[b3' l3]) rfl rfl rfl rfl rfl .t1<|Z1<|Zj ?_)))
  revert h; refine Zv fun h=>?_
  subst h
  exact ⟨_,(.cons (.agg rfl .t1 rfl) .nil),rfl⟩
def Z89 (p0:LI):OL :=
 opt (Zlh (tk p0 0 32)) fun y1 =>
 opt (Zms y1 false) fun y2 =>
 opt (Zgl y2) fun y3 =>
 some y3
theorem Zgm {W:World} {r:(LI)} {p0:LI} (h:Z89 p0=some r) (hG:Globs W) :
    Calls Tryz.prog 56 [agg [b3' p0]].toArray W (Z34 W (agg [b3' r])):=by
 unfold Z89 at h
 refine Zc mo ok56 rfl ?_
 refine Z0<|Z2<|Zd (Z0l (s:=[b3' p0]) rfl fun b1 u1=>Zd (Zq fun b2 u2=>Z1<|Z0<|oH h fun y1 f1 h=>Z2<|Z4 _ (Zf3 rfl .no .no .no (by simp) (by decide))<|Z4 _ (Z1a rfl (fun w hw=>Zjq f1 (hG.at hw (by simp)) ((Z6u (s:=[b3' p0]) (N:=32) (k:=.u8) (base:=0) (lo:=0) (hi:=32) (mz:=32) .t1 rfl (by decide)) w hw)))<|Zd (Zq fun b3 u3=>Zd (Zp (q:=[b6' y1]) rfl rfl rfl rfl rfl .here<|Z1<|Z0<|oH h fun y2 f2 h=>oH h fun y3 f3 h=>Z2<|Z4 _ (Z02 (p:=[b6' y1]) rfl .here rfl)<|Z4 _ (Z0h rfl (Zo8 f2))<|Z4 _ (Z0h rfl (Zmr f3))<|Zd (Zp (q:=[b3' y3]) rfl rfl rfl rfl rfl .t1<|Z1<|Zj ?_)))))
 revert h; refine Zv fun h=>?_
 subst h
 exact ⟨_,(.cons (.agg rfl .t1 rfl) .nil),rfl⟩
def Zar (p0:LI):OL :=
 opt (Z89 p0) fun y1 =>
 opt (Zc0 y1) fun y2 =>
 opt (Ze7 y2) fun y3 =>
 some y3
theorem Zl3 {W:World} {r:(LI)} {p0:LI} (h:Zar p0=some r) (hG:Globs W) :
    Calls Tryz.prog 13 [agg [b3' p0]].toArray W (Z34 W (agg [b3' r])):=by
 unfold Zar at h
 refine Zc mo ok13 rfl ?_
 refine Z0<|Z2<|Zd (Z0l (s:=[b3' p0]) rfl fun b1 u1=>Zd (Zq fun b2 u2=>Z1<|Z0<|oH h fun y1 f1 h=>oH h fun y2 f2 h=>oH h fun y3 f3 h=>Z2<|Z4 _ (Z02 (p:=[b3' p0]) rfl .t1 rfl)<|Z4 _ (Z1a rfl (fun w hw=>Zgm f1 (hG.at hw (by simp))))<|Z4 _ (Z0h rfl (Zk1 f2))<|Z4 _ (Z0h rfl (Zkz f3))<|Zd (Zp (q:=[b3' y3]) rfl rfl rfl rfl rfl .here<|Z1<|Zj ?_)))
 revert h; refine Zv fun h=>?_
 subst h
 exact ⟨_,(.cons (.agg rfl .here rfl) .nil),rfl⟩
def Z2d (p0:Zz) (p1:Int):OL :=
 opt (Z3z p0 p1) fun y1 =>
 opt (Zar y1.1) fun y2 =>
 some y2
theorem Z7k {W:World} {r:(LI)} {p0:Zz} {p1:Int} (h:Z2d p0 p1=some r) (hG:Globs W) :
    Calls Tryz.prog 65 [agg [.one (.int .i64 (p0.gGates)),.one (.int .i64 (p0.gWallets)),.one (.int .i64 (p0.gRows)),.one (.int .i64 (p0.gFlash)),.one (.int .i64 (p0.gSerials)),b3' p0.gSecret],.int .i64 (p1)].toArray W (Z34 W (agg [b3' r])):=by
 unfold Z2d at h
 refine Zc mo ok65 rfl ?_
 refine Z0<|Z2<|Zd (Z0l (s:=[.one (.int .i64 (p0.gGates)),.one (.int .i64 (p0.gWallets)),.one (.int .i64 (p0.gRows)),.one (.int .i64 (p0.gFlash)),.one (.int .i64 (p0.gSerials)),b3' p0.gSecret]) rfl fun b1 u1=>Zd (Zq fun b2 u2=>Z1<|Z0<|oH h fun y1 f1 h=>Z2<|Z4 _ (Z02 (p:=[.one (.int .i64 (p0.gGates)),.one (.int .i64 (p0.gWallets)),.one (.int .i64 (p0.gRows)),.one (.int .i64 (p0.gFlash)),.one (.int .i64 (p0.gSerials)),b3' p0.gSecret]) rfl .t1 rfl)<|Z6 rfl<|Z4 _ (Z1a rfl (fun w hw=>Z8e f1 (hG.at hw (by simp))))<|Z6 rfl<|Z4 _ (Z40 rfl rfl)<|Z4 _ (Z40 rfl rfl)<|Zd (Zq fun b3 u3=>Zd (Zp (q:=[b3' y1.1]) rfl rfl rfl rfl rfl .here<|Z6 rfl<|Z1<|Z0<|oH h fun y2 f2 h=>Z2<|Z4 _ (Z02 (p:=[b3' y1.1]) rfl .here rfl)<|Z4 _ (Z1a rfl (fun w hw=>Zl3 f2 (hG.at hw (by simp))))<|Zd (Zp (q:=[b3' y2]) rfl rfl rfl rfl rfl .t1<|Z1<|Zj ?_)))))
 revert h; refine Zv fun h=>?_
 subst h
 exact ⟨_,(.cons (.agg rfl .t1 rfl) .nil),rfl⟩
def Z20 (p0:Zz) (k1:(List (LI))->Option (Z2a×Int)) (k2:Int->(List (LI))->Option (Z2a×Int)) (i1:Int) (l1:List (LI)):Option (Z2a×Int) :=
 br ((decide (i1<=p0.gGates))) (
 opt (Z2d p0 i1) fun y1 =>
 chk (decide ((l1.length+([y1]:List (LI)).length)*32<=140737488355328)) <|
 bnd (l1++([y1]:List (LI))) fun l2 =>
 bnd (wrap .i64 (i1+1)) fun z1 =>
 k2 z1 l2
 ) (
 k1 l1
 )
def Z21 (p0:Zz) (k1:(List (LI))->Option (Z2a×Int)):Nat->Int->(List (LI))->Option (Z2a×Int)
  | 0,_,_=>none
  | n+1,i1,l1=>Z20 p0 k1 (Z21 p0 k1 n) i1 l1
def Z3y (p0:Zz):Option (Z2a×Int) :=
 opt (Z2q p0) fun y1 =>
 br ((y1 != 0)) (
 some ((⟨(replicate 32 0),[]⟩:Z2a),y1)
 ) (
 opt (Z2d p0 0) fun y2 =>
 jn (fun (l1:List (LI))=>some ((⟨y2,l1⟩:Z2a),0)) fun k1=>Z21 p0 k1 big 1 []
 )
theorem Z8d {W:World} {r:Z2a×Int} {p0:Zz} (h:Z3y p0=some r) (hG:Globs W) :
    Calls Tryz.prog 22 [agg [.one (.int .i64 (p0.gGates)),.one (.int .i64 (p0.gWallets)),.one (.int .i64 (p0.gRows)),.one (.int .i64 (p0.gFlash)),.one (.int .i64 (p0.gSerials)),b3' p0.gSecret]].toArray W (Zd9 W [] (fun v Ms=>∃ (u0:Value) (M1:List Zf),v = .tuple #[agg [b3' r.1.gIssuer,.one (u0)],.int .i64 (r.2)]/\Ms = [.all M1]/\Z03 Zn u0 M1 r.1.gGates)):=by
 unfold Z3y at h
 refine Z0e mo ok22 rfl (Zgt _) ?_
 refine Z0<|Z2<|Zd (Z0l (s:=[.one (.int .i64 (p0.gGates)),.one (.int .i64 (p0.gWallets)),.one (.int .i64 (p0.gRows)),.one (.int .i64 (p0.gFlash)),.one (.int .i64 (p0.gSerials)),b3' p0.gSecret]) rfl fun b1 hb1=>Zd (Zq fun b2 hb2=>Z6 rfl<|Z1<|Z0<|oH h fun y1 f1 h=>Z2<|Z4 _ (Z02 (p:=[.one (.int .i64 (p0.gGates)),.one (.int .i64 (p0.gWallets)),.one (.int .i64 (p0.gRows)),.one (.int .i64 (p0.gFlash)),.one (.int .i64 (p0.gSerials)),b3' p0.gSecret]) rfl .t1 rfl)<|Z4 _ (Z0h rfl (Z5f f1))<|Z6 rfl<|Z1<|Z0<|Z0<|Z2<|Z6 rfl<|Z4 _ (Z8 rfl rfl rfl)<|Z1<|Z09 h rfl (fun h=>?_) (fun h=>?_)))
 ·refine Z0<|Z2<|Z4 _ (Zd2 (q:=[b3' (replicate 32 0),.one (.slice none 0 0)]) BdR.nil)<|Z6 rfl<|Zd (Zp (q:=[b3' (replicate 32 0),.one (.slice none 0 0)]) rfl rfl rfl rfl rfl .here<|Z6 rfl<|Z1<|Zj ?_)
  revert h; refine Zv fun h=>?_
  subst h
  exact ⟨_,_,(.cons (.agg rfl .here rfl) (.cons (.tmp rfl) .nil)),(.no .nil),⟨_,rfl,⟨(.slice none 0 0),[],rfl,rfl,Z49⟩⟩⟩
 ·refine Zh<|Z0<|oH h fun y2 f2 h=>Z2<|Z4 _ (Z02 (p:=[.one (.int .i64 (p0.gGates)),.one (.int .i64 (p0.gWallets)),.one (.int .i64 (p0.gRows)),.one (.int .i64 (p0.gFlash)),.one (.int .i64 (p0.gSerials)),b3' p0.gSecret]) rfl .t1 rfl)<|Z4 _ (Z1a rfl (fun w hw=>Z7k f2 (hG.at hw (by simp))))<|Z4 _ (Zd2 (q:=[b3' y2,.one (.slice none 0 0)]) (.agg rfl rfl rfl BdR.nil))<|Zd (Zq fun b3 hb3=>Zd (Zp (q:=[b3' y2,.one (.slice none 0 0)]) rfl rfl rfl rfl rfl .here<|Z1<|Z0<|Z0<|Z2<|Z6 rfl<|Z1<|jH h fun k1 q1 h=>Zg (G:=fun t m=>∃ (l1:List (LI)) (v66:Value) (w1:List Zf),k1 l1=some r/\Z03 Zn v66 w1 l1/\Fit [(2,pt' b2),(5,pt' b3)] (ck b3 42 [b3' y2,.one (v66)]::(ck b2 42 [b3' (replicate 32 0),.one (.slice none 0 0)]::(ck b1 34 [.one (.int .i64 (p0.gGates)),.one (.int .i64 (p0.gWallets)),.one (.int .i64 (p0.gRows)),.one (.int .i64 (p0.gFlash)),.one (.int .i64 (p0.gSerials)),b3' p0.gSecret]::(w1 ++ [])))) t m) ?_ ?_))
  ·refine Z9<|Zm (fun n1 t m=>∃ (i1:Int) (l2:List (LI)) (v104:Value) (w2:List Zf),Z21 p0 k1 n1 i1 l2=some r/\Z03 Zn v104 w2 l2/\Fit [(1,pt' b1),(2,pt' b2),(5,pt' b3),(6,.int .i64 (i1))] (ck b3 42 [b3' y2,.one (v104)]::(ck b2 42 [b3' (replicate 32 0),.one (.slice none 0 0)]::(ck b1 34 [.one (.int .i64 (p0.gGates)),.one (.int .i64 (p0.gWallets)),.one (.int .i64 (p0.gRows)),.one (.int .i64 (p0.gFlash)),.one (.int .i64 (p0.gSerials)),b3' p0.gSecret]::(w2 ++ [])))) t m) big ?_ ?_
   ·exact ⟨1,[],(.slice none 0 0),[],h,Z49,⟨⟨rfl,rfl,rfl,rfl,trivial⟩,(.o (.o (.o (.no .nil))))⟩⟩
   ·rintro n1 t m ⟨i1,l2,v104,w2,h,O1,hF⟩
    refine Ze hF ?_
    clear hF
    rcases n1 with _ | n1
    · exact Z07 h
    have h:Z20 p0 k1 (Z21 p0 k1 n1) i1 l2=some r:=h
    unfold Z20 at h
    obtain ⟨k2,q2⟩ : ∃ k,k=Z21 p0 k1 n1:=⟨_,rfl⟩
    try rw [<- q2] at h
    refine Z0<|Z0<|Z2<|Z6 rfl<|Z4 _ (Z2l rfl)<|Z4 _ (Z0c rfl .t2 rfl)<|Z4 _ (Z8 rfl rfl rfl)<|Z1<|Z09 h rfl (fun h=>?_) (fun h=>?_)
    ·refine Zh<|Z0<|Z9<|oH h fun y3 f3 h=>cH h fun c1 h=>bH h fun l3 g1 h=>Zt<|Z7 _ (Z2l rfl)<|Z7 _ (Z0j rfl)<|Zo _ (Z0c rfl .here rfl)<|Zo _ (Z02 (p:=[.one (.int .i64 (p0.gGates)),.one (.int .i64 (p0.gWallets)),.one (.int .i64 (p0.gRows)),.one (.int .i64 (p0.gFlash)),.one (.int .i64 (p0.gSerials)),b3' p0.gSecret]) rfl .t2 rfl)<|Z7 _ (Z1a rfl (fun w hw=>Z7k f3 (hG.at hw (by simp))))<|Z47 (Z3i (E:=Zn) (xs:=[y3]) (.agg rfl rfl rfl BdR.nil) (.cons (p:=[b3' y3]) rfl .nil) rfl fun v114 w3 O2=>⟨(by repeat (first | exact Sup.refl _ | apply Sup.cons | apply Sup.app)),Z1i rfl (Z1m (E:=Zn) g1 rfl O1 (.app .t3) rfl (Z00 O2 .here) c1 fun v119 w4 O3=>Z7 _ (Z2l rfl) (Z03u rfl (Zhp (q:=[b3' y2,.one (v119)]) rfl rfl (Zbg.one1 (Z03.isSl O3)) rfl (.app (.app .here)) (Z04 (bH h fun z1 e1 h=>Z2 (Z6 rfl (Z4 _ (iz e1 (Z8 rfl rfl rfl)) (Z6 rfl (Z1 ?_)))))))))⟩)
     rw [q2] at h
     exact ⟨n1,Nat.lt_succ_self _,z1,l3,v119,w4,h,O3,⟨⟨rfl,rfl,rfl,rfl,trivial⟩,(.one (.app (.app .here)) (.one (.app (.app .here)) (.one (.app (.app .here)) (.all .here .nil))))⟩⟩
    ·exact Zs _ rfl<|⟨l2,v104,w2,h,O1,⟨⟨rfl,rfl,trivial⟩,(.o (.o (.o (.all .here .nil))))⟩⟩
  ·rintro t m ⟨l1,v66,w1,h,O4,hF⟩
   refine Ze hF ?_
   clear hF
   subst q1
   refine Z0<|Z2<|Z4 _ (Z02 (p:=[b3' y2,.one (v66)]) rfl .here rfl)<|Zd (Zcy (q:=[b3' y2,.one (v66)]) rfl rfl rfl rfl (Z0z Z3q (Z0z (Zb5 (Zbg.one1 (Z03.isSl O4))) Z5i)) .t1<|Z6 rfl<|Z1<|Zj ?_)
   revert h; refine Zv fun h=>?_
   subst h
   exact ⟨_,_,(.cons (.agg rfl .t1 rfl) (.cons (.tmp rfl) .nil)),(.all .t3 .nil),⟨_,rfl,⟨v66,w1,rfl,rfl,O4⟩⟩⟩
def Z15 (p0:List (LI)) (p1:List (LI)) (k1:Unit->Option Bool) (k2:Int->Option Bool) (i1:Int):Option Bool :=
 br ((decide (i1<(p0.length:Int)))) (
 chk (inB i1 p0.length) <|
 bnd (p0.getD (i1).toNat (replicate 32 0)) fun x1 =>
 chk (inB i1 p1.length) <|
 bnd (p1.getD (i1).toNat (replicate 32 0)) fun x2 =>
 br ((!(ieq 32 x1 x2))) (
 some false
 ) (
 bnd (wrap .i64 (i1+1)) fun z1 =>
 k2 z1
 )
 ) (
 k1 ()
 )
def Z16 (p0:List (LI)) (p1:List (LI)) (k1:Unit->Option Bool):Nat->Int->Option Bool
  | 0,_=>none
  | n+1,i1=>Z15 p0 p1 k1 (Z16 p0 p1 k1 n) i1
def Zw (p0:List (LI)) (p1:List (LI)):Option Bool :=
 br (((p0.length:Int) != (p1.length:Int))) (
 some false
 ) (
 jn (fun (_:Unit)=>some true) fun k1=>Z16 p0 p1 k1 big 0
 )
theorem Z30 {W:World} {r:Bool} {p0:List (LI)} {p1:List (LI)} {v0:Value} {v1:Value} (h:Zw p0 p1=some r) (A0:Z6v Zn W v0 p0) (A1:Z6v Zn W v1 p1) :
    Calls Tryz.prog 23 [v0,v1].toArray W (Z34 W (.bool (r))):=by
 unfold Zw at h
 refine Zc mo ok23 rfl ?_
 refine Z0<|Z2<|Z6 rfl<|Z1<|Z0<|Z0<|Z2<|Z6 rfl<|Z4 _ (Z3l rfl (Shp.rd A0))<|Z6 rfl<|Z4 _ (Z3l rfl (Shp.rd A1))<|Z4 _ (Z8 rfl rfl rfl)<|Z1<|Z09 h rfl (fun h=>?_) (fun h=>?_)
 ·refine Z0<|Z2<|Z6 rfl<|Z1<|Zj ?_
  revert h; refine Zv fun h=>?_
  subst h
  exact ⟨_,(.cons (.tmp rfl) .nil),rfl⟩
 ·refine Zh<|Z0<|Z0<|Z2<|Z6 rfl<|Z1<|jH h fun k1 q1 h=>Zg (G:=fun t m=>k1 ()=some r/\Fit [] [] t m) ?_ ?_
  ·refine Z9<|Zm (fun n1 t m=>∃ (i1:Int),Z16 p0 p1 k1 n1 i1=some r/\Fit [(0,v0),(1,v1),(5,.int .i64 (i1))] [] t m) big ?_ ?_
   ·exact ⟨0,h,⟨⟨rfl,rfl,rfl,trivial⟩,.nil⟩⟩
   ·rintro n1 t m ⟨i1,h,hF⟩
    refine Ze hF ?_
    clear hF
    rcases n1 with _ | n1
    · exact Z07 h
    have h:Z15 p0 p1 k1 (Z16 p0 p1 k1 n1) i1=some r:=h
    unfold Z15 at h
    obtain ⟨k2,q2⟩ : ∃ k,k=Z16 p0 p1 k1 n1:=⟨_,rfl⟩
    try rw [<- q2] at h
    refine Z0<|Z0<|Z2<|Z6 rfl<|Z6 rfl<|Z4 _ (Z3l rfl (Shp.rd A0))<|Z4 _ (Z8 rfl rfl rfl)<|Z1<|Z09 h rfl (fun h=>?_) (fun h=>?_)
    ·refine Zh<|Z0<|Z9<|Z0<|cH h fun c1 h=>bH h fun x1 j1 h=>cH h fun c2 h=>bH h fun x2 j2 h=>Zt<|Z7 _ (Z0j rfl)<|Z7 _ (Z0j rfl)<|Z7 _ (Z5p rfl rfl (Shp.rd A0) c1)<|Z7 _ (Z0j rfl)<|Z7 _ (Z0j rfl)<|Z7 _ (Z5p rfl rfl (Shp.rd A1) c2)<|Zo _ (az (fun (x1:LI)=>agg [b3' x1]) j1 (Zv2 (E:=Zn) (s:=[b3' (p0.getD (i1).toNat (replicate 32 0))]) rfl (Z2k A0 Z2y) (Z01 c1) rfl rfl))<|Zo _ (az (fun (x2:LI)=>agg [b3' x2]) j2 (Zv2 (E:=Zn) (s:=[b3' (p1.getD (i1).toNat (replicate 32 0))]) rfl (Z2k A1 Z2y) (Z01 c2) rfl rfl))<|Z7 _ (Zpz rfl rfl rfl rfl _ (Zcg Zcf))<|Z04<|Z09 h rfl (fun h=>?_) (fun h=>?_)
     ·refine Z0<|Z2<|Z6 rfl<|Z1<|Zj ?_
      revert h; refine Zv fun h=>?_
      subst h
      exact ⟨_,(.cons (.tmp rfl) .nil),rfl⟩
     ·refine Zh<|bH h fun z1 e1 h=>Z2<|Z6 rfl<|Z4 _ (iz e1 (Z8 rfl rfl rfl))<|Z6 rfl<|Z1 ?_
      rw [q2] at h
      exact ⟨n1,Nat.lt_succ_self _,z1,h,⟨⟨rfl,rfl,rfl,trivial⟩,.nil⟩⟩
    ·exact Zs _ rfl<|⟨h,⟨trivial,.nil⟩⟩
  ·rintro t m ⟨h,hF⟩
   refine Ze hF ?_
   clear hF
   subst q1
   refine Z0<|Z2<|Z6 rfl<|Z1<|Zj ?_
   revert h; refine Zv fun h=>?_
   subst h
   exact ⟨_,(.cons (.tmp rfl) .nil),rfl⟩
def Z1p (k1:(List (LI))->Option Bool) (k2:(List (LI))->Int->Option Bool) (l1:List (LI)) (i1:Int):Option Bool :=
 br ((decide (i1<64))) (
 bnd (([21,0,0,0,0,0,0,0,0,0,0,0,0,0,0,0,0,0,0,0,0,0,0,0,0,0,0,0,0,0,0,0]:LI)) fun z1 =>
 chk (decide ((l1.length+([z1]:List (LI)).length)*32<=140737488355328)) <|
 bnd (l1++([z1]:List (LI))) fun l2 =>
 bnd (wrap .i64 (i1+1)) fun z2 =>
 k2 l2 z2
 ) (
 k1 l1
 )
def Z1e (k1:(List (LI))->Option Bool):Nat->(List (LI))->Int->Option Bool
  | 0,_,_=>none
  | n+1,l1,i1=>Z1p k1 (Z1e k1 n) l1 i1
def Z1q (k1:(List (LI))->Option Bool) (k2:(List (LI))->Int->Option Bool) (l1:List (LI)) (i1:Int):Option Bool :=
 br ((decide (i1<64))) (
 bnd (([22,0,0,0,0,0,0,0,0,0,0,0,0,0,0,0,0,0,0,0,0,0,0,0,0,0,0,0,0,0,0,0]:LI)) fun z1 =>
 chk (decide ((l1.length+([z1]:List (LI)).length)*32<=140737488355328)) <|
 bnd (l1++([z1]:List (LI))) fun l2 =>
 bnd (wrap .i64 (i1+1)) fun z2 =>
 k2 l2 z2
 ) (
 k1 l1
 )
def Z1f (k1:(List (LI))->Option Bool):Nat->(List (LI))->Int->Option Bool
  | 0,_,_=>none
  | n+1,l1,i1=>Z1q k1 (Z1f k1 n) l1 i1
def Z1r (l1:List (LI)) (k1:Unit->Option Bool) (k2:Int->Option Bool) (i1:Int):Option Bool :=
 br ((decide (i1<(l1.length:Int)))) (
 chk (inB i1 l1.length) <|
 bnd (l1.getD (i1).toNat (replicate 32 0)) fun x1 =>
 bnd (([21,0,0,0,0,0,0,0,0,0,0,0,0,0,0,0,0,0,0,0,0,0,0,0,0,0,0,0,0,0,0,0]:LI)) fun z1 =>
 br ((!(ieq 32 x1 z1))) (
 some false
 ) (
 bnd (wrap .i64 (i1+1)) fun z2 =>
 k2 z2
 )
 ) (
 k1 ()
 )
def Z1g (l1:List (LI)) (k1:Unit->Option Bool):Nat->Int->Option Bool
  | 0,_=>none
  | n+1,i1=>Z1r l1 k1 (Z1g l1 k1 n) i1
def Z3j (p0:List (LI)) (p1:List (LI)):Option Bool :=
 jn (fun (l1:List (LI))=>jn (fun (l2:List (LI))=>jn (fun (_:Unit)=>bnd (wrap .i64 ((p1.length:Int)+64)) fun z1 =>
 some ((l2.length:Int)==z1)) fun k1=>Z1g l1 k1 big (p0.length:Int)) fun k2=>Z1f k2 big p1 0) fun k3=>Z1e k3 big p0 0
theorem Z7x {W:World} {r:Bool} {p0:List (LI)} {p1:List (LI)} {v0:Value} {M1:List Zf} {v1:Value} {M2:List Zf} (h:Z3j p0 p1=some r) (h0:Sat W ((M1++M2).map (·.b)) (M1++(M2 ++ [])) W) (O1:Zfz Zn v0 M1 p0) (O2:Zfz Zn v1 M2 p1) :
    Calls Tryz.prog 24 [v0,v1].toArray W (Zd9 W ((M1++M2).map (·.b)) (fun v Ms=>∃ (X0:List Zf) (X1:List Zf),v = .bool (r)/\Ms = [.all X0,.all X1]/\Zfz Zn v0 X0 p0/\Zfz Zn v1 X1 p1)):=by
 unfold Z3j at h
 refine Z0e mo ok24 rfl h0 ?_
 refine Z0<|Z2<|Z6 rfl<|Z1<|Z0<|Z2<|Z6 rfl<|Z6 rfl<|Z1<|Z0<|Z2<|Z6 rfl<|Z6 rfl<|Z1<|Z0<|Z0<|Z2<|Z6 rfl<|Z1<|jH h fun k1 q1 h=>Zg (G:=fun t m=>∃ (l1:List (LI)) (v57:Value) (w1:List Zf),k1 l1=some r/\Z4j Zn v0 p0 v57 l1 w1/\Fit [(0,v0),(1,v1),(5,v57),(6,v1)] (M2++(w1 ++ [])) t m) ?_ ?_
 ·refine Z9<|Zm (fun n1 t m=>∃ (l2:List (LI)) (i1:Int) (v93:Value) (w2:List Zf),Z1e k1 n1 l2 i1=some r/\Z4j Zn v0 p0 v93 l2 w2/\Fit [(0,v0),(1,v1),(5,v93),(6,v1),(7,.int .i64 (i1))] (M2++(w2 ++ [])) t m) big ?_ ?_
  ·exact ⟨p0,0,v0,M1,h,(Zfz.grow O1),⟨⟨rfl,rfl,rfl,rfl,rfl,trivial⟩,(.all (.app .here) (.all .here .nil))⟩⟩
  ·rintro n1 t m ⟨l2,i1,v93,w2,h,G96,hF⟩
   refine Ze hF ?_
   clear hF
   rcases n1 with _ | n1
   · exact Z07 h
   have h:Z1p k1 (Z1e k1 n1) l2 i1=some r:=h
   unfold Z1p at h
   obtain ⟨k2,q2⟩ : ∃ k,k=Z1e k1 n1:=⟨_,rfl⟩
   try rw [<- q2] at h
   refine Z0<|Z0<|Z2<|Z6 rfl<|Z4 _ (Z8 rfl rfl rfl)<|Z1<|Z09 h rfl (fun h=>?_) (fun h=>?_)
   ·refine Zh<|Z0<|Z9<|bH h fun z1 e1 h=>cH h fun c1 h=>bH h fun l3 g1 h=>Z2<|Z6 rfl<|Z4 _ (az (fun z=>agg [.ints .u8 32 z]) e1 (Zd2 (.one rfl rfl rfl BdR.nil)))<|Zd (Z3i (E:=Zn) (xs:=[z1]) (.agg rfl rfl rfl BdR.nil) (.cons (p:=[b3' z1]) rfl .nil) rfl fun v104 w3 O3=>Zd (Zql (E:=Zn) g1 rfl G96 (.app (.app .here)) rfl (Z00 O3 .here) c1 fun v109 w4 O4=>Z6 rfl<|Z1<|bH h fun z2 e2 h=>Z2<|Z6 rfl<|Z4 _ (iz e2 (Z8 rfl rfl rfl))<|Z6 rfl<|Z1 ?_))
    rw [q2] at h
    exact ⟨n1,Nat.lt_succ_self _,l3,z2,v109,w4,h,O4,⟨⟨rfl,rfl,rfl,rfl,rfl,trivial⟩,(.all (.app (.app .here)) (.all .here .nil))⟩⟩
   ·exact Zs _ rfl<|⟨l2,v93,w2,h,G96,⟨⟨rfl,rfl,rfl,rfl,trivial⟩,(.all .here (.all .here .nil))⟩⟩
 ·rintro t m ⟨l1,v57,w1,h,G60,hF⟩
  refine Ze hF ?_
  clear hF
  subst q1
  refine Z0<|Z0<|Z2<|Z6 rfl<|Z1<|jH h fun k3 q3 h=>Zg (G:=fun t m=>∃ (l4:List (LI)) (v167:Value) (w5:List Zf),k3 l4=some r/\Z4j Zn v1 p1 v167 l4 w5/\Fit [(0,v0),(1,v1),(5,v57),(6,v167)] (w1++(w5 ++ [])) t m) ?_ ?_
  ·refine Z9<|Zm (fun n2 t m=>∃ (l5:List (LI)) (i2:Int) (v203:Value) (w6:List Zf),Z1f k3 n2 l5 i2=some r/\Z4j Zn v1 p1 v203 l5 w6/\Fit [(0,v0),(1,v1),(5,v57),(6,v203),(8,.int .i64 (i2))] (w1++(w6 ++ [])) t m) big ?_ ?_
   ·exact ⟨p1,0,v1,M2,h,(Zfz.grow O2),⟨⟨rfl,rfl,rfl,rfl,rfl,trivial⟩,(.all (.app .here) (.all .here .nil))⟩⟩
   ·rintro n2 t m ⟨l5,i2,v203,w6,h,G206,hF⟩
    refine Ze hF ?_
    clear hF
    rcases n2 with _ | n2
    · exact Z07 h
    have h:Z1q k3 (Z1f k3 n2) l5 i2=some r:=h
    unfold Z1q at h
    obtain ⟨k4,q4⟩ : ∃ k,k=Z1f k3 n2:=⟨_,rfl⟩
    try rw [<- q4] at h
    refine Z0<|Z0<|Z2<|Z6 rfl<|Z4 _ (Z8 rfl rfl rfl)<|Z1<|Z09 h rfl (fun h=>?_) (fun h=>?_)
    ·refine Zh<|Z0<|Z9<|bH h fun z3 e3 h=>cH h fun c2 h=>bH h fun l6 g2 h=>Z2<|Z6 rfl<|Z4 _ (az (fun z=>agg [.ints .u8 32 z]) e3 (Zd2 (.one rfl rfl rfl BdR.nil)))<|Zd (Z3i (E:=Zn) (xs:=[z3]) (.agg rfl rfl rfl BdR.nil) (.cons (p:=[b3' z3]) rfl .nil) rfl fun v214 w7 O5=>Zd (Zql (E:=Zn) g2 rfl G206 (.app (.app .here)) rfl (Z00 O5 .here) c2 fun v219 w8 O6=>Z6 rfl<|Z1<|bH h fun z4 e4 h=>Z2<|Z6 rfl<|Z4 _ (iz e4 (Z8 rfl rfl rfl))<|Z6 rfl<|Z1 ?_))
     rw [q4] at h
     exact ⟨n2,Nat.lt_succ_self _,l6,z4,v219,w8,h,O6,⟨⟨rfl,rfl,rfl,rfl,rfl,trivial⟩,(.all (.app (.app .here)) (.all .here .nil))⟩⟩
    ·exact Zs _ rfl<|⟨l5,v203,w6,h,G206,⟨⟨rfl,rfl,rfl,rfl,trivial⟩,(.all .here (.all .here .nil))⟩⟩
  ·rintro t m ⟨l4,v167,w5,h,G170,hF⟩
   refine Ze hF ?_
   clear hF
   subst q3
   refine Z0<|Z0<|Z2<|Z6 rfl<|Z4 _ (Z3l rfl (Zfz.shp (Z4j.base G60)))<|Z6 rfl<|Z1<|jH h fun k5 q5 h=>Zg (G:=fun t m=>k5 ()=some r/\Fit [(1,v1),(6,v167)] (w1++(w5 ++ [])) t m) ?_ ?_
   ·refine Z9<|Zm (fun n3 t m=>∃ (i3:Int),Z1g l1 k5 n3 i3=some r/\Fit [(1,v1),(5,v57),(6,v167),(9,.int .i64 (i3))] (w1++(w5 ++ [])) t m) big ?_ ?_
    ·exact ⟨(p0.length:Int),h,⟨⟨rfl,rfl,rfl,rfl,trivial⟩,(.all .here (.all .here .nil))⟩⟩
    ·rintro n3 t m ⟨i3,h,hF⟩
     refine Ze hF ?_
     clear hF
     rcases n3 with _ | n3
     · exact Z07 h
     have h:Z1r l1 k5 (Z1g l1 k5 n3) i3=some r:=h
     unfold Z1r at h
     obtain ⟨k6,q6⟩ : ∃ k,k=Z1g l1 k5 n3:=⟨_,rfl⟩
     try rw [<- q6] at h
     refine Z0<|Z0<|Z2<|Z6 rfl<|Z6 rfl<|Z4 _ (Z3l rfl (Z4j.shp G60))<|Z4 _ (Z8 rfl rfl rfl)<|Z1<|Z09 h rfl (fun h=>?_) (fun h=>?_)
     ·refine Zh<|Z0<|Z9<|Z0<|cH h fun c3 h=>bH h fun x1 j1 h=>bH h fun z5 e5 h=>Z2<|Z6 rfl<|Z6 rfl<|Z4 _ (Z5p rfl rfl (Z4j.shp G60) c3)<|Z4 _ (az (fun (x1:LI)=>agg [b3' x1]) j1 (Zv2 (E:=Zn) (s:=[b3' (l1.getD (i3).toNat (replicate 32 0))]) rfl (Z0fa G60 .here) (Z01 c3) rfl rfl))<|Z4 _ (az (fun z=>agg [.ints .u8 32 z]) e5 (Zd2 (.one rfl rfl rfl BdR.nil)))<|Z4 _ (Zpz rfl rfl rfl rfl _ (Zcg Zcf))<|Z1<|Z09 h rfl (fun h=>?_) (fun h=>?_)
      ·refine Z0<|Z2<|Z6 rfl<|Z1<|Zj ?_
       revert h; refine Zv fun h=>?_
       subst h
       exact ⟨_,_,(.cons (.tmp rfl) .nil),(.all .here (.all .here .nil)),⟨_,rfl,⟨w1,w5,rfl,rfl,(Z4j.base G60),(Z4j.base G170)⟩⟩⟩
      ·refine Zh<|bH h fun z6 e6 h=>Z2<|Z6 rfl<|Z4 _ (iz e6 (Z8 rfl rfl rfl))<|Z6 rfl<|Z1 ?_
       rw [q6] at h
       exact ⟨n3,Nat.lt_succ_self _,z6,h,⟨⟨rfl,rfl,rfl,rfl,trivial⟩,(.all .here (.all .here .nil))⟩⟩
     ·exact Zs _ rfl<|⟨h,⟨⟨rfl,rfl,trivial⟩,(.all .here (.all .here .nil))⟩⟩
   ·rintro t m ⟨h,hF⟩
    refine Ze hF ?_
    clear hF
    subst q5
    refine Z0<|bH h fun z7 e7 h=>Z2<|Z6 rfl<|Z4 _ (Z3l rfl (Z4j.shp G170))<|Z6 rfl<|Z4 _ (Z3l rfl (Zfz.shp (Z4j.base G170)))<|Z4 _ (iz e7 (Z8 rfl rfl rfl))<|Z4 _ (Z8 rfl rfl rfl)<|Z6 rfl<|Z1<|Zj ?_
    revert h; refine Zv fun h=>?_
    subst h
    exact ⟨_,_,(.cons (.tmp rfl) .nil),(.all .here (.all .here .nil)),⟨_,rfl,⟨w1,w5,rfl,rfl,(Z4j.base G60),(Z4j.base G170)⟩⟩⟩
end Go.Proofs.YtiflckckekjbnaaGreatDoor
namespace Go.Proofs.YtiflckckekjbnaaGreatDoor
open Go Go.Sx Go.RowKit
open Go.IntKind (wrap)
set_option linter.all false
set_option maxHeartbeats 400000
set_option maxRecDepth 100000
def Z13 (k1:(List (LI))->Option Bool) (k2:Int->(List (LI))->Option Bool) (i1:Int) (l1:List (LI)):Option Bool :=
 br ((decide (i1<(l1.length:Int)))) (
 bnd (([9,0,0,0,0,0,0,0,0,0,0,0,0,0,0,0,0,0,0,0,0,0,0,0,0,0,0,0,0,0,0,0]:LI)) fun z1 =>
 chk (inB i1 l1.length) <|
 bnd (l1.getD (i1).toNat (List.replicate 32 0)) fun x1 =>
 bnd (Zkm (List.replicate 32 0) l1 (i1).toNat z1) fun l2 =>
 bnd (wrap .i64 (i1+1)) fun z2 =>
 k2 z2 l2
 ) (
 k1 l1
 )
def Z0q (k1:(List (LI))->Option Bool):Nat->Int->(List (LI))->Option Bool
  | 0,_,_=>none
  | n+1,i1,l1=>Z13 k1 (Z0q k1 n) i1 l1
def Z14 (k1:(List (LI))->Option Bool) (k2:(List (LI))->Int->Option Bool) (l1:List (LI)) (i1:Int):Option Bool :=
 br ((decide (i1<32))) (
 bnd (([8,0,0,0,0,0,0,0,0,0,0,0,0,0,0,0,0,0,0,0,0,0,0,0,0,0,0,0,0,0,0,0]:LI)) fun z1 =>
 chk (decide ((l1.length+([z1]:List (LI)).length)*32<=140737488355328)) <|
 bnd (l1++([z1]:List (LI))) fun l2 =>
 bnd (wrap .i64 (i1+1)) fun z2 =>
 k2 l2 z2
 ) (
 k1 l1
 )
def Z0r (k1:(List (LI))->Option Bool):Nat->(List (LI))->Int->Option Bool
  | 0,_,_=>none
  | n+1,l1,i1=>Z14 k1 (Z0r k1 n) l1 i1
def Z4f (p0:Zz) (p1:Int):Option Bool :=
 opt (Z8l p0) fun y1 =>
 opt (Z2q p0) fun y2 =>
 br ((y1 != y2)) (
 some false
 ) (
 opt (Zat p0 p1) fun y3 =>
 opt (Z3z p0 p1) fun y4 =>
 opt (Z9j p0) fun y5 =>
 opt (Z3y p0) fun y6 =>
 chk (imp (!((((!(ieq 32 y3.1 y4.1))||(!(y3.2==y4.2)))||(y5.2 != y6.2))||(!(ieq 32 y5.1.gIssuer y6.1.gIssuer)))) ((Zw y5.1.gGates y6.1.gGates).isSome)) <|
 br ((((((!(ieq 32 y3.1 y4.1))||(!(y3.2==y4.2)))||(y5.2 != y6.2))||(!(ieq 32 y5.1.gIssuer y6.1.gIssuer)))||(!((Zw y5.1.gGates y6.1.gGates).getD false)))) (
 some false
 ) (
 opt (Z9j p0) fun y7 =>
 bnd (p0.gSecret.getD 0 0) fun z1 =>
 bnd (wrap .u8 (z1+1)) fun z2 =>
 bnd (Z28 p0.gSecret 0 z2) fun l1 =>
 opt (Z9j (⟨p0.gGates,p0.gWallets,p0.gRows,p0.gFlash,p0.gSerials,l1⟩:Zz)) fun y8 =>
 opt (Z3y (⟨p0.gGates,p0.gWallets,p0.gRows,p0.gFlash,p0.gSerials,l1⟩:Zz)) fun y9 =>
 jn (fun (l2:List (LI))=>jn (fun (l3:List (LI))=>opt (Z9j p0) fun y10 =>
 jn (fun (i1:Bool)=>some i1) fun k1=>bnd (wrap .i64 ((y6.1.gGates.length:Int)+32)) fun z3 =>
 chk (imp ((l3.length:Int)==z3) ((Zw y7.1.gGates y6.1.gGates).isSome)) <|
 chk (imp (((l3.length:Int)==z3)&&((Zw y7.1.gGates y6.1.gGates).getD false)) ((Zw y8.1.gGates y9.1.gGates).isSome)) <|
 chk (imp ((((l3.length:Int)==z3)&&((Zw y7.1.gGates y6.1.gGates).getD false))&&((Zw y8.1.gGates y9.1.gGates).getD false)) ((Zw y10.1.gGates y6.1.gGates).isSome)) <|
 br ((((((l3.length:Int)==z3)&&((Zw y7.1.gGates y6.1.gGates).getD false))&&((Zw y8.1.gGates y9.1.gGates).getD false))&&((Zw y10.1.gGates y6.1.gGates).getD false))) (
 opt (Z3j y7.1.gGates y8.1.gGates) fun y11 =>
 br (y11) (
 opt (Z3j y8.1.gGates y10.1.gGates) fun y12 =>
 k1 y12
 ) (
 k1 false
 )
 ) (
 k1 false
 )) fun k2=>Z0r k2 big l2 0) fun k3=>Z0q k3 big 0 y5.1.gGates
 )
 )
theorem fareboxlaw11_RingKeys_spec {W:World} {r:Bool} {p0:Zz} {p1:Int} (h:Z4f p0 p1=some r) (hG:Globs W) :
    Calls Tryz.prog 4 [agg [.one (.int .i64 (p0.gGates)),.one (.int .i64 (p0.gWallets)),.one (.int .i64 (p0.gRows)),.one (.int .i64 (p0.gFlash)),.one (.int .i64 (p0.gSerials)),b3' p0.gSecret],.int .i64 (p1)].toArray W (Z34 W (.bool (r))):=by
 unfold Z4f at h
 refine Zc mo ok4 rfl ?_
 refine Z0<|Z2<|Zd (Z0l (s:=[.one (.int .i64 (p0.gGates)),.one (.int .i64 (p0.gWallets)),.one (.int .i64 (p0.gRows)),.one (.int .i64 (p0.gFlash)),.one (.int .i64 (p0.gSerials)),b3' p0.gSecret]) rfl fun b1 u1=>Z6 rfl<|Z1<|Z0<|Z0<|oH h fun y1 f1 h=>oH h fun y2 f2 h=>Zt<|Zo _ (Z02 (p:=[.one (.int .i64 (p0.gGates)),.one (.int .i64 (p0.gWallets)),.one (.int .i64 (p0.gRows)),.one (.int .i64 (p0.gFlash)),.one (.int .i64 (p0.gSerials)),b3' p0.gSecret]) rfl .here rfl)<|Z7 _ (Z0h rfl (Zas f1))<|Zo _ (Z02 (p:=[.one (.int .i64 (p0.gGates)),.one (.int .i64 (p0.gWallets)),.one (.int .i64 (p0.gRows)),.one (.int .i64 (p0.gFlash)),.one (.int .i64 (p0.gSerials)),b3' p0.gSecret]) rfl .here rfl)<|Z7 _ (Z0h rfl (Z5f f2))<|Z7 _ (Z8 rfl rfl rfl)<|Z04<|Z09 h rfl (fun h=>?_) (fun h=>?_))
 ·refine Z0<|Z2<|Z6 rfl<|Z1<|Zj ?_
  revert h; refine Zv fun h=>?_
  subst h
  exact ⟨_,(.cons (.tmp rfl) .nil),rfl⟩
 ·refine Zh<|Z0<|oH h fun y3 f3 h=>Z2<|Z4 _ (Z02 (p:=[.one (.int .i64 (p0.gGates)),.one (.int .i64 (p0.gWallets)),.one (.int .i64 (p0.gRows)),.one (.int .i64 (p0.gFlash)),.one (.int .i64 (p0.gSerials)),b3' p0.gSecret]) rfl .here rfl)<|Z6 rfl<|Z4 _ (Z1a rfl (fun w hw=>Zfd f3 (hG.at hw (by simp))))<|Z6 rfl<|Z4 _ (Z40 rfl rfl)<|Z4 _ (Z40 rfl rfl)<|Zd (Zq fun b2 u2=>Zd (Zp (q:=[b3' y3.1]) rfl rfl rfl rfl rfl .here<|Z6 rfl<|Z1<|Z0<|oH h fun y4 f4 h=>Z2<|Z4 _ (Z02 (p:=[.one (.int .i64 (p0.gGates)),.one (.int .i64 (p0.gWallets)),.one (.int .i64 (p0.gRows)),.one (.int .i64 (p0.gFlash)),.one (.int .i64 (p0.gSerials)),b3' p0.gSecret]) rfl .t1 rfl)<|Z6 rfl<|Z4 _ (Z1a rfl (fun w hw=>Z8e f4 (hG.at hw (by simp))))<|Z6 rfl<|Z4 _ (Z40 rfl rfl)<|Z4 _ (Z40 rfl rfl)<|Zd (Zq fun b3 u3=>Zd (Zp (q:=[b3' y4.1]) rfl rfl rfl rfl rfl .here<|Z6 rfl<|Z1<|Z0<|oH h fun y5 f5 h=>Z2<|Z4 _ (Z02 (p:=[.one (.int .i64 (p0.gGates)),.one (.int .i64 (p0.gWallets)),.one (.int .i64 (p0.gRows)),.one (.int .i64 (p0.gFlash)),.one (.int .i64 (p0.gSerials)),b3' p0.gSecret]) rfl .t2 rfl)<|Zd (Z05 rfl (fun w hw=>Z8t  f5 (hG.at hw (by simp))) fun v16 o1 R1=>?_)))))
  obtain ⟨v18,w1,rfl,rfl,O1⟩:=R1
  refine Z6 rfl<|Z4 _ (Z40 rfl rfl)<|Z4 _ (Z40 rfl rfl)<|Zd (Zq fun b4 u4=>Zd (Zcy (q:=[b3' y5.1.gIssuer,.one (v18)]) rfl rfl rfl rfl (Z0z Z3q (Z0z (Zb5 (Zbg.one1 (Z03.isSl O1))) Z5i)) .here<|Z6 rfl<|Z1<|Z0<|oH h fun y6 f6 h=>Z2<|Z4 _ (Z02 (p:=[.one (.int .i64 (p0.gGates)),.one (.int .i64 (p0.gWallets)),.one (.int .i64 (p0.gRows)),.one (.int .i64 (p0.gFlash)),.one (.int .i64 (p0.gSerials)),b3' p0.gSecret]) rfl (.there (.app .t2)) rfl)<|Zd (Z05 rfl (fun w hw=>Z8d  f6 (hG.at hw (by simp))) fun v24 o2 R2=>?_)))
  obtain ⟨v26,w2,rfl,rfl,O2⟩:=R2
  refine Z6 rfl<|Z4 _ (Z40 rfl rfl)<|Z4 _ (Z40 rfl rfl)<|Zd (Zq fun b5 u5=>Zd (Zcy (q:=[b3' y6.1.gIssuer,.one (v26)]) rfl rfl rfl rfl (Z0z Z3q (Z0z (Zb5 (Zbg.one1 (Z03.isSl O2))) Z5i)) .here<|Z6 rfl<|Z1<|Z0<|Z0<|cH h fun c1 h=>Z2<|Z4 _ (Z02 (p:=[b3' y3.1]) rfl (.there (.app (.there (.app .t1)))) rfl)<|Z4 _ (Z02 (p:=[b3' y4.1]) rfl (.there (.app (.there (.app .here)))) rfl)<|Z4 _ (Zpz rfl rfl rfl rfl _ (Zcg Zcf))<|Z6 rfl<|Z9o rfl rfl rfl (fun hg1=>Z2z rfl _ (Z0j rfl) (Z2z rfl _ (Z0j rfl) (Z2z rfl _ (Z0m1 rfl rfl) (Z3f)))) (fun hg1=>rfl) rfl<|Z6 rfl<|Z9o rfl rfl rfl (fun hg1=>Z2z rfl _ (Z0j rfl) (Z2z rfl _ (Z0j rfl) (Z2z rfl _ (Z8 rfl rfl rfl) (Z3f)))) (fun hg1=>rfl) rfl<|Z6 rfl<|Z9o rfl rfl rfl (fun hg1=>Z2z rfl _ (Z2l rfl) (Z2z rfl _ (Z02 (p:=[b3' y5.1.gIssuer]) rfl (.there (.app .here)) rfl) (Z2z rfl _ (Z2l rfl) (Z2z rfl _ (Z02 (p:=[b3' y6.1.gIssuer]) rfl .here rfl) (Z2z rfl _ (Zpz rfl rfl rfl rfl _ (Zcg Zcf)) (Z3f)))))) (fun hg1=>rfl) rfl<|Z6 rfl<|Z9o rfl rfl rfl (fun hg1=>Z2z rfl _ (Z2l rfl) (Z2z rfl _ (Z0c rfl (.there (.app .here)) rfl) (Z2z rfl _ (Z2l rfl) (Z2z rfl _ (Z0c rfl .here rfl) (Z2z rfl _ (Z1a rfl (fun w hw=>Z30 (getD_some (z:=false) (Z01r c1 hg1)) ((Z00 O1 (.there (.app .t1))) w hw) ((Z00 O2 .t1) w hw))) (Z2z rfl _ (Zv4 rfl rfl) (Z3f))))))) (fun hg1=>rfl) rfl<|Z1<|Z09 h rfl (fun h=>?_) (fun h=>?_)))
  ·refine Z0<|Z2<|Z6 rfl<|Z1<|Zj ?_
   revert h; refine Zv fun h=>?_
   subst h
   exact ⟨_,(.cons (.tmp rfl) .nil),rfl⟩
  ·refine Zh<|Z0<|oH h fun y7 f7 h=>Z2<|Z4 _ (Z02 (p:=[.one (.int .i64 (p0.gGates)),.one (.int .i64 (p0.gWallets)),.one (.int .i64 (p0.gRows)),.one (.int .i64 (p0.gFlash)),.one (.int .i64 (p0.gSerials)),b3' p0.gSecret]) rfl (.there (.app (.there (.app .t2)))) rfl)<|Zd (Z05 rfl (fun w hw=>Z8t  f7 (hG.at hw (by simp))) fun v36 o3 R3=>?_)
   obtain ⟨v38,w3,rfl,rfl,O3⟩:=R3
   refine Z6 rfl<|Z4 _ (Z40 rfl rfl)<|Z4 _ (Z40 rfl rfl)<|Zd (Zq fun b6 u6=>Zd (Zcy (q:=[b3' y7.1.gIssuer,.one (v38)]) rfl rfl rfl rfl (Z0z Z3q (Z0z (Zb5 (Zbg.one1 (Z03.isSl O3))) Z5i)) .here<|Z6 rfl<|Z1<|Z0<|Z2<|Z4 _ (Z02 (p:=[.one (.int .i64 (p0.gGates)),.one (.int .i64 (p0.gWallets)),.one (.int .i64 (p0.gRows)),.one (.int .i64 (p0.gFlash)),.one (.int .i64 (p0.gSerials)),b3' p0.gSecret]) rfl (.there (.app (.there (.app (.there (.app .t2)))))) rfl)<|Zd (Zq fun b7 u7=>Zd (Zp (q:=[.one (.int .i64 (p0.gGates)),.one (.int .i64 (p0.gWallets)),.one (.int .i64 (p0.gRows)),.one (.int .i64 (p0.gFlash)),.one (.int .i64 (p0.gSerials)),b3' p0.gSecret]) rfl rfl rfl rfl rfl .here<|Z1<|Z0<|bH h fun z1 e1 h=>bH h fun z2 e2 h=>bH h fun l1 g1 h=>Z2<|Z4 _ (Z2l rfl)<|Z4 _ (Z0i rfl rfl (by decide))<|Z4 _ (iz e1 (Z0c rfl .here rfl))<|Z4 _ (iz e2 (Z8 rfl rfl rfl))<|Z4 _ (Z2l rfl)<|Z4 _ (Z0i rfl rfl (by decide))<|Zd (Z5e (q:=[.one (.int .i64 (p0.gGates)),.one (.int .i64 (p0.gWallets)),.one (.int .i64 (p0.gRows)),.one (.int .i64 (p0.gFlash)),.one (.int .i64 (p0.gSerials)),b3' l1]) (congrArg (fun z=>([.one (.int .i64 (p0.gGates)),.one (.int .i64 (p0.gWallets)),.one (.int .i64 (p0.gRows)),.one (.int .i64 (p0.gFlash)),.one (.int .i64 (p0.gSerials)),b3' z]:List Seg)) g1.symm) rfl rfl rfl rfl .here<|Z1<|Z0<|oH h fun y8 f8 h=>Z2<|Z4 _ (Z02 (p:=[.one (.int .i64 (p0.gGates)),.one (.int .i64 (p0.gWallets)),.one (.int .i64 (p0.gRows)),.one (.int .i64 (p0.gFlash)),.one (.int .i64 (p0.gSerials)),b3' l1]) rfl .here rfl)<|Zd (Z05 rfl (fun w hw=>Z8t (p0:=(⟨p0.gGates,p0.gWallets,p0.gRows,p0.gFlash,p0.gSerials,l1⟩:Zz)) f8 (hG.at hw (by simp))) fun v50 o4 R4=>?_))))))
   obtain ⟨v52,w4,rfl,rfl,O4⟩:=R4
   refine Z6 rfl<|Z4 _ (Z40 rfl rfl)<|Z4 _ (Z40 rfl rfl)<|Zd (Zq fun b8 u8=>Zd (Zcy (q:=[b3' y8.1.gIssuer,.one (v52)]) rfl rfl rfl rfl (Z0z Z3q (Z0z (Zb5 (Zbg.one1 (Z03.isSl O4))) Z5i)) .here<|Z6 rfl<|Z1<|Z0<|oH h fun y9 f9 h=>Z2<|Z4 _ (Z02 (p:=[.one (.int .i64 (p0.gGates)),.one (.int .i64 (p0.gWallets)),.one (.int .i64 (p0.gRows)),.one (.int .i64 (p0.gFlash)),.one (.int .i64 (p0.gSerials)),b3' l1]) rfl (.there (.app .here)) rfl)<|Zd (Z05 rfl (fun w hw=>Z8d (p0:=(⟨p0.gGates,p0.gWallets,p0.gRows,p0.gFlash,p0.gSerials,l1⟩:Zz)) f9 (hG.at hw (by simp))) fun v58 o5 R5=>?_)))
   obtain ⟨v60,w5,rfl,rfl,O5⟩:=R5
   refine Z6 rfl<|Z4 _ (Z40 rfl rfl)<|Z4 _ (Z40 rfl rfl)<|Zd (Zq fun b9 u9=>Zd (Zcy (q:=[b3' y9.1.gIssuer,.one (v60)]) rfl rfl rfl rfl (Z0z Z3q (Z0z (Zb5 (Zbg.one1 (Z03.isSl O5))) Z5i)) .here<|Z6 rfl<|Z1<|Z0<|Z0<|Z2<|Z6 rfl<|Z1<|jH h fun k1 q1 h=>Zg (G:=fun t m=>∃ (l2:List (LI)) (v109:Value) (w6:List Zf),k1 l2=some r/\Z03 Zn v109 w6 l2/\Fit [(2,pt' b1),(9,pt' b4),(11,pt' b5),(13,pt' b6),(16,pt' b8),(18,pt' b9)] (ck b9 42 [b3' y9.1.gIssuer,.one (v60)]::(w5++(ck b8 42 [b3' y8.1.gIssuer,.one (v52)]::(w4++(ck b6 42 [b3' y7.1.gIssuer,.one (v38)]::(w3++(ck b5 42 [b3' y6.1.gIssuer,.one (v26)]::(w2++(ck b4 42 [b3' y5.1.gIssuer,.one (v109)]::(ck b1 34 [.one (.int .i64 (p0.gGates)),.one (.int .i64 (p0.gWallets)),.one (.int .i64 (p0.gRows)),.one (.int .i64 (p0.gFlash)),.one (.int .i64 (p0.gSerials)),b3' p0.gSecret]::(w6 ++ []))))))))))) t m) ?_ ?_))
   ·refine Z9<|Zm (fun n1 t m=>∃ (i1:Int) (l3:List (LI)) (v141:Value) (w7:List Zf),Z0q k1 n1 i1 l3=some r/\Z03 Zn v141 w7 l3/\Fit [(2,pt' b1),(9,pt' b4),(11,pt' b5),(13,pt' b6),(16,pt' b8),(18,pt' b9),(20,.int .i64 (i1))] (ck b9 42 [b3' y9.1.gIssuer,.one (v60)]::(w5++(ck b8 42 [b3' y8.1.gIssuer,.one (v52)]::(w4++(ck b6 42 [b3' y7.1.gIssuer,.one (v38)]::(w3++(ck b5 42 [b3' y6.1.gIssuer,.one (v26)]::(w2++(ck b4 42 [b3' y5.1.gIssuer,.one (v141)]::(ck b1 34 [.one (.int .i64 (p0.gGates)),.one (.int .i64 (p0.gWallets)),.one (.int .i64 (p0.gRows)),.one (.int .i64 (p0.gFlash)),.one (.int .i64 (p0.gSerials)),b3' p0.gSecret]::(w7 ++ []))))))))))) t m) big ?_ ?_
    ·exact ⟨0,y5.1.gGates,v18,w1,h,O1,⟨⟨rfl,rfl,rfl,rfl,rfl,rfl,rfl,trivial⟩,(.o (.all .here (.o (.all .here (.one .t1 (.all .t1 (.one .t1 (.all .t1 (.one .t1 (.one (.there (.app .t2)) (.all .t1 .nil)))))))))))⟩⟩
    ·rintro n1 t m ⟨i1,l3,v141,w7,h,O6,hF⟩
     refine Ze hF ?_
     clear hF
     rcases n1 with _ | n1
     · exact Z07 h
     have h:Z13 k1 (Z0q k1 n1) i1 l3=some r:=h
     unfold Z13 at h
     obtain ⟨k2,q2⟩ : ∃ k,k=Z0q k1 n1:=⟨_,rfl⟩
     try rw [<- q2] at h
     refine Z0<|Z0<|Z2<|Z6 rfl<|Z4 _ (Z2l rfl)<|Z4 _ (Z0c rfl (.there (.app (.there (.app (.there (.app (.there (.app .here)))))))) rfl)<|Z4 _ (Z3l rfl (Shp.own O6))<|Z4 _ (Z8 rfl rfl rfl)<|Z1<|Z09 h rfl (fun h=>?_) (fun h=>?_)
     ·refine Zh<|Z0<|Z9<|bH h fun z3 e3 h=>cH h fun c2 h=>bH h fun x1 j1 h=>bH h fun l4 g2 h=>Z2<|Z4 _ (Z2l rfl)<|Z4 _ (Z0c rfl (.there (.app (.there (.app (.there (.app (.there (.app .here)))))))) rfl)<|Z6 rfl<|Z4 _ (az (fun z=>agg [.ints .u8 32 z]) e3 (Zd2 (.one rfl rfl rfl BdR.nil)))<|Z4 _ (Z5p rfl rfl (Shp.own O6) c2)<|Zd (Znf (E:=Zn) g2 O6 (.there (.app (.there (.app (.there (.app (.there (.app .t2)))))))) rfl rfl rfl (Z01 c2) fun w8 O7=>Z1<|bH h fun z4 e4 h=>Z2<|Z6 rfl<|Z4 _ (iz e4 (Z8 rfl rfl rfl))<|Z6 rfl<|Z1 ?_)
      rw [q2] at h
      exact ⟨n1,Nat.lt_succ_self _,z4,l4,v141,w8,h,O7,⟨⟨rfl,rfl,rfl,rfl,rfl,rfl,rfl,trivial⟩,(.one (.app .here) (.all (.app .here) (.one (.app .here) (.all (.app .here) (.one (.app .here) (.all (.app .here) (.one (.app .here) (.all (.app .here) (.one (.app .here) (.one (.app .here) (.all .here .nil)))))))))))⟩⟩
     ·exact Zs _ rfl<|⟨l3,v141,w7,h,O6,⟨⟨rfl,rfl,rfl,rfl,rfl,rfl,trivial⟩,(.o (.all .here (.o (.all .here (.o (.all .here (.o (.all .here (.o (.o (.all .here .nil)))))))))))⟩⟩
   ·rintro t m ⟨l2,v109,w6,h,O8,hF⟩
    refine Ze hF ?_
    clear hF
    subst q1
    refine Z0<|Z2<|Z4 _ (Z2l rfl)<|Z4 _ (Z0c rfl (.there (.app (.there (.app (.there (.app (.there (.app .here)))))))) rfl)<|Z6 rfl<|Z1<|Z0<|Z0<|Z2<|Z6 rfl<|Z1<|jH h fun k3 q3 h=>Zg (G:=fun t m=>∃ (l5:List (LI)) (v212:Value) (w9:List Zf),k3 l5=some r/\Z03 Zn v212 w9 l5/\Fit [(2,pt' b1),(11,pt' b5),(13,pt' b6),(16,pt' b8),(18,pt' b9),(21,v212)] (ck b9 42 [b3' y9.1.gIssuer,.one (v60)]::(w5++(ck b8 42 [b3' y8.1.gIssuer,.one (v52)]::(w4++(ck b6 42 [b3' y7.1.gIssuer,.one (v38)]::(w3++(ck b5 42 [b3' y6.1.gIssuer,.one (v26)]::(w2++(ck b1 34 [.one (.int .i64 (p0.gGates)),.one (.int .i64 (p0.gWallets)),.one (.int .i64 (p0.gRows)),.one (.int .i64 (p0.gFlash)),.one (.int .i64 (p0.gSerials)),b3' p0.gSecret]::(w9 ++ [])))))))))) t m) ?_ ?_
    ·refine Z9<|Zm (fun n2 t m=>∃ (l6:List (LI)) (i2:Int) (v248:Value) (w10:List Zf),Z0r k3 n2 l6 i2=some r/\Z03 Zn v248 w10 l6/\Fit [(2,pt' b1),(11,pt' b5),(13,pt' b6),(16,pt' b8),(18,pt' b9),(21,v248),(22,.int .i64 (i2))] (ck b9 42 [b3' y9.1.gIssuer,.one (v60)]::(w5++(ck b8 42 [b3' y8.1.gIssuer,.one (v52)]::(w4++(ck b6 42 [b3' y7.1.gIssuer,.one (v38)]::(w3++(ck b5 42 [b3' y6.1.gIssuer,.one (v26)]::(w2++(ck b1 34 [.one (.int .i64 (p0.gGates)),.one (.int .i64 (p0.gWallets)),.one (.int .i64 (p0.gRows)),.one (.int .i64 (p0.gFlash)),.one (.int .i64 (p0.gSerials)),b3' p0.gSecret]::(w10 ++ [])))))))))) t m) big ?_ ?_
     ·exact ⟨l2,0,v109,w6,h,O8,⟨⟨rfl,rfl,rfl,rfl,rfl,rfl,rfl,trivial⟩,(.o (.all .here (.o (.all .here (.o (.all .here (.o (.all .here (.one .t1 (.all .t1 .nil))))))))))⟩⟩
     ·rintro n2 t m ⟨l6,i2,v248,w10,h,O9,hF⟩
      refine Ze hF ?_
      clear hF
      rcases n2 with _ | n2
      · exact Z07 h
      have h:Z14 k3 (Z0r k3 n2) l6 i2=some r:=h
      unfold Z14 at h
      obtain ⟨k4,q4⟩ : ∃ k,k=Z0r k3 n2:=⟨_,rfl⟩
      try rw [<- q4] at h
      refine Z0<|Z0<|Z2<|Z6 rfl<|Z4 _ (Z8 rfl rfl rfl)<|Z1<|Z09 h rfl (fun h=>?_) (fun h=>?_)
      ·refine Zh<|Z0<|Z9<|bH h fun z5 e5 h=>cH h fun c3 h=>bH h fun l7 g3 h=>Z2<|Z6 rfl<|Z4 _ (az (fun z=>agg [.ints .u8 32 z]) e5 (Zd2 (.one rfl rfl rfl BdR.nil)))<|Zd (Z3i (E:=Zn) (xs:=[z5]) (.agg rfl rfl rfl BdR.nil) (.cons (p:=[b3' z5]) rfl .nil) rfl fun v259 w11 O10=>Zd (Z1m (E:=Zn) g3 rfl O9 (.app (.there (.app (.there (.app (.there (.app (.there (.app .t1))))))))) rfl (Z00 O10 .here) c3 fun v264 w12 O11=>Z6 rfl<|Z1<|bH h fun z6 e6 h=>Z2<|Z6 rfl<|Z4 _ (iz e6 (Z8 rfl rfl rfl))<|Z6 rfl<|Z1 ?_))
       rw [q4] at h
       exact ⟨n2,Nat.lt_succ_self _,l7,z6,v264,w12,h,O11,⟨⟨rfl,rfl,rfl,rfl,rfl,rfl,rfl,trivial⟩,(.one (.app (.app .here)) (.all (.app (.app .here)) (.one (.app (.app .here)) (.all (.app (.app .here)) (.one (.app (.app .here)) (.all (.app (.app .here)) (.one (.app (.app .here)) (.all (.app (.app .here)) (.one (.app (.app .here)) (.all .here .nil))))))))))⟩⟩
      ·exact Zs _ rfl<|⟨l6,v248,w10,h,O9,⟨⟨rfl,rfl,rfl,rfl,rfl,rfl,trivial⟩,(.o (.all .here (.o (.all .here (.o (.all .here (.o (.all .here (.o (.all .here .nil))))))))))⟩⟩
    ·rintro t m ⟨l5,v212,w9,h,O12,hF⟩
     refine Ze hF ?_
     clear hF
     subst q3
     refine Z0<|oH h fun y10 f10 h=>Z2<|Z4 _ (Z02 (p:=[.one (.int .i64 (p0.gGates)),.one (.int .i64 (p0.gWallets)),.one (.int .i64 (p0.gRows)),.one (.int .i64 (p0.gFlash)),.one (.int .i64 (p0.gSerials)),b3' p0.gSecret]) rfl (.there (.app (.there (.app (.there (.app (.there (.app .here)))))))) rfl)<|Zd (Z05 rfl (fun w hw=>Z8t  f10 (hG.at hw (by simp))) fun v271 o6 R6=>?_)
     obtain ⟨v273,w13,rfl,rfl,O13⟩:=R6
     refine Z6 rfl<|Z4 _ (Z40 rfl rfl)<|Z4 _ (Z40 rfl rfl)<|Zd (Zq fun b10 u10=>Zd (Zcy (q:=[b3' y10.1.gIssuer,.one (v273)]) rfl rfl rfl rfl (Z0z Z3q (Z0z (Zb5 (Zbg.one1 (Z03.isSl O13))) Z5i)) .here<|Z6 rfl<|Z1<|Z0<|jH h fun k5 q5 h=>Zg (G:=fun t m=>∃ (i3:Bool),k5 i3=some r/\Fit [(4,.bool (i3))] [] t m) ?_ ?_))
     ·refine Z2<|bH h fun z7 e7 h=>cH h fun c4 h=>cH h fun c5 h=>cH h fun c6 h=>Z6 rfl<|Z4 _ (Z3l rfl (Shp.own O12))<|Z4 _ (Z2l rfl)<|Z4 _ (Z0c rfl (.there (.app (.there (.app (.there (.app (.there (.app .here)))))))) rfl)<|Z4 _ (Z3l rfl (Shp.own O2))<|Z4 _ (iz e7 (Z8 rfl rfl rfl))<|Z4 _ (Z8 rfl rfl rfl)<|Z6 rfl<|Zi2 rfl rfl rfl (fun hg1=>Z2z rfl _ (Z2l rfl) (Z2z rfl _ (Z0c rfl (.there (.app (.there (.app (.there (.app .here)))))) rfl) (Z2z rfl _ (Z2l rfl) (Z2z rfl _ (Z0c rfl (.there (.app (.there (.app (.there (.app (.there (.app .here)))))))) rfl) (Z2z rfl _ (Z1a rfl (fun w hw=>Z30 (getD_some (z:=false) (Zu6 c4 hg1)) ((Z00 O3 (.there (.app (.there (.app (.there (.app .t1))))))) w hw) ((Z00 O2 (.there (.app (.there (.app (.there (.app (.there (.app .t1))))))))) w hw))) (Z3f)))))) (fun hg1=>rfl) rfl<|Z6 rfl<|Zi2 rfl rfl rfl (fun hg1=>Z2z rfl _ (Z2l rfl) (Z2z rfl _ (Z0c rfl (.there (.app (.there (.app .here)))) rfl) (Z2z rfl _ (Z2l rfl) (Z2z rfl _ (Z0c rfl (.there (.app .here)) rfl) (Z2z rfl _ (Z1a rfl (fun w hw=>Z30 (getD_some (z:=false) (Zu6 c5 hg1)) ((Z00 O4 (.there (.app (.there (.app .t1))))) w hw) ((Z00 O5 (.there (.app .t1))) w hw))) (Z3f)))))) (fun hg1=>rfl) rfl<|Z6 rfl<|Zi2 rfl rfl rfl (fun hg1=>Z2z rfl _ (Z2l rfl) (Z2z rfl _ (Z0c rfl .here rfl) (Z2z rfl _ (Z2l rfl) (Z2z rfl _ (Z0c rfl (.there (.app (.there (.app (.there (.app (.there (.app .here)))))))) rfl) (Z2z rfl _ (Z1a rfl (fun w hw=>Z30 (getD_some (z:=false) (Zu6 c6 hg1)) ((Z00 O13 .t1) w hw) ((Z00 O2 (.there (.app (.there (.app (.there (.app (.there (.app .t1))))))))) w hw))) (Z3f)))))) (fun hg1=>rfl) rfl<|Z6 rfl<|Z0g2 (tc:=157) h rfl (fun h=>?_) (fun h=>?_)
      ·refine oH h fun y11 f11 h=>Zoy rfl _ (Z2l rfl)<|Zoy rfl _ (Z0c rfl (.there (.app (.there (.app (.there (.app .here)))))) rfl)<|Zoy rfl _ (Z2l rfl)<|Zoy rfl _ (Z0c rfl (.there (.app (.there (.app .here)))) rfl)<|Z0g3 rfl (Z78 (mS:=w3++w4) rfl (Zy5 (.there (.app (.there (.app (.there (.app .t1)))))) (.there (.app (.there (.app .t1))))) (fun w hw=>Z7x  f11 (Zrj hw (Zy5 (.there (.app (.there (.app (.there (.app .t1)))))) (.there (.app (.there (.app .t1)))))) (Z03.oin O3) (Z03.oin O4)) fun v304 o7 R7=>?_)
       obtain ⟨w14,w15,rfl,rfl,O14,O15⟩:=R7
       refine Z4 _ (Zzs rfl rfl)<|Z6 rfl<|Z0g2 (tc:=164) h rfl (fun h=>?_) (fun h=>?_)
       ·refine oH h fun y12 f12 h=>Zoy rfl _ (Z2l rfl)<|Zoy rfl _ (Z0c rfl (.app (.app (.there (.app (.there (.app .here)))))) rfl)<|Zoy rfl _ (Z2l rfl)<|Zoy rfl _ (Z0c rfl (.app (.app .here)) rfl)<|Z0g3 rfl (Z78 (mS:=w15++w13) rfl (Zy5 (.app .here) (.app .t1)) (fun w hw=>Z7x  f12 (Zrj hw (Zy5 (.app .here) (.app .t1))) O15 (Z03.oin O13)) fun v311 o8 R8=>?_)
        obtain ⟨w16,w17,rfl,rfl,O16,O17⟩:=R8
        exact Z4 _ (Zzs rfl rfl)<|Z6 rfl<|Z1<|⟨y12,h,⟨⟨rfl,trivial⟩,.nil⟩⟩
       ·exact Zfw rfl rfl<|Zfw rfl rfl<|Zfw rfl rfl<|Zfw rfl rfl<|Zfw rfl rfl<|Z4 _ (Zuu rfl rfl)<|Z6 rfl<|Z1<|⟨false,h,⟨⟨rfl,trivial⟩,.nil⟩⟩
      ·exact Zfw rfl rfl<|Zfw rfl rfl<|Zfw rfl rfl<|Zfw rfl rfl<|Zfw rfl rfl<|Z4 _ (Zuu rfl rfl)<|Z6 rfl<|Zfw rfl rfl<|Zfw rfl rfl<|Zfw rfl rfl<|Zfw rfl rfl<|Zfw rfl rfl<|Z4 _ (Zuu rfl rfl)<|Z6 rfl<|Z1<|⟨false,h,⟨⟨rfl,trivial⟩,.nil⟩⟩
     ·rintro t m ⟨i3,h,hF⟩
      refine Ze hF ?_
      clear hF
      subst q5
      refine Zj ?_
      revert h; refine Zv fun h=>?_
      subst h
      exact ⟨_,(.cons (.tmp rfl) .nil),rfl⟩
end Go.Proofs.YtiflckckekjbnaaGreatDoor

namespace Go.Proofs.YtiflckckekjbnaaGreatDoor
open Go Go.Sx Go.RowKit
set_option linter.all false
theorem Zhn (x:Int):IntKind.u64.wrap x=x%18446744073709551616:=by simp [IntKind.wrap,IntKind.bits,IntKind.signed]
theorem Z2c (x:Int):IntKind.u8.wrap x=x%256:=by simp [IntKind.wrap,IntKind.bits,IntKind.signed]
theorem Zb {x:Int} (h0:0<=x) (h1:x<18446744073709551616):IntKind.u64.wrap x=x:=by rw [Zhn]; omega
theorem Zl {x:Int} (h0 : -9223372036854775808<=x) (h1:x<=9223372036854775807):IntKind.i64.wrap x=x:=by rw [IntKind.wrap_i64]; omega
theorem bv64 (m:Nat) (h:m<18446744073709551616):(BitVec.ofInt 64 (m:Int)).toNat=m:=by
 rw [BitVec.toNat_ofInt]; simp; omega
theorem bv8 (m:Nat) (h:m<256):(BitVec.ofInt 8 (m:Int)).toNat=m:=by
 rw [BitVec.toNat_ofInt]; simp; omega
theorem Z0gm {x y:Int} (m n:Nat) (hx:x=m) (hy:y=n) (h1:m<18446744073709551616) (h2:n<18446744073709551616):Za .and .u64 x y=((m &&& n:Nat):Int):=by
 subst hx; subst hy
 show IntKind.u64.wrap (((BitVec.ofInt 64 (m:Int) &&& BitVec.ofInt 64 (n:Int)).toNat:Nat):Int)=_
 rw [BitVec.toNat_and,bv64 m h1,bv64 n h2,Zb (by omega)]
 have:m &&& n<=m:=Nat.and_le_left
 omega
theorem or64 {x y:Int} (m n:Nat) (hx:x=m) (hy:y=n) (h1:m<18446744073709551616) (h2:n<18446744073709551616):Za .or .u64 x y=((m ||| n:Nat):Int):=by
 subst hx; subst hy
 show IntKind.u64.wrap (((BitVec.ofInt 64 (m:Int) ||| BitVec.ofInt 64 (n:Int)).toNat:Nat):Int)=_
 rw [BitVec.toNat_or,bv64 m h1,bv64 n h2,Zb (by omega)]
 have:m ||| n<2^64:=Nat.or_lt_two_pow (by simpa using h1) (by simpa using h2)
 simp at this; omega
theorem Ziw (k:Nat) {x y:Int} (hy:y=((2^k-1:Nat):Int)) (hk:2^k<=18446744073709551616) (h0:0<=x) (h1:x<18446744073709551616):Za .and .u64 x y=x%((2^k:Nat):Int):=by
 have hp:0<2^k:=Nat.pow_pos (by decide)
 rw [Z0gm x.toNat (2^k-1) (by omega) hy (by omega) (by omega),Nat.and_two_pow_sub_one_eq_mod]
 rw [Int.natCast_emod]
 congr 1; omega
theorem Zm3 {x:Int} (h0:0<=x) (h1:x<18446744073709551616):Za .and .u64 x 2251799813685247=x%2251799813685248:=Ziw 51 (by decide) (by decide) h0 h1
theorem Z00e {x:Int} (h0:0<=x) (h1:x<18446744073709551616):Za .and .u64 x 4294967295=x%4294967296:=Ziw 32 (by decide) (by decide) h0 h1
theorem Zr3 (k:Nat) {x y a:Int} (hx:x=a*((2^k:Nat):Int)) (ha:0<=a) (h0:0<=y) (hy:y<((2^k:Nat):Int)) (h1:x+y<18446744073709551616):Za .or .u64 x y=x+y:=by
 have hp:(0:Int)<=((2^k:Nat):Int):=Int.natCast_nonneg _
 have hx0:0<=x:=by rw [hx]; exact Int.mul_nonneg ha hp
 rw [or64 x.toNat y.toNat (by omega) (by omega) (by omega) (by omega)]
 have e:x.toNat=a.toNat <<< k:=by
  rw [Nat.shiftLeft_eq]
  have:(x.toNat:Int)=((a.toNat*2^k:Nat):Int):=by
   rw [Int.natCast_mul,Int.toNat_of_nonneg hx0,Int.toNat_of_nonneg ha,hx]
  exact Int.ofNat_inj.1 this
 rw [e,<- Nat.shiftLeft_add_eq_or_of_lt (by omega:y.toNat<2^k),<- e]
 omega
theorem Z9r (k:IntKind) {x:Int} {n:Nat} (h:n<=k.bits):Z0f k x (n:Int)=x / ((2^n:Nat):Int):=by
 simp only [Z0f,Int.toNat_natCast,Nat.min_eq_left h]
 rw [Int.fdiv_eq_ediv_of_nonneg]
 ·simp
 ·exact Int.le_of_lt (Int.pow_pos (by decide))
theorem Zsv (x:Int):Z0f .u64 x 51=x / 2251799813685248:=by have:=Z9r .u64 (x:=x) (n:=51) (by decide); simpa using this
theorem Z0nx (x:Int):Z0f .u64 x 32=x / 4294967296:=by have:=Z9r .u64 (x:=x) (n:=32) (by decide); simpa using this
theorem Zfg (k:IntKind) {x:Int} {n:Nat} (h:n<=k.bits):Z1v k x (n:Int)=k.wrap (x*((2^n:Nat):Int)):=by
 simp only [Z1v,Int.toNat_natCast,Nat.min_eq_left h]
 simp
theorem Z0fv (x:Int):Z1v .u64 x 13=(x*8192)%18446744073709551616:=by have:=Zfg .u64 (x:=x) (n:=13) (by decide); rw [Zhn] at this; simpa using this
section
variable {α β:Type}
theorem Zk (x:α) (f:α->Option β):bnd x f=f x:=by
 have h : ∀ y,y=bnd x f->y=f x:=fun y e=>e
 exact h _ rfl
theorem Zu {c:Bool} {o:Option β} (h:c=true):chk c o=o:=by subst h; rfl
theorem Z3 {o:Option α} {f:α->Option β} {y:α} (h:o=some y):opt o f=f y:=by subst h; rfl
theorem Z1n {c:Bool} {a b:Option β} (h:c=true):br c a b=a:=by subst h; rfl
theorem Z0u {c:Bool} {a b:Option β} (h:c=false):br c a b=b:=by subst h; rfl
theorem Z19 {K:Type} (k:K) (g:K->Option β):jn k g=g k:=by
 have h : ∀ y,y=jn k g->y=g k:=fun y e=>e
 exact h _ rfl
end
theorem Z0v {z:Int} {n:Nat} (h0:0<=z) (h1:z<n):inB z n=true:=by simp [inB,h0,h1]
abbrev PP:Int:=57896044618658097711785492504343953926634992332820282019728792003956564819949
abbrev M51:Int:=2251799813685248
def Z7b (x:LI):Int:=x.getD 0 0+x.getD 1 0*2251799813685248+x.getD 2 0*5070602400912917605986812821504+x.getD 3 0*11417981541647679048466287755595961091061972992+x.getD 4 0*25711008708143844408671393477458601640355247900524685364822016
structure U5 (x:LI):Prop where
 a0:0<=x.getD 0 0
 a1:0<=x.getD 1 0
 a2:0<=x.getD 2 0
 a3:0<=x.getD 3 0
 a4:0<=x.getD 4 0
 b0:x.getD 0 0<18446744073709551616
 b1:x.getD 1 0<18446744073709551616
 b2:x.getD 2 0<18446744073709551616
 b3:x.getD 3 0<18446744073709551616
 b4:x.getD 4 0<18446744073709551616
def Zj5 (n:Int):LI:=[n%M51,n / M51%M51,n / (M51*M51)%M51,n / (M51*M51*M51)%M51,n / (M51*M51*M51*M51)%M51]
theorem Zpg {n d0 d1 d2 d3 d4:Int} (h:n=d0+d1*2251799813685248+d2*5070602400912917605986812821504+d3*11417981541647679048466287755595961091061972992+d4*25711008708143844408671393477458601640355247900524685364822016)
  (h0:0<=d0/\d0<2251799813685248) (h1:0<=d1/\d1<2251799813685248) (h2:0<=d2/\d2<2251799813685248) (h3:0<=d3/\d3<2251799813685248) (h4:0<=d4/\d4<2251799813685248) : [d0,d1,d2,d3,d4]=Zj5 n:=by
 unfold Zj5
 simp only [M51,List.cons.injEq,and_true]
 refine ⟨?_,?_,?_,?_,?_⟩ <;> omega
theorem Zj7 {n:Int} (h0:0<=n) (h1:n<PP):Z7b (Zj5 n)=n:=by
 simp only [Z7b,Zj5,M51,PP,List.getD_cons_zero,List.getD_cons_succ] at *
 omega
theorem Zpf (n:Int):U5 (Zj5 n):=by
 constructor <;> simp only [Zj5,M51,List.getD_cons_zero,List.getD_cons_succ] <;> omega
end Go.Proofs.YtiflckckekjbnaaGreatDoor
namespace Go.Proofs.YtiflckckekjbnaaGreatDoor
open Go Go.Sx Go.RowKit
open Go.IntKind (wrap)
set_option linter.all false
set_option maxRecDepth 100000
def Za3 (x:LI):LI :=
  [x.getD 0 0%2251799813685248+x.getD 4 0 / 2251799813685248*19,x.getD 1 0%2251799813685248+x.getD 0 0 / 2251799813685248,x.getD 2 0%2251799813685248+x.getD 1 0 / 2251799813685248,
   x.getD 3 0%2251799813685248+x.getD 2 0 / 2251799813685248,x.getD 4 0%2251799813685248+x.getD 3 0 / 2251799813685248]
theorem Zek {x:LI} (h:U5 x):Z4k x=some (Za3 x):=by
  have ⟨a0,a1,a2,a3,a4,b0,b1,b2,b3,b4⟩:=h
  simp only [Z4k,Zk,Zsv,Zhn,Zm3 a0 b0,Zm3 a1 b1,Zm3 a2 b2,Zm3 a3 b3,Zm3 a4 b4,Za3]
  simp only [Option.some.injEq,List.cons.injEq,and_true]
  refine ⟨?_,?_,?_,?_,?_⟩ <;> omega
structure C5 (x:LI) (e:Int):Prop where
  a0:0<=x.getD 0 0
  a1:0<=x.getD 1 0
  a2:0<=x.getD 2 0
  a3:0<=x.getD 3 0
  a4:0<=x.getD 4 0
  b0:x.getD 0 0<2251799813685248+e
  b1:x.getD 1 0<2251799813685248+e
  b2:x.getD 2 0<2251799813685248+e
  b3:x.getD 3 0<2251799813685248+e
  b4:x.getD 4 0<2251799813685248+e
theorem C5.u {x:LI} {e:Int} (h:C5 x e) (he:e<=1125899906842624):U5 x:=by
  have ⟨a0,a1,a2,a3,a4,b0,b1,b2,b3,b4⟩:=h
  constructor <;> omega
theorem Ztm {x:LI} (h:U5 x):C5 (Za3 x) 262144:=by
  have ⟨a0,a1,a2,a3,a4,b0,b1,b2,b3,b4⟩:=h
  constructor <;> simp only [Za3,List.getD_cons_zero,List.getD_cons_succ] <;> omega
theorem Z04l {x:LI} (h:C5 x 262144):C5 (Za3 x) 20:=by
  have ⟨a0,a1,a2,a3,a4,b0,b1,b2,b3,b4⟩:=h
  constructor <;> simp only [Za3,List.getD_cons_zero,List.getD_cons_succ] <;> omega
theorem Z01a {x:LI} : ∃ q,Z7b x=Z7b (Za3 x)+q*PP:=by
  refine ⟨x.getD 4 0 / 2251799813685248,?_⟩
  simp only [Z7b,Za3,PP,List.getD_cons_zero,List.getD_cons_succ]
  omega
theorem Zgx {x:LI}:Z7b (Za3 x)%PP=Z7b x%PP:=by
  obtain ⟨q,hq⟩:=Z01a (x:=x)
  rw [hq,Int.add_mul_emod_self_right]
def Zkr (x:LI):LI:=Zj5 (Z7b x%PP)
abbrev shw (x:Int):Int:=Z0f .u64 x 51
abbrev wuu (x:Int):Int:=wrap .u64 x
abbrev low (x:Int):Int:=Za .and .u64 x 2251799813685247
def rQ (y1 y2 y3 y4 q:Int):Int:=shw (wuu (y4+shw (wuu (y3+shw (wuu (y2+shw (wuu (y1+q))))))))
def rr0 (y0 Q:Int):Int:=wuu (y0+wuu (19*Q))
theorem Z036 (y0 y1 y2 y3 y4 q:Int):Z4y [y0,y1,y2,y3,y4] (fun i46=>Z4z (fun a149=>some (Z28 a149 4 (Za .and .u64 (a149.getD 4 0) 2251799813685247))) big 0 (Z28 [y0,y1,y2,y3,y4] 0 (wrap .u64 (y0+wrap .u64 (19*i46))))) big q 0 =
    some [low (rr0 y0 (rQ y1 y2 y3 y4 q)),low (wuu (y1+shw (rr0 y0 (rQ y1 y2 y3 y4 q)))),low (wuu (y2+shw (wuu (y1+shw (rr0 y0 (rQ y1 y2 y3 y4 q)))))),
      low (wuu (y3+shw (wuu (y2+shw (wuu (y1+shw (rr0 y0 (rQ y1 y2 y3 y4 q)))))))),low (wuu (y4+shw (wuu (y3+shw (wuu (y2+shw (wuu (y1+shw (rr0 y0 (rQ y1 y2 y3 y4 q)))))))))) ]:=by kernel_rfl
theorem Zr9 {y q:Int} (hy:0<=y/\y<2251799813685268) (hq:0<=q/\q<=1) : ∃ q' s,shw (wuu (y+q))=q'/\y+q=2251799813685248*q'+s/\(0<=s/\s<2251799813685248)/\(0<=q'/\q'<=1):=by
  refine ⟨(y+q) / 2251799813685248,(y+q)%2251799813685248,?_,by omega,by omega,by omega⟩
  rw [shw,Zsv,wuu,Zb (by omega) (by omega)]
theorem Zod {y r:Int} (hy:0<=y/\y<2251799813685268) (hr:0<=r/\r<4503599627370496) : ∃ c d r',shw r=c/\low r=d/\r=2251799813685248*c+d/\(0<=d/\d<2251799813685248)/\wuu (y+c)=r'/\r'=y+c/\(0<=r'/\r'<4503599627370496):=by
  refine ⟨r / 2251799813685248,r%2251799813685248,y+r / 2251799813685248,Zsv _,Zm3 hr.1 (by omega),by omega,by omega,Zb (by omega) (by omega),rfl,by omega⟩
theorem Zyi {y0 y1 y2 y3 y4 q0 q1 q2 q3 q4 s0 s1 s2 s3 s4 c0 c1 c2 c3 c4 d0 d1 d2 d3 d4:Int}
    (h0:y0+19=2251799813685248*q0+s0) (h1:y1+q0=2251799813685248*q1+s1) (h2:y2+q1=2251799813685248*q2+s2) (h3:y3+q2=2251799813685248*q3+s3) (h4:y4+q3=2251799813685248*q4+s4)
    (k0:y0+19*q4=2251799813685248*c0+d0) (k1:y1+c0=2251799813685248*c1+d1) (k2:y2+c1=2251799813685248*c2+d2) (k3:y3+c2=2251799813685248*c3+d3) (k4:y4+c3=2251799813685248*c4+d4)
    (t0:0<=s0/\s0<2251799813685248) (t1:0<=s1/\s1<2251799813685248) (t2:0<=s2/\s2<2251799813685248) (t3:0<=s3/\s3<2251799813685248) (t4:0<=s4/\s4<2251799813685248)
    (u0:0<=d0/\d0<2251799813685248) (u1:0<=d1/\d1<2251799813685248) (u2:0<=d2/\d2<2251799813685248) (u3:0<=d3/\d3<2251799813685248) (u4:0<=d4/\d4<2251799813685248) (hq:0<=q4/\q4<=1) (hy:0<=(y0+y1*2251799813685248+y2*5070602400912917605986812821504+y3*11417981541647679048466287755595961091061972992+y4*25711008708143844408671393477458601640355247900524685364822016)/\(y0+y1*2251799813685248+y2*5070602400912917605986812821504+y3*11417981541647679048466287755595961091061972992+y4*25711008708143844408671393477458601640355247900524685364822016)<115792089237316195423570985008687907853269984665640564039457584007913129639836) :
    (y0+y1*2251799813685248+y2*5070602400912917605986812821504+y3*11417981541647679048466287755595961091061972992+y4*25711008708143844408671393477458601640355247900524685364822016)-q4*PP=(d0+d1*2251799813685248+d2*5070602400912917605986812821504+d3*11417981541647679048466287755595961091061972992+d4*25711008708143844408671393477458601640355247900524685364822016)/\0<=(d0+d1*2251799813685248+d2*5070602400912917605986812821504+d3*11417981541647679048466287755595961091061972992+d4*25711008708143844408671393477458601640355247900524685364822016)/\(d0+d1*2251799813685248+d2*5070602400912917605986812821504+d3*11417981541647679048466287755595961091061972992+d4*25711008708143844408671393477458601640355247900524685364822016)<PP:=by
  have e1:(y0+y1*2251799813685248+y2*5070602400912917605986812821504+y3*11417981541647679048466287755595961091061972992+y4*25711008708143844408671393477458601640355247900524685364822016)+19=q4*57896044618658097711785492504343953926634992332820282019728792003956564819968+(s0+s1*2251799813685248+s2*5070602400912917605986812821504+s3*11417981541647679048466287755595961091061972992+s4*25711008708143844408671393477458601640355247900524685364822016):=by omega
  have e2:(y0+y1*2251799813685248+y2*5070602400912917605986812821504+y3*11417981541647679048466287755595961091061972992+y4*25711008708143844408671393477458601640355247900524685364822016)+19*q4=c4*57896044618658097711785492504343953926634992332820282019728792003956564819968+(d0+d1*2251799813685248+d2*5070602400912917605986812821504+d3*11417981541647679048466287755595961091061972992+d4*25711008708143844408671393477458601640355247900524685364822016):=by omega
  have b1:0<=(s0+s1*2251799813685248+s2*5070602400912917605986812821504+s3*11417981541647679048466287755595961091061972992+s4*25711008708143844408671393477458601640355247900524685364822016)/\(s0+s1*2251799813685248+s2*5070602400912917605986812821504+s3*11417981541647679048466287755595961091061972992+s4*25711008708143844408671393477458601640355247900524685364822016)<57896044618658097711785492504343953926634992332820282019728792003956564819968:=by omega
  have b2:0<=(d0+d1*2251799813685248+d2*5070602400912917605986812821504+d3*11417981541647679048466287755595961091061972992+d4*25711008708143844408671393477458601640355247900524685364822016)/\(d0+d1*2251799813685248+d2*5070602400912917605986812821504+d3*11417981541647679048466287755595961091061972992+d4*25711008708143844408671393477458601640355247900524685364822016)<57896044618658097711785492504343953926634992332820282019728792003956564819968:=by omega
  generalize (y0+y1*2251799813685248+y2*5070602400912917605986812821504+y3*11417981541647679048466287755595961091061972992+y4*25711008708143844408671393477458601640355247900524685364822016)=V at *
  generalize (d0+d1*2251799813685248+d2*5070602400912917605986812821504+d3*11417981541647679048466287755595961091061972992+d4*25711008708143844408671393477458601640355247900524685364822016)=D at *
  generalize (s0+s1*2251799813685248+s2*5070602400912917605986812821504+s3*11417981541647679048466287755595961091061972992+s4*25711008708143844408671393477458601640355247900524685364822016)=S at *
  clear h0 h1 h2 h3 h4 k0 k1 k2 k3 k4 t0 t1 t2 t3 t4 u0 u1 u2 u3 u4
  simp only [PP]
  have hc:q4=0∨q4=1:=by omega
  rcases hc with rfl | rfl
  · obtain rfl:c4=0:=by omega
    omega
  · obtain rfl:c4=1:=by omega
    omega
theorem Z9i {x:LI} (h:U5 x):Z2i x=some (Zkr x):=by
  have h1:=Ztm h
  have h2:=Z04l h1
  have hm:Z7b (Za3 (Za3 x))%PP=Z7b x%PP:=by rw [Zgx,Zgx]
  rw [Z2i,Z3 (Zek h),Z3 (Zek (h1.u (by decide)))]
  unfold Zkr
  rw [<- hm]
  have hl:Za3 (Za3 x) = [(Za3 (Za3 x)).getD 0 0,(Za3 (Za3 x)).getD 1 0,(Za3 (Za3 x)).getD 2 0,(Za3 (Za3 x)).getD 3 0,(Za3 (Za3 x)).getD 4 0]:=rfl
  generalize Za3 (Za3 x)=y at *
  have ⟨a0,a1,a2,a3,a4,b0,b1,b2,b3,b4⟩:=h2
  simp only [Zk,Z19,Z7b]
  generalize y.getD 0 0=y0 at *
  generalize y.getD 1 0=y1 at *
  generalize y.getD 2 0=y2 at *
  generalize y.getD 3 0=y3 at *
  generalize y.getD 4 0=y4 at *
  rw [hl,Z036]
  congr 1
  clear hl h1 h2 hm h
  have e0:Z0f .u64 (wrap .u64 (y0+19)) 51=(y0+19) / 2251799813685248:=by rw [Zsv,Zb (by omega) (by omega)]
  obtain ⟨q0,s0,hq0,hs0,hs0',hq0'⟩ : ∃ q s,(y0+19) / 2251799813685248=q/\y0+19=2251799813685248*q+s/\(0<=s/\s<2251799813685248)/\(0<=q/\q<=1):=⟨_,(y0+19)%2251799813685248,rfl,by omega,by omega,by omega⟩
  rw [e0,hq0]
  obtain ⟨q1,s1,e1,hs1,hs1',hq1'⟩:=Zr9 (y:=y1) (q:=q0) (by omega) hq0'
  obtain ⟨q2,s2,e2,hs2,hs2',hq2'⟩:=Zr9 (y:=y2) (q:=q1) (by omega) hq1'
  obtain ⟨q3,s3,e3,hs3,hs3',hq3'⟩:=Zr9 (y:=y3) (q:=q2) (by omega) hq2'
  obtain ⟨q4,s4,e4,hs4,hs4',hq4'⟩:=Zr9 (y:=y4) (q:=q3) (by omega) hq3'
  have f0:rr0 y0 q4=y0+19*q4:=by rw [rr0,wuu,wuu,Zb (x:=19*q4) (by omega) (by omega),Zb (by omega) (by omega)]
  have hy:0<=(y0+y1*2251799813685248+y2*5070602400912917605986812821504+y3*11417981541647679048466287755595961091061972992+y4*25711008708143844408671393477458601640355247900524685364822016)/\(y0+y1*2251799813685248+y2*5070602400912917605986812821504+y3*11417981541647679048466287755595961091061972992+y4*25711008708143844408671393477458601640355247900524685364822016)<115792089237316195423570985008687907853269984665640564039457584007913129639836:=by omega
  unfold rQ
  rw [e1,e2,e3,e4,f0]
  obtain ⟨c0,d0,r1,g0,l0,k0,u0,w1,v1,z1⟩:=Zod (y:=y1) (r:=y0+19*q4) (by omega) (by omega)
  rw [g0,l0,w1]
  obtain ⟨c1,d1,r2,g1,l1,k1,u1,w2,v2,z2⟩:=Zod (y:=y2) (r:=r1) (by omega) z1
  rw [g1,l1,w2]
  obtain ⟨c2,d2,r3,g2,l2,k2,u2,w3,v3,z3⟩:=Zod (y:=y3) (r:=r2) (by omega) z2
  rw [g2,l2,w3]
  obtain ⟨c3,d3,r4,g3,l3,k3,u3,w4,v4,z4⟩:=Zod (y:=y4) (r:=r3) (by omega) z3
  rw [g3,l3,w4]
  obtain ⟨c4,d4,r5,g4,l4,k4,u4,w5,v5,z5⟩:=Zod (y:=y4) (r:=r4) (by omega) z4
  rw [l4]
  subst v1 v2 v3 v4
  obtain ⟨hv,hlo⟩:=Zyi hs0 hs1 hs2 hs3 hs4 k0 k1 k2 k3 k4 hs0' hs1' hs2' hs3' hs4' u0 u1 u2 u3 u4 hq4' hy
  refine Zpg ?_ u0 u1 u2 u3 u4
  rw [<- hv] at hlo ⊢
  rw [<- Int.emod_eq_of_lt hlo.1 hlo.2,Int.sub_mul_emod_self_right]
end Go.Proofs.YtiflckckekjbnaaGreatDoor
namespace Go.Proofs.YtiflckckekjbnaaGreatDoor
open Go Go.Sx Go.RowKit
set_option linter.all false
set_option maxRecDepth 100000
theorem Zds {a b:Int} {A B:Int} (ha:0<=a/\a<=A) (hb:0<=b/\b<=B):0<=a*b/\a*b<=A*B :=
 ⟨Int.mul_nonneg ha.1 hb.1,Int.mul_le_mul ha.2 hb.2 hb.1 (Int.le_trans ha.1 ha.2)⟩
theorem Zxq {x y:Int} (hx:0<=x/\x<18446744073709551616) (hy:0<=y/\y<18446744073709551616) :
  Z68 x y=some (x*y / 18446744073709551616,x*y%18446744073709551616):=by
 simp only [Z68,Zk,Z00e hx.1 hx.2,Z00e hy.1 hy.2,Z0nx]
 have ex:x=x / 4294967296*4294967296+x%4294967296:=by omega
 have ey:y=y / 4294967296*4294967296+y%4294967296:=by omega
 have bxl:0<=x%4294967296/\x%4294967296<=4294967295:=by omega
 have byl:0<=y%4294967296/\y%4294967296<=4294967295:=by omega
 have bxh:0<=x / 4294967296/\x / 4294967296<=4294967295:=by omega
 have byh:0<=y / 4294967296/\y / 4294967296<=4294967295:=by omega
 have hxy:x*y=x / 4294967296*(y / 4294967296)*18446744073709551616+(x / 4294967296*(y%4294967296)+x%4294967296*(y / 4294967296))*4294967296+x%4294967296*(y%4294967296):=by
  conv=>lhs; rw [ex,ey]
  generalize x / 4294967296=a
  generalize x%4294967296=b
  generalize y / 4294967296=c
  generalize y%4294967296=d
  grind
 have p00:=Zds bxl byl
 have p10:=Zds bxh byl
 have p01:=Zds bxl byh
 have p11:=Zds bxh byh
 rw [hxy]
 generalize x%4294967296*(y%4294967296)=A at *
 generalize x / 4294967296*(y%4294967296)=B at *
 generalize x%4294967296*(y / 4294967296)=D at *
 generalize x / 4294967296*(y / 4294967296)=F at *
 clear hxy ex ey bxl byl bxh byh
 rw [Zb (x:=A) (by omega) (by omega),Zb (x:=B) (by omega) (by omega),Zb (x:=D) (by omega) (by omega),Zb (x:=F) (by omega) (by omega)]
 rw [Zb (x:=B+A / 4294967296) (by omega) (by omega),Z00e (by omega) (by omega)]
 rw [Zb (x:=(B+A / 4294967296)%4294967296+D) (by omega) (by omega),Zb (x:=F+(B+A / 4294967296) / 4294967296) (by omega) (by omega)]
 rw [Zb (by omega) (by omega),Zhn]
 congr 1
 refine Prod.ext ?_ rfl
 show F+(B+A / 4294967296) / 4294967296+((B+A / 4294967296)%4294967296+D) / 4294967296=_
 omega
def Zhr (s:Int):Int:=s / 18446744073709551616
def Zen (s:Int):Int:=s%18446744073709551616
theorem Zm0 (a b c:Int):Zp4 a b c=(a+b+c)%18446744073709551616:=rfl
theorem Zig (a b c:Int):Zp3 a b c=(a+b+c) / 18446744073709551616:=rfl
theorem Zwg {xs:LI} {o L:Nat} {s a c:Int} (hs:0<=s) (h1:xs.getD o 0=Zhr s) (h2:xs.getD (o+1) 0=Zen s) (hL:o+1<L) (ha:0<=a/\a<18446744073709551616) (hc:0<=c/\c<18446744073709551616)
  (hb:s+a*c<340282366920938463463374607431768211456) :
  Z2o xs o L a c=some (Z28 (Z28 xs (o+1) (Zen (s+a*c))) o (Zhr (s+a*c))):=by
 have hp:=Zds (A:=18446744073709551615) (B:=18446744073709551615) (a:=a) (b:=c) (by omega) (by omega)
 rw [Z2o,Z3 (Zxq ha hc)]
 rw [Zu (by simpa using hL)]
 simp only [Zk,h2]
 have e1:Zen s+a*c%18446744073709551616=Zen s+a*c%18446744073709551616:=rfl
 generalize a*c=p at *
 have hlo:0<=Zen s/\Zen s<18446744073709551616:=by unfold Zen; omega
 have hhi:0<=Zhr s/\Zhr s<18446744073709551616:=by unfold Zhr; omega
 rw [Zu (by simp [Ziv]; omega),Zu (by simpa using hL),Zu (by simp; omega)]
 simp only [Nat.add_zero,Z17]
 rw [if_neg (by omega),h1,Zu (by simp [Ziv,Zig]; omega),Zu (by simp; omega)]
 simp only [Zm0,Zig]
 congr 2
 ·congr 1
  unfold Zen; omega
 ·unfold Zhr Zen; omega
end Go.Proofs.YtiflckckekjbnaaGreatDoor
namespace Go.Proofs.YtiflckckekjbnaaGreatDoor
open Go Go.Sx Go.RowKit
open Go.IntKind (wrap)
set_option linter.all false
set_option maxRecDepth 100000
def Zkf (S:Nat->Int):LI:=[Zhr (S 0),Zen (S 0),Zhr (S 1),Zen (S 1),Zhr (S 2),Zen (S 2),Zhr (S 3),Zen (S 3),Zhr (S 4),Zen (S 4)]
theorem Zsy {S T:Nat->Int} (h : ∀ k,k<5->S k=T k):Zkf S=Zkf T:=by
  simp only [Zkf,h 0 (by decide),h 1 (by decide),h 2 (by decide),h 3 (by decide),h 4 (by decide)]
def updN (S:Nat->Int) (k:Nat) (v:Int):Nat->Int:=fun j=>if j=k then v else S j
theorem Zru {S:Nat->Int} {k:Nat} {a c:Int} (hk:k<5) (hs:0<=S k) (ha:0<=a/\a<18446744073709551616) (hc:0<=c/\c<18446744073709551616) (hb:S k+a*c<340282366920938463463374607431768211456) :
    Z2o (Zkf S) (0+k*2) 10 a c=some (Zkf (updN S k (S k+a*c))):=by
  have h1:(Zkf S).getD (0+k*2) 0=Zhr (S k):=by
    match k,hk with
    | 0,_=>rfl
    | 1,_=>rfl
    | 2,_=>rfl
    | 3,_=>rfl
    | 4,_=>rfl
  have h2:(Zkf S).getD (0+k*2+1) 0=Zen (S k):=by
    match k,hk with
    | 0,_=>rfl
    | 1,_=>rfl
    | 2,_=>rfl
    | 3,_=>rfl
    | 4,_=>rfl
  rw [Zwg hs h1 h2 (by omega) ha hc hb]
  congr 1
  match k,hk with
  | 0,_=>rfl
  | 1,_=>rfl
  | 2,_=>rfl
  | 3,_=>rfl
  | 4,_=>rfl
def Zmf (x:Int) (y:LI) (i j:Nat):Int:=x*(if i+j<5 then y.getD j 0 else 19*y.getD j 0)
theorem Zun {y:LI} {i j:Nat} {kk:LI->Option (LI)} {k':Int->LI->Option (LI)} {x:Int} {S:Nat->Int} {T:Int} (hi:i<5) (hj:j<5) (hx:0<=x/\x<=2251799813947392) (hy : ∀ j,j<5->0<=y.getD j 0/\y.getD j 0<=2251799813947392)
    (hS : ∀ k,k<5->0<=S k/\S k<=T) (hT:T<=100000000000000000000000000000000000) :
    Z65 y (i:Int) x kk k' (j:Int) (Zkf S)=k' ((j+1:Nat):Int) (Zkf (updN S ((i+j)%5) (S ((i+j)%5)+Zmf x y i j))):=by
  have hyj:=hy j hj
  rw [Z65,Z1n (by simp; omega),Z19,Zu (Z0v (by omega) (by omega))]
  simp only [Zk,Int.toNat_natCast]
  have hij:wrap .i64 ((i:Int)+(j:Int))=((i+j:Nat):Int):=by rw [Zl (by omega) (by omega)]; omega
  have hj1:wrap .i64 ((j:Int)+1)=((j+1:Nat):Int):=by rw [Zl (by omega) (by omega)]; omega
  rw [hij,hj1]
  have hSk:=hS ((i+j)%5) (Nat.mod_lt _ (by decide))
  by_cases h:i+j<5
  · have hm:(i+j)%5=i+j:=Nat.mod_eq_of_lt h
    rw [hm] at hSk ⊢
    have hp:=Zds hx hyj
    rw [Z1n (by simp; omega),Zu (Z0v (by omega) (by omega)),Z3 (Zru (S:=S) (k:=((i+j:Nat):Int).toNat) (by omega) (by rw [Int.toNat_natCast]; exact hSk.1) (by omega) (by omega) (by rw [Int.toNat_natCast]; omega))]
    simp only [Int.toNat_natCast,Zmf,if_pos h]
  · have hm:(i+j)%5=i+j-5:=by omega
    rw [hm] at hSk ⊢
    have h5:wrap .i64 (((i+j:Nat):Int)-5)=((i+j-5:Nat):Int):=by rw [Zl (by omega) (by omega)]; omega
    have h19:wrap .u64 (19*y.getD j 0)=19*y.getD j 0:=Zb (by omega) (by omega)
    rw [h5,h19]
    have hp:=Zds (b:=19*y.getD j 0) (B:=42784196465000448) hx (by omega)
    rw [Z0u (by simp; omega),Zu (Z0v (by omega) (by omega)),Z3 (Zru (S:=S) (k:=((i+j-5:Nat):Int).toNat) (by omega) (by rw [Int.toNat_natCast]; exact hSk.1) (by omega) (by omega) (by rw [Int.toNat_natCast]; omega))]
    simp only [Int.toNat_natCast,Zmf,if_neg h]
theorem Zxt {y:LI} {i:Nat} {kk:LI->Option (LI)} {k':Int->LI->Option (LI)} {x:Int} {a:LI} (hi:i<5):Z65 y (i:Int) x kk k' 5 a=kk a:=by
  rw [Z65,Z0u (by decide)]
theorem Zxp {x:Int} {y:LI} {i j:Nat} (hj:j<5) (hx:0<=x/\x<=2251799813947392) (hy : ∀ j,j<5->0<=y.getD j 0/\y.getD j 0<=2251799813947392):0<=Zmf x y i j/\Zmf x y i j<=96341445639776675308685928431616:=by
  have hyj:=hy j hj
  unfold Zmf
  split
  · have:=Zds hx hyj; omega
  · have:=Zds (b:=19*y.getD j 0) (B:=42784196465000448) hx (by omega); omega
theorem Z0g1 {S:Nat->Int} {T v:Int} {k:Nat} (hS : ∀ k,k<5->0<=S k/\S k<=T) (hv:0<=v/\v<=T+96341445639776675308685928431616) : ∀ j,j<5->0<=updN S k v j/\updN S k v j<=T+96341445639776675308685928431616:=by
  intro j hj
  have:=hS j hj
  unfold updN
  split <;> omega
def inn (S:Nat->Int) (x:Int) (y:LI) (i:Nat):Nat->Int:=fun k=>S k+x*(if i<=k then y.getD (k-i) 0 else 19*y.getD (k+5-i) 0)
theorem Zul {y:LI} {i:Nat} {kk:LI->Option (LI)} {x:Int} {S:Nat->Int} {T:Int} (hi:i<5) (hx:0<=x/\x<=2251799813947392) (hy : ∀ j,j<5->0<=y.getD j 0/\y.getD j 0<=2251799813947392)
    (hS : ∀ k,k<5->0<=S k/\S k<=T) (hT:T<=10000000000000000000000000000000000) :
    Z5a y (i:Int) x kk big 0 (Zkf S)=kk (Zkf (inn S x y i)):=by
  obtain ⟨n,hn⟩ : ∃ n,big=n+6:=⟨18446744073709551610,Z38⟩
  rw [hn]
  have step : ∀ (n j:Nat) (S:Nat->Int) (T:Int),j<5->(∀ k,k<5->0<=S k/\S k<=T)->T<=100000000000000000000000000000000000 ->
      Z5a y (i:Int) x kk (n+1) (j:Int) (Zkf S)=Z5a y (i:Int) x kk n ((j+1:Nat):Int) (Zkf (updN S ((i+j)%5) (S ((i+j)%5)+Zmf x y i j))) :=
    fun n j S T hj hS hT=>Zun hi hj hx hy hS hT
  have bd : ∀ (j:Nat) (S:Nat->Int) (T:Int),j<5->(∀ k,k<5->0<=S k/\S k<=T)->∀ k,k<5->0<=updN S ((i+j)%5) (S ((i+j)%5)+Zmf x y i j) k/\updN S ((i+j)%5) (S ((i+j)%5)+Zmf x y i j) k<=T+96341445639776675308685928431616 :=
    fun j S T hj hS=>Z0g1 hS (by have:=Zxp (i:=i) hj hx hy; have:=hS ((i+j)%5) (Nat.mod_lt _ (by decide)); omega)
  have s0:=step (n+5) 0 S T (by decide) hS (by omega)
  have b0:=bd 0 S T (by decide) hS
  have s1:=step (n+4) 1 _ _ (by decide) b0 (by omega)
  have b1:=bd 1 _ _ (by decide) b0
  have s2:=step (n+3) 2 _ _ (by decide) b1 (by omega)
  have b2:=bd 2 _ _ (by decide) b1
  have s3:=step (n+2) 3 _ _ (by decide) b2 (by omega)
  have b3:=bd 3 _ _ (by decide) b2
  have s4:=step (n+1) 4 _ _ (by decide) b3 (by omega)
  refine (s0.trans (s1.trans (s2.trans (s3.trans (s4.trans ((Zxt hi).trans ?_))))))
  congr 1
  apply Zsy
  intro k hk
  clear s0 s1 s2 s3 s4 b0 b1 b2 b3 bd step hS hy hx hn
  match i,hi,k,hk with
  | 0,_,0,_ | 0,_,1,_ | 0,_,2,_ | 0,_,3,_ | 0,_,4,_ | 1,_,0,_ | 1,_,1,_ | 1,_,2,_ | 1,_,3,_ | 1,_,4,_ | 2,_,0,_ | 2,_,1,_ | 2,_,2,_ | 2,_,3,_ | 2,_,4,_
  | 3,_,0,_ | 3,_,1,_ | 3,_,2,_ | 3,_,3,_ | 3,_,4,_ | 4,_,0,_ | 4,_,1,_ | 4,_,2,_ | 4,_,3,_ | 4,_,4,_=>rfl
theorem Zg8 {S:Nat->Int} {x T:Int} {y:LI} {i:Nat} (hi:i<5) (hx:0<=x/\x<=2251799813947392) (hy : ∀ j,j<5->0<=y.getD j 0/\y.getD j 0<=2251799813947392) (hS : ∀ k,k<5->0<=S k/\S k<=T) :
    ∀ k,k<5->0<=inn S x y i k/\inn S x y i k<=T+96341445639776675308685928431616:=by
  intro k hk
  have h1:=hS k hk
  unfold inn
  split
  · have:=Zds hx (hy (k-i) (by omega)); omega
  · have:=Zds (b:=19*y.getD (k+5-i) 0) (B:=42784196465000448) hx (by have:=hy (k+5-i) (by omega); omega); omega
def Zkl (x y:LI):Nat->Int:=inn (inn (inn (inn (inn (fun _=>0) (x.getD 0 0) y 0) (x.getD 1 0) y 1) (x.getD 2 0) y 2) (x.getD 3 0) y 3) (x.getD 4 0) y 4
theorem Z01w {x y:LI} (hx : ∀ j,j<5->0<=x.getD j 0/\x.getD j 0<=2251799813947392) (hy : ∀ j,j<5->0<=y.getD j 0/\y.getD j 0<=2251799813947392) : ∀ k,k<5->0<=Zkl x y k/\Zkl x y k<=481707228198883376543429642158080:=by
  have b0:=Zg8 (S:=fun _=>0) (T:=0) (i:=0) (by decide) (hx 0 (by decide)) hy (fun _ _=>by simp)
  have b1:=Zg8 (i:=1) (by decide) (hx 1 (by decide)) hy b0
  have b2:=Zg8 (i:=2) (by decide) (hx 2 (by decide)) hy b1
  have b3:=Zg8 (i:=3) (by decide) (hx 3 (by decide)) hy b2
  have b4:=Zg8 (i:=4) (by decide) (hx 4 (by decide)) hy b3
  intro k hk
  have:=b4 k hk
  unfold Zkl
  omega
theorem Zbp {x y : LI} (hx : ∀ j, j < 5 -> 0 <= x.getD j 0 /\ x.getD j 0 <= 2251799813947392) (hy : ∀ j, j < 5 -> 0 <= y.getD j 0 /\ y.getD j 0 <= 2251799813947392) (n i : Nat) (S : Nat -> Int) (T : Int) (hi : i < 5) (hS : ∀ k, k < 5 -> 0 <= S k /\ S k <= T) (hT : T <= 10000000000000000000000000000000000) (kk : LI -> Option (LI)) :
      Z3c x y kk (n+1) (i:Int) (Zkf S)=Z3c x y kk n ((i+1:Nat):Int) (Zkf (inn S (x.getD i 0) y i)):=by
  rw [Z3c,Z91,Z1n (by simp; omega),Zu (Z0v (by omega) (by omega))]
  simp only [Zk,Z19,Int.toNat_natCast]
  rw [Zul hi (hx i hi) hy hS hT,Zl (by omega) (by omega)]
  rfl
theorem Zsh {x y:LI} (n:Nat) (a:LI) (kk:LI->Option (LI)):Z3c x y kk (n+1) ((5:Nat):Int) a=kk a:=by
  rw [Z3c,Z91,Z0u (by decide)]
theorem Z0nz:(List.replicate 10 0:LI)=Zkf (fun _=>0):=by decide
theorem Zum {x y:LI} (hx : ∀ j,j<5->0<=x.getD j 0/\x.getD j 0<=2251799813947392) (hy : ∀ j,j<5->0<=y.getD j 0/\y.getD j 0<=2251799813947392) (kk:LI->Option (LI)) :
    Z3c x y kk big 0 (List.replicate 10 0)=kk (Zkf (Zkl x y)):=by
  obtain ⟨n,hn⟩ : ∃ n,big=n+1+1+1+1+1+1:=⟨18446744073709551610,Z38⟩
  have b0:=Zg8 (S:=fun _=>0) (T:=0) (i:=0) (by decide) (hx 0 (by decide)) hy (fun _ _=>by simp)
  have b1:=Zg8 (i:=1) (by decide) (hx 1 (by decide)) hy b0
  have b2:=Zg8 (i:=2) (by decide) (hx 2 (by decide)) hy b1
  have b3:=Zg8 (i:=3) (by decide) (hx 3 (by decide)) hy b2
  have s0:=Zbp (kk:=kk) hx hy (n+1+1+1+1+1) 0 (fun _=>0) 0 (by decide) (fun _ _=>by simp) (by omega)
  have s1:=Zbp (kk:=kk) hx hy (n+1+1+1+1) 1 _ _ (by decide) b0 (by omega)
  have s2:=Zbp (kk:=kk) hx hy (n+1+1+1) 2 _ _ (by decide) b1 (by omega)
  have s3:=Zbp (kk:=kk) hx hy (n+1+1) 3 _ _ (by decide) b2 (by omega)
  have s4:=Zbp (kk:=kk) hx hy (n+1) 4 _ _ (by decide) b3 (by omega)
  have s5:=Zsh (x:=x) (y:=y) n (Zkf (Zkl x y)) kk
  unfold Zkl at s5 ⊢
  rw [<- hn] at s0
  rw [Z0nz]
  exact s0.trans (s1.trans (s2.trans (s3.trans (s4.trans s5))))
theorem Zuj {S:Nat->Int} {kk:Int->LI->Option (LI)} {k':Int->Int->LI->Option (LI)} {i:Nat} {c:Int} {out:LI} (hi:i<5) (hS:0<=S i/\S i<=481707228198883376543429642158080) (hc:0<=c/\c<18446744073709551616) :
    Z7n (Zkf S) kk k' c (i:Int) out=k' ((S i+c) / 2251799813685248) ((i+1:Nat):Int) (Z28 out i ((S i+c)%2251799813685248)):=by
  have ht:tk (Zkf S) (i*2) 2 = [Zhr (S i),Zen (S i)]:=by
    match i,hi with
    | 0,_=>rfl
    | 1,_=>rfl
    | 2,_=>rfl
    | 3,_=>rfl
    | 4,_=>rfl
  rw [Z7n,Z1n (by simp; omega),Zu (Z0v (by omega) (by omega))]
  simp only [Zk,Int.toNat_natCast,ht,List.getD_cons_zero,List.getD_cons_succ]
  generalize S i=s at *
  have hl:0<=Zen s/\Zen s<18446744073709551616:=by unfold Zen; omega
  rw [Zu (by simp [Ziv]; omega),Zu (Z0v (by omega) (by omega))]
  simp only [Zm0,Zig,Int.add_zero]
  rw [Zl (by omega) (by omega),Zsv,Z0fv,Zm3 (by omega) (by omega)]
  have hh:0<=Zhr s/\Zhr s<1000000000000000:=by unfold Zhr; omega
  have hcar:0<=(Zen s+c) / 18446744073709551616/\(Zen s+c) / 18446744073709551616<=1:=by omega
  rw [Zb (x:=Zhr s+(Zen s+c) / 18446744073709551616) (by omega) (by omega)]
  have hm:(Zhr s+(Zen s+c) / 18446744073709551616)*8192%18446744073709551616=(Zhr s+(Zen s+c) / 18446744073709551616)*8192:=by omega
  rw [hm,Zr3 13 (x:=(Zhr s+(Zen s+c) / 18446744073709551616)*8192) (a:=Zhr s+(Zen s+c) / 18446744073709551616) rfl (by omega) (by omega) (by omega) (by omega)]
  have e1:(Zen s+c)%18446744073709551616%2251799813685248=(s+c)%2251799813685248:=by unfold Zen; omega
  have e2:(Zhr s+(Zen s+c) / 18446744073709551616)*8192+(Zen s+c)%18446744073709551616 / 2251799813685248=(s+c) / 2251799813685248:=by unfold Zhr Zen; omega
  rw [e1,e2]
  rfl
theorem alg5 (x0 x1 x2 x3 x4 y0 y1 y2 y3 y4 m:Int):(x0+x1*m+x2*(m*m)+x3*(m*m*m)+x4*(m*m*m*m))*(y0+y1*m+y2*(m*m)+y3*(m*m*m)+y4*(m*m*m*m)) =
    x0*y0+(x0*y1+x1*y0)*m+(x0*y2+x1*y1+x2*y0)*(m*m)+(x0*y3+x1*y2+x2*y1+x3*y0)*(m*m*m)+(x0*y4+x1*y3+x2*y2+x3*y1+x4*y0)*(m*m*m*m)
     + ((x1*y4+x2*y3+x3*y2+x4*y1)+(x2*y4+x3*y3+x4*y2)*m+(x3*y4+x4*y3)*(m*m)+x4*y4*(m*m*m))*(m*m*m*m*m):=by grind
theorem Zxo (x y:LI) : ∃ q,Z7b x*Z7b y=Zkl x y 0+Zkl x y 1*2251799813685248+Zkl x y 2*5070602400912917605986812821504+Zkl x y 3*11417981541647679048466287755595961091061972992+Zkl x y 4*25711008708143844408671393477458601640355247900524685364822016+q*PP:=by
  have h:=alg5 (x.getD 0 0) (x.getD 1 0) (x.getD 2 0) (x.getD 3 0) (x.getD 4 0) (y.getD 0 0) (y.getD 1 0) (y.getD 2 0) (y.getD 3 0) (y.getD 4 0) 2251799813685248
  have e0:Zkl x y 0=x.getD 0 0*y.getD 0 0+19*(x.getD 1 0*y.getD 4 0+x.getD 2 0*y.getD 3 0+x.getD 3 0*y.getD 2 0+x.getD 4 0*y.getD 1 0):=by simp [Zkl,inn] <;> grind
  have e1:Zkl x y 1=x.getD 0 0*y.getD 1 0+x.getD 1 0*y.getD 0 0+19*(x.getD 2 0*y.getD 4 0+x.getD 3 0*y.getD 3 0+x.getD 4 0*y.getD 2 0):=by simp [Zkl,inn] <;> grind
  have e2:Zkl x y 2=x.getD 0 0*y.getD 2 0+x.getD 1 0*y.getD 1 0+x.getD 2 0*y.getD 0 0+19*(x.getD 3 0*y.getD 4 0+x.getD 4 0*y.getD 3 0):=by simp [Zkl,inn] <;> grind
  have e3:Zkl x y 3=x.getD 0 0*y.getD 3 0+x.getD 1 0*y.getD 2 0+x.getD 2 0*y.getD 1 0+x.getD 3 0*y.getD 0 0+19*(x.getD 4 0*y.getD 4 0):=by simp [Zkl,inn] <;> grind
  have e4:Zkl x y 4=x.getD 0 0*y.getD 4 0+x.getD 1 0*y.getD 3 0+x.getD 2 0*y.getD 2 0+x.getD 3 0*y.getD 1 0+x.getD 4 0*y.getD 0 0:=by simp [Zkl,inn] <;> grind
  refine ⟨(x.getD 1 0*y.getD 4 0+x.getD 2 0*y.getD 3 0+x.getD 3 0*y.getD 2 0+x.getD 4 0*y.getD 1 0)+(x.getD 2 0*y.getD 4 0+x.getD 3 0*y.getD 3 0+x.getD 4 0*y.getD 2 0)*2251799813685248+(x.getD 3 0*y.getD 4 0+x.getD 4 0*y.getD 3 0)*5070602400912917605986812821504+x.getD 4 0*y.getD 4 0*11417981541647679048466287755595961091061972992,?_⟩
  rw [e0,e1,e2,e3,e4]
  simp only [Z7b,PP]
  simp only [Int.reduceMul] at h
  rw [h]
  omega
end Go.Proofs.YtiflckckekjbnaaGreatDoor
namespace Go.Proofs.YtiflckckekjbnaaGreatDoor
open Go Go.Sx Go.RowKit
open List (replicate)
set_option linter.all false
set_option maxRecDepth 100000
theorem U5.mk5 {d0 d1 d2 d3 d4:Int} (h0:0<=d0/\d0<18446744073709551616) (h1:0<=d1/\d1<18446744073709551616) (h2:0<=d2/\d2<18446744073709551616) (h3:0<=d3/\d3<18446744073709551616) (h4:0<=d4/\d4<18446744073709551616):U5 [d0,d1,d2,d3,d4] :=
 ⟨h0.1,h1.1,h2.1,h3.1,h4.1,h0.2,h1.2,h2.2,h3.2,h4.2⟩
theorem Zxu {c d0 d1 d2 d3 d4:Int} (hc:0<=c/\c<900000000000000000)
  (h0:0<=d0/\d0<2251799813685248) (h1:0<=d1/\d1<2251799813685248) (h2:0<=d2/\d2<2251799813685248) (h3:0<=d3/\d3<2251799813685248) (h4:0<=d4/\d4<2251799813685248) :
  (opt (Z2o (replicate 2 0) 0 2 c 19) fun y1819 =>
   bnd (y1819.getD 1 0) fun z1823 =>
   bnd ([d0,d1,d2,d3,d4].getD 0 0) fun z1824 =>
   chk (Ziv z1823 z1824 0) <|
   bnd (Zp4 z1823 z1824 0) fun z1826 =>
   bnd (Zp3 z1823 z1824 0) fun z1827 =>
   bnd (Za .and .u64 z1826 2251799813685247) fun z1829 =>
   bnd (Z28 [d0,d1,d2,d3,d4] 0 z1829) fun l1830 =>
   bnd (l1830.getD 1 0) fun z1832 =>
   bnd (y1819.getD 0 0) fun z1833 =>
   bnd (IntKind.wrap .u64 (z1833+z1827)) fun z1834 =>
   bnd (Z1v .u64 z1834 13) fun z1835 =>
   bnd (Z0f .u64 z1826 51) fun z1836 =>
   bnd (Za .or .u64 z1835 z1836) fun z1837 =>
   bnd (IntKind.wrap .u64 (z1832+z1837)) fun z1838 =>
   bnd (Z28 l1830 1 z1838) fun l1839 =>
   opt (Z2i l1839) fun y1841 =>
   some y1841)=some (Zj5 ((d0+d1*2251799813685248+d2*5070602400912917605986812821504+d3*11417981541647679048466287755595961091061972992+d4*25711008708143844408671393477458601640355247900524685364822016+19*c)%PP)):=by
 have hw:Z2o (replicate 2 0) 0 2 c 19=some [Zhr (0+c*19),Zen (0+c*19)]:=Zwg (s:=0) (by decide) rfl rfl (by decide) (by omega) (by omega) (by omega)
 rw [Z3 hw]
 simp only [Zk,List.getD_cons_zero,List.getD_cons_succ]
 have hl:Zen (0+c*19)=c*19%18446744073709551616:=by unfold Zen; rw [Int.zero_add]
 have hh:Zhr (0+c*19)=c*19 / 18446744073709551616:=by unfold Zhr; rw [Int.zero_add]
 rw [hl,hh]
 have hlt:c*19<18446744073709551616:=by omega
 rw [Int.emod_eq_of_lt (by omega) hlt,Int.ediv_eq_zero_of_lt (by omega) hlt]
 rw [Zu (by simp [Ziv]; omega)]
 simp only [Zm0,Zig,Int.add_zero,Int.zero_add]
 rw [Int.emod_eq_of_lt (a:=c*19+d0) (by omega) (by omega),Int.ediv_eq_zero_of_lt (a:=c*19+d0) (by omega) (by omega)]
 have ew:IntKind.wrap .u64 0=0:=by decide
 rw [ew,Zsv,Z0fv,Zm3 (by omega) (by omega)]
 have e0:(0:Int)*8192%18446744073709551616=0:=by decide
 rw [e0,Zr3 13 (x:=0) (a:=0) (by simp) (by omega) (by omega) (by omega) (by omega),Int.zero_add]
 have hs1:Z28 [d0,d1,d2,d3,d4] 0 ((c*19+d0)%2251799813685248) = [(c*19+d0)%2251799813685248,d1,d2,d3,d4]:=rfl
 rw [hs1]
 simp only [List.getD_cons_zero,List.getD_cons_succ]
 rw [Zb (by omega) (by omega)]
 have hs2:Z28 [(c*19+d0)%2251799813685248,d1,d2,d3,d4] 1 (d1+(c*19+d0) / 2251799813685248) = [(c*19+d0)%2251799813685248,d1+(c*19+d0) / 2251799813685248,d2,d3,d4]:=rfl
 rw [hs2,Z3 (Z9i (U5.mk5 (by omega) (by omega) (by omega) (by omega) (by omega)))]
 unfold Zkr
 congr 3
 simp only [Z7b,List.getD_cons_zero,List.getD_cons_succ]
 omega
theorem C5.le {x:LI} (h:C5 x 262144) : ∀ j,j<5->0<=x.getD j 0/\x.getD j 0<=2251799813947392:=by
 have ⟨a0,a1,a2,a3,a4,b0,b1,b2,b3,b4⟩:=h
 intro j hj
 match j,hj with
 | 0,_=>omega
 | 1,_=>omega
 | 2,_=>omega
 | 3,_=>omega
 | 4,_=>omega
theorem Zuk {x y:LI} (hx:U5 x) (hy:U5 y):Z1k x y=some (Zj5 (Z7b x*Z7b y%PP)):=by
 have cx:=(Ztm hx).le
 have cy:=(Ztm hy).le
 rw [Z1k,Z3 (Zek hx),Z3 (Zek hy),Z19,Zum cx cy,Z19]
 have hb:=Z01w cx cy
 obtain ⟨q,hq⟩:=Zxo (Za3 x) (Za3 y)
 have hm:Z7b x*Z7b y%PP=Z7b (Za3 x)*Z7b (Za3 y)%PP:=by
  rw [Int.mul_emod,<- Zgx (x:=x),<- Zgx (x:=y),<- Int.mul_emod]
 rw [hm,hq,Int.add_mul_emod_self_right]
 generalize Zkl (Za3 x) (Za3 y)=S at *
 obtain ⟨n,hn⟩ : ∃ n,big=n+1+1+1+1+1+1:=⟨18446744073709551610,Z38⟩
 generalize hkk:(fun (i1740:Int) (a1741:LI)=>_)=kk
 have step : ∀ (n i:Nat) (c:Int) (out:LI),i<5->(0<=c/\c<18446744073709551616)->Z3t (Zkf S) kk (n+1) c (i:Int) out=Z3t (Zkf S) kk n ((S i+c) / 2251799813685248) ((i+1:Nat):Int) (Z28 out i ((S i+c)%2251799813685248)):=by
  intro n i c out hi hc
  rw [Z3t,Zuj hi (hb i hi) hc]
 have c0:=hb 0 (by decide)
 have c1:=hb 1 (by decide)
 have c2:=hb 2 (by decide)
 have c3:=hb 3 (by decide)
 have c4:=hb 4 (by decide)
 have k1 : ∃ d,(S 0+0)%2251799813685248=d/\(0<=d/\d<2251799813685248):=⟨_,rfl,by omega⟩
 have s0:=step (n+1+1+1+1+1) 0 0 (replicate 5 0) (by decide) (by decide)
 generalize hd0:(S 0+0)%2251799813685248=d0 at s0
 generalize hv0:(S 0+0) / 2251799813685248=v0 at s0
 have s1:=step (n+1+1+1+1) 1 v0 (Z28 (replicate 5 0) 0 d0) (by decide) (by omega)
 generalize hd1:(S 1+v0)%2251799813685248=d1 at s1
 generalize hv1:(S 1+v0) / 2251799813685248=v1 at s1
 have s2:=step (n+1+1+1) 2 v1 (Z28 (Z28 (replicate 5 0) 0 d0) 1 d1) (by decide) (by omega)
 generalize hd2:(S 2+v1)%2251799813685248=d2 at s2
 generalize hv2:(S 2+v1) / 2251799813685248=v2 at s2
 have s3:=step (n+1+1) 3 v2 (Z28 (Z28 (Z28 (replicate 5 0) 0 d0) 1 d1) 2 d2) (by decide) (by omega)
 generalize hd3:(S 3+v2)%2251799813685248=d3 at s3
 generalize hv3:(S 3+v2) / 2251799813685248=v3 at s3
 have s4:=step (n+1) 4 v3 (Z28 (Z28 (Z28 (Z28 (replicate 5 0) 0 d0) 1 d1) 2 d2) 3 d3) (by decide) (by omega)
 generalize hd4:(S 4+v3)%2251799813685248=d4 at s4
 generalize hv4:(S 4+v3) / 2251799813685248=v4 at s4
 have hout:Z28 (Z28 (Z28 (Z28 (Z28 (replicate 5 0) 0 d0) 1 d1) 2 d2) 3 d3) 4 d4 = [d0,d1,d2,d3,d4]:=rfl
 rw [hout] at s4
 have s5:Z3t (Zkf S) kk (n+1) v4 ((4+1:Nat):Int) [d0,d1,d2,d3,d4]=kk v4 [d0,d1,d2,d3,d4]:=by rw [Z3t,Z7n,Z0u (by decide)]
 subst hkk
 have s5:=s5.trans (Zxu (c:=v4) (d0:=d0) (d1:=d1) (d2:=d2) (d3:=d3) (d4:=d4) (by omega) (by omega) (by omega) (by omega) (by omega) (by omega))
 rw [<- hn] at s0
 refine s0.trans (s1.trans (s2.trans (s3.trans (s4.trans (s5.trans ?_)))))
 congr 2
 clear s0 s1 s2 s3 s4 s5 step hout hb hn k1 cx cy
 have e0:S 0=v0*2251799813685248+d0:=by omega
 have e1:S 1+v0=v1*2251799813685248+d1:=by omega
 have e2:S 2+v1=v2*2251799813685248+d2:=by omega
 have e3:S 3+v2=v3*2251799813685248+d3:=by omega
 have e4:S 4+v3=v4*2251799813685248+d4:=by omega
 clear hd0 hd1 hd2 hd3 hd4 hv0 hv1 hv2 hv3 hv4
 have key:S 0+S 1*2251799813685248+S 2*5070602400912917605986812821504+S 3*11417981541647679048466287755595961091061972992+S 4*25711008708143844408671393477458601640355247900524685364822016 =
   d0+d1*2251799813685248+d2*5070602400912917605986812821504+d3*11417981541647679048466287755595961091061972992+d4*25711008708143844408671393477458601640355247900524685364822016+19*v4+v4*PP:=by
  simp only [PP]; omega
 rw [key,Int.add_mul_emod_self_right]
theorem Zot {x:LI} (hx:U5 x):Z24 x=some (Zj5 (Z7b x*Z7b x%PP)):=by
 rw [Z24,Z3 (Zuk hx hx)]
end Go.Proofs.YtiflckckekjbnaaGreatDoor
namespace Go.Proofs.YtiflckckekjbnaaGreatDoor
open Go Go.Sx Go.RowKit
open Go.IntKind (wrap)
set_option linter.all false
set_option maxRecDepth 100000
def fe (n:Int):LI:=Zj5 (n%PP)
theorem Zj6 (n:Int):U5 (fe n):=Zpf _
theorem Zl5:(0:Int)<PP:=by decide
theorem Z9n (n:Int):Z7b (fe n)=n%PP:=Zj7 (Int.emod_nonneg _ (by decide)) (Int.emod_lt_of_pos _ Zl5)
theorem Z04u (n:Int):fe (n%PP)=fe n:=by unfold fe; rw [Int.emod_emod_of_dvd _ (Int.dvd_refl _)]
theorem Zg6 {a b:Int} (h:a%PP=b%PP):fe a=fe b:=by unfold fe; rw [h]
theorem Z00c (k:LI->Option (LI)) (x0 x1 x2 x3 x4 y0 y1 y2 y3 y4:Int):Z7l [y0,y1,y2,y3,y4] k big 0 [x0,x1,x2,x3,x4] =
  k ([wrap .u64 (x0+y0),wrap .u64 (x1+y1),wrap .u64 (x2+y2),wrap .u64 (x3+y3),wrap .u64 (x4+y4)]):=by kernel_rfl
theorem Zzd {x y:LI} (hx:U5 x) (hy:U5 y):Z2r x y=some (fe (Z7b x+Z7b y)):=by
 have cx:=Ztm hx
 have cy:=Ztm hy
 have ex:=Zgx (x:=x)
 have ey:=Zgx (x:=y)
 rw [Z2r,Z3 (Zek hx),Z3 (Zek hy),Z19]
 have hlx:Za3 x = [(Za3 x).getD 0 0,(Za3 x).getD 1 0,(Za3 x).getD 2 0,(Za3 x).getD 3 0,(Za3 x).getD 4 0]:=rfl
 have hly:Za3 y = [(Za3 y).getD 0 0,(Za3 y).getD 1 0,(Za3 y).getD 2 0,(Za3 y).getD 3 0,(Za3 y).getD 4 0]:=rfl
 have hm:(Z7b x+Z7b y)%PP=(Z7b (Za3 x)+Z7b (Za3 y))%PP:=by rw [Int.add_emod,<- ex,<- ey,<- Int.add_emod]
 rw [Zg6 hm]
 generalize Za3 x=a at *
 generalize Za3 y=b at *
 have ⟨p0,p1,p2,p3,p4,q0,q1,q2,q3,q4⟩:=cx
 have ⟨r0,r1,r2,r3,r4,s0,s1,s2,s3,s4⟩:=cy
 rw [hlx,hly,Z00c]
 rw [Zb (by omega) (by omega),Zb (by omega) (by omega),Zb (by omega) (by omega),Zb (by omega) (by omega),Zb (by omega) (by omega)]
 rw [Z3 (Z9i (U5.mk5 (by omega) (by omega) (by omega) (by omega) (by omega)))]
 unfold Zkr fe
 congr 3
 simp only [Z7b,List.getD_cons_zero,List.getD_cons_succ]
 omega
theorem Z01y (k:LI->Option (LI)) (y0 y1 y2 y3 y4 z:Int):Z7o [y0,y1,y2,y3,y4] k big 1 [z,0,0,0,0] =
  k ([z,wrap .u64 (4503599627370494-y1),wrap .u64 (4503599627370494-y2),wrap .u64 (4503599627370494-y3),wrap .u64 (4503599627370494-y4)]):=by kernel_rfl
theorem Z0ap {x:LI} (hx:U5 x):Zdm x=some (fe (- Z7b x)):=by
 rw [Zdm,Z3 (Z9i hx)]
 simp only [Zk,Z19]
 have hv:Z7b (Zkr x)=Z7b x%PP:=Z9n (Z7b x)
 have hl:Zkr x = [(Zkr x).getD 0 0,(Zkr x).getD 1 0,(Zkr x).getD 2 0,(Zkr x).getD 3 0,(Zkr x).getD 4 0]:=rfl
 have hb : ∀ j,j<5->0<=(Zkr x).getD j 0/\(Zkr x).getD j 0<2251799813685248:=by
  intro j hj
  unfold Zkr Zj5
  match j,hj with
  | 0,_=>simp only [M51,List.getD_cons_zero,List.getD_cons_succ]; omega
  | 1,_=>simp only [M51,List.getD_cons_zero,List.getD_cons_succ]; omega
  | 2,_=>simp only [M51,List.getD_cons_zero,List.getD_cons_succ]; omega
  | 3,_=>simp only [M51,List.getD_cons_zero,List.getD_cons_succ]; omega
  | 4,_=>simp only [M51,List.getD_cons_zero,List.getD_cons_succ]; omega
 have hm:(- Z7b x)%PP=(2*PP-Z7b (Zkr x))%PP:=by
  rw [hv]
  have e : - Z7b x=2*PP-Z7b x%PP+(-2-Z7b x / PP)*PP:=by
   have:=Int.emod_add_mul_ediv (Z7b x) PP
   rw [Int.mul_comm] at this
   have h2:(-2-Z7b x / PP)*PP = -2*PP-Z7b x / PP*PP:=by rw [Int.sub_mul]
   omega
  rw [e,Int.add_mul_emod_self_right]
 rw [Zg6 hm]
 generalize Zkr x=a at *
 have b0:=hb 0 (by decide)
 have b1:=hb 1 (by decide)
 have b2:=hb 2 (by decide)
 have b3:=hb 3 (by decide)
 have b4:=hb 4 (by decide)
 rw [hl]
 simp only [List.getD_cons_zero]
 rw [Z01y]
 rw [Zb (by omega) (by omega),Zb (by omega) (by omega),Zb (by omega) (by omega),Zb (by omega) (by omega),Zb (by omega) (by omega)]
 rw [Z3 (Z9i (U5.mk5 (by omega) (by omega) (by omega) (by omega) (by omega)))]
 unfold Zkr fe
 congr 3
 simp only [Z7b,PP,List.getD_cons_zero,List.getD_cons_succ]
 omega
theorem Z0fx {x y:LI} (hx:U5 x) (hy:U5 y):Z4x x y=some (fe (Z7b x-Z7b y)):=by
 rw [Z4x,Z3 (Z0ap hy),Z3 (Zzd hx (Zj6 _)),Z9n]
 rw [Zg6 (a:=Z7b x + -Z7b y%PP) (b:=Z7b x-Z7b y)]
 rw [Int.sub_eq_add_neg,Int.add_emod,Int.emod_emod_of_dvd _ (Int.dvd_refl _),<- Int.add_emod]
theorem Zyy {n:Int} (h:0<=n/\n<18446744073709551616):Zab n=some (fe n):=by
 rw [Zab]
 simp only [Zk]
 rw [Z3 (Z9i (U5.mk5 h (by omega) (by omega) (by omega) (by omega)))]
 unfold Zkr fe
 congr 3
 simp only [Z7b,List.getD_cons_zero,List.getD_cons_succ]
 omega
theorem Zp5 {x:Int} (h0:0<=x) (h1:x<18446744073709551616):Za .and .u64 x 1=x%2:=Ziw 1 (by decide) (by decide) h0 h1
theorem Zxj {x:LI} (hx:U5 x):Zaa x=some (Z7b x%PP%2==1):=by
 rw [Zaa,Z3 (Z9i hx)]
 simp only [Zk]
 have e:(Zkr x).getD 0 0=Z7b x%PP%2251799813685248:=rfl
 rw [e,Zp5 (by omega) (by omega)]
 congr 2
 omega
theorem and8 {x y:Int} (m n:Nat) (hx:x=m) (hy:y=n) (h1:m<256) (h2:n<256):Za .and .u8 x y=((m &&& n:Nat):Int):=by
 subst hx; subst hy
 show IntKind.u8.wrap (((BitVec.ofInt 8 (m:Int) &&& BitVec.ofInt 8 (n:Int)).toNat:Nat):Int)=_
 rw [BitVec.toNat_and,bv8 m h1,bv8 n h2,Z2c]
 have:m &&& n<=m:=Nat.and_le_left
 omega
theorem Zih (k:Nat) {x y:Int} (hy:y=((2^k-1:Nat):Int)) (hk:2^k<=256) (h0:0<=x) (h1:x<256):Za .and .u8 x y=x%((2^k:Nat):Int):=by
 have hp:0<2^k:=Nat.pow_pos (by decide)
 rw [and8 x.toNat (2^k-1) (by omega) hy (by omega) (by omega),Nat.and_two_pow_sub_one_eq_mod]
 rw [Int.natCast_emod]
 congr 1; omega
theorem Ztb {x:Int} (h0:0<=x) (h1:x<256):Za .and .u8 x 1=x%2:=Zih 1 (by decide) (by decide) h0 h1
def Byt (e:LI):Prop:=∀ i,0<=e.getD i 0/\e.getD i 0<256
def ebit (e:LI) (i:Nat):Bool:=(e.getD (i / 8) 0 / ((2^(i%8):Nat):Int))%2==1
def pw (x:Int) (e:LI):Nat->Int
 | 0=>1
 | k+1=>if ebit e (255-k) then pw x e k*pw x e k%PP*x%PP else pw x e k*pw x e k%PP
theorem Zzv (x:Int) (e:LI) (k:Nat):0<=pw x e k/\pw x e k<PP:=by
 cases k with
 | zero=>exact ⟨by show (0:Int)<=1; decide,by show (1:Int)<PP; decide⟩
 | succ k =>
  unfold pw
  split
  ·exact ⟨Int.emod_nonneg _ (by decide),Int.emod_lt_of_pos _ Zl5⟩
  ·exact ⟨Int.emod_nonneg _ (by decide),Int.emod_lt_of_pos _ Zl5⟩
theorem Zxd {n:Int} (h0:0<=n) (h1:n<PP):fe n=Zj5 n:=by unfold fe; rw [Int.emod_eq_of_lt h0 h1]
theorem Zuv {x e:LI} (hx:U5 x) (he:Byt e) {kk:LI->Option (LI)} {k':Int->LI->Option (LI)} {i:Nat} (hi:i<256) (a:Int) (ha:0<=a/\a<PP) :
  Z7p x e kk k' (i:Int) (Zj5 a)=k' ((i:Int)-1) (Zj5 (if ebit e i then a*a%PP*Z7b x%PP else a*a%PP)):=by
 have hsq:Z24 (Zj5 a)=some (Zj5 (a*a%PP)):=by rw [Zot (Zpf _),Zj7 ha.1 ha.2]
 rw [Z7p,Z1n (by simp),Z19,Z3 hsq]
 simp only [Zk]
 have hd:wrap .i64 (Int.tdiv (i:Int) 8)=((i / 8:Nat):Int):=by
  rw [Int.tdiv_eq_ediv_of_nonneg (by omega),Zl (by omega) (by omega)]; omega
 have hm:Int.tmod (i:Int) 8=((i%8:Nat):Int):=by
  rw [Int.tmod_eq_emod_of_nonneg (by omega)]; omega
 rw [hd,hm,Zu (Z0v (by omega) (by omega)),Zu (by simp; omega)]
 have hb:=he (i / 8)
 simp only [Int.toNat_natCast]
 rw [Z9r .u8 (n:=i%8) (by show i%8<=8; omega)]
 have hp:(0:Int)<((2^(i%8):Nat):Int):=by have:=Nat.pow_pos (n:=i%8) (show 0<2 by decide); omega
 have hq0:=Int.ediv_nonneg hb.1 (Int.le_of_lt hp)
 have hq1:e.getD (i / 8) 0 / ((2^(i%8):Nat):Int)<256:=Int.lt_of_le_of_lt (Int.ediv_le_self _ hb.1) hb.2
 rw [Ztb hq0 hq1]
 have hw:wrap .i64 ((i:Int)-1)=(i:Int)-1:=Zl (by omega) (by omega)
 by_cases hbit:ebit e i=true
 ·have hb':(e.getD (i / 8) 0 / ((2^(i%8):Nat):Int)%2==1)=true:=hbit
  rw [Z1n hb',if_pos hbit,Z3 (Zuk (Zpf _) hx),Zj7 (Int.emod_nonneg _ (by decide)) (Int.emod_lt_of_pos _ Zl5),hw]
 ·rw [Bool.not_eq_true] at hbit
  have hb':(e.getD (i / 8) 0 / ((2^(i%8):Nat):Int)%2==1)=false:=hbit
  rw [Z0u hb',if_neg (by rw [hbit]; decide),hw]
theorem Zr6 {x e:LI} (hx:U5 x) (he:Byt e) : ∀ (k n:Nat),k<=256->Z4g x e some (n+1+k) ((k:Int)-1) (Zj5 (pw (Z7b x) e (256-k)))=some (Zj5 (pw (Z7b x) e 256))
 | 0,n,_=>by
  show Z4g x e some (n+1) _ _=_
  rw [Z4g,Z7p,Z0u (by decide)]
 | k+1,n,hk=>by
  have ih:=Zr6 hx he k n (by omega)
  rw [<- Nat.add_assoc,Z4g]
  have hi:((k+1:Nat):Int)-1=(k:Int):=by omega
  rw [hi,Zuv hx he (by omega) _ (Zzv _ _ _)]
  have e1:256-k=(256-(k+1))+1:=by omega
  have e2:255-(256-(k+1))=k:=by omega
  rw [e1,pw,e2] at ih
  exact ih
theorem Z0ar {x e:LI} (hx:U5 x) (he:Byt e):Zdo x e=some (Zj5 (pw (Z7b x) e 256)):=by
 rw [Zdo,Z3 (Zyy (by decide)),Z19]
 obtain ⟨n,hn⟩ : ∃ n,big=n+1+256:=⟨18446744073709551359,Z38⟩
 have:=Zr6 hx he 256 n (Nat.le_refl _)
 rw [<- hn] at this
 have e1:fe 1=Zj5 (pw (Z7b x) e (256-256)):=rfl
 rw [e1]
 exact this
end Go.Proofs.YtiflckckekjbnaaGreatDoor
