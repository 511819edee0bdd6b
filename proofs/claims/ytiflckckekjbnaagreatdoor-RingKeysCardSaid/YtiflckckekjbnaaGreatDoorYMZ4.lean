/- Texts of a proof, one behind the other: L4 L5 L6 L7 L8 L9 L10. -/
import Derived.Test.YtiflckckekjbnaaGreatDoorYMZ3
namespace Go.Proofs.YtiflckckekjbnaaGreatDoor
open Go Go.Sx Go.RowKit
open List (replicate)
open Go.IntKind (wrap)
set_option linter.all false
set_option maxHeartbeats 400000
set_option maxRecDepth 100000
def Zbv (p0:LI) (k1:Int->Option Int) (k2:Int->Int->Option Int) (i1:Int) (i2:Int):Option Int :=
 br ((decide (i2<8))) (
 bnd (wrap .u64 (i1*256)) fun z1 =>
 chk (inB i2 p0.length) <|
 bnd (p0.getD (i2).toNat 0) fun z2 =>
 bnd (wrap .u64 z2) fun z3 =>
 bnd (wrap .u64 (z1+z3)) fun z4 =>
 bnd (wrap .i64 (i2+1)) fun z5 =>
 k2 z4 z5
 ) (
 k1 i1
 )
def Z6s (p0:LI) (k1:Int->Option Int):Nat->Int->Int->Option Int
  | 0,_,_=>none
  | n+1,i1,i2=>Zbv p0 k1 (Z6s p0 k1 n) i1 i2
def Zjs (p0:LI):Option Int :=
 jn (fun (i1:Int)=>some i1) fun k1=>Z6s p0 k1 big 0 0
theorem Zo4 {W:World} {r:Int} {p0:LI} {v0:Value} (h:Zjs p0=some r) (A0:Z6v (El.int .u8) W v0 p0) :
    Calls Tryz.prog 209 [v0].toArray W (Z34 W (.int .u64 (r))):=by
 unfold Zjs at h
 refine Zc mo Z0ks rfl ?_
 refine Z0<|Z2<|Z6 rfl<|Z1<|Z0<|Z2<|Z6 rfl<|Z1<|Z0<|Z0<|Z2<|Z6 rfl<|Z1<|jH h fun k1 q1 h=>Zg (G:=fun t m=>∃ (i1:Int),k1 i1=some r/\Fit [(3,.int .u64 (i1))] [] t m) ?_ ?_
 ·refine Z9<|Zm (fun n1 t m=>∃ (i2:Int) (i3:Int),Z6s p0 k1 n1 i2 i3=some r/\Fit [(0,v0),(3,.int .u64 (i2)),(4,.int .i64 (i3))] [] t m) big ?_ ?_
  ·exact ⟨0,0,h,⟨⟨rfl,rfl,rfl,trivial⟩,.nil⟩⟩
  ·rintro n1 t m ⟨i2,i3,h,hF⟩
   refine Ze hF ?_
   clear hF
   rcases n1 with _ | n1
   · exact Z07 h
   have h:Zbv p0 k1 (Z6s p0 k1 n1) i2 i3=some r:=h
   unfold Zbv at h
   obtain ⟨k2,q2⟩ : ∃ k,k=Z6s p0 k1 n1:=⟨_,rfl⟩
   try rw [<- q2] at h
   refine Z0<|Z0<|Z2<|Z6 rfl<|Z4 _ (Z8 rfl rfl rfl)<|Z1<|Z09 h rfl (fun h=>?_) (fun h=>?_)
   ·refine Zh<|Z0<|Z9<|bH h fun z1 e1 h=>cH h fun c1 h=>bH h fun z2 e2 h=>bH h fun z3 e3 h=>bH h fun z4 e4 h=>Z2<|Z6 rfl<|Z4 _ (iz e1 (Z8 rfl rfl rfl))<|Z6 rfl<|Z6 rfl<|Z4 _ (Z5p rfl rfl (Shp.rd A0) c1)<|Z4 _ (iz e2 (Z6k (E:=(El.int .u8)) (s:=[.one (.int .u8 (p0.getD (i3).toNat 0))]) rfl (Z2k A0 Z2y) (Z01 c1) rfl rfl))<|Z4 _ (iz e3 (Z33 rfl))<|Z4 _ (iz e4 (Z8 rfl rfl rfl))<|Z6 rfl<|Z1<|bH h fun z5 e5 h=>Z2<|Z6 rfl<|Z4 _ (iz e5 (Z8 rfl rfl rfl))<|Z6 rfl<|Z1 ?_
    rw [q2] at h
    exact ⟨n1,Nat.lt_succ_self _,z4,z5,h,⟨⟨rfl,rfl,rfl,trivial⟩,.nil⟩⟩
   ·exact Zs _ rfl<|⟨i2,h,⟨⟨rfl,trivial⟩,.nil⟩⟩
 ·rintro t m ⟨i1,h,hF⟩
  refine Ze hF ?_
  clear hF
  subst q1
  refine Z0<|Z2<|Z6 rfl<|Z6 rfl<|Z1<|Zj ?_
  revert h; refine Zv fun h=>?_
  subst h
  exact ⟨_,(.cons (.tmp rfl) .nil),rfl⟩
def Zt3 (p0:Int) (p1:Int):Option Int :=
 chk (decide (0<=p1)) <|
 bnd (Z0f .u64 p0 p1) fun z1 =>
 bnd (wrap .u64 (64-p1)) fun z2 =>
 chk (decide (0<=z2)) <|
 bnd (Z1v .u64 p0 z2) fun z3 =>
 bnd (Za .or .u64 z1 z3) fun z4 =>
 some z4
theorem Z72 {W:World} {r:Int} {p0:Int} {p1:Int} (h:Zt3 p0 p1=some r)  :
    Calls Tryz.prog 212 [.int .u64 (p0),.int .u64 (p1)].toArray W (Z34 W (.int .u64 (r))):=by
 unfold Zt3 at h
 refine Zc mo Z0kv rfl ?_
 refine Z0<|Z2<|Z6 rfl<|Z1<|Z0<|cH h fun c1 h=>bH h fun z1 e1 h=>bH h fun z2 e2 h=>cH h fun c2 h=>bH h fun z3 e3 h=>bH h fun z4 e4 h=>Z2<|Z6 rfl<|Z6 rfl<|Z4 _ (iz e1 (Z48 rfl rfl (of_decide_eq_true c1)))<|Z6 rfl<|Z6 rfl<|Z4 _ (iz e2 (Z8 rfl rfl rfl))<|Z4 _ (iz e3 (Zhg rfl rfl (of_decide_eq_true c2)))<|Z4 _ (iz e4 (Z8 rfl rfl rfl))<|Z6 rfl<|Z1<|Zj ?_
 revert h; refine Zv fun h=>?_
 subst h
 exact ⟨_,(.cons (.tmp rfl) .nil),rfl⟩
def Zya (p0:Int):Option Int :=
 opt (Zt3 p0 19) fun y1 =>
 opt (Zt3 p0 61) fun y2 =>
 bnd (Za .xor .u64 y1 y2) fun z1 =>
 bnd (Z0f .u64 p0 6) fun z2 =>
 bnd (Za .xor .u64 z1 z2) fun z3 =>
 some z3
theorem Zsk {W:World} {r:Int} {p0:Int} (h:Zya p0=some r)  :
    Calls Tryz.prog 210 [.int .u64 (p0)].toArray W (Z34 W (.int .u64 (r))):=by
 unfold Zya at h
 refine Zc mo Z0kt rfl ?_
 refine Z0<|Z2<|Z6 rfl<|Z1<|Z0<|oH h fun y1 f1 h=>oH h fun y2 f2 h=>bH h fun z1 e1 h=>bH h fun z2 e2 h=>bH h fun z3 e3 h=>Z2<|Z6 rfl<|Z4 _ (Z0h rfl (Z72 f1))<|Z6 rfl<|Z4 _ (Z0h rfl (Z72 f2))<|Z4 _ (iz e1 (Z8 rfl rfl rfl))<|Z6 rfl<|Z4 _ (iz e2 (Z48 rfl rfl (by decide)))<|Z4 _ (iz e3 (Z8 rfl rfl rfl))<|Z6 rfl<|Z1<|Zj ?_
 revert h; refine Zv fun h=>?_
 subst h
 exact ⟨_,(.cons (.tmp rfl) .nil),rfl⟩
def Zy9 (p0:Int):Option Int :=
 opt (Zt3 p0 1) fun y1 =>
 opt (Zt3 p0 8) fun y2 =>
 bnd (Za .xor .u64 y1 y2) fun z1 =>
 bnd (Z0f .u64 p0 7) fun z2 =>
 bnd (Za .xor .u64 z1 z2) fun z3 =>
 some z3
theorem Zsj {W:World} {r:Int} {p0:Int} (h:Zy9 p0=some r)  :
    Calls Tryz.prog 211 [.int .u64 (p0)].toArray W (Z34 W (.int .u64 (r))):=by
 unfold Zy9 at h
 refine Zc mo Z0ku rfl ?_
 refine Z0<|Z2<|Z6 rfl<|Z1<|Z0<|oH h fun y1 f1 h=>oH h fun y2 f2 h=>bH h fun z1 e1 h=>bH h fun z2 e2 h=>bH h fun z3 e3 h=>Z2<|Z6 rfl<|Z4 _ (Z0h rfl (Z72 f1))<|Z6 rfl<|Z4 _ (Z0h rfl (Z72 f2))<|Z4 _ (iz e1 (Z8 rfl rfl rfl))<|Z6 rfl<|Z4 _ (iz e2 (Z48 rfl rfl (by decide)))<|Z4 _ (iz e3 (Z8 rfl rfl rfl))<|Z6 rfl<|Z1<|Zj ?_
 revert h; refine Zv fun h=>?_
 subst h
 exact ⟨_,(.cons (.tmp rfl) .nil),rfl⟩
def Zak (p0:LI) (k1:(LI)->OL) (k2:(LI)->Int->OL) (l1:LI) (i1:Int):OL :=
 br ((decide (i1<16))) (
 bnd (wrap .i64 (8*i1)) fun z1 =>
 bnd (wrap .i64 (8*i1)) fun z2 =>
 bnd (wrap .i64 (z2+8)) fun z3 =>
 chk (Zfh z1 z3 p0.length) <|
 opt (Zjs ((p0.drop (z1).toNat).take ((z3).toNat-(z1).toNat))) fun y1 =>
 chk (decide ((l1.length+([y1]:LI).length)*8<=140737488355328)) <|
 bnd (l1++([y1]:LI)) fun l2 =>
 bnd (wrap .i64 (i1+1)) fun z4 =>
 k2 l2 z4
 ) (
 k1 l1
 )
def Z5j (p0:LI) (k1:(LI)->OL):Nat->(LI)->Int->OL
  | 0,_,_=>none
  | n+1,l1,i1=>Zak p0 k1 (Z5j p0 k1 n) l1 i1
def Zal (k1:(LI)->OL) (k2:(LI)->Int->OL) (l1:LI) (i1:Int):OL :=
 br ((decide (i1<80))) (
 bnd (wrap .i64 (i1-2)) fun z1 =>
 chk (inB z1 l1.length) <|
 bnd (wrap .i64 (i1-7)) fun z2 =>
 chk (inB z2 l1.length) <|
 bnd (wrap .i64 (i1-15)) fun z3 =>
 chk (inB z3 l1.length) <|
 bnd (wrap .i64 (i1-16)) fun z4 =>
 chk (inB z4 l1.length) <|
 bnd (l1.getD (z1).toNat 0) fun z5 =>
 opt (Zya z5) fun y1 =>
 bnd (l1.getD (z2).toNat 0) fun z6 =>
 bnd (wrap .u64 (y1+z6)) fun z7 =>
 bnd (l1.getD (z3).toNat 0) fun z8 =>
 opt (Zy9 z8) fun y2 =>
 bnd (wrap .u64 (z7+y2)) fun z9 =>
 bnd (l1.getD (z4).toNat 0) fun z10 =>
 bnd (wrap .u64 (z9+z10)) fun z11 =>
 chk (decide ((l1.length+([z11]:LI).length)*8<=140737488355328)) <|
 bnd (l1++([z11]:LI)) fun l2 =>
 bnd (wrap .i64 (i1+1)) fun z12 =>
 k2 l2 z12
 ) (
 k1 l1
 )
def Z5k (k1:(LI)->OL):Nat->(LI)->Int->OL
  | 0,_,_=>none
  | n+1,l1,i1=>Zal k1 (Z5k k1 n) l1 i1
def Zgg (p0:LI):OL :=
 jn (fun (l1:LI)=>jn (fun (l2:LI)=>some l2) fun k1=>Z5k k1 big l1 16) fun k2=>Z5j p0 k2 big [] 0
theorem Zmn {W:World} {r:(LI)} {p0:LI} {v0:Value} (h:Zgg p0=some r) (A0:Z6v (El.int .u8) W v0 p0) :
    Calls Tryz.prog 177 [v0].toArray W (Zd9 W [] (fun v Ms=>∃ (u0:Value) (M1:List Zf),v=u0/\Ms = [.all M1]/\Z03 (El.int .u64) u0 M1 r)):=by
 unfold Zgg at h
 refine Z0e mo Z0k6 rfl (Zgt _) ?_
 refine Z0<|Z2<|Z6 rfl<|Z1<|Z0<|Z2<|Z6 rfl<|Z1<|Z0<|Z0<|Z2<|Z6 rfl<|Z1<|jH h fun k1 q1 h=>Zg (G:=fun t m=>∃ (l1:LI) (v65:Value) (w1:List Zf),k1 l1=some r/\Z03 (El.int .u64) v65 w1 l1/\Fit [(3,v65)] (w1 ++ []) t m) ?_ ?_
 ·refine Z9<|Zm (fun n1 t m=>∃ (l2:LI) (i1:Int) (v106:Value) (w2:List Zf),Z5j p0 k1 n1 l2 i1=some r/\Z03 (El.int .u64) v106 w2 l2/\Fit [(0,v0),(3,v106),(4,.int .i64 (i1))] (w2 ++ []) t m) big ?_ ?_
  ·exact ⟨[],0,(.slice none 0 0),[],h,Z49,⟨⟨rfl,rfl,rfl,trivial⟩,(.no .nil)⟩⟩
  ·rintro n1 t m ⟨l2,i1,v106,w2,h,O1,hF⟩
   refine Ze hF ?_
   clear hF
   rcases n1 with _ | n1
   · exact Z07 h
   have h:Zak p0 k1 (Z5j p0 k1 n1) l2 i1=some r:=h
   unfold Zak at h
   obtain ⟨k2,q2⟩ : ∃ k,k=Z5j p0 k1 n1:=⟨_,rfl⟩
   try rw [<- q2] at h
   refine Z0<|Z0<|Z2<|Z6 rfl<|Z4 _ (Z8 rfl rfl rfl)<|Z1<|Z09 h rfl (fun h=>?_) (fun h=>?_)
   ·refine Zh<|Z0<|Z9<|bH h fun z1 e1 h=>bH h fun z2 e2 h=>bH h fun z3 e3 h=>cH h fun c1 h=>oH h fun y1 f1 h=>cH h fun c2 h=>bH h fun l3 g1 h=>Z2<|Z6 rfl<|Z6 rfl<|Z6 rfl<|Z4 _ (iz e1 (Z8 rfl rfl rfl))<|Z6 rfl<|Z4 _ (iz e2 (Z8 rfl rfl rfl))<|Z4 _ (iz e3 (Z8 rfl rfl rfl))<|Z4 _ (Zk2 (lz:=z1) (hz:=z3) rfl (Shp.rd A0) (.yes rfl) (.yes rfl) c1)<|Z4 _ (Z1a rfl (fun w hw=>Zo4 f1 ((Zvc (Z2k A0 Z2y) (lz:=z1) (hz:=z3) c1) w hw)))<|Zd (Z3i (E:=(El.int .u64)) (xs:=[y1]) (.one rfl rfl rfl BdR.nil) (.cons (p:=[.one (.int .u64 (y1))]) rfl .nil) rfl fun v121 w3 O2=>Zd (Z1m (E:=(El.int .u64)) g1 rfl O1 (.app .here) rfl (Z00 O2 .here) c2 fun v126 w4 O3=>Z6 rfl<|Z1<|bH h fun z4 e4 h=>Z2<|Z6 rfl<|Z4 _ (iz e4 (Z8 rfl rfl rfl))<|Z6 rfl<|Z1 ?_))
    rw [q2] at h
    exact ⟨n1,Nat.lt_succ_self _,l3,z4,v126,w4,h,O3,⟨⟨rfl,rfl,rfl,trivial⟩,(.all .here .nil)⟩⟩
   ·exact Zs _ rfl<|⟨l2,v106,w2,h,O1,⟨⟨rfl,trivial⟩,(.all .here .nil)⟩⟩
 ·rintro t m ⟨l1,v65,w1,h,O4,hF⟩
  refine Ze hF ?_
  clear hF
  subst q1
  refine Z0<|Z0<|Z2<|Z6 rfl<|Z1<|jH h fun k3 q3 h=>Zg (G:=fun t m=>∃ (l4:LI) (v228:Value) (w5:List Zf),k3 l4=some r/\Z03 (El.int .u64) v228 w5 l4/\Fit [(3,v228)] (w5 ++ []) t m) ?_ ?_
  ·refine Z9<|Zm (fun n2 t m=>∃ (l5:LI) (i2:Int) (v292:Value) (w6:List Zf),Z5k k3 n2 l5 i2=some r/\Z03 (El.int .u64) v292 w6 l5/\Fit [(3,v292),(5,.int .i64 (i2))] (w6 ++ []) t m) big ?_ ?_
   ·exact ⟨l1,16,v65,w1,h,O4,⟨⟨rfl,rfl,trivial⟩,(.all .here .nil)⟩⟩
   ·rintro n2 t m ⟨l5,i2,v292,w6,h,O5,hF⟩
    refine Ze hF ?_
    clear hF
    rcases n2 with _ | n2
    · exact Z07 h
    have h:Zal k3 (Z5k k3 n2) l5 i2=some r:=h
    unfold Zal at h
    obtain ⟨k4,q4⟩ : ∃ k,k=Z5k k3 n2:=⟨_,rfl⟩
    try rw [<- q4] at h
    refine Z0<|Z0<|Z2<|Z6 rfl<|Z4 _ (Z8 rfl rfl rfl)<|Z1<|Z09 h rfl (fun h=>?_) (fun h=>?_)
    ·refine Zh<|Z0<|Z9<|bH h fun z5 e5 h=>cH h fun c3 h=>bH h fun z6 e6 h=>cH h fun c4 h=>bH h fun z7 e7 h=>cH h fun c5 h=>bH h fun z8 e8 h=>cH h fun c6 h=>bH h fun z9 e9 h=>oH h fun y2 f2 h=>bH h fun z10 e10 h=>bH h fun z11 e11 h=>bH h fun z12 e12 h=>oH h fun y3 f3 h=>bH h fun z13 e13 h=>bH h fun z14 e14 h=>bH h fun z15 e15 h=>cH h fun c7 h=>bH h fun l6 g2 h=>Zt<|Z7 _ (Z0j rfl)<|Z7 _ (Z0j rfl)<|Z7 _ (Z0j rfl)<|Z7 _ (iz e5 (Z8 rfl rfl rfl))<|Z7 _ (Z5p rfl rfl (Shp.own O5) c3)<|Z7 _ (Z0j rfl)<|Z7 _ (Z0j rfl)<|Z7 _ (iz e6 (Z8 rfl rfl rfl))<|Z7 _ (Z5p rfl rfl (Shp.own O5) c4)<|Z7 _ (Z0j rfl)<|Z7 _ (Z0j rfl)<|Z7 _ (iz e7 (Z8 rfl rfl rfl))<|Z7 _ (Z5p rfl rfl (Shp.own O5) c5)<|Z7 _ (Z0j rfl)<|Z7 _ (Z0j rfl)<|Z7 _ (iz e8 (Z8 rfl rfl rfl))<|Z7 _ (Z5p rfl rfl (Shp.own O5) c6)<|Zo _ (iz e9 (Z6k (E:=(El.int .u64)) (s:=[.one (.int .u64 (l5.getD (z5).toNat 0))]) rfl (Z00 O5 .here) (Z01 c3) rfl rfl))<|Z7 _ (Z0h rfl (Zsk f2))<|Zo _ (iz e10 (Z6k (E:=(El.int .u64)) (s:=[.one (.int .u64 (l5.getD (z6).toNat 0))]) rfl (Z00 O5 .here) (Z01 c4) rfl rfl))<|Z7 _ (iz e11 (Z8 rfl rfl rfl))<|Zo _ (iz e12 (Z6k (E:=(El.int .u64)) (s:=[.one (.int .u64 (l5.getD (z7).toNat 0))]) rfl (Z00 O5 .here) (Z01 c5) rfl rfl))<|Z7 _ (Z0h rfl (Zsj f3))<|Z7 _ (iz e13 (Z8 rfl rfl rfl))<|Zo _ (iz e14 (Z6k (E:=(El.int .u64)) (s:=[.one (.int .u64 (l5.getD (z8).toNat 0))]) rfl (Z00 O5 .here) (Z01 c6) rfl rfl))<|Z7 _ (iz e15 (Z8 rfl rfl rfl))<|Z47 (Z3i (E:=(El.int .u64)) (xs:=[z15]) (.one rfl rfl rfl BdR.nil) (.cons (p:=[.one (.int .u64 (z15))]) rfl .nil) rfl fun v319 w7 O6=>⟨(by repeat (first | exact Sup.refl _ | apply Sup.cons | apply Sup.app)),Z1i rfl (Z1m (E:=(El.int .u64)) g2 rfl O5 (.app .here) rfl (Z00 O6 .here) c7 fun v324 w8 O7=>Z7 _ (Z0j rfl) (Z04 (bH h fun z16 e16 h=>Z2 (Z6 rfl (Z4 _ (iz e16 (Z8 rfl rfl rfl)) (Z6 rfl (Z1 ?_)))))))⟩)
     rw [q4] at h
     exact ⟨n2,Nat.lt_succ_self _,l6,z16,v324,w8,h,O7,⟨⟨rfl,rfl,trivial⟩,(.all .here .nil)⟩⟩
    ·exact Zs _ rfl<|⟨l5,v292,w6,h,O5,⟨⟨rfl,trivial⟩,(.all .here .nil)⟩⟩
  ·rintro t m ⟨l4,v228,w5,h,O8,hF⟩
   refine Ze hF ?_
   clear hF
   subst q3
   refine Z0<|Z2<|Z6 rfl<|Z6 rfl<|Z1<|Zj ?_
   revert h; refine Zv fun h=>?_
   subst h
   exact ⟨_,_,(.cons (.tmp rfl) .nil),(.all .here .nil),⟨_,rfl,⟨v228,w5,rfl,rfl,O8⟩⟩⟩
def Zip (p0:LI) (p1:Int) (p2:Int):OL :=
 bnd (p0.getD 4 0) fun z1 =>
 bnd (p0.getD 0 0) fun z2 =>
 bnd (p0.getD 5 0) fun z3 =>
 bnd (Za .and .u64 z1 z3) fun z4 =>
 bnd (Za .xor .u64 18446744073709551615 z1) fun z5 =>
 bnd (p0.getD 6 0) fun z6 =>
 bnd (Za .and .u64 z5 z6) fun z7 =>
 bnd (Za .xor .u64 z4 z7) fun z8 =>
 bnd (p0.getD 1 0) fun z9 =>
 bnd (Za .and .u64 z2 z9) fun z10 =>
 bnd (p0.getD 2 0) fun z11 =>
 bnd (Za .and .u64 z2 z11) fun z12 =>
 bnd (Za .xor .u64 z10 z12) fun z13 =>
 bnd (p0.getD 1 0) fun z14 =>
 bnd (p0.getD 2 0) fun z15 =>
 bnd (Za .and .u64 z14 z15) fun z16 =>
 bnd (Za .xor .u64 z13 z16) fun z17 =>
 opt (Zt3 z1 14) fun y1 =>
 opt (Zt3 z1 18) fun y2 =>
 bnd (Za .xor .u64 y1 y2) fun z18 =>
 opt (Zt3 z1 41) fun y3 =>
 bnd (Za .xor .u64 z18 y3) fun z19 =>
 bnd (p0.getD 7 0) fun z20 =>
 bnd (wrap .u64 (z20+z19)) fun z21 =>
 bnd (wrap .u64 (z21+z8)) fun z22 =>
 bnd (wrap .u64 (z22+p1)) fun z23 =>
 bnd (wrap .u64 (z23+p2)) fun z24 =>
 opt (Zt3 z2 28) fun y4 =>
 opt (Zt3 z2 34) fun y5 =>
 bnd (Za .xor .u64 y4 y5) fun z25 =>
 opt (Zt3 z2 39) fun y6 =>
 bnd (Za .xor .u64 z25 y6) fun z26 =>
 bnd (wrap .u64 (z26+z17)) fun z27 =>
 bnd (wrap .u64 (z24+z27)) fun z28 =>
 bnd (p0.getD 0 0) fun z29 =>
 bnd (p0.getD 1 0) fun z30 =>
 bnd (p0.getD 2 0) fun z31 =>
 bnd (p0.getD 3 0) fun z32 =>
 bnd (wrap .u64 (z32+z24)) fun z33 =>
 bnd (p0.getD 4 0) fun z34 =>
 bnd (p0.getD 5 0) fun z35 =>
 bnd (p0.getD 6 0) fun z36 =>
 bnd (([z28,z29,z30,z31,z33,z34,z35,z36]:LI)) fun z37 =>
 some z37
theorem Zmm {W:World} {r:(LI)} {p0:LI} {p1:Int} {p2:Int} (h:Zip p0 p1 p2=some r)  :
    Calls Tryz.prog 178 [agg [u8' p0],.int .u64 (p1),.int .u64 (p2)].toArray W (Z34 W (agg [u8' r])):=by
 unfold Zip at h
 refine Zc mo Z0k7 rfl ?_
 refine Z0<|Z2<|Zd (Z0l (s:=[u8' p0]) rfl fun b1 u1=>Zd (Zq fun b2 u2=>Z1<|Z0<|bH h fun z1 e1 h=>Z2<|Z4 _ (Z0i rfl rfl (by decide))<|Z4 _ (iz e1 (Z0c rfl .t1 rfl))<|Z6 rfl<|Z1<|Z0<|bH h fun z2 e2 h=>Z2<|Z4 _ (Z0i rfl rfl (by decide))<|Z4 _ (iz e2 (Z0c rfl .t1 rfl))<|Z6 rfl<|Z1<|Z0<|bH h fun z3 e3 h=>bH h fun z4 e4 h=>bH h fun z5 e5 h=>bH h fun z6 e6 h=>bH h fun z7 e7 h=>bH h fun z8 e8 h=>Z2<|Z6 rfl<|Z4 _ (Z0i rfl rfl (by decide))<|Z4 _ (iz e3 (Z0c rfl .t1 rfl))<|Z4 _ (iz e4 (Z8 rfl rfl rfl))<|Z6 rfl<|Z4 _ (iz e5 (Zv4 rfl rfl))<|Z4 _ (Z0i rfl rfl (by decide))<|Z4 _ (iz e6 (Z0c rfl .t1 rfl))<|Z4 _ (iz e7 (Z8 rfl rfl rfl))<|Z4 _ (iz e8 (Z8 rfl rfl rfl))<|Z6 rfl<|Z1<|Z0<|bH h fun z9 e9 h=>bH h fun z10 e10 h=>bH h fun z11 e11 h=>bH h fun z12 e12 h=>bH h fun z13 e13 h=>bH h fun z14 e14 h=>bH h fun z15 e15 h=>bH h fun z16 e16 h=>bH h fun z17 e17 h=>Z2<|Z6 rfl<|Z4 _ (Z0i rfl rfl (by decide))<|Z4 _ (iz e9 (Z0c rfl .t1 rfl))<|Z4 _ (iz e10 (Z8 rfl rfl rfl))<|Z6 rfl<|Z4 _ (Z0i rfl rfl (by decide))<|Z4 _ (iz e11 (Z0c rfl .t1 rfl))<|Z4 _ (iz e12 (Z8 rfl rfl rfl))<|Z4 _ (iz e13 (Z8 rfl rfl rfl))<|Z4 _ (Z0i rfl rfl (by decide))<|Z4 _ (iz e14 (Z0c rfl .t1 rfl))<|Z4 _ (Z0i rfl rfl (by decide))<|Z4 _ (iz e15 (Z0c rfl .t1 rfl))<|Z4 _ (iz e16 (Z8 rfl rfl rfl))<|Z4 _ (iz e17 (Z8 rfl rfl rfl))<|Z6 rfl<|Z1<|Z0<|oH h fun y1 f1 h=>oH h fun y2 f2 h=>bH h fun z18 e18 h=>oH h fun y3 f3 h=>bH h fun z19 e19 h=>bH h fun z20 e20 h=>bH h fun z21 e21 h=>bH h fun z22 e22 h=>bH h fun z23 e23 h=>bH h fun z24 e24 h=>Zt<|Z7 _ (Z0i rfl rfl (by decide))<|Z7 _ (Z0j rfl)<|Z7 _ (Z0h rfl (Z72 f1))<|Z7 _ (Z0j rfl)<|Z7 _ (Z0h rfl (Z72 f2))<|Z7 _ (iz e18 (Z8 rfl rfl rfl))<|Z7 _ (Z0j rfl)<|Z7 _ (Z0h rfl (Z72 f3))<|Z7 _ (iz e19 (Z8 rfl rfl rfl))<|Z7 _ (Z0j rfl)<|Z7 _ (Z0j rfl)<|Z7 _ (Z0j rfl)<|Zo _ (iz e20 (Z0c rfl .t1 rfl))<|Z7 _ (iz e21 (Z8 rfl rfl rfl))<|Z7 _ (iz e22 (Z8 rfl rfl rfl))<|Z7 _ (iz e23 (Z8 rfl rfl rfl))<|Z7 _ (iz e24 (Z8 rfl rfl rfl))<|Z7 _ (Z0j rfl)<|Z04<|Z0<|oH h fun y4 f4 h=>oH h fun y5 f5 h=>bH h fun z25 e25 h=>oH h fun y6 f6 h=>bH h fun z26 e26 h=>bH h fun z27 e27 h=>Z2<|Z6 rfl<|Z4 _ (Z0h rfl (Z72 f4))<|Z6 rfl<|Z4 _ (Z0h rfl (Z72 f5))<|Z4 _ (iz e25 (Z8 rfl rfl rfl))<|Z6 rfl<|Z4 _ (Z0h rfl (Z72 f6))<|Z4 _ (iz e26 (Z8 rfl rfl rfl))<|Z6 rfl<|Z4 _ (iz e27 (Z8 rfl rfl rfl))<|Z6 rfl<|Z1<|Z0<|bH h fun z28 e28 h=>bH h fun z29 e29 h=>bH h fun z30 e30 h=>bH h fun z31 e31 h=>bH h fun z32 e32 h=>bH h fun z33 e33 h=>bH h fun z34 e34 h=>bH h fun z35 e35 h=>bH h fun z36 e36 h=>bH h fun z37 e37 h=>Z2<|Z6 rfl<|Z6 rfl<|Z4 _ (iz e28 (Z8 rfl rfl rfl))<|Z4 _ (Z0i rfl rfl (by decide))<|Z4 _ (iz e29 (Z0c rfl .t1 rfl))<|Z4 _ (Z0i rfl rfl (by decide))<|Z4 _ (iz e30 (Z0c rfl .t1 rfl))<|Z4 _ (Z0i rfl rfl (by decide))<|Z4 _ (iz e31 (Z0c rfl .t1 rfl))<|Z4 _ (Z0i rfl rfl (by decide))<|Z4 _ (iz e32 (Z0c rfl .t1 rfl))<|Z6 rfl<|Z4 _ (iz e33 (Z8 rfl rfl rfl))<|Z4 _ (Z0i rfl rfl (by decide))<|Z4 _ (iz e34 (Z0c rfl .t1 rfl))<|Z4 _ (Z0i rfl rfl (by decide))<|Z4 _ (iz e35 (Z0c rfl .t1 rfl))<|Z4 _ (Z0i rfl rfl (by decide))<|Z4 _ (iz e36 (Z0c rfl .t1 rfl))<|Z4 _ (az (fun z=>agg [.ints .u64 8 z]) e37 (Zd2 (.one rfl rfl rfl (.one rfl rfl rfl (.one rfl rfl rfl (.one rfl rfl rfl (.one rfl rfl rfl (.one rfl rfl rfl (.one rfl rfl rfl (.one rfl rfl rfl BdR.nil))))))))))<|Zd (Zp (q:=[u8' z37]) rfl rfl rfl rfl rfl .here<|Z1<|Zj ?_)))
 revert h; refine Zv fun h=>?_
 subst h
 exact ⟨_,(.cons (.agg rfl .here rfl) .nil),rfl⟩
def Zbt (y1:(LI)) (k1:(LI)->OL) (k2:Int->(LI)->OL) (i1:Int) (a1:LI):OL :=
 br ((decide (i1<80))) (
 chk (inB i1 80) <|
 chk (inB i1 y1.length) <|
 bnd (G_rtable.getD (i1).toNat 0) fun z1 =>
 bnd (y1.getD (i1).toNat 0) fun z2 =>
 opt (Zip a1 z1 z2) fun y2 =>
 bnd (wrap .i64 (i1+1)) fun z3 =>
 k2 z3 y2
 ) (
 k1 a1
 )
def Z6r (y1:(LI)) (k1:(LI)->OL):Nat->Int->(LI)->OL
  | 0,_,_=>none
  | n+1,i1,a1=>Zbt y1 k1 (Z6r y1 k1 n) i1 a1
def Zh8 (p0:LI) (k1:(LI)->OL) (k2:Int->(LI)->OL) (i1:Int) (a1:LI):OL :=
 br ((decide (i1<8))) (
 chk (inB i1 8) <|
 chk (inB i1 8) <|
 bnd (a1.getD (i1).toNat 0) fun z1 =>
 bnd (p0.getD (i1).toNat 0) fun z2 =>
 bnd (wrap .u64 (z1+z2)) fun z3 =>
 chk (inB i1 8) <|
 bnd (Z28 a1 (i1).toNat z3) fun l1 =>
 bnd (wrap .i64 (i1+1)) fun z4 =>
 k2 z4 l1
 ) (
 k1 a1
 )
def Z9x (p0:LI) (k1:(LI)->OL):Nat->Int->(LI)->OL
  | 0,_,_=>none
  | n+1,i1,a1=>Zh8 p0 k1 (Z9x p0 k1 n) i1 a1
def Zjr (p0:LI) (p1:LI):OL :=
 opt (Zgg p1) fun y1 =>
 jn (fun (a1:LI)=>jn (fun (a2:LI)=>some a2) fun k1=>Z9x p0 k1 big 0 a1) fun k2=>Z6r y1 k2 big 0 p0
theorem Zo3 {W:World} {r:(LI)} {p0:LI} {p1:LI} {v1:Value} (h:Zjr p0 p1=some r) (hG:Globs W) (A1:Z6v (El.int .u8) W v1 p1) :
    Calls Tryz.prog 110 [agg [u8' p0],v1].toArray W (Z34 W (agg [u8' r])):=by
 unfold Zjr at h
 refine Zc mo Z0j3 rfl ?_
 refine Z0<|Z2<|Zd (Z0l (s:=[u8' p0]) rfl fun b1 u1=>Zd (Zq fun b2 u2=>Z1<|Z0<|oH h fun y1 f1 h=>Z2<|Z6 rfl<|Zd (Z05 rfl (fun w hw=>Zmn  f1 ((Z2k A1 Z2y) w hw)) fun v6 o1 R1=>?_)))
 obtain ⟨_,w1,rfl,rfl,O1⟩:=R1
 refine Z6 rfl<|Z1<|Z0<|Z2<|Z4 _ (Z02 (p:=[u8' p0]) rfl (.app .t1) rfl)<|Zd (Zq fun b3 u3=>Zd (Zp (q:=[u8' p0]) rfl rfl rfl rfl rfl .here<|Z1<|Z0<|Z0<|Z2<|Z6 rfl<|Z1<|jH h fun k1 q1 h=>Zg (G:=fun t m=>∃ (a1:LI),k1 a1=some r/\Fit [(2,pt' b1),(4,pt' b2),(6,pt' b3)] (ck b3 144 [u8' a1]::(ck b2 144 [u8' (replicate 8 0)]::(ck b1 144 [u8' p0] :: []))) t m) ?_ ?_))
 ·refine Z9<|Zm (fun n1 t m=>∃ (i1:Int) (a2:LI),Z6r y1 k1 n1 i1 a2=some r/\Fit [(2,pt' b1),(4,pt' b2),(5,v6),(6,pt' b3),(7,.int .i64 (i1))] (ck b3 144 [u8' a2]::(w1++(ck b2 144 [u8' (replicate 8 0)]::(ck b1 144 [u8' p0] :: [])))) t m) big ?_ ?_
  ·exact ⟨0,p0,h,⟨⟨rfl,rfl,rfl,rfl,rfl,trivial⟩,(.o (.all .here (.o (.o .nil))))⟩⟩
  ·rintro n1 t m ⟨i1,a2,h,hF⟩
   refine Ze hF ?_
   clear hF
   rcases n1 with _ | n1
   · exact Z07 h
   have h:Zbt y1 k1 (Z6r y1 k1 n1) i1 a2=some r:=h
   unfold Zbt at h
   obtain ⟨k2,q2⟩ : ∃ k,k=Z6r y1 k1 n1:=⟨_,rfl⟩
   try rw [<- q2] at h
   refine Z0<|Z0<|Z2<|Z6 rfl<|Z4 _ (Z8 rfl rfl rfl)<|Z1<|Z09 h rfl (fun h=>?_) (fun h=>?_)
   ·refine Zh<|Z0<|Z9<|cH h fun c1 h=>cH h fun c2 h=>bH h fun z1 e1 h=>bH h fun z2 e2 h=>oH h fun y2 f2 h=>Zt<|Z7 _ (Z0j rfl)<|Z7 _ (Z0i rfl rfl (Z08 c1))<|Z7 _ (Z0j rfl)<|Z7 _ (Z0j rfl)<|Z7 _ (Z5p rfl rfl (Shp.own O1) c2)<|Zo _ (Z02 (p:=[u8' a2]) rfl .here rfl)<|Zo _ (iz e1 (Zzy rfl (hG.g3) (by simp) (Z01 c1)))<|Zo _ (iz e2 (Z6k (E:=(El.int .u64)) (s:=[.one (.int .u64 (y1.getD (i1).toNat 0))]) rfl (Z00 O1 .t1) (Z01 c2) rfl rfl))<|Z7 _ (Z0h rfl (Zmm f2))<|Z1i rfl (Zp (q:=[u8' y2]) rfl rfl rfl rfl rfl .here<|Z04<|bH h fun z3 e3 h=>Z2<|Z6 rfl<|Z4 _ (iz e3 (Z8 rfl rfl rfl))<|Z6 rfl<|Z1 ?_)
    rw [q2] at h
    exact ⟨n1,Nat.lt_succ_self _,z3,y2,h,⟨⟨rfl,rfl,rfl,rfl,rfl,trivial⟩,(.o (.all .here (.o (.o .nil))))⟩⟩
   ·exact Zs _ rfl<|⟨a2,h,⟨⟨rfl,rfl,rfl,trivial⟩,(.o (.one (.app .here) (.one (.app .here) .nil)))⟩⟩
 ·rintro t m ⟨a1,h,hF⟩
  refine Ze hF ?_
  clear hF
  subst q1
  refine Z0<|Z0<|Z2<|Z6 rfl<|Z1<|jH h fun k3 q3 h=>Zg (G:=fun t m=>∃ (a3:LI),k3 a3=some r/\Fit [(4,pt' b2),(6,pt' b3)] (ck b3 144 [u8' a3]::(ck b2 144 [u8' (replicate 8 0)]::(ck b1 144 [u8' p0] :: []))) t m) ?_ ?_
  ·refine Z9<|Zm (fun n2 t m=>∃ (i2:Int) (a4:LI),Z9x p0 k3 n2 i2 a4=some r/\Fit [(2,pt' b1),(4,pt' b2),(6,pt' b3),(8,.int .i64 (i2))] (ck b3 144 [u8' a4]::(ck b2 144 [u8' (replicate 8 0)]::(ck b1 144 [u8' p0] :: []))) t m) big ?_ ?_
   ·exact ⟨0,a1,h,⟨⟨rfl,rfl,rfl,rfl,trivial⟩,(.o (.o (.o .nil)))⟩⟩
   ·rintro n2 t m ⟨i2,a4,h,hF⟩
    refine Ze hF ?_
    clear hF
    rcases n2 with _ | n2
    · exact Z07 h
    have h:Zh8 p0 k3 (Z9x p0 k3 n2) i2 a4=some r:=h
    unfold Zh8 at h
    obtain ⟨k4,q4⟩ : ∃ k,k=Z9x p0 k3 n2:=⟨_,rfl⟩
    try rw [<- q4] at h
    refine Z0<|Z0<|Z2<|Z6 rfl<|Z4 _ (Z8 rfl rfl rfl)<|Z1<|Z09 h rfl (fun h=>?_) (fun h=>?_)
    ·refine Zh<|Z0<|Z9<|cH h fun c3 h=>cH h fun c4 h=>bH h fun z4 e4 h=>bH h fun z5 e5 h=>bH h fun z6 e6 h=>cH h fun c5 h=>bH h fun l1 g1 h=>Zt<|Z7 _ (Z0j rfl)<|Z7 _ (Z0j rfl)<|Z7 _ (Z0i rfl rfl (Z08 c3))<|Z7 _ (Z0j rfl)<|Z7 _ (Z0i rfl rfl (Z08 c4))<|Zo _ (iz e4 (Z1w (base:=0) rfl .here rfl (Z01 c3)))<|Zo _ (iz e5 (Z1w (base:=0) rfl .t2 rfl (Z01 c4)))<|Z7 _ (iz e6 (Z8 rfl rfl rfl))<|Z7 _ (Z0i rfl rfl (Z08 c5))<|Z1i rfl (Z1h (q:=[u8' l1]) (base:=0) g1 rfl rfl rfl (Z01 c5) rfl .here<|Z04<|bH h fun z7 e7 h=>Z2<|Z6 rfl<|Z4 _ (iz e7 (Z8 rfl rfl rfl))<|Z6 rfl<|Z1 ?_)
     rw [q4] at h
     exact ⟨n2,Nat.lt_succ_self _,z7,l1,h,⟨⟨rfl,rfl,rfl,rfl,trivial⟩,(.o (.o (.o .nil)))⟩⟩
    ·exact Zs _ rfl<|⟨a4,h,⟨⟨rfl,rfl,trivial⟩,(.o (.o (.o .nil)))⟩⟩
  ·rintro t m ⟨a3,h,hF⟩
   refine Ze hF ?_
   clear hF
   subst q3
   refine Z0<|Z2<|Z4 _ (Z02 (p:=[u8' a3]) rfl .here rfl)<|Zd (Zp (q:=[u8' a3]) rfl rfl rfl rfl rfl .t1<|Z1<|Zj ?_)
   revert h; refine Zv fun h=>?_
   subst h
   exact ⟨_,(.cons (.agg rfl .t1 rfl) .nil),rfl⟩
def Zdw (l1:LI) (k1:(LI)->OL) (k2:Int->(LI)->OL) (i1:Int) (a1:LI):OL :=
 br ((decide (i1<(l1.length:Int)))) (
 bnd (wrap .i64 (i1+128)) fun z1 =>
 chk (Zfh i1 z1 l1.length) <|
 opt (Zjr a1 ((l1.drop (i1).toNat).take ((z1).toNat-(i1).toNat))) fun y1 =>
 bnd (wrap .i64 (i1+128)) fun z2 =>
 k2 z2 y1
 ) (
 k1 a1
 )
def Z73 (l1:LI) (k1:(LI)->OL):Nat->Int->(LI)->OL
  | 0,_,_=>none
  | n+1,i1,a1=>Zdw l1 k1 (Z73 l1 k1 n) i1 a1
def Zjp (i1:Int) (y1:(LI)) (k1:(LI)->OL) (k2:Int->(LI)->OL) (i2:Int) (a1:LI):OL :=
 br ((decide (i2<8))) (
 bnd (wrap .i64 (8*i1)) fun z1 =>
 bnd (wrap .i64 (z1+i2)) fun z2 =>
 chk (inB i2 y1.length) <|
 bnd (y1.getD (i2).toNat 0) fun z3 =>
 chk (inB z2 64) <|
 bnd (Z28 a1 (z2).toNat z3) fun l1 =>
 bnd (wrap .i64 (i2+1)) fun z4 =>
 k2 z4 l1
 ) (
 k1 a1
 )
def Zdx (i1:Int) (y1:(LI)) (k1:(LI)->OL):Nat->Int->(LI)->OL
  | 0,_,_=>none
  | n+1,i2,a1=>Zjp i1 y1 k1 (Zdx i1 y1 k1 n) i2 a1
def Zjo (a1:LI) (k1:(LI)->OL) (k2:Int->(LI)->OL) (i1:Int) (a2:LI):OL :=
 br ((decide (i1<8))) (
 chk (inB i1 8) <|
 bnd (a1.getD (i1).toNat 0) fun z1 =>
 opt (Zfo z1) fun y1 =>
 jn (fun (a3:LI)=>bnd (wrap .i64 (i1+1)) fun z2 =>
 k2 z2 a3) fun k3=>Zdx i1 y1 k3 big 0 a2
 ) (
 k1 a2
 )
def Zbs (a1:LI) (k1:(LI)->OL):Nat->Int->(LI)->OL
  | 0,_,_=>none
  | n+1,i1,a2=>Zjo a1 k1 (Zbs a1 k1 n) i1 a2
def Zlh (p0:LI):OL :=
 chk (decide ((([]:LI).length+p0.length)*1<=140737488355328)) <|
 bnd (([]:LI)++p0) fun l1 =>
 bnd (wrap .u64 (p0.length:Int)) fun z1 =>
 opt (Zo2 z1) fun y1 =>
 chk (decide ((l1.length+y1.length)*1<=140737488355328)) <|
 bnd (l1++y1) fun l2 =>
 jn (fun (a1:LI)=>jn (fun (a2:LI)=>some a2) fun k1=>Zbs a1 k1 big 0 (replicate 64 0)) fun k2=>Z73 l2 k2 big 0 G_rfirst
theorem Zjq {W:World} {r:(LI)} {p0:LI} {v0:Value} (h:Zlh p0=some r) (hG:Globs W) (A0:Z6v (El.int .u8) W v0 p0) :
    Calls Tryz.prog 58 [v0].toArray W (Z34 W (agg [b6' r])):=by
 unfold Zlh at h
 refine Zc mo ok58 rfl ?_
 refine Z0<|Z2<|Zd (Zq fun b1 u1=>Z1<|Z0<|Z2<|Z6 rfl<|Z1<|Z0<|cH h fun c1 h=>bH h fun l1 g1 h=>Z2<|Z6 rfl<|Z6 rfl<|Zd (Z1m (E:=(El.int .u8)) g1 rfl Z49 .here rfl (Z2k A0 Z2y) c1 fun v7 w1 O1=>Z6 rfl<|Z1<|Z0<|bH h fun z1 e1 h=>oH h fun y1 f1 h=>cH h fun c2 h=>bH h fun l2 g2 h=>Z2<|Z6 rfl<|Z6 rfl<|Z4 _ (Z3l rfl (Shp.rd A0))<|Z4 _ (iz e1 (Z33 rfl))<|Zd (Z05 rfl (fun w hw=>Zpx  f1 ) fun v13 Msv1 R1=>?_)))
 obtain ⟨_,w2,rfl,rfl,O2⟩:=R1
 refine Zd (Z1m (E:=(El.int .u8)) g2 rfl O1 (.app .here) rfl (Z00 O2 .here) c2 fun v20 w3 O3=>Z6 rfl<|Z1<|Z0<|Z2<|Z4 _ (Zyc (o0:=0) (off:=0) rfl (hG.g0) (by simp) rfl)<|Zd (Zq fun b2 u2=>Zd (Zp (q:=[u8' G_rfirst]) rfl rfl rfl rfl rfl .here<|Z1<|Z0<|Z0<|Z2<|Z6 rfl<|Z1<|jH h fun k1 q1 h=>Zg (G:=fun t m=>∃ (a1:LI),k1 a1=some r/\Fit [(2,pt' b1),(4,pt' b2)] (ck b2 144 [u8' a1]::(ck b1 94 [b6' (replicate 64 0)] :: [])) t m) ?_ ?_)))
 ·refine Z9<|Zm (fun n1 t m=>∃ (i1:Int) (a2:LI),Z73 l2 k1 n1 i1 a2=some r/\Fit [(2,pt' b1),(3,v20),(4,pt' b2),(5,.int .i64 (i1))] (ck b2 144 [u8' a2]::(w3++(ck b1 94 [b6' (replicate 64 0)] :: []))) t m) big ?_ ?_
  ·exact ⟨0,G_rfirst,h,⟨⟨rfl,rfl,rfl,rfl,trivial⟩,(.o (.all .here (.one (.app .here) .nil)))⟩⟩
  ·rintro n1 t m ⟨i1,a2,h,hF⟩
   refine Ze hF ?_
   clear hF
   rcases n1 with _ | n1
   · exact Z07 h
   have h:Zdw l2 k1 (Z73 l2 k1 n1) i1 a2=some r:=h
   unfold Zdw at h
   obtain ⟨k2,q2⟩ : ∃ k,k=Z73 l2 k1 n1:=⟨_,rfl⟩
   try rw [<- q2] at h
   refine Z0<|Z0<|Z2<|Z6 rfl<|Z6 rfl<|Z4 _ (Z3l rfl (Shp.own O3))<|Z4 _ (Z8 rfl rfl rfl)<|Z1<|Z09 h rfl (fun h=>?_) (fun h=>?_)
   ·refine Zh<|Z0<|Z9<|bH h fun z2 e2 h=>cH h fun c3 h=>oH h fun y2 f2 h=>Zt<|Z7 _ (Z0j rfl)<|Z7 _ (Z0j rfl)<|Z7 _ (Z0j rfl)<|Z7 _ (iz e2 (Z8 rfl rfl rfl))<|Z7 _ (Zk2 (lz:=i1) (hz:=z2) rfl (Shp.own O3) (.yes rfl) (.yes rfl) c3)<|Zo _ (Z02 (p:=[u8' a2]) rfl .here rfl)<|Zo _ (Z1a rfl (fun w hw=>Zo3 f2 (hG.at hw (by simp)) ((Zvc (Z00 O3 .t1) (lz:=i1) (hz:=z2) c3) w hw)))<|Z1i rfl (Zp (q:=[u8' y2]) rfl rfl rfl rfl rfl .here<|Z04<|bH h fun z3 e3 h=>Z2<|Z6 rfl<|Z4 _ (iz e3 (Z8 rfl rfl rfl))<|Z6 rfl<|Z1 ?_)
    rw [q2] at h
    exact ⟨n1,Nat.lt_succ_self _,z3,y2,h,⟨⟨rfl,rfl,rfl,rfl,trivial⟩,(.o (.all .here (.o .nil)))⟩⟩
   ·exact Zs _ rfl<|⟨a2,h,⟨⟨rfl,rfl,trivial⟩,(.o (.one (.app .here) .nil))⟩⟩
 ·rintro t m ⟨a1,h,hF⟩
  refine Ze hF ?_
  clear hF
  subst q1
  refine Z0<|Z2<|Zd (Zq fun b3 u3=>Z1<|Z0<|Z0<|Z2<|Z6 rfl<|Z1<|jH h fun k3 q3 h=>Zg (G:=fun t m=>∃ (a3:LI),k3 a3=some r/\Fit [(2,pt' b1),(6,pt' b3)] (ck b3 94 [b6' a3]::(ck b2 144 [u8' a1]::(ck b1 94 [b6' (replicate 64 0)] :: []))) t m) ?_ ?_)
  ·refine Z9<|Zm (fun n2 t m=>∃ (i2:Int) (a4:LI),Zbs a1 k3 n2 i2 a4=some r/\Fit [(2,pt' b1),(4,pt' b2),(6,pt' b3),(7,.int .i64 (i2))] (ck b3 94 [b6' a4]::(ck b2 144 [u8' a1]::(ck b1 94 [b6' (replicate 64 0)] :: []))) t m) big ?_ ?_
   ·exact ⟨0,(replicate 64 0),h,⟨⟨rfl,rfl,rfl,rfl,trivial⟩,(.o (.o (.o .nil)))⟩⟩
   ·rintro n2 t m ⟨i2,a4,h,hF⟩
    refine Ze hF ?_
    clear hF
    rcases n2 with _ | n2
    · exact Z07 h
    have h:Zjo a1 k3 (Zbs a1 k3 n2) i2 a4=some r:=h
    unfold Zjo at h
    obtain ⟨k4,q4⟩ : ∃ k,k=Zbs a1 k3 n2:=⟨_,rfl⟩
    try rw [<- q4] at h
    refine Z0<|Z0<|Z2<|Z6 rfl<|Z4 _ (Z8 rfl rfl rfl)<|Z1<|Z09 h rfl (fun h=>?_) (fun h=>?_)
    ·refine Zh<|Z0<|Z9<|Z0<|cH h fun c4 h=>bH h fun z4 e4 h=>oH h fun y3 f3 h=>Z2<|Z6 rfl<|Z4 _ (Z0i rfl rfl (Z08 c4))<|Z4 _ (iz e4 (Z1w (base:=0) rfl .t1 rfl (Z01 c4)))<|Zd (Z05 rfl (fun w hw=>Zdy  f3 ) fun v531 Msv2 R2=>?_)
     obtain ⟨_,w4,rfl,rfl,O4⟩:=R2
     refine Z6 rfl<|Z1<|Z0<|Z2<|Z6 rfl<|Z1<|jH h fun k5 q5 h=>Zg (G:=fun t m=>∃ (a5:LI),k5 a5=some r/\Fit [(2,pt' b1),(4,pt' b2),(6,pt' b3),(7,.int .i64 (i2))] (ck b3 94 [b6' a5]::(ck b2 144 [u8' a1]::(ck b1 94 [b6' (replicate 64 0)] :: []))) t m) ?_ ?_
     ·refine Z9<|Zm (fun n3 t m=>∃ (i3:Int) (a6:LI),Zdx i2 y3 k5 n3 i3 a6=some r/\Fit [(2,pt' b1),(4,pt' b2),(6,pt' b3),(7,.int .i64 (i2)),(8,v531),(9,.int .i64 (i3))] (w4++(ck b3 94 [b6' a6]::(ck b2 144 [u8' a1]::(ck b1 94 [b6' (replicate 64 0)] :: [])))) t m) big ?_ ?_
      ·exact ⟨0,a4,h,⟨⟨rfl,rfl,rfl,rfl,rfl,rfl,trivial⟩,(.all .here (.o (.o (.o .nil))))⟩⟩
      ·rintro n3 t m ⟨i3,a6,h,hF⟩
       refine Ze hF ?_
       clear hF
       rcases n3 with _ | n3
       · exact Z07 h
       have h:Zjp i2 y3 k5 (Zdx i2 y3 k5 n3) i3 a6=some r:=h
       unfold Zjp at h
       obtain ⟨k6,q6⟩ : ∃ k,k=Zdx i2 y3 k5 n3:=⟨_,rfl⟩
       try rw [<- q6] at h
       refine Z0<|Z0<|Z2<|Z6 rfl<|Z4 _ (Z8 rfl rfl rfl)<|Z1<|Z09 h rfl (fun h=>?_) (fun h=>?_)
       ·refine Zh<|Z0<|Z9<|bH h fun z5 e5 h=>bH h fun z6 e6 h=>cH h fun c5 h=>bH h fun z7 e7 h=>cH h fun c6 h=>bH h fun l3 g3 h=>Z2<|Z6 rfl<|Z4 _ (iz e5 (Z8 rfl rfl rfl))<|Z6 rfl<|Z4 _ (iz e6 (Z8 rfl rfl rfl))<|Z6 rfl<|Z6 rfl<|Z4 _ (Z5p rfl rfl (Shp.own O4) c5)<|Z4 _ (iz e7 (Z6k (E:=(El.int .u8)) (s:=[.one (.int .u8 (y3.getD (i3).toNat 0))]) rfl (Z00 O4 .here) (Z01 c5) rfl rfl))<|Z4 _ (Z0i rfl rfl (Z08 c6))<|Zd (Z1h (q:=[b6' l3]) (base:=0) g3 rfl rfl rfl (Z01 c6) rfl (.app .here)<|Z1<|bH h fun z8 e8 h=>Z2<|Z6 rfl<|Z4 _ (iz e8 (Z8 rfl rfl rfl))<|Z6 rfl<|Z1 ?_)
        rw [q6] at h
        exact ⟨n3,Nat.lt_succ_self _,z8,l3,h,⟨⟨rfl,rfl,rfl,rfl,rfl,rfl,trivial⟩,(.all .here (.o (.o (.o .nil))))⟩⟩
       ·exact Zs _ rfl<|⟨a6,h,⟨⟨rfl,rfl,rfl,rfl,trivial⟩,(.one (.app .here) (.one (.app .here) (.one (.app .here) .nil)))⟩⟩
     ·rintro t m ⟨a5,h,hF⟩
      refine Ze hF ?_
      clear hF
      subst q5
      refine bH h fun z9 e9 h=>Z2<|Z6 rfl<|Z4 _ (iz e9 (Z8 rfl rfl rfl))<|Z6 rfl<|Z1 ?_
      rw [q4] at h
      exact ⟨n2,Nat.lt_succ_self _,z9,a5,h,⟨⟨rfl,rfl,rfl,rfl,trivial⟩,(.o (.o (.o .nil)))⟩⟩
    ·exact Zs _ rfl<|⟨a4,h,⟨⟨rfl,rfl,trivial⟩,(.o (.o (.o .nil)))⟩⟩
  ·rintro t m ⟨a3,h,hF⟩
   refine Ze hF ?_
   clear hF
   subst q3
   refine Z0<|Z2<|Z4 _ (Z02 (p:=[b6' a3]) rfl .here rfl)<|Zd (Zp (q:=[b6' a3]) rfl rfl rfl rfl rfl .t2<|Z1<|Zj ?_)
   revert h; refine Zv fun h=>?_
   subst h
   exact ⟨_,(.cons (.agg rfl .t2 rfl) .nil),rfl⟩
def Zcn (y1:(LI)) (k1:(LI)->OL) (k2:(LI)->Int->OL) (l1:LI) (i1:Int):OL :=
 br ((decide (i1<64))) (
 chk (inB i1 64) <|
 bnd (y1.getD (i1).toNat 0) fun z1 =>
 chk (decide ((l1.length+([z1]:LI).length)*1<=140737488355328)) <|
 bnd (l1++([z1]:LI)) fun l2 =>
 bnd (wrap .i64 (i1+1)) fun z2 =>
 k2 l2 z2
 ) (
 k1 l1
 )
def Z84 (y1:(LI)) (k1:(LI)->OL):Nat->(LI)->Int->OL
  | 0,_,_=>none
  | n+1,l1,i1=>Zcn y1 k1 (Z84 y1 k1 n) l1 i1
def Zha (p0:LI):OL :=
 opt (Zlh p0) fun y1 =>
 jn (fun (l1:LI)=>some l1) fun k1=>Z84 y1 k1 big [] 0
theorem Zju {W:World} {r:(LI)} {p0:LI} {v0:Value} (h:Zha p0=some r) (hG:Globs W) (A0:Z6v (El.int .u8) W v0 p0) :
    Calls Tryz.prog 226 [v0].toArray W (Zd9 W [] (fun v Ms=>∃ (u0:Value) (M1:List Zf),v=u0/\Ms = [.all M1]/\Z03 (El.int .u8) u0 M1 r)):=by
 unfold Zha at h
 refine Z0e mo Z0l9 rfl (Zgt _) ?_
 refine Z0<|Z2<|Z6 rfl<|Z1<|Z0<|oH h fun y1 f1 h=>Z2<|Z6 rfl<|Z4 _ (Z1a rfl (fun w hw=>Zjq f1 (hG.at hw (by simp)) ((Z2k A0 Z2y) w hw)))<|Zd (Zq fun b1 hb1=>Zd (Zp (q:=[b6' y1]) rfl rfl rfl rfl rfl .here<|Z1<|Z0<|Z2<|Z6 rfl<|Z1<|Z0<|Z0<|Z2<|Z6 rfl<|Z1<|jH h fun k1 q1 h=>Zg (G:=fun t m=>∃ (l1:LI) (v61:Value) (w1:List Zf),k1 l1=some r/\Z03 (El.int .u8) v61 w1 l1/\Fit [(4,v61)] (ck b1 94 [b6' y1]::(w1 ++ [])) t m) ?_ ?_))
 ·refine Z9<|Zm (fun n1 t m=>∃ (l2:LI) (i1:Int) (v98:Value) (w2:List Zf),Z84 y1 k1 n1 l2 i1=some r/\Z03 (El.int .u8) v98 w2 l2/\Fit [(3,pt' b1),(4,v98),(5,.int .i64 (i1))] (ck b1 94 [b6' y1]::(w2 ++ [])) t m) big ?_ ?_
  ·exact ⟨[],0,(.slice none 0 0),[],h,Z49,⟨⟨rfl,rfl,rfl,trivial⟩,(.o (.no .nil))⟩⟩
  ·rintro n1 t m ⟨l2,i1,v98,w2,h,O1,hF⟩
   refine Ze hF ?_
   clear hF
   rcases n1 with _ | n1
   · exact Z07 h
   have h:Zcn y1 k1 (Z84 y1 k1 n1) l2 i1=some r:=h
   unfold Zcn at h
   obtain ⟨k2,q2⟩ : ∃ k,k=Z84 y1 k1 n1:=⟨_,rfl⟩
   try rw [<- q2] at h
   refine Z0<|Z0<|Z2<|Z6 rfl<|Z4 _ (Z8 rfl rfl rfl)<|Z1<|Z09 h rfl (fun h=>?_) (fun h=>?_)
   ·refine Zh<|Z0<|Z9<|cH h fun c1 h=>bH h fun z1 e1 h=>cH h fun c2 h=>bH h fun l3 g1 h=>Z2<|Z6 rfl<|Z6 rfl<|Z4 _ (Z0i rfl rfl (Z08 c1))<|Z4 _ (iz e1 (Z1w (base:=0) rfl .here rfl (Z01 c1)))<|Zd (Z3i (E:=(El.int .u8)) (xs:=[z1]) (.one rfl rfl rfl BdR.nil) (.cons (p:=[.one (.int .u8 (z1))]) rfl .nil) rfl fun v110 w3 O2=>Zd (Z1m (E:=(El.int .u8)) g1 rfl O1 (.app .t1) rfl (Z00 O2 .here) c2 fun v115 w4 O3=>Z6 rfl<|Z1<|bH h fun z2 e2 h=>Z2<|Z6 rfl<|Z4 _ (iz e2 (Z8 rfl rfl rfl))<|Z6 rfl<|Z1 ?_))
    rw [q2] at h
    exact ⟨n1,Nat.lt_succ_self _,l3,z2,v115,w4,h,O3,⟨⟨rfl,rfl,rfl,trivial⟩,(.one (.app (.app .here)) (.all .here .nil))⟩⟩
   ·exact Zs _ rfl<|⟨l2,v98,w2,h,O1,⟨⟨rfl,trivial⟩,(.o (.all .here .nil))⟩⟩
 ·rintro t m ⟨l1,v61,w1,h,O4,hF⟩
  refine Ze hF ?_
  clear hF
  subst q1
  refine Z0<|Z2<|Z6 rfl<|Z6 rfl<|Z1<|Zj ?_
  revert h; refine Zv fun h=>?_
  subst h
  exact ⟨_,_,(.cons (.tmp rfl) .nil),(.all .t1 .nil),⟨_,rfl,⟨v61,w1,rfl,rfl,O4⟩⟩⟩
def Zag (p0:Int) (k1:(LI)->OL) (k2:(LI)->OL) (l1:LI):OL :=
 bnd (Int.tmod p0 64) fun z1 =>
 bnd (wrap .u64 (l1.length:Int)) fun z2 =>
 bnd (wrap .u64 (z1+z2)) fun z3 =>
 bnd (wrap .u64 (z3+8)) fun z4 =>
 bnd (Int.tmod z4 64) fun z5 =>
 br ((z5 != 0)) (
 chk (decide ((l1.length+([0]:LI).length)*1<=140737488355328)) <|
 bnd (l1++([0]:LI)) fun l2 =>
 k2 l2
 ) (
 k1 l1
 )
def Z97 (p0:Int) (k1:(LI)->OL):Nat->(LI)->OL
  | 0,_=>none
  | n+1,l1=>Zag p0 k1 (Z97 p0 k1 n) l1
def Zdu (z1:Int) (k1:(LI)->OL) (k2:(LI)->Int->OL) (l1:LI) (i1:Int):OL :=
 br ((decide (i1≥0))) (
 bnd (wrap .i64 (8*i1)) fun z2 =>
 chk (decide (0<=z2)) <|
 bnd (Z0f .u64 z1 z2) fun z3 =>
 bnd (wrap .u8 z3) fun z4 =>
 chk (decide ((l1.length+([z4]:LI).length)*1<=140737488355328)) <|
 bnd (l1++([z4]:LI)) fun l2 =>
 bnd (wrap .i64 (i1-1)) fun z5 =>
 k2 l2 z5
 ) (
 k1 l1
 )
def Z6c (z1:Int) (k1:(LI)->OL):Nat->(LI)->Int->OL
  | 0,_,_=>none
  | n+1,l1,i1=>Zdu z1 k1 (Z6c z1 k1 n) l1 i1
def Znz (p0:Int):OL :=
 jn (fun (l1:LI)=>bnd (wrap .u64 (p0*8)) fun z1 =>
 jn (fun (l2:LI)=>some l2) fun k1=>Z6c z1 k1 big l1 7) fun k2=>Z97 p0 k2 big ([128]:LI)
theorem Zpv {W:World} {r:(LI)} {p0:Int} (h:Znz p0=some r)  :
    Calls Tryz.prog 233 [.int .u64 (p0)].toArray W (Zd9 W [] (fun v Ms=>∃ (u0:Value) (M1:List Zf),v=u0/\Ms = [.all M1]/\Z03 (El.int .u8) u0 M1 r)):=by
 unfold Znz at h
 refine Z0e mo Z0lg rfl (Zgt _) ?_
 refine Z0<|Z2<|Z6 rfl<|Z1<|Z0<|Z2<|Zd (Z3i (E:=(El.int .u8)) (xs:=[128]) (.one rfl rfl rfl BdR.nil) (.cons (p:=[.one (.int .u8 (128))]) rfl .nil) rfl fun v3 w1 O1=>Z6 rfl<|Z1<|Z0<|jH h fun k1 q1 h=>Zg (G:=fun t m=>∃ (l1:LI) (v64:Value) (w2:List Zf),k1 l1=some r/\Z03 (El.int .u8) v64 w2 l1/\Fit [(0,.int .u64 (p0)),(3,v64)] (w2 ++ []) t m) ?_ ?_)
 ·refine Z9<|Zm (fun n1 t m=>∃ (l2:LI) (v105:Value) (w3:List Zf),Z97 p0 k1 n1 l2=some r/\Z03 (El.int .u8) v105 w3 l2/\Fit [(0,.int .u64 (p0)),(3,v105)] (w3 ++ []) t m) big ?_ ?_
  ·exact ⟨([128]:LI),v3,w1,h,O1,⟨⟨rfl,rfl,trivial⟩,(.all .here .nil)⟩⟩
  ·rintro n1 t m ⟨l2,v105,w3,h,O2,hF⟩
   refine Ze hF ?_
   clear hF
   rcases n1 with _ | n1
   · exact Z07 h
   have h:Zag p0 k1 (Z97 p0 k1 n1) l2=some r:=h
   unfold Zag at h
   obtain ⟨k2,q2⟩ : ∃ k,k=Z97 p0 k1 n1:=⟨_,rfl⟩
   try rw [<- q2] at h
   refine Z0<|Z0<|bH h fun z1 e1 h=>bH h fun z2 e2 h=>bH h fun z3 e3 h=>bH h fun z4 e4 h=>bH h fun z5 e5 h=>Z2<|Z6 rfl<|Z4 _ (iz e1 (Z8c rfl rfl (by decide)))<|Z6 rfl<|Z4 _ (Z3l rfl (Shp.own O2))<|Z4 _ (iz e2 (Z33 rfl))<|Z4 _ (iz e3 (Z8 rfl rfl rfl))<|Z4 _ (iz e4 (Z8 rfl rfl rfl))<|Z4 _ (iz e5 (Z8c rfl rfl (by decide)))<|Z4 _ (Z8 rfl rfl rfl)<|Z1<|Z09 h rfl (fun h=>?_) (fun h=>?_)
   ·refine Zh<|Z9<|cH h fun c1 h=>bH h fun l3 g1 h=>Z2<|Z6 rfl<|Zd (Z3i (E:=(El.int .u8)) (xs:=[0]) (.one rfl rfl rfl BdR.nil) (.cons (p:=[.one (.int .u8 (0))]) rfl .nil) rfl fun v119 w4 O3=>Zd (Z1m (E:=(El.int .u8)) g1 rfl O2 (.app .here) rfl (Z00 O3 .here) c1 fun v124 w5 O4=>Z6 rfl<|Z1 ?_))
    rw [q2] at h
    exact ⟨n1,Nat.lt_succ_self _,l3,v124,w5,h,O4,⟨⟨rfl,rfl,trivial⟩,(.all .here .nil)⟩⟩
   ·exact Zs _ rfl<|⟨l2,v105,w3,h,O2,⟨⟨rfl,rfl,trivial⟩,(.all .here .nil)⟩⟩
 ·rintro t m ⟨l1,v64,w2,h,O5,hF⟩
  refine Ze hF ?_
  clear hF
  subst q1
  refine Z0<|bH h fun z6 e6 h=>Z2<|Z6 rfl<|Z4 _ (iz e6 (Z8 rfl rfl rfl))<|Z6 rfl<|Z1<|Z0<|Z0<|Z2<|Z6 rfl<|Z1<|jH h fun k3 q3 h=>Zg (G:=fun t m=>∃ (l4:LI) (v189:Value) (w6:List Zf),k3 l4=some r/\Z03 (El.int .u8) v189 w6 l4/\Fit [(3,v189)] (w6 ++ []) t m) ?_ ?_
  ·refine Z9<|Zm (fun n2 t m=>∃ (l5:LI) (i1:Int) (v229:Value) (w7:List Zf),Z6c z6 k3 n2 l5 i1=some r/\Z03 (El.int .u8) v229 w7 l5/\Fit [(3,v229),(4,.int .u64 (z6)),(5,.int .i64 (i1))] (w7 ++ []) t m) big ?_ ?_
   ·exact ⟨l1,7,v64,w2,h,O5,⟨⟨rfl,rfl,rfl,trivial⟩,(.all .here .nil)⟩⟩
   ·rintro n2 t m ⟨l5,i1,v229,w7,h,O6,hF⟩
    refine Ze hF ?_
    clear hF
    rcases n2 with _ | n2
    · exact Z07 h
    have h:Zdu z6 k3 (Z6c z6 k3 n2) l5 i1=some r:=h
    unfold Zdu at h
    obtain ⟨k4,q4⟩ : ∃ k,k=Z6c z6 k3 n2:=⟨_,rfl⟩
    try rw [<- q4] at h
    refine Z0<|Z0<|Z2<|Z6 rfl<|Z4 _ (Z8 rfl rfl rfl)<|Z1<|Z09 h rfl (fun h=>?_) (fun h=>?_)
    ·refine Zh<|Z0<|Z9<|bH h fun z7 e7 h=>cH h fun c2 h=>bH h fun z8 e8 h=>bH h fun z9 e9 h=>cH h fun c3 h=>bH h fun l6 g2 h=>Z2<|Z6 rfl<|Z6 rfl<|Z6 rfl<|Z4 _ (iz e7 (Z8 rfl rfl rfl))<|Z4 _ (iz e8 (Z48 rfl rfl (of_decide_eq_true c2)))<|Z4 _ (iz e9 (Z33 rfl))<|Zd (Z3i (E:=(El.int .u8)) (xs:=[z9]) (.one rfl rfl rfl BdR.nil) (.cons (p:=[.one (.int .u8 (z9))]) rfl .nil) rfl fun v243 w8 O7=>Zd (Z1m (E:=(El.int .u8)) g2 rfl O6 (.app .here) rfl (Z00 O7 .here) c3 fun v248 w9 O8=>Z6 rfl<|Z1<|bH h fun z10 e10 h=>Z2<|Z6 rfl<|Z4 _ (iz e10 (Z8 rfl rfl rfl))<|Z6 rfl<|Z1 ?_))
     rw [q4] at h
     exact ⟨n2,Nat.lt_succ_self _,l6,z10,v248,w9,h,O8,⟨⟨rfl,rfl,rfl,trivial⟩,(.all .here .nil)⟩⟩
    ·exact Zs _ rfl<|⟨l5,v229,w7,h,O6,⟨⟨rfl,trivial⟩,(.all .here .nil)⟩⟩
  ·rintro t m ⟨l4,v189,w6,h,O9,hF⟩
   refine Ze hF ?_
   clear hF
   subst q3
   refine Z0<|Z2<|Z6 rfl<|Z6 rfl<|Z1<|Zj ?_
   revert h; refine Zv fun h=>?_
   subst h
   exact ⟨_,_,(.cons (.tmp rfl) .nil),(.all .here .nil),⟨_,rfl,⟨v189,w6,rfl,rfl,O9⟩⟩⟩
def Zio:OL :=
 bnd (([1779033703,3144134277,1013904242,2773480762,1359893119,2600822924,528734635,1541459225]:LI)) fun z1 =>
 some z1
theorem Zmk {W:World} {r:(LI)} (h:Zio=some r)  :
    Calls Tryz.prog 234 [].toArray W (Z34 W (agg [.ints .u32 8 (r)])):=by
 unfold Zio at h
 refine Zc mo Z0lh rfl ?_
 refine Z0<|Z2<|Zd (Zq fun b1 u1=>Z1<|Z0<|bH h fun z1 e1 h=>Z2<|Z4 _ (az (fun z=>agg [.ints .u32 8 z]) e1 (Zd2 (.one rfl rfl rfl (.one rfl rfl rfl (.one rfl rfl rfl (.one rfl rfl rfl (.one rfl rfl rfl (.one rfl rfl rfl (.one rfl rfl rfl (.one rfl rfl rfl BdR.nil))))))))))<|Zd (Zp (q:=[.ints .u32 8 (z1)]) rfl rfl rfl rfl rfl .here<|Z1<|Zj ?_))
 revert h; refine Zv fun h=>?_
 subst h
 exact ⟨_,(.cons (.agg rfl .here rfl) .nil),rfl⟩
def Zbr (p0:LI) (p1:Int) (k1:Int->Option Int) (k2:Int->Int->Option Int) (i1:Int) (i2:Int):Option Int :=
 br ((decide (i2<4))) (
 bnd (wrap .u32 (i1*256)) fun z1 =>
 bnd (wrap .i64 (p1+i2)) fun z2 =>
 chk (inB z2 p0.length) <|
 bnd (p0.getD (z2).toNat 0) fun z3 =>
 bnd (wrap .u32 z3) fun z4 =>
 bnd (wrap .u32 (z1+z4)) fun z5 =>
 bnd (wrap .i64 (i2+1)) fun z6 =>
 k2 z5 z6
 ) (
 k1 i1
 )
def Z6q (p0:LI) (p1:Int) (k1:Int->Option Int):Nat->Int->Int->Option Int
  | 0,_,_=>none
  | n+1,i1,i2=>Zbr p0 p1 k1 (Z6q p0 p1 k1 n) i1 i2
def Zjn (p0:LI) (p1:Int):Option Int :=
 jn (fun (i1:Int)=>some i1) fun k1=>Z6q p0 p1 k1 big 0 0
theorem Zo1 {W:World} {r:Int} {p0:LI} {p1:Int} {v0:Value} (h:Zjn p0 p1=some r) (A0:Z6v (El.int .u8) W v0 p0) :
    Calls Tryz.prog 244 [v0,.int .i64 (p1)].toArray W (Z34 W (.int .u32 (r))):=by
 unfold Zjn at h
 refine Zc mo Z0lr rfl ?_
 refine Z0<|Z2<|Z6 rfl<|Z1<|Z0<|Z2<|Z6 rfl<|Z1<|Z0<|Z0<|Z2<|Z6 rfl<|Z1<|jH h fun k1 q1 h=>Zg (G:=fun t m=>∃ (i1:Int),k1 i1=some r/\Fit [(5,.int .u32 (i1))] [] t m) ?_ ?_
 ·refine Z9<|Zm (fun n1 t m=>∃ (i2:Int) (i3:Int),Z6q p0 p1 k1 n1 i2 i3=some r/\Fit [(0,v0),(1,.int .i64 (p1)),(5,.int .u32 (i2)),(6,.int .i64 (i3))] [] t m) big ?_ ?_
  ·exact ⟨0,0,h,⟨⟨rfl,rfl,rfl,rfl,trivial⟩,.nil⟩⟩
  ·rintro n1 t m ⟨i2,i3,h,hF⟩
   refine Ze hF ?_
   clear hF
   rcases n1 with _ | n1
   · exact Z07 h
   have h:Zbr p0 p1 k1 (Z6q p0 p1 k1 n1) i2 i3=some r:=h
   unfold Zbr at h
   obtain ⟨k2,q2⟩ : ∃ k,k=Z6q p0 p1 k1 n1:=⟨_,rfl⟩
   try rw [<- q2] at h
   refine Z0<|Z0<|Z2<|Z6 rfl<|Z4 _ (Z8 rfl rfl rfl)<|Z1<|Z09 h rfl (fun h=>?_) (fun h=>?_)
   ·refine Zh<|Z0<|Z9<|bH h fun z1 e1 h=>bH h fun z2 e2 h=>cH h fun c1 h=>bH h fun z3 e3 h=>bH h fun z4 e4 h=>bH h fun z5 e5 h=>Z2<|Z6 rfl<|Z4 _ (iz e1 (Z8 rfl rfl rfl))<|Z6 rfl<|Z6 rfl<|Z6 rfl<|Z4 _ (iz e2 (Z8 rfl rfl rfl))<|Z4 _ (Z5p rfl rfl (Shp.rd A0) c1)<|Z4 _ (iz e3 (Z6k (E:=(El.int .u8)) (s:=[.one (.int .u8 (p0.getD (z2).toNat 0))]) rfl (Z2k A0 Z2y) (Z01 c1) rfl rfl))<|Z4 _ (iz e4 (Z33 rfl))<|Z4 _ (iz e5 (Z8 rfl rfl rfl))<|Z6 rfl<|Z1<|bH h fun z6 e6 h=>Z2<|Z6 rfl<|Z4 _ (iz e6 (Z8 rfl rfl rfl))<|Z6 rfl<|Z1 ?_
    rw [q2] at h
    exact ⟨n1,Nat.lt_succ_self _,z5,z6,h,⟨⟨rfl,rfl,rfl,rfl,trivial⟩,.nil⟩⟩
   ·exact Zs _ rfl<|⟨i2,h,⟨⟨rfl,trivial⟩,.nil⟩⟩
 ·rintro t m ⟨i1,h,hF⟩
  refine Ze hF ?_
  clear hF
  subst q1
  refine Z0<|Z2<|Z6 rfl<|Z6 rfl<|Z1<|Zj ?_
  revert h; refine Zv fun h=>?_
  subst h
  exact ⟨_,(.cons (.tmp rfl) .nil),rfl⟩
def Z1x (p0:Int) (p1:Int):Option Int :=
 chk (decide (0<=p1)) <|
 bnd (Z0f .u32 p0 p1) fun z1 =>
 bnd (wrap .i64 (32-p1)) fun z2 =>
 chk (decide (0<=z2)) <|
 bnd (Z1v .u32 p0 z2) fun z3 =>
 bnd (Za .or .u32 z1 z3) fun z4 =>
 some z4
theorem Z2p {W:World} {r:Int} {p0:Int} {p1:Int} (h:Z1x p0 p1=some r)  :
    Calls Tryz.prog 245 [.int .u32 (p0),.int .i64 (p1)].toArray W (Z34 W (.int .u32 (r))):=by
 unfold Z1x at h
 refine Zc mo Z0ls rfl ?_
 refine Z0<|Z2<|Z6 rfl<|Z1<|Z0<|cH h fun c1 h=>bH h fun z1 e1 h=>Z2<|Z6 rfl<|Z6 rfl<|Z4 _ (iz e1 (Z48 rfl rfl (of_decide_eq_true c1)))<|Z6 rfl<|Z1<|Z0<|bH h fun z2 e2 h=>cH h fun c2 h=>bH h fun z3 e3 h=>Z2<|Z6 rfl<|Z6 rfl<|Z4 _ (iz e2 (Z8 rfl rfl rfl))<|Z4 _ (iz e3 (Zhg rfl rfl (of_decide_eq_true c2)))<|Z6 rfl<|Z1<|Z0<|bH h fun z4 e4 h=>Z2<|Z6 rfl<|Z6 rfl<|Z4 _ (iz e4 (Z8 rfl rfl rfl))<|Z6 rfl<|Z1<|Zj ?_
 revert h; refine Zv fun h=>?_
 subst h
 exact ⟨_,(.cons (.tmp rfl) .nil),rfl⟩
def Z4l (p0:LI) (k1:(LI)->OL) (k2:Int->(LI)->OL) (i1:Int) (a1:LI):OL :=
 br ((decide (i1<16))) (
 bnd (wrap .i64 (4*i1)) fun z1 =>
 opt (Zjn (tk p0 0 64) z1) fun y1 =>
 chk (inB i1 64) <|
 bnd (Z28 a1 (i1).toNat y1) fun l1 =>
 bnd (wrap .i64 (i1+1)) fun z2 =>
 k2 z2 l1
 ) (
 k1 a1
 )
def Z4n (p0:LI) (k1:(LI)->OL):Nat->Int->(LI)->OL
  | 0,_,_=>none
  | n+1,i1,a1=>Z4l p0 k1 (Z4n p0 k1 n) i1 a1
def Z4m (k1:(LI)->OL) (k2:Int->(LI)->OL) (i1:Int) (a1:LI):OL :=
 br ((decide (i1<64))) (
 bnd (wrap .i64 (i1-2)) fun z1 =>
 chk (inB z1 64) <|
 bnd (a1.getD (z1).toNat 0) fun z2 =>
 bnd (wrap .i64 (i1-15)) fun z3 =>
 chk (inB z3 64) <|
 bnd (a1.getD (z3).toNat 0) fun z4 =>
 opt (Z1x z2 17) fun y1 =>
 opt (Z1x z2 19) fun y2 =>
 bnd (Za .xor .u32 y1 y2) fun z5 =>
 bnd (Z0f .u32 z2 10) fun z6 =>
 bnd (Za .xor .u32 z5 z6) fun z7 =>
 opt (Z1x z4 7) fun y3 =>
 opt (Z1x z4 18) fun y4 =>
 bnd (Za .xor .u32 y3 y4) fun z8 =>
 bnd (Z0f .u32 z4 3) fun z9 =>
 bnd (Za .xor .u32 z8 z9) fun z10 =>
 bnd (wrap .i64 (i1-7)) fun z11 =>
 chk (inB z11 64) <|
 bnd (wrap .i64 (i1-16)) fun z12 =>
 chk (inB z12 64) <|
 bnd (a1.getD (z11).toNat 0) fun z13 =>
 bnd (wrap .u32 (z7+z13)) fun z14 =>
 bnd (wrap .u32 (z14+z10)) fun z15 =>
 bnd (a1.getD (z12).toNat 0) fun z16 =>
 bnd (wrap .u32 (z15+z16)) fun z17 =>
 chk (inB i1 64) <|
 bnd (Z28 a1 (i1).toNat z17) fun l1 =>
 bnd (wrap .i64 (i1+1)) fun z18 =>
 k2 z18 l1
 ) (
 k1 a1
 )
def Z36 (k1:(LI)->OL):Nat->Int->(LI)->OL
  | 0,_,_=>none
  | n+1,i1,a1=>Z4m k1 (Z36 k1 n) i1 a1
def Zah (p0:LI):OL :=
 jn (fun (a1:LI)=>jn (fun (a2:LI)=>some a2) fun k1=>Z36 k1 big 16 a1) fun k2=>Z4n p0 k2 big 0 (replicate 64 0)
theorem Zic {W:World} {r:(LI)} {p0:LI} (h:Zah p0=some r)  :
    Calls Tryz.prog 240 [agg [b6' p0]].toArray W (Z34 W (agg [.ints .u32 64 (r)])):=by
 unfold Zah at h
 refine Zc mo Z0ln rfl ?_
 refine Z0<|Z2<|Zd (Z0l (s:=[b6' p0]) rfl fun b1 u1=>Zd (Zq fun b2 u2=>Z1<|Z0<|Z2<|Zd (Zq fun b3 u3=>Z1<|Z0<|Z0<|Z2<|Z6 rfl<|Z1<|jH h fun k1 q1 h=>Zg (G:=fun t m=>∃ (a1:LI),k1 a1=some r/\Fit [(2,pt' b2),(3,pt' b3)] (ck b3 250 [.ints .u32 64 (a1)]::(ck b2 250 [.ints .u32 64 ((replicate 64 0))]::(ck b1 26 [b6' p0] :: []))) t m) ?_ ?_)))
 ·refine Z9<|Zm (fun n1 t m=>∃ (i1:Int) (a2:LI),Z4n p0 k1 n1 i1 a2=some r/\Fit [(1,pt' b1),(2,pt' b2),(3,pt' b3),(4,.int .i64 (i1))] (ck b3 250 [.ints .u32 64 (a2)]::(ck b2 250 [.ints .u32 64 ((replicate 64 0))]::(ck b1 26 [b6' p0] :: []))) t m) big ?_ ?_
  ·exact ⟨0,(replicate 64 0),h,⟨⟨rfl,rfl,rfl,rfl,trivial⟩,(.o (.o (.o .nil)))⟩⟩
  ·rintro n1 t m ⟨i1,a2,h,hF⟩
   refine Ze hF ?_
   clear hF
   rcases n1 with _ | n1
   · exact Z07 h
   have h:Z4l p0 k1 (Z4n p0 k1 n1) i1 a2=some r:=h
   unfold Z4l at h
   obtain ⟨k2,q2⟩ : ∃ k,k=Z4n p0 k1 n1:=⟨_,rfl⟩
   try rw [<- q2] at h
   refine Z0<|Z0<|Z2<|Z6 rfl<|Z4 _ (Z8 rfl rfl rfl)<|Z1<|Z09 h rfl (fun h=>?_) (fun h=>?_)
   ·refine Zh<|Z0<|Z9<|bH h fun z1 e1 h=>oH h fun y1 f1 h=>cH h fun c1 h=>bH h fun l1 g1 h=>Z2<|Z6 rfl<|Z4 _ (Zf3 rfl .no .no .no (by simp) (by decide))<|Z6 rfl<|Z4 _ (iz e1 (Z8 rfl rfl rfl))<|Z4 _ (Z1a rfl (fun w hw=>Zo1 f1 ((Z6u (s:=[b6' p0]) (N:=64) (k:=.u8) (base:=0) (lo:=0) (hi:=64) (mz:=64) .t2 rfl (by decide)) w hw)))<|Z4 _ (Z0i rfl rfl (Z08 c1))<|Zd (Z1h (q:=[.ints .u32 64 (l1)]) (base:=0) g1 rfl rfl rfl (Z01 c1) rfl .here<|Z1<|bH h fun z2 e2 h=>Z2<|Z6 rfl<|Z4 _ (iz e2 (Z8 rfl rfl rfl))<|Z6 rfl<|Z1 ?_)
    rw [q2] at h
    exact ⟨n1,Nat.lt_succ_self _,z2,l1,h,⟨⟨rfl,rfl,rfl,rfl,trivial⟩,(.o (.o (.o .nil)))⟩⟩
   ·exact Zs _ rfl<|⟨a2,h,⟨⟨rfl,rfl,trivial⟩,(.o (.o (.o .nil)))⟩⟩
 ·rintro t m ⟨a1,h,hF⟩
  refine Ze hF ?_
  clear hF
  subst q1
  refine Z0<|Z0<|Z2<|Z6 rfl<|Z1<|jH h fun k3 q3 h=>Zg (G:=fun t m=>∃ (a3:LI),k3 a3=some r/\Fit [(2,pt' b2),(3,pt' b3)] (ck b3 250 [.ints .u32 64 (a3)]::(ck b2 250 [.ints .u32 64 ((replicate 64 0))]::(ck b1 26 [b6' p0] :: []))) t m) ?_ ?_
  ·refine Z9<|Zm (fun n2 t m=>∃ (i2:Int) (a4:LI),Z36 k3 n2 i2 a4=some r/\Fit [(2,pt' b2),(3,pt' b3),(5,.int .i64 (i2))] (ck b3 250 [.ints .u32 64 (a4)]::(ck b2 250 [.ints .u32 64 ((replicate 64 0))]::(ck b1 26 [b6' p0] :: []))) t m) big ?_ ?_
   ·exact ⟨16,a1,h,⟨⟨rfl,rfl,rfl,trivial⟩,(.o (.o (.o .nil)))⟩⟩
   ·rintro n2 t m ⟨i2,a4,h,hF⟩
    refine Ze hF ?_
    clear hF
    rcases n2 with _ | n2
    · exact Z07 h
    have h:Z4m k3 (Z36 k3 n2) i2 a4=some r:=h
    unfold Z4m at h
    obtain ⟨k4,q4⟩ : ∃ k,k=Z36 k3 n2:=⟨_,rfl⟩
    try rw [<- q4] at h
    refine Z0<|Z0<|Z2<|Z6 rfl<|Z4 _ (Z8 rfl rfl rfl)<|Z1<|Z09 h rfl (fun h=>?_) (fun h=>?_)
    ·refine Zh<|Z0<|Z9<|Z0<|bH h fun z3 e3 h=>cH h fun c2 h=>bH h fun z4 e4 h=>Z2<|Z6 rfl<|Z4 _ (iz e3 (Z8 rfl rfl rfl))<|Z4 _ (Z0i rfl rfl (Z08 c2))<|Z4 _ (iz e4 (Z1w (base:=0) rfl .here rfl (Z01 c2)))<|Z6 rfl<|Z1<|Z0<|bH h fun z5 e5 h=>cH h fun c3 h=>bH h fun z6 e6 h=>Z2<|Z6 rfl<|Z4 _ (iz e5 (Z8 rfl rfl rfl))<|Z4 _ (Z0i rfl rfl (Z08 c3))<|Z4 _ (iz e6 (Z1w (base:=0) rfl .here rfl (Z01 c3)))<|Z6 rfl<|Z1<|Z0<|oH h fun y2 f2 h=>oH h fun y3 f3 h=>bH h fun z7 e7 h=>bH h fun z8 e8 h=>bH h fun z9 e9 h=>Z2<|Z6 rfl<|Z4 _ (Z0h rfl (Z2p f2))<|Z6 rfl<|Z4 _ (Z0h rfl (Z2p f3))<|Z4 _ (iz e7 (Z8 rfl rfl rfl))<|Z6 rfl<|Z4 _ (iz e8 (Z48 rfl rfl (by decide)))<|Z4 _ (iz e9 (Z8 rfl rfl rfl))<|Z6 rfl<|Z1<|Z0<|oH h fun y4 f4 h=>oH h fun y5 f5 h=>bH h fun z10 e10 h=>bH h fun z11 e11 h=>bH h fun z12 e12 h=>Z2<|Z6 rfl<|Z4 _ (Z0h rfl (Z2p f4))<|Z6 rfl<|Z4 _ (Z0h rfl (Z2p f5))<|Z4 _ (iz e10 (Z8 rfl rfl rfl))<|Z6 rfl<|Z4 _ (iz e11 (Z48 rfl rfl (by decide)))<|Z4 _ (iz e12 (Z8 rfl rfl rfl))<|Z6 rfl<|Z1<|bH h fun z13 e13 h=>cH h fun c4 h=>bH h fun z14 e14 h=>cH h fun c5 h=>bH h fun z15 e15 h=>bH h fun z16 e16 h=>bH h fun z17 e17 h=>bH h fun z18 e18 h=>bH h fun z19 e19 h=>cH h fun c6 h=>bH h fun l2 g2 h=>Zt<|Z7 _ (Z0j rfl)<|Z7 _ (Z0j rfl)<|Z7 _ (Z0j rfl)<|Z7 _ (iz e13 (Z8 rfl rfl rfl))<|Z7 _ (Z0i rfl rfl (Z08 c4))<|Z7 _ (Z0j rfl)<|Z7 _ (Z0j rfl)<|Z7 _ (iz e14 (Z8 rfl rfl rfl))<|Z7 _ (Z0i rfl rfl (Z08 c5))<|Zo _ (iz e15 (Z1w (base:=0) rfl .here rfl (Z01 c4)))<|Z7 _ (iz e16 (Z8 rfl rfl rfl))<|Z7 _ (iz e17 (Z8 rfl rfl rfl))<|Zo _ (iz e18 (Z1w (base:=0) rfl .here rfl (Z01 c5)))<|Z7 _ (iz e19 (Z8 rfl rfl rfl))<|Z7 _ (Z0i rfl rfl (Z08 c6))<|Z1i rfl (Z1h (q:=[.ints .u32 64 (l2)]) (base:=0) g2 rfl rfl rfl (Z01 c6) rfl .here<|Z04<|bH h fun z20 e20 h=>Z2<|Z6 rfl<|Z4 _ (iz e20 (Z8 rfl rfl rfl))<|Z6 rfl<|Z1 ?_)
     rw [q4] at h
     exact ⟨n2,Nat.lt_succ_self _,z20,l2,h,⟨⟨rfl,rfl,rfl,trivial⟩,(.o (.o (.o .nil)))⟩⟩
    ·exact Zs _ rfl<|⟨a4,h,⟨⟨rfl,rfl,trivial⟩,(.o (.o (.o .nil)))⟩⟩
  ·rintro t m ⟨a3,h,hF⟩
   refine Ze hF ?_
   clear hF
   subst q3
   refine Z0<|Z2<|Z4 _ (Z02 (p:=[.ints .u32 64 (a3)]) rfl .here rfl)<|Zd (Zp (q:=[.ints .u32 64 (a3)]) rfl rfl rfl rfl rfl .t1<|Z1<|Zj ?_)
   revert h; refine Zv fun h=>?_
   subst h
   exact ⟨_,(.cons (.agg rfl .t1 rfl) .nil),rfl⟩
def Zgf:OL :=
 bnd (([1116352408,1899447441,3049323471,3921009573,961987163,1508970993,2453635748,2870763221,3624381080,310598401,607225278,1426881987,1925078388,2162078206,2614888103,3248222580,3835390401,4022224774,264347078,604807628,770255983,1249150122,1555081692,1996064986,2554220882,2821834349,2952996808,3210313671,3336571891,3584528711,113926993,338241895,666307205,773529912,1294757372,1396182291,1695183700,1986661051,2177026350,2456956037,2730485921,2820302411,3259730800,3345764771,3516065817,3600352804,4094571909,275423344,430227734,506948616,659060556,883997877,958139571,1322822218,1537002063,1747873779,1955562222,2024104815,2227730452,2361852424,2428436474,2756734187,3204031479,3329325298]:LI)) fun z1 =>
 some z1
theorem Zkv {W:World} {r:(LI)} (h:Zgf=some r)  :
    Calls Tryz.prog 241 [].toArray W (Z34 W (agg [.ints .u32 64 (r)])):=by
 unfold Zgf at h
 refine Zc mo Z0lo rfl ?_
 refine Z0<|Z2<|Zd (Zq fun b1 u1=>Z1<|Z0<|bH h fun z1 e1 h=>Z2<|Z4 _ (az (fun z=>agg [.ints .u32 64 z]) e1 (Zd2 (.one rfl rfl rfl (.one rfl rfl rfl (.one rfl rfl rfl (.one rfl rfl rfl (.one rfl rfl rfl (.one rfl rfl rfl (.one rfl rfl rfl (.one rfl rfl rfl (.one rfl rfl rfl (.one rfl rfl rfl (.one rfl rfl rfl (.one rfl rfl rfl (.one rfl rfl rfl (.one rfl rfl rfl (.one rfl rfl rfl (.one rfl rfl rfl (.one rfl rfl rfl (.one rfl rfl rfl (.one rfl rfl rfl (.one rfl rfl rfl (.one rfl rfl rfl (.one rfl rfl rfl (.one rfl rfl rfl (.one rfl rfl rfl (.one rfl rfl rfl (.one rfl rfl rfl (.one rfl rfl rfl (.one rfl rfl rfl (.one rfl rfl rfl (.one rfl rfl rfl (.one rfl rfl rfl (.one rfl rfl rfl (.one rfl rfl rfl (.one rfl rfl rfl (.one rfl rfl rfl (.one rfl rfl rfl (.one rfl rfl rfl (.one rfl rfl rfl (.one rfl rfl rfl (.one rfl rfl rfl (.one rfl rfl rfl (.one rfl rfl rfl (.one rfl rfl rfl (.one rfl rfl rfl (.one rfl rfl rfl (.one rfl rfl rfl (.one rfl rfl rfl (.one rfl rfl rfl (.one rfl rfl rfl (.one rfl rfl rfl (.one rfl rfl rfl (.one rfl rfl rfl (.one rfl rfl rfl (.one rfl rfl rfl (.one rfl rfl rfl (.one rfl rfl rfl (.one rfl rfl rfl (.one rfl rfl rfl (.one rfl rfl rfl (.one rfl rfl rfl (.one rfl rfl rfl (.one rfl rfl rfl (.one rfl rfl rfl (.one rfl rfl rfl BdR.nil))))))))))))))))))))))))))))))))))))))))))))))))))))))))))))))))))<|Zd (Zp (q:=[.ints .u32 64 (z1)]) rfl rfl rfl rfl rfl .here<|Z1<|Zj ?_))
 revert h; refine Zv fun h=>?_
 subst h
 exact ⟨_,(.cons (.agg rfl .here rfl) .nil),rfl⟩
def Zfn (p0:LI) (k1:(LI)->OL) (k2:Int->(LI)->OL) (i1:Int) (a1:LI):OL :=
 br ((decide (i1<8))) (
 bnd (wrap .i64 (i1-1)) fun z1 =>
 chk (inB z1 8) <|
 bnd (p0.getD (z1).toNat 0) fun z2 =>
 chk (inB i1 8) <|
 bnd (Z28 a1 (i1).toNat z2) fun l1 =>
 bnd (wrap .i64 (i1+1)) fun z3 =>
 k2 z3 l1
 ) (
 k1 a1
 )
def Z8i (p0:LI) (k1:(LI)->OL):Nat->Int->(LI)->OL
  | 0,_,_=>none
  | n+1,i1,a1=>Zfn p0 k1 (Z8i p0 k1 n) i1 a1
def Zge (p0:LI) (p1:Int) (p2:Int):OL :=
 bnd (p0.getD 0 0) fun z1 =>
 bnd (p0.getD 4 0) fun z2 =>
 bnd (p0.getD 5 0) fun z3 =>
 bnd (Za .and .u32 z2 z3) fun z4 =>
 bnd (wrap .u32 (4294967295-z2)) fun z5 =>
 bnd (p0.getD 6 0) fun z6 =>
 bnd (Za .and .u32 z5 z6) fun z7 =>
 bnd (Za .xor .u32 z4 z7) fun z8 =>
 bnd (p0.getD 1 0) fun z9 =>
 bnd (Za .and .u32 z1 z9) fun z10 =>
 bnd (p0.getD 2 0) fun z11 =>
 bnd (Za .and .u32 z1 z11) fun z12 =>
 bnd (Za .xor .u32 z10 z12) fun z13 =>
 bnd (p0.getD 1 0) fun z14 =>
 bnd (p0.getD 2 0) fun z15 =>
 bnd (Za .and .u32 z14 z15) fun z16 =>
 bnd (Za .xor .u32 z13 z16) fun z17 =>
 opt (Z1x z2 6) fun y1 =>
 opt (Z1x z2 11) fun y2 =>
 bnd (Za .xor .u32 y1 y2) fun z18 =>
 opt (Z1x z2 25) fun y3 =>
 bnd (Za .xor .u32 z18 y3) fun z19 =>
 bnd (p0.getD 7 0) fun z20 =>
 bnd (wrap .u32 (z20+z19)) fun z21 =>
 bnd (wrap .u32 (z21+z8)) fun z22 =>
 bnd (wrap .u32 (z22+p1)) fun z23 =>
 bnd (wrap .u32 (z23+p2)) fun z24 =>
 opt (Z1x z1 2) fun y4 =>
 opt (Z1x z1 13) fun y5 =>
 bnd (Za .xor .u32 y4 y5) fun z25 =>
 opt (Z1x z1 22) fun y6 =>
 bnd (Za .xor .u32 z25 y6) fun z26 =>
 bnd (wrap .u32 (z26+z17)) fun z27 =>
 jn (fun (a1:LI)=>bnd (a1.getD 4 0) fun z28 =>
 bnd (wrap .u32 (z28+z24)) fun z29 =>
 bnd (Z28 a1 4 z29) fun l1 =>
 bnd (wrap .u32 (z24+z27)) fun z30 =>
 bnd (Z28 l1 0 z30) fun l2 =>
 some l2) fun k1=>Z8i p0 k1 big 1 (replicate 8 0)
theorem Zml {W:World} {r:(LI)} {p0:LI} {p1:Int} {p2:Int} (h:Zge p0 p1 p2=some r)  :
    Calls Tryz.prog 242 [agg [.ints .u32 8 (p0)],.int .u32 (p1),.int .u32 (p2)].toArray W (Z34 W (agg [.ints .u32 8 (r)])):=by
 unfold Zge at h
 refine Zc mo Z0lp rfl ?_
 refine Z0<|Z2<|Zd (Z0l (s:=[.ints .u32 8 (p0)]) rfl fun b1 u1=>Zd (Zq fun b2 u2=>Z1<|Z0<|bH h fun z1 e1 h=>Z2<|Z4 _ (Z0i rfl rfl (by decide))<|Z4 _ (iz e1 (Z0c rfl .t1 rfl))<|Z6 rfl<|Z1<|Z0<|bH h fun z2 e2 h=>Z2<|Z4 _ (Z0i rfl rfl (by decide))<|Z4 _ (iz e2 (Z0c rfl .t1 rfl))<|Z6 rfl<|Z1<|Z0<|bH h fun z3 e3 h=>bH h fun z4 e4 h=>bH h fun z5 e5 h=>bH h fun z6 e6 h=>bH h fun z7 e7 h=>bH h fun z8 e8 h=>Z2<|Z6 rfl<|Z4 _ (Z0i rfl rfl (by decide))<|Z4 _ (iz e3 (Z0c rfl .t1 rfl))<|Z4 _ (iz e4 (Z8 rfl rfl rfl))<|Z6 rfl<|Z4 _ (iz e5 (Z8 rfl rfl rfl))<|Z4 _ (Z0i rfl rfl (by decide))<|Z4 _ (iz e6 (Z0c rfl .t1 rfl))<|Z4 _ (iz e7 (Z8 rfl rfl rfl))<|Z4 _ (iz e8 (Z8 rfl rfl rfl))<|Z6 rfl<|Z1<|Z0<|bH h fun z9 e9 h=>bH h fun z10 e10 h=>bH h fun z11 e11 h=>bH h fun z12 e12 h=>bH h fun z13 e13 h=>bH h fun z14 e14 h=>bH h fun z15 e15 h=>bH h fun z16 e16 h=>bH h fun z17 e17 h=>Z2<|Z6 rfl<|Z4 _ (Z0i rfl rfl (by decide))<|Z4 _ (iz e9 (Z0c rfl .t1 rfl))<|Z4 _ (iz e10 (Z8 rfl rfl rfl))<|Z6 rfl<|Z4 _ (Z0i rfl rfl (by decide))<|Z4 _ (iz e11 (Z0c rfl .t1 rfl))<|Z4 _ (iz e12 (Z8 rfl rfl rfl))<|Z4 _ (iz e13 (Z8 rfl rfl rfl))<|Z4 _ (Z0i rfl rfl (by decide))<|Z4 _ (iz e14 (Z0c rfl .t1 rfl))<|Z4 _ (Z0i rfl rfl (by decide))<|Z4 _ (iz e15 (Z0c rfl .t1 rfl))<|Z4 _ (iz e16 (Z8 rfl rfl rfl))<|Z4 _ (iz e17 (Z8 rfl rfl rfl))<|Z6 rfl<|Z1<|Z0<|oH h fun y1 f1 h=>oH h fun y2 f2 h=>bH h fun z18 e18 h=>oH h fun y3 f3 h=>bH h fun z19 e19 h=>bH h fun z20 e20 h=>bH h fun z21 e21 h=>bH h fun z22 e22 h=>bH h fun z23 e23 h=>bH h fun z24 e24 h=>Zt<|Z7 _ (Z0i rfl rfl (by decide))<|Z7 _ (Z0j rfl)<|Z7 _ (Z0h rfl (Z2p f1))<|Z7 _ (Z0j rfl)<|Z7 _ (Z0h rfl (Z2p f2))<|Z7 _ (iz e18 (Z8 rfl rfl rfl))<|Z7 _ (Z0j rfl)<|Z7 _ (Z0h rfl (Z2p f3))<|Z7 _ (iz e19 (Z8 rfl rfl rfl))<|Z7 _ (Z0j rfl)<|Z7 _ (Z0j rfl)<|Z7 _ (Z0j rfl)<|Zo _ (iz e20 (Z0c rfl .t1 rfl))<|Z7 _ (iz e21 (Z8 rfl rfl rfl))<|Z7 _ (iz e22 (Z8 rfl rfl rfl))<|Z7 _ (iz e23 (Z8 rfl rfl rfl))<|Z7 _ (iz e24 (Z8 rfl rfl rfl))<|Z7 _ (Z0j rfl)<|Z04<|Z0<|oH h fun y4 f4 h=>oH h fun y5 f5 h=>bH h fun z25 e25 h=>oH h fun y6 f6 h=>bH h fun z26 e26 h=>bH h fun z27 e27 h=>Z2<|Z6 rfl<|Z4 _ (Z0h rfl (Z2p f4))<|Z6 rfl<|Z4 _ (Z0h rfl (Z2p f5))<|Z4 _ (iz e25 (Z8 rfl rfl rfl))<|Z6 rfl<|Z4 _ (Z0h rfl (Z2p f6))<|Z4 _ (iz e26 (Z8 rfl rfl rfl))<|Z6 rfl<|Z4 _ (iz e27 (Z8 rfl rfl rfl))<|Z6 rfl<|Z1<|Z0<|Z2<|Zd (Zq fun b3 u3=>Z1<|Z0<|Z0<|Z2<|Z6 rfl<|Z1<|jH h fun k1 q1 h=>Zg (G:=fun t m=>∃ (a1:LI),k1 a1=some r/\Fit [(6,pt' b2),(11,.int .u32 (z24)),(12,.int .u32 (z27)),(13,pt' b3)] (ck b3 245 [.ints .u32 8 (a1)]::(ck b2 245 [.ints .u32 8 ((replicate 8 0))]::(ck b1 245 [.ints .u32 8 (p0)] :: []))) t m) ?_ ?_)))
 ·refine Z9<|Zm (fun n1 t m=>∃ (i1:Int) (a2:LI),Z8i p0 k1 n1 i1 a2=some r/\Fit [(3,pt' b1),(6,pt' b2),(11,.int .u32 (z24)),(12,.int .u32 (z27)),(13,pt' b3),(14,.int .i64 (i1))] (ck b3 245 [.ints .u32 8 (a2)]::(ck b2 245 [.ints .u32 8 ((replicate 8 0))]::(ck b1 245 [.ints .u32 8 (p0)] :: []))) t m) big ?_ ?_
  ·exact ⟨1,(replicate 8 0),h,⟨⟨rfl,rfl,rfl,rfl,rfl,rfl,trivial⟩,(.o (.o (.o .nil)))⟩⟩
  ·rintro n1 t m ⟨i1,a2,h,hF⟩
   refine Ze hF ?_
   clear hF
   rcases n1 with _ | n1
   · exact Z07 h
   have h:Zfn p0 k1 (Z8i p0 k1 n1) i1 a2=some r:=h
   unfold Zfn at h
   obtain ⟨k2,q2⟩ : ∃ k,k=Z8i p0 k1 n1:=⟨_,rfl⟩
   try rw [<- q2] at h
   refine Z0<|Z0<|Z2<|Z6 rfl<|Z4 _ (Z8 rfl rfl rfl)<|Z1<|Z09 h rfl (fun h=>?_) (fun h=>?_)
   ·refine Zh<|Z0<|Z9<|bH h fun z28 e28 h=>cH h fun c1 h=>bH h fun z29 e29 h=>cH h fun c2 h=>bH h fun l1 g1 h=>Z2<|Z6 rfl<|Z6 rfl<|Z4 _ (iz e28 (Z8 rfl rfl rfl))<|Z4 _ (Z0i rfl rfl (Z08 c1))<|Z4 _ (iz e29 (Z1w (base:=0) rfl .t2 rfl (Z01 c1)))<|Z4 _ (Z0i rfl rfl (Z08 c2))<|Zd (Z1h (q:=[.ints .u32 8 (l1)]) (base:=0) g1 rfl rfl rfl (Z01 c2) rfl .here<|Z1<|bH h fun z30 e30 h=>Z2<|Z6 rfl<|Z4 _ (iz e30 (Z8 rfl rfl rfl))<|Z6 rfl<|Z1 ?_)
    rw [q2] at h
    exact ⟨n1,Nat.lt_succ_self _,z30,l1,h,⟨⟨rfl,rfl,rfl,rfl,rfl,rfl,trivial⟩,(.o (.o (.o .nil)))⟩⟩
   ·exact Zs _ rfl<|⟨a2,h,⟨⟨rfl,rfl,rfl,rfl,trivial⟩,(.o (.o (.o .nil)))⟩⟩
 ·rintro t m ⟨a1,h,hF⟩
  refine Ze hF ?_
  clear hF
  subst q1
  refine Z0<|bH h fun z31 e31 h=>bH h fun z32 e32 h=>bH h fun l2 g2 h=>Z2<|Z4 _ (Z0i rfl rfl (by decide))<|Z4 _ (iz e31 (Z0c rfl .here rfl))<|Z6 rfl<|Z4 _ (iz e32 (Z8 rfl rfl rfl))<|Z4 _ (Z0i rfl rfl (by decide))<|Zd (Z5e (q:=[.ints .u32 8 (l2)]) (congrArg (fun z=>([.ints .u32 8 (z)]:List Seg)) g2.symm) rfl rfl rfl rfl .here<|Z1<|Z0<|bH h fun z33 e33 h=>bH h fun l3 g3 h=>Z2<|Z6 rfl<|Z6 rfl<|Z4 _ (iz e33 (Z8 rfl rfl rfl))<|Z4 _ (Z0i rfl rfl (by decide))<|Zd (Z5e (q:=[.ints .u32 8 (l3)]) (congrArg (fun z=>([.ints .u32 8 (z)]:List Seg)) g3.symm) rfl rfl rfl rfl .here<|Z1<|Z0<|Z2<|Z4 _ (Z02 (p:=[.ints .u32 8 (l3)]) rfl .here rfl)<|Zd (Zp (q:=[.ints .u32 8 (l3)]) rfl rfl rfl rfl rfl .t1<|Z1<|Zj ?_)))
  revert h; refine Zv fun h=>?_
  subst h
  exact ⟨_,(.cons (.agg rfl .t1 rfl) .nil),rfl⟩
def Z7c (y1:(LI)) (y2:(LI)) (k1:(LI)->OL) (k2:Int->(LI)->OL) (i1:Int) (a1:LI):OL :=
 br ((decide (i1<64))) (
 chk (inB i1 64) <|
 chk (inB i1 64) <|
 bnd (y2.getD (i1).toNat 0) fun z1 =>
 bnd (y1.getD (i1).toNat 0) fun z2 =>
 opt (Zge a1 z1 z2) fun y3 =>
 bnd (wrap .i64 (i1+1)) fun z3 =>
 k2 z3 y3
 ) (
 k1 a1
 )
def Z6b (y1:(LI)) (y2:(LI)) (k1:(LI)->OL):Nat->Int->(LI)->OL
  | 0,_,_=>none
  | n+1,i1,a1=>Z7c y1 y2 k1 (Z6b y1 y2 k1 n) i1 a1
def Zfm (p0:LI) (k1:(LI)->OL) (k2:Int->(LI)->OL) (i1:Int) (a1:LI):OL :=
 br ((decide (i1<8))) (
 chk (inB i1 8) <|
 chk (inB i1 8) <|
 bnd (a1.getD (i1).toNat 0) fun z1 =>
 bnd (p0.getD (i1).toNat 0) fun z2 =>
 bnd (wrap .u32 (z1+z2)) fun z3 =>
 chk (inB i1 8) <|
 bnd (Z28 a1 (i1).toNat z3) fun l1 =>
 bnd (wrap .i64 (i1+1)) fun z4 =>
 k2 z4 l1
 ) (
 k1 a1
 )
def Z8h (p0:LI) (k1:(LI)->OL):Nat->Int->(LI)->OL
  | 0,_,_=>none
  | n+1,i1,a1=>Zfm p0 k1 (Z8h p0 k1 n) i1 a1
def Zgd (p0:LI) (p1:LI):OL :=
 opt (Zah p1) fun y1 =>
 opt (Zgf) fun y2 =>
 jn (fun (a1:LI)=>jn (fun (a2:LI)=>some a2) fun k1=>Z8h p0 k1 big 0 a1) fun k2=>Z6b y1 y2 k2 big 0 p0
theorem Zmj {W:World} {r:(LI)} {p0:LI} {p1:LI} (h:Zgd p0 p1=some r)  :
    Calls Tryz.prog 235 [agg [.ints .u32 8 (p0)],agg [b6' p1]].toArray W (Z34 W (agg [.ints .u32 8 (r)])):=by
 unfold Zgd at h
 refine Zc mo Z0li rfl ?_
 refine Z0<|Z2<|Zd (Z0l (s:=[.ints .u32 8 (p0)]) rfl fun b1 u1=>Zd (Z0l (s:=[b6' p1]) rfl fun b2 u2=>Zd (Zq fun b3 u3=>Z1<|Z0<|oH h fun y1 f1 h=>Z2<|Z4 _ (Z02 (p:=[b6' p1]) rfl .t1 rfl)<|Z4 _ (Z0h rfl (Zic f1))<|Zd (Zq fun b4 u4=>Zd (Zp (q:=[.ints .u32 64 (y1)]) rfl rfl rfl rfl rfl .here<|Z1<|Z0<|oH h fun y2 f2 h=>Z2<|Z4 _ (Z0h rfl (Zkv f2))<|Zd (Zq fun b5 u5=>Zd (Zp (q:=[.ints .u32 64 (y2)]) rfl rfl rfl rfl rfl .here<|Z1<|Z0<|Z2<|Z4 _ (Z02 (p:=[.ints .u32 8 (p0)]) rfl .t4 rfl)<|Zd (Zq fun b6 u6=>Zd (Zp (q:=[.ints .u32 8 (p0)]) rfl rfl rfl rfl rfl .here<|Z1<|Z0<|Z0<|Z2<|Z6 rfl<|Z1<|jH h fun k1 q1 h=>Zg (G:=fun t m=>∃ (a1:LI),k1 a1=some r/\Fit [(2,pt' b1),(4,pt' b3),(7,pt' b6)] (ck b6 245 [.ints .u32 8 (a1)]::(ck b5 250 [.ints .u32 64 (y2)]::(ck b4 250 [.ints .u32 64 (y1)]::(ck b3 245 [.ints .u32 8 ((replicate 8 0))]::(ck b2 26 [b6' p1]::(ck b1 245 [.ints .u32 8 (p0)] :: [])))))) t m) ?_ ?_)))))))))
 ·refine Z9<|Zm (fun n1 t m=>∃ (i1:Int) (a2:LI),Z6b y1 y2 k1 n1 i1 a2=some r/\Fit [(2,pt' b1),(4,pt' b3),(5,pt' b4),(6,pt' b5),(7,pt' b6),(8,.int .i64 (i1))] (ck b6 245 [.ints .u32 8 (a2)]::(ck b5 250 [.ints .u32 64 (y2)]::(ck b4 250 [.ints .u32 64 (y1)]::(ck b3 245 [.ints .u32 8 ((replicate 8 0))]::(ck b2 26 [b6' p1]::(ck b1 245 [.ints .u32 8 (p0)] :: [])))))) t m) big ?_ ?_
  ·exact ⟨0,p0,h,⟨⟨rfl,rfl,rfl,rfl,rfl,rfl,trivial⟩,(.o (.o (.o (.o (.o (.o .nil))))))⟩⟩
  ·rintro n1 t m ⟨i1,a2,h,hF⟩
   refine Ze hF ?_
   clear hF
   rcases n1 with _ | n1
   · exact Z07 h
   have h:Z7c y1 y2 k1 (Z6b y1 y2 k1 n1) i1 a2=some r:=h
   unfold Z7c at h
   obtain ⟨k2,q2⟩ : ∃ k,k=Z6b y1 y2 k1 n1:=⟨_,rfl⟩
   try rw [<- q2] at h
   refine Z0<|Z0<|Z2<|Z6 rfl<|Z4 _ (Z8 rfl rfl rfl)<|Z1<|Z09 h rfl (fun h=>?_) (fun h=>?_)
   ·refine Zh<|Z0<|Z9<|cH h fun c1 h=>cH h fun c2 h=>bH h fun z1 e1 h=>bH h fun z2 e2 h=>oH h fun y3 f3 h=>Zt<|Z7 _ (Z0j rfl)<|Z7 _ (Z0i rfl rfl (Z08 c1))<|Z7 _ (Z0j rfl)<|Z7 _ (Z0i rfl rfl (Z08 c2))<|Zo _ (Z02 (p:=[.ints .u32 8 (a2)]) rfl .here rfl)<|Zo _ (iz e1 (Z1w (base:=0) rfl .t1 rfl (Z01 c1)))<|Zo _ (iz e2 (Z1w (base:=0) rfl .t2 rfl (Z01 c2)))<|Z7 _ (Z0h rfl (Zml f3))<|Z1i rfl (Zp (q:=[.ints .u32 8 (y3)]) rfl rfl rfl rfl rfl .here<|Z04<|bH h fun z3 e3 h=>Z2<|Z6 rfl<|Z4 _ (iz e3 (Z8 rfl rfl rfl))<|Z6 rfl<|Z1 ?_)
    rw [q2] at h
    exact ⟨n1,Nat.lt_succ_self _,z3,y3,h,⟨⟨rfl,rfl,rfl,rfl,rfl,rfl,trivial⟩,(.o (.o (.o (.o (.o (.o .nil))))))⟩⟩
   ·exact Zs _ rfl<|⟨a2,h,⟨⟨rfl,rfl,rfl,trivial⟩,(.o (.o (.o (.o (.o (.o .nil))))))⟩⟩
 ·rintro t m ⟨a1,h,hF⟩
  refine Ze hF ?_
  clear hF
  subst q1
  refine Z0<|Z0<|Z2<|Z6 rfl<|Z1<|jH h fun k3 q3 h=>Zg (G:=fun t m=>∃ (a3:LI),k3 a3=some r/\Fit [(4,pt' b3),(7,pt' b6)] (ck b6 245 [.ints .u32 8 (a3)]::(ck b5 250 [.ints .u32 64 (y2)]::(ck b4 250 [.ints .u32 64 (y1)]::(ck b3 245 [.ints .u32 8 ((replicate 8 0))]::(ck b2 26 [b6' p1]::(ck b1 245 [.ints .u32 8 (p0)] :: [])))))) t m) ?_ ?_
  ·refine Z9<|Zm (fun n2 t m=>∃ (i2:Int) (a4:LI),Z8h p0 k3 n2 i2 a4=some r/\Fit [(2,pt' b1),(4,pt' b3),(7,pt' b6),(9,.int .i64 (i2))] (ck b6 245 [.ints .u32 8 (a4)]::(ck b5 250 [.ints .u32 64 (y2)]::(ck b4 250 [.ints .u32 64 (y1)]::(ck b3 245 [.ints .u32 8 ((replicate 8 0))]::(ck b2 26 [b6' p1]::(ck b1 245 [.ints .u32 8 (p0)] :: [])))))) t m) big ?_ ?_
   ·exact ⟨0,a1,h,⟨⟨rfl,rfl,rfl,rfl,trivial⟩,(.o (.o (.o (.o (.o (.o .nil))))))⟩⟩
   ·rintro n2 t m ⟨i2,a4,h,hF⟩
    refine Ze hF ?_
    clear hF
    rcases n2 with _ | n2
    · exact Z07 h
    have h:Zfm p0 k3 (Z8h p0 k3 n2) i2 a4=some r:=h
    unfold Zfm at h
    obtain ⟨k4,q4⟩ : ∃ k,k=Z8h p0 k3 n2:=⟨_,rfl⟩
    try rw [<- q4] at h
    refine Z0<|Z0<|Z2<|Z6 rfl<|Z4 _ (Z8 rfl rfl rfl)<|Z1<|Z09 h rfl (fun h=>?_) (fun h=>?_)
    ·refine Zh<|Z0<|Z9<|cH h fun c3 h=>cH h fun c4 h=>bH h fun z4 e4 h=>bH h fun z5 e5 h=>bH h fun z6 e6 h=>cH h fun c5 h=>bH h fun l1 g1 h=>Zt<|Z7 _ (Z0j rfl)<|Z7 _ (Z0j rfl)<|Z7 _ (Z0i rfl rfl (Z08 c3))<|Z7 _ (Z0j rfl)<|Z7 _ (Z0i rfl rfl (Z08 c4))<|Zo _ (iz e4 (Z1w (base:=0) rfl .here rfl (Z01 c3)))<|Zo _ (iz e5 (Z1w (base:=0) rfl .t5 rfl (Z01 c4)))<|Z7 _ (iz e6 (Z8 rfl rfl rfl))<|Z7 _ (Z0i rfl rfl (Z08 c5))<|Z1i rfl (Z1h (q:=[.ints .u32 8 (l1)]) (base:=0) g1 rfl rfl rfl (Z01 c5) rfl .here<|Z04<|bH h fun z7 e7 h=>Z2<|Z6 rfl<|Z4 _ (iz e7 (Z8 rfl rfl rfl))<|Z6 rfl<|Z1 ?_)
     rw [q4] at h
     exact ⟨n2,Nat.lt_succ_self _,z7,l1,h,⟨⟨rfl,rfl,rfl,rfl,trivial⟩,(.o (.o (.o (.o (.o (.o .nil))))))⟩⟩
    ·exact Zs _ rfl<|⟨a4,h,⟨⟨rfl,rfl,trivial⟩,(.o (.o (.o (.o (.o (.o .nil))))))⟩⟩
  ·rintro t m ⟨a3,h,hF⟩
   refine Ze hF ?_
   clear hF
   subst q3
   refine Z0<|Z2<|Z4 _ (Z02 (p:=[.ints .u32 8 (a3)]) rfl .here rfl)<|Zd (Zp (q:=[.ints .u32 8 (a3)]) rfl rfl rfl rfl rfl .t3<|Z1<|Zj ?_)
   revert h; refine Zv fun h=>?_
   subst h
   exact ⟨_,(.cons (.agg rfl .t3 rfl) .nil),rfl⟩
def Zcl (p0:LI) (k1:(LI)->OL) (k2:Int->(LI)->OL) (i1:Int) (a1:LI):OL :=
 br ((decide (i1<32))) (
 bnd (wrap .i64 (Int.tdiv i1 4)) fun z1 =>
 chk (inB z1 8) <|
 bnd (p0.getD (z1).toNat 0) fun z2 =>
 bnd (Int.tmod i1 4) fun z3 =>
 bnd (wrap .i64 (8*z3)) fun z4 =>
 bnd (wrap .i64 (24-z4)) fun z5 =>
 chk (decide (0<=z5)) <|
 bnd (Z0f .u32 z2 z5) fun z6 =>
 bnd (wrap .u8 z6) fun z7 =>
 chk (inB i1 32) <|
 bnd (Z28 a1 (i1).toNat z7) fun l1 =>
 bnd (wrap .i64 (i1+1)) fun z8 =>
 k2 z8 l1
 ) (
 k1 a1
 )
def Z83 (p0:LI) (k1:(LI)->OL):Nat->Int->(LI)->OL
  | 0,_,_=>none
  | n+1,i1,a1=>Zcl p0 k1 (Z83 p0 k1 n) i1 a1
def Zbq (p0:LI):OL :=
 jn (fun (a1:LI)=>some a1) fun k1=>Z83 p0 k1 big 0 (replicate 32 0)
theorem Zjm {W:World} {r:(LI)} {p0:LI} (h:Zbq p0=some r)  :
    Calls Tryz.prog 236 [agg [.ints .u32 8 (p0)]].toArray W (Z34 W (agg [b3' r])):=by
 unfold Zbq at h
 refine Zc mo Z0lj rfl ?_
 refine Z0<|Z2<|Zd (Z0l (s:=[.ints .u32 8 (p0)]) rfl fun b1 u1=>Zd (Zq fun b2 u2=>Z1<|Z0<|Z2<|Zd (Zq fun b3 u3=>Z1<|Z0<|Z0<|Z2<|Z6 rfl<|Z1<|jH h fun k1 q1 h=>Zg (G:=fun t m=>∃ (a1:LI),k1 a1=some r/\Fit [(2,pt' b2),(3,pt' b3)] (ck b3 22 [b3' a1]::(ck b2 22 [b3' (replicate 32 0)]::(ck b1 245 [.ints .u32 8 (p0)] :: []))) t m) ?_ ?_)))
 ·refine Z9<|Zm (fun n1 t m=>∃ (i1:Int) (a2:LI),Z83 p0 k1 n1 i1 a2=some r/\Fit [(1,pt' b1),(2,pt' b2),(3,pt' b3),(4,.int .i64 (i1))] (ck b3 22 [b3' a2]::(ck b2 22 [b3' (replicate 32 0)]::(ck b1 245 [.ints .u32 8 (p0)] :: []))) t m) big ?_ ?_
  ·exact ⟨0,(replicate 32 0),h,⟨⟨rfl,rfl,rfl,rfl,trivial⟩,(.o (.o (.o .nil)))⟩⟩
  ·rintro n1 t m ⟨i1,a2,h,hF⟩
   refine Ze hF ?_
   clear hF
   rcases n1 with _ | n1
   · exact Z07 h
   have h:Zcl p0 k1 (Z83 p0 k1 n1) i1 a2=some r:=h
   unfold Zcl at h
   obtain ⟨k2,q2⟩ : ∃ k,k=Z83 p0 k1 n1:=⟨_,rfl⟩
   try rw [<- q2] at h
   refine Z0<|Z0<|Z2<|Z6 rfl<|Z4 _ (Z8 rfl rfl rfl)<|Z1<|Z09 h rfl (fun h=>?_) (fun h=>?_)
   ·refine Zh<|Z0<|Z9<|bH h fun z1 e1 h=>cH h fun c1 h=>bH h fun z2 e2 h=>bH h fun z3 e3 h=>bH h fun z4 e4 h=>bH h fun z5 e5 h=>cH h fun c2 h=>bH h fun z6 e6 h=>bH h fun z7 e7 h=>cH h fun c3 h=>bH h fun l1 g1 h=>Z2<|Z6 rfl<|Z6 rfl<|Z4 _ (iz e1 (Zbf rfl rfl (by decide)))<|Z4 _ (Z0i rfl rfl (Z08 c1))<|Z4 _ (iz e2 (Z1w (base:=0) rfl .t2 rfl (Z01 c1)))<|Z6 rfl<|Z4 _ (iz e3 (Z8c rfl rfl (by decide)))<|Z4 _ (iz e4 (Z8 rfl rfl rfl))<|Z4 _ (iz e5 (Z8 rfl rfl rfl))<|Z4 _ (iz e6 (Z48 rfl rfl (of_decide_eq_true c2)))<|Z4 _ (iz e7 (Z33 rfl))<|Z4 _ (Z0i rfl rfl (Z08 c3))<|Zd (Z1h (q:=[b3' l1]) (base:=0) g1 rfl rfl rfl (Z01 c3) rfl .here<|Z1<|bH h fun z8 e8 h=>Z2<|Z6 rfl<|Z4 _ (iz e8 (Z8 rfl rfl rfl))<|Z6 rfl<|Z1 ?_)
    rw [q2] at h
    exact ⟨n1,Nat.lt_succ_self _,z8,l1,h,⟨⟨rfl,rfl,rfl,rfl,trivial⟩,(.o (.o (.o .nil)))⟩⟩
   ·exact Zs _ rfl<|⟨a2,h,⟨⟨rfl,rfl,trivial⟩,(.o (.o (.o .nil)))⟩⟩
 ·rintro t m ⟨a1,h,hF⟩
  refine Ze hF ?_
  clear hF
  subst q1
  refine Z0<|Z2<|Z4 _ (Z02 (p:=[b3' a1]) rfl .here rfl)<|Zd (Zp (q:=[b3' a1]) rfl rfl rfl rfl rfl .t1<|Z1<|Zj ?_)
  revert h; refine Zv fun h=>?_
  subst h
  exact ⟨_,(.cons (.agg rfl .t1 rfl) .nil),rfl⟩
def Zaj (l1:LI) (i1:Int) (k1:(LI)->OL) (k2:Int->(LI)->OL) (i2:Int) (a1:LI):OL :=
 br ((decide (i2<64))) (
 bnd (wrap .i64 (i1+i2)) fun z1 =>
 chk (inB z1 l1.length) <|
 bnd (l1.getD (z1).toNat 0) fun z2 =>
 chk (inB i2 64) <|
 bnd (Z28 a1 (i2).toNat z2) fun l2 =>
 bnd (wrap .i64 (i2+1)) fun z3 =>
 k2 z3 l2
 ) (
 k1 a1
 )
def Z98 (l1:LI) (i1:Int) (k1:(LI)->OL):Nat->Int->(LI)->OL
  | 0,_,_=>none
  | n+1,i2,a1=>Zaj l1 i1 k1 (Z98 l1 i1 k1 n) i2 a1
def Zai (l1:LI) (k1:(LI)->OL) (k2:Int->(LI)->OL) (i1:Int) (a1:LI):OL :=
 br ((decide (i1<(l1.length:Int)))) (
 jn (fun (a2:LI)=>opt (Zgd a1 a2) fun y1 =>
 bnd (wrap .i64 (i1+64)) fun z1 =>
 k2 z1 y1) fun k3=>Z98 l1 i1 k3 big 0 (replicate 64 0)
 ) (
 k1 a1
 )
def Z82 (l1:LI) (k1:(LI)->OL):Nat->Int->(LI)->OL
  | 0,_,_=>none
  | n+1,i1,a1=>Zai l1 k1 (Z82 l1 k1 n) i1 a1
def Zo0 (p0:LI):OL :=
 chk (decide ((([]:LI).length+p0.length)*1<=140737488355328)) <|
 bnd (([]:LI)++p0) fun l1 =>
 bnd (wrap .u64 (p0.length:Int)) fun z1 =>
 opt (Znz z1) fun y1 =>
 chk (decide ((l1.length+y1.length)*1<=140737488355328)) <|
 bnd (l1++y1) fun l2 =>
 opt (Zio) fun y2 =>
 jn (fun (a1:LI)=>opt (Zbq a1) fun y3 =>
 some y3) fun k1=>Z82 l2 k1 big 0 y2
theorem Zpw {W:World} {r:(LI)} {p0:LI} {v0:Value} (h:Zo0 p0=some r) (A0:Z6v (El.int .u8) W v0 p0) :
    Calls Tryz.prog 230 [v0].toArray W (Z34 W (agg [b3' r])):=by
 unfold Zo0 at h
 refine Zc mo Z0ld rfl ?_
 refine Z0<|Z2<|Zd (Zq fun b1 u1=>Z1<|Z0<|Z2<|Z6 rfl<|Z1<|Z0<|cH h fun c1 h=>bH h fun l1 g1 h=>Z2<|Z6 rfl<|Z6 rfl<|Zd (Z1m (E:=(El.int .u8)) g1 rfl Z49 .here rfl (Z2k A0 Z2y) c1 fun v7 w1 O1=>Z6 rfl<|Z1<|Z0<|bH h fun z1 e1 h=>oH h fun y1 f1 h=>cH h fun c2 h=>bH h fun l2 g2 h=>Z2<|Z6 rfl<|Z6 rfl<|Z4 _ (Z3l rfl (Shp.rd A0))<|Z4 _ (iz e1 (Z33 rfl))<|Zd (Z05 rfl (fun w hw=>Zpv  f1 ) fun v13 o1 R1=>?_)))
 obtain ⟨_,w2,rfl,rfl,O2⟩:=R1
 refine Zd (Z1m (E:=(El.int .u8)) g2 rfl O1 (.app .here) rfl (Z00 O2 .here) c2 fun v20 w3 O3=>Z6 rfl<|Z1<|Z0<|oH h fun y2 f2 h=>Z2<|Z4 _ (Z0h rfl (Zmk f2))<|Zd (Zq fun b2 u2=>Zd (Zp (q:=[.ints .u32 8 (y2)]) rfl rfl rfl rfl rfl .here<|Z1<|Z0<|Z0<|Z2<|Z6 rfl<|Z1<|jH h fun k1 q1 h=>Zg (G:=fun t m=>∃ (a1:LI),k1 a1=some r/\Fit [(2,pt' b1),(4,pt' b2)] (ck b2 245 [.ints .u32 8 (a1)]::(ck b1 22 [b3' (replicate 32 0)] :: [])) t m) ?_ ?_)))
 ·refine Z9<|Zm (fun n1 t m=>∃ (i1:Int) (a2:LI),Z82 l2 k1 n1 i1 a2=some r/\Fit [(2,pt' b1),(3,v20),(4,pt' b2),(5,.int .i64 (i1))] (ck b2 245 [.ints .u32 8 (a2)]::(w3++(ck b1 22 [b3' (replicate 32 0)] :: []))) t m) big ?_ ?_
  ·exact ⟨0,y2,h,⟨⟨rfl,rfl,rfl,rfl,trivial⟩,(.o (.all .here (.one (.app .here) .nil)))⟩⟩
  ·rintro n1 t m ⟨i1,a2,h,hF⟩
   refine Ze hF ?_
   clear hF
   rcases n1 with _ | n1
   · exact Z07 h
   have h:Zai l2 k1 (Z82 l2 k1 n1) i1 a2=some r:=h
   unfold Zai at h
   obtain ⟨k2,q2⟩ : ∃ k,k=Z82 l2 k1 n1:=⟨_,rfl⟩
   try rw [<- q2] at h
   refine Z0<|Z0<|Z2<|Z6 rfl<|Z6 rfl<|Z4 _ (Z3l rfl (Shp.own O3))<|Z4 _ (Z8 rfl rfl rfl)<|Z1<|Z09 h rfl (fun h=>?_) (fun h=>?_)
   ·refine Zh<|Z0<|Z9<|Z0<|Z2<|Zd (Zq fun b3 u3=>Z1<|Z0<|Z0<|Z2<|Z6 rfl<|Z1<|jH h fun k3 q3 h=>Zg (G:=fun t m=>∃ (a3:LI),k3 a3=some r/\Fit [(2,pt' b1),(3,v20),(4,pt' b2),(5,.int .i64 (i1)),(6,pt' b3)] (ck b3 26 [b6' a3]::(ck b2 245 [.ints .u32 8 (a2)]::(w3++(ck b1 22 [b3' (replicate 32 0)] :: [])))) t m) ?_ ?_)
    ·refine Z9<|Zm (fun n2 t m=>∃ (i2:Int) (a4:LI),Z98 l2 i1 k3 n2 i2 a4=some r/\Fit [(2,pt' b1),(3,v20),(4,pt' b2),(5,.int .i64 (i1)),(6,pt' b3),(7,.int .i64 (i2))] (ck b3 26 [b6' a4]::(ck b2 245 [.ints .u32 8 (a2)]::(w3++(ck b1 22 [b3' (replicate 32 0)] :: [])))) t m) big ?_ ?_
     ·exact ⟨0,(replicate 64 0),h,⟨⟨rfl,rfl,rfl,rfl,rfl,rfl,trivial⟩,(.o (.o (.all .here (.o .nil))))⟩⟩
     ·rintro n2 t m ⟨i2,a4,h,hF⟩
      refine Ze hF ?_
      clear hF
      rcases n2 with _ | n2
      · exact Z07 h
      have h:Zaj l2 i1 k3 (Z98 l2 i1 k3 n2) i2 a4=some r:=h
      unfold Zaj at h
      obtain ⟨k4,q4⟩ : ∃ k,k=Z98 l2 i1 k3 n2:=⟨_,rfl⟩
      try rw [<- q4] at h
      refine Z0<|Z0<|Z2<|Z6 rfl<|Z4 _ (Z8 rfl rfl rfl)<|Z1<|Z09 h rfl (fun h=>?_) (fun h=>?_)
      ·refine Zh<|Z0<|Z9<|bH h fun z2 e2 h=>cH h fun c3 h=>bH h fun z3 e3 h=>cH h fun c4 h=>bH h fun l3 g3 h=>Z2<|Z6 rfl<|Z6 rfl<|Z6 rfl<|Z6 rfl<|Z4 _ (iz e2 (Z8 rfl rfl rfl))<|Z4 _ (Z5p rfl rfl (Shp.own O3) c3)<|Z4 _ (iz e3 (Z6k (E:=(El.int .u8)) (s:=[.one (.int .u8 (l2.getD (z2).toNat 0))]) rfl (Z00 O3 .t2) (Z01 c3) rfl rfl))<|Z4 _ (Z0i rfl rfl (Z08 c4))<|Zd (Z1h (q:=[b6' l3]) (base:=0) g3 rfl rfl rfl (Z01 c4) rfl .here<|Z1<|bH h fun z4 e4 h=>Z2<|Z6 rfl<|Z4 _ (iz e4 (Z8 rfl rfl rfl))<|Z6 rfl<|Z1 ?_)
       rw [q4] at h
       exact ⟨n2,Nat.lt_succ_self _,z4,l3,h,⟨⟨rfl,rfl,rfl,rfl,rfl,rfl,trivial⟩,(.o (.o (.all .here (.o .nil))))⟩⟩
      ·exact Zs _ rfl<|⟨a4,h,⟨⟨rfl,rfl,rfl,rfl,rfl,trivial⟩,(.o (.o (.all .here (.o .nil))))⟩⟩
    ·rintro t m ⟨a3,h,hF⟩
     refine Ze hF ?_
     clear hF
     subst q3
     refine oH h fun y3 f3 h=>Z2<|Z4 _ (Z02 (p:=[.ints .u32 8 (a2)]) rfl .t1 rfl)<|Z4 _ (Z02 (p:=[b6' a3]) rfl .here rfl)<|Z4 _ (Z0h rfl (Zmj f3))<|Zd (Zp (q:=[.ints .u32 8 (y3)]) rfl rfl rfl rfl rfl .t1<|Z1<|bH h fun z5 e5 h=>Z2<|Z6 rfl<|Z4 _ (iz e5 (Z8 rfl rfl rfl))<|Z6 rfl<|Z1 ?_)
     rw [q2] at h
     exact ⟨n1,Nat.lt_succ_self _,z5,y3,h,⟨⟨rfl,rfl,rfl,rfl,trivial⟩,(.one .t1 (.all .t1 (.one .t1 .nil)))⟩⟩
   ·exact Zs _ rfl<|⟨a2,h,⟨⟨rfl,rfl,trivial⟩,(.o (.one (.app .here) .nil))⟩⟩
 ·rintro t m ⟨a1,h,hF⟩
  refine Ze hF ?_
  clear hF
  subst q1
  refine Z0<|oH h fun y4 f4 h=>Z2<|Z4 _ (Z02 (p:=[.ints .u32 8 (a1)]) rfl .here rfl)<|Z4 _ (Z0h rfl (Zjm f4))<|Zd (Zp (q:=[b3' y4]) rfl rfl rfl rfl rfl .t1<|Z1<|Zj ?_)
  revert h; refine Zv fun h=>?_
  subst h
  exact ⟨_,(.cons (.agg rfl .t1 rfl) .nil),rfl⟩
def Zcm (y1:(LI)) (k1:(LI)->OL) (k2:(LI)->Int->OL) (l1:LI) (i1:Int):OL :=
 br ((decide (i1<32))) (
 chk (inB i1 32) <|
 bnd (y1.getD (i1).toNat 0) fun z1 =>
 chk (decide ((l1.length+([z1]:LI).length)*1<=140737488355328)) <|
 bnd (l1++([z1]:LI)) fun l2 =>
 bnd (wrap .i64 (i1+1)) fun z2 =>
 k2 l2 z2
 ) (
 k1 l1
 )
def Z6t (y1:(LI)) (k1:(LI)->OL):Nat->(LI)->Int->OL
  | 0,_,_=>none
  | n+1,l1,i1=>Zcm y1 k1 (Z6t y1 k1 n) l1 i1
def Zep (p0:LI):OL :=
 opt (Zo0 p0) fun y1 =>
 jn (fun (l1:LI)=>some l1) fun k1=>Z6t y1 k1 big [] 0
theorem Zjt {W:World} {r:(LI)} {p0:LI} {v0:Value} (h:Zep p0=some r) (A0:Z6v (El.int .u8) W v0 p0) :
    Calls Tryz.prog 227 [v0].toArray W (Zd9 W [] (fun v Ms=>∃ (u0:Value) (M1:List Zf),v=u0/\Ms = [.all M1]/\Z03 (El.int .u8) u0 M1 r)):=by
 unfold Zep at h
 refine Z0e mo Z0la rfl (Zgt _) ?_
 refine Z0<|Z2<|Z6 rfl<|Z1<|Z0<|oH h fun y1 f1 h=>Z2<|Z6 rfl<|Z4 _ (Z1a rfl (fun w hw=>Zpw f1 ((Z2k A0 Z2y) w hw)))<|Zd (Zq fun b1 hb1=>Zd (Zp (q:=[b3' y1]) rfl rfl rfl rfl rfl .here<|Z1<|Z0<|Z2<|Z6 rfl<|Z1<|Z0<|Z0<|Z2<|Z6 rfl<|Z1<|jH h fun k1 q1 h=>Zg (G:=fun t m=>∃ (l1:LI) (v61:Value) (w1:List Zf),k1 l1=some r/\Z03 (El.int .u8) v61 w1 l1/\Fit [(4,v61)] (ck b1 22 [b3' y1]::(w1 ++ [])) t m) ?_ ?_))
 ·refine Z9<|Zm (fun n1 t m=>∃ (l2:LI) (i1:Int) (v98:Value) (w2:List Zf),Z6t y1 k1 n1 l2 i1=some r/\Z03 (El.int .u8) v98 w2 l2/\Fit [(3,pt' b1),(4,v98),(5,.int .i64 (i1))] (ck b1 22 [b3' y1]::(w2 ++ [])) t m) big ?_ ?_
  ·exact ⟨[],0,(.slice none 0 0),[],h,Z49,⟨⟨rfl,rfl,rfl,trivial⟩,(.o (.no .nil))⟩⟩
  ·rintro n1 t m ⟨l2,i1,v98,w2,h,O1,hF⟩
   refine Ze hF ?_
   clear hF
   rcases n1 with _ | n1
   · exact Z07 h
   have h:Zcm y1 k1 (Z6t y1 k1 n1) l2 i1=some r:=h
   unfold Zcm at h
   obtain ⟨k2,q2⟩ : ∃ k,k=Z6t y1 k1 n1:=⟨_,rfl⟩
   try rw [<- q2] at h
   refine Z0<|Z0<|Z2<|Z6 rfl<|Z4 _ (Z8 rfl rfl rfl)<|Z1<|Z09 h rfl (fun h=>?_) (fun h=>?_)
   ·refine Zh<|Z0<|Z9<|cH h fun c1 h=>bH h fun z1 e1 h=>cH h fun c2 h=>bH h fun l3 g1 h=>Z2<|Z6 rfl<|Z6 rfl<|Z4 _ (Z0i rfl rfl (Z08 c1))<|Z4 _ (iz e1 (Z1w (base:=0) rfl .here rfl (Z01 c1)))<|Zd (Z3i (E:=(El.int .u8)) (xs:=[z1]) (.one rfl rfl rfl BdR.nil) (.cons (p:=[.one (.int .u8 (z1))]) rfl .nil) rfl fun v110 w3 O2=>Zd (Z1m (E:=(El.int .u8)) g1 rfl O1 (.app .t1) rfl (Z00 O2 .here) c2 fun v115 w4 O3=>Z6 rfl<|Z1<|bH h fun z2 e2 h=>Z2<|Z6 rfl<|Z4 _ (iz e2 (Z8 rfl rfl rfl))<|Z6 rfl<|Z1 ?_))
    rw [q2] at h
    exact ⟨n1,Nat.lt_succ_self _,l3,z2,v115,w4,h,O3,⟨⟨rfl,rfl,rfl,trivial⟩,(.one (.app (.app .here)) (.all .here .nil))⟩⟩
   ·exact Zs _ rfl<|⟨l2,v98,w2,h,O1,⟨⟨rfl,trivial⟩,(.o (.all .here .nil))⟩⟩
 ·rintro t m ⟨l1,v61,w1,h,O4,hF⟩
  refine Ze hF ?_
  clear hF
  subst q1
  refine Z0<|Z2<|Z6 rfl<|Z6 rfl<|Z1<|Zj ?_
  revert h; refine Zv fun h=>?_
  subst h
  exact ⟨_,_,(.cons (.tmp rfl) .nil),(.all .t1 .nil),⟨_,rfl,⟨v61,w1,rfl,rfl,O4⟩⟩⟩
def Zam (p0:Bool) (p1:LI):OL :=
 br (p0) (
 opt (Zha p1) fun y1 =>
 some y1
 ) (
 opt (Zep p1) fun y2 =>
 some y2
 )
theorem Zbd {W:World} {r:(LI)} {p0:Bool} {p1:LI} {v1:Value} (h:Zam p0 p1=some r) (hG:Globs W) (A1:Z6v (El.int .u8) W v1 p1) :
    Calls Tryz.prog 216 [.bool (p0),v1].toArray W (Zd9 W [] (fun v Ms=>∃ (u0:Value) (M1:List Zf),v=u0/\Ms = [.all M1]/\Z03 (El.int .u8) u0 M1 r)):=by
 unfold Zam at h
 refine Z0e mo Z0kz rfl (Zgt _) ?_
 refine Z0<|Z2<|Z6 rfl<|Z1<|Z0<|Z0<|Z2<|Z6 rfl<|Z1<|Z09 h rfl (fun h=>?_) (fun h=>?_)
 ·refine Z0<|oH h fun y1 f1 h=>Z2<|Z6 rfl<|Zd (Z05 rfl (fun w hw=>Zju  f1 (hG.at hw (by simp)) ((Z2k A1 Z2y) w hw)) fun v6 o1 R1=>?_)
  obtain ⟨_,w1,rfl,rfl,O1⟩:=R1
  refine Z6 rfl<|Z1<|Zj ?_
  revert h; refine Zv fun h=>?_
  subst h
  exact ⟨_,_,(.cons (.tmp rfl) .nil),(.all .here .nil),⟨_,rfl,⟨v6,w1,rfl,rfl,O1⟩⟩⟩
 ·refine Zh<|Z0<|oH h fun y2 f2 h=>Z2<|Z6 rfl<|Zd (Z05 rfl (fun w hw=>Zjt  f2 ((Z2k A1 Z2y) w hw)) fun v13 o2 R2=>?_)
  obtain ⟨_,w2,rfl,rfl,O2⟩:=R2
  refine Z6 rfl<|Z1<|Zj ?_
  revert h; refine Zv fun h=>?_
  subst h
  exact ⟨_,_,(.cons (.tmp rfl) .nil),(.all .here .nil),⟨_,rfl,⟨v13,w2,rfl,rfl,O2⟩⟩⟩
def Z7d (i1:Int) (l1:LI) (k1:(LI)->(LI)->OL) (k2:(LI)->(LI)->Int->OL) (l2:LI) (l3:LI) (i2:Int):OL :=
 br ((decide (i2<i1))) (
 jn (fun (i3:Int)=>bnd (Za .xor .u8 i3 54) fun z1 =>
 chk (decide ((l2.length+([z1]:LI).length)*1<=140737488355328)) <|
 bnd (l2++([z1]:LI)) fun l4 =>
 bnd (Za .xor .u8 i3 92) fun z2 =>
 chk (decide ((l3.length+([z2]:LI).length)*1<=140737488355328)) <|
 bnd (l3++([z2]:LI)) fun l5 =>
 bnd (wrap .i64 (i2+1)) fun z3 =>
 k2 l4 l5 z3) fun k3=>br ((decide (i2<(l1.length:Int)))) (
 chk (inB i2 l1.length) <|
 bnd (l1.getD (i2).toNat 0) fun z4 =>
 k3 z4
 ) (
 k3 0
 )
 ) (
 k1 l2 l3
 )
def Z4o (i1:Int) (l1:LI) (k1:(LI)->(LI)->OL):Nat->(LI)->(LI)->Int->OL
  | 0,_,_,_=>none
  | n+1,l2,l3,i2=>Z7d i1 l1 k1 (Z4o i1 l1 k1 n) l2 l3 i2
def Zgh (p0:Bool) (p1:LI) (p2:LI):OL :=
 jn (fun (i1:Int)=>jn (fun (l1:LI)=>jn (fun (l2:LI) (l3:LI)=>chk (decide ((l2.length+p2.length)*1<=140737488355328)) <|
 bnd (l2++p2) fun l4 =>
 opt (Zam p0 l4) fun y1 =>
 chk (decide ((l3.length+y1.length)*1<=140737488355328)) <|
 bnd (l3++y1) fun l5 =>
 opt (Zam p0 l5) fun y2 =>
 some y2) fun k1=>Z4o i1 l1 k1 big [] [] 0) fun k2=>br ((decide ((p1.length:Int)>i1))) (
 opt (Zam p0 p1) fun y3 =>
 k2 y3
 ) (
 k2 p1
 )) fun k3=>br (p0) (
 k3 128
 ) (
 k3 64
 )
theorem Zmo {W:World} {r:(LI)} {p0:Bool} {p1:LI} {p2:LI} {v1:Value} {v2:Value} (h:Zgh p0 p1 p2=some r) (hG:Globs W) (A1:Z6v (El.int .u8) W v1 p1) (A2:Z6v (El.int .u8) W v2 p2) :
    Calls Tryz.prog 185 [.bool (p0),v1,v2].toArray W (Zd9 W [] (fun v Ms=>∃ (u0:Value) (M1:List Zf),v=u0/\Ms = [.all M1]/\Z03 (El.int .u8) u0 M1 r)):=by
 unfold Zgh at h
 refine Z0e mo Z0ka rfl (Zgt _) ?_
 refine Z0<|Z2<|Z6 rfl<|Z1<|Z0<|Z2<|Z6 rfl<|Z1<|Z0<|Z0<|Z2<|Z6 rfl<|Z1<|jH h fun k1 q1 h=>Zg (G:=fun t m=>∃ (i1:Int),k1 i1=some r/\Fit [(0,.bool (p0)),(1,v1),(2,v2),(7,.int .i64 (i1))] [] t m) ?_ ?_
 ·refine Z09 h rfl (fun h=>?_) (fun h=>?_)
  ·exact Z2<|Z6 rfl<|Z1<|⟨128,h,⟨⟨rfl,rfl,rfl,rfl,trivial⟩,.nil⟩⟩
  ·exact Zh<|⟨64,h,⟨⟨rfl,rfl,rfl,rfl,trivial⟩,.nil⟩⟩
 ·rintro t m ⟨i1,h,hF⟩
  refine Ze hF ?_
  clear hF
  subst q1
  refine Z0<|Z0<|Z2<|Z6 rfl<|Z4 _ (Z3l rfl (Shp.rd A1))<|Z6 rfl<|Z4 _ (Z8 rfl rfl rfl)<|Z1<|jH h fun k2 q2 h=>Zg (G:=fun t m=>∃ (l1:LI) (v19:Value) (w1:List Zf),k2 l1=some r/\Zi6 (⟨Tryz.prog,d185.n,W,[]⟩:Cfg) w1 (El.int .u8) v19 l1/\Shp v19 l1.length/\Fit [(0,.bool (p0)),(1,v19),(2,v2),(7,.int .i64 (i1))] (w1 ++ []) t m) ?_ ?_
  ·refine Z09 h rfl (fun h=>?_) (fun h=>?_)
   ·refine oH h fun y1 f1 h=>Z2<|Z6 rfl<|Z6 rfl<|Zd (Z05 rfl (fun w hw=>Zbd  f1 (hG.at hw (by simp)) ((Z2k A1 Z2y) w hw)) fun v28 o1 R1=>?_)
    obtain ⟨_,w2,rfl,rfl,O1⟩:=R1
    exact Z6 rfl<|Z1<|⟨y1,v28,w2,h,(Zve O1),(Shp.own O1),⟨⟨rfl,rfl,rfl,rfl,trivial⟩,(.all .here .nil)⟩⟩
   ·exact Zh<|⟨p1,v1,[],h,(Z2k A1 Z2y),(Shp.rd A1),⟨⟨rfl,rfl,rfl,rfl,trivial⟩,(.no .nil)⟩⟩
  ·rintro t m ⟨l1,v19,w1,h,H22,Z23,hF⟩
   refine Ze hF ?_
   clear hF
   subst q2
   refine Z0<|Z2<|Z6 rfl<|Z6 rfl<|Z1<|Z0<|Z0<|Z2<|Z6 rfl<|Z1<|jH h fun k3 q3 h=>Zg (G:=fun t m=>∃ (l2:LI) (l3:LI) (v162:Value) (w3:List Zf) (v166:Value) (w4:List Zf),k3 l2 l3=some r/\Z03 (El.int .u8) v162 w3 l2/\Z03 (El.int .u8) v166 w4 l3/\Fit [(0,.bool (p0)),(2,v2),(8,v162),(9,v166)] (w4++(w3 ++ [])) t m) ?_ ?_
   ·refine Z9<|Zm (fun n1 t m=>∃ (l4:LI) (l5:LI) (i2:Int) (v251:Value) (w5:List Zf) (v255:Value) (w6:List Zf),Z4o i1 l1 k3 n1 l4 l5 i2=some r/\Z03 (El.int .u8) v251 w5 l4/\Z03 (El.int .u8) v255 w6 l5/\Fit [(0,.bool (p0)),(1,v19),(2,v2),(7,.int .i64 (i1)),(8,v251),(9,v255),(10,.int .i64 (i2))] (w1++(w6++(w5 ++ []))) t m) big ?_ ?_
    ·exact ⟨[],[],0,(.slice none 0 0),[],(.slice none 0 0),[],h,Z49,Z49,⟨⟨rfl,rfl,rfl,rfl,rfl,rfl,rfl,trivial⟩,(.all .here (.no (.no .nil)))⟩⟩
    ·rintro n1 t m ⟨l4,l5,i2,v251,w5,v255,w6,h,O2,O3,hF⟩
     refine Ze hF ?_
     clear hF
     rcases n1 with _ | n1
     · exact Z07 h
     have h:Z7d i1 l1 k3 (Z4o i1 l1 k3 n1) l4 l5 i2=some r:=h
     unfold Z7d at h
     obtain ⟨k4,q4⟩ : ∃ k,k=Z4o i1 l1 k3 n1:=⟨_,rfl⟩
     try rw [<- q4] at h
     refine Z0<|Z0<|Z2<|Z6 rfl<|Z6 rfl<|Z4 _ (Z8 rfl rfl rfl)<|Z1<|Z09 h rfl (fun h=>?_) (fun h=>?_)
     ·refine Zh<|Z0<|Z9<|Z0<|Z2<|Z6 rfl<|Z1<|Z0<|Z0<|Z2<|Z6 rfl<|Z6 rfl<|Z4 _ (Z3l rfl Z23)<|Z4 _ (Z8 rfl rfl rfl)<|Z1<|jH h fun k5 q5 h=>Zg (G:=fun t m=>∃ (i3:Int),k5 i3=some r/\Fit [(0,.bool (p0)),(1,v19),(2,v2),(7,.int .i64 (i1)),(8,v251),(9,v255),(10,.int .i64 (i2)),(11,.int .u8 (i3))] (w1++(w6++(w5 ++ []))) t m) ?_ ?_
      ·refine Z09 h rfl (fun h=>?_) (fun h=>?_)
       ·exact cH h fun c1 h=>bH h fun z1 e1 h=>Z2<|Z6 rfl<|Z6 rfl<|Z4 _ (Z5p rfl rfl Z23 c1)<|Z4 _ (iz e1 (Z6k (E:=(El.int .u8)) (s:=[.one (.int .u8 (l1.getD (i2).toNat 0))]) rfl (Zvd H22 .here) (Z01 c1) rfl rfl))<|Z6 rfl<|Z1<|⟨z1,h,⟨⟨rfl,rfl,rfl,rfl,rfl,rfl,rfl,rfl,trivial⟩,(.all .here (.all .here (.all .here .nil)))⟩⟩
       ·exact Zh<|⟨0,h,⟨⟨rfl,rfl,rfl,rfl,rfl,rfl,rfl,rfl,trivial⟩,(.all .here (.all .here (.all .here .nil)))⟩⟩
      ·rintro t m ⟨i3,h,hF⟩
       refine Ze hF ?_
       clear hF
       subst q5
       refine Z0<|bH h fun z2 e2 h=>cH h fun c2 h=>bH h fun l6 g1 h=>Z2<|Z6 rfl<|Z6 rfl<|Z4 _ (iz e2 (Z8 rfl rfl rfl))<|Zd (Z3i (E:=(El.int .u8)) (xs:=[z2]) (.one rfl rfl rfl BdR.nil) (.cons (p:=[.one (.int .u8 (z2))]) rfl .nil) rfl fun v278 w7 O4=>Zd (Z1m (E:=(El.int .u8)) g1 rfl O2 (.app (.app (.app .here))) rfl (Z00 O4 .here) c2 fun v283 w8 O5=>Z6 rfl<|Z1<|bH h fun z3 e3 h=>cH h fun c3 h=>bH h fun l7 g2 h=>Z2<|Z6 rfl<|Z6 rfl<|Z4 _ (iz e3 (Z8 rfl rfl rfl))<|Zd (Z3i (E:=(El.int .u8)) (xs:=[z3]) (.one rfl rfl rfl BdR.nil) (.cons (p:=[.one (.int .u8 (z3))]) rfl .nil) rfl fun v288 w9 O6=>Zd (Z1m (E:=(El.int .u8)) g2 rfl O3 (.app (.app (.app (.app .here)))) rfl (Z00 O6 .here) c3 fun v293 w10 O7=>Z6 rfl<|Z1<|bH h fun z4 e4 h=>Z2<|Z6 rfl<|Z4 _ (iz e4 (Z8 rfl rfl rfl))<|Z6 rfl<|Z1 ?_))))
       rw [q4] at h
       exact ⟨n1,Nat.lt_succ_self _,l6,l7,z4,v283,w8,v293,w10,h,O5,O7,⟨⟨rfl,rfl,rfl,rfl,rfl,rfl,rfl,trivial⟩,(.all (.app (.app (.app (.app .here)))) (.all .here (.all (.app .here) .nil)))⟩⟩
     ·exact Zs _ rfl<|⟨l4,l5,v251,w5,v255,w6,h,O2,O3,⟨⟨rfl,rfl,rfl,rfl,trivial⟩,(.all (.app .here) (.all (.app .here) .nil))⟩⟩
   ·rintro t m ⟨l2,l3,v162,w3,v166,w4,h,O8,O9,hF⟩
    refine Ze hF ?_
    clear hF
    subst q3
    refine Z0<|cH h fun c4 h=>bH h fun l8 g3 h=>Z2<|Z6 rfl<|Z6 rfl<|Zd (Z1m (E:=(El.int .u8)) g3 rfl O8 (.app .here) rfl (Z2k A2 Z2y) c4 fun v301 w11 O10=>Z6 rfl<|Z1<|Z0<|oH h fun y2 f2 h=>cH h fun c5 h=>bH h fun l9 g4 h=>Z2<|Z6 rfl<|Z6 rfl<|Z6 rfl<|Zd (Z05 rfl (fun w hw=>Zbd  f2 (hG.at hw (by simp)) ((Z00 O10 .here) w hw)) fun v306 o2 R2=>?_))
    obtain ⟨_,w12,rfl,rfl,O11⟩:=R2
    refine Zd (Z1m (E:=(El.int .u8)) g4 rfl O9 (.app (.app .here)) rfl (Z00 O11 .here) c5 fun v313 w13 O12=>Z6 rfl<|Z1<|Z0<|oH h fun y3 f3 h=>Z2<|Z6 rfl<|Z6 rfl<|Zd (Z05 rfl (fun w hw=>Zbd  f3 (hG.at hw (by simp)) ((Z00 O12 .here) w hw)) fun v318 o3 R3=>?_))
    obtain ⟨_,w14,rfl,rfl,O13⟩:=R3
    refine Z6 rfl<|Z1<|Zj ?_
    revert h; refine Zv fun h=>?_
    subst h
    exact ⟨_,_,(.cons (.tmp rfl) .nil),(.all .here .nil),⟨_,rfl,⟨v318,w14,rfl,rfl,O13⟩⟩⟩
def Ze2 (p0:LI) (k1:(LI)->OL) (k2:(LI)->Int->OL) (l1:LI) (i1:Int):OL :=
 br ((decide (i1<32))) (
 chk (inB i1 32) <|
 bnd (p0.getD (i1).toNat 0) fun z1 =>
 chk (decide ((l1.length+([z1]:LI).length)*1<=140737488355328)) <|
 bnd (l1++([z1]:LI)) fun l2 =>
 bnd (wrap .i64 (i1+1)) fun z2 =>
 k2 l2 z2
 ) (
 k1 l1
 )
def Z7r (p0:LI) (k1:(LI)->OL):Nat->(LI)->Int->OL
  | 0,_,_=>none
  | n+1,l1,i1=>Ze2 p0 k1 (Z7r p0 k1 n) l1 i1
def Ze1 (p0:LI):OL :=
 jn (fun (l1:LI)=>some l1) fun k1=>Z7r p0 k1 big [] 0
theorem Zky {W:World} {r:(LI)} {p0:LI} (h:Ze1 p0=some r)  :
    Calls Tryz.prog 186 [agg [b3' p0]].toArray W (Zd9 W [] (fun v Ms=>∃ (u0:Value) (M1:List Zf),v=u0/\Ms = [.all M1]/\Z03 (El.int .u8) u0 M1 r)):=by
 unfold Ze1 at h
 refine Z0e mo Z0kb rfl (Zgt _) ?_
 refine Z0<|Z2<|Zd (Z0l (s:=[b3' p0]) rfl fun b1 hb1=>Z6 rfl<|Z1<|Z0<|Z2<|Z6 rfl<|Z1<|Z0<|Z0<|Z2<|Z6 rfl<|Z1<|jH h fun k1 q1 h=>Zg (G:=fun t m=>∃ (l1:LI) (v59:Value) (w1:List Zf),k1 l1=some r/\Z03 (El.int .u8) v59 w1 l1/\Fit [(3,v59)] (ck b1 23 [b3' p0]::(w1 ++ [])) t m) ?_ ?_)
 ·refine Z9<|Zm (fun n1 t m=>∃ (l2:LI) (i1:Int) (v96:Value) (w2:List Zf),Z7r p0 k1 n1 l2 i1=some r/\Z03 (El.int .u8) v96 w2 l2/\Fit [(1,pt' b1),(3,v96),(4,.int .i64 (i1))] (ck b1 23 [b3' p0]::(w2 ++ [])) t m) big ?_ ?_
  ·exact ⟨[],0,(.slice none 0 0),[],h,Z49,⟨⟨rfl,rfl,rfl,trivial⟩,(.o (.no .nil))⟩⟩
  ·rintro n1 t m ⟨l2,i1,v96,w2,h,O1,hF⟩
   refine Ze hF ?_
   clear hF
   rcases n1 with _ | n1
   · exact Z07 h
   have h:Ze2 p0 k1 (Z7r p0 k1 n1) l2 i1=some r:=h
   unfold Ze2 at h
   obtain ⟨k2,q2⟩ : ∃ k,k=Z7r p0 k1 n1:=⟨_,rfl⟩
   try rw [<- q2] at h
   refine Z0<|Z0<|Z2<|Z6 rfl<|Z4 _ (Z8 rfl rfl rfl)<|Z1<|Z09 h rfl (fun h=>?_) (fun h=>?_)
   ·refine Zh<|Z0<|Z9<|cH h fun c1 h=>bH h fun z1 e1 h=>cH h fun c2 h=>bH h fun l3 g1 h=>Z2<|Z6 rfl<|Z6 rfl<|Z4 _ (Z0i rfl rfl (Z08 c1))<|Z4 _ (iz e1 (Z1w (base:=0) rfl .here rfl (Z01 c1)))<|Zd (Z3i (E:=(El.int .u8)) (xs:=[z1]) (.one rfl rfl rfl BdR.nil) (.cons (p:=[.one (.int .u8 (z1))]) rfl .nil) rfl fun v108 w3 O2=>Zd (Z1m (E:=(El.int .u8)) g1 rfl O1 (.app .t1) rfl (Z00 O2 .here) c2 fun v113 w4 O3=>Z6 rfl<|Z1<|bH h fun z2 e2 h=>Z2<|Z6 rfl<|Z4 _ (iz e2 (Z8 rfl rfl rfl))<|Z6 rfl<|Z1 ?_))
    rw [q2] at h
    exact ⟨n1,Nat.lt_succ_self _,l3,z2,v113,w4,h,O3,⟨⟨rfl,rfl,rfl,trivial⟩,(.one (.app (.app .here)) (.all .here .nil))⟩⟩
   ·exact Zs _ rfl<|⟨l2,v96,w2,h,O1,⟨⟨rfl,trivial⟩,(.o (.all .here .nil))⟩⟩
 ·rintro t m ⟨l1,v59,w1,h,O4,hF⟩
  refine Ze hF ?_
  clear hF
  subst q1
  refine Z0<|Z2<|Z6 rfl<|Z6 rfl<|Z1<|Zj ?_
  revert h; refine Zv fun h=>?_
  subst h
  exact ⟨_,_,(.cons (.tmp rfl) .nil),(.all .t1 .nil),⟨_,rfl,⟨v59,w1,rfl,rfl,O4⟩⟩⟩
def Z9a (p0:LI) (p1:LI) (p2:Int) (k1:(LI)->Option ((LI)×Bool)) (k2:(LI)->(LI)->Int->Option ((LI)×Bool)) (l1:LI) (l2:LI) (i1:Int):Option ((LI)×Bool) :=
 br ((decide ((l1.length:Int)<p2))) (
 chk (decide ((([]:LI).length+l2.length)*1<=140737488355328)) <|
 bnd (([]:LI)++l2) fun l3 =>
 chk (decide ((l3.length+p1.length)*1<=140737488355328)) <|
 bnd (l3++p1) fun l4 =>
 bnd (wrap .u8 i1) fun z1 =>
 chk (decide ((l4.length+([z1]:LI).length)*1<=140737488355328)) <|
 bnd (l4++([z1]:LI)) fun l5 =>
 opt (Ze1 p0) fun y1 =>
 opt (Zgh false y1 l5) fun y2 =>
 chk (decide ((l1.length+y2.length)*1<=140737488355328)) <|
 bnd (l1++y2) fun l6 =>
 bnd (wrap .i64 (i1+1)) fun z2 =>
 k2 l6 y2 z2
 ) (
 k1 l1
 )
def Z6e (p0:LI) (p1:LI) (p2:Int) (k1:(LI)->Option ((LI)×Bool)):Nat->(LI)->(LI)->Int->Option ((LI)×Bool)
  | 0,_,_,_=>none
  | n+1,l1,l2,i1=>Z9a p0 p1 p2 k1 (Z6e p0 p1 p2 k1 n) l1 l2 i1
def Ze0 (p0:LI) (p1:LI) (p2:Int):Option ((LI)×Bool) :=
 br (((decide (p2<0))||(decide (p2>8160)))) (
 some ([],false)
 ) (
 jn (fun (l1:LI)=>chk (Zfh 0 p2 l1.length) <|
 some (((l1.drop 0).take ((p2).toNat-0)),true)) fun k1=>Z6e p0 p1 p2 k1 big [] [] 1
 )
theorem Zkx {W:World} {r:(LI)×Bool} {p0:LI} {p1:LI} {p2:Int} {v1:Value} (h:Ze0 p0 p1 p2=some r) (hG:Globs W) (A1:Z6v (El.int .u8) W v1 p1) :
    Calls Tryz.prog 120 [agg [b3' p0],v1,.int .i64 (p2)].toArray W (Zd9 W [] (fun v Ms=>∃ (u0:Value) (M1:List Zf),v = .tuple #[u0,.bool (r.2)]/\Ms = [.all M1]/\Z03 (El.int .u8) u0 M1 r.1)):=by
 unfold Ze0 at h
 refine Z0e mo Z0j8 rfl (Zgt _) ?_
 refine Z0<|Z2<|Zd (Z0l (s:=[b3' p0]) rfl fun b1 hb1=>Z6 rfl<|Z6 rfl<|Z1<|Z0<|Z0<|Z2<|Z6 rfl<|Z4 _ (Z8 rfl rfl rfl)<|Z6 rfl<|Z9o rfl rfl rfl (fun hg1=>Z2z rfl _ (Z0j rfl) (Z2z rfl _ (Z8 rfl rfl rfl) (Z3f))) (fun hg1=>rfl) rfl<|Z1<|Z09 h rfl (fun h=>?_) (fun h=>?_))
 ·refine Z0<|Z2<|Z6 rfl<|Z6 rfl<|Z1<|Zj ?_
  revert h; refine Zv fun h=>?_
  subst h
  exact ⟨_,_,(.cons (.tmp rfl) (.cons (.tmp rfl) .nil)),(.no .nil),⟨_,rfl,⟨(.slice none 0 0),[],rfl,rfl,Z49⟩⟩⟩
 ·refine Zh<|Z0<|Z2<|Z6 rfl<|Z6 rfl<|Z1<|Z0<|Z0<|Z2<|Z6 rfl<|Z1<|jH h fun k1 q1 h=>Zg (G:=fun t m=>∃ (l1:LI) (v164:Value) (w1:List Zf),k1 l1=some r/\Z03 (El.int .u8) v164 w1 l1/\Fit [(2,.int .i64 (p2)),(8,v164)] (ck b1 23 [b3' p0]::(w1 ++ [])) t m) ?_ ?_
  ·refine Z9<|Zm (fun n1 t m=>∃ (l2:LI) (l3:LI) (i1:Int) (v268:Value) (w2:List Zf) (v272:Value) (w3:List Zf),Z6e p0 p1 p2 k1 n1 l2 l3 i1=some r/\Z03 (El.int .u8) v268 w2 l2/\Z03 (El.int .u8) v272 w3 l3/\Fit [(1,v1),(2,.int .i64 (p2)),(3,pt' b1),(8,v268),(9,v272),(10,.int .i64 (i1))] (ck b1 23 [b3' p0]::(w2++(w3 ++ []))) t m) big ?_ ?_
   ·exact ⟨[],[],1,(.slice none 0 0),[],(.slice none 0 0),[],h,Z49,Z49,⟨⟨rfl,rfl,rfl,rfl,rfl,rfl,trivial⟩,(.o (.no (.no .nil)))⟩⟩
   ·rintro n1 t m ⟨l2,l3,i1,v268,w2,v272,w3,h,O1,O2,hF⟩
    refine Ze hF ?_
    clear hF
    rcases n1 with _ | n1
    · exact Z07 h
    have h:Z9a p0 p1 p2 k1 (Z6e p0 p1 p2 k1 n1) l2 l3 i1=some r:=h
    unfold Z9a at h
    obtain ⟨k2,q2⟩ : ∃ k,k=Z6e p0 p1 p2 k1 n1:=⟨_,rfl⟩
    try rw [<- q2] at h
    refine Z0<|Z0<|Z2<|Z6 rfl<|Z4 _ (Z3l rfl (Shp.own O1))<|Z6 rfl<|Z4 _ (Z8 rfl rfl rfl)<|Z1<|Z09 h rfl (fun h=>?_) (fun h=>?_)
    ·refine Zh<|Z0<|Z9<|Z0<|Z2<|Z6 rfl<|Z1<|Z0<|cH h fun c1 h=>bH h fun l4 g1 h=>Z2<|Z6 rfl<|Z6 rfl<|Zd (Z1m (E:=(El.int .u8)) g1 rfl Z49 .here rfl (Z00 O2 (.there (.app .here))) c1 fun v285 w4 O3=>Z6 rfl<|Z1<|Z0<|cH h fun c2 h=>bH h fun l5 g2 h=>Z2<|Z6 rfl<|Z6 rfl<|Zd (Z1m (E:=(El.int .u8)) g2 rfl O3 .here rfl (Z2k A1 Z2y) c2 fun v291 w5 O4=>Z6 rfl<|Z1<|Z0<|bH h fun z1 e1 h=>cH h fun c3 h=>bH h fun l6 g3 h=>Z2<|Z6 rfl<|Z6 rfl<|Z4 _ (iz e1 (Z33 rfl))<|Zd (Z3i (E:=(El.int .u8)) (xs:=[z1]) (.one rfl rfl rfl BdR.nil) (.cons (p:=[.one (.int .u8 (z1))]) rfl .nil) rfl fun v296 w6 O5=>Zd (Z1m (E:=(El.int .u8)) g3 rfl O4 (.app .here) rfl (Z00 O5 .here) c3 fun v301 w7 O6=>Z6 rfl<|Z1<|Z0<|oH h fun y1 f1 h=>oH h fun y2 f2 h=>Z2<|Z4 _ (Z02 (p:=[b3' p0]) rfl (.app (.app .here)) rfl)<|Zd (Z05 rfl (fun w hw=>Zky  f1 ) fun v306 o1 R1=>?_)))))
     obtain ⟨_,w8,rfl,rfl,O7⟩:=R1
     refine Z6 rfl<|Zd (Z05 rfl (fun w hw=>Zmo  f2 (hG.at hw (by simp)) ((Z00 O7 .here) w hw) ((Z00 O6 (.app .here)) w hw)) fun v312 o2 R2=>?_)
     obtain ⟨_,w9,rfl,rfl,O8⟩:=R2
     refine Z6 rfl<|Z1<|cH h fun c4 h=>bH h fun l7 g4 h=>Z2<|Z6 rfl<|Z6 rfl<|Zd (Z1m (E:=(El.int .u8)) g4 rfl O1 (.app (.app (.app (.app .t1)))) rfl (Z00 O8 .here) c4 fun v320 w10 O9=>Z6 rfl<|Z1<|bH h fun z2 e2 h=>Z2<|Z6 rfl<|Z4 _ (iz e2 (Z8 rfl rfl rfl))<|Z6 rfl<|Z1 ?_)
     rw [q2] at h
     exact ⟨n1,Nat.lt_succ_self _,l7,y2,z2,v320,w10,v312,w9,h,O9,O8,⟨⟨rfl,rfl,rfl,rfl,rfl,rfl,trivial⟩,(.one (.app (.app (.app (.app (.app .here))))) (.all .here (.all .here .nil)))⟩⟩
    ·exact Zs _ rfl<|⟨l2,v268,w2,h,O1,⟨⟨rfl,rfl,trivial⟩,(.o (.all .here .nil))⟩⟩
  ·rintro t m ⟨l1,v164,w1,h,O10,hF⟩
   refine Ze hF ?_
   clear hF
   subst q1
   refine Z0<|cH h fun c5 h=>Z2<|Z6 rfl<|Z6 rfl<|Z4 _ (Zk2 (lz:=0) (hz:=p2) rfl (Shp.own O10) .no (.yes rfl) c5)<|Z6 rfl<|Z6 rfl<|Z1<|Zj ?_
   revert h; refine Zv fun h=>?_
   subst h
   exact ⟨_,_,(.cons (.tmp rfl) (.cons (.tmp rfl) .nil)),(.all .t1 .nil),⟨_,rfl,⟨(Za7 1 v164 0 (p2).toNat),w1,rfl,rfl,(Zy2 (xs:=l1) O10 (Zzf c5))⟩⟩⟩
def Zdz (p1:ByteArray) (k1:(LI)->Option ((LI)×Bool)) (k2:(LI)->Int->Option ((LI)×Bool)) (l1:LI) (i1:Int):Option ((LI)×Bool) :=
 br ((decide (i1<(p1.size:Int)))) (
 chk (inB i1 p1.size) <|
 bnd ((Zt4 p1).getD (i1).toNat 0) fun z1 =>
 chk (decide ((l1.length+([z1]:LI).length)*1<=140737488355328)) <|
 bnd (l1++([z1]:LI)) fun l2 =>
 bnd (wrap .i64 (i1+1)) fun z2 =>
 k2 l2 z2
 ) (
 k1 l1
 )
def Z7q (p1:ByteArray) (k1:(LI)->Option ((LI)×Bool)):Nat->(LI)->Int->Option ((LI)×Bool)
  | 0,_,_=>none
  | n+1,l1,i1=>Zdz p1 k1 (Z7q p1 k1 n) l1 i1
def Z6d (y1:(LI)×Bool) (k1:(LI)->Option ((LI)×Bool)) (k2:Int->(LI)->Option ((LI)×Bool)) (i1:Int) (a1:LI):Option ((LI)×Bool) :=
 br ((decide (i1<32))) (
 chk (inB i1 y1.1.length) <|
 bnd (y1.1.getD (i1).toNat 0) fun z1 =>
 chk (inB i1 32) <|
 bnd (Z28 a1 (i1).toNat z1) fun l1 =>
 bnd (wrap .i64 (i1+1)) fun z2 =>
 k2 z2 l1
 ) (
 k1 a1
 )
def Z5b (y1:(LI)×Bool) (k1:(LI)->Option ((LI)×Bool)):Nat->Int->(LI)->Option ((LI)×Bool)
  | 0,_,_=>none
  | n+1,i1,a1=>Z6d y1 k1 (Z5b y1 k1 n) i1 a1
def Zbw (p0:LI) (p1:ByteArray) (p2:Int):Option ((LI)×Bool) :=
 br ((((decide ((p1.size:Int)>32))||(decide (p2<0)))||(decide (p2>2147483647)))) (
 some ((replicate 32 0),false)
 ) (
 jn (fun (l1:LI)=>chk (decide ((l1.length+([0,0,0,0,0]:LI).length)*1<=140737488355328)) <|
 bnd (l1++([0,0,0,0,0]:LI)) fun l2 =>
 bnd (wrap .i64 (Int.tdiv p2 16777216)) fun z1 =>
 bnd (Int.tmod z1 256) fun z2 =>
 bnd (wrap .u8 z2) fun z3 =>
 bnd (wrap .i64 (Int.tdiv p2 65536)) fun z4 =>
 bnd (Int.tmod z4 256) fun z5 =>
 bnd (wrap .u8 z5) fun z6 =>
 bnd (wrap .i64 (Int.tdiv p2 256)) fun z7 =>
 bnd (Int.tmod z7 256) fun z8 =>
 bnd (wrap .u8 z8) fun z9 =>
 bnd (Int.tmod p2 256) fun z10 =>
 bnd (wrap .u8 z10) fun z11 =>
 chk (decide ((l2.length+([z3,z6,z9,z11]:LI).length)*1<=140737488355328)) <|
 bnd (l2++([z3,z6,z9,z11]:LI)) fun l3 =>
 opt (Ze0 p0 l3 32) fun y1 =>
 jn (fun (a1:LI)=>some (a1,true)) fun k1=>Z5b y1 k1 big 0 (replicate 32 0)) fun k2=>Z7q p1 k2 big [] 0
 )
theorem Zkw {W:World} {r:(LI)×Bool} {p0:LI} {p1:ByteArray} {p2:Int} (h:Zbw p0 p1 p2=some r) (hG:Globs W) :
    Calls Tryz.prog 64 [agg [b3' p0],.string (p1),.int .i64 (p2)].toArray W (Z34 W (.tuple #[agg [b3' r.1],.bool (r.2)])):=by
 unfold Zbw at h
 refine Zc mo ok64 rfl ?_
 refine Z0<|Z2<|Zd (Z0l (s:=[b3' p0]) rfl fun b1 u1=>Zd (Zq fun b2 u2=>Z6 rfl<|Z1<|Z0<|Z2<|Zd (Zq fun b3 u3=>Z1<|Z0<|Z0<|Z2<|Z6 rfl<|Z4 _ (Zv3 rfl)<|Z4 _ (Z8 rfl rfl rfl)<|Z6 rfl<|Z9o rfl rfl rfl (fun hg1=>Z2z rfl _ (Z0j rfl) (Z2z rfl _ (Z8 rfl rfl rfl) (Z3f))) (fun hg1=>rfl) rfl<|Z6 rfl<|Z9o rfl rfl rfl (fun hg1=>Z2z rfl _ (Z0j rfl) (Z2z rfl _ (Z8 rfl rfl rfl) (Z3f))) (fun hg1=>rfl) rfl<|Z1<|Z09 h rfl (fun h=>?_) (fun h=>?_))))
 ·refine Z0<|Z2<|Z4 _ (Z02 (p:=[b3' (replicate 32 0)]) rfl .here rfl)<|Zd (Zp (q:=[b3' (replicate 32 0)]) rfl rfl rfl rfl rfl .t1<|Z6 rfl<|Z1<|Zj ?_)
  revert h; refine Zv fun h=>?_
  subst h
  exact ⟨_,(.cons (.agg rfl .t1 rfl) (.cons (.tmp rfl) .nil)),rfl⟩
 ·refine Zh<|Z0<|Z2<|Z6 rfl<|Z1<|Z0<|Z0<|Z2<|Z6 rfl<|Z1<|jH h fun k1 q1 h=>Zg (G:=fun t m=>∃ (l1:LI) (v67:Value) (w1:List Zf),k1 l1=some r/\Z03 (El.int .u8) v67 w1 l1/\Fit [(2,.int .i64 (p2)),(3,pt' b1),(6,pt' b2),(8,pt' b3),(9,v67)] (ck b3 23 [b3' (replicate 32 0)]::(ck b2 23 [b3' (replicate 32 0)]::(ck b1 23 [b3' p0]::(w1 ++ [])))) t m) ?_ ?_
  ·refine Z9<|Zm (fun n1 t m=>∃ (l2:LI) (i1:Int) (v106:Value) (w2:List Zf),Z7q p1 k1 n1 l2 i1=some r/\Z03 (El.int .u8) v106 w2 l2/\Fit [(1,.string (p1)),(2,.int .i64 (p2)),(3,pt' b1),(6,pt' b2),(8,pt' b3),(9,v106),(10,.int .i64 (i1))] (ck b3 23 [b3' (replicate 32 0)]::(ck b2 23 [b3' (replicate 32 0)]::(ck b1 23 [b3' p0]::(w2 ++ [])))) t m) big ?_ ?_
   ·exact ⟨[],0,(.slice none 0 0),[],h,Z49,⟨⟨rfl,rfl,rfl,rfl,rfl,rfl,rfl,trivial⟩,(.o (.o (.o (.no .nil))))⟩⟩
   ·rintro n1 t m ⟨l2,i1,v106,w2,h,O1,hF⟩
    refine Ze hF ?_
    clear hF
    rcases n1 with _ | n1
    · exact Z07 h
    have h:Zdz p1 k1 (Z7q p1 k1 n1) l2 i1=some r:=h
    unfold Zdz at h
    obtain ⟨k2,q2⟩ : ∃ k,k=Z7q p1 k1 n1:=⟨_,rfl⟩
    try rw [<- q2] at h
    refine Z0<|Z0<|Z2<|Z6 rfl<|Z6 rfl<|Z4 _ (Zv3 rfl)<|Z4 _ (Z8 rfl rfl rfl)<|Z1<|Z09 h rfl (fun h=>?_) (fun h=>?_)
    ·refine Zh<|Z0<|Z9<|cH h fun c1 h=>bH h fun z1 e1 h=>cH h fun c2 h=>bH h fun l3 g1 h=>Z2<|Z6 rfl<|Z6 rfl<|Z6 rfl<|Z4 _ (iz e1 (Z0b2 rfl rfl c1))<|Zd (Z3i (E:=(El.int .u8)) (xs:=[z1]) (.one rfl rfl rfl BdR.nil) (.cons (p:=[.one (.int .u8 (z1))]) rfl .nil) rfl fun v118 w3 O2=>Zd (Z1m (E:=(El.int .u8)) g1 rfl O1 (.app .t3) rfl (Z00 O2 .here) c2 fun v123 w4 O3=>Z6 rfl<|Z1<|bH h fun z2 e2 h=>Z2<|Z6 rfl<|Z4 _ (iz e2 (Z8 rfl rfl rfl))<|Z6 rfl<|Z1 ?_))
     rw [q2] at h
     exact ⟨n1,Nat.lt_succ_self _,l3,z2,v123,w4,h,O3,⟨⟨rfl,rfl,rfl,rfl,rfl,rfl,rfl,trivial⟩,(.one (.app (.app .here)) (.one (.app (.app .here)) (.one (.app (.app .here)) (.all .here .nil))))⟩⟩
    ·exact Zs _ rfl<|⟨l2,v106,w2,h,O1,⟨⟨rfl,rfl,rfl,rfl,rfl,trivial⟩,(.o (.o (.o (.all .here .nil))))⟩⟩
  ·rintro t m ⟨l1,v67,w1,h,O4,hF⟩
   refine Ze hF ?_
   clear hF
   subst q1
   refine Z0<|cH h fun c3 h=>bH h fun l4 g2 h=>Z2<|Z6 rfl<|Zd (Z3i (E:=(El.int .u8)) (xs:=[0,0,0,0,0]) (.one rfl rfl rfl (.one rfl rfl rfl (.one rfl rfl rfl (.one rfl rfl rfl (.one rfl rfl rfl BdR.nil))))) (.cons (p:=[.one (.int .u8 (0))]) rfl (.cons (p:=[.one (.int .u8 (0))]) rfl (.cons (p:=[.one (.int .u8 (0))]) rfl (.cons (p:=[.one (.int .u8 (0))]) rfl (.cons (p:=[.one (.int .u8 (0))]) rfl .nil))))) rfl fun v129 w5 O5=>Zd (Z1m (E:=(El.int .u8)) g2 rfl O4 (.app .t3) rfl (Z00 O5 .here) c3 fun v134 w6 O6=>Z6 rfl<|Z1<|Z0<|bH h fun z3 e3 h=>bH h fun z4 e4 h=>bH h fun z5 e5 h=>bH h fun z6 e6 h=>bH h fun z7 e7 h=>bH h fun z8 e8 h=>bH h fun z9 e9 h=>bH h fun z10 e10 h=>bH h fun z11 e11 h=>bH h fun z12 e12 h=>bH h fun z13 e13 h=>cH h fun c4 h=>bH h fun l5 g3 h=>Z2<|Z6 rfl<|Z6 rfl<|Z4 _ (iz e3 (Zbf rfl rfl (by decide)))<|Z4 _ (iz e4 (Z8c rfl rfl (by decide)))<|Z4 _ (iz e5 (Z33 rfl))<|Z6 rfl<|Z4 _ (iz e6 (Zbf rfl rfl (by decide)))<|Z4 _ (iz e7 (Z8c rfl rfl (by decide)))<|Z4 _ (iz e8 (Z33 rfl))<|Z6 rfl<|Z4 _ (iz e9 (Zbf rfl rfl (by decide)))<|Z4 _ (iz e10 (Z8c rfl rfl (by decide)))<|Z4 _ (iz e11 (Z33 rfl))<|Z6 rfl<|Z4 _ (iz e12 (Z8c rfl rfl (by decide)))<|Z4 _ (iz e13 (Z33 rfl))<|Zd (Z3i (E:=(El.int .u8)) (xs:=[z5,z8,z11,z13]) (.one rfl rfl rfl (.one rfl rfl rfl (.one rfl rfl rfl (.one rfl rfl rfl BdR.nil)))) (.cons (p:=[.one (.int .u8 (z5))]) rfl (.cons (p:=[.one (.int .u8 (z8))]) rfl (.cons (p:=[.one (.int .u8 (z11))]) rfl (.cons (p:=[.one (.int .u8 (z13))]) rfl .nil)))) rfl fun v149 w7 O7=>Zd (Z1m (E:=(El.int .u8)) g3 rfl O6 (.app .here) rfl (Z00 O7 .here) c4 fun v154 w8 O8=>Z6 rfl<|Z1<|Z0<|oH h fun y1 f1 h=>Z2<|Z4 _ (Z02 (p:=[b3' p0]) rfl (.app (.app (.app .t2))) rfl)<|Z6 rfl<|Zd (Z05 rfl (fun w hw=>Zkx  f1 (hG.at hw (by simp)) ((Z00 O8 .here) w hw)) fun v159 o1 R1=>?_)))))
   obtain ⟨v161,w9,rfl,rfl,O9⟩:=R1
   refine Z6 rfl<|Z4 _ (Z40 rfl rfl)<|Z4 _ (Z40 rfl rfl)<|Z6 rfl<|Z6 rfl<|Z1<|Z0<|Z0<|Z2<|Z6 rfl<|Z1<|jH h fun k3 q3 h=>Zg (G:=fun t m=>∃ (a1:LI),k3 a1=some r/\Fit [(6,pt' b2),(8,pt' b3)] (ck b3 23 [b3' a1]::(ck b2 23 [b3' (replicate 32 0)]::(ck b1 23 [b3' p0] :: []))) t m) ?_ ?_
   ·refine Z9<|Zm (fun n2 t m=>∃ (i2:Int) (a2:LI),Z5b y1 k3 n2 i2 a2=some r/\Fit [(6,pt' b2),(8,pt' b3),(11,v161),(13,.int .i64 (i2))] (w9++(ck b3 23 [b3' a2]::(ck b2 23 [b3' (replicate 32 0)]::(ck b1 23 [b3' p0] :: [])))) t m) big ?_ ?_
    ·exact ⟨0,(replicate 32 0),h,⟨⟨rfl,rfl,rfl,rfl,trivial⟩,(.all .here (.one (.app (.app (.app .here))) (.one (.app (.app (.app .here))) (.one (.app (.app (.app .here))) .nil))))⟩⟩
    ·rintro n2 t m ⟨i2,a2,h,hF⟩
     refine Ze hF ?_
     clear hF
     rcases n2 with _ | n2
     · exact Z07 h
     have h:Z6d y1 k3 (Z5b y1 k3 n2) i2 a2=some r:=h
     unfold Z6d at h
     obtain ⟨k4,q4⟩ : ∃ k,k=Z5b y1 k3 n2:=⟨_,rfl⟩
     try rw [<- q4] at h
     refine Z0<|Z0<|Z2<|Z6 rfl<|Z4 _ (Z8 rfl rfl rfl)<|Z1<|Z09 h rfl (fun h=>?_) (fun h=>?_)
     ·refine Zh<|Z0<|Z9<|cH h fun c5 h=>bH h fun z14 e14 h=>cH h fun c6 h=>bH h fun l6 g4 h=>Z2<|Z6 rfl<|Z6 rfl<|Z6 rfl<|Z4 _ (Z5p rfl rfl (Shp.own O9) c5)<|Z4 _ (iz e14 (Z6k (E:=(El.int .u8)) (s:=[.one (.int .u8 (y1.1.getD (i2).toNat 0))]) rfl (Z00 O9 .here) (Z01 c5) rfl rfl))<|Z4 _ (Z0i rfl rfl (Z08 c6))<|Zd (Z1h (q:=[b3' l6]) (base:=0) g4 rfl rfl rfl (Z01 c6) rfl (.app .here)<|Z1<|bH h fun z15 e15 h=>Z2<|Z6 rfl<|Z4 _ (iz e15 (Z8 rfl rfl rfl))<|Z6 rfl<|Z1 ?_)
      rw [q4] at h
      exact ⟨n2,Nat.lt_succ_self _,z15,l6,h,⟨⟨rfl,rfl,rfl,rfl,trivial⟩,(.all .here (.o (.o (.o .nil))))⟩⟩
     ·exact Zs _ rfl<|⟨a2,h,⟨⟨rfl,rfl,trivial⟩,(.one (.app .here) (.one (.app .here) (.one (.app .here) .nil)))⟩⟩
   ·rintro t m ⟨a1,h,hF⟩
    refine Ze hF ?_
    clear hF
    subst q3
    refine Z0<|Z2<|Z4 _ (Z02 (p:=[b3' a1]) rfl .here rfl)<|Zd (Zp (q:=[b3' a1]) rfl rfl rfl rfl rfl .t1<|Z6 rfl<|Z1<|Zj ?_)
    revert h; refine Zv fun h=>?_
    subst h
    exact ⟨_,(.cons (.agg rfl .t1 rfl) (.cons (.tmp rfl) .nil)),rfl⟩
def Z3z (p0:Zz) (p1:Int):Option ((LI)×Bool) :=
 opt (Z2q p0) fun y1 =>
 br ((((y1 != 0)||(decide (p1<0)))||(decide (p1>wrap .i64 (p0.gGates+p0.gWallets))))) (
 bnd (([0,0,0,0,0,0,0,0,0,0,0,0,0,0,0,0,0,0,0,0,0,0,0,0,0,0,0,0,0,0,0,0]:LI)) fun z1 =>
 some (z1,false)
 ) (
 opt (Zbw p0.gSecret (⟨#[110,111,100,101]⟩:ByteArray) p1) fun y2 =>
 some (y2.1,y2.2)
 )
theorem Z8e {W:World} {r:(LI)×Bool} {p0:Zz} {p1:Int} (h:Z3z p0 p1=some r) (hG:Globs W) :
    Calls Tryz.prog 20 [agg [.one (.int .i64 (p0.gGates)),.one (.int .i64 (p0.gWallets)),.one (.int .i64 (p0.gRows)),.one (.int .i64 (p0.gFlash)),.one (.int .i64 (p0.gSerials)),b3' p0.gSecret],.int .i64 (p1)].toArray W (Z34 W (.tuple #[agg [b3' r.1],.bool (r.2)])):=by
 unfold Z3z at h
 refine Zc mo ok20 rfl ?_
 refine Z0<|Z2<|Zd (Z0l (s:=[.one (.int .i64 (p0.gGates)),.one (.int .i64 (p0.gWallets)),.one (.int .i64 (p0.gRows)),.one (.int .i64 (p0.gFlash)),.one (.int .i64 (p0.gSerials)),b3' p0.gSecret]) rfl fun b1 u1=>Zd (Zq fun b2 u2=>Z6 rfl<|Z1<|Z0<|oH h fun y1 f1 h=>Z2<|Z4 _ (Z02 (p:=[.one (.int .i64 (p0.gGates)),.one (.int .i64 (p0.gWallets)),.one (.int .i64 (p0.gRows)),.one (.int .i64 (p0.gFlash)),.one (.int .i64 (p0.gSerials)),b3' p0.gSecret]) rfl .t1 rfl)<|Z4 _ (Z0h rfl (Z5f f1))<|Z6 rfl<|Z1<|Z0<|Z0<|Z2<|Z6 rfl<|Z4 _ (Z8 rfl rfl rfl)<|Z6 rfl<|Z9o rfl rfl rfl (fun hg1=>Z2z rfl _ (Z0j rfl) (Z2z rfl _ (Z8 rfl rfl rfl) (Z3f))) (fun hg1=>rfl) rfl<|Z6 rfl<|Z9o rfl rfl rfl (fun hg1=>Z2z rfl _ (Z0j rfl) (Z2z rfl _ (Z2l rfl) (Z2z rfl _ (Z0c rfl .t1 rfl) (Z2z rfl _ (Z2l rfl) (Z2z rfl _ (Z0c rfl .t1 rfl) (Z2z rfl _ (iz rfl (Z8 rfl rfl rfl)) (Z2z rfl _ (Z8 rfl rfl rfl) (Z3f)))))))) (fun hg1=>rfl) rfl<|Z1<|Z09 h rfl (fun h=>?_) (fun h=>?_)))
 ·refine Z0<|bH h fun z1 e1 h=>Z2<|Z4 _ (az (fun z=>agg [.ints .u8 32 z]) e1 (Zd2 BdR.nil))<|Zd (Zp (q:=[b3' z1]) rfl rfl rfl rfl rfl .here<|Z6 rfl<|Z1<|Zj ?_)
  revert h; refine Zv fun h=>?_
  subst h
  exact ⟨_,(.cons (.agg rfl .here rfl) (.cons (.tmp rfl) .nil)),rfl⟩
 ·refine Zh<|Z0<|oH h fun y2 f2 h=>Z2<|Z4 _ (Z2l rfl)<|Z4 _ (Z02 (p:=[b3' p0.gSecret]) rfl .t1 rfl)<|Z6 rfl<|Z4 _ (Z1a rfl (fun w hw=>Zkw (p1:=(⟨#[110,111,100,101]⟩:ByteArray)) f2 (hG.at hw (by simp))))<|Z4 _ (Z40 rfl rfl)<|Z4 _ (Z40 rfl rfl)<|Zd (Zp (q:=[b3' y2.1]) rfl rfl rfl rfl rfl .here<|Z6 rfl<|Z1<|Zj ?_)
  revert h; refine Zv fun h=>?_
  subst h
  exact ⟨_,(.cons (.agg rfl .here rfl) (.cons (.tmp rfl) .nil)),rfl⟩
structure Zy where
  gstate:LI
  gheld:LI
  ghave:Int
  glength:Int
def Zew:Option (Zy) :=
 some (⟨G_first,(replicate 128 0),0,0⟩:Zy)
theorem Zkc {W:World} {r:Zy} (h:Zew=some r) (hG:Globs W) :
    Calls Tryz.prog 96 [].toArray W (Zd9 W [] (fun v Ms=>∃ (b1:Nat) (T0:TypeId),v = pt' b1/\Ms = [.one (ck b1 T0 [u8' r.gstate,.ints .u8 128 (r.gheld),.one (.int .i64 (r.ghave)),.one (.int .u64 (r.glength))])])):=by
 unfold Zew at h
 refine Z0e mo ok96 rfl (Zgt _) ?_
 refine Z0<|Z2<|Z6 rfl<|Z1<|Z0<|Z2<|Z4 _ (Zyc (o0:=0) (off:=0) rfl (hG.g2) (by simp) rfl)<|Z4 _ (Zd2 (q:=[u8' G_first,.ints .u8 128 ((replicate 128 0)),.one (.int .i64 (0)),.one (.int .u64 (0))]) (.agg rfl rfl rfl BdR.nil))<|Zd (Z0l (s:=[u8' G_first,.ints .u8 128 ((replicate 128 0)),.one (.int .i64 (0)),.one (.int .u64 (0))]) rfl fun b2 u1=>Z6 rfl<|Z1<|Zj ?_)
 revert h; refine Zv fun h=>?_
 subst h
 exact ⟨_,_,(.cons (.tmp rfl) .nil),(.o .nil),⟨_,rfl,⟨b2,194,rfl,rfl⟩⟩⟩
def Z4u (p0:LI) (p1:Int):Option ((Bool×LI)) :=
 opt (Z3x) fun y1 =>
 bnd (wrap .i64 (Int.tdiv y1 8)) fun z1 =>
 br (((decide (p1<0))||(decide (p1>wrap .i64 ((p0.length:Int)-z1))))) (
 some (true,[])
 ) (
 bnd (wrap .i64 (p1+z1)) fun z2 =>
 chk (Zfh p1 z2 p0.length) <|
 chk (decide (0<((p0.drop (p1).toNat).take ((z2).toNat-(p1).toNat)).length)) <|
 some (false,((p0.drop (p1).toNat).take ((z2).toNat-(p1).toNat)))
 )
theorem Zd7 {W:World} {r:(Bool×LI)} {p0:LI} {p1:Int} {v0:Value} (h:Z4u p0 p1=some r) (A0:Z6v (El.int .u8) W v0 p0) :
    Calls Tryz.prog 203 [v0,.int .i64 (p1)].toArray W (Zd9 W [] (fun v Ms=>∃ (u0:Value),v=u0/\Ms = []/\Shp u0 (r.2).length/\Zqx u0=r.1/\(∀ W,Z6v (El.int .u8) W v0 p0->Z6v (El.int .u8) W u0 r.2))):=by
 unfold Z4u at h
 refine Z0e mo Z0kp rfl (Zgt _) ?_
 refine Z0<|Z2<|Z6 rfl<|Z1<|Z0<|oH h fun y1 f1 h=>bH h fun z1 e1 h=>Z2<|Z4 _ (Z0h rfl (Z5y f1))<|Z4 _ (iz e1 (Zbf rfl rfl (by decide)))<|Z6 rfl<|Z1<|Z0<|Z0<|Z2<|Z6 rfl<|Z4 _ (Z8 rfl rfl rfl)<|Z6 rfl<|Z9o rfl rfl rfl (fun hg1=>Z2z rfl _ (Z0j rfl) (Z2z rfl _ (Z0j rfl) (Z2z rfl _ (Z3l rfl (Shp.rd A0)) (Z2z rfl _ (Z0j rfl) (Z2z rfl _ (iz rfl (Z8 rfl rfl rfl)) (Z2z rfl _ (Z8 rfl rfl rfl) (Z3f))))))) (fun hg1=>rfl) rfl<|Z1<|Z09 h rfl (fun h=>?_) (fun h=>?_)
 ·refine Z0<|Z2<|Z6 rfl<|Z1<|Zj ?_
  revert h; refine Zv fun h=>?_
  subst h
  exact ⟨_,_,(.cons (.tmp rfl) .nil),.nil,⟨_,rfl,⟨(.slice none 0 0),rfl,rfl,Shp.nil,rfl,Zrt⟩⟩⟩
 ·refine Zh<|Z0<|bH h fun z2 e2 h=>cH h fun c1 h=>Z2<|Z6 rfl<|Z6 rfl<|Z6 rfl<|Z6 rfl<|Z4 _ (iz e2 (Z8 rfl rfl rfl))<|Z4 _ (Zk2 (lz:=p1) (hz:=z2) rfl (Shp.rd A0) (.yes rfl) (.yes rfl) c1)<|Z6 rfl<|Z1<|Zj<|cH h fun c2 h=>?_
  revert h; refine Zv fun h=>?_
  subst h
  exact ⟨_,_,(.cons (.tmp rfl) .nil),.nil,⟨_,rfl,⟨(Za7 1 v0 (p1).toNat (z2).toNat),rfl,rfl,(Shp.cut (Shp.rd A0) (lz:=p1) (hz:=z2) c1),(Shp.notnil (Shp.cut (Shp.rd A0) (lz:=p1) (hz:=z2) c1) c2),(fun W A0=>(Z034 A0 (lz:=p1) (hz:=z2) c1))⟩⟩⟩
def Z39 (y1:(Bool×LI)) (k1:Int->Option (Int×Bool)) (k2:Int->Int->Option (Int×Bool)) (i1:Int) (i2:Int):Option (Int×Bool) :=
 br ((decide (i2<(y1.2.length:Int)))) (
 chk (inB i2 y1.2.length) <|
 bnd (y1.2.getD (i2).toNat 0) fun z1 =>
 bnd (Z1v .u64 i1 8) fun z2 =>
 bnd (wrap .u64 z1) fun z3 =>
 bnd (Za .or .u64 z2 z3) fun z4 =>
 bnd (wrap .i64 (i2+1)) fun z5 =>
 k2 z4 z5
 ) (
 k1 i1
 )
def Z0m (y1:(Bool×LI)) (k1:Int->Option (Int×Bool)):Nat->Int->Int->Option (Int×Bool)
  | 0,_,_=>none
  | n+1,i1,i2=>Z39 y1 k1 (Z0m y1 k1 n) i1 i2
def Z4e (p0:LI) (p1:Int):Option (Int×Bool) :=
 opt (Z4u p0 p1) fun y1 =>
 jn (fun (i1:Int)=>some (i1,(!y1.1))) fun k1=>Z0m y1 k1 big 0 0
theorem Zce {W:World} {r:Int×Bool} {p0:LI} {p1:Int} {v0:Value} (h:Z4e p0 p1=some r) (A0:Z6v (El.int .u8) W v0 p0) :
    Calls Tryz.prog 218 [v0,.int .i64 (p1)].toArray W (Z34 W (.tuple #[.int .u64 (r.1),.bool (r.2)])):=by
 unfold Z4e at h
 refine Zc mo Z0l1 rfl ?_
 refine Z0<|Z2<|Z6 rfl<|Z6 rfl<|Z1<|Z0<|Z2<|Z6 rfl<|Z1<|Z0<|oH h fun y1 f1 h=>Z2<|Z6 rfl<|Z6 rfl<|Zd (Z05 rfl (fun w hw=>Zd7  f1 ((Z2k A0 Z2y) w hw)) fun v5 o1 R1=>?_)
 obtain ⟨_,rfl,rfl,P10,N8,H9⟩:=R1
 refine Z6 rfl<|Z1<|Z0<|Z0<|Z2<|Z6 rfl<|Z4 _ (Z3l rfl P10)<|Z6 rfl<|Z1<|jH h fun k1 q1 h=>Zg (G:=fun t m=>∃ (i1:Int),k1 i1=some r/\Fit [(6,.int .u64 (i1)),(7,v5)] [] t m) ?_ ?_
 ·refine Z9<|Zm (fun n1 t m=>∃ (i2:Int) (i3:Int),Z0m y1 k1 n1 i2 i3=some r/\Fit [(6,.int .u64 (i2)),(7,v5),(13,v5),(14,.int .i64 ((y1.2.length:Int))),(15,.int .i64 (i3))] [] t m) big ?_ ?_
  ·exact ⟨0,0,h,⟨⟨rfl,rfl,rfl,rfl,rfl,trivial⟩,.nil⟩⟩
  ·rintro n1 t m ⟨i2,i3,h,hF⟩
   refine Ze hF ?_
   clear hF
   rcases n1 with _ | n1
   · exact Z07 h
   have h:Z39 y1 k1 (Z0m y1 k1 n1) i2 i3=some r:=h
   unfold Z39 at h
   obtain ⟨k2,q2⟩ : ∃ k,k=Z0m y1 k1 n1:=⟨_,rfl⟩
   try rw [<- q2] at h
   refine Z0<|Z2<|Z4 _ (Z8 rfl rfl rfl)<|Z1<|Z0<|Z09 h rfl (fun h=>?_) (fun h=>?_)
   ·refine Zh<|Z0<|Z9<|Z0<|cH h fun c1 h=>bH h fun z1 e1 h=>Z2<|Z4 _ (Z5p rfl rfl P10 c1)<|Z4 _ (iz e1 (Z6k (E:=(El.int .u8)) (s:=[.one (.int .u8 (y1.2.getD (i3).toNat 0))]) rfl (Zvf H9 (Z2k A0 Z2y)) (Z01 c1) rfl rfl))<|Z6 rfl<|Z1<|bH h fun z2 e2 h=>bH h fun z3 e3 h=>bH h fun z4 e4 h=>Z2<|Z6 rfl<|Z4 _ (iz e2 (Zhg rfl rfl (by decide)))<|Z6 rfl<|Z4 _ (iz e3 (Z33 rfl))<|Z4 _ (iz e4 (Z8 rfl rfl rfl))<|Z6 rfl<|Z1<|bH h fun z5 e5 h=>Z2<|Z4 _ (iz e5 (Z8 rfl rfl rfl))<|Z6 rfl<|Z1 ?_
    rw [q2] at h
    exact ⟨n1,Nat.lt_succ_self _,z4,z5,h,⟨⟨rfl,rfl,rfl,rfl,rfl,trivial⟩,.nil⟩⟩
   ·exact Zs _ rfl<|⟨i2,h,⟨⟨rfl,rfl,trivial⟩,.nil⟩⟩
 ·rintro t m ⟨i1,h,hF⟩
  refine Ze hF ?_
  clear hF
  subst q1
  refine Z0<|Z2<|Z6 rfl<|Z6 rfl<|Z4 _ (Zzw rfl P10 N8)<|Z6 rfl<|Z6 rfl<|Z1<|Zj ?_
  revert h; refine Zv fun h=>?_
  subst h
  exact ⟨_,(.cons (.tmp rfl) (.cons (.tmp rfl) .nil)),rfl⟩
def Z3n (p0:Int) (p1:Int):Option Int :=
 opt (Z3x) fun y1 =>
 bnd (wrap .u64 p1) fun z1 =>
 bnd (wrap .i64 (y1-1)) fun z2 =>
 bnd (wrap .u64 z2) fun z3 =>
 bnd (Za .and .u64 z1 z3) fun z4 =>
 chk (decide (0<=z4)) <|
 bnd (Z0f .u64 p0 z4) fun z5 =>
 bnd (wrap .u64 y1) fun z6 =>
 bnd (wrap .u64 (z6-z4)) fun z7 =>
 chk (decide (0<=z7)) <|
 bnd (Z1v .u64 p0 z7) fun z8 =>
 bnd (Za .or .u64 z5 z8) fun z9 =>
 some z9
theorem Z3b {W:World} {r:Int} {p0:Int} {p1:Int} (h:Z3n p0 p1=some r)  :
    Calls Tryz.prog 220 [.int .u64 (p0),.int .i64 (p1)].toArray W (Z34 W (.int .u64 (r))):=by
 unfold Z3n at h
 refine Zc mo Z0l3 rfl ?_
 refine Z0<|Z2<|Z6 rfl<|Z1<|Z0<|oH h fun y1 f1 h=>Z2<|Z4 _ (Z0h rfl (Z5y f1))<|Z6 rfl<|Z1<|Z0<|bH h fun z1 e1 h=>bH h fun z2 e2 h=>bH h fun z3 e3 h=>bH h fun z4 e4 h=>Z2<|Z6 rfl<|Z4 _ (iz e1 (Z33 rfl))<|Z6 rfl<|Z4 _ (iz e2 (Z8 rfl rfl rfl))<|Z4 _ (iz e3 (Z33 rfl))<|Z4 _ (iz e4 (Z8 rfl rfl rfl))<|Z6 rfl<|Z1<|Z0<|cH h fun c1 h=>bH h fun z5 e5 h=>bH h fun z6 e6 h=>bH h fun z7 e7 h=>cH h fun c2 h=>bH h fun z8 e8 h=>bH h fun z9 e9 h=>Z2<|Z6 rfl<|Z6 rfl<|Z4 _ (iz e5 (Z48 rfl rfl (of_decide_eq_true c1)))<|Z6 rfl<|Z6 rfl<|Z4 _ (iz e6 (Z33 rfl))<|Z6 rfl<|Z4 _ (iz e7 (Z8 rfl rfl rfl))<|Z4 _ (iz e8 (Zhg rfl rfl (of_decide_eq_true c2)))<|Z4 _ (iz e9 (Z8 rfl rfl rfl))<|Z6 rfl<|Z1<|Zj ?_
 revert h; refine Zv fun h=>?_
 subst h
 exact ⟨_,(.cons (.tmp rfl) .nil),rfl⟩
def Z8o (p0:Int) (p1:Int) (p2:Int) (p3:Int):Option Int :=
 opt (Z3n p0 p1) fun y1 =>
 opt (Z3n p0 p2) fun y2 =>
 bnd (Za .xor .u64 y1 y2) fun z1 =>
 chk (decide (0<=p3)) <|
 bnd (Z0f .u64 p0 p3) fun z2 =>
 bnd (Za .xor .u64 z1 z2) fun z3 =>
 some z3
theorem Zd4 {W:World} {r:Int} {p0:Int} {p1:Int} {p2:Int} {p3:Int} (h:Z8o p0 p1 p2 p3=some r)  :
    Calls Tryz.prog 219 [.int .u64 (p0),.int .i64 (p1),.int .i64 (p2),.int .i64 (p3)].toArray W (Z34 W (.int .u64 (r))):=by
 unfold Z8o at h
 refine Zc mo Z0l2 rfl ?_
 refine Z0<|Z2<|Z6 rfl<|Z1<|Z0<|oH h fun y1 f1 h=>oH h fun y2 f2 h=>bH h fun z1 e1 h=>cH h fun c1 h=>bH h fun z2 e2 h=>bH h fun z3 e3 h=>Zt<|Z7 _ (Z0j rfl)<|Z7 _ (Z0j rfl)<|Z7 _ (Z0h rfl (Z3b f1))<|Z7 _ (Z0j rfl)<|Z7 _ (Z0j rfl)<|Z7 _ (Z0h rfl (Z3b f2))<|Z7 _ (iz e1 (Z8 rfl rfl rfl))<|Z7 _ (Z0j rfl)<|Z7 _ (Z0j rfl)<|Z7 _ (iz e2 (Z48 rfl rfl (of_decide_eq_true c1)))<|Z7 _ (iz e3 (Z8 rfl rfl rfl))<|Z7 _ (Z0j rfl)<|Z04<|Zj ?_
 revert h; refine Zv fun h=>?_
 subst h
 exact ⟨_,(.cons (.tmp rfl) .nil),rfl⟩
def Z4i (p0:LI) (k1:(LI)->OL) (k2:Int->(LI)->OL) (i1:Int) (a1:LI):OL :=
 br ((decide (i1<80))) (
 jn (fun (a2:LI)=>bnd (wrap .i64 (i1+1)) fun z1 =>
 k2 z1 a2) fun k3=>br ((decide (i1<16))) (
 bnd (wrap .i64 (8*i1)) fun z2 =>
 opt (Z4e (tk p0 0 128) z2) fun y1 =>
 chk (inB i1 80) <|
 bnd (Z28 a1 (i1).toNat y1.1) fun l1 =>
 k3 l1
 ) (
 bnd (wrap .i64 (i1-2)) fun z3 =>
 chk (inB z3 80) <|
 bnd (wrap .i64 (i1-7)) fun z4 =>
 chk (inB z4 80) <|
 bnd (wrap .i64 (i1-15)) fun z5 =>
 chk (inB z5 80) <|
 bnd (wrap .i64 (i1-16)) fun z6 =>
 chk (inB z6 80) <|
 bnd (a1.getD (z3).toNat 0) fun z7 =>
 opt (Z8o z7 19 61 6) fun y2 =>
 bnd (a1.getD (z4).toNat 0) fun z8 =>
 bnd (wrap .u64 (y2+z8)) fun z9 =>
 bnd (a1.getD (z5).toNat 0) fun z10 =>
 opt (Z8o z10 1 8 7) fun y3 =>
 bnd (wrap .u64 (z9+y3)) fun z11 =>
 bnd (a1.getD (z6).toNat 0) fun z12 =>
 bnd (wrap .u64 (z11+z12)) fun z13 =>
 chk (inB i1 80) <|
 bnd (Z28 a1 (i1).toNat z13) fun l2 =>
 k3 l2
 )
 ) (
 k1 a1
 )
def Z1l (p0:LI) (k1:(LI)->OL):Nat->Int->(LI)->OL
  | 0,_,_=>none
  | n+1,i1,a1=>Z4i p0 k1 (Z1l p0 k1 n) i1 a1
def Z6o (p0:LI):OL :=
 jn (fun (a1:LI)=>some a1) fun k1=>Z1l p0 k1 big 0 (replicate 80 0)
theorem Zf5 {W:World} {r:(LI)} {p0:LI} (h:Z6o p0=some r)  :
    Calls Tryz.prog 201 [agg [.ints .u8 128 (p0)]].toArray W (Z34 W (agg [.ints .u64 80 (r)])):=by
 unfold Z6o at h
 refine Zc mo Z0kn rfl ?_
 refine Z0<|Z2<|Zd (Z0l (s:=[.ints .u8 128 (p0)]) rfl fun b1 u1=>Zd (Zq fun b2 u2=>Z1<|Z0<|Z2<|Zd (Zq fun b3 u3=>Z1<|Z0<|Z0<|Z2<|Z6 rfl<|Z1<|jH h fun k1 q1 h=>Zg (G:=fun t m=>∃ (a1:LI),k1 a1=some r/\Fit [(2,pt' b2),(3,pt' b3)] (ck b3 211 [.ints .u64 80 (a1)]::(ck b2 211 [.ints .u64 80 ((replicate 80 0))]::(ck b1 192 [.ints .u8 128 (p0)] :: []))) t m) ?_ ?_)))
 ·refine Z9<|Zm (fun n1 t m=>∃ (i1:Int) (a2:LI),Z1l p0 k1 n1 i1 a2=some r/\Fit [(1,pt' b1),(2,pt' b2),(3,pt' b3),(5,.int .i64 (i1))] (ck b3 211 [.ints .u64 80 (a2)]::(ck b2 211 [.ints .u64 80 ((replicate 80 0))]::(ck b1 192 [.ints .u8 128 (p0)] :: []))) t m) big ?_ ?_
  ·exact ⟨0,(replicate 80 0),h,⟨⟨rfl,rfl,rfl,rfl,trivial⟩,(.o (.o (.o .nil)))⟩⟩
  ·rintro n1 t m ⟨i1,a2,h,hF⟩
   refine Ze hF ?_
   clear hF
   rcases n1 with _ | n1
   · exact Z07 h
   have h:Z4i p0 k1 (Z1l p0 k1 n1) i1 a2=some r:=h
   unfold Z4i at h
   obtain ⟨k2,q2⟩ : ∃ k,k=Z1l p0 k1 n1:=⟨_,rfl⟩
   try rw [<- q2] at h
   refine Z0<|Z2<|Z4 _ (Z8 rfl rfl rfl)<|Z1<|Z0<|Z09 h rfl (fun h=>?_) (fun h=>?_)
   ·refine Zh<|Z0<|jH h fun k3 q3 h=>Zg (G:=fun t m=>∃ (a3:LI),k3 a3=some r/\Fit [(1,pt' b1),(2,pt' b2),(3,pt' b3),(5,.int .i64 (i1))] (ck b3 211 [.ints .u64 80 (a3)]::(ck b2 211 [.ints .u64 80 ((replicate 80 0))]::(ck b1 192 [.ints .u8 128 (p0)] :: []))) t m) ?_ ?_
    ·refine Z9<|Z0<|Z2<|Z6 rfl<|Z6 rfl<|Z1<|Z0<|Z0<|Z2<|Z6 rfl<|Z4 _ (Z8 rfl rfl rfl)<|Z1<|Z09 h rfl (fun h=>?_) (fun h=>?_)
     ·exact Z0<|bH h fun z1 e1 h=>oH h fun y1 f1 h=>cH h fun c1 h=>bH h fun l1 g1 h=>Z2<|Z6 rfl<|Z4 _ (Zf3 rfl .no .no .no (by simp) (by decide))<|Z6 rfl<|Z4 _ (iz e1 (Z8 rfl rfl rfl))<|Z4 _ (Z1a rfl (fun w hw=>Zce f1 ((Z6u (s:=[.ints .u8 128 (p0)]) (N:=128) (k:=.u8) (base:=0) (lo:=0) (hi:=128) (mz:=128) .t2 rfl (by decide)) w hw)))<|Z6 rfl<|Z4 _ (Z40 rfl rfl)<|Z4 _ (Z40 rfl rfl)<|Z4 _ (Z0i rfl rfl (Z08 c1))<|Zd (Z1h (q:=[.ints .u64 80 (l1)]) (base:=0) g1 rfl rfl rfl (Z01 c1) rfl .here<|Z1<|Zs _ rfl<|⟨l1,h,⟨⟨rfl,rfl,rfl,rfl,trivial⟩,(.o (.o (.o .nil)))⟩⟩)
     ·exact Zh<|bH h fun z2 e2 h=>cH h fun c2 h=>bH h fun z3 e3 h=>cH h fun c3 h=>bH h fun z4 e4 h=>cH h fun c4 h=>bH h fun z5 e5 h=>cH h fun c5 h=>bH h fun z6 e6 h=>oH h fun y2 f2 h=>bH h fun z7 e7 h=>bH h fun z8 e8 h=>bH h fun z9 e9 h=>oH h fun y3 f3 h=>bH h fun z10 e10 h=>bH h fun z11 e11 h=>bH h fun z12 e12 h=>cH h fun c6 h=>bH h fun l2 g2 h=>Zt<|Z7 _ (Z0j rfl)<|Z7 _ (Z0j rfl)<|Z7 _ (iz e2 (Z8 rfl rfl rfl))<|Z7 _ (Z0i rfl rfl (Z08 c2))<|Z7 _ (Z0j rfl)<|Z7 _ (iz e3 (Z8 rfl rfl rfl))<|Z7 _ (Z0i rfl rfl (Z08 c3))<|Z7 _ (Z0j rfl)<|Z7 _ (iz e4 (Z8 rfl rfl rfl))<|Z7 _ (Z0i rfl rfl (Z08 c4))<|Z7 _ (Z0j rfl)<|Z7 _ (iz e5 (Z8 rfl rfl rfl))<|Z7 _ (Z0i rfl rfl (Z08 c5))<|Zo _ (iz e6 (Z1w (base:=0) rfl .here rfl (Z01 c2)))<|Z7 _ (Z0h rfl (Zd4 f2))<|Zo _ (iz e7 (Z1w (base:=0) rfl .here rfl (Z01 c3)))<|Z7 _ (iz e8 (Z8 rfl rfl rfl))<|Zo _ (iz e9 (Z1w (base:=0) rfl .here rfl (Z01 c4)))<|Z7 _ (Z0h rfl (Zd4 f3))<|Z7 _ (iz e10 (Z8 rfl rfl rfl))<|Zo _ (iz e11 (Z1w (base:=0) rfl .here rfl (Z01 c5)))<|Z7 _ (iz e12 (Z8 rfl rfl rfl))<|Z7 _ (Z0i rfl rfl (Z08 c6))<|Z1i rfl (Z1h (q:=[.ints .u64 80 (l2)]) (base:=0) g2 rfl rfl rfl (Z01 c6) rfl .here<|Z04<|⟨l2,h,⟨⟨rfl,rfl,rfl,rfl,trivial⟩,(.o (.o (.o .nil)))⟩⟩)
    ·rintro t m ⟨a3,h,hF⟩
     refine Ze hF ?_
     clear hF
     subst q3
     refine bH h fun z13 e13 h=>Z2<|Z4 _ (iz e13 (Z8 rfl rfl rfl))<|Z6 rfl<|Z1 ?_
     rw [q2] at h
     exact ⟨n1,Nat.lt_succ_self _,z13,a3,h,⟨⟨rfl,rfl,rfl,rfl,trivial⟩,(.o (.o (.o .nil)))⟩⟩
   ·exact Zs _ rfl<|⟨a2,h,⟨⟨rfl,rfl,trivial⟩,(.o (.o (.o .nil)))⟩⟩
 ·rintro t m ⟨a1,h,hF⟩
  refine Ze hF ?_
  clear hF
  subst q1
  refine Z0<|Z2<|Z4 _ (Z02 (p:=[.ints .u64 80 (a1)]) rfl .here rfl)<|Zd (Zp (q:=[.ints .u64 80 (a1)]) rfl rfl rfl rfl rfl .t1<|Z1<|Zj ?_)
  revert h; refine Zv fun h=>?_
  subst h
  exact ⟨_,(.cons (.agg rfl .t1 rfl) .nil),rfl⟩
def Za1 (p0:Int) (p1:Int) (p2:Int) (p3:Int):Option Int :=
 opt (Z3n p0 p1) fun y1 =>
 opt (Z3n p0 p2) fun y2 =>
 bnd (Za .xor .u64 y1 y2) fun z1 =>
 opt (Z3n p0 p3) fun y3 =>
 bnd (Za .xor .u64 z1 y3) fun z2 =>
 some z2
theorem Zee {W:World} {r:Int} {p0:Int} {p1:Int} {p2:Int} {p3:Int} (h:Za1 p0 p1 p2 p3=some r)  :
    Calls Tryz.prog 202 [.int .u64 (p0),.int .i64 (p1),.int .i64 (p2),.int .i64 (p3)].toArray W (Z34 W (.int .u64 (r))):=by
 unfold Za1 at h
 refine Zc mo Z0ko rfl ?_
 refine Z0<|Z2<|Z6 rfl<|Z1<|Z0<|oH h fun y1 f1 h=>oH h fun y2 f2 h=>bH h fun z1 e1 h=>oH h fun y3 f3 h=>bH h fun z2 e2 h=>Z2<|Z6 rfl<|Z6 rfl<|Z4 _ (Z0h rfl (Z3b f1))<|Z6 rfl<|Z6 rfl<|Z4 _ (Z0h rfl (Z3b f2))<|Z4 _ (iz e1 (Z8 rfl rfl rfl))<|Z6 rfl<|Z6 rfl<|Z4 _ (Z0h rfl (Z3b f3))<|Z4 _ (iz e2 (Z8 rfl rfl rfl))<|Z6 rfl<|Z1<|Zj ?_
 revert h; refine Zv fun h=>?_
 subst h
 exact ⟨_,(.cons (.tmp rfl) .nil),rfl⟩
def Z6n (y1:(LI)) (k1:Int->Int->Int->Int->Int->Int->Int->Int->OL) (k2:Int->Int->Int->Int->Int->Int->Int->Int->Int->OL) (i1:Int) (i2:Int) (i3:Int) (i4:Int) (i5:Int) (i6:Int) (i7:Int) (i8:Int) (i9:Int):OL :=
 br ((decide (i9<80))) (
 chk (inB i9 80) <|
 bnd (G_table.getD (i9).toNat 0) fun z1 =>
 opt (Za1 i5 14 18 41) fun y2 =>
 bnd (wrap .u64 (i8+y2)) fun z2 =>
 bnd (Za .and .u64 i5 i6) fun z3 =>
 bnd (Za .xor .u64 18446744073709551615 i5) fun z4 =>
 bnd (Za .and .u64 z4 i7) fun z5 =>
 bnd (Za .xor .u64 z3 z5) fun z6 =>
 bnd (wrap .u64 (z2+z6)) fun z7 =>
 bnd (wrap .u64 (z7+z1)) fun z8 =>
 chk (inB i9 80) <|
 bnd (y1.getD (i9).toNat 0) fun z9 =>
 bnd (wrap .u64 (z8+z9)) fun z10 =>
 opt (Za1 i1 28 34 39) fun y3 =>
 bnd (Za .and .u64 i1 i2) fun z11 =>
 bnd (Za .and .u64 i1 i3) fun z12 =>
 bnd (Za .xor .u64 z11 z12) fun z13 =>
 bnd (Za .and .u64 i2 i3) fun z14 =>
 bnd (Za .xor .u64 z13 z14) fun z15 =>
 bnd (wrap .u64 (y3+z15)) fun z16 =>
 bnd (wrap .u64 (i4+z10)) fun z17 =>
 bnd (wrap .u64 (z10+z16)) fun z18 =>
 bnd (wrap .i64 (i9+1)) fun z19 =>
 k2 z18 i1 i2 i3 z17 i5 i6 i7 z19
 ) (
 k1 i1 i2 i3 i4 i5 i6 i7 i8
 )
def Z2v (y1:(LI)) (k1:Int->Int->Int->Int->Int->Int->Int->Int->OL):Nat->Int->Int->Int->Int->Int->Int->Int->Int->Int->OL
  | 0,_,_,_,_,_,_,_,_,_=>none
  | n+1,i1,i2,i3,i4,i5,i6,i7,i8,i9=>Z6n y1 k1 (Z2v y1 k1 n) i1 i2 i3 i4 i5 i6 i7 i8 i9
def Zax (z1:LI) (k1:(LI)->OL) (k2:Int->(LI)->OL) (i1:Int) (a1:LI):OL :=
 br ((decide (i1<8))) (
 chk (inB i1 8) <|
 bnd (z1.getD (i1).toNat 0) fun z2 =>
 chk (inB i1 8) <|
 bnd (a1.getD (i1).toNat 0) fun z3 =>
 bnd (wrap .u64 (z3+z2)) fun z4 =>
 chk (inB i1 8) <|
 bnd (Z28 a1 (i1).toNat z4) fun l1 =>
 bnd (wrap .i64 (i1+1)) fun z5 =>
 k2 z5 l1
 ) (
 k1 a1
 )
def Z52 (z1:LI) (k1:(LI)->OL):Nat->Int->(LI)->OL
  | 0,_,_=>none
  | n+1,i1,a1=>Zax z1 k1 (Z52 z1 k1 n) i1 a1
def Z9m (p0:LI) (p1:LI):OL :=
 opt (Z6o p1) fun y1 =>
 bnd (p0.getD 0 0) fun z1 =>
 bnd (p0.getD 1 0) fun z2 =>
 bnd (p0.getD 2 0) fun z3 =>
 bnd (p0.getD 3 0) fun z4 =>
 bnd (p0.getD 4 0) fun z5 =>
 bnd (p0.getD 5 0) fun z6 =>
 bnd (p0.getD 6 0) fun z7 =>
 bnd (p0.getD 7 0) fun z8 =>
 jn (fun (i1:Int) (i2:Int) (i3:Int) (i4:Int) (i5:Int) (i6:Int) (i7:Int) (i8:Int)=>bnd (([i1,i2,i3,i4,i5,i6,i7,i8]:LI)) fun z9 =>
 jn (fun (a1:LI)=>some a1) fun k1=>Z52 z9 k1 big 0 p0) fun k2=>Z2v y1 k2 big z1 z2 z3 z4 z5 z6 z7 z8 0
theorem Zhm {W:World} {r:(LI)} {p0:LI} {p1:LI} (h:Z9m p0 p1=some r) (hG:Globs W) :
    Calls Tryz.prog 159 [agg [u8' p0],agg [.ints .u8 128 (p1)]].toArray W (Z34 W (agg [u8' r])):=by
 unfold Z9m at h
 refine Zc mo Z0jw rfl ?_
 refine Z0<|Z2<|Zd (Z0l (s:=[u8' p0]) rfl fun b1 u1=>Zd (Z0l (s:=[.ints .u8 128 (p1)]) rfl fun b2 u2=>Zd (Zq fun b3 u3=>Z1<|Z0<|oH h fun y1 f1 h=>Z2<|Z4 _ (Z02 (p:=[.ints .u8 128 (p1)]) rfl .t1 rfl)<|Z4 _ (Z0h rfl (Zf5 f1))<|Zd (Zq fun b4 u4=>Zd (Zp (q:=[.ints .u64 80 (y1)]) rfl rfl rfl rfl rfl .here<|Z1<|Z0<|bH h fun z1 e1 h=>bH h fun z2 e2 h=>bH h fun z3 e3 h=>bH h fun z4 e4 h=>Zt<|Z7 _ (Z0i rfl rfl (by decide))<|Z7 _ (Z0i rfl rfl (by decide))<|Z7 _ (Z0i rfl rfl (by decide))<|Z7 _ (Z0i rfl rfl (by decide))<|Zo _ (iz e1 (Z0c rfl .t3 rfl))<|Z7 _ (Z0j rfl)<|Zo _ (iz e2 (Z0c rfl .t3 rfl))<|Z7 _ (Z0j rfl)<|Zo _ (iz e3 (Z0c rfl .t3 rfl))<|Z7 _ (Z0j rfl)<|Zo _ (iz e4 (Z0c rfl .t3 rfl))<|Z7 _ (Z0j rfl)<|Z04<|Z0<|bH h fun z5 e5 h=>bH h fun z6 e6 h=>bH h fun z7 e7 h=>bH h fun z8 e8 h=>Zt<|Z7 _ (Z0i rfl rfl (by decide))<|Z7 _ (Z0i rfl rfl (by decide))<|Z7 _ (Z0i rfl rfl (by decide))<|Z7 _ (Z0i rfl rfl (by decide))<|Zo _ (iz e5 (Z0c rfl .t3 rfl))<|Z7 _ (Z0j rfl)<|Zo _ (iz e6 (Z0c rfl .t3 rfl))<|Z7 _ (Z0j rfl)<|Zo _ (iz e7 (Z0c rfl .t3 rfl))<|Z7 _ (Z0j rfl)<|Zo _ (iz e8 (Z0c rfl .t3 rfl))<|Z7 _ (Z0j rfl)<|Z04<|Z0<|Z0<|Z2<|Z4 _ (Zyc (o0:=0) (off:=0) rfl (hG.g4) (by simp) rfl)<|Z6 rfl<|Z1<|jH h fun k1 q1 h=>Zg (G:=fun t m=>∃ (i1:Int) (i2:Int) (i3:Int) (i4:Int) (i5:Int) (i6:Int) (i7:Int) (i8:Int),k1 i1 i2 i3 i4 i5 i6 i7 i8=some r/\Fit [(2,pt' b1),(4,pt' b3),(6,.int .u64 (i1)),(7,.int .u64 (i2)),(8,.int .u64 (i3)),(9,.int .u64 (i4)),(10,.int .u64 (i5)),(11,.int .u64 (i6)),(12,.int .u64 (i7)),(13,.int .u64 (i8))] (ck b4 211 [.ints .u64 80 (y1)]::(ck b3 144 [u8' (replicate 8 0)]::(ck b2 192 [.ints .u8 128 (p1)]::(ck b1 144 [u8' p0] :: [])))) t m) ?_ ?_)))))
 ·refine Z9<|Zm (fun n1 t m=>∃ (i9:Int) (i10:Int) (i11:Int) (i12:Int) (i13:Int) (i14:Int) (i15:Int) (i16:Int) (i17:Int),Z2v y1 k1 n1 i9 i10 i11 i12 i13 i14 i15 i16 i17=some r/\Fit [(2,pt' b1),(4,pt' b3),(5,pt' b4),(6,.int .u64 (i9)),(7,.int .u64 (i10)),(8,.int .u64 (i11)),(9,.int .u64 (i12)),(10,.int .u64 (i13)),(11,.int .u64 (i14)),(12,.int .u64 (i15)),(13,.int .u64 (i16)),(38,agg [.ints .u64 80 (G_table)]),(39,.int .i64 (i17))] (ck b4 211 [.ints .u64 80 (y1)]::(ck b3 144 [u8' (replicate 8 0)]::(ck b2 192 [.ints .u8 128 (p1)]::(ck b1 144 [u8' p0] :: [])))) t m) big ?_ ?_
  ·exact ⟨z1,z2,z3,z4,z5,z6,z7,z8,0,h,⟨⟨rfl,rfl,rfl,rfl,rfl,rfl,rfl,rfl,rfl,rfl,rfl,rfl,rfl,trivial⟩,(.o (.o (.o (.o .nil))))⟩⟩
  ·rintro n1 t m ⟨i9,i10,i11,i12,i13,i14,i15,i16,i17,h,hF⟩
   refine Ze hF ?_
   clear hF
   rcases n1 with _ | n1
   · exact Z07 h
   have h:Z6n y1 k1 (Z2v y1 k1 n1) i9 i10 i11 i12 i13 i14 i15 i16 i17=some r:=h
   unfold Z6n at h
   obtain ⟨k2,q2⟩ : ∃ k,k=Z2v y1 k1 n1:=⟨_,rfl⟩
   try rw [<- q2] at h
   refine Z0<|Z2<|Z4 _ (Z8 rfl rfl rfl)<|Z1<|Z0<|Z09 h rfl (fun h=>?_) (fun h=>?_)
   ·refine Zh<|Z0<|Z9<|Z0<|cH h fun c1 h=>bH h fun z9 e9 h=>Z2<|Z6 rfl<|Z4 _ (iz e9 (Zfb (len:=80) rfl rfl (Z08 c1)))<|Z6 rfl<|Z6 rfl<|Z1<|Z0<|oH h fun y2 f2 h=>bH h fun z10 e10 h=>bH h fun z11 e11 h=>bH h fun z12 e12 h=>bH h fun z13 e13 h=>bH h fun z14 e14 h=>bH h fun z15 e15 h=>bH h fun z16 e16 h=>cH h fun c2 h=>bH h fun z17 e17 h=>bH h fun z18 e18 h=>Zt<|Z7 _ (Z0j rfl)<|Z7 _ (Z0j rfl)<|Z7 _ (Z0h rfl (Zee f2))<|Z7 _ (iz e10 (Z8 rfl rfl rfl))<|Z7 _ (Z0j rfl)<|Z7 _ (Z0j rfl)<|Z7 _ (iz e11 (Z8 rfl rfl rfl))<|Z7 _ (Z0j rfl)<|Z7 _ (iz e12 (Zv4 rfl rfl))<|Z7 _ (Z0j rfl)<|Z7 _ (iz e13 (Z8 rfl rfl rfl))<|Z7 _ (iz e14 (Z8 rfl rfl rfl))<|Z7 _ (iz e15 (Z8 rfl rfl rfl))<|Z7 _ (Z0j rfl)<|Z7 _ (iz e16 (Z8 rfl rfl rfl))<|Z7 _ (Z0j rfl)<|Z7 _ (Z0i rfl rfl (Z08 c2))<|Zo _ (iz e17 (Z1w (base:=0) rfl .here rfl (Z01 c2)))<|Z7 _ (iz e18 (Z8 rfl rfl rfl))<|Z7 _ (Z0j rfl)<|Z04<|Z0<|oH h fun y3 f3 h=>bH h fun z19 e19 h=>bH h fun z20 e20 h=>bH h fun z21 e21 h=>bH h fun z22 e22 h=>bH h fun z23 e23 h=>bH h fun z24 e24 h=>Z2<|Z6 rfl<|Z4 _ (Z0h rfl (Zee f3))<|Z6 rfl<|Z6 rfl<|Z4 _ (iz e19 (Z8 rfl rfl rfl))<|Z6 rfl<|Z6 rfl<|Z4 _ (iz e20 (Z8 rfl rfl rfl))<|Z4 _ (iz e21 (Z8 rfl rfl rfl))<|Z6 rfl<|Z6 rfl<|Z4 _ (iz e22 (Z8 rfl rfl rfl))<|Z4 _ (iz e23 (Z8 rfl rfl rfl))<|Z4 _ (iz e24 (Z8 rfl rfl rfl))<|Z6 rfl<|Z1<|bH h fun z25 e25 h=>bH h fun z26 e26 h=>Z2<|Z6 rfl<|Z6 rfl<|Z6 rfl<|Z6 rfl<|Z6 rfl<|Z4 _ (iz e25 (Z8 rfl rfl rfl))<|Z6 rfl<|Z6 rfl<|Z6 rfl<|Z6 rfl<|Z6 rfl<|Z4 _ (iz e26 (Z8 rfl rfl rfl))<|Z6 rfl<|Z6 rfl<|Z6 rfl<|Z6 rfl<|Z6 rfl<|Z6 rfl<|Z6 rfl<|Z6 rfl<|Z1<|bH h fun z27 e27 h=>Z2<|Z4 _ (iz e27 (Z8 rfl rfl rfl))<|Z6 rfl<|Z1 ?_
    rw [q2] at h
    exact ⟨n1,Nat.lt_succ_self _,z26,i9,i10,i11,z25,i13,i14,i15,z27,h,⟨⟨rfl,rfl,rfl,rfl,rfl,rfl,rfl,rfl,rfl,rfl,rfl,rfl,rfl,trivial⟩,(.o (.o (.o (.o .nil))))⟩⟩
   ·exact Zs _ rfl<|⟨i9,i10,i11,i12,i13,i14,i15,i16,h,⟨⟨rfl,rfl,rfl,rfl,rfl,rfl,rfl,rfl,rfl,rfl,trivial⟩,(.o (.o (.o (.o .nil))))⟩⟩
 ·rintro t m ⟨i1,i2,i3,i4,i5,i6,i7,i8,h,hF⟩
  refine Ze hF ?_
  clear hF
  subst q1
  refine Z0<|Z0<|bH h fun z28 e28 h=>Z2<|Z6 rfl<|Z6 rfl<|Z6 rfl<|Z6 rfl<|Z6 rfl<|Z6 rfl<|Z6 rfl<|Z6 rfl<|Z4 _ (az (fun z=>agg [.ints .u64 8 z]) e28 (Zd2 (.one rfl rfl rfl (.one rfl rfl rfl (.one rfl rfl rfl (.one rfl rfl rfl (.one rfl rfl rfl (.one rfl rfl rfl (.one rfl rfl rfl (.one rfl rfl rfl BdR.nil))))))))))<|Z6 rfl<|Z1<|jH h fun k3 q3 h=>Zg (G:=fun t m=>∃ (a1:LI),k3 a1=some r/\Fit [(2,pt' b1),(4,pt' b3)] (ck b4 211 [.ints .u64 80 (y1)]::(ck b3 144 [u8' (replicate 8 0)]::(ck b2 192 [.ints .u8 128 (p1)]::(ck b1 144 [u8' a1] :: [])))) t m) ?_ ?_
  ·refine Z9<|Zm (fun n2 t m=>∃ (i18:Int) (a2:LI),Z52 z28 k3 n2 i18 a2=some r/\Fit [(2,pt' b1),(4,pt' b3),(97,agg [u8' z28]),(98,.int .i64 (i18))] (ck b4 211 [.ints .u64 80 (y1)]::(ck b3 144 [u8' (replicate 8 0)]::(ck b2 192 [.ints .u8 128 (p1)]::(ck b1 144 [u8' a2] :: [])))) t m) big ?_ ?_
   ·exact ⟨0,p0,h,⟨⟨rfl,rfl,rfl,rfl,trivial⟩,(.o (.o (.o (.o .nil))))⟩⟩
   ·rintro n2 t m ⟨i18,a2,h,hF⟩
    refine Ze hF ?_
    clear hF
    rcases n2 with _ | n2
    · exact Z07 h
    have h:Zax z28 k3 (Z52 z28 k3 n2) i18 a2=some r:=h
    unfold Zax at h
    obtain ⟨k4,q4⟩ : ∃ k,k=Z52 z28 k3 n2:=⟨_,rfl⟩
    try rw [<- q4] at h
    refine Z0<|Z2<|Z4 _ (Z8 rfl rfl rfl)<|Z1<|Z0<|Z09 h rfl (fun h=>?_) (fun h=>?_)
    ·refine Zh<|Z0<|Z9<|Z0<|cH h fun c3 h=>bH h fun z29 e29 h=>Z2<|Z6 rfl<|Z4 _ (iz e29 (Zfb (len:=8) rfl rfl (Z08 c3)))<|Z6 rfl<|Z6 rfl<|Z1<|cH h fun c4 h=>bH h fun z30 e30 h=>bH h fun z31 e31 h=>cH h fun c5 h=>bH h fun l1 g1 h=>Z2<|Z6 rfl<|Z4 _ (Z0i rfl rfl (Z08 c4))<|Z4 _ (iz e30 (Z1w (base:=0) rfl .t3 rfl (Z01 c4)))<|Z6 rfl<|Z4 _ (iz e31 (Z8 rfl rfl rfl))<|Z4 _ (Z0i rfl rfl (Z08 c5))<|Zd (Z1h (q:=[u8' l1]) (base:=0) g1 rfl rfl rfl (Z01 c5) rfl .t3<|Z1<|bH h fun z32 e32 h=>Z2<|Z4 _ (iz e32 (Z8 rfl rfl rfl))<|Z6 rfl<|Z1 ?_)
     rw [q4] at h
     exact ⟨n2,Nat.lt_succ_self _,z32,l1,h,⟨⟨rfl,rfl,rfl,rfl,trivial⟩,(.o (.o (.o (.o .nil))))⟩⟩
    ·exact Zs _ rfl<|⟨a2,h,⟨⟨rfl,rfl,trivial⟩,(.o (.o (.o (.o .nil))))⟩⟩
  ·rintro t m ⟨a1,h,hF⟩
   refine Ze hF ?_
   clear hF
   subst q3
   refine Z0<|Z2<|Z4 _ (Z02 (p:=[u8' a1]) rfl .t3 rfl)<|Zd (Zp (q:=[u8' a1]) rfl rfl rfl rfl rfl .t1<|Z1<|Zj ?_)
   revert h; refine Zv fun h=>?_
   subst h
   exact ⟨_,(.cons (.agg rfl .t1 rfl) .nil),rfl⟩
def Z27 (z1:Int) (k1:(LI)->(LI)->(LI)->Int->Option (Zy)) (l1:LI) (a1:LI) (a2:LI) (i1:Int):Option (Zy) :=
 br ((decide ((l1.length:Int)>0))) (
 chk (Zfh i1 128 128) <|
 bnd (wr a2 (i1).toNat (l1.take (128-(i1).toNat))) fun l2 =>
 chk (Zfh ((Nat.min l1.length (128-(i1).toNat):Nat):Int) (l1.length:Int) l1.length) <|
 bnd (wrap .i64 (i1+((Nat.min l1.length (128-(i1).toNat):Nat):Int))) fun z2 =>
 br ((z2==128)) (
 opt (Z9m a1 l2) fun y1 =>
 k1 ((l1.drop (((Nat.min l1.length (128-(i1).toNat):Nat):Int)).toNat).take (((l1.length:Int)).toNat-(((Nat.min l1.length (128-(i1).toNat):Nat):Int)).toNat)) y1 l2 0
 ) (
 k1 ((l1.drop (((Nat.min l1.length (128-(i1).toNat):Nat):Int)).toNat).take (((l1.length:Int)).toNat-(((Nat.min l1.length (128-(i1).toNat):Nat):Int)).toNat)) a1 l2 z2
 )
 ) (
 some (⟨a1,a2,i1,z1⟩:Zy)
 )
def Z0p (z1:Int):Nat->(LI)->(LI)->(LI)->Int->Option (Zy)
  | 0,_,_,_,_=>none
  | n+1,l1,a1,a2,i1=>Z27 z1 (Z0p z1 n) l1 a1 a2 i1
def Z1t (p0:Zy) (p1:LI):Option (Zy) :=
 bnd (wrap .u64 (p1.length:Int)) fun z1 =>
 bnd (wrap .u64 (p0.glength+z1)) fun z2 =>
 Z0p z2 big p1 p0.gstate p0.gheld p0.ghave
theorem Z7u {W:World} {r:Zy} {p0:Zy} {p1:LI} {v1:Value} {b:Nat} {T:TypeId} (h:Z1t p0 p1=some r) (h0:Sat W [b] (ck b T [u8' p0.gstate,.ints .u8 128 (p0.gheld),.one (.int .i64 (p0.ghave)),.one (.int .u64 (p0.glength))] :: []) W) (hG:Globs W) (hS : ∀ g,g<ng->g ∉ [b]) (A1:Z6v (El.int .u8) W v1 p1/\Zi4 v1 p1 [b]) :
    Calls Tryz.prog 97 [.pointer (some ⟨b,0,none⟩),v1].toArray W (Zd9 W [b] (fun v Ms=>v = .tuple #[]/\Ms = [.one (ck b T [u8' r.gstate,.ints .u8 128 (r.gheld),.one (.int .i64 (r.ghave)),.one (.int .u64 (r.glength))])])):=by
 unfold Z1t at h
 refine Z0e mo ok97 rfl h0 ?_
 refine Z0<|bH h fun z1 e1 h=>bH h fun z2 e2 h=>Z2<|Z6 rfl<|Z4 _ (Z4q rfl)<|Z4 _ (Z2l rfl)<|Z4 _ (Z0c rfl .here rfl)<|Z6 rfl<|Z4 _ (Z3l rfl (Shp.rd A1.1))<|Z4 _ (iz e1 (Z33 rfl))<|Z4 _ (iz e2 (Z8 rfl rfl rfl))<|Z4 _ (Z4q rfl)<|Z4 _ (Z2l rfl)<|Zd (Zhp (q:=[u8' p0.gstate,.ints .u8 128 (p0.gheld),.one (.int .i64 (p0.ghave)),.one (.int .u64 (z2))]) rfl rfl rfl rfl .here<|Z1<|Z9<|Zm (fun n1 t m=>∃ (l1:LI) (a1:LI) (a2:LI) (i1:Int) (v38:Value),Z0p z2 n1 l1 a1 a2 i1=some r/\(Z6v (El.int .u8) W v38 l1/\Zi4 v38 l1 [b])/\Fit [(0,.pointer (some ⟨b,0,none⟩)),(1,v38)] (ck b T [u8' a1,.ints .u8 128 (a2),.one (.int .i64 (i1)),.one (.int .u64 (z2))] :: []) t m) big ?_ ?_)
 ·exact ⟨p1,p0.gstate,p0.gheld,p0.ghave,v1,h,A1,⟨⟨rfl,rfl,trivial⟩,(.o .nil)⟩⟩
 ·rintro n1 t m ⟨l1,a1,a2,i1,v38,h,A40,hF⟩
  refine Ze hF ?_
  clear hF
  rcases n1 with _ | n1
  · exact Z07 h
  have h:Z27 z2 (Z0p z2 n1) l1 a1 a2 i1=some r:=h
  unfold Z27 at h
  obtain ⟨k1,q1⟩ : ∃ k,k=Z0p z2 n1:=⟨_,rfl⟩
  try rw [<- q1] at h
  refine Z0<|Z0<|Z2<|Z6 rfl<|Z4 _ (Z3l rfl (Shp.rd A40.1))<|Z4 _ (Z8 rfl rfl rfl)<|Z1<|Z09 h rfl (fun h=>?_) (fun h=>?_)
  ·refine Zh<|Z9<|Z0<|cH h fun c1 h=>bH h fun l2 g1 h=>Zt<|Z7 _ (Z0j rfl)<|Z7 _ (Z4q rfl)<|Z7 _ (Z2l rfl)<|Z7 _ (Z0j rfl)<|Z7 _ (Z4q rfl)<|Z7 _ (Z2l rfl)<|Z7 _ (Z0j rfl)<|Zo _ (Z0c rfl .here rfl)<|Z7 _ (Zf3 rfl (.yes rfl) .no .no (by simp) (cut4 c1))<|Z1i rfl (Zj3 (q:=[u8' a1,.ints .u8 128 (l2),.one (.int .i64 (i1)),.one (.int .u64 (z2))]) (lo:=(i1).toNat) (hi:=128) (mz:=128) (base:=8) g1 rfl rfl (Z2k A40.1 A40.2) rfl (cutn c1) rfl .here<|Z7 _ (Z0j rfl)<|Z04<|Z0<|cH h fun c2 h=>Z2<|Z6 rfl<|Z6 rfl<|Z4 _ (Zk2 (lz:=((Nat.min l1.length (128-(i1).toNat):Nat):Int)) (hz:=(l1.length:Int)) rfl (Shp.rd A40.1) (.yes rfl) .no c2)<|Z6 rfl<|Z1<|Z0<|bH h fun z3 e3 h=>Z2<|Z6 rfl<|Z4 _ (Z4q rfl)<|Z4 _ (Z2l rfl)<|Z4 _ (Z0c rfl .here rfl)<|Z6 rfl<|Z4 _ (iz e3 (Z8 rfl rfl rfl))<|Z4 _ (Z4q rfl)<|Z4 _ (Z2l rfl)<|Zd (Zhp (q:=[u8' a1,.ints .u8 128 (l2),.one (.int .i64 (z3)),.one (.int .u64 (z2))]) rfl rfl rfl rfl .here<|Z1<|Z0<|Z2<|Z6 rfl<|Z4 _ (Z4q rfl)<|Z4 _ (Z2l rfl)<|Z4 _ (Z0c rfl .here rfl)<|Z4 _ (Z8 rfl rfl rfl)<|Z1<|Z09 h rfl (fun h=>?_) (fun h=>?_)))
   ·refine Z0<|oH h fun y1 f1 h=>Zt<|Z7 _ (Z0j rfl)<|Z7 _ (Z0j rfl)<|Z7 _ (Z4q rfl)<|Z7 _ (Z2l rfl)<|Z7 _ (Z0j rfl)<|Z7 _ (Z4q rfl)<|Z7 _ (Z2l rfl)<|Zo _ (Z02 (p:=[u8' a1]) rfl .here rfl)<|Zo _ (Z02 (p:=[.ints .u8 128 (l2)]) rfl .here rfl)<|Z7 _ (Z1a rfl (fun w hw=>Zhm f1 (hG.at hw hS)))<|Z7 _ (Z4q rfl)<|Z7 _ (Z2l rfl)<|Z1i rfl (Zp (q:=[u8' y1,.ints .u8 128 (l2),.one (.int .i64 (z3)),.one (.int .u64 (z2))]) rfl rfl rfl rfl rfl .here<|Z04<|Z2<|Z6 rfl<|Z4 _ (Z4q rfl)<|Z4 _ (Z2l rfl)<|Zd (Zhp (q:=[u8' y1,.ints .u8 128 (l2),.one (.int .i64 (0)),.one (.int .u64 (z2))]) rfl rfl rfl rfl .here<|Z1 ?_))
    rw [q1] at h
    exact ⟨n1,Nat.lt_succ_self _,((l1.drop (((Nat.min l1.length (128-(i1).toNat):Nat):Int)).toNat).take (((l1.length:Int)).toNat-(((Nat.min l1.length (128-(i1).toNat):Nat):Int)).toNat)),y1,l2,0,(Za7 1 v38 (((Nat.min l1.length (128-(i1).toNat):Nat):Int)).toNat ((l1.length:Int)).toNat),h,(Zrb A40 (lz:=((Nat.min l1.length (128-(i1).toNat):Nat):Int)) (hz:=(l1.length:Int)) c2),⟨⟨rfl,rfl,trivial⟩,(.o .nil)⟩⟩
   ·refine Zh ?_
    rw [q1] at h
    exact ⟨n1,Nat.lt_succ_self _,((l1.drop (((Nat.min l1.length (128-(i1).toNat):Nat):Int)).toNat).take (((l1.length:Int)).toNat-(((Nat.min l1.length (128-(i1).toNat):Nat):Int)).toNat)),a1,l2,z3,(Za7 1 v38 (((Nat.min l1.length (128-(i1).toNat):Nat):Int)).toNat ((l1.length:Int)).toNat),h,(Zrb A40 (lz:=((Nat.min l1.length (128-(i1).toNat):Nat):Int)) (hz:=(l1.length:Int)) c2),⟨⟨rfl,rfl,trivial⟩,(.o .nil)⟩⟩
  ·refine Zs _ rfl ?_
   revert h; refine Zv fun h=>?_
   subst h
   exact ⟨_,_,.nil,(.o .nil),⟨_,rfl,⟨rfl,rfl⟩⟩⟩
def Z5m (p0:Zy):Option (Zy×Zy) :=
 some (p0,p0)
theorem Zc7 {W:World} {r:Zy×Zy} {p0:Zy} {b:Nat} {T:TypeId} (h:Z5m p0=some r) (h0:Sat W [b] (ck b T [u8' p0.gstate,.ints .u8 128 (p0.gheld),.one (.int .i64 (p0.ghave)),.one (.int .u64 (p0.glength))] :: []) W) :
    Calls Tryz.prog 163 [.pointer (some ⟨b,0,none⟩)].toArray W (Zd9 W [b] (fun v Ms=>∃ (b1:Nat) (T0:TypeId),v = pt' b1/\Ms = [.one (ck b1 T0 [u8' r.1.gstate,.ints .u8 128 (r.1.gheld),.one (.int .i64 (r.1.ghave)),.one (.int .u64 (r.1.glength))]),.one (ck b T [u8' r.2.gstate,.ints .u8 128 (r.2.gheld),.one (.int .i64 (r.2.ghave)),.one (.int .u64 (r.2.glength))])])):=by
 unfold Z5m at h
 refine Z0e mo Z0jx rfl h0 ?_
 refine Z0<|Z2<|Z6 rfl<|Z1<|Z0<|Z2<|Z6 rfl<|Z4 _ (Z4q rfl)<|Z4 _ (Z02 (p:=[u8' p0.gstate,.ints .u8 128 (p0.gheld),.one (.int .i64 (p0.ghave)),.one (.int .u64 (p0.glength))]) rfl .here rfl)<|Zd (Zq fun b2 u1=>Zd (Zp (q:=[u8' p0.gstate,.ints .u8 128 (p0.gheld),.one (.int .i64 (p0.ghave)),.one (.int .u64 (p0.glength))]) rfl rfl rfl rfl rfl .here<|Z1<|Z0<|Z2<|Z6 rfl<|Z1<|Zj ?_))
 revert h; refine Zv fun h=>?_
 subst h
 exact ⟨_,_,(.cons (.tmp rfl) .nil),(.o (.o .nil)),⟨_,rfl,⟨b2,194,rfl,rfl⟩⟩⟩
def Za0 (p0:Int):OL :=
 bnd (wrap .u64 (p0+17)) fun z1 =>
 bnd (Int.tmod z1 128) fun z2 =>
 bnd (wrap .i64 z2) fun z3 =>
 bnd (wrap .i64 (128-z3)) fun z4 =>
 bnd (Int.tmod z4 128) fun z5 =>
 bnd (wrap .i64 (17+z5)) fun z6 =>
 chk (mkB 1 0 z6) <|
 chk (decide (((replicate 0 0:LI).length+([128]:LI).length)*1<=140737488355328)) <|
 bnd ((replicate 0 0:LI)++([128]:LI)) fun l1 =>
 chk (decide (0<=z5)) <|
 chk (decide ((l1.length+(z5).toNat)*1<=140737488355328)) <|
 bnd (l1++replicate (z5).toNat 0) fun l2 =>
 bnd (Z0f .u64 p0 61) fun z7 =>
 opt (Z1o z7) fun y1 =>
 chk (decide ((l2.length+y1.length)*1<=140737488355328)) <|
 bnd (l2++y1) fun l3 =>
 bnd (Z1v .u64 p0 3) fun z8 =>
 opt (Z1o z8) fun y2 =>
 chk (decide ((l3.length+y2.length)*1<=140737488355328)) <|
 bnd (l3++y2) fun l4 =>
 some l4
theorem Zkd {W:World} {r:(LI)} {p0:Int} (h:Za0 p0=some r)  :
    Calls Tryz.prog 164 [.int .u64 (p0)].toArray W (Zd9 W [] (fun v Ms=>∃ (u0:Value) (M1:List Zf),v=u0/\Ms = [.all M1]/\Z03 (El.int .u8) u0 M1 r)):=by
 unfold Za0 at h
 refine Z0e mo Z0jy rfl (Zgt _) ?_
 refine Z0<|Z2<|Z6 rfl<|Z1<|Z0<|bH h fun z1 e1 h=>bH h fun z2 e2 h=>bH h fun z3 e3 h=>bH h fun z4 e4 h=>bH h fun z5 e5 h=>Z2<|Z6 rfl<|Z4 _ (iz e1 (Z8 rfl rfl rfl))<|Z4 _ (iz e2 (Z8c rfl rfl (by decide)))<|Z4 _ (iz e3 (Z33 rfl))<|Z4 _ (iz e4 (Z8 rfl rfl rfl))<|Z4 _ (iz e5 (Z8c rfl rfl (by decide)))<|Z6 rfl<|Z1<|Z0<|bH h fun z6 e6 h=>cH h fun c1 h=>Z2<|Z6 rfl<|Z4 _ (iz e6 (Z8 rfl rfl rfl))<|Zd (Zfi (E:=(El.int .u8)) rfl rfl rfl c1 fun v11 w1 O1=>Z6 rfl<|Z1<|Z0<|cH h fun c2 h=>bH h fun l1 g1 h=>Z2<|Z6 rfl<|Zd (Z3i (E:=(El.int .u8)) (xs:=[128]) (.one rfl rfl rfl BdR.nil) (.cons (p:=[.one (.int .u8 (128))]) rfl .nil) rfl fun v15 w2 O2=>Zd (Z1m (E:=(El.int .u8)) g1 rfl O1 (.app .here) rfl (Z00 O2 .here) c2 fun v20 w3 O3=>Z6 rfl<|Z1<|Z0<|cH h fun c3 h=>cH h fun c4 h=>bH h fun l2 g2 h=>Z2<|Z6 rfl<|Z6 rfl<|Zd (Z01i (E:=(El.int .u8)) g2 rfl O3 .here rfl c3 rfl c4 fun v27 w4 O4=>Z6 rfl<|Z1<|Z0<|bH h fun z7 e7 h=>oH h fun y1 f1 h=>cH h fun c5 h=>bH h fun l3 g3 h=>Z2<|Z6 rfl<|Z6 rfl<|Z4 _ (iz e7 (Z48 rfl rfl (by decide)))<|Zd (Z05 rfl (fun w hw=>Z2h  f1 ) fun v33 o1 R1=>?_)))))
 obtain ⟨_,w5,rfl,rfl,O5⟩:=R1
 refine Zd (Z1m (E:=(El.int .u8)) g3 rfl O4 (.app .here) rfl (Z00 O5 .here) c5 fun v40 w6 O6=>Z6 rfl<|Z1<|Z0<|bH h fun z8 e8 h=>oH h fun y2 f2 h=>cH h fun c6 h=>bH h fun l4 g4 h=>Z2<|Z6 rfl<|Z6 rfl<|Z4 _ (iz e8 (Zhg rfl rfl (by decide)))<|Zd (Z05 rfl (fun w hw=>Z2h  f2 ) fun v46 o2 R2=>?_))
 obtain ⟨_,w7,rfl,rfl,O7⟩:=R2
 refine Zd (Z1m (E:=(El.int .u8)) g4 rfl O6 (.app .here) rfl (Z00 O7 .here) c6 fun v53 w8 O8=>Z6 rfl<|Z1<|Zj ?_)
 revert h; refine Zv fun h=>?_
 subst h
 exact ⟨_,_,(.cons (.tmp rfl) .nil),(.all .here .nil),⟨_,rfl,⟨v53,w8,rfl,rfl,O8⟩⟩⟩
def Z6z (y1:Zy) (k1:(LI)->Option ((LI)×Zy)) (k2:Int->(LI)->Option ((LI)×Zy)) (i1:Int) (a1:LI):Option ((LI)×Zy) :=
 br ((decide (i1<8))) (
 chk (inB i1 8) <|
 bnd (y1.gstate.getD (i1).toNat 0) fun z1 =>
 bnd (wrap .i64 (8*i1)) fun z2 =>
 chk (Zfh z2 64 64) <|
 opt (Z1o z1) fun y2 =>
 bnd (wr a1 (z2).toNat (y2.take (64-(z2).toNat))) fun l1 =>
 bnd (wrap .i64 (i1+1)) fun z3 =>
 k2 z3 l1
 ) (
 k1 a1
 )
def Z2x (y1:Zy) (k1:(LI)->Option ((LI)×Zy)):Nat->Int->(LI)->Option ((LI)×Zy)
  | 0,_,_=>none
  | n+1,i1,a1=>Z6z y1 k1 (Z2x y1 k1 n) i1 a1
def Z53 (p0:Zy):Option ((LI)×Zy) :=
 opt (Z5m p0) fun y1 =>
 opt (Za0 y1.2.glength) fun y2 =>
 opt (Z1t y1.1 y2) fun y3 =>
 jn (fun (a1:LI)=>some (a1,y1.2)) fun k1=>Z2x y3 k1 big 0 (replicate 64 0)
theorem Zdb {W:World} {r:(LI)×Zy} {p0:Zy} {b:Nat} {T:TypeId} (h:Z53 p0=some r) (h0:Sat W [b] (ck b T [u8' p0.gstate,.ints .u8 128 (p0.gheld),.one (.int .i64 (p0.ghave)),.one (.int .u64 (p0.glength))] :: []) W) (hG:Globs W) (hS : ∀ g,g<ng->g ∉ [b]) :
    Calls Tryz.prog 99 [.pointer (some ⟨b,0,none⟩)].toArray W (Zd9 W [b] (fun v Ms=>v=agg [b6' r.1]/\Ms = [.one (ck b T [u8' r.2.gstate,.ints .u8 128 (r.2.gheld),.one (.int .i64 (r.2.ghave)),.one (.int .u64 (r.2.glength))])])):=by
 unfold Z53 at h
 refine Z0e mo ok99 rfl h0 ?_
 refine Z0<|Z2<|Zd (Zq fun b1 u1=>Z1<|Z0<|oH h fun y1 f1 h=>Z2<|Z6 rfl<|Zd (Z78 (mS:=[_]) rfl (Z41.perm .t1) (fun w hw=>Zc7  f1 (Zav hw (mS:=[_]) (Z41.perm .t1)) ) fun v5 o1 R1=>?_))
 obtain ⟨b2,T8,rfl,rfl⟩:=R1
 refine Z6 rfl<|Z1<|Z0<|oH h fun y2 f2 h=>oH h fun y3 f3 h=>Z2<|Z6 rfl<|Z6 rfl<|Z4 _ (Z4q rfl)<|Z4 _ (Z2l rfl)<|Z4 _ (Z0c rfl .t1 rfl)<|Zd (Z05 rfl (fun w hw=>Zkd  f2 ) fun v11 o2 R2=>?_)
 obtain ⟨_,w1,rfl,rfl,O1⟩:=R2
 refine Zd (Z78 (mS:=[_]) rfl (Z41.perm (.app .here)) (fun w hw=>Z7u  f3 (Zav hw (mS:=[_]) (Z41.perm (.app .here))) (hG.at hw hS) (hG.ap hS (.app .here) hw) ⟨(Z00 O1 .here) w hw,(Zn9 (E:=(El.int .u8)) O1 .here .here hw)⟩) fun v17 o3 R3=>?_)
 obtain ⟨rfl,rfl⟩:=R3
 refine Z1<|Z0<|Z2<|Zd (Zq fun b3 u2=>Z1<|Z0<|Z0<|Z2<|Z6 rfl<|Z4 _ (Z4q rfl)<|Z4 _ (Z2l rfl)<|Z4 _ (Z02 (p:=[u8' y3.gstate]) rfl .t1 rfl)<|Z6 rfl<|Z1<|jH h fun k1 q1 h=>Zg (G:=fun t m=>∃ (a1:LI),k1 a1=some r/\Fit [(2,pt' b1),(4,pt' b3)] (ck b3 94 [b6' a1]::(ck b2 T8 [u8' y3.gstate,.ints .u8 128 (y3.gheld),.one (.int .i64 (y3.ghave)),.one (.int .u64 (y3.glength))]::(ck b T [u8' y1.2.gstate,.ints .u8 128 (y1.2.gheld),.one (.int .i64 (y1.2.ghave)),.one (.int .u64 (y1.2.glength))]::(ck b1 94 [b6' (replicate 64 0)] :: [])))) t m) ?_ ?_)
 ·refine Z9<|Zm (fun n1 t m=>∃ (i1:Int) (a2:LI),Z2x y3 k1 n1 i1 a2=some r/\Fit [(2,pt' b1),(4,pt' b3),(19,agg [u8' y3.gstate]),(20,.int .i64 (i1))] (ck b3 94 [b6' a2]::(ck b2 T8 [u8' y3.gstate,.ints .u8 128 (y3.gheld),.one (.int .i64 (y3.ghave)),.one (.int .u64 (y3.glength))]::(ck b T [u8' y1.2.gstate,.ints .u8 128 (y1.2.gheld),.one (.int .i64 (y1.2.ghave)),.one (.int .u64 (y1.2.glength))]::(ck b1 94 [b6' (replicate 64 0)] :: [])))) t m) big ?_ ?_
  ·exact ⟨0,(replicate 64 0),h,⟨⟨rfl,rfl,rfl,rfl,trivial⟩,(.o (.o (.one (.app .here) (.one (.app .here) .nil))))⟩⟩
  ·rintro n1 t m ⟨i1,a2,h,hF⟩
   refine Ze hF ?_
   clear hF
   rcases n1 with _ | n1
   · exact Z07 h
   have h:Z6z y3 k1 (Z2x y3 k1 n1) i1 a2=some r:=h
   unfold Z6z at h
   obtain ⟨k2,q2⟩ : ∃ k,k=Z2x y3 k1 n1:=⟨_,rfl⟩
   try rw [<- q2] at h
   refine Z0<|Z2<|Z4 _ (Z8 rfl rfl rfl)<|Z1<|Z0<|Z09 h rfl (fun h=>?_) (fun h=>?_)
   ·refine Zh<|Z0<|Z9<|Z0<|cH h fun c1 h=>bH h fun z1 e1 h=>Z2<|Z6 rfl<|Z4 _ (iz e1 (Zfb (len:=8) rfl rfl (Z08 c1)))<|Z6 rfl<|Z6 rfl<|Z1<|bH h fun z2 e2 h=>cH h fun c2 h=>oH h fun y4 f4 h=>bH h fun l1 g1 h=>Zt<|Z7 _ (Z0j rfl)<|Z7 _ (iz e2 (Z8 rfl rfl rfl))<|Z7 _ (Zf3 rfl (.yes rfl) .no .no (by simp) (cut4 c2))<|Z7 _ (Z0j rfl)<|Z47 (Z05 rfl (fun w hw=>Z2h  f4 ) fun v120 o4 R4=>?_)
    obtain ⟨_,w2,rfl,rfl,O2⟩:=R4
    refine ⟨(by repeat (first | exact Sup.refl _ | apply Sup.cons | apply Sup.app)),Z1i rfl (Zj3 (q:=[b6' l1]) (lo:=(z2).toNat) (hi:=64) (mz:=64) (base:=0) g1 rfl rfl (Z00 O2 .here) rfl (cutn c2) rfl (.app .here) (Z04 (bH h fun z3 e3 h=>Z2 (Z4 _ (iz e3 (Z8 rfl rfl rfl)) (Z6 rfl (Z1 ?_))))))⟩
    rw [q2] at h
    exact ⟨n1,Nat.lt_succ_self _,z3,l1,h,⟨⟨rfl,rfl,rfl,rfl,trivial⟩,(.one (.app .here) (.one (.app .here) (.one (.app .here) (.one (.app .here) .nil))))⟩⟩
   ·exact Zs _ rfl<|⟨a2,h,⟨⟨rfl,rfl,trivial⟩,(.o (.o (.o (.o .nil))))⟩⟩
 ·rintro t m ⟨a1,h,hF⟩
  refine Ze hF ?_
  clear hF
  subst q1
  refine Z0<|Z2<|Z4 _ (Z02 (p:=[b6' a1]) rfl .here rfl)<|Zd (Zp (q:=[b6' a1]) rfl rfl rfl rfl rfl .t3<|Z1<|Zj ?_)
  revert h; refine Zv fun h=>?_
  subst h
  exact ⟨_,_,(.cons (.agg rfl .t3 rfl) .nil),(.one .t2 .nil),⟨_,rfl,⟨rfl,rfl⟩⟩⟩
def Zc8 (p0:LI):OL :=
 opt (Zew ) fun y1 =>
 opt (Z1t y1 p0) fun y2 =>
 opt (Z53 y2) fun y3 =>
 some y3.1
theorem Zke {W:World} {r:(LI)} {p0:LI} {v0:Value} (h:Zc8 p0=some r) (hG:Globs W) (A0:Z6v (El.int .u8) W v0 p0) :
    Calls Tryz.prog 88 [v0].toArray W (Z34 W (agg [b6' r])):=by
 unfold Zc8 at h
 refine Zc mo ok88 rfl ?_
 refine Z0<|Z2<|Zd (Zq fun b1 u1=>Z1<|Z0<|oH h fun y1 f1 h=>Z2<|Zd (Z05 rfl (fun w hw=>Zkc  f1 (hG.at hw (by simp))) fun v5 o1 R1=>?_))
 obtain ⟨b2,T8,rfl,rfl⟩:=R1
 refine Z6 rfl<|Z1<|Z0<|oH h fun y2 f2 h=>Z2<|Z6 rfl<|Z6 rfl<|Zd (Z78 (mS:=[_]) rfl (Z41.perm .here) (fun w hw=>Z7u  f2 (Zav hw (mS:=[_]) (Z41.perm .here)) (hG.at hw (by simp)) (hG.ap (by simp) .here hw) ⟨(Z2k A0 Z2y) w hw,(Zn8 (E:=(El.int .u8)) A0 .here hw)⟩) fun v11 o2 R2=>?_)
 obtain ⟨rfl,rfl⟩:=R2
 refine Z1<|Z0<|oH h fun y3 f3 h=>Z2<|Z6 rfl<|Zd (Z78 (mS:=[_]) rfl (Z41.perm .here) (fun w hw=>Zdb  f3 (Zav hw (mS:=[_]) (Z41.perm .here)) (hG.at hw (by simp)) (hG.ap (by simp) .here hw)) fun v15 o3 R3=>?_)
 obtain ⟨rfl,rfl⟩:=R3
 refine Zd (Zp (q:=[b6' y3.1]) rfl rfl rfl rfl rfl .t1<|Z1<|Zj ?_)
 revert h; refine Zv fun h=>?_
 subst h
 exact ⟨_,(.cons (.agg rfl .t1 rfl) .nil),rfl⟩
def Z9k (p0:LI):OL :=
 bnd (p0.getD 0 0) fun z1 =>
 bnd (Za .andNot .u8 z1 7) fun z2 =>
 bnd (Z28 p0 0 z2) fun l1 =>
 bnd (l1.getD 31 0) fun z3 =>
 bnd (Za .and .u8 z3 127) fun z4 =>
 bnd (Za .or .u8 z4 64) fun z5 =>
 bnd (Z28 l1 31 z5) fun l2 =>
 some l2
theorem Zhk {W:World} {r:(LI)} {p0:LI} (h:Z9k p0=some r)  :
    Calls Tryz.prog 89 [agg [b3' p0]].toArray W (Z34 W (agg [b3' r])):=by
 unfold Z9k at h
 refine Zc mo ok89 rfl ?_
 refine Z0<|Z2<|Zd (Z0l (s:=[b3' p0]) rfl fun b1 u1=>Zd (Zq fun b2 u2=>Z1<|Z0<|bH h fun z1 e1 h=>bH h fun z2 e2 h=>bH h fun l1 g1 h=>Z2<|Z4 _ (Z0i rfl rfl (by decide))<|Z4 _ (iz e1 (Z0c rfl .t1 rfl))<|Z4 _ (iz e2 (Z8 rfl rfl rfl))<|Z4 _ (Z0i rfl rfl (by decide))<|Zd (Z5e (q:=[b3' l1]) (congrArg (fun z=>([b3' z]:List Seg)) g1.symm) rfl rfl rfl rfl .t1<|Z1<|Z0<|bH h fun z3 e3 h=>bH h fun z4 e4 h=>bH h fun z5 e5 h=>bH h fun l2 g2 h=>Z2<|Z4 _ (Z0i rfl rfl (by decide))<|Z4 _ (iz e3 (Z0c rfl .t1 rfl))<|Z4 _ (iz e4 (Z8 rfl rfl rfl))<|Z4 _ (iz e5 (Z8 rfl rfl rfl))<|Z4 _ (Z0i rfl rfl (by decide))<|Zd (Z5e (q:=[b3' l2]) (congrArg (fun z=>([b3' z]:List Seg)) g2.symm) rfl rfl rfl rfl .t1<|Z1<|Z0<|Z2<|Z4 _ (Z02 (p:=[b3' l2]) rfl .t1 rfl)<|Zd (Zp (q:=[b3' l2]) rfl rfl rfl rfl rfl .here<|Z1<|Zj ?_)))))
 revert h; refine Zv fun h=>?_
 subst h
 exact ⟨_,(.cons (.agg rfl .here rfl) .nil),rfl⟩
def Zay (p0:LI):Option ((LI)×(LI)) :=
 opt (Zc8 (tk p0 0 32)) fun y1 =>
 chk (decide (32<=(tk y1 0 32).length)) <|
 bnd (tk (tk y1 0 32) 0 32) fun z1 =>
 opt (Z9k z1) fun y2 =>
 some (y2,(tk y1 32 (64-32)))
theorem Zie {W:World} {r:(LI)×(LI)} {p0:LI} (h:Zay p0=some r) (hG:Globs W) :
    Calls Tryz.prog 49 [agg [b3' p0]].toArray W (Zd9 W [] (fun v Ms=>∃ (u1:Value) (M1:List Zf),v = .tuple #[agg [b3' r.1],u1]/\Ms = [.all M1]/\Z03 (El.int .u8) u1 M1 r.2)):=by
 unfold Zay at h
 refine Z0e mo ok49 rfl (Zgt _) ?_
 refine Z0<|Z2<|Zd (Z0l (s:=[b3' p0]) rfl fun b1 hb1=>Zd (Zq fun b2 hb2=>Z6 rfl<|Z1<|Z0<|oH h fun y1 f1 h=>Z2<|Z4 _ (Zf3 rfl .no .no .no (by simp) (by decide))<|Z4 _ (Z1a rfl (fun w hw=>Zke f1 (hG.at hw (by simp)) ((Z6u (s:=[b3' p0]) (N:=32) (k:=.u8) (base:=0) (lo:=0) (hi:=32) (mz:=32) .t1 rfl (by decide)) w hw)))<|Zd (Zq fun b3 hb3=>Zd (Zp (q:=[b6' y1]) rfl rfl rfl rfl rfl .here<|Z1<|Z0<|cH h fun c1 h=>bH h fun z1 e1 h=>oH h fun y2 f2 h=>Zt<|Z7 _ (Zf3 rfl .no (.yes rfl) .no (by simp) (by decide))<|Z7 _ (Z0b1 rfl (Shp.blk (lo:=0) (hi:=32) (mz:=64) (by decide) (by simp [Z1j])) (by decide) c1)<|Z7 _ (Zf3 rfl (.yes rfl) .no .no (by simp) (by decide))<|Zo _ (az (fun z=>agg [.ints .u8 32 z]) e1 (Z0m4 rfl (Z6u (s:=[b6' y1]) (N:=64) (k:=.u8) (base:=0) (lo:=0) (hi:=32) (mz:=64) .here rfl (by decide)) (by decide) c1))<|Z7 _ (Z0h rfl (Zhk f2))<|Z1i rfl (Zp (q:=[b3' y2]) rfl rfl rfl rfl rfl .t1<|Z7 _ (Z0j rfl)<|Z04<|Zj ?_)))))
 revert h; refine Zv fun h=>?_
 subst h
 exact ⟨_,_,(.cons (.agg rfl .t1 rfl) (.cons (.tmp rfl) .nil)),(.o .nil),⟨_,rfl,⟨(.slice (some (Z54 b3 0 32 64 1)) (64-32) (64-32)),[ck b3 94 [b6' y1]],rfl,rfl,(Zjh (s:=[b6' y1]) (N:=64) (k:=.u8) (base:=0) (lo:=32) (hi:=64) (mz:=64) rfl (by decide))⟩⟩⟩
def Z4k (p0:LI):OL :=
 bnd (p0.getD 0 0) fun z1 =>
 bnd (Za .and .u64 z1 2251799813685247) fun z2 =>
 bnd (p0.getD 4 0) fun z3 =>
 bnd (Z0f .u64 z3 51) fun z4 =>
 bnd (wrap .u64 (z4*19)) fun z5 =>
 bnd (wrap .u64 (z2+z5)) fun z6 =>
 bnd (p0.getD 1 0) fun z7 =>
 bnd (Za .and .u64 z7 2251799813685247) fun z8 =>
 bnd (p0.getD 0 0) fun z9 =>
 bnd (Z0f .u64 z9 51) fun z10 =>
 bnd (wrap .u64 (z8+z10)) fun z11 =>
 bnd (p0.getD 2 0) fun z12 =>
 bnd (Za .and .u64 z12 2251799813685247) fun z13 =>
 bnd (p0.getD 1 0) fun z14 =>
 bnd (Z0f .u64 z14 51) fun z15 =>
 bnd (wrap .u64 (z13+z15)) fun z16 =>
 bnd (p0.getD 3 0) fun z17 =>
 bnd (Za .and .u64 z17 2251799813685247) fun z18 =>
 bnd (p0.getD 2 0) fun z19 =>
 bnd (Z0f .u64 z19 51) fun z20 =>
 bnd (wrap .u64 (z18+z20)) fun z21 =>
 bnd (p0.getD 4 0) fun z22 =>
 bnd (Za .and .u64 z22 2251799813685247) fun z23 =>
 bnd (p0.getD 3 0) fun z24 =>
 bnd (Z0f .u64 z24 51) fun z25 =>
 bnd (wrap .u64 (z23+z25)) fun z26 =>
 bnd (([z6,z11,z16,z21,z26]:LI)) fun z27 =>
 some z27
theorem Z4a {W:World} {r:(LI)} {p0:LI} (h:Z4k p0=some r)  :
    Calls Tryz.prog 156 [agg [u5' p0]].toArray W (Z34 W (agg [u5' r])):=by
 unfold Z4k at h
 refine Zc mo Z0ju rfl ?_
 refine Z0<|Z2<|Zd (Z0l (s:=[u5' p0]) rfl fun b1 u1=>Zd (Zq fun b2 u2=>Z1<|Z0<|bH h fun z1 e1 h=>bH h fun z2 e2 h=>bH h fun z3 e3 h=>bH h fun z4 e4 h=>bH h fun z5 e5 h=>bH h fun z6 e6 h=>bH h fun z7 e7 h=>bH h fun z8 e8 h=>bH h fun z9 e9 h=>bH h fun z10 e10 h=>bH h fun z11 e11 h=>bH h fun z12 e12 h=>bH h fun z13 e13 h=>bH h fun z14 e14 h=>bH h fun z15 e15 h=>bH h fun z16 e16 h=>bH h fun z17 e17 h=>bH h fun z18 e18 h=>bH h fun z19 e19 h=>bH h fun z20 e20 h=>bH h fun z21 e21 h=>bH h fun z22 e22 h=>bH h fun z23 e23 h=>bH h fun z24 e24 h=>bH h fun z25 e25 h=>bH h fun z26 e26 h=>bH h fun z27 e27 h=>Z2<|Z4 _ (Z0i rfl rfl (by decide))<|Z4 _ (iz e1 (Z0c rfl .t1 rfl))<|Z4 _ (iz e2 (Z8 rfl rfl rfl))<|Z4 _ (Z0i rfl rfl (by decide))<|Z4 _ (iz e3 (Z0c rfl .t1 rfl))<|Z4 _ (iz e4 (Z48 rfl rfl (by decide)))<|Z4 _ (iz e5 (Z8 rfl rfl rfl))<|Z4 _ (iz e6 (Z8 rfl rfl rfl))<|Z4 _ (Z0i rfl rfl (by decide))<|Z4 _ (iz e7 (Z0c rfl .t1 rfl))<|Z4 _ (iz e8 (Z8 rfl rfl rfl))<|Z4 _ (Z0i rfl rfl (by decide))<|Z4 _ (iz e9 (Z0c rfl .t1 rfl))<|Z4 _ (iz e10 (Z48 rfl rfl (by decide)))<|Z4 _ (iz e11 (Z8 rfl rfl rfl))<|Z4 _ (Z0i rfl rfl (by decide))<|Z4 _ (iz e12 (Z0c rfl .t1 rfl))<|Z4 _ (iz e13 (Z8 rfl rfl rfl))<|Z4 _ (Z0i rfl rfl (by decide))<|Z4 _ (iz e14 (Z0c rfl .t1 rfl))<|Z4 _ (iz e15 (Z48 rfl rfl (by decide)))<|Z4 _ (iz e16 (Z8 rfl rfl rfl))<|Z4 _ (Z0i rfl rfl (by decide))<|Z4 _ (iz e17 (Z0c rfl .t1 rfl))<|Z4 _ (iz e18 (Z8 rfl rfl rfl))<|Z4 _ (Z0i rfl rfl (by decide))<|Z4 _ (iz e19 (Z0c rfl .t1 rfl))<|Z4 _ (iz e20 (Z48 rfl rfl (by decide)))<|Z4 _ (iz e21 (Z8 rfl rfl rfl))<|Z4 _ (Z0i rfl rfl (by decide))<|Z4 _ (iz e22 (Z0c rfl .t1 rfl))<|Z4 _ (iz e23 (Z8 rfl rfl rfl))<|Z4 _ (Z0i rfl rfl (by decide))<|Z4 _ (iz e24 (Z0c rfl .t1 rfl))<|Z4 _ (iz e25 (Z48 rfl rfl (by decide)))<|Z4 _ (iz e26 (Z8 rfl rfl rfl))<|Z4 _ (az (fun z=>agg [.ints .u64 5 z]) e27 (Zd2 (.one rfl rfl rfl (.one rfl rfl rfl (.one rfl rfl rfl (.one rfl rfl rfl (.one rfl rfl rfl BdR.nil)))))))<|Zd (Zp (q:=[u5' z27]) rfl rfl rfl rfl rfl .here<|Z1<|Zj ?_)))
 revert h; refine Zv fun h=>?_
 subst h
 exact ⟨_,(.cons (.agg rfl .here rfl) .nil),rfl⟩
def Zac (y1:(LI)) (k1:Int->OL) (k2:Int->Int->OL) (i1:Int) (i2:Int):OL :=
 br ((decide (i2<4))) (
 chk (inB i2 (tk y1 1 (5-1)).length) <|
 bnd ((tk y1 1 (5-1)).getD (i2).toNat 0) fun z1 =>
 bnd (wrap .u64 (z1+i1)) fun z2 =>
 bnd (Z0f .u64 z2 51) fun z3 =>
 bnd (wrap .i64 (i2+1)) fun z4 =>
 k2 z3 z4
 ) (
 k1 i1
 )
def Z4y (y1:(LI)) (k1:Int->OL):Nat->Int->Int->OL
  | 0,_,_=>none
  | n+1,i1,i2=>Zac y1 k1 (Z4y y1 k1 n) i1 i2
def Zad (k1:(LI)->OL) (k2:Int->(LI)->OL) (i1:Int) (a1:LI):OL :=
 br ((decide (i1<4))) (
 bnd (wrap .i64 (i1+1)) fun z1 =>
 chk (inB z1 5) <|
 chk (inB i1 5) <|
 bnd (a1.getD (z1).toNat 0) fun z2 =>
 bnd (a1.getD (i1).toNat 0) fun z3 =>
 bnd (Z0f .u64 z3 51) fun z4 =>
 bnd (wrap .u64 (z2+z4)) fun z5 =>
 chk (inB z1 5) <|
 bnd (Z28 a1 (z1).toNat z5) fun l1 =>
 chk (inB i1 5) <|
 bnd (l1.getD (i1).toNat 0) fun z6 =>
 bnd (Za .and .u64 z6 2251799813685247) fun z7 =>
 chk (inB i1 5) <|
 bnd (Z28 l1 (i1).toNat z7) fun l2 =>
 bnd (wrap .i64 (i1+1)) fun z8 =>
 k2 z8 l2
 ) (
 k1 a1
 )
def Z4z (k1:(LI)->OL):Nat->Int->(LI)->OL
  | 0,_,_=>none
  | n+1,i1,a1=>Zad k1 (Z4z k1 n) i1 a1
def Z2i (p0:LI):OL :=
 opt (Z4k p0) fun y1 =>
 opt (Z4k y1) fun y2 =>
 bnd (y2.getD 0 0) fun z1 =>
 bnd (wrap .u64 (z1+19)) fun z2 =>
 bnd (Z0f .u64 z2 51) fun z3 =>
 jn (fun (i1:Int)=>bnd (y2.getD 0 0) fun z4 =>
 bnd (wrap .u64 (19*i1)) fun z5 =>
 bnd (wrap .u64 (z4+z5)) fun z6 =>
 bnd (Z28 y2 0 z6) fun l1 =>
 jn (fun (a1:LI)=>bnd (a1.getD 4 0) fun z7 =>
 bnd (Za .and .u64 z7 2251799813685247) fun z8 =>
 bnd (Z28 a1 4 z8) fun l2 =>
 some l2) fun k1=>Z4z k1 big 0 l1) fun k2=>Z4y y2 k2 big z3 0
theorem Z2j {W:World} {r:(LI)} {p0:LI} (h:Z2i p0=some r)  :
    Calls Tryz.prog 155 [agg [u5' p0]].toArray W (Z34 W (agg [u5' r])):=by
 unfold Z2i at h
 refine Zc mo Z0jt rfl ?_
 refine Z0<|Z2<|Zd (Z0l (s:=[u5' p0]) rfl fun b1 u1=>Zd (Zq fun b2 u2=>Z1<|Z0<|oH h fun y1 f1 h=>oH h fun y2 f2 h=>Z2<|Z4 _ (Z02 (p:=[u5' p0]) rfl .t1 rfl)<|Z4 _ (Z0h rfl (Z4a f1))<|Z4 _ (Z0h rfl (Z4a f2))<|Zd (Zp (q:=[u5' y2]) rfl rfl rfl rfl rfl .t1<|Z1<|Z0<|bH h fun z1 e1 h=>bH h fun z2 e2 h=>bH h fun z3 e3 h=>Z2<|Z4 _ (Z0i rfl rfl (by decide))<|Z4 _ (iz e1 (Z0c rfl .t1 rfl))<|Z4 _ (iz e2 (Z8 rfl rfl rfl))<|Z4 _ (iz e3 (Z48 rfl rfl (by decide)))<|Z6 rfl<|Z1<|Z0<|Z0<|Z2<|Z4 _ (Zf3 rfl (.yes rfl) .no .no (by simp) (by decide))<|Z4 _ (Zyb rfl)<|Z6 rfl<|Z1<|jH h fun k1 q1 h=>Zg (G:=fun t m=>∃ (i1:Int),k1 i1=some r/\Fit [(1,pt' b1),(2,pt' b2),(3,.int .u64 (i1))] (ck b2 80 [u5' (replicate 5 0)]::(ck b1 80 [u5' y2] :: [])) t m) ?_ ?_)))
 ·refine Z9<|Zm (fun n1 t m=>∃ (i2:Int) (i3:Int),Z4y y2 k1 n1 i2 i3=some r/\Fit [(1,pt' b1),(2,pt' b2),(3,.int .u64 (i2)),(14,(.slice (some (Z54 b1 0 1 5 1)) (5-1) (5-1))),(15,.int .i64 4),(16,.int .i64 (i3))] (ck b2 80 [u5' (replicate 5 0)]::(ck b1 80 [u5' y2] :: [])) t m) big ?_ ?_
  ·exact ⟨z3,0,h,⟨⟨rfl,rfl,rfl,rfl,rfl,rfl,trivial⟩,(.o (.o .nil))⟩⟩
  ·rintro n1 t m ⟨i2,i3,h,hF⟩
   refine Ze hF ?_
   clear hF
   rcases n1 with _ | n1
   · exact Z07 h
   have h:Zac y2 k1 (Z4y y2 k1 n1) i2 i3=some r:=h
   unfold Zac at h
   obtain ⟨k2,q2⟩ : ∃ k,k=Z4y y2 k1 n1:=⟨_,rfl⟩
   try rw [<- q2] at h
   refine Z0<|Z2<|Z4 _ (Z8 rfl rfl rfl)<|Z1<|Z0<|Z09 h rfl (fun h=>?_) (fun h=>?_)
   ·refine Zh<|Z0<|Z9<|Z0<|cH h fun c1 h=>bH h fun z4 e4 h=>Z2<|Z4 _ (Z5p rfl rfl (Shp.blk (lo:=1) (hi:=5) (mz:=5) (by decide) (by simp [Z1j])) c1)<|Z4 _ (iz e4 (Z6k (E:=(El.int .u64)) (s:=[.one (.int .u64 ((tk y2 1 (5-1)).getD (i3).toNat 0))]) rfl (Z6u (s:=[u5' y2]) (N:=5) (k:=.u64) (base:=0) (lo:=1) (hi:=5) (mz:=5) .t1 rfl (by decide)) (Z01 c1) rfl rfl))<|Z6 rfl<|Z1<|bH h fun z5 e5 h=>bH h fun z6 e6 h=>Z2<|Z6 rfl<|Z6 rfl<|Z4 _ (iz e5 (Z8 rfl rfl rfl))<|Z4 _ (iz e6 (Z48 rfl rfl (by decide)))<|Z6 rfl<|Z1<|bH h fun z7 e7 h=>Z2<|Z4 _ (iz e7 (Z8 rfl rfl rfl))<|Z6 rfl<|Z1 ?_
    rw [q2] at h
    exact ⟨n1,Nat.lt_succ_self _,z6,z7,h,⟨⟨rfl,rfl,rfl,rfl,rfl,rfl,trivial⟩,(.o (.o .nil))⟩⟩
   ·exact Zs _ rfl<|⟨i2,h,⟨⟨rfl,rfl,rfl,trivial⟩,(.o (.o .nil))⟩⟩
 ·rintro t m ⟨i1,h,hF⟩
  refine Ze hF ?_
  clear hF
  subst q1
  refine Z0<|bH h fun z8 e8 h=>bH h fun z9 e9 h=>bH h fun z10 e10 h=>bH h fun l1 g1 h=>Z2<|Z4 _ (Z0i rfl rfl (by decide))<|Z4 _ (iz e8 (Z0c rfl .t1 rfl))<|Z6 rfl<|Z4 _ (iz e9 (Z8 rfl rfl rfl))<|Z4 _ (iz e10 (Z8 rfl rfl rfl))<|Z4 _ (Z0i rfl rfl (by decide))<|Zd (Z5e (q:=[u5' l1]) (congrArg (fun z=>([u5' z]:List Seg)) g1.symm) rfl rfl rfl rfl .t1<|Z1<|Z0<|Z0<|Z2<|Z6 rfl<|Z1<|jH h fun k3 q3 h=>Zg (G:=fun t m=>∃ (a1:LI),k3 a1=some r/\Fit [(1,pt' b1),(2,pt' b2)] (ck b2 80 [u5' (replicate 5 0)]::(ck b1 80 [u5' a1] :: [])) t m) ?_ ?_)
  ·refine Z9<|Zm (fun n2 t m=>∃ (i4:Int) (a2:LI),Z4z k3 n2 i4 a2=some r/\Fit [(1,pt' b1),(2,pt' b2),(31,.int .i64 (i4))] (ck b2 80 [u5' (replicate 5 0)]::(ck b1 80 [u5' a2] :: [])) t m) big ?_ ?_
   ·exact ⟨0,l1,h,⟨⟨rfl,rfl,rfl,trivial⟩,(.o (.o .nil))⟩⟩
   ·rintro n2 t m ⟨i4,a2,h,hF⟩
    refine Ze hF ?_
    clear hF
    rcases n2 with _ | n2
    · exact Z07 h
    have h:Zad k3 (Z4z k3 n2) i4 a2=some r:=h
    unfold Zad at h
    obtain ⟨k4,q4⟩ : ∃ k,k=Z4z k3 n2:=⟨_,rfl⟩
    try rw [<- q4] at h
    refine Z0<|Z2<|Z4 _ (Z8 rfl rfl rfl)<|Z1<|Z0<|Z09 h rfl (fun h=>?_) (fun h=>?_)
    ·refine Zh<|Z0<|Z9<|Z0<|Z2<|Z6 rfl<|Z6 rfl<|Z1<|Z0<|bH h fun z11 e11 h=>cH h fun c2 h=>cH h fun c3 h=>bH h fun z12 e12 h=>bH h fun z13 e13 h=>bH h fun z14 e14 h=>bH h fun z15 e15 h=>cH h fun c4 h=>bH h fun l2 g2 h=>Zt<|Z7 _ (Z0j rfl)<|Z7 _ (iz e11 (Z8 rfl rfl rfl))<|Z7 _ (Z0i rfl rfl (Z08 c2))<|Z7 _ (Z0j rfl)<|Z7 _ (Z0i rfl rfl (Z08 c3))<|Zo _ (iz e12 (Z1w (base:=0) rfl .t1 rfl (Z01 c2)))<|Zo _ (iz e13 (Z1w (base:=0) rfl .t1 rfl (Z01 c3)))<|Z7 _ (iz e14 (Z48 rfl rfl (by decide)))<|Z7 _ (iz e15 (Z8 rfl rfl rfl))<|Z7 _ (Z0i rfl rfl (Z08 c4))<|Z1i rfl (Z1h (q:=[u5' l2]) (base:=0) g2 rfl rfl rfl (Z01 c4) rfl .t1<|Z04<|cH h fun c5 h=>bH h fun z16 e16 h=>bH h fun z17 e17 h=>cH h fun c6 h=>bH h fun l3 g3 h=>Z2<|Z6 rfl<|Z4 _ (Z0i rfl rfl (Z08 c5))<|Z4 _ (iz e16 (Z1w (base:=0) rfl .t1 rfl (Z01 c5)))<|Z4 _ (iz e17 (Z8 rfl rfl rfl))<|Z4 _ (Z0i rfl rfl (Z08 c6))<|Zd (Z1h (q:=[u5' l3]) (base:=0) g3 rfl rfl rfl (Z01 c6) rfl .t1<|Z1<|bH h fun z18 e18 h=>Z2<|Z4 _ (iz e18 (Z8 rfl rfl rfl))<|Z6 rfl<|Z1 ?_))
     rw [q4] at h
     exact ⟨n2,Nat.lt_succ_self _,z18,l3,h,⟨⟨rfl,rfl,rfl,trivial⟩,(.o (.o .nil))⟩⟩
    ·exact Zs _ rfl<|⟨a2,h,⟨⟨rfl,rfl,trivial⟩,(.o (.o .nil))⟩⟩
  ·rintro t m ⟨a1,h,hF⟩
   refine Ze hF ?_
   clear hF
   subst q3
   refine Z0<|bH h fun z19 e19 h=>bH h fun z20 e20 h=>bH h fun l4 g4 h=>Z2<|Z4 _ (Z0i rfl rfl (by decide))<|Z4 _ (iz e19 (Z0c rfl .t1 rfl))<|Z4 _ (iz e20 (Z8 rfl rfl rfl))<|Z4 _ (Z0i rfl rfl (by decide))<|Zd (Z5e (q:=[u5' l4]) (congrArg (fun z=>([u5' z]:List Seg)) g4.symm) rfl rfl rfl rfl .t1<|Z1<|Z0<|Z2<|Z4 _ (Z02 (p:=[u5' l4]) rfl .t1 rfl)<|Zd (Zp (q:=[u5' l4]) rfl rfl rfl rfl rfl .here<|Z1<|Zj ?_))
   revert h; refine Zv fun h=>?_
   subst h
   exact ⟨_,(.cons (.agg rfl .here rfl) .nil),rfl⟩
def Z68 (p0:Int) (p1:Int):Option (Int×Int) :=
 bnd (Za .and .u64 p0 4294967295) fun z1 =>
 bnd (Z0f .u64 p0 32) fun z2 =>
 bnd (Za .and .u64 p1 4294967295) fun z3 =>
 bnd (Z0f .u64 p1 32) fun z4 =>
 bnd (wrap .u64 (z1*z3)) fun z5 =>
 bnd (wrap .u64 (z2*z3)) fun z6 =>
 bnd (Z0f .u64 z5 32) fun z7 =>
 bnd (wrap .u64 (z6+z7)) fun z8 =>
 bnd (Za .and .u64 z8 4294967295) fun z9 =>
 bnd (Z0f .u64 z8 32) fun z10 =>
 bnd (wrap .u64 (z1*z4)) fun z11 =>
 bnd (wrap .u64 (z9+z11)) fun z12 =>
 bnd (wrap .u64 (z2*z4)) fun z13 =>
 bnd (wrap .u64 (z13+z10)) fun z14 =>
 bnd (Z0f .u64 z12 32) fun z15 =>
 bnd (wrap .u64 (z14+z15)) fun z16 =>
 bnd (wrap .u64 (p0*p1)) fun z17 =>
 some (z16,z17)
theorem Zf1 {W:World} {r:Int×Int} {p0:Int} {p1:Int} (h:Z68 p0 p1=some r)  :
    Calls Tryz.prog 200 [.int .u64 (p0),.int .u64 (p1)].toArray W (Z34 W (.tuple #[.int .u64 (r.1),.int .u64 (r.2)])):=by
 unfold Z68 at h
 refine Zc mo Z0km rfl ?_
 refine Z0<|Z2<|Z6 rfl<|Z6 rfl<|Z1<|Z0<|bH h fun z1 e1 h=>Z2<|Z6 rfl<|Z4 _ (iz e1 (Z8 rfl rfl rfl))<|Z6 rfl<|Z1<|Z0<|bH h fun z2 e2 h=>Z2<|Z6 rfl<|Z4 _ (iz e2 (Z48 rfl rfl (by decide)))<|Z6 rfl<|Z1<|Z0<|bH h fun z3 e3 h=>Z2<|Z6 rfl<|Z4 _ (iz e3 (Z8 rfl rfl rfl))<|Z6 rfl<|Z1<|Z0<|bH h fun z4 e4 h=>Z2<|Z6 rfl<|Z4 _ (iz e4 (Z48 rfl rfl (by decide)))<|Z6 rfl<|Z1<|Z0<|bH h fun z5 e5 h=>Z2<|Z6 rfl<|Z6 rfl<|Z4 _ (iz e5 (Z8 rfl rfl rfl))<|Z6 rfl<|Z1<|Z0<|bH h fun z6 e6 h=>bH h fun z7 e7 h=>bH h fun z8 e8 h=>Z2<|Z6 rfl<|Z6 rfl<|Z4 _ (iz e6 (Z8 rfl rfl rfl))<|Z6 rfl<|Z4 _ (iz e7 (Z48 rfl rfl (by decide)))<|Z4 _ (iz e8 (Z8 rfl rfl rfl))<|Z6 rfl<|Z1<|Z0<|bH h fun z9 e9 h=>Z2<|Z6 rfl<|Z4 _ (iz e9 (Z8 rfl rfl rfl))<|Z6 rfl<|Z1<|Z0<|bH h fun z10 e10 h=>Z2<|Z6 rfl<|Z4 _ (iz e10 (Z48 rfl rfl (by decide)))<|Z6 rfl<|Z1<|Z0<|bH h fun z11 e11 h=>bH h fun z12 e12 h=>Z2<|Z6 rfl<|Z6 rfl<|Z6 rfl<|Z4 _ (iz e11 (Z8 rfl rfl rfl))<|Z4 _ (iz e12 (Z8 rfl rfl rfl))<|Z6 rfl<|Z1<|Z0<|bH h fun z13 e13 h=>bH h fun z14 e14 h=>bH h fun z15 e15 h=>bH h fun z16 e16 h=>Z2<|Z6 rfl<|Z6 rfl<|Z4 _ (iz e13 (Z8 rfl rfl rfl))<|Z6 rfl<|Z4 _ (iz e14 (Z8 rfl rfl rfl))<|Z6 rfl<|Z4 _ (iz e15 (Z48 rfl rfl (by decide)))<|Z4 _ (iz e16 (Z8 rfl rfl rfl))<|Z6 rfl<|Z1<|Z0<|bH h fun z17 e17 h=>Z2<|Z6 rfl<|Z6 rfl<|Z4 _ (iz e17 (Z8 rfl rfl rfl))<|Z6 rfl<|Z1<|Zj ?_
 revert h; refine Zv fun h=>?_
 subst h
 exact ⟨_,(.cons (.tmp rfl) (.cons (.tmp rfl) .nil)),rfl⟩
def Z2o (p0:LI) (o:Nat) (L:Nat) (p1:Int) (p2:Int):OL :=
 opt (Z68 p1 p2) fun y1 =>
 chk (decide (o+1<L)) <|
 bnd (p0.getD (o+1) 0) fun z1 =>
 chk (Ziv z1 y1.2 0) <|
 bnd (Zp4 z1 y1.2 0) fun z2 =>
 bnd (Zp3 z1 y1.2 0) fun z3 =>
 chk (decide (o+1<L)) <|
 bnd (Z28 p0 (o+1) z2) fun l1 =>
 chk (decide (o+0<L)) <|
 bnd (l1.getD (o+0) 0) fun z4 =>
 chk (Ziv z4 y1.1 z3) <|
 bnd (Zp4 z4 y1.1 z3) fun z5 =>
 bnd (Zp3 z4 y1.1 z3) fun z6 =>
 chk (decide (o+0<L)) <|
 bnd (Z28 l1 (o+0) z5) fun l2 =>
 some l2
theorem Z7a {W:World} {r:(LI)} {p0:LI} {o:Nat} {L:Nat} {p1:Int} {p2:Int} {b:Nat} {T:TypeId} (h:Z2o p0 o L p1 p2=some r) (h0:Sat W [b] (ck b T [.ints .u64 L (p0)] :: []) W) :
    Calls Tryz.prog 157 [.pointer (some ⟨b,o,none⟩),.int .u64 (p1),.int .u64 (p2)].toArray W (Zd9 W [b] (fun v Ms=>v = .tuple #[]/\Ms = [.one (ck b T [.ints .u64 L (r)])])):=by
 unfold Z2o at h
 refine Z0e mo Z0jv rfl h0 ?_
 refine Z0<|oH h fun y1 f1 h=>Z2<|Z6 rfl<|Z6 rfl<|Z4 _ (Z0h rfl (Zf1 f1))<|Z6 rfl<|Z4 _ (Z40 rfl rfl)<|Z4 _ (Z40 rfl rfl)<|Z6 rfl<|Z6 rfl<|Z1<|Z0<|Z2<|Z6 rfl<|Z1<|Z0<|cH h fun c1 h=>bH h fun z1 e1 h=>cH h fun c2 h=>bH h fun z2 e2 h=>bH h fun z3 e3 h=>cH h fun c3 h=>bH h fun l1 g1 h=>Z2<|Z6 rfl<|Z6 rfl<|Z4 _ (Z4q rfl)<|Z4 _ (Z2l rfl)<|Z4 _ (Zzx (base:=0) (i:=o+1) e1 rfl .here rfl (by omega) c1)<|Z6 rfl<|Z4 _ (Zmt rfl Zm9 (xadd e2 e3 c2))<|Z6 rfl<|Z4 _ (Z40 rfl rfl)<|Z4 _ (Z40 rfl rfl)<|Z4 _ (Z4q rfl)<|Z4 _ (Z2l rfl)<|Zd (Ztx (base:=0) (i:=o+1) (q:=[.ints .u64 L l1]) g1 rfl rfl rfl (by omega) c3 (by simp [Zd3,Seg.width]) .here<|Z6 rfl<|Z1<|cH h fun c4 h=>bH h fun z4 e4 h=>cH h fun c5 h=>bH h fun z5 e5 h=>bH h fun z6 e6 h=>cH h fun c6 h=>bH h fun l2 g2 h=>Z2<|Z6 rfl<|Z6 rfl<|Z4 _ (Z4q rfl)<|Z4 _ (Z2l rfl)<|Z4 _ (Zzx (base:=0) (i:=o+0) e4 rfl .here rfl (by omega) c4)<|Z6 rfl<|Z6 rfl<|Z4 _ (Zmt rfl Zm9 (xadd e5 e6 c5))<|Z6 rfl<|Z4 _ (Z40 rfl rfl)<|Z4 _ (Z40 rfl rfl)<|Z4 _ (Z4q rfl)<|Z4 _ (Z2l rfl)<|Zd (Ztx (base:=0) (i:=o+0) (q:=[.ints .u64 L l2]) g2 rfl rfl rfl (by omega) c6 (by simp [Zd3,Seg.width]) .here<|Z1 ?_))
 revert h; refine Zv fun h=>?_
 subst h
 exact ⟨_,_,.nil,(.o .nil),⟨_,rfl,⟨rfl,rfl⟩⟩⟩
def Z65 (y1:(LI)) (i1:Int) (z1:Int) (k1:(LI)->OL) (k2:Int->(LI)->OL) (i2:Int) (a1:LI):OL :=
 br ((decide (i2<5))) (
 jn (fun (a2:LI)=>bnd (wrap .i64 (i2+1)) fun z2 =>
 k2 z2 a2) fun k3=>chk (inB i2 5) <|
 bnd (y1.getD (i2).toNat 0) fun z3 =>
 bnd (wrap .i64 (i1+i2)) fun z4 =>
 br ((decide (z4<5))) (
 bnd (wrap .i64 (i1+i2)) fun z5 =>
 chk (inB z5 5) <|
 opt (Z2o a1 (0+(z5).toNat*2) 10 z1 z3) fun y2 =>
 k3 y2
 ) (
 bnd (wrap .i64 (i1+i2)) fun z6 =>
 bnd (wrap .i64 (z6-5)) fun z7 =>
 chk (inB z7 5) <|
 bnd (wrap .u64 (19*z3)) fun z8 =>
 opt (Z2o a1 (0+(z7).toNat*2) 10 z1 z8) fun y3 =>
 k3 y3
 )
 ) (
 k1 a1
 )
def Z5a (y1:(LI)) (i1:Int) (z1:Int) (k1:(LI)->OL):Nat->Int->(LI)->OL
  | 0,_,_=>none
  | n+1,i2,a1=>Z65 y1 i1 z1 k1 (Z5a y1 i1 z1 k1 n) i2 a1
def Z91 (y1:(LI)) (y2:(LI)) (k1:(LI)->OL) (k2:Int->(LI)->OL) (i1:Int) (a1:LI):OL :=
 br ((decide (i1<5))) (
 chk (inB i1 5) <|
 bnd (y1.getD (i1).toNat 0) fun z1 =>
 jn (fun (a2:LI)=>bnd (wrap .i64 (i1+1)) fun z2 =>
 k2 z2 a2) fun k3=>Z5a y2 i1 z1 k3 big 0 a1
 ) (
 k1 a1
 )
def Z3c (y1:(LI)) (y2:(LI)) (k1:(LI)->OL):Nat->Int->(LI)->OL
  | 0,_,_=>none
  | n+1,i1,a1=>Z91 y1 y2 k1 (Z3c y1 y2 k1 n) i1 a1
def Z7n (a1:LI) (k1:Int->(LI)->OL) (k2:Int->Int->(LI)->OL) (i1:Int) (i2:Int) (a2:LI):OL :=
 br ((decide (i2<5))) (
 chk (inB i2 5) <|
 bnd (tk a1 ((i2).toNat*2) 2) fun l1 =>
 bnd (l1.getD 1 0) fun z1 =>
 chk (Ziv z1 i1 0) <|
 bnd (Zp4 z1 i1 0) fun z2 =>
 bnd (Zp3 z1 i1 0) fun z3 =>
 bnd (Za .and .u64 z2 2251799813685247) fun z4 =>
 chk (inB i2 5) <|
 bnd (Z28 a2 (i2).toNat z4) fun l2 =>
 bnd (l1.getD 0 0) fun z5 =>
 bnd (wrap .u64 (z5+z3)) fun z6 =>
 bnd (Z1v .u64 z6 13) fun z7 =>
 bnd (Z0f .u64 z2 51) fun z8 =>
 bnd (Za .or .u64 z7 z8) fun z9 =>
 bnd (wrap .i64 (i2+1)) fun z10 =>
 k2 z9 z10 l2
 ) (
 k1 i1 a2
 )
def Z3t (a1:LI) (k1:Int->(LI)->OL):Nat->Int->Int->(LI)->OL
  | 0,_,_,_=>none
  | n+1,i1,i2,a2=>Z7n a1 k1 (Z3t a1 k1 n) i1 i2 a2
def Z1k (p0:LI) (p1:LI):OL :=
 opt (Z4k p0) fun y1 =>
 opt (Z4k p1) fun y2 =>
 jn (fun (a1:LI)=>jn (fun (i1:Int) (a2:LI)=>opt (Z2o (replicate 2 0) 0 2 i1 19) fun y3 =>
 bnd (y3.getD 1 0) fun z1 =>
 bnd (a2.getD 0 0) fun z2 =>
 chk (Ziv z1 z2 0) <|
 bnd (Zp4 z1 z2 0) fun z3 =>
 bnd (Zp3 z1 z2 0) fun z4 =>
 bnd (Za .and .u64 z3 2251799813685247) fun z5 =>
 bnd (Z28 a2 0 z5) fun l1 =>
 bnd (l1.getD 1 0) fun z6 =>
 bnd (y3.getD 0 0) fun z7 =>
 bnd (wrap .u64 (z7+z4)) fun z8 =>
 bnd (Z1v .u64 z8 13) fun z9 =>
 bnd (Z0f .u64 z3 51) fun z10 =>
 bnd (Za .or .u64 z9 z10) fun z11 =>
 bnd (wrap .u64 (z6+z11)) fun z12 =>
 bnd (Z28 l1 1 z12) fun l2 =>
 opt (Z2i l2) fun y4 =>
 some y4) fun k1=>Z3t a1 k1 big 0 0 (replicate 5 0)) fun k2=>Z3c y1 y2 k2 big 0 (replicate 10 0)
theorem Z1b {W:World} {r:(LI)} {p0:LI} {p1:LI} (h:Z1k p0 p1=some r)  :
    Calls Tryz.prog 92 [agg [u5' p0],agg [u5' p1]].toArray W (Z34 W (agg [u5' r])):=by
 unfold Z1k at h
 refine Zc mo ok92 rfl ?_
 refine Z0<|Z2<|Zd (Z0l (s:=[u5' p0]) rfl fun b1 u1=>Zd (Z0l (s:=[u5' p1]) rfl fun b2 u2=>Zd (Zq fun b3 u3=>Z1<|Z0<|oH h fun y1 f1 h=>oH h fun y2 f2 h=>Zt<|Zo _ (Z02 (p:=[u5' p0]) rfl .t2 rfl)<|Z7 _ (Z0h rfl (Z4a f1))<|Zo _ (Z02 (p:=[u5' p1]) rfl .t1 rfl)<|Z7 _ (Z0h rfl (Z4a f2))<|Z1i rfl (Zp (q:=[u5' y1]) rfl rfl rfl rfl rfl .t2<|Z03u rfl (Zp (q:=[u5' y2]) rfl rfl rfl rfl rfl .t1<|Z04<|Z0<|Z2<|Zd (Zq fun b4 u4=>Z1<|Z0<|Z0<|Z2<|Z4 _ (Z02 (p:=[u5' y1]) rfl .t3 rfl)<|Z6 rfl<|Z1<|jH h fun k1 q1 h=>Zg (G:=fun t m=>∃ (a1:LI),k1 a1=some r/\Fit [(4,pt' b3),(5,pt' b4)] (ck b4 188 [uA' a1]::(ck b3 80 [u5' (replicate 5 0)]::(ck b2 80 [u5' y2]::(ck b1 80 [u5' y1] :: [])))) t m) ?_ ?_))))))
 ·refine Z9<|Zm (fun n1 t m=>∃ (i1:Int) (a2:LI),Z3c y1 y2 k1 n1 i1 a2=some r/\Fit [(3,pt' b2),(4,pt' b3),(5,pt' b4),(23,agg [u5' y1]),(24,.int .i64 (i1))] (ck b4 188 [uA' a2]::(ck b3 80 [u5' (replicate 5 0)]::(ck b2 80 [u5' y2]::(ck b1 80 [u5' y1] :: [])))) t m) big ?_ ?_
  ·exact ⟨0,(replicate 10 0),h,⟨⟨rfl,rfl,rfl,rfl,rfl,trivial⟩,(.o (.o (.o (.o .nil))))⟩⟩
  ·rintro n1 t m ⟨i1,a2,h,hF⟩
   refine Ze hF ?_
   clear hF
   rcases n1 with _ | n1
   · exact Z07 h
   have h:Z91 y1 y2 k1 (Z3c y1 y2 k1 n1) i1 a2=some r:=h
   unfold Z91 at h
   obtain ⟨k2,q2⟩ : ∃ k,k=Z3c y1 y2 k1 n1:=⟨_,rfl⟩
   try rw [<- q2] at h
   refine Z0<|Z2<|Z4 _ (Z8 rfl rfl rfl)<|Z1<|Z0<|Z09 h rfl (fun h=>?_) (fun h=>?_)
   ·refine Zh<|Z0<|Z9<|Z0<|cH h fun c1 h=>bH h fun z1 e1 h=>Z2<|Z6 rfl<|Z4 _ (iz e1 (Zfb (len:=5) rfl rfl (Z08 c1)))<|Z6 rfl<|Z6 rfl<|Z1<|Z0<|Z2<|Z4 _ (Z02 (p:=[u5' y2]) rfl .t2 rfl)<|Z6 rfl<|Z1<|jH h fun k3 q3 h=>Zg (G:=fun t m=>∃ (a3:LI),k3 a3=some r/\Fit [(3,pt' b2),(4,pt' b3),(5,pt' b4),(23,agg [u5' y1]),(24,.int .i64 (i1))] (ck b4 188 [uA' a3]::(ck b3 80 [u5' (replicate 5 0)]::(ck b2 80 [u5' y2]::(ck b1 80 [u5' y1] :: [])))) t m) ?_ ?_
    ·refine Z9<|Zm (fun n2 t m=>∃ (i2:Int) (a4:LI),Z5a y2 i1 z1 k3 n2 i2 a4=some r/\Fit [(3,pt' b2),(4,pt' b3),(5,pt' b4),(6,.int .i64 (i1)),(7,.int .u64 (z1)),(23,agg [u5' y1]),(24,.int .i64 (i1)),(28,agg [u5' y2]),(29,.int .i64 (i2))] (ck b4 188 [uA' a4]::(ck b3 80 [u5' (replicate 5 0)]::(ck b2 80 [u5' y2]::(ck b1 80 [u5' y1] :: [])))) t m) big ?_ ?_
     ·exact ⟨0,a2,h,⟨⟨rfl,rfl,rfl,rfl,rfl,rfl,rfl,rfl,rfl,trivial⟩,(.o (.o (.o (.o .nil))))⟩⟩
     ·rintro n2 t m ⟨i2,a4,h,hF⟩
      refine Ze hF ?_
      clear hF
      rcases n2 with _ | n2
      · exact Z07 h
      have h:Z65 y2 i1 z1 k3 (Z5a y2 i1 z1 k3 n2) i2 a4=some r:=h
      unfold Z65 at h
      obtain ⟨k4,q4⟩ : ∃ k,k=Z5a y2 i1 z1 k3 n2:=⟨_,rfl⟩
      try rw [<- q4] at h
      refine Z0<|Z2<|Z4 _ (Z8 rfl rfl rfl)<|Z1<|Z0<|Z09 h rfl (fun h=>?_) (fun h=>?_)
      ·refine Zh<|Z0<|jH h fun k5 q5 h=>Zg (G:=fun t m=>∃ (a5:LI),k5 a5=some r/\Fit [(3,pt' b2),(4,pt' b3),(5,pt' b4),(6,.int .i64 (i1)),(7,.int .u64 (z1)),(23,agg [u5' y1]),(24,.int .i64 (i1)),(28,agg [u5' y2]),(29,.int .i64 (i2))] (ck b4 188 [uA' a5]::(ck b3 80 [u5' (replicate 5 0)]::(ck b2 80 [u5' y2]::(ck b1 80 [u5' y1] :: [])))) t m) ?_ ?_
       ·refine Z9<|Z0<|cH h fun c2 h=>bH h fun z2 e2 h=>Z2<|Z6 rfl<|Z4 _ (iz e2 (Zfb (len:=5) rfl rfl (Z08 c2)))<|Z6 rfl<|Z6 rfl<|Z1<|Z0<|bH h fun z3 e3 h=>Z2<|Z6 rfl<|Z6 rfl<|Z4 _ (iz e3 (Z8 rfl rfl rfl))<|Z4 _ (Z8 rfl rfl rfl)<|Z1<|Z09 h rfl (fun h=>?_) (fun h=>?_)
        ·refine bH h fun z4 e4 h=>cH h fun c3 h=>oH h fun y3 f3 h=>Z2<|Z6 rfl<|Z6 rfl<|Z4 _ (iz e4 (Z8 rfl rfl rfl))<|Z4 _ (Z0i rfl rfl (Z08 c3))<|Z6 rfl<|Z6 rfl<|Zd (Z78 (mS:=[_]) rfl (Z41.perm .here) (fun w hw=>Z7a  f3 (Zav hw (mS:=[_]) (Z41.perm .here)) ) fun v1649 o1 R1=>?_)
         obtain ⟨rfl,rfl⟩:=R1
         exact Z1<|⟨y3,h,⟨⟨rfl,rfl,rfl,rfl,rfl,rfl,rfl,rfl,rfl,trivial⟩,(.o (.o (.o (.o .nil))))⟩⟩
        ·refine bH h fun z5 e5 h=>bH h fun z6 e6 h=>cH h fun c4 h=>bH h fun z7 e7 h=>oH h fun y4 f4 h=>Z2<|Z6 rfl<|Z6 rfl<|Z4 _ (iz e5 (Z8 rfl rfl rfl))<|Z4 _ (iz e6 (Z8 rfl rfl rfl))<|Z4 _ (Z0i rfl rfl (Z08 c4))<|Z6 rfl<|Z6 rfl<|Z4 _ (iz e7 (Z8 rfl rfl rfl))<|Zd (Z78 (mS:=[_]) rfl (Z41.perm .here) (fun w hw=>Z7a  f4 (Zav hw (mS:=[_]) (Z41.perm .here)) ) fun v1657 o2 R2=>?_)
         obtain ⟨rfl,rfl⟩:=R2
         exact Z1<|⟨y4,h,⟨⟨rfl,rfl,rfl,rfl,rfl,rfl,rfl,rfl,rfl,trivial⟩,(.o (.o (.o (.o .nil))))⟩⟩
       ·rintro t m ⟨a5,h,hF⟩
        refine Ze hF ?_
        clear hF
        subst q5
        refine bH h fun z8 e8 h=>Z2<|Z4 _ (iz e8 (Z8 rfl rfl rfl))<|Z6 rfl<|Z1 ?_
        rw [q4] at h
        exact ⟨n2,Nat.lt_succ_self _,z8,a5,h,⟨⟨rfl,rfl,rfl,rfl,rfl,rfl,rfl,rfl,rfl,trivial⟩,(.o (.o (.o (.o .nil))))⟩⟩
      ·exact Zs _ rfl<|⟨a4,h,⟨⟨rfl,rfl,rfl,rfl,rfl,trivial⟩,(.o (.o (.o (.o .nil))))⟩⟩
    ·rintro t m ⟨a3,h,hF⟩
     refine Ze hF ?_
     clear hF
     subst q3
     refine bH h fun z9 e9 h=>Z2<|Z4 _ (iz e9 (Z8 rfl rfl rfl))<|Z6 rfl<|Z1 ?_
     rw [q2] at h
     exact ⟨n1,Nat.lt_succ_self _,z9,a3,h,⟨⟨rfl,rfl,rfl,rfl,rfl,trivial⟩,(.o (.o (.o (.o .nil))))⟩⟩
   ·exact Zs _ rfl<|⟨a2,h,⟨⟨rfl,rfl,trivial⟩,(.o (.o (.o (.o .nil))))⟩⟩
 ·rintro t m ⟨a1,h,hF⟩
  refine Ze hF ?_
  clear hF
  subst q1
  refine Z0<|Z2<|Zd (Zq fun b5 u5=>Z1<|Z0<|Z2<|Z6 rfl<|Z1<|Z0<|Z0<|Z2<|Z4 _ (Z02 (p:=[uA' a1]) rfl .t1 rfl)<|Z6 rfl<|Z1<|jH h fun k6 q6 h=>Zg (G:=fun t m=>∃ (i3:Int) (a6:LI),k6 i3 a6=some r/\Fit [(4,pt' b3),(10,pt' b5),(11,.int .u64 (i3))] (ck b5 80 [u5' a6]::(ck b4 188 [uA' a1]::(ck b3 80 [u5' (replicate 5 0)]::(ck b2 80 [u5' y2]::(ck b1 80 [u5' y1] :: []))))) t m) ?_ ?_)
  ·refine Z9<|Zm (fun n3 t m=>∃ (i4:Int) (i5:Int) (a7:LI),Z3t a1 k6 n3 i4 i5 a7=some r/\Fit [(4,pt' b3),(10,pt' b5),(11,.int .u64 (i4)),(55,agg [uA' a1]),(56,.int .i64 (i5))] (ck b5 80 [u5' a7]::(ck b4 188 [uA' a1]::(ck b3 80 [u5' (replicate 5 0)]::(ck b2 80 [u5' y2]::(ck b1 80 [u5' y1] :: []))))) t m) big ?_ ?_
   ·exact ⟨0,0,(replicate 5 0),h,⟨⟨rfl,rfl,rfl,rfl,rfl,trivial⟩,(.o (.o (.o (.o (.o .nil)))))⟩⟩
   ·rintro n3 t m ⟨i4,i5,a7,h,hF⟩
    refine Ze hF ?_
    clear hF
    rcases n3 with _ | n3
    · exact Z07 h
    have h:Z7n a1 k6 (Z3t a1 k6 n3) i4 i5 a7=some r:=h
    unfold Z7n at h
    obtain ⟨k7,q7⟩ : ∃ k,k=Z3t a1 k6 n3:=⟨_,rfl⟩
    try rw [<- q7] at h
    refine Z0<|Z2<|Z4 _ (Z8 rfl rfl rfl)<|Z1<|Z0<|Z09 h rfl (fun h=>?_) (fun h=>?_)
    ·refine Zh<|Z0<|Z9<|Z0<|cH h fun c5 h=>bH h fun l1 g1 h=>Z2<|Z6 rfl<|Z4 _ (az (fun z=>agg [.ints .u64 2 z]) g1 (Z0az (len:=5) (w:=2) rfl rfl (Z08 c5)))<|Zd (Zq fun b6 u6=>Z6 rfl<|Zd (Zp (q:=[.ints .u64 2 (l1)]) rfl rfl rfl rfl rfl .here<|Z1<|Z0<|bH h fun z10 e10 h=>cH h fun c6 h=>bH h fun z11 e11 h=>bH h fun z12 e12 h=>Z2<|Z4 _ (Z2l rfl)<|Z4 _ (iz e10 (Z0c rfl .here rfl))<|Z6 rfl<|Z4 _ (Zmt rfl Zm9 (xadd e11 e12 c6))<|Z6 rfl<|Z4 _ (Z40 rfl rfl)<|Z4 _ (Z40 rfl rfl)<|Z6 rfl<|Z6 rfl<|Z1<|Z0<|bH h fun z13 e13 h=>cH h fun c7 h=>bH h fun l2 g2 h=>Z2<|Z6 rfl<|Z6 rfl<|Z4 _ (iz e13 (Z8 rfl rfl rfl))<|Z4 _ (Z0i rfl rfl (Z08 c7))<|Zd (Z1h (q:=[u5' l2]) (base:=0) g2 rfl rfl rfl (Z01 c7) rfl .t1<|Z1<|bH h fun z14 e14 h=>bH h fun z15 e15 h=>bH h fun z16 e16 h=>bH h fun z17 e17 h=>bH h fun z18 e18 h=>Z2<|Z4 _ (Z2l rfl)<|Z4 _ (iz e14 (Z0c rfl .here rfl))<|Z6 rfl<|Z4 _ (iz e15 (Z8 rfl rfl rfl))<|Z4 _ (iz e16 (Zhg rfl rfl (by decide)))<|Z6 rfl<|Z4 _ (iz e17 (Z48 rfl rfl (by decide)))<|Z4 _ (iz e18 (Z8 rfl rfl rfl))<|Z6 rfl<|Z1<|bH h fun z19 e19 h=>Z2<|Z4 _ (iz e19 (Z8 rfl rfl rfl))<|Z6 rfl<|Z1 ?_)))
     rw [q7] at h
     exact ⟨n3,Nat.lt_succ_self _,z18,z19,l2,h,⟨⟨rfl,rfl,rfl,rfl,rfl,trivial⟩,(.one .t1 (.one .t1 (.one .t1 (.one .t1 (.one .t1 .nil)))))⟩⟩
    ·exact Zs _ rfl<|⟨i4,a7,h,⟨⟨rfl,rfl,rfl,trivial⟩,(.o (.o (.o (.o (.o .nil)))))⟩⟩
  ·rintro t m ⟨i3,a6,h,hF⟩
   refine Ze hF ?_
   clear hF
   subst q6
   refine Z0<|Z2<|Zd (Zq fun b7 u7=>Z1<|Z0<|oH h fun y5 f5 h=>Z2<|Z6 rfl<|Zd (Z78 (mS:=[_]) rfl (Z41.perm .here) (fun w hw=>Z7a  f5 (Zav hw (mS:=[_]) (Z41.perm .here)) ) fun v1820 o3 R3=>?_))
   obtain ⟨rfl,rfl⟩:=R3
   refine Z1<|Z0<|bH h fun z20 e20 h=>bH h fun z21 e21 h=>cH h fun c8 h=>bH h fun z22 e22 h=>bH h fun z23 e23 h=>Z2<|Z4 _ (Z2l rfl)<|Z4 _ (iz e20 (Z0c rfl .here rfl))<|Z4 _ (Z0i rfl rfl (by decide))<|Z4 _ (iz e21 (Z0c rfl .t1 rfl))<|Z4 _ (Zmt rfl Zm9 (xadd e22 e23 c8))<|Z6 rfl<|Z4 _ (Z40 rfl rfl)<|Z4 _ (Z40 rfl rfl)<|Z6 rfl<|Z6 rfl<|Z1<|Z0<|bH h fun z24 e24 h=>bH h fun l3 g3 h=>Z2<|Z6 rfl<|Z4 _ (iz e24 (Z8 rfl rfl rfl))<|Z4 _ (Z0i rfl rfl (by decide))<|Zd (Z5e (q:=[u5' l3]) (congrArg (fun z=>([u5' z]:List Seg)) g3.symm) rfl rfl rfl rfl .t1<|Z1<|Z0<|bH h fun z25 e25 h=>bH h fun z26 e26 h=>bH h fun z27 e27 h=>bH h fun z28 e28 h=>bH h fun z29 e29 h=>bH h fun z30 e30 h=>bH h fun z31 e31 h=>bH h fun l4 g4 h=>Z2<|Z4 _ (Z0i rfl rfl (by decide))<|Z4 _ (iz e25 (Z0c rfl .t1 rfl))<|Z4 _ (Z2l rfl)<|Z4 _ (iz e26 (Z0c rfl .here rfl))<|Z6 rfl<|Z4 _ (iz e27 (Z8 rfl rfl rfl))<|Z4 _ (iz e28 (Zhg rfl rfl (by decide)))<|Z6 rfl<|Z4 _ (iz e29 (Z48 rfl rfl (by decide)))<|Z4 _ (iz e30 (Z8 rfl rfl rfl))<|Z4 _ (iz e31 (Z8 rfl rfl rfl))<|Z4 _ (Z0i rfl rfl (by decide))<|Zd (Z5e (q:=[u5' l4]) (congrArg (fun z=>([u5' z]:List Seg)) g4.symm) rfl rfl rfl rfl .t1<|Z1<|Z0<|oH h fun y6 f6 h=>Z2<|Z4 _ (Z02 (p:=[u5' l4]) rfl .t1 rfl)<|Z4 _ (Z0h rfl (Z2j f6))<|Zd (Zp (q:=[u5' y6]) rfl rfl rfl rfl rfl .t3<|Z1<|Zj ?_)))
   revert h; refine Zv fun h=>?_
   subst h
   exact ⟨_,(.cons (.agg rfl .t3 rfl) .nil),rfl⟩
def Z24 (p0:LI):OL :=
 opt (Z1k p0 p0) fun y1 =>
 some y1
theorem Z4w {W:World} {r:(LI)} {p0:LI} (h:Z24 p0=some r)  :
    Calls Tryz.prog 123 [agg [u5' p0]].toArray W (Z34 W (agg [u5' r])):=by
 unfold Z24 at h
 refine Zc mo Z0ja rfl ?_
 refine Z0<|Z2<|Zd (Z0l (s:=[u5' p0]) rfl fun b1 u1=>Zd (Zq fun b2 u2=>Z1<|Z0<|oH h fun y1 f1 h=>Z2<|Z4 _ (Z02 (p:=[u5' p0]) rfl .t1 rfl)<|Z4 _ (Z02 (p:=[u5' p0]) rfl .t1 rfl)<|Z4 _ (Z0h rfl (Z1b f1))<|Zd (Zp (q:=[u5' y1]) rfl rfl rfl rfl rfl .here<|Z1<|Zj ?_)))
 revert h; refine Zv fun h=>?_
 subst h
 exact ⟨_,(.cons (.agg rfl .here rfl) .nil),rfl⟩
def Zab (p0:Int):OL :=
 bnd (([p0,0,0,0,0]:LI)) fun z1 =>
 opt (Z2i z1) fun y1 =>
 some y1
theorem Zia {W:World} {r:(LI)} {p0:Int} (h:Zab p0=some r)  :
    Calls Tryz.prog 188 [.int .u64 (p0)].toArray W (Z34 W (agg [u5' r])):=by
 unfold Zab at h
 refine Zc mo Z0kc rfl ?_
 refine Z0<|Z2<|Zd (Zq fun b1 u1=>Z1<|Z0<|bH h fun z1 e1 h=>oH h fun y1 f1 h=>Z2<|Z6 rfl<|Z4 _ (az (fun z=>agg [.ints .u64 5 z]) e1 (Zd2 (.one rfl rfl rfl BdR.nil)))<|Z4 _ (Z0h rfl (Z2j f1))<|Zd (Zp (q:=[u5' y1]) rfl rfl rfl rfl rfl .here<|Z1<|Zj ?_))
 revert h; refine Zv fun h=>?_
 subst h
 exact ⟨_,(.cons (.agg rfl .here rfl) .nil),rfl⟩
def Z7p (p0:LI) (p1:LI) (k1:(LI)->OL) (k2:Int->(LI)->OL) (i1:Int) (a1:LI):OL :=
 br ((decide (i1≥0))) (
 jn (fun (a2:LI)=>bnd (wrap .i64 (i1-1)) fun z1 =>
 k2 z1 a2) fun k3=>opt (Z24 a1) fun y1 =>
 bnd (wrap .i64 (Int.tdiv i1 8)) fun z2 =>
 chk (inB z2 32) <|
 bnd (p1.getD (z2).toNat 0) fun z3 =>
 bnd (Int.tmod i1 8) fun z4 =>
 chk (decide (0<=z4)) <|
 bnd (Z0f .u8 z3 z4) fun z5 =>
 bnd (Za .and .u8 z5 1) fun z6 =>
 br ((z6==1)) (
 opt (Z1k y1 p0) fun y2 =>
 k3 y2
 ) (
 k3 y1
 )
 ) (
 k1 a1
 )
def Z4g (p0:LI) (p1:LI) (k1:(LI)->OL):Nat->Int->(LI)->OL
  | 0,_,_=>none
  | n+1,i1,a1=>Z7p p0 p1 k1 (Z4g p0 p1 k1 n) i1 a1
def Zdo (p0:LI) (p1:LI):OL :=
 opt (Zab 1) fun y1 =>
 jn (fun (a1:LI)=>some a1) fun k1=>Z4g p0 p1 k1 big 255 y1
theorem Zkq {W:World} {r:(LI)} {p0:LI} {p1:LI} (h:Zdo p0 p1=some r)  :
    Calls Tryz.prog 153 [agg [u5' p0],agg [b3' p1]].toArray W (Z34 W (agg [u5' r])):=by
 unfold Zdo at h
 refine Zc mo Z0jr rfl ?_
 refine Z0<|Z2<|Zd (Z0l (s:=[u5' p0]) rfl fun b1 u1=>Zd (Z0l (s:=[b3' p1]) rfl fun b2 u2=>Zd (Zq fun b3 u3=>Z1<|Z0<|oH h fun y1 f1 h=>Z2<|Z4 _ (Z0h rfl (Zia f1))<|Zd (Zq fun b4 u4=>Zd (Zp (q:=[u5' y1]) rfl rfl rfl rfl rfl .here<|Z1<|Z0<|Z0<|Z2<|Z6 rfl<|Z1<|jH h fun k1 q1 h=>Zg (G:=fun t m=>∃ (a1:LI),k1 a1=some r/\Fit [(4,pt' b3),(5,pt' b4)] (ck b4 80 [u5' a1]::(ck b3 80 [u5' (replicate 5 0)]::(ck b2 22 [b3' p1]::(ck b1 80 [u5' p0] :: [])))) t m) ?_ ?_)))))
 ·refine Z9<|Zm (fun n1 t m=>∃ (i1:Int) (a2:LI),Z4g p0 p1 k1 n1 i1 a2=some r/\Fit [(2,pt' b1),(3,pt' b2),(4,pt' b3),(5,pt' b4),(6,.int .i64 (i1))] (ck b4 80 [u5' a2]::(ck b3 80 [u5' (replicate 5 0)]::(ck b2 22 [b3' p1]::(ck b1 80 [u5' p0] :: [])))) t m) big ?_ ?_
  ·exact ⟨255,y1,h,⟨⟨rfl,rfl,rfl,rfl,rfl,trivial⟩,(.o (.o (.o (.o .nil))))⟩⟩
  ·rintro n1 t m ⟨i1,a2,h,hF⟩
   refine Ze hF ?_
   clear hF
   rcases n1 with _ | n1
   · exact Z07 h
   have h:Z7p p0 p1 k1 (Z4g p0 p1 k1 n1) i1 a2=some r:=h
   unfold Z7p at h
   obtain ⟨k2,q2⟩ : ∃ k,k=Z4g p0 p1 k1 n1:=⟨_,rfl⟩
   try rw [<- q2] at h
   refine Z0<|Z0<|Z2<|Z6 rfl<|Z4 _ (Z8 rfl rfl rfl)<|Z1<|Z09 h rfl (fun h=>?_) (fun h=>?_)
   ·refine Zh<|Z0<|jH h fun k3 q3 h=>Zg (G:=fun t m=>∃ (a3:LI),k3 a3=some r/\Fit [(2,pt' b1),(3,pt' b2),(4,pt' b3),(5,pt' b4),(6,.int .i64 (i1))] (ck b4 80 [u5' a3]::(ck b3 80 [u5' (replicate 5 0)]::(ck b2 22 [b3' p1]::(ck b1 80 [u5' p0] :: [])))) t m) ?_ ?_
    ·refine Z9<|Z0<|oH h fun y2 f2 h=>Z2<|Z4 _ (Z02 (p:=[u5' a2]) rfl .here rfl)<|Z4 _ (Z0h rfl (Z4w f2))<|Zd (Zp (q:=[u5' y2]) rfl rfl rfl rfl rfl .here<|Z1<|Z0<|bH h fun z1 e1 h=>cH h fun c1 h=>bH h fun z2 e2 h=>bH h fun z3 e3 h=>cH h fun c2 h=>bH h fun z4 e4 h=>bH h fun z5 e5 h=>Z2<|Z6 rfl<|Z4 _ (iz e1 (Zbf rfl rfl (by decide)))<|Z4 _ (Z0i rfl rfl (Z08 c1))<|Z4 _ (iz e2 (Z1w (base:=0) rfl .t2 rfl (Z01 c1)))<|Z6 rfl<|Z4 _ (iz e3 (Z8c rfl rfl (by decide)))<|Z4 _ (iz e4 (Z48 rfl rfl (of_decide_eq_true c2)))<|Z4 _ (iz e5 (Z8 rfl rfl rfl))<|Z4 _ (Z8 rfl rfl rfl)<|Z1<|Z09 h rfl (fun h=>?_) (fun h=>?_))
     ·exact oH h fun y3 f3 h=>Z2<|Z4 _ (Z02 (p:=[u5' y2]) rfl .here rfl)<|Z4 _ (Z02 (p:=[u5' p0]) rfl .t3 rfl)<|Z4 _ (Z0h rfl (Z1b f3))<|Zd (Zp (q:=[u5' y3]) rfl rfl rfl rfl rfl .here<|Z1<|⟨y3,h,⟨⟨rfl,rfl,rfl,rfl,rfl,trivial⟩,(.o (.o (.o (.o .nil))))⟩⟩)
     ·exact Zh<|⟨y2,h,⟨⟨rfl,rfl,rfl,rfl,rfl,trivial⟩,(.o (.o (.o (.o .nil))))⟩⟩
    ·rintro t m ⟨a3,h,hF⟩
     refine Ze hF ?_
     clear hF
     subst q3
     refine bH h fun z6 e6 h=>Z2<|Z6 rfl<|Z4 _ (iz e6 (Z8 rfl rfl rfl))<|Z6 rfl<|Z1 ?_
     rw [q2] at h
     exact ⟨n1,Nat.lt_succ_self _,z6,a3,h,⟨⟨rfl,rfl,rfl,rfl,rfl,trivial⟩,(.o (.o (.o (.o .nil))))⟩⟩
   ·exact Zs _ rfl<|⟨a2,h,⟨⟨rfl,rfl,trivial⟩,(.o (.o (.o (.o .nil))))⟩⟩
 ·rintro t m ⟨a1,h,hF⟩
  refine Ze hF ?_
  clear hF
  subst q1
  refine Z0<|Z2<|Z4 _ (Z02 (p:=[u5' a1]) rfl .here rfl)<|Zd (Zp (q:=[u5' a1]) rfl rfl rfl rfl rfl .t1<|Z1<|Zj ?_)
  revert h; refine Zv fun h=>?_
  subst h
  exact ⟨_,(.cons (.agg rfl .t1 rfl) .nil),rfl⟩
def Zbb (k1:(LI)->OL) (k2:Int->(LI)->OL) (i1:Int) (a1:LI):OL :=
 br ((decide (i1<32))) (
 chk (inB i1 32) <|
 bnd (Z28 a1 (i1).toNat 255) fun l1 =>
 bnd (wrap .i64 (i1+1)) fun z1 =>
 k2 z1 l1
 ) (
 k1 a1
 )
def Z71 (k1:(LI)->OL):Nat->Int->(LI)->OL
  | 0,_,_=>none
  | n+1,i1,a1=>Zbb k1 (Z71 k1 n) i1 a1
def Zch (p0:Int) (p1:Int):OL :=
 jn (fun (a1:LI)=>bnd (Z28 a1 0 p0) fun l1 =>
 bnd (Z28 l1 31 p1) fun l2 =>
 some l2) fun k1=>Z71 k1 big 0 (replicate 32 0)
theorem Zib {W:World} {r:(LI)} {p0:Int} {p1:Int} (h:Zch p0 p1=some r)  :
    Calls Tryz.prog 154 [.int .u8 (p0),.int .u8 (p1)].toArray W (Z34 W (agg [b3' r])):=by
 unfold Zch at h
 refine Zc mo Z0js rfl ?_
 refine Z0<|Z2<|Zd (Zq fun b1 u1=>Z1<|Z0<|Z2<|Zd (Zq fun b2 u2=>Z1<|Z0<|Z0<|Z2<|Z6 rfl<|Z1<|jH h fun k1 q1 h=>Zg (G:=fun t m=>∃ (a1:LI),k1 a1=some r/\Fit [(0,.int .u8 (p0)),(1,.int .u8 (p1)),(4,pt' b1),(5,pt' b2)] (ck b2 22 [b3' a1]::(ck b1 22 [b3' (replicate 32 0)] :: [])) t m) ?_ ?_))
 ·refine Z9<|Zm (fun n1 t m=>∃ (i1:Int) (a2:LI),Z71 k1 n1 i1 a2=some r/\Fit [(0,.int .u8 (p0)),(1,.int .u8 (p1)),(4,pt' b1),(5,pt' b2),(7,.int .i64 (i1))] (ck b2 22 [b3' a2]::(ck b1 22 [b3' (replicate 32 0)] :: [])) t m) big ?_ ?_
  ·exact ⟨0,(replicate 32 0),h,⟨⟨rfl,rfl,rfl,rfl,rfl,trivial⟩,(.o (.o .nil))⟩⟩
  ·rintro n1 t m ⟨i1,a2,h,hF⟩
   refine Ze hF ?_
   clear hF
   rcases n1 with _ | n1
   · exact Z07 h
   have h:Zbb k1 (Z71 k1 n1) i1 a2=some r:=h
   unfold Zbb at h
   obtain ⟨k2,q2⟩ : ∃ k,k=Z71 k1 n1:=⟨_,rfl⟩
   try rw [<- q2] at h
   refine Z0<|Z2<|Z4 _ (Z8 rfl rfl rfl)<|Z1<|Z0<|Z09 h rfl (fun h=>?_) (fun h=>?_)
   ·refine Zh<|Z0<|Z9<|Z0<|Z2<|Z6 rfl<|Z6 rfl<|Z1<|cH h fun c1 h=>bH h fun l1 g1 h=>Z2<|Z6 rfl<|Z4 _ (Z0i rfl rfl (Z08 c1))<|Zd (Z1h (q:=[b3' l1]) (base:=0) g1 rfl rfl rfl (Z01 c1) rfl .here<|Z1<|bH h fun z1 e1 h=>Z2<|Z4 _ (iz e1 (Z8 rfl rfl rfl))<|Z6 rfl<|Z1 ?_)
    rw [q2] at h
    exact ⟨n1,Nat.lt_succ_self _,z1,l1,h,⟨⟨rfl,rfl,rfl,rfl,rfl,trivial⟩,(.o (.o .nil))⟩⟩
   ·exact Zs _ rfl<|⟨a2,h,⟨⟨rfl,rfl,rfl,rfl,trivial⟩,(.o (.o .nil))⟩⟩
 ·rintro t m ⟨a1,h,hF⟩
  refine Ze hF ?_
  clear hF
  subst q1
  refine Z0<|bH h fun l2 g2 h=>bH h fun l3 g3 h=>Z2<|Z6 rfl<|Z6 rfl<|Z4 _ (Z0i rfl rfl (by decide))<|Zd (Z5e (q:=[b3' l2]) (congrArg (fun z=>([b3' z]:List Seg)) g2.symm) rfl rfl rfl rfl .here<|Z4 _ (Z0i rfl rfl (by decide))<|Zd (Z5e (q:=[b3' l3]) (congrArg (fun z=>([b3' z]:List Seg)) g3.symm) rfl rfl rfl rfl .here<|Z1<|Z0<|Z2<|Z4 _ (Z02 (p:=[b3' l3]) rfl .here rfl)<|Zd (Zp (q:=[b3' l3]) rfl rfl rfl rfl rfl .t1<|Z1<|Zj ?_)))
  revert h; refine Zv fun h=>?_
  subst h
  exact ⟨_,(.cons (.agg rfl .t1 rfl) .nil),rfl⟩
def Z7m (p0:LI):OL :=
 opt (Zch 235 127) fun y1 =>
 opt (Zdo p0 y1) fun y2 =>
 some y2
theorem Zh1 {W:World} {r:(LI)} {p0:LI} (h:Z7m p0=some r)  :
    Calls Tryz.prog 90 [agg [u5' p0]].toArray W (Z34 W (agg [u5' r])):=by
 unfold Z7m at h
 refine Zc mo ok90 rfl ?_
 refine Z0<|Z2<|Zd (Z0l (s:=[u5' p0]) rfl fun b1 u1=>Zd (Zq fun b2 u2=>Z1<|Z0<|oH h fun y1 f1 h=>oH h fun y2 f2 h=>Zt<|Z7 _ (Z0h rfl (Zib f1))<|Zo _ (Z02 (p:=[u5' p0]) rfl .t1 rfl)<|Z7 _ (Z0h rfl (Zkq f2))<|Z1i rfl (Zp (q:=[u5' y2]) rfl rfl rfl rfl rfl .here<|Z04<|Zj ?_)))
 revert h; refine Zv fun h=>?_
 subst h
 exact ⟨_,(.cons (.agg rfl .here rfl) .nil),rfl⟩
def Zba (y1:(LI)) (k1:(LI)->OL) (k2:Int->(LI)->OL) (i1:Int) (a1:LI):OL :=
 br ((decide (i1<32))) (
 bnd (wrap .i64 (8*i1)) fun z1 =>
 bnd (wrap .i64 (Int.tdiv z1 51)) fun z2 =>
 bnd (wrap .i64 (8*i1)) fun z3 =>
 bnd (Int.tmod z3 51) fun z4 =>
 chk (inB z2 5) <|
 bnd (y1.getD (z2).toNat 0) fun z5 =>
 chk (decide (0<=z4)) <|
 bnd (Z0f .u64 z5 z4) fun z6 =>
 jn (fun (i2:Int)=>bnd (wrap .u8 i2) fun z7 =>
 chk (inB i1 32) <|
 bnd (Z28 a1 (i1).toNat z7) fun l1 =>
 bnd (wrap .i64 (i1+1)) fun z8 =>
 k2 z8 l1) fun k3=>br (((decide (z4>43))&&(decide (z2<4)))) (
 bnd (wrap .i64 (z2+1)) fun z9 =>
 chk (inB z9 5) <|
 bnd (y1.getD (z9).toNat 0) fun z10 =>
 bnd (wrap .i64 (51-z4)) fun z11 =>
 chk (decide (0<=z11)) <|
 bnd (Z1v .u64 z10 z11) fun z12 =>
 bnd (Za .or .u64 z6 z12) fun z13 =>
 k3 z13
 ) (
 k3 z6
 )
 ) (
 k1 a1
 )
def Z5s (y1:(LI)) (k1:(LI)->OL):Nat->Int->(LI)->OL
  | 0,_,_=>none
  | n+1,i1,a1=>Zba y1 k1 (Z5s y1 k1 n) i1 a1
def Za9 (p0:LI):OL :=
 opt (Z2i p0) fun y1 =>
 jn (fun (a1:LI)=>some a1) fun k1=>Z5s y1 k1 big 0 (replicate 32 0)
theorem Zi8 {W:World} {r:(LI)} {p0:LI} (h:Za9 p0=some r)  :
    Calls Tryz.prog 91 [agg [u5' p0]].toArray W (Z34 W (agg [b3' r])):=by
 unfold Za9 at h
 refine Zc mo ok91 rfl ?_
 refine Z0<|Z2<|Zd (Z0l (s:=[u5' p0]) rfl fun b1 u1=>Zd (Zq fun b2 u2=>Z1<|Z0<|oH h fun y1 f1 h=>Z2<|Z4 _ (Z02 (p:=[u5' p0]) rfl .t1 rfl)<|Z4 _ (Z0h rfl (Z2j f1))<|Zd (Zp (q:=[u5' y1]) rfl rfl rfl rfl rfl .t1<|Z1<|Z0<|Z2<|Zd (Zq fun b3 u3=>Z1<|Z0<|Z0<|Z2<|Z6 rfl<|Z1<|jH h fun k1 q1 h=>Zg (G:=fun t m=>∃ (a1:LI),k1 a1=some r/\Fit [(2,pt' b2),(3,pt' b3)] (ck b3 22 [b3' a1]::(ck b2 22 [b3' (replicate 32 0)]::(ck b1 80 [u5' y1] :: []))) t m) ?_ ?_))))
 ·refine Z9<|Zm (fun n1 t m=>∃ (i1:Int) (a2:LI),Z5s y1 k1 n1 i1 a2=some r/\Fit [(1,pt' b1),(2,pt' b2),(3,pt' b3),(10,.int .i64 (i1))] (ck b3 22 [b3' a2]::(ck b2 22 [b3' (replicate 32 0)]::(ck b1 80 [u5' y1] :: []))) t m) big ?_ ?_
  ·exact ⟨0,(replicate 32 0),h,⟨⟨rfl,rfl,rfl,rfl,trivial⟩,(.o (.o (.o .nil)))⟩⟩
  ·rintro n1 t m ⟨i1,a2,h,hF⟩
   refine Ze hF ?_
   clear hF
   rcases n1 with _ | n1
   · exact Z07 h
   have h:Zba y1 k1 (Z5s y1 k1 n1) i1 a2=some r:=h
   unfold Zba at h
   obtain ⟨k2,q2⟩ : ∃ k,k=Z5s y1 k1 n1:=⟨_,rfl⟩
   try rw [<- q2] at h
   refine Z0<|Z2<|Z4 _ (Z8 rfl rfl rfl)<|Z1<|Z0<|Z09 h rfl (fun h=>?_) (fun h=>?_)
   ·refine Zh<|Z0<|Z9<|Z0<|Z2<|Z6 rfl<|Z6 rfl<|Z1<|Z0<|bH h fun z1 e1 h=>bH h fun z2 e2 h=>bH h fun z3 e3 h=>bH h fun z4 e4 h=>Z2<|Z6 rfl<|Z4 _ (iz e1 (Z8 rfl rfl rfl))<|Z4 _ (iz e2 (Zbf rfl rfl (by decide)))<|Z6 rfl<|Z4 _ (iz e3 (Z8 rfl rfl rfl))<|Z4 _ (iz e4 (Z8c rfl rfl (by decide)))<|Z6 rfl<|Z6 rfl<|Z1<|Z0<|cH h fun c1 h=>bH h fun z5 e5 h=>cH h fun c2 h=>bH h fun z6 e6 h=>Z2<|Z6 rfl<|Z4 _ (Z0i rfl rfl (Z08 c1))<|Z4 _ (iz e5 (Z1w (base:=0) rfl .t2 rfl (Z01 c1)))<|Z6 rfl<|Z4 _ (iz e6 (Z48 rfl rfl (of_decide_eq_true c2)))<|Z6 rfl<|Z1<|Z0<|Z0<|Z2<|Z6 rfl<|Z4 _ (Z8 rfl rfl rfl)<|Z6 rfl<|Zi2 rfl rfl rfl (fun hg1=>Z2z rfl _ (Z0j rfl) (Z2z rfl _ (Z8 rfl rfl rfl) (Z3f))) (fun hg1=>rfl) rfl<|Z1<|jH h fun k3 q3 h=>Zg (G:=fun t m=>∃ (i2:Int),k3 i2=some r/\Fit [(1,pt' b1),(2,pt' b2),(3,pt' b3),(4,.int .i64 (i1)),(7,.int .u64 (i2)),(10,.int .i64 (i1))] (ck b3 22 [b3' a2]::(ck b2 22 [b3' (replicate 32 0)]::(ck b1 80 [u5' y1] :: []))) t m) ?_ ?_
    ·refine Z09 h rfl (fun h=>?_) (fun h=>?_)
     ·exact bH h fun z7 e7 h=>cH h fun c3 h=>bH h fun z8 e8 h=>bH h fun z9 e9 h=>cH h fun c4 h=>bH h fun z10 e10 h=>bH h fun z11 e11 h=>Z2<|Z6 rfl<|Z6 rfl<|Z4 _ (iz e7 (Z8 rfl rfl rfl))<|Z4 _ (Z0i rfl rfl (Z08 c3))<|Z4 _ (iz e8 (Z1w (base:=0) rfl .t2 rfl (Z01 c3)))<|Z6 rfl<|Z4 _ (iz e9 (Z8 rfl rfl rfl))<|Z4 _ (iz e10 (Zhg rfl rfl (of_decide_eq_true c4)))<|Z4 _ (iz e11 (Z8 rfl rfl rfl))<|Z6 rfl<|Z1<|⟨z11,h,⟨⟨rfl,rfl,rfl,rfl,rfl,rfl,trivial⟩,(.o (.o (.o .nil)))⟩⟩
     ·exact Zh<|⟨z6,h,⟨⟨rfl,rfl,rfl,rfl,rfl,rfl,trivial⟩,(.o (.o (.o .nil)))⟩⟩
    ·rintro t m ⟨i2,h,hF⟩
     refine Ze hF ?_
     clear hF
     subst q3
     refine bH h fun z12 e12 h=>cH h fun c5 h=>bH h fun l1 g1 h=>Z2<|Z6 rfl<|Z6 rfl<|Z4 _ (iz e12 (Z33 rfl))<|Z4 _ (Z0i rfl rfl (Z08 c5))<|Zd (Z1h (q:=[b3' l1]) (base:=0) g1 rfl rfl rfl (Z01 c5) rfl .here<|Z1<|bH h fun z13 e13 h=>Z2<|Z4 _ (iz e13 (Z8 rfl rfl rfl))<|Z6 rfl<|Z1 ?_)
     rw [q2] at h
     exact ⟨n1,Nat.lt_succ_self _,z13,l1,h,⟨⟨rfl,rfl,rfl,rfl,trivial⟩,(.o (.o (.o .nil)))⟩⟩
   ·exact Zs _ rfl<|⟨a2,h,⟨⟨rfl,rfl,trivial⟩,(.o (.o (.o .nil)))⟩⟩
 ·rintro t m ⟨a1,h,hF⟩
  refine Ze hF ?_
  clear hF
  subst q1
  refine Z0<|Z2<|Z4 _ (Z02 (p:=[b3' a1]) rfl .here rfl)<|Zd (Zp (q:=[b3' a1]) rfl rfl rfl rfl rfl .t1<|Z1<|Zj ?_)
  revert h; refine Zv fun h=>?_
  subst h
  exact ⟨_,(.cons (.agg rfl .t1 rfl) .nil),rfl⟩
def Zaa (p0:LI):Option Bool :=
 opt (Z2i p0) fun y1 =>
 bnd (y1.getD 0 0) fun z1 =>
 bnd (Za .and .u64 z1 1) fun z2 =>
 some (z2==1)
theorem Zi9 {W:World} {r:Bool} {p0:LI} (h:Zaa p0=some r)  :
    Calls Tryz.prog 93 [agg [u5' p0]].toArray W (Z34 W (.bool (r))):=by
 unfold Zaa at h
 refine Zc mo ok93 rfl ?_
 refine Z0<|Z2<|Zd (Z0l (s:=[u5' p0]) rfl fun b1 u1=>Z6 rfl<|Z1<|Z0<|oH h fun y1 f1 h=>bH h fun z1 e1 h=>bH h fun z2 e2 h=>Z2<|Z4 _ (Z02 (p:=[u5' p0]) rfl .here rfl)<|Z4 _ (Z0h rfl (Z2j f1))<|Z4 _ (iz e1 (Zfb (len:=5) (z:=0) rfl rfl (by decide)))<|Z4 _ (iz e2 (Z8 rfl rfl rfl))<|Z4 _ (Z8 rfl rfl rfl)<|Z6 rfl<|Z1<|Zj ?_)
 revert h; refine Zv fun h=>?_
 subst h
 exact ⟨_,(.cons (.tmp rfl) .nil),rfl⟩
structure Zi where
  gX:LI
  gY:LI
  gZ:LI
  gT:LI
def Z1z:Zi:=⟨(replicate 5 0),(replicate 5 0),(replicate 5 0),(replicate 5 0)⟩
def Z7i (p0:Zi):OL :=
 opt (Z7m p0.gZ) fun y1 =>
 opt (Z1k p0.gY y1) fun y2 =>
 opt (Za9 y2) fun y3 =>
 opt (Z1k p0.gX y1) fun y4 =>
 opt (Zaa y4) fun y5 =>
 jn (fun (a1:LI)=>some a1) fun k1=>br (y5) (
 bnd (y3.getD 31 0) fun z1 =>
 bnd (Za .or .u8 z1 128) fun z2 =>
 bnd (Z28 y3 31 z2) fun l1 =>
 k1 l1
 ) (
 k1 y3
 )
theorem Zgz {W:World} {r:(LI)} {p0:Zi} (h:Z7i p0=some r)  :
    Calls Tryz.prog 50 [agg [u5' p0.gX,u5' p0.gY,u5' p0.gZ,u5' p0.gT]].toArray W (Z34 W (agg [b3' r])):=by
 unfold Z7i at h
 refine Zc mo ok50 rfl ?_
 refine Z0<|Z2<|Zd (Z0l (s:=[u5' p0.gX,u5' p0.gY,u5' p0.gZ,u5' p0.gT]) rfl fun b1 u1=>Zd (Zq fun b2 u2=>Z1<|Z0<|oH h fun y1 f1 h=>Z2<|Z4 _ (Z2l rfl)<|Z4 _ (Z02 (p:=[u5' p0.gZ]) rfl .t1 rfl)<|Z4 _ (Z0h rfl (Zh1 f1))<|Zd (Zq fun b3 u3=>Zd (Zp (q:=[u5' y1]) rfl rfl rfl rfl rfl .here<|Z1<|Z0<|oH h fun y2 f2 h=>oH h fun y3 f3 h=>Z2<|Z4 _ (Z2l rfl)<|Z4 _ (Z02 (p:=[u5' p0.gY]) rfl .t2 rfl)<|Z4 _ (Z02 (p:=[u5' y1]) rfl .here rfl)<|Z4 _ (Z0h rfl (Z1b f2))<|Z4 _ (Z0h rfl (Zi8 f3))<|Zd (Zq fun b4 u4=>Zd (Zp (q:=[b3' y3]) rfl rfl rfl rfl rfl .here<|Z1<|Z0<|Z0<|oH h fun y4 f4 h=>oH h fun y5 f5 h=>Z2<|Z4 _ (Z2l rfl)<|Z4 _ (Z02 (p:=[u5' p0.gX]) rfl .t3 rfl)<|Z4 _ (Z02 (p:=[u5' y1]) rfl .t1 rfl)<|Z4 _ (Z0h rfl (Z1b f4))<|Z4 _ (Z0h rfl (Zi9 f5))<|Z1<|jH h fun k1 q1 h=>Zg (G:=fun t m=>∃ (a1:LI),k1 a1=some r/\Fit [(2,pt' b2),(4,pt' b4)] (ck b4 29 [b3' a1]::(ck b3 80 [u5' y1]::(ck b2 29 [b3' (replicate 32 0)]::(ck b1 82 [u5' p0.gX,u5' p0.gY,u5' p0.gZ,u5' p0.gT] :: [])))) t m) ?_ ?_))))))
 ·refine Z09 h rfl (fun h=>?_) (fun h=>?_)
  ·exact bH h fun z1 e1 h=>bH h fun z2 e2 h=>bH h fun l1 g1 h=>Z2<|Z4 _ (Z0i rfl rfl (by decide))<|Z4 _ (iz e1 (Z0c rfl .here rfl))<|Z4 _ (iz e2 (Z8 rfl rfl rfl))<|Z4 _ (Z0i rfl rfl (by decide))<|Zd (Z5e (q:=[b3' l1]) (congrArg (fun z=>([b3' z]:List Seg)) g1.symm) rfl rfl rfl rfl .here<|Z1<|⟨l1,h,⟨⟨rfl,rfl,trivial⟩,(.o (.o (.o (.o .nil))))⟩⟩)
  ·exact Zh<|⟨y3,h,⟨⟨rfl,rfl,trivial⟩,(.o (.o (.o (.o .nil))))⟩⟩
 ·rintro t m ⟨a1,h,hF⟩
  refine Ze hF ?_
  clear hF
  subst q1
  refine Z0<|Z2<|Z4 _ (Z02 (p:=[b3' a1]) rfl .here rfl)<|Zd (Zp (q:=[b3' a1]) rfl rfl rfl rfl rfl .t2<|Z1<|Zj ?_)
  revert h; refine Zv fun h=>?_
  subst h
  exact ⟨_,(.cons (.agg rfl .t2 rfl) .nil),rfl⟩
def Z8g:OL :=
 bnd (([1,0,0,0,0]:LI)) fun z1 =>
 some z1
theorem Za6 {W:World} {r:(LI)} (h:Z8g=some r)  :
    Calls Tryz.prog 124 [].toArray W (Z34 W (agg [u5' r])):=by
 unfold Z8g at h
 refine Zc mo Z0jb rfl ?_
 refine Z0<|Z2<|Zd (Zq fun b1 u1=>Z1<|Z0<|bH h fun z1 e1 h=>Z2<|Z4 _ (az (fun z=>agg [.ints .u64 5 z]) e1 (Zd2 (.one rfl rfl rfl BdR.nil)))<|Zd (Zp (q:=[u5' z1]) rfl rfl rfl rfl rfl .here<|Z1<|Zj ?_))
 revert h; refine Zv fun h=>?_
 subst h
 exact ⟨_,(.cons (.agg rfl .here rfl) .nil),rfl⟩
def Z9v:Option (Zi) :=
 opt (Z8g) fun y1 =>
 opt (Z8g) fun y2 =>
 some (⟨(replicate 5 0),y1,y2,(replicate 5 0)⟩:Zi)
theorem Zdi {W:World} {r:Zi} (h:Z9v=some r)  :
    Calls Tryz.prog 134 [].toArray W (Z34 W (agg [u5' r.gX,u5' r.gY,u5' r.gZ,u5' r.gT])):=by
 unfold Z9v at h
 refine Zc mo Z0jg rfl ?_
 refine Z0<|Z2<|Zd (Zq fun b1 u1=>Z1<|Z0<|oH h fun y1 f1 h=>oH h fun y2 f2 h=>Z2<|Z4 _ (Z0h rfl (Za6 f1))<|Z4 _ (Z0h rfl (Za6 f2))<|Z4 _ (Zd2 (q:=[u5' (replicate 5 0),u5' y1,u5' y2,u5' (replicate 5 0)]) (.agg rfl rfl rfl (.agg rfl rfl rfl BdR.nil)))<|Zd (Zp (q:=[u5' (replicate 5 0),u5' y1,u5' y2,u5' (replicate 5 0)]) rfl rfl rfl rfl rfl .here<|Z1<|Zj ?_))
 revert h; refine Zv fun h=>?_
 subst h
 exact ⟨_,(.cons (.agg rfl .here rfl) .nil),rfl⟩
def Zdl (y1:(LI)) (k1:(LI)->OL) (k2:Int->(LI)->OL) (i1:Int) (a1:LI):OL :=
 br ((decide (i1<5))) (
 chk (inB i1 5) <|
 chk (inB i1 5) <|
 bnd (a1.getD (i1).toNat 0) fun z1 =>
 bnd (y1.getD (i1).toNat 0) fun z2 =>
 bnd (wrap .u64 (z1+z2)) fun z3 =>
 chk (inB i1 5) <|
 bnd (Z28 a1 (i1).toNat z3) fun l1 =>
 bnd (wrap .i64 (i1+1)) fun z4 =>
 k2 z4 l1
 ) (
 k1 a1
 )
def Z7l (y1:(LI)) (k1:(LI)->OL):Nat->Int->(LI)->OL
  | 0,_,_=>none
  | n+1,i1,a1=>Zdl y1 k1 (Z7l y1 k1 n) i1 a1
def Z2r (p0:LI) (p1:LI):OL :=
 opt (Z4k p0) fun y1 =>
 opt (Z4k p1) fun y2 =>
 jn (fun (a1:LI)=>opt (Z2i a1) fun y3 =>
 some y3) fun k1=>Z7l y2 k1 big 0 y1
theorem Z2n {W:World} {r:(LI)} {p0:LI} {p1:LI} (h:Z2r p0 p1=some r)  :
    Calls Tryz.prog 127 [agg [u5' p0],agg [u5' p1]].toArray W (Z34 W (agg [u5' r])):=by
 unfold Z2r at h
 refine Zc mo Z0jd rfl ?_
 refine Z0<|Z2<|Zd (Z0l (s:=[u5' p0]) rfl fun b1 u1=>Zd (Z0l (s:=[u5' p1]) rfl fun b2 u2=>Zd (Zq fun b3 u3=>Z1<|Z0<|oH h fun y1 f1 h=>oH h fun y2 f2 h=>Zt<|Zo _ (Z02 (p:=[u5' p0]) rfl .t2 rfl)<|Z7 _ (Z0h rfl (Z4a f1))<|Zo _ (Z02 (p:=[u5' p1]) rfl .t1 rfl)<|Z7 _ (Z0h rfl (Z4a f2))<|Z1i rfl (Zp (q:=[u5' y1]) rfl rfl rfl rfl rfl .t2<|Z03u rfl (Zp (q:=[u5' y2]) rfl rfl rfl rfl rfl .t1<|Z04<|Z0<|Z0<|Z2<|Z6 rfl<|Z1<|jH h fun k1 q1 h=>Zg (G:=fun t m=>∃ (a1:LI),k1 a1=some r/\Fit [(2,pt' b1),(4,pt' b3)] (ck b3 80 [u5' (replicate 5 0)]::(ck b2 80 [u5' y2]::(ck b1 80 [u5' a1] :: []))) t m) ?_ ?_)))))
 ·refine Z9<|Zm (fun n1 t m=>∃ (i1:Int) (a2:LI),Z7l y2 k1 n1 i1 a2=some r/\Fit [(2,pt' b1),(3,pt' b2),(4,pt' b3),(10,.int .i64 (i1))] (ck b3 80 [u5' (replicate 5 0)]::(ck b2 80 [u5' y2]::(ck b1 80 [u5' a2] :: []))) t m) big ?_ ?_
  ·exact ⟨0,y1,h,⟨⟨rfl,rfl,rfl,rfl,trivial⟩,(.o (.o (.o .nil)))⟩⟩
  ·rintro n1 t m ⟨i1,a2,h,hF⟩
   refine Ze hF ?_
   clear hF
   rcases n1 with _ | n1
   · exact Z07 h
   have h:Zdl y2 k1 (Z7l y2 k1 n1) i1 a2=some r:=h
   unfold Zdl at h
   obtain ⟨k2,q2⟩ : ∃ k,k=Z7l y2 k1 n1:=⟨_,rfl⟩
   try rw [<- q2] at h
   refine Z0<|Z2<|Z4 _ (Z8 rfl rfl rfl)<|Z1<|Z0<|Z09 h rfl (fun h=>?_) (fun h=>?_)
   ·refine Zh<|Z0<|Z9<|Z0<|Z2<|Z6 rfl<|Z6 rfl<|Z1<|cH h fun c1 h=>cH h fun c2 h=>bH h fun z1 e1 h=>bH h fun z2 e2 h=>bH h fun z3 e3 h=>cH h fun c3 h=>bH h fun l1 g1 h=>Zt<|Z7 _ (Z0j rfl)<|Z7 _ (Z0i rfl rfl (Z08 c1))<|Z7 _ (Z0j rfl)<|Z7 _ (Z0i rfl rfl (Z08 c2))<|Zo _ (iz e1 (Z1w (base:=0) rfl .t2 rfl (Z01 c1)))<|Zo _ (iz e2 (Z1w (base:=0) rfl .t1 rfl (Z01 c2)))<|Z7 _ (iz e3 (Z8 rfl rfl rfl))<|Z7 _ (Z0i rfl rfl (Z08 c3))<|Z1i rfl (Z1h (q:=[u5' l1]) (base:=0) g1 rfl rfl rfl (Z01 c3) rfl .t2<|Z04<|bH h fun z4 e4 h=>Z2<|Z4 _ (iz e4 (Z8 rfl rfl rfl))<|Z6 rfl<|Z1 ?_)
    rw [q2] at h
    exact ⟨n1,Nat.lt_succ_self _,z4,l1,h,⟨⟨rfl,rfl,rfl,rfl,trivial⟩,(.o (.o (.o .nil)))⟩⟩
   ·exact Zs _ rfl<|⟨a2,h,⟨⟨rfl,rfl,trivial⟩,(.o (.o (.o .nil)))⟩⟩
 ·rintro t m ⟨a1,h,hF⟩
  refine Ze hF ?_
  clear hF
  subst q1
  refine Z0<|oH h fun y3 f3 h=>Z2<|Z4 _ (Z02 (p:=[u5' a1]) rfl .t2 rfl)<|Z4 _ (Z0h rfl (Z2j f3))<|Zd (Zp (q:=[u5' y3]) rfl rfl rfl rfl rfl .here<|Z1<|Zj ?_)
  revert h; refine Zv fun h=>?_
  subst h
  exact ⟨_,(.cons (.agg rfl .here rfl) .nil),rfl⟩
def Zdn (y1:(LI)) (k1:(LI)->OL) (k2:Int->(LI)->OL) (i1:Int) (a1:LI):OL :=
 br ((decide (i1<5))) (
 chk (inB i1 5) <|
 bnd (y1.getD (i1).toNat 0) fun z1 =>
 bnd (wrap .u64 (4503599627370494-z1)) fun z2 =>
 chk (inB i1 5) <|
 bnd (Z28 a1 (i1).toNat z2) fun l1 =>
 bnd (wrap .i64 (i1+1)) fun z3 =>
 k2 z3 l1
 ) (
 k1 a1
 )
def Z7o (y1:(LI)) (k1:(LI)->OL):Nat->Int->(LI)->OL
  | 0,_,_=>none
  | n+1,i1,a1=>Zdn y1 k1 (Z7o y1 k1 n) i1 a1
def Zdm (p0:LI):OL :=
 opt (Z2i p0) fun y1 =>
 bnd (y1.getD 0 0) fun z1 =>
 bnd (wrap .u64 (4503599627370458-z1)) fun z2 =>
 bnd (([z2,0,0,0,0]:LI)) fun z3 =>
 jn (fun (a1:LI)=>opt (Z2i a1) fun y2 =>
 some y2) fun k1=>Z7o y1 k1 big 1 z3
theorem Zkp {W:World} {r:(LI)} {p0:LI} (h:Zdm p0=some r)  :
    Calls Tryz.prog 130 [agg [u5' p0]].toArray W (Z34 W (agg [u5' r])):=by
 unfold Zdm at h
 refine Zc mo Z0je rfl ?_
 refine Z0<|Z2<|Zd (Z0l (s:=[u5' p0]) rfl fun b1 u1=>Zd (Zq fun b2 u2=>Z1<|Z0<|oH h fun y1 f1 h=>Z2<|Z4 _ (Z02 (p:=[u5' p0]) rfl .t1 rfl)<|Z4 _ (Z0h rfl (Z2j f1))<|Zd (Zp (q:=[u5' y1]) rfl rfl rfl rfl rfl .t1<|Z1<|Z0<|bH h fun z1 e1 h=>bH h fun z2 e2 h=>bH h fun z3 e3 h=>Z2<|Z4 _ (Z0i rfl rfl (by decide))<|Z4 _ (iz e1 (Z0c rfl .t1 rfl))<|Z4 _ (iz e2 (Z8 rfl rfl rfl))<|Z4 _ (az (fun z=>agg [.ints .u64 5 z]) e3 (Zd2 (.one rfl rfl rfl BdR.nil)))<|Zd (Zq fun b3 u3=>Zd (Zp (q:=[u5' z3]) rfl rfl rfl rfl rfl .here<|Z1<|Z0<|Z0<|Z2<|Z6 rfl<|Z1<|jH h fun k1 q1 h=>Zg (G:=fun t m=>∃ (a1:LI),k1 a1=some r/\Fit [(2,pt' b2),(3,pt' b3)] (ck b3 80 [u5' a1]::(ck b2 80 [u5' (replicate 5 0)]::(ck b1 80 [u5' y1] :: []))) t m) ?_ ?_)))))
 ·refine Z9<|Zm (fun n1 t m=>∃ (i1:Int) (a2:LI),Z7o y1 k1 n1 i1 a2=some r/\Fit [(1,pt' b1),(2,pt' b2),(3,pt' b3),(4,.int .i64 (i1))] (ck b3 80 [u5' a2]::(ck b2 80 [u5' (replicate 5 0)]::(ck b1 80 [u5' y1] :: []))) t m) big ?_ ?_
  ·exact ⟨1,z3,h,⟨⟨rfl,rfl,rfl,rfl,trivial⟩,(.o (.o (.o .nil)))⟩⟩
  ·rintro n1 t m ⟨i1,a2,h,hF⟩
   refine Ze hF ?_
   clear hF
   rcases n1 with _ | n1
   · exact Z07 h
   have h:Zdn y1 k1 (Z7o y1 k1 n1) i1 a2=some r:=h
   unfold Zdn at h
   obtain ⟨k2,q2⟩ : ∃ k,k=Z7o y1 k1 n1:=⟨_,rfl⟩
   try rw [<- q2] at h
   refine Z0<|Z0<|Z2<|Z6 rfl<|Z4 _ (Z8 rfl rfl rfl)<|Z1<|Z09 h rfl (fun h=>?_) (fun h=>?_)
   ·refine Zh<|Z0<|Z9<|cH h fun c1 h=>bH h fun z4 e4 h=>bH h fun z5 e5 h=>cH h fun c2 h=>bH h fun l1 g1 h=>Z2<|Z6 rfl<|Z6 rfl<|Z4 _ (Z0i rfl rfl (Z08 c1))<|Z4 _ (iz e4 (Z1w (base:=0) rfl .t2 rfl (Z01 c1)))<|Z4 _ (iz e5 (Z8 rfl rfl rfl))<|Z4 _ (Z0i rfl rfl (Z08 c2))<|Zd (Z1h (q:=[u5' l1]) (base:=0) g1 rfl rfl rfl (Z01 c2) rfl .here<|Z1<|bH h fun z6 e6 h=>Z2<|Z6 rfl<|Z4 _ (iz e6 (Z8 rfl rfl rfl))<|Z6 rfl<|Z1 ?_)
    rw [q2] at h
    exact ⟨n1,Nat.lt_succ_self _,z6,l1,h,⟨⟨rfl,rfl,rfl,rfl,trivial⟩,(.o (.o (.o .nil)))⟩⟩
   ·exact Zs _ rfl<|⟨a2,h,⟨⟨rfl,rfl,trivial⟩,(.o (.o (.o .nil)))⟩⟩
 ·rintro t m ⟨a1,h,hF⟩
  refine Ze hF ?_
  clear hF
  subst q1
  refine Z0<|oH h fun y2 f2 h=>Z2<|Z4 _ (Z02 (p:=[u5' a1]) rfl .here rfl)<|Z4 _ (Z0h rfl (Z2j f2))<|Zd (Zp (q:=[u5' y2]) rfl rfl rfl rfl rfl .t1<|Z1<|Zj ?_)
  revert h; refine Zv fun h=>?_
  subst h
  exact ⟨_,(.cons (.agg rfl .t1 rfl) .nil),rfl⟩
def Z4x (p0:LI) (p1:LI):OL :=
 opt (Zdm p1) fun y1 =>
 opt (Z2r p0 y1) fun y2 =>
 some y2
theorem Z5t {W:World} {r:(LI)} {p0:LI} {p1:LI} (h:Z4x p0 p1=some r)  :
    Calls Tryz.prog 126 [agg [u5' p0],agg [u5' p1]].toArray W (Z34 W (agg [u5' r])):=by
 unfold Z4x at h
 refine Zc mo Z0jc rfl ?_
 refine Z0<|Z2<|Zd (Z0l (s:=[u5' p0]) rfl fun b1 u1=>Zd (Z0l (s:=[u5' p1]) rfl fun b2 u2=>Zd (Zq fun b3 u3=>Z1<|Z0<|oH h fun y1 f1 h=>oH h fun y2 f2 h=>Zt<|Zo _ (Z02 (p:=[u5' p0]) rfl .t2 rfl)<|Zo _ (Z02 (p:=[u5' p1]) rfl .t1 rfl)<|Z7 _ (Z0h rfl (Zkp f1))<|Z7 _ (Z0h rfl (Z2n f2))<|Z1i rfl (Zp (q:=[u5' y2]) rfl rfl rfl rfl rfl .here<|Z04<|Zj ?_))))
 revert h; refine Zv fun h=>?_
 subst h
 exact ⟨_,(.cons (.agg rfl .here rfl) .nil),rfl⟩
def Z7j (p0:LI) (p1:LI) (p2:LI) (p3:LI):Option (Zi) :=
 opt (Z1k p0 p1) fun y1 =>
 opt (Z1k p2 p3) fun y2 =>
 opt (Z1k p1 p2) fun y3 =>
 opt (Z1k p0 p3) fun y4 =>
 some (⟨y1,y2,y3,y4⟩:Zi)
theorem Zbk {W:World} {r:Zi} {p0:LI} {p1:LI} {p2:LI} {p3:LI} (h:Z7j p0 p1 p2 p3=some r)  :
    Calls Tryz.prog 191 [agg [u5' p0],agg [u5' p1],agg [u5' p2],agg [u5' p3]].toArray W (Z34 W (agg [u5' r.gX,u5' r.gY,u5' r.gZ,u5' r.gT])):=by
 unfold Z7j at h
 refine Zc mo Z0kd rfl ?_
 refine Z0<|Z2<|Zd (Z0l (s:=[u5' p0]) rfl fun b1 u1=>Zd (Z0l (s:=[u5' p1]) rfl fun b2 u2=>Zd (Z0l (s:=[u5' p2]) rfl fun b3 u3=>Zd (Z0l (s:=[u5' p3]) rfl fun b4 u4=>Zd (Zq fun b5 u5=>Z1<|Z0<|oH h fun y1 f1 h=>oH h fun y2 f2 h=>oH h fun y3 f3 h=>oH h fun y4 f4 h=>Zt<|Zo _ (Z02 (p:=[u5' p0]) rfl .t4 rfl)<|Zo _ (Z02 (p:=[u5' p1]) rfl .t3 rfl)<|Z7 _ (Z0h rfl (Z1b f1))<|Zo _ (Z02 (p:=[u5' p2]) rfl .t2 rfl)<|Zo _ (Z02 (p:=[u5' p3]) rfl .t1 rfl)<|Z7 _ (Z0h rfl (Z1b f2))<|Zo _ (Z02 (p:=[u5' p1]) rfl .t3 rfl)<|Zo _ (Z02 (p:=[u5' p2]) rfl .t2 rfl)<|Z7 _ (Z0h rfl (Z1b f3))<|Zo _ (Z02 (p:=[u5' p0]) rfl .t4 rfl)<|Zo _ (Z02 (p:=[u5' p3]) rfl .t1 rfl)<|Z7 _ (Z0h rfl (Z1b f4))<|Z7 _ (Zd2 (q:=[u5' y1,u5' y2,u5' y3,u5' y4]) (.agg rfl rfl rfl (.agg rfl rfl rfl (.agg rfl rfl rfl (.agg rfl rfl rfl BdR.nil)))))<|Z1i rfl (Zp (q:=[u5' y1,u5' y2,u5' y3,u5' y4]) rfl rfl rfl rfl rfl .here<|Z04<|Zj ?_))))))
 revert h; refine Zv fun h=>?_
 subst h
 exact ⟨_,(.cons (.agg rfl .here rfl) .nil),rfl⟩
def Z7v:OL :=
 bnd (([1859910466990425,932731440258426,1072319116312658,1815898335770999,633789495995903]:LI)) fun z1 =>
 some z1
theorem Zg4 {W:World} {r:(LI)} (h:Z7v=some r)  :
    Calls Tryz.prog 192 [].toArray W (Z34 W (agg [u5' r])):=by
 unfold Z7v at h
 refine Zc mo Z0ke rfl ?_
 refine Z0<|Z2<|Zd (Zq fun b1 u1=>Z1<|Z0<|bH h fun z1 e1 h=>Z2<|Z4 _ (az (fun z=>agg [.ints .u64 5 z]) e1 (Zd2 (.one rfl rfl rfl (.one rfl rfl rfl (.one rfl rfl rfl (.one rfl rfl rfl (.one rfl rfl rfl BdR.nil)))))))<|Zd (Zp (q:=[u5' z1]) rfl rfl rfl rfl rfl .here<|Z1<|Zj ?_))
 revert h; refine Zv fun h=>?_
 subst h
 exact ⟨_,(.cons (.agg rfl .here rfl) .nil),rfl⟩
def Za4 (p0:Zi) (p1:Zi):Option (Zi) :=
 opt (Z4x p0.gY p0.gX) fun y1 =>
 opt (Z4x p1.gY p1.gX) fun y2 =>
 opt (Z1k y1 y2) fun y3 =>
 opt (Z2r p0.gY p0.gX) fun y4 =>
 opt (Z2r p1.gY p1.gX) fun y5 =>
 opt (Z1k y4 y5) fun y6 =>
 opt (Z7v) fun y7 =>
 opt (Z1k p0.gT y7) fun y8 =>
 opt (Z1k y8 p1.gT) fun y9 =>
 opt (Z2r p0.gZ p0.gZ) fun y10 =>
 opt (Z1k y10 p1.gZ) fun y11 =>
 opt (Z4x y6 y3) fun y12 =>
 opt (Z4x y11 y9) fun y13 =>
 opt (Z2r y11 y9) fun y14 =>
 opt (Z2r y6 y3) fun y15 =>
 opt (Z7j y12 y13 y14 y15) fun y16 =>
 some y16
theorem Zf8 {W:World} {r:Zi} {p0:Zi} {p1:Zi} (h:Za4 p0 p1=some r)  :
    Calls Tryz.prog 136 [agg [u5' p0.gX,u5' p0.gY,u5' p0.gZ,u5' p0.gT],agg [u5' p1.gX,u5' p1.gY,u5' p1.gZ,u5' p1.gT]].toArray W (Z34 W (agg [u5' r.gX,u5' r.gY,u5' r.gZ,u5' r.gT])):=by
 unfold Za4 at h
 refine Zc mo Z0ji rfl ?_
 refine Z0<|Z2<|Zd (Z0l (s:=[u5' p0.gX,u5' p0.gY,u5' p0.gZ,u5' p0.gT]) rfl fun b1 u1=>Zd (Z0l (s:=[u5' p1.gX,u5' p1.gY,u5' p1.gZ,u5' p1.gT]) rfl fun b2 u2=>Zd (Zq fun b3 u3=>Z1<|Z0<|oH h fun y1 f1 h=>oH h fun y2 f2 h=>oH h fun y3 f3 h=>Zt<|Z7 _ (Z2l rfl)<|Z7 _ (Z2l rfl)<|Z7 _ (Z2l rfl)<|Z7 _ (Z2l rfl)<|Zo _ (Z02 (p:=[u5' p0.gY]) rfl .t2 rfl)<|Zo _ (Z02 (p:=[u5' p0.gX]) rfl .t2 rfl)<|Z7 _ (Z0h rfl (Z5t f1))<|Zo _ (Z02 (p:=[u5' p1.gY]) rfl .t1 rfl)<|Zo _ (Z02 (p:=[u5' p1.gX]) rfl .t1 rfl)<|Z7 _ (Z0h rfl (Z5t f2))<|Z7 _ (Z0h rfl (Z1b f3))<|Z47 (Zq fun b4 u4=>⟨(by repeat (first | exact Sup.refl _ | apply Sup.cons | apply Sup.app)),Z1i rfl (Zp (q:=[u5' y3]) rfl rfl rfl rfl rfl .here (Z04 (Z0 (oH h fun y4 f4 h=>oH h fun y5 f5 h=>oH h fun y6 f6 h=>Zt (Z7 _ (Z2l rfl) (Z7 _ (Z2l rfl) (Z7 _ (Z2l rfl) (Z7 _ (Z2l rfl) (Zo _ (Z02 (p:=[u5' p0.gY]) rfl .t3 rfl) (Zo _ (Z02 (p:=[u5' p0.gX]) rfl .t3 rfl) (Z7 _ (Z0h rfl (Z2n f4)) (Zo _ (Z02 (p:=[u5' p1.gY]) rfl .t2 rfl) (Zo _ (Z02 (p:=[u5' p1.gX]) rfl .t2 rfl) (Z7 _ (Z0h rfl (Z2n f5)) (Z7 _ (Z0h rfl (Z1b f6)) (Z47 (Zq fun b5 u5=>⟨(by repeat (first | exact Sup.refl _ | apply Sup.cons | apply Sup.app)),Z1i rfl (Zp (q:=[u5' y6]) rfl rfl rfl rfl rfl .here (Z04 (Z0 (oH h fun y7 f7 h=>Z2 (Z4 _ (Z0h rfl (Zg4 f7)) (Zd (Zq fun b6 u6=>Zd (Zp (q:=[u5' y7]) rfl rfl rfl rfl rfl .here (Z1 (Z0 (oH h fun y8 f8 h=>oH h fun y9 f9 h=>Zt (Z7 _ (Z2l rfl) (Z7 _ (Z2l rfl) (Zo _ (Z02 (p:=[u5' p0.gT]) rfl .t5 rfl) (Zo _ (Z02 (p:=[u5' y7]) rfl .here rfl) (Z7 _ (Z0h rfl (Z1b f8)) (Zo _ (Z02 (p:=[u5' p1.gT]) rfl .t4 rfl) (Z7 _ (Z0h rfl (Z1b f9)) (Z47 (Zq fun b7 u7=>⟨(by repeat (first | exact Sup.refl _ | apply Sup.cons | apply Sup.app)),Z1i rfl (Zp (q:=[u5' y9]) rfl rfl rfl rfl rfl .here (Z04 (Z0 (oH h fun y10 f10 h=>oH h fun y11 f11 h=>Zt (Z7 _ (Z2l rfl) (Z7 _ (Z2l rfl) (Z7 _ (Z2l rfl) (Zo _ (Z02 (p:=[u5' p0.gZ]) rfl .t6 rfl) (Zo _ (Z02 (p:=[u5' p0.gZ]) rfl .t6 rfl) (Z7 _ (Z0h rfl (Z2n f10)) (Zo _ (Z02 (p:=[u5' p1.gZ]) rfl .t5 rfl) (Z7 _ (Z0h rfl (Z1b f11)) (Z47 (Zq fun b8 u8=>⟨(by repeat (first | exact Sup.refl _ | apply Sup.cons | apply Sup.app)),Z1i rfl (Zp (q:=[u5' y11]) rfl rfl rfl rfl rfl .here (Z04 (Z0 (oH h fun y12 f12 h=>oH h fun y13 f13 h=>oH h fun y14 f14 h=>oH h fun y15 f15 h=>oH h fun y16 f16 h=>Zt (Zo _ (Z02 (p:=[u5' y6]) rfl .t3 rfl) (Zo _ (Z02 (p:=[u5' y3]) rfl .t4 rfl) (Z7 _ (Z0h rfl (Z5t f12)) (Zo _ (Z02 (p:=[u5' y11]) rfl .here rfl) (Zo _ (Z02 (p:=[u5' y9]) rfl .t1 rfl) (Z7 _ (Z0h rfl (Z5t f13)) (Zo _ (Z02 (p:=[u5' y11]) rfl .here rfl) (Zo _ (Z02 (p:=[u5' y9]) rfl .t1 rfl) (Z7 _ (Z0h rfl (Z2n f14)) (Zo _ (Z02 (p:=[u5' y6]) rfl .t3 rfl) (Zo _ (Z02 (p:=[u5' y3]) rfl .t4 rfl) (Z7 _ (Z0h rfl (Z2n f15)) (Z7 _ (Z0h rfl (Zbk f16)) (Z1i rfl (Zp (q:=[u5' y16.gX,u5' y16.gY,u5' y16.gZ,u5' y16.gT]) rfl rfl rfl rfl rfl .t5 (Z04 (Zj ?_)))))))))))))))))))))⟩))))))))))))))⟩))))))))))))))))))))⟩)))))))))))))))))⟩))))
 revert h; refine Zv fun h=>?_
 subst h
 exact ⟨_,(.cons (.agg rfl .t5 rfl) .nil),rfl⟩
end Go.Proofs.YtiflckckekjbnaaGreatDoor
