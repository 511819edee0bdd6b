/- Texts of a proof, one behind the other: L10 LZ F0 F1 F2 F3 F4 F5 F6 C1 C2 C3 G1 G2 V1 V2 N1 N2 N3 N7 N8 N9 N10 N11 N12. -/
import Derived.Test.YtiflckckekjbnaaGreatDoorOM4
import Derived.KernelRfl
namespace Go.Proofs.YtiflckckekjbnaaGreatDoor
open Go Go.Sx Go.RowKit
set_option linter.all false
set_option maxHeartbeats 400000
set_option maxRecDepth 100000
def Z9c (p0:List Int) (p1:Int) (p2:List Int):Option (api_Link×Bool) :=
 opt (Z61 (⟨p1,p2,(List.replicate 64 0)⟩:api_Link)) fun y8 =>
 br (y8.1) (
 some ((⟨0,(List.replicate 32 0),(List.replicate 64 0)⟩:api_Link),false)
 ) (
 opt (Zbz p0 y8.2) fun y19 =>
 some ((⟨p1,p2,y19⟩:api_Link),true)
 )
theorem Zeu {W:World} {r:api_Link×Bool} {p0:List Int} {p1:Int} {p2:List Int} (h:Z9c p0 p1 p2=some r) (hG:Globs W) :
    Calls Tryz.prog 27 [agg [.ints .u8 32 (p0)],.int .i64 (p1),agg [.ints .u8 32 (p2)]].toArray W (Z51 W (.tuple #[agg [.one (.int .i64 (r.1.gEpoch)),.ints .u8 32 (r.1.gKey),.ints .u8 64 (r.1.gSig)],.bool (r.2)])):=by
 unfold Z9c at h
 refine Zd mo ok27 rfl ?_
 refine Z0<|Z2<|Zg (Z16 (s:=[.ints .u8 32 (p0)]) rfl fun b2 hb2=>Zg (Z16 (s:=[.ints .u8 32 (p2)]) rfl fun b3 hb3=>Zg (Zx fun b4 hb4=>Z7 rfl<|Z1<|Z0<|Z2<|Z7 rfl<|Z6 _ (Z03 (p:=[.ints .u8 32 (p2)]) rfl (.there .here) rfl)<|Z6 _ (Zdv (q:=[.one (.int .i64 (p1)),.ints .u8 32 (p2),.ints .u8 64 ((List.replicate 64 0))]) (.one rfl rfl rfl (.agg rfl rfl rfl BdR.nil)))<|Zg (Zx fun b6 hb6=>Zg (Zu (q:=[.one (.int .i64 (p1)),.ints .u8 32 (p2),.ints .u8 64 ((List.replicate 64 0))]) rfl rfl rfl rfl rfl .here<|Z1<|Z0<|oH h fun y8 ey8 h=>Z2<|Z6 _ (Z03 (p:=[.one (.int .i64 (p1)),.ints .u8 32 (p2),.ints .u8 64 ((List.replicate 64 0))]) rfl .here rfl)<|Zg (Z00 rfl (fun w hw=>Z5o (p0:=(⟨p1,p2,(List.replicate 64 0)⟩:api_Link)) ey8 ) fun v9 Msv9 R10=>?_))))))
 obtain ⟨_,ms12,rfl,rfl,O13,N14⟩:=R10
 refine Z7 rfl<|Z1<|Z0<|Z0<|Z2<|Z7 rfl<|Z6 _ (Zl9 rfl (Shp.own O13) N14)<|Z1<|Z0s h rfl (fun h=>?_) (fun h=>?_)
 ·refine Z0<|Z2<|Z6 _ (Zdv (q:=[.one (.int .i64 (0)),.ints .u8 32 ((List.replicate 32 0)),.ints .u8 64 ((List.replicate 64 0))]) BdR.nil)<|Zg (Zu (q:=[.one (.int .i64 (0)),.ints .u8 32 ((List.replicate 32 0)),.ints .u8 64 ((List.replicate 64 0))]) rfl rfl rfl rfl rfl (.app (.there .here))<|Z7 rfl<|Z1<|Zk ?_)
  revert h; refine Zy fun h=>?_
  subst h
  exact ⟨_,(.cons (.agg rfl (.app (.there .here)) rfl) (.cons (.tmp rfl) .nil)),rfl⟩
 ·refine Zm<|Z0<|oH h fun y19 ey19 h=>Z2<|Z6 _ (Z03 (p:=[.ints .u8 32 (p0)]) rfl (.app (.there (.there (.there .here)))) rfl)<|Z7 rfl<|Z6 _ (Z0n rfl (fun w hw=>Zgk ey19 (hG.at hw (by simp)) ((Z1v O13 .here) w hw)))<|Z6 _ (Z64 rfl)<|Zg (Zu (q:=[.one (.int .i64 (p1)),.ints .u8 32 (p2),.ints .u8 64 (y19)]) rfl rfl rfl rfl rfl (.app .here)<|Z1<|Z0<|Z2<|Z6 _ (Z03 (p:=[.one (.int .i64 (p1)),.ints .u8 32 (p2),.ints .u8 64 (y19)]) rfl (.app .here) rfl)<|Zg (Zu (q:=[.one (.int .i64 (p1)),.ints .u8 32 (p2),.ints .u8 64 (y19)]) rfl rfl rfl rfl rfl (.app (.there .here))<|Z7 rfl<|Z1<|Zk ?_))
  revert h; refine Zy fun h=>?_
  subst h
  exact ⟨_,(.cons (.agg rfl (.app (.there .here)) rfl) (.cons (.tmp rfl) .nil)),rfl⟩
def Z0i:Option (Bool) :=
 bnd (([5,0,0,0,0,0,0,0,0,0,0,0,0,0,0,0,0,0,0,0,0,0,0,0,0,0,0,0,0,0,0,0]:List Int)) fun z3 =>
 opt (Z2h z3 []) fun y4 =>
 bnd (([1,0,0,0,0,0,0,0,0,0,0,0,0,0,0,0,0,0,0,0,0,0,0,0,0,0,0,0,0,0,0,0]:List Int)) fun z11 =>
 bnd (([6,0,0,0,0,0,0,0,0,0,0,0,0,0,0,0,0,0,0,0,0,0,0,0,0,0,0,0,0,0,0,0]:List Int)) fun z12 =>
 opt (Z9c z11 1 z12) fun y13 =>
 jn (fun (i24:Bool)=>some i24) fun k25=>chk (imp ((y4.2==0)&&((y4.1.length:Int)==1)) (inB 0 y4.1.length)) <|
 br (((((((y4.2==0)&&((y4.1.length:Int)==1))&&(ieq 32 (y4.1.getD (0:Int).toNat (List.replicate 32 0)) ([5,0,0,0,0,0,0,0,0,0,0,0,0,0,0,0,0,0,0,0,0,0,0,0,0,0,0,0,0,0,0,0]:List Int)))&&y13.2)&&(y13.1.gEpoch==1))&&(ieq 32 y13.1.gKey ([6,0,0,0,0,0,0,0,0,0,0,0,0,0,0,0,0,0,0,0,0,0,0,0,0,0,0,0,0,0,0,0]:List Int)))) (
 opt (Z61 y13.1) fun y28 =>
 k25 ((y28.2.length:Int)==40)
 ) (
 k25 false
 )
theorem Z36 {W:World} {r:Bool} (h:Z0i=some r) (hG:Globs W) :
    Calls Tryz.prog 47 [].toArray W (Z51 W (.bool (r))):=by
 unfold Z0i at h
 refine Zd mo ok47 rfl ?_
 refine Z0<|Z2<|Z7 rfl<|Z1<|Z0<|bH h fun z3 ez3 h=>oH h fun y4 ey4 h=>Z2<|Z6 _ (az (fun z=>agg [.ints .u8 32 z]) ez3 (Zdv (.one rfl rfl rfl BdR.nil)))<|Zg (Z00 rfl (fun w hw=>Z5a  ey4 (hG.at hw (by simp)) (Zv9 w hw)) fun v5 Msv5 R6=>?_)
 obtain ⟨v7,ms8,rfl,rfl,O9⟩:=R6
 refine Z7 rfl<|Z6 _ (Z19 rfl rfl)<|Z6 _ (Z19 rfl rfl)<|Z7 rfl<|Z7 rfl<|Z1<|Z0<|bH h fun z11 ez11 h=>bH h fun z12 ez12 h=>oH h fun y13 ey13 h=>Z2<|Z6 _ (az (fun z=>agg [.ints .u8 32 z]) ez11 (Zdv (.one rfl rfl rfl BdR.nil)))<|Z6 _ (az (fun z=>agg [.ints .u8 32 z]) ez12 (Zdv (.one rfl rfl rfl BdR.nil)))<|Z6 _ (Z0n rfl (fun w hw=>Zeu ey13 (hG.at hw (by simp))))<|Z7 rfl<|Z6 _ (Z19 rfl rfl)<|Z6 _ (Z19 rfl rfl)<|Zg (Zx fun b14 hb14=>Zg (Zu (q:=[.one (.int .i64 (y13.1.gEpoch)),.ints .u8 32 (y13.1.gKey),.ints .u8 64 (y13.1.gSig)]) rfl rfl rfl rfl rfl .here<|Z7 rfl<|Z1<|Z0<|jH h fun k25 qk25 h=>Zo (G:=fun t m=>∃ (i24:Bool),k25 i24=some r∧Fit [(0,.bool (i24))] (ck b14 51 [.one (.int .i64 (y13.1.gEpoch)),.ints .u8 32 (y13.1.gKey),.ints .u8 64 (y13.1.gSig)] :: []) t m) ?_ ?_))
 ·refine Z2<|cH h fun c27 h=>Z7 rfl<|Z6 _ (Za rfl rfl rfl)<|Z7 rfl<|Z7o rfl rfl rfl (fun hg1=>Z2s rfl _ (Z15 rfl) (Z2s rfl _ (Z2r rfl (Shp.own O9)) (Z2s rfl _ (Za rfl rfl rfl) (Z1u)))) (fun hg1=>rfl) rfl<|Z7 rfl<|Z7o rfl rfl rfl (fun hg1=>Z2s rfl _ (Z15 rfl) (Z2s rfl _ (Z3a rfl rfl (Shp.own O9) (Zgh c27 hg1)) (Z2s rfl _ (az (fun (zz:List Int)=>agg [.ints .u8 32 (zz)]) rfl (Zaf (E:=Z1b) (s:=[.ints .u8 32 ((y4.1.getD (0:Int).toNat (List.replicate 32 0)))]) rfl (Z1v O9 (.there .here)) (Z0w (Zgh c27 hg1)) rfl rfl)) (Z2s rfl _ (az (fun z=>agg [.ints .u8 32 z]) rfl (Zdv (.one rfl rfl rfl BdR.nil))) (Z2s rfl _ (Zgj rfl rfl rfl rfl _ (Z87 Z5z)) (Z1u)))))) (fun hg1=>rfl) rfl<|Z7 rfl<|Z7o rfl rfl rfl (fun hg1=>Z2s rfl _ (Z15 rfl) (Z1u)) (fun hg1=>rfl) rfl<|Z7 rfl<|Z7o rfl rfl rfl (fun hg1=>Z2s rfl _ (Z64 rfl) (Z2s rfl _ (Z2g rfl .here rfl) (Z2s rfl _ (Za rfl rfl rfl) (Z1u)))) (fun hg1=>rfl) rfl<|Z7 rfl<|Z7o rfl rfl rfl (fun hg1=>Z2s rfl _ (Z64 rfl) (Z2s rfl _ (Z03 (p:=[.ints .u8 32 (y13.1.gKey)]) rfl .here rfl) (Z2s rfl _ (az (fun z=>agg [.ints .u8 32 z]) rfl (Zdv (.one rfl rfl rfl BdR.nil))) (Z2s rfl _ (Zgj rfl rfl rfl rfl _ (Z87 Z5z)) (Z1u))))) (fun hg1=>rfl) rfl<|Z7 rfl<|Z0mk (tc:=44) h rfl (fun h=>?_) (fun h=>?_)
  ·refine oH h fun y28 ey28 h=>Zvs rfl _ (Z03 (p:=[.one (.int .i64 (y13.1.gEpoch)),.ints .u8 32 (y13.1.gKey),.ints .u8 64 (y13.1.gSig)]) rfl .here rfl)<|Z0ml rfl (Z00 rfl (fun w hw=>Z5o  ey28 ) fun v29 Msv29 R30=>?_)
   obtain ⟨_,ms32,rfl,rfl,O33,N34⟩:=R30
   exact Zvs rfl _ (Z2r rfl (Shp.own O33))<|Zvs rfl _ (Za rfl rfl rfl)<|Z6 _ (Zrs rfl rfl)<|Z7 rfl<|Z1<|⟨((y28.2.length:Int)==40),h,⟨⟨rfl,trivial⟩,(.one (.app .here) .nil)⟩⟩
  ·exact Zqy rfl rfl<|Zqy rfl rfl<|Zqy rfl rfl<|Zqy rfl rfl<|Z6 _ (Zrr rfl rfl)<|Z7 rfl<|Z1<|⟨false,h,⟨⟨rfl,trivial⟩,(.one .here .nil)⟩⟩
 ·rintro t m ⟨i24,h,hF⟩
  refine Zn hF ?_
  clear hF
  subst qk25
  refine Zk ?_
  revert h; refine Zy fun h=>?_
  subst h
  exact ⟨_,(.cons (.tmp rfl) .nil),rfl⟩
def Z17 (p0:List (api_Link)) (p1:List (api_Link)) (k39:Unit→Option (Int)) (k63:(Int)→Option (Int)) (i62:Int):Option (Int) :=
 br (((decide (i62<(p0.length:Int)))&&(decide (i62<(p1.length:Int))))) (
 chk (inB i62 p0.length) <|
 bnd (p0.getD (i62).toNat api_Link_z) fun x69 =>
 chk (inB i62 p1.length) <|
 bnd (p1.getD (i62).toNat api_Link_z) fun x71 =>
 br ((!((x69.gEpoch==x71.gEpoch)&&((ieq 32 x69.gKey x71.gKey)&&(ieq 64 x69.gSig x71.gSig))))) (
 some i62
 ) (
 bnd (IntKind.wrap .i64 (i62+1)) fun z75 =>
 k63 z75
 )
 ) (
 k39 ()
 )
def Z18 (p0:List (api_Link)) (p1:List (api_Link)) (k39:Unit→Option (Int)):Nat→(Int)→Option (Int)
  | 0,_=>none
  | n+1,i62=>Z17 p0 p1 k39 (Z18 p0 p1 k39 n) i62
def Z2c (p0:List (api_Link)) (p1:List (api_Link)):Option (Int) :=
 jn (fun (_:Unit)=>some (-1)) fun k39=>Z18 p0 p1 k39 big 0
theorem Zab {W:World} {r:Int} {p0:List (api_Link)} {p1:List (api_Link)} {v0:Value} {v1:Value} (h:Z2c p0 p1=some r) (A0:RdSl E_api_Link W v0 p0) (A1:RdSl E_api_Link W v1 p1) :
    Calls Tryz.prog 48 [v0,v1].toArray W (Z51 W (.int .i64 (r))):=by
 unfold Z2c at h
 refine Zd mo ok48 rfl ?_
 refine Z0<|Z2<|Z7 rfl<|Z1<|Z0<|Z0<|Z2<|Z7 rfl<|Z1<|jH h fun k39 qk39 h=>Zo (G:=fun t m=>k39 ()=some r∧Fit [] [] t m) ?_ ?_
 ·refine Zb<|Z01 (fun n64 t m=>∃ (i62:Int),Z18 p0 p1 k39 n64 i62=some r∧Fit [(0,v0),(1,v1),(5,.int .i64 (i62))] [] t m) big ?_ ?_
  ·exact ⟨0,h,⟨⟨rfl,rfl,rfl,trivial⟩,.nil⟩⟩
  ·rintro n64 t m ⟨i62,h,hF⟩
   refine Zn hF ?_
   clear hF
   rcases n64 with _ | n64
   · exact Z1d h
   have h:Z17 p0 p1 k39 (Z18 p0 p1 k39 n64) i62=some r:=h
   unfold Z17 at h
   obtain ⟨k63,qk63⟩ : ∃ k,k=Z18 p0 p1 k39 n64:=⟨_,rfl⟩
   try rw [← qk63] at h
   refine Z0<|Z0<|Z2<|Z7 rfl<|Z7 rfl<|Z6 _ (Z2r rfl (Shp.rd A0))<|Z6 _ (Za rfl rfl rfl)<|Z7 rfl<|Z7o rfl rfl rfl (fun hg1=>Z2s rfl _ (Z15 rfl) (Z2s rfl _ (Z15 rfl) (Z2s rfl _ (Z2r rfl (Shp.rd A1)) (Z2s rfl _ (Za rfl rfl rfl) (Z1u))))) (fun hg1=>rfl) rfl<|Z1<|Z0s h rfl (fun h=>?_) (fun h=>?_)
   ·refine Zm<|Z0<|Zb<|Z0<|cH h fun c68 h=>bH h fun x69 ex69 h=>cH h fun c70 h=>bH h fun x71 ex71 h=>Zv<|Z8 _ (Z15 rfl)<|Z8 _ (Z15 rfl)<|Z8 _ (Z3a rfl rfl (Shp.rd A0) c68)<|Z8 _ (Z15 rfl)<|Z8 _ (Z15 rfl)<|Z8 _ (Z3a rfl rfl (Shp.rd A1) c70)<|Zp _ (az (fun (x69:api_Link)=>agg [.one (.int .i64 (x69.gEpoch)),.ints .u8 32 (x69.gKey),.ints .u8 64 (x69.gSig)]) ex69 (Zaf (E:=E_api_Link) (s:=[.one (.int .i64 (((p0.getD (i62).toNat api_Link_z)).gEpoch)),.ints .u8 32 (((p0.getD (i62).toNat api_Link_z)).gKey),.ints .u8 64 (((p0.getD (i62).toNat api_Link_z)).gSig)]) rfl (Z0a A0 Z0h) (Z0w c68) rfl rfl))<|Zp _ (az (fun (x71:api_Link)=>agg [.one (.int .i64 (x71.gEpoch)),.ints .u8 32 (x71.gKey),.ints .u8 64 (x71.gSig)]) ex71 (Zaf (E:=E_api_Link) (s:=[.one (.int .i64 (((p1.getD (i62).toNat api_Link_z)).gEpoch)),.ints .u8 32 (((p1.getD (i62).toNat api_Link_z)).gKey),.ints .u8 64 (((p1.getD (i62).toNat api_Link_z)).gSig)]) rfl (Z0a A1 Z0h) (Z0w c70) rfl rfl))<|Z8 _ (Zgj (s:=[.one (.int .i64 (x69.gEpoch)),.ints .u8 32 (x69.gKey),.ints .u8 64 (x69.gSig)]) (s':=[.one (.int .i64 (x71.gEpoch)),.ints .u8 32 (x71.gKey),.ints .u8 64 (x71.gSig)]) rfl rfl rfl rfl _ (Zc5 rfl Zjt (Zc5 rfl Z5z (Z87 Z5z))))<|Z05<|Z0s h rfl (fun h=>?_) (fun h=>?_)
    ·refine Z0<|Z2<|Z7 rfl<|Z7 rfl<|Z1<|Zk ?_
     revert h; refine Zy fun h=>?_
     subst h
     exact ⟨_,(.cons (.tmp rfl) .nil),rfl⟩
    ·refine Zm<|bH h fun z75 ez75 h=>Z2<|Z7 rfl<|Z6 _ (iz ez75 (Za rfl rfl rfl))<|Z7 rfl<|Z1 ?_
     rw [qk63] at h
     exact ⟨n64,Nat.lt_succ_self _,z75,h,⟨⟨rfl,rfl,rfl,trivial⟩,.nil⟩⟩
   ·exact Z0e _ rfl<|⟨h,⟨trivial,.nil⟩⟩
 ·rintro t m ⟨h,hF⟩
  refine Zn hF ?_
  clear hF
  subst qk39
  refine Z0<|Z2<|Z7 rfl<|Z1<|Zk ?_
  revert h; refine Zy fun h=>?_
  subst h
  exact ⟨_,(.cons (.tmp rfl) .nil),rfl⟩
def Z2f (p0:List Int) (p1:List (api_Link)) (p2:List (api_Link)) (p3:List (api_Link)):Option (Bool) :=
 opt (Z2n p0 p1 p2 p3) fun y4 =>
 br ((!y4)) (
 some false
 ) (
 opt (Z2h p0 p1) fun y8 =>
 opt (Z2h p0 p2) fun y15 =>
 opt (Z2t p0 p1 p2) fun y22 =>
 opt (Z2t p0 p2 p1) fun y29 =>
 br (((y8.2 != 0)||(y15.2 != 0))) (
 chk (imp ((((y22.2 != 0)&&(y29.2 != 0))&&((y22.1.length:Int)==0))&&((y29.1.length:Int)==0)) ((Z0i).isSome)) <|
 some (((((y22.2 != 0)&&(y29.2 != 0))&&((y22.1.length:Int)==0))&&((y29.1.length:Int)==0))&&((Z0i).getD false))
 ) (
 opt (Z2c p1 p2) fun y40 =>
 br ((decide (y40<0))) (
 jn (fun (l48:List (api_Link))=>chk (imp ((y22.2==0)&&(y29.2==0)) ((Zh y22.1 l48).isSome)) <|
 chk (imp (((y22.2==0)&&(y29.2==0))&&((Zh y22.1 l48).getD false)) ((Zh y29.1 l48).isSome)) <|
 chk (imp ((((y22.2==0)&&(y29.2==0))&&((Zh y22.1 l48).getD false))&&((Zh y29.1 l48).getD false)) ((Z0i).isSome)) <|
 some (((((y22.2==0)&&(y29.2==0))&&((Zh y22.1 l48).getD false))&&((Zh y29.1 l48).getD false))&&((Z0i).getD false))) fun k50=>br ((decide ((p2.length:Int)>(p1.length:Int)))) (
 k50 p2
 ) (
 k50 p1
 )
 ) (
 chk (imp (!(((y22.2 != 171)||(y29.2 != 171))||(decide (y40≥(y8.1.length:Int))))) (inB y40 p1.length)) <|
 chk (imp (!((((y22.2 != 171)||(y29.2 != 171))||(decide (y40≥(y8.1.length:Int))))||((p1.getD (y40).toNat api_Link_z).gEpoch != IntKind.wrap .i64 (y40+1)))) (inB y40 p2.length)) <|
 br ((((((y22.2 != 171)||(y29.2 != 171))||(decide (y40≥(y8.1.length:Int))))||((p1.getD (y40).toNat api_Link_z).gEpoch != IntKind.wrap .i64 (y40+1)))||((p2.getD (y40).toNat api_Link_z).gEpoch != IntKind.wrap .i64 (y40+1)))) (
 some false
 ) (
 jn (fun (i93:Bool)=>some i93) fun k94=>chk (inB y40 y8.1.length) <|
 bnd (y8.1.getD (y40).toNat (List.replicate 32 0)) fun x97 =>
 chk (inB y40 p1.length) <|
 bnd (p1.getD (y40).toNat api_Link_z) fun x99 =>
 chk (inB y40 p1.length) <|
 bnd (p1.getD (y40).toNat api_Link_z) fun x101 =>
 opt (Z61 x99) fun y102 =>
 opt (Z4v x97 y102.2 x101.gSig) fun y109 =>
 br (y109) (
 chk (inB y40 y8.1.length) <|
 bnd (y8.1.getD (y40).toNat (List.replicate 32 0)) fun x111 =>
 chk (inB y40 p2.length) <|
 bnd (p2.getD (y40).toNat api_Link_z) fun x113 =>
 chk (inB y40 p2.length) <|
 bnd (p2.getD (y40).toNat api_Link_z) fun x115 =>
 opt (Z61 x113) fun y116 =>
 opt (Z4v x111 y116.2 x115.gSig) fun y123 =>
 chk (imp y123 ((Z0i).isSome)) <|
 k94 (y123&&((Z0i).getD false))
 ) (
 chk (imp false ((Z0i).isSome)) <|
 k94 false
 )
 )
 )
 )
 )
theorem fareboxlaw30_RotateOneWay_spec {W:World} {r:Bool} {p0:List Int} {p1:List (api_Link)} {p2:List (api_Link)} {p3:List (api_Link)} {v1:Value} {v2:Value} {v3:Value} (h:Z2f p0 p1 p2 p3=some r) (hG:Globs W) (A1:RdSl E_api_Link W v1 p1) (A2:RdSl E_api_Link W v2 p2) (A3:RdSl E_api_Link W v3 p3) :
    Calls Tryz.prog 9 [agg [.ints .u8 32 (p0)],v1,v2,v3].toArray W (Z51 W (.bool (r))):=by
 unfold Z2f at h
 refine Zd mo ok9 rfl ?_
 refine Z0<|Z2<|Zg (Z16 (s:=[.ints .u8 32 (p0)]) rfl fun b2 hb2=>Z7 rfl<|Z1<|Z0<|Z0<|oH h fun y4 ey4 h=>Z2<|Z6 _ (Z03 (p:=[.ints .u8 32 (p0)]) rfl .here rfl)<|Z7 rfl<|Z7 rfl<|Z7 rfl<|Z6 _ (Z0n rfl (fun w hw=>Z9k ey4 (hG.at hw (by simp)) ((Z0a A1 Z0h) w hw) ((Z0a A2 Z0h) w hw) ((Z0a A3 Z0h) w hw)))<|Z6 _ (Zmo rfl rfl)<|Z1<|Z0s h rfl (fun h=>?_) (fun h=>?_))
 ·refine Z0<|Z2<|Z7 rfl<|Z1<|Zk ?_
  revert h; refine Zy fun h=>?_
  subst h
  exact ⟨_,(.cons (.tmp rfl) .nil),rfl⟩
 ·refine Zm<|Z0<|oH h fun y8 ey8 h=>Z2<|Z6 _ (Z03 (p:=[.ints .u8 32 (p0)]) rfl .here rfl)<|Z7 rfl<|Zg (Z00 rfl (fun w hw=>Z5a  ey8 (hG.at hw (by simp)) ((Z0a A1 Z0h) w hw)) fun v9 Msv9 R10=>?_)
  obtain ⟨v11,ms12,rfl,rfl,O13⟩:=R10
  refine Z7 rfl<|Z6 _ (Z19 rfl rfl)<|Z6 _ (Z19 rfl rfl)<|Z7 rfl<|Z7 rfl<|Z1<|Z0<|oH h fun y15 ey15 h=>Z2<|Z6 _ (Z03 (p:=[.ints .u8 32 (p0)]) rfl (.app .here) rfl)<|Z7 rfl<|Zg (Z00 rfl (fun w hw=>Z5a  ey15 (hG.at hw (by simp)) ((Z0a A2 Z0h) w hw)) fun v16 Msv16 R17=>?_)
  obtain ⟨v18,ms19,rfl,rfl,O20⟩:=R17
  refine Z7 rfl<|Z6 _ (Z19 rfl rfl)<|Z6 _ (Z19 rfl rfl)<|Z7 rfl<|Z7 rfl<|Z1<|Z0<|oH h fun y22 ey22 h=>Z2<|Z6 _ (Z03 (p:=[.ints .u8 32 (p0)]) rfl (.app (.app .here)) rfl)<|Z7 rfl<|Z7 rfl<|Zg (Z00 rfl (fun w hw=>Z2d  ey22 (hG.at hw (by simp)) ((Z0a A1 Z0h) w hw) ((Z0a A2 Z0h) w hw)) fun v23 Msv23 R24=>?_)
  obtain ⟨v25,ms26,rfl,rfl,O27⟩:=R24
  refine Z7 rfl<|Z6 _ (Z19 rfl rfl)<|Z6 _ (Z19 rfl rfl)<|Z7 rfl<|Z7 rfl<|Z1<|Z0<|oH h fun y29 ey29 h=>Z2<|Z6 _ (Z03 (p:=[.ints .u8 32 (p0)]) rfl (.app (.app (.app .here))) rfl)<|Z7 rfl<|Z7 rfl<|Zg (Z00 rfl (fun w hw=>Z2d  ey29 (hG.at hw (by simp)) ((Z0a A2 Z0h) w hw) ((Z0a A1 Z0h) w hw)) fun v30 Msv30 R31=>?_)
  obtain ⟨v32,ms33,rfl,rfl,O34⟩:=R31
  refine Z7 rfl<|Z6 _ (Z19 rfl rfl)<|Z6 _ (Z19 rfl rfl)<|Z7 rfl<|Z7 rfl<|Z1<|Z0<|Z0<|Z2<|Z7 rfl<|Z6 _ (Za rfl rfl rfl)<|Z7 rfl<|Zee rfl rfl rfl (fun hg1=>Z2s rfl _ (Z15 rfl) (Z2s rfl _ (Za rfl rfl rfl) (Z1u))) (fun hg1=>rfl) rfl<|Z1<|Z0s h rfl (fun h=>?_) (fun h=>?_)
  ·refine Z0<|cH h fun c38 h=>Z2<|Z7 rfl<|Z6 _ (Za rfl rfl rfl)<|Z7 rfl<|Z7o rfl rfl rfl (fun hg1=>Z2s rfl _ (Z15 rfl) (Z2s rfl _ (Za rfl rfl rfl) (Z1u))) (fun hg1=>rfl) rfl<|Z7 rfl<|Z7o rfl rfl rfl (fun hg1=>Z2s rfl _ (Z15 rfl) (Z2s rfl _ (Z2r rfl (Shp.own O27)) (Z2s rfl _ (Za rfl rfl rfl) (Z1u)))) (fun hg1=>rfl) rfl<|Z7 rfl<|Z7o rfl rfl rfl (fun hg1=>Z2s rfl _ (Z15 rfl) (Z2s rfl _ (Z2r rfl (Shp.own O34)) (Z2s rfl _ (Za rfl rfl rfl) (Z1u)))) (fun hg1=>rfl) rfl<|Z7 rfl<|Z7o rfl rfl rfl (fun hg1=>Z2s rfl _ (Z0n rfl (fun w hw=>Z36 (getD_some (z:=false) (Zgh c38 hg1)) (hG.at hw (by simp)))) (Z1u)) (fun hg1=>rfl) rfl<|Z7 rfl<|Z1<|Zk ?_
   revert h; refine Zy fun h=>?_
   subst h
   exact ⟨_,(.cons (.tmp rfl) .nil),rfl⟩
  ·refine Zm<|Z0<|oH h fun y40 ey40 h=>Z2<|Z7 rfl<|Z7 rfl<|Z6 _ (Z0n rfl (fun w hw=>Zab ey40 ((Z0a A1 Z0h) w hw) ((Z0a A2 Z0h) w hw)))<|Z7 rfl<|Z1<|Z0<|Z0<|Z2<|Z7 rfl<|Z6 _ (Za rfl rfl rfl)<|Z1<|Z0s h rfl (fun h=>?_) (fun h=>?_)
   ·refine Z0<|Z2<|Z7 rfl<|Z7 rfl<|Z1<|Z0<|Z0<|Z2<|Z7 rfl<|Z6 _ (Z2r rfl (Shp.rd A2))<|Z7 rfl<|Z6 _ (Z2r rfl (Shp.rd A1))<|Z6 _ (Za rfl rfl rfl)<|Z1<|jH h fun k50 qk50 h=>Zo (G:=fun t m=>∃ (l48:List (api_Link)) (v47:Value),k50 l48=some r∧RdSl E_api_Link W v47 l48∧Fit [(13,v25),(14,.int .i64 (y22.2)),(15,v32),(16,.int .i64 (y29.2)),(18,v47)] (ms33++(ms26++(ck b2 29 [.ints .u8 32 (p0)] :: []))) t m) ?_ ?_
    ·refine Z0s h rfl (fun h=>?_) (fun h=>?_)
     ·exact Z2<|Z7 rfl<|Z7 rfl<|Z1<|⟨p2,v2,h,A2,⟨⟨rfl,rfl,rfl,rfl,rfl,trivial⟩,(.all .here (.all .here (.one (.app (.app .here)) .nil)))⟩⟩
     ·exact Zm<|⟨p1,v1,h,A1,⟨⟨rfl,rfl,rfl,rfl,rfl,trivial⟩,(.all .here (.all .here (.one (.app (.app .here)) .nil)))⟩⟩
    ·rintro t m ⟨l48,v47,h,A49,hF⟩
     refine Zn hF ?_
     clear hF
     subst qk50
     refine Z0<|cH h fun c54 h=>cH h fun c55 h=>cH h fun c56 h=>Z2<|Z7 rfl<|Z6 _ (Za rfl rfl rfl)<|Z7 rfl<|Z7o rfl rfl rfl (fun hg1=>Z2s rfl _ (Z15 rfl) (Z2s rfl _ (Za rfl rfl rfl) (Z1u))) (fun hg1=>rfl) rfl<|Z7 rfl<|Z7o rfl rfl rfl (fun hg1=>Z2s rfl _ (Z15 rfl) (Z2s rfl _ (Z15 rfl) (Z2s rfl _ (Z0n rfl (fun w hw=>Z3g (getD_some (z:=false) (Zgh c54 hg1)) ((Z1v O27 (.app .here)) w hw) ((Z0a A49 Z0h) w hw))) (Z1u)))) (fun hg1=>rfl) rfl<|Z7 rfl<|Z7o rfl rfl rfl (fun hg1=>Z2s rfl _ (Z15 rfl) (Z2s rfl _ (Z15 rfl) (Z2s rfl _ (Z0n rfl (fun w hw=>Z3g (getD_some (z:=false) (Zgh c55 hg1)) ((Z1v O34 .here) w hw) ((Z0a A49 Z0h) w hw))) (Z1u)))) (fun hg1=>rfl) rfl<|Z7 rfl<|Z7o rfl rfl rfl (fun hg1=>Z2s rfl _ (Z0n rfl (fun w hw=>Z36 (getD_some (z:=false) (Zgh c56 hg1)) (hG.at hw (by simp)))) (Z1u)) (fun hg1=>rfl) rfl<|Z7 rfl<|Z1<|Zk ?_
     revert h; refine Zy fun h=>?_
     subst h
     exact ⟨_,(.cons (.tmp rfl) .nil),rfl⟩
   ·refine Zm<|Z0<|Z0<|cH h fun c58 h=>cH h fun c59 h=>Z2<|Z7 rfl<|Z6 _ (Za rfl rfl rfl)<|Z7 rfl<|Zee rfl rfl rfl (fun hg1=>Z2s rfl _ (Z15 rfl) (Z2s rfl _ (Za rfl rfl rfl) (Z1u))) (fun hg1=>rfl) rfl<|Z7 rfl<|Zee rfl rfl rfl (fun hg1=>Z2s rfl _ (Z15 rfl) (Z2s rfl _ (Z15 rfl) (Z2s rfl _ (Z2r rfl (Shp.own O13)) (Z2s rfl _ (Za rfl rfl rfl) (Z1u))))) (fun hg1=>rfl) rfl<|Z7 rfl<|Zee rfl rfl rfl (fun hg1=>Z2s rfl _ (Z15 rfl) (Z2s rfl _ (Z15 rfl) (Z2s rfl _ (Z3a rfl rfl (Shp.rd A1) (Zhr c58 hg1)) (Z2s rfl _ (Z64 rfl) (Z2s rfl _ (az (fun (zz:api_Link)=>.int .i64 (zz.gEpoch)) rfl (Zo6 (E:=E_api_Link) (s:=[.one (.int .i64 (((p1.getD (y40).toNat api_Link_z)).gEpoch)),.ints .u8 32 (((p1.getD (y40).toNat api_Link_z)).gKey),.ints .u8 64 (((p1.getD (y40).toNat api_Link_z)).gSig)]) (c:=0) rfl (Z0a A1 Z0h) (Z0w (Zhr c58 hg1)) rfl rfl)) (Z2s rfl _ (Z15 rfl) (Z2s rfl _ (iz rfl (Za rfl rfl rfl)) (Z2s rfl _ (Za rfl rfl rfl) (Z1u))))))))) (fun hg1=>rfl) rfl<|Z7 rfl<|Zee rfl rfl rfl (fun hg1=>Z2s rfl _ (Z15 rfl) (Z2s rfl _ (Z15 rfl) (Z2s rfl _ (Z3a rfl rfl (Shp.rd A2) (Zhr c59 hg1)) (Z2s rfl _ (Z64 rfl) (Z2s rfl _ (az (fun (zz:api_Link)=>.int .i64 (zz.gEpoch)) rfl (Zo6 (E:=E_api_Link) (s:=[.one (.int .i64 (((p2.getD (y40).toNat api_Link_z)).gEpoch)),.ints .u8 32 (((p2.getD (y40).toNat api_Link_z)).gKey),.ints .u8 64 (((p2.getD (y40).toNat api_Link_z)).gSig)]) (c:=0) rfl (Z0a A2 Z0h) (Z0w (Zhr c59 hg1)) rfl rfl)) (Z2s rfl _ (Z15 rfl) (Z2s rfl _ (iz rfl (Za rfl rfl rfl)) (Z2s rfl _ (Za rfl rfl rfl) (Z1u))))))))) (fun hg1=>rfl) rfl<|Z1<|Z0s h rfl (fun h=>?_) (fun h=>?_)
    ·refine Z0<|Z2<|Z7 rfl<|Z1<|Zk ?_
     revert h; refine Zy fun h=>?_
     subst h
     exact ⟨_,(.cons (.tmp rfl) .nil),rfl⟩
    ·refine Zm<|Z0<|jH h fun k94 qk94 h=>Zo (G:=fun t m=>∃ (i93:Bool),k94 i93=some r∧Fit [(8,.bool (i93))] (ck b2 29 [.ints .u8 32 (p0)] :: []) t m) ?_ ?_
     ·refine Zv<|cH h fun c96 h=>bH h fun x97 ex97 h=>cH h fun c98 h=>bH h fun x99 ex99 h=>cH h fun c100 h=>bH h fun x101 ex101 h=>oH h fun y102 ey102 h=>oH h fun y109 ey109 h=>Z8 _ (Z15 rfl)<|Z8 _ (Z15 rfl)<|Z8 _ (Z3a rfl rfl (Shp.own O13) c96)<|Z8 _ (Z15 rfl)<|Z8 _ (Z15 rfl)<|Z8 _ (Z3a rfl rfl (Shp.rd A1) c98)<|Z8 _ (Z15 rfl)<|Z8 _ (Z15 rfl)<|Z8 _ (Z3a rfl rfl (Shp.rd A1) c100)<|Z8 _ (Z64 rfl)<|Zp _ (az (fun (x97:List Int)=>agg [.ints .u8 32 (x97)]) ex97 (Zaf (E:=Z1b) (s:=[.ints .u8 32 ((y8.1.getD (y40).toNat (List.replicate 32 0)))]) rfl (Z1v O13 (.app (.app (.app .here)))) (Z0w c96) rfl rfl))<|Zp _ (az (fun (x99:api_Link)=>agg [.one (.int .i64 (x99.gEpoch)),.ints .u8 32 (x99.gKey),.ints .u8 64 (x99.gSig)]) ex99 (Zaf (E:=E_api_Link) (s:=[.one (.int .i64 (((p1.getD (y40).toNat api_Link_z)).gEpoch)),.ints .u8 32 (((p1.getD (y40).toNat api_Link_z)).gKey),.ints .u8 64 (((p1.getD (y40).toNat api_Link_z)).gSig)]) rfl (Z0a A1 Z0h) (Z0w c98) rfl rfl))<|Zp _ (az (fun (x101:api_Link)=>agg [.ints .u8 64 (x101.gSig)]) ex101 (Zu6 (E:=E_api_Link) (s:=[.one (.int .i64 (((p1.getD (y40).toNat api_Link_z)).gEpoch)),.ints .u8 32 (((p1.getD (y40).toNat api_Link_z)).gKey),.ints .u8 64 (((p1.getD (y40).toNat api_Link_z)).gSig)]) (c:=33) rfl (Z0a A1 Z0h) (Z0w c100) rfl rfl))<|Z7j (Z00 rfl (fun w hw=>Z5o  ey102 ) fun v103 Msv103 R104=>?_)
      obtain ⟨_,ms106,rfl,rfl,O107,N108⟩:=R104
      refine ⟨(by repeat (first | exact Sup.refl _ | apply Sup.cons | apply Sup.app)),Zke _ (Z0n rfl (fun w hw=>Z8t ey109 (hG.at hw (by simp)) ((Z1v O107 .here) w hw))) (Z8 _ (Z15 rfl) (Z0mn (tc:=154) h rfl (fun h=>?_) (fun h=>?_))) (by repeat (first | exact Sup.refl _ | apply Sup.cons | apply Sup.app))⟩
      ·refine cH h fun c110 h=>bH h fun x111 ex111 h=>cH h fun c112 h=>bH h fun x113 ex113 h=>cH h fun c114 h=>bH h fun x115 ex115 h=>oH h fun y116 ey116 h=>oH h fun y123 ey123 h=>cH h fun c124 h=>Zgm rfl _ (Z15 rfl)<|Zgm rfl _ (Z15 rfl)<|Zgm rfl _ (Z3a rfl rfl (Shp.own O13) c110)<|Zgm rfl _ (Z15 rfl)<|Zgm rfl _ (Z15 rfl)<|Zgm rfl _ (Z3a rfl rfl (Shp.rd A2) c112)<|Zgm rfl _ (Z15 rfl)<|Zgm rfl _ (Z15 rfl)<|Zgm rfl _ (Z3a rfl rfl (Shp.rd A2) c114)<|Zgm rfl _ (Z64 rfl)<|Zvt rfl _ (az (fun (x111:List Int)=>agg [.ints .u8 32 (x111)]) ex111 (Zaf (E:=Z1b) (s:=[.ints .u8 32 ((y8.1.getD (y40).toNat (List.replicate 32 0)))]) rfl (Z1v O13 (.app (.app (.app .here)))) (Z0w c110) rfl rfl))<|Zvt rfl _ (az (fun (x113:api_Link)=>agg [.one (.int .i64 (x113.gEpoch)),.ints .u8 32 (x113.gKey),.ints .u8 64 (x113.gSig)]) ex113 (Zaf (E:=E_api_Link) (s:=[.one (.int .i64 (((p2.getD (y40).toNat api_Link_z)).gEpoch)),.ints .u8 32 (((p2.getD (y40).toNat api_Link_z)).gKey),.ints .u8 64 (((p2.getD (y40).toNat api_Link_z)).gSig)]) rfl (Z0a A2 Z0h) (Z0w c112) rfl rfl))<|Zvt rfl _ (az (fun (x115:api_Link)=>agg [.ints .u8 64 (x115.gSig)]) ex115 (Zu6 (E:=E_api_Link) (s:=[.one (.int .i64 (((p2.getD (y40).toNat api_Link_z)).gEpoch)),.ints .u8 32 (((p2.getD (y40).toNat api_Link_z)).gKey),.ints .u8 64 (((p2.getD (y40).toNat api_Link_z)).gSig)]) (c:=33) rfl (Z0a A2 Z0h) (Z0w c114) rfl rfl))<|Zs6 rfl (Z00 rfl (fun w hw=>Z5o  ey116 ) fun v117 Msv117 R118=>?_)
       obtain ⟨_,ms120,rfl,rfl,O121,N122⟩:=R118
       exact ⟨(by repeat (first | exact Sup.refl _ | apply Sup.cons | apply Sup.app)),Z0aj rfl _ (Z0n rfl (fun w hw=>Z8t ey123 (hG.at hw (by simp)) ((Z1v O121 .here) w hw))) (Z8 _ (Zrs rfl rfl) (Z8 _ (Z15 rfl) (Zp3 rfl rfl rfl (fun hg1=>Z2s rfl _ (Z0n rfl (fun w hw=>Z36 (getD_some (z:=false) (Zgh c124 hg1)) (hG.at hw (by simp)))) (Z1u)) (fun hg1=>rfl) rfl (Z8 _ (Z15 rfl) (Z05 (⟨(y123&&((Z0i).getD false)),h,⟨⟨rfl,trivial⟩,(.one (.app (.app (.app (.app (.app (.app .here)))))) .nil)⟩⟩)))))) (by repeat (first | exact Sup.refl _ | apply Sup.cons | apply Sup.app))⟩
      ·exact cH h fun c125 h=>Zct rfl rfl<|Zct rfl rfl<|Zct rfl rfl<|Zct rfl rfl<|Zct rfl rfl<|Zct rfl rfl<|Zct rfl rfl<|Zct rfl rfl<|Zct rfl rfl<|Zct rfl rfl<|Zp2 rfl rfl<|Zp2 rfl rfl<|Zp2 rfl rfl<|Z0ak rfl rfl<|Z0ak rfl rfl<|Z8 _ (Zrr rfl rfl)<|Z8 _ (Z15 rfl)<|Zp3 rfl rfl rfl (fun hg1=>Z2s rfl _ (Z0n rfl (fun w hw=>Z36 (getD_some (z:=false) (Zgh c125 hg1)) (hG.at hw (by simp)))) (Z1u)) (fun hg1=>rfl) rfl<|Z8 _ (Z15 rfl)<|Z05<|⟨false,h,⟨⟨rfl,trivial⟩,(.one (.app (.app (.app (.app (.app .here))))) .nil)⟩⟩
     ·rintro t m ⟨i93,h,hF⟩
      refine Zn hF ?_
      clear hF
      subst qk94
      refine Zk ?_
      revert h; refine Zy fun h=>?_
      subst h
      exact ⟨_,(.cons (.tmp rfl) .nil),rfl⟩
end Go.Proofs.YtiflckckekjbnaaGreatDoor

namespace Go.Proofs.YtiflckckekjbnaaGreatDoor
open Go Go.Sx Go.RowKit
set_option linter.all false
theorem Zc2 (x:Int):IntKind.u64.wrap x=x%18446744073709551616:=by simp [IntKind.wrap,IntKind.bits,IntKind.signed]
theorem Z0c (x:Int):IntKind.u8.wrap x=x%256:=by simp [IntKind.wrap,IntKind.bits,IntKind.signed]
theorem Zt {x:Int} (h0:0≤x) (h1:x<18446744073709551616):IntKind.u64.wrap x=x:=by rw [Zc2]; omega
theorem Zs {x:Int} (h0 : -9223372036854775808≤x) (h1:x≤9223372036854775807):IntKind.i64.wrap x=x:=by rw [IntKind.wrap_i64]; omega
theorem bv64 (m:Nat) (h:m<18446744073709551616):(BitVec.ofInt 64 (m:Int)).toNat=m:=by
  rw [BitVec.toNat_ofInt]; simp; omega
theorem bv8 (m:Nat) (h:m<256):(BitVec.ofInt 8 (m:Int)).toNat=m:=by
  rw [BitVec.toNat_ofInt]; simp; omega
theorem Z0b0 {x y:Int} (m n:Nat) (hx:x=m) (hy:y=n) (h1:m<18446744073709551616) (h2:n<18446744073709551616):Z4 .and .u64 x y=((m &&& n:Nat):Int):=by
  subst hx; subst hy
  show IntKind.u64.wrap (((BitVec.ofInt 64 (m:Int) &&& BitVec.ofInt 64 (n:Int)).toNat:Nat):Int)=_
  rw [BitVec.toNat_and,bv64 m h1,bv64 n h2,Zt (by omega)]
  have:m &&& n≤m:=Nat.and_le_left
  omega
theorem or64 {x y:Int} (m n:Nat) (hx:x=m) (hy:y=n) (h1:m<18446744073709551616) (h2:n<18446744073709551616):Z4 .or .u64 x y=((m ||| n:Nat):Int):=by
  subst hx; subst hy
  show IntKind.u64.wrap (((BitVec.ofInt 64 (m:Int) ||| BitVec.ofInt 64 (n:Int)).toNat:Nat):Int)=_
  rw [BitVec.toNat_or,bv64 m h1,bv64 n h2,Zt (by omega)]
  have:m ||| n<2^64:=Nat.or_lt_two_pow (by simpa using h1) (by simpa using h2)
  simp at this; omega
theorem Zhj (k:Nat) {x y:Int} (hy:y=((2^k-1:Nat):Int)) (hk:2^k≤18446744073709551616) (h0:0≤x) (h1:x<18446744073709551616):Z4 .and .u64 x y=x%((2^k:Nat):Int):=by
  have hp:0<2^k:=Nat.pow_pos (by decide)
  rw [Z0b0 x.toNat (2^k-1) (by omega) hy (by omega) (by omega),Nat.and_two_pow_sub_one_eq_mod]
  rw [Int.natCast_emod]
  congr 1; omega
theorem Zhi {x:Int} (h0:0≤x) (h1:x<18446744073709551616):Z4 .and .u64 x 2251799813685247=x%2251799813685248:=Zhj 51 (by decide) (by decide) h0 h1
theorem Zsf {x:Int} (h0:0≤x) (h1:x<18446744073709551616):Z4 .and .u64 x 4294967295=x%4294967296:=Zhj 32 (by decide) (by decide) h0 h1
theorem Znu (k:Nat) {x y a:Int} (hx:x=a*((2^k:Nat):Int)) (ha:0≤a) (h0:0≤y) (hy:y<((2^k:Nat):Int)) (h1:x+y<18446744073709551616):Z4 .or .u64 x y=x+y:=by
  have hp:(0:Int)≤((2^k:Nat):Int):=Int.natCast_nonneg _
  have hx0:0≤x:=by rw [hx]; exact Int.mul_nonneg ha hp
  rw [or64 x.toNat y.toNat (by omega) (by omega) (by omega) (by omega)]
  have e:x.toNat=a.toNat <<< k:=by
    rw [Nat.shiftLeft_eq]
    have:(x.toNat:Int)=((a.toNat*2^k:Nat):Int):=by
      rw [Int.natCast_mul,Int.toNat_of_nonneg hx0,Int.toNat_of_nonneg ha,hx]
    exact Int.ofNat_inj.1 this
  rw [e,← Nat.shiftLeft_add_eq_or_of_lt (by omega:y.toNat<2^k),← e]
  omega
theorem Zby (k:IntKind) {x:Int} {n:Nat} (h:n≤k.bits):Zi k x (n:Int)=x / ((2^n:Nat):Int):=by
  simp only [Zi,Int.toNat_natCast,Nat.min_eq_left h]
  rw [Int.fdiv_eq_ediv_of_nonneg]
  · simp
  · exact Int.le_of_lt (Int.pow_pos (by decide))
theorem Zmf (x:Int):Zi .u64 x 51=x / 2251799813685248:=by have:=Zby .u64 (x:=x) (n:=51) (by decide); simpa using this
theorem Z0me (x:Int):Zi .u64 x 32=x / 4294967296:=by have:=Zby .u64 (x:=x) (n:=32) (by decide); simpa using this
theorem Zen (k:IntKind) {x:Int} {n:Nat} (h:n≤k.bits):Zq k x (n:Int)=k.wrap (x*((2^n:Nat):Int)):=by
  simp only [Zq,Int.toNat_natCast,Nat.min_eq_left h]
  simp
theorem Z0a9 (x:Int):Zq .u64 x 13=(x*8192)%18446744073709551616:=by have:=Zen .u64 (x:=x) (n:=13) (by decide); rw [Zc2] at this; simpa using this
section
variable {α β:Type}
theorem Zf (x:α) (f:α→Option β):bnd x f=f x:=by
  have h : ∀ y,y=bnd x f→y=f x:=fun y e=>e
  exact h _ rfl
theorem Z06 {c:Bool} {o:Option β} (h:c=true):chk c o=o:=by subst h; rfl
theorem Z3 {o:Option α} {f:α→Option β} {y:α} (h:o=some y):opt o f=f y:=by subst h; rfl
theorem Z21 {c:Bool} {a b:Option β} (h:c=true):br c a b=a:=by subst h; rfl
theorem Z1q {c:Bool} {a b:Option β} (h:c=false):br c a b=b:=by subst h; rfl
theorem Z2p {K:Type} (k:K) (g:K→Option β):jn k g=g k:=by
  have h : ∀ y,y=jn k g→y=g k:=fun y e=>e
  exact h _ rfl
end
theorem Z28 {z:Int} {n:Nat} (h0:0≤z) (h1:z<n):inB z n=true:=by simp [inB,h0,h1]
abbrev PP:Int:=57896044618658097711785492504343953926634992332820282019728792003956564819949
abbrev M51:Int:=2251799813685248
def Z57 (x:List Int):Int:=x.getD 0 0+x.getD 1 0*2251799813685248+x.getD 2 0*5070602400912917605986812821504+x.getD 3 0*11417981541647679048466287755595961091061972992+x.getD 4 0*25711008708143844408671393477458601640355247900524685364822016
structure U5 (x:List Int):Prop where
  a0:0≤x.getD 0 0
  a1:0≤x.getD 1 0
  a2:0≤x.getD 2 0
  a3:0≤x.getD 3 0
  a4:0≤x.getD 4 0
  b0:x.getD 0 0<18446744073709551616
  b1:x.getD 1 0<18446744073709551616
  b2:x.getD 2 0<18446744073709551616
  b3:x.getD 3 0<18446744073709551616
  b4:x.getD 4 0<18446744073709551616
def Ze2 (n:Int):List Int:=[n%M51,n / M51%M51,n / (M51*M51)%M51,n / (M51*M51*M51)%M51,n / (M51*M51*M51*M51)%M51]
theorem Zjv {n d0 d1 d2 d3 d4:Int} (h:n=d0+d1*2251799813685248+d2*5070602400912917605986812821504+d3*11417981541647679048466287755595961091061972992+d4*25711008708143844408671393477458601640355247900524685364822016)
    (h0:0≤d0∧d0<2251799813685248) (h1:0≤d1∧d1<2251799813685248) (h2:0≤d2∧d2<2251799813685248) (h3:0≤d3∧d3<2251799813685248) (h4:0≤d4∧d4<2251799813685248) : [d0,d1,d2,d3,d4]=Ze2 n:=by
  unfold Ze2
  simp only [M51,List.cons.injEq,and_true]
  refine ⟨?_,?_,?_,?_,?_⟩ <;> omega
theorem Zbl {n:Int} (h0:0≤n) (h1:n<PP):Z57 (Ze2 n)=n:=by
  simp only [Z57,Ze2,M51,PP,List.getD_cons_zero,List.getD_cons_succ] at *
  omega
theorem Zju (n:Int):U5 (Ze2 n):=by
  constructor <;> simp only [Ze2,M51,List.getD_cons_zero,List.getD_cons_succ] <;> omega
set_option maxRecDepth 100000
def Z94 (x:List Int):List Int :=
  [x.getD 0 0%2251799813685248+x.getD 4 0 / 2251799813685248*19,x.getD 1 0%2251799813685248+x.getD 0 0 / 2251799813685248,x.getD 2 0%2251799813685248+x.getD 1 0 / 2251799813685248,
   x.getD 3 0%2251799813685248+x.getD 2 0 / 2251799813685248,x.getD 4 0%2251799813685248+x.getD 3 0 / 2251799813685248]
theorem Zc4 {x:List Int} (h:U5 x):Z41 x=some (Z94 x):=by
  have ⟨a0,a1,a2,a3,a4,b0,b1,b2,b3,b4⟩:=h
  simp only [Z41,Zf,Zmf,Zc2,Zhi a0 b0,Zhi a1 b1,Zhi a2 b2,Zhi a3 b3,Zhi a4 b4,Z94]
  simp only [Option.some.injEq,List.cons.injEq,and_true]
  refine ⟨?_,?_,?_,?_,?_⟩ <;> omega
structure C5 (x:List Int) (e:Int):Prop where
  a0:0≤x.getD 0 0
  a1:0≤x.getD 1 0
  a2:0≤x.getD 2 0
  a3:0≤x.getD 3 0
  a4:0≤x.getD 4 0
  b0:x.getD 0 0<2251799813685248+e
  b1:x.getD 1 0<2251799813685248+e
  b2:x.getD 2 0<2251799813685248+e
  b3:x.getD 3 0<2251799813685248+e
  b4:x.getD 4 0<2251799813685248+e
theorem C5.u {x:List Int} {e:Int} (h:C5 x e) (he:e≤1125899906842624):U5 x:=by
  have ⟨a0,a1,a2,a3,a4,b0,b1,b2,b3,b4⟩:=h
  constructor <;> omega
theorem Zn0 {x:List Int} (h:U5 x):C5 (Z94 x) 262144:=by
  have ⟨a0,a1,a2,a3,a4,b0,b1,b2,b3,b4⟩:=h
  constructor <;> simp only [Z94,List.getD_cons_zero,List.getD_cons_succ] <;> omega
theorem Zwf {x:List Int} (h:C5 x 262144):C5 (Z94 x) 20:=by
  have ⟨a0,a1,a2,a3,a4,b0,b1,b2,b3,b4⟩:=h
  constructor <;> simp only [Z94,List.getD_cons_zero,List.getD_cons_succ] <;> omega
theorem Zt5 {x:List Int} : ∃ q,Z57 x=Z57 (Z94 x)+q*PP:=by
  refine ⟨x.getD 4 0 / 2251799813685248,?_⟩
  simp only [Z57,Z94,PP,List.getD_cons_zero,List.getD_cons_succ]
  omega
theorem Zdx {x:List Int}:Z57 (Z94 x)%PP=Z57 x%PP:=by
  obtain ⟨q,hq⟩:=Zt5 (x:=x)
  rw [hq,Int.add_mul_emod_self_right]
def Zgg (x:List Int):List Int:=Ze2 (Z57 x%PP)
abbrev shw (x:Int):Int:=Zi .u64 x 51
abbrev wuu (x:Int):Int:=IntKind.wrap .u64 x
abbrev low (x:Int):Int:=Z4 .and .u64 x 2251799813685247
def rQ (y1 y2 y3 y4 q:Int):Int:=shw (wuu (y4+shw (wuu (y3+shw (wuu (y2+shw (wuu (y1+q))))))))
def rr0 (y0 Q:Int):Int:=wuu (y0+wuu (19*Q))
theorem Zvb (y0 y1 y2 y3 y4 q:Int):Z4a [y0,y1,y2,y3,y4] (fun i46=>Z4b (fun a149=>some (Z4q a149 4 (Z4 .and .u64 (a149.getD 4 0) 2251799813685247))) big 0 (Z4q [y0,y1,y2,y3,y4] 0 (IntKind.wrap .u64 (y0+IntKind.wrap .u64 (19*i46))))) big q 0 =
    some [low (rr0 y0 (rQ y1 y2 y3 y4 q)),low (wuu (y1+shw (rr0 y0 (rQ y1 y2 y3 y4 q)))),low (wuu (y2+shw (wuu (y1+shw (rr0 y0 (rQ y1 y2 y3 y4 q)))))),
      low (wuu (y3+shw (wuu (y2+shw (wuu (y1+shw (rr0 y0 (rQ y1 y2 y3 y4 q)))))))),low (wuu (y4+shw (wuu (y3+shw (wuu (y2+shw (wuu (y1+shw (rr0 y0 (rQ y1 y2 y3 y4 q)))))))))) ]:=by kernel_rfl
theorem Zla {y q:Int} (hy:0≤y∧y<2251799813685268) (hq:0≤q∧q≤1) : ∃ q' s,shw (wuu (y+q))=q'∧y+q=2251799813685248*q'+s∧(0≤s∧s<2251799813685248)∧(0≤q'∧q'≤1):=by
  refine ⟨(y+q) / 2251799813685248,(y+q)%2251799813685248,?_,by omega,by omega,by omega⟩
  rw [shw,Zmf,wuu,Zt (by omega) (by omega)]
theorem Zj0 {y r:Int} (hy:0≤y∧y<2251799813685268) (hr:0≤r∧r<4503599627370496) : ∃ c d r',shw r=c∧low r=d∧r=2251799813685248*c+d∧(0≤d∧d<2251799813685248)∧wuu (y+c)=r'∧r'=y+c∧(0≤r'∧r'<4503599627370496):=by
  refine ⟨r / 2251799813685248,r%2251799813685248,y+r / 2251799813685248,Zmf _,Zhi hr.1 (by omega),by omega,by omega,Zt (by omega) (by omega),rfl,by omega⟩
theorem Zqg {y0 y1 y2 y3 y4 q0 q1 q2 q3 q4 s0 s1 s2 s3 s4 c0 c1 c2 c3 c4 d0 d1 d2 d3 d4:Int}
    (h0:y0+19=2251799813685248*q0+s0) (h1:y1+q0=2251799813685248*q1+s1) (h2:y2+q1=2251799813685248*q2+s2) (h3:y3+q2=2251799813685248*q3+s3) (h4:y4+q3=2251799813685248*q4+s4)
    (k0:y0+19*q4=2251799813685248*c0+d0) (k1:y1+c0=2251799813685248*c1+d1) (k2:y2+c1=2251799813685248*c2+d2) (k3:y3+c2=2251799813685248*c3+d3) (k4:y4+c3=2251799813685248*c4+d4)
    (t0:0≤s0∧s0<2251799813685248) (t1:0≤s1∧s1<2251799813685248) (t2:0≤s2∧s2<2251799813685248) (t3:0≤s3∧s3<2251799813685248) (t4:0≤s4∧s4<2251799813685248)
    (u0:0≤d0∧d0<2251799813685248) (u1:0≤d1∧d1<2251799813685248) (u2:0≤d2∧d2<2251799813685248) (u3:0≤d3∧d3<2251799813685248) (u4:0≤d4∧d4<2251799813685248) (hq:0≤q4∧q4≤1) (hy:0≤(y0+y1*2251799813685248+y2*5070602400912917605986812821504+y3*11417981541647679048466287755595961091061972992+y4*25711008708143844408671393477458601640355247900524685364822016)∧(y0+y1*2251799813685248+y2*5070602400912917605986812821504+y3*11417981541647679048466287755595961091061972992+y4*25711008708143844408671393477458601640355247900524685364822016)<115792089237316195423570985008687907853269984665640564039457584007913129639836) :
    (y0+y1*2251799813685248+y2*5070602400912917605986812821504+y3*11417981541647679048466287755595961091061972992+y4*25711008708143844408671393477458601640355247900524685364822016)-q4*PP=(d0+d1*2251799813685248+d2*5070602400912917605986812821504+d3*11417981541647679048466287755595961091061972992+d4*25711008708143844408671393477458601640355247900524685364822016)∧0≤(d0+d1*2251799813685248+d2*5070602400912917605986812821504+d3*11417981541647679048466287755595961091061972992+d4*25711008708143844408671393477458601640355247900524685364822016)∧(d0+d1*2251799813685248+d2*5070602400912917605986812821504+d3*11417981541647679048466287755595961091061972992+d4*25711008708143844408671393477458601640355247900524685364822016)<PP:=by
  have e1:(y0+y1*2251799813685248+y2*5070602400912917605986812821504+y3*11417981541647679048466287755595961091061972992+y4*25711008708143844408671393477458601640355247900524685364822016)+19=q4*57896044618658097711785492504343953926634992332820282019728792003956564819968+(s0+s1*2251799813685248+s2*5070602400912917605986812821504+s3*11417981541647679048466287755595961091061972992+s4*25711008708143844408671393477458601640355247900524685364822016):=by omega
  have e2:(y0+y1*2251799813685248+y2*5070602400912917605986812821504+y3*11417981541647679048466287755595961091061972992+y4*25711008708143844408671393477458601640355247900524685364822016)+19*q4=c4*57896044618658097711785492504343953926634992332820282019728792003956564819968+(d0+d1*2251799813685248+d2*5070602400912917605986812821504+d3*11417981541647679048466287755595961091061972992+d4*25711008708143844408671393477458601640355247900524685364822016):=by omega
  have b1:0≤(s0+s1*2251799813685248+s2*5070602400912917605986812821504+s3*11417981541647679048466287755595961091061972992+s4*25711008708143844408671393477458601640355247900524685364822016)∧(s0+s1*2251799813685248+s2*5070602400912917605986812821504+s3*11417981541647679048466287755595961091061972992+s4*25711008708143844408671393477458601640355247900524685364822016)<57896044618658097711785492504343953926634992332820282019728792003956564819968:=by omega
  have b2:0≤(d0+d1*2251799813685248+d2*5070602400912917605986812821504+d3*11417981541647679048466287755595961091061972992+d4*25711008708143844408671393477458601640355247900524685364822016)∧(d0+d1*2251799813685248+d2*5070602400912917605986812821504+d3*11417981541647679048466287755595961091061972992+d4*25711008708143844408671393477458601640355247900524685364822016)<57896044618658097711785492504343953926634992332820282019728792003956564819968:=by omega
  generalize (y0+y1*2251799813685248+y2*5070602400912917605986812821504+y3*11417981541647679048466287755595961091061972992+y4*25711008708143844408671393477458601640355247900524685364822016)=V at *
  generalize (d0+d1*2251799813685248+d2*5070602400912917605986812821504+d3*11417981541647679048466287755595961091061972992+d4*25711008708143844408671393477458601640355247900524685364822016)=D at *
  generalize (s0+s1*2251799813685248+s2*5070602400912917605986812821504+s3*11417981541647679048466287755595961091061972992+s4*25711008708143844408671393477458601640355247900524685364822016)=S at *
  clear h0 h1 h2 h3 h4 k0 k1 k2 k3 k4 t0 t1 t2 t3 t4 u0 u1 u2 u3 u4
  simp only [PP]
  have hc:q4=0∨q4=1:=by omega
  rcases hc with rfl | rfl
  · obtain rfl:c4=0:=by omega
    omega
  · obtain rfl:c4=1:=by omega
    omega
theorem Z4e {x:List Int} (h:U5 x):Z0y x=some (Zgg x):=by
  have h1:=Zn0 h
  have h2:=Zwf h1
  have hm:Z57 (Z94 (Z94 x))%PP=Z57 x%PP:=by rw [Zdx,Zdx]
  rw [Z0y,Z3 (Zc4 h),Z3 (Zc4 (h1.u (by decide)))]
  unfold Zgg
  rw [← hm]
  have hl:Z94 (Z94 x) = [(Z94 (Z94 x)).getD 0 0,(Z94 (Z94 x)).getD 1 0,(Z94 (Z94 x)).getD 2 0,(Z94 (Z94 x)).getD 3 0,(Z94 (Z94 x)).getD 4 0]:=rfl
  generalize Z94 (Z94 x)=y at *
  have ⟨a0,a1,a2,a3,a4,b0,b1,b2,b3,b4⟩:=h2
  simp only [Zf,Z2p,Z57]
  generalize y.getD 0 0=y0 at *
  generalize y.getD 1 0=y1 at *
  generalize y.getD 2 0=y2 at *
  generalize y.getD 3 0=y3 at *
  generalize y.getD 4 0=y4 at *
  rw [hl,Zvb]
  congr 1
  clear hl h1 h2 hm h
  have e0:Zi .u64 (IntKind.wrap .u64 (y0+19)) 51=(y0+19) / 2251799813685248:=by rw [Zmf,Zt (by omega) (by omega)]
  obtain ⟨q0,s0,hq0,hs0,hs0',hq0'⟩ : ∃ q s,(y0+19) / 2251799813685248=q∧y0+19=2251799813685248*q+s∧(0≤s∧s<2251799813685248)∧(0≤q∧q≤1):=⟨_,(y0+19)%2251799813685248,rfl,by omega,by omega,by omega⟩
  rw [e0,hq0]
  obtain ⟨q1,s1,e1,hs1,hs1',hq1'⟩:=Zla (y:=y1) (q:=q0) (by omega) hq0'
  obtain ⟨q2,s2,e2,hs2,hs2',hq2'⟩:=Zla (y:=y2) (q:=q1) (by omega) hq1'
  obtain ⟨q3,s3,e3,hs3,hs3',hq3'⟩:=Zla (y:=y3) (q:=q2) (by omega) hq2'
  obtain ⟨q4,s4,e4,hs4,hs4',hq4'⟩:=Zla (y:=y4) (q:=q3) (by omega) hq3'
  have f0:rr0 y0 q4=y0+19*q4:=by rw [rr0,wuu,wuu,Zt (x:=19*q4) (by omega) (by omega),Zt (by omega) (by omega)]
  have hy:0≤(y0+y1*2251799813685248+y2*5070602400912917605986812821504+y3*11417981541647679048466287755595961091061972992+y4*25711008708143844408671393477458601640355247900524685364822016)∧(y0+y1*2251799813685248+y2*5070602400912917605986812821504+y3*11417981541647679048466287755595961091061972992+y4*25711008708143844408671393477458601640355247900524685364822016)<115792089237316195423570985008687907853269984665640564039457584007913129639836:=by omega
  unfold rQ
  rw [e1,e2,e3,e4,f0]
  obtain ⟨c0,d0,r1,g0,l0,k0,u0,w1,v1,z1⟩:=Zj0 (y:=y1) (r:=y0+19*q4) (by omega) (by omega)
  rw [g0,l0,w1]
  obtain ⟨c1,d1,r2,g1,l1,k1,u1,w2,v2,z2⟩:=Zj0 (y:=y2) (r:=r1) (by omega) z1
  rw [g1,l1,w2]
  obtain ⟨c2,d2,r3,g2,l2,k2,u2,w3,v3,z3⟩:=Zj0 (y:=y3) (r:=r2) (by omega) z2
  rw [g2,l2,w3]
  obtain ⟨c3,d3,r4,g3,l3,k3,u3,w4,v4,z4⟩:=Zj0 (y:=y4) (r:=r3) (by omega) z3
  rw [g3,l3,w4]
  obtain ⟨c4,d4,r5,g4,l4,k4,u4,w5,v5,z5⟩:=Zj0 (y:=y4) (r:=r4) (by omega) z4
  rw [l4]
  subst v1 v2 v3 v4
  obtain ⟨hv,hlo⟩:=Zqg hs0 hs1 hs2 hs3 hs4 k0 k1 k2 k3 k4 hs0' hs1' hs2' hs3' hs4' u0 u1 u2 u3 u4 hq4' hy
  refine Zjv ?_ u0 u1 u2 u3 u4
  rw [← hv] at hlo ⊢
  rw [← Int.emod_eq_of_lt hlo.1 hlo.2,Int.sub_mul_emod_self_right]
theorem Zbp {a b:Int} {A B:Int} (ha:0≤a∧a≤A) (hb:0≤b∧b≤B):0≤a*b∧a*b≤A*B :=
  ⟨Int.mul_nonneg ha.1 hb.1,Int.mul_le_mul ha.2 hb.2 hb.1 (Int.le_trans ha.1 ha.2)⟩
theorem Zht {x y:Int} (hx:0≤x∧x<18446744073709551616) (hy:0≤y∧y<18446744073709551616) :
    Z4d x y=some (x*y / 18446744073709551616,x*y%18446744073709551616):=by
  simp only [Z4d,Zf,Zsf hx.1 hx.2,Zsf hy.1 hy.2,Z0me]
  have ex:x=x / 4294967296*4294967296+x%4294967296:=by omega
  have ey:y=y / 4294967296*4294967296+y%4294967296:=by omega
  have bxl:0≤x%4294967296∧x%4294967296≤4294967295:=by omega
  have byl:0≤y%4294967296∧y%4294967296≤4294967295:=by omega
  have bxh:0≤x / 4294967296∧x / 4294967296≤4294967295:=by omega
  have byh:0≤y / 4294967296∧y / 4294967296≤4294967295:=by omega
  have hxy:x*y=x / 4294967296*(y / 4294967296)*18446744073709551616+(x / 4294967296*(y%4294967296)+x%4294967296*(y / 4294967296))*4294967296+x%4294967296*(y%4294967296):=by
    conv=>lhs; rw [ex,ey]
    generalize x / 4294967296=a
    generalize x%4294967296=b
    generalize y / 4294967296=c
    generalize y%4294967296=d
    grind
  have p00:=Zbp bxl byl
  have p10:=Zbp bxh byl
  have p01:=Zbp bxl byh
  have p11:=Zbp bxh byh
  rw [hxy]
  generalize x%4294967296*(y%4294967296)=A at *
  generalize x / 4294967296*(y%4294967296)=B at *
  generalize x%4294967296*(y / 4294967296)=D at *
  generalize x / 4294967296*(y / 4294967296)=F at *
  clear hxy ex ey bxl byl bxh byh
  rw [Zt (x:=A) (by omega) (by omega),Zt (x:=B) (by omega) (by omega),Zt (x:=D) (by omega) (by omega),Zt (x:=F) (by omega) (by omega)]
  rw [Zt (x:=B+A / 4294967296) (by omega) (by omega),Zsf (by omega) (by omega)]
  rw [Zt (x:=(B+A / 4294967296)%4294967296+D) (by omega) (by omega),Zt (x:=F+(B+A / 4294967296) / 4294967296) (by omega) (by omega)]
  rw [Zt (by omega) (by omega),Zc2]
  congr 1
  refine Prod.ext ?_ rfl
  show F+(B+A / 4294967296) / 4294967296+((B+A / 4294967296)%4294967296+D) / 4294967296=_
  omega
def Zei (s:Int):Int:=s / 18446744073709551616
def Zc8 (s:Int):Int:=s%18446744073709551616
theorem Zhf (a b c:Int):Z8a a b c=(a+b+c)%18446744073709551616:=rfl
theorem Zf0 (a b c:Int):Zbb a b c=(a+b+c) / 18446744073709551616:=rfl
theorem Zoy {xs:List Int} {o L:Nat} {s a c:Int} (hs:0≤s) (h1:xs.getD o 0=Zei s) (h2:xs.getD (o+1) 0=Zc8 s) (hL:o+1<L) (ha:0≤a∧a<18446744073709551616) (hc:0≤c∧c<18446744073709551616)
    (hb:s+a*c<340282366920938463463374607431768211456) :
    Z22 xs o L a c=some (Z4q (Z4q xs (o+1) (Zc8 (s+a*c))) o (Zei (s+a*c))):=by
  have hp:=Zbp (A:=18446744073709551615) (B:=18446744073709551615) (a:=a) (b:=c) (by omega) (by omega)
  rw [Z22,Z3 (Zht ha hc)]
  rw [Z06 (by simpa using hL)]
  simp only [Zf,h2]
  have e1:Zc8 s+a*c%18446744073709551616=Zc8 s+a*c%18446744073709551616:=rfl
  generalize a*c=p at *
  have hlo:0≤Zc8 s∧Zc8 s<18446744073709551616:=by unfold Zc8; omega
  have hhi:0≤Zei s∧Zei s<18446744073709551616:=by unfold Zei; omega
  rw [Z06 (by simp [Zb7]; omega),Z06 (by simpa using hL),Z06 (by simp; omega)]
  simp only [Nat.add_zero,Z9b]
  rw [if_neg (by omega),h1,Z06 (by simp [Zb7,Zf0]; omega),Z06 (by simp; omega)]
  simp only [Zhf,Zf0]
  congr 2
  · congr 1
    unfold Zc8; omega
  · unfold Zei Zc8; omega
def Zg2 (S:Nat→Int):List Int:=[Zei (S 0),Zc8 (S 0),Zei (S 1),Zc8 (S 1),Zei (S 2),Zc8 (S 2),Zei (S 3),Zc8 (S 3),Zei (S 4),Zc8 (S 4)]
theorem Zmh {S T:Nat→Int} (h : ∀ k,k<5→S k=T k):Zg2 S=Zg2 T:=by
  simp only [Zg2,h 0 (by decide),h 1 (by decide),h 2 (by decide),h 3 (by decide),h 4 (by decide)]
def Zs5 (S:Nat→Int) (k:Nat) (v:Int):Nat→Int:=fun j=>if j=k then v else S j
theorem Zln {S:Nat→Int} {k:Nat} {a c:Int} (hk:k<5) (hs:0≤S k) (ha:0≤a∧a<18446744073709551616) (hc:0≤c∧c<18446744073709551616) (hb:S k+a*c<340282366920938463463374607431768211456) :
    Z22 (Zg2 S) (0+k*2) 10 a c=some (Zg2 (Zs5 S k (S k+a*c))):=by
  have h1:(Zg2 S).getD (0+k*2) 0=Zei (S k):=by
    match k,hk with
    | 0,_=>rfl
    | 1,_=>rfl
    | 2,_=>rfl
    | 3,_=>rfl
    | 4,_=>rfl
  have h2:(Zg2 S).getD (0+k*2+1) 0=Zc8 (S k):=by
    match k,hk with
    | 0,_=>rfl
    | 1,_=>rfl
    | 2,_=>rfl
    | 3,_=>rfl
    | 4,_=>rfl
  rw [Zoy hs h1 h2 (by omega) ha hc hb]
  congr 1
  match k,hk with
  | 0,_=>rfl
  | 1,_=>rfl
  | 2,_=>rfl
  | 3,_=>rfl
  | 4,_=>rfl
def Zhs (x:Int) (y:List Int) (i j:Nat):Int:=x*(if i+j<5 then y.getD j 0 else 19*y.getD j 0)
theorem Znp {y:List Int} {i j:Nat} {kk:List Int→Option (List Int)} {k':Int→List Int→Option (List Int)} {x:Int} {S:Nat→Int} {T:Int} (hi:i<5) (hj:j<5) (hx:0≤x∧x≤2251799813947392) (hy : ∀ j,j<5→0≤y.getD j 0∧y.getD j 0≤2251799813947392)
    (hS : ∀ k,k<5→0≤S k∧S k≤T) (hT:T≤100000000000000000000000000000000000) :
    Z5h y (i:Int) x kk k' (j:Int) (Zg2 S)=k' ((j+1:Nat):Int) (Zg2 (Zs5 S ((i+j)%5) (S ((i+j)%5)+Zhs x y i j))):=by
  have hyj:=hy j hj
  rw [Z5h,Z21 (by simp; omega),Z2p,Z06 (Z28 (by omega) (by omega))]
  simp only [Zf,Int.toNat_natCast]
  have hij:IntKind.wrap .i64 ((i:Int)+(j:Int))=((i+j:Nat):Int):=by rw [Zs (by omega) (by omega)]; omega
  have hj1:IntKind.wrap .i64 ((j:Int)+1)=((j+1:Nat):Int):=by rw [Zs (by omega) (by omega)]; omega
  rw [hij,hj1]
  have hSk:=hS ((i+j)%5) (Nat.mod_lt _ (by decide))
  by_cases h:i+j<5
  · have hm:(i+j)%5=i+j:=Nat.mod_eq_of_lt h
    rw [hm] at hSk ⊢
    have hp:=Zbp hx hyj
    rw [Z21 (by simp; omega),Z06 (Z28 (by omega) (by omega)),Z3 (Zln (S:=S) (k:=((i+j:Nat):Int).toNat) (by omega) (by rw [Int.toNat_natCast]; exact hSk.1) (by omega) (by omega) (by rw [Int.toNat_natCast]; omega))]
    simp only [Int.toNat_natCast,Zhs,if_pos h]
  · have hm:(i+j)%5=i+j-5:=by omega
    rw [hm] at hSk ⊢
    have h5:IntKind.wrap .i64 (((i+j:Nat):Int)-5)=((i+j-5:Nat):Int):=by rw [Zs (by omega) (by omega)]; omega
    have h19:IntKind.wrap .u64 (19*y.getD j 0)=19*y.getD j 0:=Zt (by omega) (by omega)
    rw [h5,h19]
    have hp:=Zbp (b:=19*y.getD j 0) (B:=42784196465000448) hx (by omega)
    rw [Z1q (by simp; omega),Z06 (Z28 (by omega) (by omega)),Z3 (Zln (S:=S) (k:=((i+j-5:Nat):Int).toNat) (by omega) (by rw [Int.toNat_natCast]; exact hSk.1) (by omega) (by omega) (by rw [Int.toNat_natCast]; omega))]
    simp only [Int.toNat_natCast,Zhs,if_neg h]
theorem Zpz {y:List Int} {i:Nat} {kk:List Int→Option (List Int)} {k':Int→List Int→Option (List Int)} {x:Int} {a:List Int} (hi:i<5):Z5h y (i:Int) x kk k' 5 a=kk a:=by
  rw [Z5h,Z1q (by decide)]
theorem Zpx {x:Int} {y:List Int} {i j:Nat} (hj:j<5) (hx:0≤x∧x≤2251799813947392) (hy : ∀ j,j<5→0≤y.getD j 0∧y.getD j 0≤2251799813947392):0≤Zhs x y i j∧Zhs x y i j≤96341445639776675308685928431616:=by
  have hyj:=hy j hj
  unfold Zhs
  split
  · have:=Zbp hx hyj; omega
  · have:=Zbp (b:=19*y.getD j 0) (B:=42784196465000448) hx (by omega); omega
theorem Z0af {S:Nat→Int} {T v:Int} {k:Nat} (hS : ∀ k,k<5→0≤S k∧S k≤T) (hv:0≤v∧v≤T+96341445639776675308685928431616) : ∀ j,j<5→0≤Zs5 S k v j∧Zs5 S k v j≤T+96341445639776675308685928431616:=by
  intro j hj
  have:=hS j hj
  unfold Zs5
  split <;> omega
def inn (S:Nat→Int) (x:Int) (y:List Int) (i:Nat):Nat→Int:=fun k=>S k+x*(if i≤k then y.getD (k-i) 0 else 19*y.getD (k+5-i) 0)
theorem Znn {y:List Int} {i:Nat} {kk:List Int→Option (List Int)} {x:Int} {S:Nat→Int} {T:Int} (hi:i<5) (hx:0≤x∧x≤2251799813947392) (hy : ∀ j,j<5→0≤y.getD j 0∧y.getD j 0≤2251799813947392)
    (hS : ∀ k,k<5→0≤S k∧S k≤T) (hT:T≤10000000000000000000000000000000000) :
    Z4k y (i:Int) x kk big 0 (Zg2 S)=kk (Zg2 (inn S x y i)):=by
  obtain ⟨n,hn⟩ : ∃ n,big=n+6:=⟨18446744073709551610,Z4i⟩
  rw [hn]
  have step : ∀ (n j:Nat) (S:Nat→Int) (T:Int),j<5→(∀ k,k<5→0≤S k∧S k≤T)→T≤100000000000000000000000000000000000 →
      Z4k y (i:Int) x kk (n+1) (j:Int) (Zg2 S)=Z4k y (i:Int) x kk n ((j+1:Nat):Int) (Zg2 (Zs5 S ((i+j)%5) (S ((i+j)%5)+Zhs x y i j))) :=
    fun n j S T hj hS hT=>Znp hi hj hx hy hS hT
  have bd : ∀ (j:Nat) (S:Nat→Int) (T:Int),j<5→(∀ k,k<5→0≤S k∧S k≤T)→∀ k,k<5→0≤Zs5 S ((i+j)%5) (S ((i+j)%5)+Zhs x y i j) k∧Zs5 S ((i+j)%5) (S ((i+j)%5)+Zhs x y i j) k≤T+96341445639776675308685928431616 :=
    fun j S T hj hS=>Z0af hS (by have:=Zpx (i:=i) hj hx hy; have:=hS ((i+j)%5) (Nat.mod_lt _ (by decide)); omega)
  have s0:=step (n+5) 0 S T (by decide) hS (by omega)
  have b0:=bd 0 S T (by decide) hS
  have s1:=step (n+4) 1 _ _ (by decide) b0 (by omega)
  have b1:=bd 1 _ _ (by decide) b0
  have s2:=step (n+3) 2 _ _ (by decide) b1 (by omega)
  have b2:=bd 2 _ _ (by decide) b1
  have s3:=step (n+2) 3 _ _ (by decide) b2 (by omega)
  have b3:=bd 3 _ _ (by decide) b2
  have s4:=step (n+1) 4 _ _ (by decide) b3 (by omega)
  refine (s0.trans (s1.trans (s2.trans (s3.trans (s4.trans ((Zpz hi).trans ?_))))))
  congr 1
  apply Zmh
  intro k hk
  clear s0 s1 s2 s3 s4 b0 b1 b2 b3 bd step hS hy hx hn
  match i,hi,k,hk with
  | 0,_,0,_ | 0,_,1,_ | 0,_,2,_ | 0,_,3,_ | 0,_,4,_ | 1,_,0,_ | 1,_,1,_ | 1,_,2,_ | 1,_,3,_ | 1,_,4,_ | 2,_,0,_ | 2,_,1,_ | 2,_,2,_ | 2,_,3,_ | 2,_,4,_
  | 3,_,0,_ | 3,_,1,_ | 3,_,2,_ | 3,_,3,_ | 3,_,4,_ | 4,_,0,_ | 4,_,1,_ | 4,_,2,_ | 4,_,3,_ | 4,_,4,_=>rfl
theorem Zde {S:Nat→Int} {x T:Int} {y:List Int} {i:Nat} (hi:i<5) (hx:0≤x∧x≤2251799813947392) (hy : ∀ j,j<5→0≤y.getD j 0∧y.getD j 0≤2251799813947392) (hS : ∀ k,k<5→0≤S k∧S k≤T) :
    ∀ k,k<5→0≤inn S x y i k∧inn S x y i k≤T+96341445639776675308685928431616:=by
  intro k hk
  have h1:=hS k hk
  unfold inn
  split
  · have:=Zbp hx (hy (k-i) (by omega)); omega
  · have:=Zbp (b:=19*y.getD (k+5-i) 0) (B:=42784196465000448) hx (by have:=hy (k+5-i) (by omega); omega); omega
def Zg9 (x y:List Int):Nat→Int:=inn (inn (inn (inn (inn (fun _=>0) (x.getD 0 0) y 0) (x.getD 1 0) y 1) (x.getD 2 0) y 2) (x.getD 3 0) y 3) (x.getD 4 0) y 4
theorem Zto {x y:List Int} (hx : ∀ j,j<5→0≤x.getD j 0∧x.getD j 0≤2251799813947392) (hy : ∀ j,j<5→0≤y.getD j 0∧y.getD j 0≤2251799813947392) : ∀ k,k<5→0≤Zg9 x y k∧Zg9 x y k≤481707228198883376543429642158080:=by
  have b0:=Zde (S:=fun _=>0) (T:=0) (i:=0) (by decide) (hx 0 (by decide)) hy (fun _ _=>by simp)
  have b1:=Zde (i:=1) (by decide) (hx 1 (by decide)) hy b0
  have b2:=Zde (i:=2) (by decide) (hx 2 (by decide)) hy b1
  have b3:=Zde (i:=3) (by decide) (hx 3 (by decide)) hy b2
  have b4:=Zde (i:=4) (by decide) (hx 4 (by decide)) hy b3
  intro k hk
  have:=b4 k hk
  unfold Zg9
  omega
theorem Zae {x y : List Int} (hx : ∀ j, j < 5 → 0 ≤ x.getD j 0 ∧ x.getD j 0 ≤ 2251799813947392) (hy : ∀ j, j < 5 → 0 ≤ y.getD j 0 ∧ y.getD j 0 ≤ 2251799813947392) (n i : Nat) (S : Nat → Int) (T : Int) (hi : i < 5) (hS : ∀ k, k < 5 → 0 ≤ S k ∧ S k ≤ T) (hT : T ≤ 10000000000000000000000000000000000) (kk : List Int → Option (List Int)) :
      Z2o x y kk (n+1) (i:Int) (Zg2 S)=Z2o x y kk n ((i+1:Nat):Int) (Zg2 (inn S (x.getD i 0) y i)):=by
  rw [Z2o,Z8f,Z21 (by simp; omega),Z06 (Z28 (by omega) (by omega))]
  simp only [Zf,Z2p,Int.toNat_natCast]
  rw [Znn hi (hx i hi) hy hS hT,Zs (by omega) (by omega)]
  rfl
theorem Zm6 {x y:List Int} (n:Nat) (a:List Int) (kk:List Int→Option (List Int)):Z2o x y kk (n+1) ((5:Nat):Int) a=kk a:=by
  rw [Z2o,Z8f,Z1q (by decide)]
theorem Z0mg:(List.replicate 10 0:List Int)=Zg2 (fun _=>0):=by decide
theorem Zno {x y:List Int} (hx : ∀ j,j<5→0≤x.getD j 0∧x.getD j 0≤2251799813947392) (hy : ∀ j,j<5→0≤y.getD j 0∧y.getD j 0≤2251799813947392) (kk:List Int→Option (List Int)) :
    Z2o x y kk big 0 (List.replicate 10 0)=kk (Zg2 (Zg9 x y)):=by
  obtain ⟨n,hn⟩ : ∃ n,big=n+1+1+1+1+1+1:=⟨18446744073709551610,Z4i⟩
  have b0:=Zde (S:=fun _=>0) (T:=0) (i:=0) (by decide) (hx 0 (by decide)) hy (fun _ _=>by simp)
  have b1:=Zde (i:=1) (by decide) (hx 1 (by decide)) hy b0
  have b2:=Zde (i:=2) (by decide) (hx 2 (by decide)) hy b1
  have b3:=Zde (i:=3) (by decide) (hx 3 (by decide)) hy b2
  have s0:=Zae (kk:=kk) hx hy (n+1+1+1+1+1) 0 (fun _=>0) 0 (by decide) (fun _ _=>by simp) (by omega)
  have s1:=Zae (kk:=kk) hx hy (n+1+1+1+1) 1 _ _ (by decide) b0 (by omega)
  have s2:=Zae (kk:=kk) hx hy (n+1+1+1) 2 _ _ (by decide) b1 (by omega)
  have s3:=Zae (kk:=kk) hx hy (n+1+1) 3 _ _ (by decide) b2 (by omega)
  have s4:=Zae (kk:=kk) hx hy (n+1) 4 _ _ (by decide) b3 (by omega)
  have s5:=Zm6 (x:=x) (y:=y) n (Zg2 (Zg9 x y)) kk
  unfold Zg9 at s5 ⊢
  rw [← hn] at s0
  rw [Z0mg]
  exact s0.trans (s1.trans (s2.trans (s3.trans (s4.trans s5))))
theorem Znl {S:Nat→Int} {kk:Int→List Int→Option (List Int)} {k':Int→Int→List Int→Option (List Int)} {i:Nat} {c:Int} {out:List Int} (hi:i<5) (hS:0≤S i∧S i≤481707228198883376543429642158080) (hc:0≤c∧c<18446744073709551616) :
    Z6v (Zg2 S) kk k' c (i:Int) out=k' ((S i+c) / 2251799813685248) ((i+1:Nat):Int) (Z4q out i ((S i+c)%2251799813685248)):=by
  have ht:tk (Zg2 S) (i*2) 2 = [Zei (S i),Zc8 (S i)]:=by
    match i,hi with
    | 0,_=>rfl
    | 1,_=>rfl
    | 2,_=>rfl
    | 3,_=>rfl
    | 4,_=>rfl
  rw [Z6v,Z21 (by simp; omega),Z06 (Z28 (by omega) (by omega))]
  simp only [Zf,Int.toNat_natCast,ht,List.getD_cons_zero,List.getD_cons_succ]
  generalize S i=s at *
  have hl:0≤Zc8 s∧Zc8 s<18446744073709551616:=by unfold Zc8; omega
  rw [Z06 (by simp [Zb7]; omega),Z06 (Z28 (by omega) (by omega))]
  simp only [Zhf,Zf0,Int.add_zero]
  rw [Zs (by omega) (by omega),Zmf,Z0a9,Zhi (by omega) (by omega)]
  have hh:0≤Zei s∧Zei s<1000000000000000:=by unfold Zei; omega
  have hcar:0≤(Zc8 s+c) / 18446744073709551616∧(Zc8 s+c) / 18446744073709551616≤1:=by omega
  rw [Zt (x:=Zei s+(Zc8 s+c) / 18446744073709551616) (by omega) (by omega)]
  have hm:(Zei s+(Zc8 s+c) / 18446744073709551616)*8192%18446744073709551616=(Zei s+(Zc8 s+c) / 18446744073709551616)*8192:=by omega
  rw [hm,Znu 13 (x:=(Zei s+(Zc8 s+c) / 18446744073709551616)*8192) (a:=Zei s+(Zc8 s+c) / 18446744073709551616) rfl (by omega) (by omega) (by omega) (by omega)]
  have e1:(Zc8 s+c)%18446744073709551616%2251799813685248=(s+c)%2251799813685248:=by unfold Zc8; omega
  have e2:(Zei s+(Zc8 s+c) / 18446744073709551616)*8192+(Zc8 s+c)%18446744073709551616 / 2251799813685248=(s+c) / 2251799813685248:=by unfold Zei Zc8; omega
  rw [e1,e2]
  rfl
theorem alg5 (x0 x1 x2 x3 x4 y0 y1 y2 y3 y4 m:Int):(x0+x1*m+x2*(m*m)+x3*(m*m*m)+x4*(m*m*m*m))*(y0+y1*m+y2*(m*m)+y3*(m*m*m)+y4*(m*m*m*m)) =
    x0*y0+(x0*y1+x1*y0)*m+(x0*y2+x1*y1+x2*y0)*(m*m)+(x0*y3+x1*y2+x2*y1+x3*y0)*(m*m*m)+(x0*y4+x1*y3+x2*y2+x3*y1+x4*y0)*(m*m*m*m)
     + ((x1*y4+x2*y3+x3*y2+x4*y1)+(x2*y4+x3*y3+x4*y2)*m+(x3*y4+x4*y3)*(m*m)+x4*y4*(m*m*m))*(m*m*m*m*m):=by grind
theorem Zpw (x y:List Int) : ∃ q,Z57 x*Z57 y=Zg9 x y 0+Zg9 x y 1*2251799813685248+Zg9 x y 2*5070602400912917605986812821504+Zg9 x y 3*11417981541647679048466287755595961091061972992+Zg9 x y 4*25711008708143844408671393477458601640355247900524685364822016+q*PP:=by
  have h:=alg5 (x.getD 0 0) (x.getD 1 0) (x.getD 2 0) (x.getD 3 0) (x.getD 4 0) (y.getD 0 0) (y.getD 1 0) (y.getD 2 0) (y.getD 3 0) (y.getD 4 0) 2251799813685248
  have e0:Zg9 x y 0=x.getD 0 0*y.getD 0 0+19*(x.getD 1 0*y.getD 4 0+x.getD 2 0*y.getD 3 0+x.getD 3 0*y.getD 2 0+x.getD 4 0*y.getD 1 0):=by simp [Zg9,inn] <;> grind
  have e1:Zg9 x y 1=x.getD 0 0*y.getD 1 0+x.getD 1 0*y.getD 0 0+19*(x.getD 2 0*y.getD 4 0+x.getD 3 0*y.getD 3 0+x.getD 4 0*y.getD 2 0):=by simp [Zg9,inn] <;> grind
  have e2:Zg9 x y 2=x.getD 0 0*y.getD 2 0+x.getD 1 0*y.getD 1 0+x.getD 2 0*y.getD 0 0+19*(x.getD 3 0*y.getD 4 0+x.getD 4 0*y.getD 3 0):=by simp [Zg9,inn] <;> grind
  have e3:Zg9 x y 3=x.getD 0 0*y.getD 3 0+x.getD 1 0*y.getD 2 0+x.getD 2 0*y.getD 1 0+x.getD 3 0*y.getD 0 0+19*(x.getD 4 0*y.getD 4 0):=by simp [Zg9,inn] <;> grind
  have e4:Zg9 x y 4=x.getD 0 0*y.getD 4 0+x.getD 1 0*y.getD 3 0+x.getD 2 0*y.getD 2 0+x.getD 3 0*y.getD 1 0+x.getD 4 0*y.getD 0 0:=by simp [Zg9,inn] <;> grind
  refine ⟨(x.getD 1 0*y.getD 4 0+x.getD 2 0*y.getD 3 0+x.getD 3 0*y.getD 2 0+x.getD 4 0*y.getD 1 0)+(x.getD 2 0*y.getD 4 0+x.getD 3 0*y.getD 3 0+x.getD 4 0*y.getD 2 0)*2251799813685248+(x.getD 3 0*y.getD 4 0+x.getD 4 0*y.getD 3 0)*5070602400912917605986812821504+x.getD 4 0*y.getD 4 0*11417981541647679048466287755595961091061972992,?_⟩
  rw [e0,e1,e2,e3,e4]
  simp only [Z57,PP]
  simp only [Int.reduceMul] at h
  rw [h]
  omega
theorem U5.mk5 {d0 d1 d2 d3 d4:Int} (h0:0≤d0∧d0<18446744073709551616) (h1:0≤d1∧d1<18446744073709551616) (h2:0≤d2∧d2<18446744073709551616) (h3:0≤d3∧d3<18446744073709551616) (h4:0≤d4∧d4<18446744073709551616):U5 [d0,d1,d2,d3,d4] :=
  ⟨h0.1,h1.1,h2.1,h3.1,h4.1,h0.2,h1.2,h2.2,h3.2,h4.2⟩
theorem Zq0 {c d0 d1 d2 d3 d4:Int} (hc:0≤c∧c<900000000000000000)
    (h0:0≤d0∧d0<2251799813685248) (h1:0≤d1∧d1<2251799813685248) (h2:0≤d2∧d2<2251799813685248) (h3:0≤d3∧d3<2251799813685248) (h4:0≤d4∧d4<2251799813685248) :
    (opt (Z22 (List.replicate 2 0) 0 2 c 19) fun y1819 =>
      bnd (y1819.getD 1 0) fun z1823 =>
      bnd ([d0,d1,d2,d3,d4].getD 0 0) fun z1824 =>
      chk (Zb7 z1823 z1824 0) <|
      bnd (Z8a z1823 z1824 0) fun z1826 =>
      bnd (Zbb z1823 z1824 0) fun z1827 =>
      bnd (Z4 .and .u64 z1826 2251799813685247) fun z1829 =>
      bnd (Z4q [d0,d1,d2,d3,d4] 0 z1829) fun l1830 =>
      bnd (l1830.getD 1 0) fun z1832 =>
      bnd (y1819.getD 0 0) fun z1833 =>
      bnd (IntKind.wrap .u64 (z1833+z1827)) fun z1834 =>
      bnd (Zq .u64 z1834 13) fun z1835 =>
      bnd (Zi .u64 z1826 51) fun z1836 =>
      bnd (Z4 .or .u64 z1835 z1836) fun z1837 =>
      bnd (IntKind.wrap .u64 (z1832+z1837)) fun z1838 =>
      bnd (Z4q l1830 1 z1838) fun l1839 =>
      opt (Z0y l1839) fun y1841 =>
      some y1841)=some (Ze2 ((d0+d1*2251799813685248+d2*5070602400912917605986812821504+d3*11417981541647679048466287755595961091061972992+d4*25711008708143844408671393477458601640355247900524685364822016+19*c)%PP)):=by
  have hw:Z22 (List.replicate 2 0) 0 2 c 19=some [Zei (0+c*19),Zc8 (0+c*19)]:=Zoy (s:=0) (by decide) rfl rfl (by decide) (by omega) (by omega) (by omega)
  rw [Z3 hw]
  simp only [Zf,List.getD_cons_zero,List.getD_cons_succ]
  have hl:Zc8 (0+c*19)=c*19%18446744073709551616:=by unfold Zc8; rw [Int.zero_add]
  have hh:Zei (0+c*19)=c*19 / 18446744073709551616:=by unfold Zei; rw [Int.zero_add]
  rw [hl,hh]
  have hlt:c*19<18446744073709551616:=by omega
  rw [Int.emod_eq_of_lt (by omega) hlt,Int.ediv_eq_zero_of_lt (by omega) hlt]
  rw [Z06 (by simp [Zb7]; omega)]
  simp only [Zhf,Zf0,Int.add_zero,Int.zero_add]
  rw [Int.emod_eq_of_lt (a:=c*19+d0) (by omega) (by omega),Int.ediv_eq_zero_of_lt (a:=c*19+d0) (by omega) (by omega)]
  have ew:IntKind.wrap .u64 0=0:=by decide
  rw [ew,Zmf,Z0a9,Zhi (by omega) (by omega)]
  have e0:(0:Int)*8192%18446744073709551616=0:=by decide
  rw [e0,Znu 13 (x:=0) (a:=0) (by simp) (by omega) (by omega) (by omega) (by omega),Int.zero_add]
  have hs1:Z4q [d0,d1,d2,d3,d4] 0 ((c*19+d0)%2251799813685248) = [(c*19+d0)%2251799813685248,d1,d2,d3,d4]:=rfl
  rw [hs1]
  simp only [List.getD_cons_zero,List.getD_cons_succ]
  rw [Zt (by omega) (by omega)]
  have hs2:Z4q [(c*19+d0)%2251799813685248,d1,d2,d3,d4] 1 (d1+(c*19+d0) / 2251799813685248) = [(c*19+d0)%2251799813685248,d1+(c*19+d0) / 2251799813685248,d2,d3,d4]:=rfl
  rw [hs2,Z3 (Z4e (U5.mk5 (by omega) (by omega) (by omega) (by omega) (by omega)))]
  unfold Zgg
  congr 3
  simp only [Z57,List.getD_cons_zero,List.getD_cons_succ]
  omega
theorem C5.le {x:List Int} (h:C5 x 262144) : ∀ j,j<5→0≤x.getD j 0∧x.getD j 0≤2251799813947392:=by
  have ⟨a0,a1,a2,a3,a4,b0,b1,b2,b3,b4⟩:=h
  intro j hj
  match j,hj with
  | 0,_=>omega
  | 1,_=>omega
  | 2,_=>omega
  | 3,_=>omega
  | 4,_=>omega
theorem Znm {x y:List Int} (hx:U5 x) (hy:U5 y):Z09 x y=some (Ze2 (Z57 x*Z57 y%PP)):=by
  have cx:=(Zn0 hx).le
  have cy:=(Zn0 hy).le
  rw [Z09,Z3 (Zc4 hx),Z3 (Zc4 hy),Z2p,Zno cx cy,Z2p]
  have hb:=Zto cx cy
  obtain ⟨q,hq⟩:=Zpw (Z94 x) (Z94 y)
  have hm:Z57 x*Z57 y%PP=Z57 (Z94 x)*Z57 (Z94 y)%PP:=by
    rw [Int.mul_emod,← Zdx (x:=x),← Zdx (x:=y),← Int.mul_emod]
  rw [hm,hq,Int.add_mul_emod_self_right]
  generalize Zg9 (Z94 x) (Z94 y)=S at *
  obtain ⟨n,hn⟩ : ∃ n,big=n+1+1+1+1+1+1:=⟨18446744073709551610,Z4i⟩
  generalize hkk:(fun (i1740:Int) (a1741:List Int)=>_)=kk
  have step : ∀ (n i:Nat) (c:Int) (out:List Int),i<5→(0≤c∧c<18446744073709551616)→Z39 (Zg2 S) kk (n+1) c (i:Int) out=Z39 (Zg2 S) kk n ((S i+c) / 2251799813685248) ((i+1:Nat):Int) (Z4q out i ((S i+c)%2251799813685248)):=by
    intro n i c out hi hc
    rw [Z39,Znl hi (hb i hi) hc]
  have c0:=hb 0 (by decide)
  have c1:=hb 1 (by decide)
  have c2:=hb 2 (by decide)
  have c3:=hb 3 (by decide)
  have c4:=hb 4 (by decide)
  have k1 : ∃ d,(S 0+0)%2251799813685248=d∧(0≤d∧d<2251799813685248):=⟨_,rfl,by omega⟩
  have s0:=step (n+1+1+1+1+1) 0 0 (List.replicate 5 0) (by decide) (by decide)
  generalize hd0:(S 0+0)%2251799813685248=d0 at s0
  generalize hv0:(S 0+0) / 2251799813685248=v0 at s0
  have s1:=step (n+1+1+1+1) 1 v0 (Z4q (List.replicate 5 0) 0 d0) (by decide) (by omega)
  generalize hd1:(S 1+v0)%2251799813685248=d1 at s1
  generalize hv1:(S 1+v0) / 2251799813685248=v1 at s1
  have s2:=step (n+1+1+1) 2 v1 (Z4q (Z4q (List.replicate 5 0) 0 d0) 1 d1) (by decide) (by omega)
  generalize hd2:(S 2+v1)%2251799813685248=d2 at s2
  generalize hv2:(S 2+v1) / 2251799813685248=v2 at s2
  have s3:=step (n+1+1) 3 v2 (Z4q (Z4q (Z4q (List.replicate 5 0) 0 d0) 1 d1) 2 d2) (by decide) (by omega)
  generalize hd3:(S 3+v2)%2251799813685248=d3 at s3
  generalize hv3:(S 3+v2) / 2251799813685248=v3 at s3
  have s4:=step (n+1) 4 v3 (Z4q (Z4q (Z4q (Z4q (List.replicate 5 0) 0 d0) 1 d1) 2 d2) 3 d3) (by decide) (by omega)
  generalize hd4:(S 4+v3)%2251799813685248=d4 at s4
  generalize hv4:(S 4+v3) / 2251799813685248=v4 at s4
  have hout:Z4q (Z4q (Z4q (Z4q (Z4q (List.replicate 5 0) 0 d0) 1 d1) 2 d2) 3 d3) 4 d4 = [d0,d1,d2,d3,d4]:=rfl
  rw [hout] at s4
  have s5:Z39 (Zg2 S) kk (n+1) v4 ((4+1:Nat):Int) [d0,d1,d2,d3,d4]=kk v4 [d0,d1,d2,d3,d4]:=by rw [Z39,Z6v,Z1q (by decide)]
  subst hkk
  have s5:=s5.trans (Zq0 (c:=v4) (d0:=d0) (d1:=d1) (d2:=d2) (d3:=d3) (d4:=d4) (by omega) (by omega) (by omega) (by omega) (by omega) (by omega))
  rw [← hn] at s0
  refine s0.trans (s1.trans (s2.trans (s3.trans (s4.trans (s5.trans ?_)))))
  congr 2
  clear s0 s1 s2 s3 s4 s5 step hout hb hn k1 cx cy
  have e0:S 0=v0*2251799813685248+d0:=by omega
  have e1:S 1+v0=v1*2251799813685248+d1:=by omega
  have e2:S 2+v1=v2*2251799813685248+d2:=by omega
  have e3:S 3+v2=v3*2251799813685248+d3:=by omega
  have e4:S 4+v3=v4*2251799813685248+d4:=by omega
  clear hd0 hd1 hd2 hd3 hd4 hv0 hv1 hv2 hv3 hv4
  have key:S 0+S 1*2251799813685248+S 2*5070602400912917605986812821504+S 3*11417981541647679048466287755595961091061972992+S 4*25711008708143844408671393477458601640355247900524685364822016 =
      d0+d1*2251799813685248+d2*5070602400912917605986812821504+d3*11417981541647679048466287755595961091061972992+d4*25711008708143844408671393477458601640355247900524685364822016+19*v4+v4*PP:=by
    simp only [PP]; omega
  rw [key,Int.add_mul_emod_self_right]
theorem Zj7 {x:List Int} (hx:U5 x):Z0x x=some (Ze2 (Z57 x*Z57 x%PP)):=by
  rw [Z0x,Z3 (Znm hx hx)]
def fe (n:Int):List Int:=Ze2 (n%PP)
theorem Zac (n:Int):U5 (fe n):=Zju _
theorem Zfc:(0:Int)<PP:=by decide
theorem Z4c (n:Int):Z57 (fe n)=n%PP:=Zbl (Int.emod_nonneg _ (by decide)) (Int.emod_lt_of_pos _ Zfc)
theorem Zrd (n:Int):fe (n%PP)=fe n:=by unfold fe; rw [Int.emod_emod_of_dvd _ (Int.dvd_refl _)]
theorem Zc6 {a b:Int} (h:a%PP=b%PP):fe a=fe b:=by unfold fe; rw [h]
theorem Zsc (k:List Int→Option (List Int)) (x0 x1 x2 x3 x4 y0 y1 y2 y3 y4:Int):Z6t [y0,y1,y2,y3,y4] k big 0 [x0,x1,x2,x3,x4] =
    k ([IntKind.wrap .u64 (x0+y0),IntKind.wrap .u64 (x1+y1),IntKind.wrap .u64 (x2+y2),IntKind.wrap .u64 (x3+y3),IntKind.wrap .u64 (x4+y4)]):=by kernel_rfl
theorem Zr7 {x y:List Int} (hx:U5 x) (hy:U5 y):Z1s x y=some (fe (Z57 x+Z57 y)):=by
  have cx:=Zn0 hx
  have cy:=Zn0 hy
  have ex:=Zdx (x:=x)
  have ey:=Zdx (x:=y)
  rw [Z1s,Z3 (Zc4 hx),Z3 (Zc4 hy),Z2p]
  have hlx:Z94 x = [(Z94 x).getD 0 0,(Z94 x).getD 1 0,(Z94 x).getD 2 0,(Z94 x).getD 3 0,(Z94 x).getD 4 0]:=rfl
  have hly:Z94 y = [(Z94 y).getD 0 0,(Z94 y).getD 1 0,(Z94 y).getD 2 0,(Z94 y).getD 3 0,(Z94 y).getD 4 0]:=rfl
  have hm:(Z57 x+Z57 y)%PP=(Z57 (Z94 x)+Z57 (Z94 y))%PP:=by rw [Int.add_emod,← ex,← ey,← Int.add_emod]
  rw [Zc6 hm]
  generalize Z94 x=a at *
  generalize Z94 y=b at *
  have ⟨p0,p1,p2,p3,p4,q0,q1,q2,q3,q4⟩:=cx
  have ⟨r0,r1,r2,r3,r4,s0,s1,s2,s3,s4⟩:=cy
  rw [hlx,hly,Zsc]
  rw [Zt (by omega) (by omega),Zt (by omega) (by omega),Zt (by omega) (by omega),Zt (by omega) (by omega),Zt (by omega) (by omega)]
  rw [Z3 (Z4e (U5.mk5 (by omega) (by omega) (by omega) (by omega) (by omega)))]
  unfold Zgg fe
  congr 3
  simp only [Z57,List.getD_cons_zero,List.getD_cons_succ]
  omega
theorem Ztr (k:List Int→Option (List Int)) (y0 y1 y2 y3 y4 z:Int):Z6w [y0,y1,y2,y3,y4] k big 1 [z,0,0,0,0] =
    k ([z,IntKind.wrap .u64 (4503599627370494-y1),IntKind.wrap .u64 (4503599627370494-y2),IntKind.wrap .u64 (4503599627370494-y3),IntKind.wrap .u64 (4503599627370494-y4)]):=by kernel_rfl
theorem Zrm {x:List Int} (hx:U5 x):Z49 x=some (fe (- Z57 x)):=by
  rw [Z49,Z3 (Z4e hx)]
  simp only [Zf,Z2p]
  have hv:Z57 (Zgg x)=Z57 x%PP:=Z4c (Z57 x)
  have hl:Zgg x = [(Zgg x).getD 0 0,(Zgg x).getD 1 0,(Zgg x).getD 2 0,(Zgg x).getD 3 0,(Zgg x).getD 4 0]:=rfl
  have hb : ∀ j,j<5→0≤(Zgg x).getD j 0∧(Zgg x).getD j 0<2251799813685248:=by
    intro j hj
    unfold Zgg Ze2
    match j,hj with
    | 0,_=>simp only [M51,List.getD_cons_zero,List.getD_cons_succ]; omega
    | 1,_=>simp only [M51,List.getD_cons_zero,List.getD_cons_succ]; omega
    | 2,_=>simp only [M51,List.getD_cons_zero,List.getD_cons_succ]; omega
    | 3,_=>simp only [M51,List.getD_cons_zero,List.getD_cons_succ]; omega
    | 4,_=>simp only [M51,List.getD_cons_zero,List.getD_cons_succ]; omega
  have hm:(- Z57 x)%PP=(2*PP-Z57 (Zgg x))%PP:=by
    rw [hv]
    have e : - Z57 x=2*PP-Z57 x%PP+(-2-Z57 x / PP)*PP:=by
      have:=Int.emod_add_mul_ediv (Z57 x) PP
      rw [Int.mul_comm] at this
      have h2:(-2-Z57 x / PP)*PP = -2*PP-Z57 x / PP*PP:=by rw [Int.sub_mul]
      omega
    rw [e,Int.add_mul_emod_self_right]
  rw [Zc6 hm]
  generalize Zgg x=a at *
  have b0:=hb 0 (by decide)
  have b1:=hb 1 (by decide)
  have b2:=hb 2 (by decide)
  have b3:=hb 3 (by decide)
  have b4:=hb 4 (by decide)
  rw [hl]
  simp only [List.getD_cons_zero]
  rw [Ztr]
  rw [Zt (by omega) (by omega),Zt (by omega) (by omega),Zt (by omega) (by omega),Zt (by omega) (by omega),Zt (by omega) (by omega)]
  rw [Z3 (Z4e (U5.mk5 (by omega) (by omega) (by omega) (by omega) (by omega)))]
  unfold Zgg fe
  congr 3
  simp only [Z57,PP,List.getD_cons_zero,List.getD_cons_succ]
  omega
theorem Z0ac {x y:List Int} (hx:U5 x) (hy:U5 y):Z3x x y=some (fe (Z57 x-Z57 y)):=by
  rw [Z3x,Z3 (Zrm hy),Z3 (Zr7 hx (Zac _)),Z4c]
  rw [Zc6 (a:=Z57 x + -Z57 y%PP) (b:=Z57 x-Z57 y)]
  rw [Int.sub_eq_add_neg,Int.add_emod,Int.emod_emod_of_dvd _ (Int.dvd_refl _),← Int.add_emod]
theorem Zli {n:Int} (h:0≤n∧n<18446744073709551616):Z7w n=some (fe n):=by
  rw [Z7w]
  simp only [Zf]
  rw [Z3 (Z4e (U5.mk5 h (by omega) (by omega) (by omega) (by omega)))]
  unfold Zgg fe
  congr 3
  simp only [Z57,List.getD_cons_zero,List.getD_cons_succ]
  omega
theorem Zpm {a b:Int} (ha:0≤a∧a<PP) (hb:0≤b∧b<PP) (h:Ze2 a=Ze2 b):a=b:=by
  rw [← Zbl ha.1 ha.2,← Zbl hb.1 hb.2,h]
theorem Zos (n:Int):tk (Ze2 n) 0 5=Ze2 n:=rfl
theorem Zrj (a b:Int):ieq 5 (fe a) (fe b)=decide (a%PP=b%PP):=by
  unfold ieq fe
  rw [Zos,Zos]
  rw [decide_eq_decide]
  constructor
  · exact Zpm ⟨Int.emod_nonneg _ (by decide),Int.emod_lt_of_pos _ Zfc⟩ ⟨Int.emod_nonneg _ (by decide),Int.emod_lt_of_pos _ Zfc⟩
  · intro h; rw [h]
theorem Zpl {x y:List Int} (hx:U5 x) (hy:U5 y):Z6j x y=some (decide (Z57 x%PP=Z57 y%PP)):=by
  rw [Z6j,Z3 (Z4e hx),Z3 (Z4e hy)]
  show some (ieq 5 (fe (Z57 x)) (fe (Z57 y)))=_
  rw [Zrj]
theorem Zng {x:List Int} (hx:U5 x):Z3v x=some (decide (Z57 x%PP=0)):=by
  rw [Z3v,Z3 (Z4e hx)]
  simp only [Zf]
  have e:([0,0,0,0,0]:List Int)=fe 0:=by decide
  rw [e]
  show some (ieq 5 (fe (Z57 x)) (fe 0))=_
  rw [Zrj]
  rfl
theorem Zse {x:Int} (h0:0≤x) (h1:x<18446744073709551616):Z4 .and .u64 x 1=x%2:=Zhj 1 (by decide) (by decide) h0 h1
theorem Zku {x:List Int} (hx:U5 x):Z6k x=some (Z57 x%PP%2==1):=by
  rw [Z6k,Z3 (Z4e hx)]
  simp only [Zf]
  have e:(Zgg x).getD 0 0=Z57 x%PP%2251799813685248:=rfl
  rw [e,Zse (by omega) (by omega)]
  congr 2
  omega
theorem Zof {b:Bool} {x y:List Int} (hx:U5 x) (hy:U5 y):Z6y b x y=some (fe (bif b then Z57 x else Z57 y)):=by
  rw [Z6y]
  cases b
  · rw [Z1q rfl,Z3 (Z4e hy)]; rfl
  · rw [Z21 rfl,Z3 (Z4e hx)]; rfl
theorem and8 {x y:Int} (m n:Nat) (hx:x=m) (hy:y=n) (h1:m<256) (h2:n<256):Z4 .and .u8 x y=((m &&& n:Nat):Int):=by
  subst hx; subst hy
  show IntKind.u8.wrap (((BitVec.ofInt 8 (m:Int) &&& BitVec.ofInt 8 (n:Int)).toNat:Nat):Int)=_
  rw [BitVec.toNat_and,bv8 m h1,bv8 n h2,Z0c]
  have:m &&& n≤m:=Nat.and_le_left
  omega
theorem Zd5 (k:Nat) {x y:Int} (hy:y=((2^k-1:Nat):Int)) (hk:2^k≤256) (h0:0≤x) (h1:x<256):Z4 .and .u8 x y=x%((2^k:Nat):Int):=by
  have hp:0<2^k:=Nat.pow_pos (by decide)
  rw [and8 x.toNat (2^k-1) (by omega) hy (by omega) (by omega),Nat.and_two_pow_sub_one_eq_mod]
  rw [Int.natCast_emod]
  congr 1; omega
theorem Zw2 {x:Int} (h0:0≤x) (h1:x<256):Z4 .and .u8 x 1=x%2:=Zd5 1 (by decide) (by decide) h0 h1
def Byt (e:List Int):Prop:=∀ i,0≤e.getD i 0∧e.getD i 0<256
def ebit (e:List Int) (i:Nat):Bool:=(e.getD (i / 8) 0 / ((2^(i%8):Nat):Int))%2==1
def pw (x:Int) (e:List Int):Nat→Int
  | 0=>1
  | k+1=>if ebit e (255-k) then pw x e k*pw x e k%PP*x%PP else pw x e k*pw x e k%PP
theorem Zo5 (x:Int) (e:List Int) (k:Nat):0≤pw x e k∧pw x e k<PP:=by
  cases k with
  | zero=>exact ⟨by show (0:Int)≤1; decide,by show (1:Int)<PP; decide⟩
  | succ k =>
    unfold pw
    split
    · exact ⟨Int.emod_nonneg _ (by decide),Int.emod_lt_of_pos _ Zfc⟩
    · exact ⟨Int.emod_nonneg _ (by decide),Int.emod_lt_of_pos _ Zfc⟩
theorem Zpn {n:Int} (h0:0≤n) (h1:n<PP):fe n=Ze2 n:=by unfold fe; rw [Int.emod_eq_of_lt h0 h1]
theorem Zo1 {x e:List Int} (hx:U5 x) (he:Byt e) {kk:List Int→Option (List Int)} {k':Int→List Int→Option (List Int)} {i:Nat} (hi:i<256) (a:Int) (ha:0≤a∧a<PP) :
    Z6x x e kk k' (i:Int) (Ze2 a)=k' ((i:Int)-1) (Ze2 (if ebit e i then a*a%PP*Z57 x%PP else a*a%PP)):=by
  have hsq:Z0x (Ze2 a)=some (Ze2 (a*a%PP)):=by rw [Zj7 (Zju _),Zbl ha.1 ha.2]
  rw [Z6x,Z21 (by simp),Z2p,Z3 hsq]
  simp only [Zf]
  have hd:IntKind.wrap .i64 (Int.tdiv (i:Int) 8)=((i / 8:Nat):Int):=by
    rw [Int.tdiv_eq_ediv_of_nonneg (by omega),Zs (by omega) (by omega)]; omega
  have hm:Int.tmod (i:Int) 8=((i%8:Nat):Int):=by
    rw [Int.tmod_eq_emod_of_nonneg (by omega)]; omega
  rw [hd,hm,Z06 (Z28 (by omega) (by omega)),Z06 (by simp; omega)]
  have hb:=he (i / 8)
  simp only [Int.toNat_natCast]
  rw [Zby .u8 (n:=i%8) (by show i%8≤8; omega)]
  have hp:(0:Int)<((2^(i%8):Nat):Int):=by have:=Nat.pow_pos (n:=i%8) (show 0<2 by decide); omega
  have hq0:=Int.ediv_nonneg hb.1 (Int.le_of_lt hp)
  have hq1:e.getD (i / 8) 0 / ((2^(i%8):Nat):Int)<256:=Int.lt_of_le_of_lt (Int.ediv_le_self _ hb.1) hb.2
  rw [Zw2 hq0 hq1]
  have hw:IntKind.wrap .i64 ((i:Int)-1)=(i:Int)-1:=Zs (by omega) (by omega)
  by_cases hbit:ebit e i=true
  · have hb':(e.getD (i / 8) 0 / ((2^(i%8):Nat):Int)%2==1)=true:=hbit
    rw [Z21 hb',if_pos hbit,Z3 (Znm (Zju _) hx),Zbl (Int.emod_nonneg _ (by decide)) (Int.emod_lt_of_pos _ Zfc),hw]
  · rw [Bool.not_eq_true] at hbit
    have hb':(e.getD (i / 8) 0 / ((2^(i%8):Nat):Int)%2==1)=false:=hbit
    rw [Z1q hb',if_neg (by rw [hbit]; decide),hw]
theorem Zl5 {x e:List Int} (hx:U5 x) (he:Byt e) : ∀ (k n:Nat),k≤256→Z3w x e some (n+1+k) ((k:Int)-1) (Ze2 (pw (Z57 x) e (256-k)))=some (Ze2 (pw (Z57 x) e 256))
  | 0,n,_=>by
    show Z3w x e some (n+1) _ _=_
    rw [Z3w,Z6x,Z1q (by decide)]
  | k+1,n,hk=>by
    have ih:=Zl5 hx he k n (by omega)
    rw [← Nat.add_assoc,Z3w]
    have hi:((k+1:Nat):Int)-1=(k:Int):=by omega
    rw [hi,Zo1 hx he (by omega) _ (Zo5 _ _ _)]
    have e1:256-k=(256-(k+1))+1:=by omega
    have e2:255-(256-(k+1))=k:=by omega
    rw [e1,pw,e2] at ih
    exact ih
theorem Zru {x e:List Int} (hx:U5 x) (he:Byt e):Z8g x e=some (Ze2 (pw (Z57 x) e 256)):=by
  rw [Z8g,Z3 (Zli (by decide)),Z2p]
  obtain ⟨n,hn⟩ : ∃ n,big=n+1+256:=⟨18446744073709551359,Z4i⟩
  have:=Zl5 hx he 256 n (Nat.le_refl _)
  rw [← hn] at this
  have e1:fe 1=Ze2 (pw (Z57 x) e (256-256)):=rfl
  rw [e1]
  exact this
set_option maxHeartbeats 1000000
theorem Z0d (k:Nat) {x y a:Int} (hx:x=a*((2^k:Nat):Int)) (ha:0≤a) (h0:0≤y) (hy:y<((2^k:Nat):Int)) (h1:y+x<18446744073709551616):Z4 .or .u64 y x=y+x:=by
  have hp:(0:Int)≤((2^k:Nat):Int):=Int.natCast_nonneg _
  have hx0:0≤x:=by rw [hx]; exact Int.mul_nonneg ha hp
  have:=Znu k hx ha h0 hy (by omega)
  rw [or64 y.toNat x.toNat (by omega) (by omega) (by omega) (by omega)]
  rw [or64 x.toNat y.toNat (by omega) (by omega) (by omega) (by omega)] at this
  rw [Nat.or_comm,this,Int.add_comm]
def byt (n:Int):List Int:=[n%256,n / 256%256,n / 65536%256,n / 16777216%256,n / 4294967296%256,n / 1099511627776%256,n / 281474976710656%256,n / 72057594037927936%256,n / 18446744073709551616%256,n / 4722366482869645213696%256,n / 1208925819614629174706176%256,n / 309485009821345068724781056%256,n / 79228162514264337593543950336%256,n / 20282409603651670423947251286016%256,n / 5192296858534827628530496329220096%256,n / 1329227995784915872903807060280344576%256,n / 340282366920938463463374607431768211456%256,n / 87112285931760246646623899502532662132736%256,n / 22300745198530623141535718272648361505980416%256,n / 5708990770823839524233143877797980545530986496%256,n / 1461501637330902918203684832716283019655932542976%256,n / 374144419156711147060143317175368453031918731001856%256,n / 95780971304118053647396689196894323976171195136475136%256,n / 24519928653854221733733552434404946937899825954937634816%256,n / 6277101735386680763835789423207666416102355444464034512896%256,n / 1606938044258990275541962092341162602522202993782792835301376%256,n / 411376139330301510538742295639337626245683966408394965837152256%256,n / 105312291668557186697918027683670432318895095400549111254310977536%256,n / 26959946667150639794667015087019630673637144422540572481103610249216%256,n / 6901746346790563787434755862277025452451108972170386555162524223799296%256,n / 1766847064778384329583297500742918515827483896875618958121606201292619776%256,n / 452312848583266388373324160190187140051835877600158453279131187530910662656%256]
theorem Zmx (k:List Int→Option (List Int)) (y0 y1 y2 y3 y4:Int):Z4z [y0,y1,y2,y3,y4] k big 0 (List.replicate 32 0)=k [IntKind.wrap .u8 (Zi .u64 y0 0),IntKind.wrap .u8 (Zi .u64 y0 8),IntKind.wrap .u8 (Zi .u64 y0 16),IntKind.wrap .u8 (Zi .u64 y0 24),IntKind.wrap .u8 (Zi .u64 y0 32),IntKind.wrap .u8 (Zi .u64 y0 40),IntKind.wrap .u8 (Z4 .or .u64 (Zi .u64 y0 48) (Zq .u64 y1 3)),IntKind.wrap .u8 (Zi .u64 y1 5),IntKind.wrap .u8 (Zi .u64 y1 13),IntKind.wrap .u8 (Zi .u64 y1 21),IntKind.wrap .u8 (Zi .u64 y1 29),IntKind.wrap .u8 (Zi .u64 y1 37),IntKind.wrap .u8 (Z4 .or .u64 (Zi .u64 y1 45) (Zq .u64 y2 6)),IntKind.wrap .u8 (Zi .u64 y2 2),IntKind.wrap .u8 (Zi .u64 y2 10),IntKind.wrap .u8 (Zi .u64 y2 18),IntKind.wrap .u8 (Zi .u64 y2 26),IntKind.wrap .u8 (Zi .u64 y2 34),IntKind.wrap .u8 (Zi .u64 y2 42),IntKind.wrap .u8 (Z4 .or .u64 (Zi .u64 y2 50) (Zq .u64 y3 1)),IntKind.wrap .u8 (Zi .u64 y3 7),IntKind.wrap .u8 (Zi .u64 y3 15),IntKind.wrap .u8 (Zi .u64 y3 23),IntKind.wrap .u8 (Zi .u64 y3 31),IntKind.wrap .u8 (Zi .u64 y3 39),IntKind.wrap .u8 (Z4 .or .u64 (Zi .u64 y3 47) (Zq .u64 y4 4)),IntKind.wrap .u8 (Zi .u64 y4 4),IntKind.wrap .u8 (Zi .u64 y4 12),IntKind.wrap .u8 (Zi .u64 y4 20),IntKind.wrap .u8 (Zi .u64 y4 28),IntKind.wrap .u8 (Zi .u64 y4 36),IntKind.wrap .u8 (Zi .u64 y4 44)]:=by kernel_rfl
theorem Z1p (x:Int) (n:Nat) (h:n≤64):Zi .u64 x (n:Int)=x / ((2^n:Nat):Int):=Zby .u64 h
theorem Zw5 {n:Int} (h0:0≤n):IntKind.wrap .u8 (Zi .u64 (n%2251799813685248) 0)=n%256:=by
  have:=Z1p (n%2251799813685248) 0 (by decide)
  rw [show ((2^0:Nat):Int)=1 from rfl] at this
  refine (congrArg _ this).trans ?_
  rw [Z0c]
  omega
theorem Zw6 {n:Int} (h0:0≤n):IntKind.wrap .u8 (Zi .u64 (n%2251799813685248) 8)=n / 256%256:=by
  have:=Z1p (n%2251799813685248) 8 (by decide)
  rw [show ((2^8:Nat):Int)=256 from rfl] at this
  refine (congrArg _ this).trans ?_
  rw [Z0c]
  omega
theorem Zw7 {n:Int} (h0:0≤n):IntKind.wrap .u8 (Zi .u64 (n%2251799813685248) 16)=n / 65536%256:=by
  have:=Z1p (n%2251799813685248) 16 (by decide)
  rw [show ((2^16:Nat):Int)=65536 from rfl] at this
  refine (congrArg _ this).trans ?_
  rw [Z0c]
  omega
theorem Zw8 {n:Int} (h0:0≤n):IntKind.wrap .u8 (Zi .u64 (n%2251799813685248) 24)=n / 16777216%256:=by
  have:=Z1p (n%2251799813685248) 24 (by decide)
  rw [show ((2^24:Nat):Int)=16777216 from rfl] at this
  refine (congrArg _ this).trans ?_
  rw [Z0c]
  omega
theorem Zw9 {n:Int} (h0:0≤n):IntKind.wrap .u8 (Zi .u64 (n%2251799813685248) 32)=n / 4294967296%256:=by
  have:=Z1p (n%2251799813685248) 32 (by decide)
  rw [show ((2^32:Nat):Int)=4294967296 from rfl] at this
  refine (congrArg _ this).trans ?_
  rw [Z0c]
  omega
theorem Zwa {n:Int} (h0:0≤n):IntKind.wrap .u8 (Zi .u64 (n%2251799813685248) 40)=n / 1099511627776%256:=by
  have:=Z1p (n%2251799813685248) 40 (by decide)
  rw [show ((2^40:Nat):Int)=1099511627776 from rfl] at this
  refine (congrArg _ this).trans ?_
  rw [Z0c]
  omega
theorem Zwb {n:Int} (h0:0≤n):IntKind.wrap .u8 (Z4 .or .u64 (Zi .u64 (n%2251799813685248) 48) (Zq .u64 (n / 2251799813685248%2251799813685248) 3))=n / 281474976710656%256:=by
  have e1:Zi .u64 (n%2251799813685248) 48=n / 281474976710656%8:=by
    have:=Z1p (n%2251799813685248) 48 (by decide)
    rw [show ((2^48:Nat):Int)=281474976710656 from rfl] at this
    refine this.trans ?_
    omega
  have e2:Zq .u64 (n / 2251799813685248%2251799813685248) 3=(n / 2251799813685248%2251799813685248)*8:=by
    have:=Zen .u64 (x:=n / 2251799813685248%2251799813685248) (n:=3) (by decide)
    rw [show ((2^3:Nat):Int)=8 from rfl] at this
    refine this.trans (Zt (by omega) (by omega))
  rw [e1,e2,Z0d 3 (x:=(n / 2251799813685248%2251799813685248)*8) (y:=n / 281474976710656%8) (a:=n / 2251799813685248%2251799813685248) rfl (by omega) (by omega) (by show _<(8:Int); omega) (by omega),Z0c]
  omega
theorem Zwc {n:Int} (h0:0≤n):IntKind.wrap .u8 (Zi .u64 (n / 2251799813685248%2251799813685248) 5)=n / 72057594037927936%256:=by
  have:=Z1p (n / 2251799813685248%2251799813685248) 5 (by decide)
  rw [show ((2^5:Nat):Int)=32 from rfl] at this
  refine (congrArg _ this).trans ?_
  rw [Z0c]
  omega
theorem Zwd {n:Int} (h0:0≤n):IntKind.wrap .u8 (Zi .u64 (n / 2251799813685248%2251799813685248) 13)=n / 18446744073709551616%256:=by
  have:=Z1p (n / 2251799813685248%2251799813685248) 13 (by decide)
  rw [show ((2^13:Nat):Int)=8192 from rfl] at this
  refine (congrArg _ this).trans ?_
  rw [Z0c]
  omega
theorem Zwe {n:Int} (h0:0≤n):IntKind.wrap .u8 (Zi .u64 (n / 2251799813685248%2251799813685248) 21)=n / 4722366482869645213696%256:=by
  have:=Z1p (n / 2251799813685248%2251799813685248) 21 (by decide)
  rw [show ((2^21:Nat):Int)=2097152 from rfl] at this
  refine (congrArg _ this).trans ?_
  rw [Z0c]
  omega
theorem Zsi {n:Int} (h0:0≤n):IntKind.wrap .u8 (Zi .u64 (n / 2251799813685248%2251799813685248) 29)=n / 1208925819614629174706176%256:=by
  have:=Z1p (n / 2251799813685248%2251799813685248) 29 (by decide)
  rw [show ((2^29:Nat):Int)=536870912 from rfl] at this
  refine (congrArg _ this).trans ?_
  rw [Z0c]
  omega
theorem Zsj {n:Int} (h0:0≤n):IntKind.wrap .u8 (Zi .u64 (n / 2251799813685248%2251799813685248) 37)=n / 309485009821345068724781056%256:=by
  have:=Z1p (n / 2251799813685248%2251799813685248) 37 (by decide)
  rw [show ((2^37:Nat):Int)=137438953472 from rfl] at this
  refine (congrArg _ this).trans ?_
  rw [Z0c]
  omega
theorem Zsk {n:Int} (h0:0≤n):IntKind.wrap .u8 (Z4 .or .u64 (Zi .u64 (n / 2251799813685248%2251799813685248) 45) (Zq .u64 (n / 5070602400912917605986812821504%2251799813685248) 6))=n / 79228162514264337593543950336%256:=by
  have e1:Zi .u64 (n / 2251799813685248%2251799813685248) 45=n / 79228162514264337593543950336%64:=by
    have:=Z1p (n / 2251799813685248%2251799813685248) 45 (by decide)
    rw [show ((2^45:Nat):Int)=35184372088832 from rfl] at this
    refine this.trans ?_
    omega
  have e2:Zq .u64 (n / 5070602400912917605986812821504%2251799813685248) 6=(n / 5070602400912917605986812821504%2251799813685248)*64:=by
    have:=Zen .u64 (x:=n / 5070602400912917605986812821504%2251799813685248) (n:=6) (by decide)
    rw [show ((2^6:Nat):Int)=64 from rfl] at this
    refine this.trans (Zt (by omega) (by omega))
  rw [e1,e2,Z0d 6 (x:=(n / 5070602400912917605986812821504%2251799813685248)*64) (y:=n / 79228162514264337593543950336%64) (a:=n / 5070602400912917605986812821504%2251799813685248) rfl (by omega) (by omega) (by show _<(64:Int); omega) (by omega),Z0c]
  omega
theorem Zsl {n:Int} (h0:0≤n):IntKind.wrap .u8 (Zi .u64 (n / 5070602400912917605986812821504%2251799813685248) 2)=n / 20282409603651670423947251286016%256:=by
  have:=Z1p (n / 5070602400912917605986812821504%2251799813685248) 2 (by decide)
  rw [show ((2^2:Nat):Int)=4 from rfl] at this
  refine (congrArg _ this).trans ?_
  rw [Z0c]
  omega
theorem Zsm {n:Int} (h0:0≤n):IntKind.wrap .u8 (Zi .u64 (n / 5070602400912917605986812821504%2251799813685248) 10)=n / 5192296858534827628530496329220096%256:=by
  have:=Z1p (n / 5070602400912917605986812821504%2251799813685248) 10 (by decide)
  rw [show ((2^10:Nat):Int)=1024 from rfl] at this
  refine (congrArg _ this).trans ?_
  rw [Z0c]
  omega
theorem Zsn {n:Int} (h0:0≤n):IntKind.wrap .u8 (Zi .u64 (n / 5070602400912917605986812821504%2251799813685248) 18)=n / 1329227995784915872903807060280344576%256:=by
  have:=Z1p (n / 5070602400912917605986812821504%2251799813685248) 18 (by decide)
  rw [show ((2^18:Nat):Int)=262144 from rfl] at this
  refine (congrArg _ this).trans ?_
  rw [Z0c]
  omega
theorem Zso {n:Int} (h0:0≤n):IntKind.wrap .u8 (Zi .u64 (n / 5070602400912917605986812821504%2251799813685248) 26)=n / 340282366920938463463374607431768211456%256:=by
  have:=Z1p (n / 5070602400912917605986812821504%2251799813685248) 26 (by decide)
  rw [show ((2^26:Nat):Int)=67108864 from rfl] at this
  refine (congrArg _ this).trans ?_
  rw [Z0c]
  omega
theorem Zsp {n:Int} (h0:0≤n):IntKind.wrap .u8 (Zi .u64 (n / 5070602400912917605986812821504%2251799813685248) 34)=n / 87112285931760246646623899502532662132736%256:=by
  have:=Z1p (n / 5070602400912917605986812821504%2251799813685248) 34 (by decide)
  rw [show ((2^34:Nat):Int)=17179869184 from rfl] at this
  refine (congrArg _ this).trans ?_
  rw [Z0c]
  omega
theorem Zsq {n:Int} (h0:0≤n):IntKind.wrap .u8 (Zi .u64 (n / 5070602400912917605986812821504%2251799813685248) 42)=n / 22300745198530623141535718272648361505980416%256:=by
  have:=Z1p (n / 5070602400912917605986812821504%2251799813685248) 42 (by decide)
  rw [show ((2^42:Nat):Int)=4398046511104 from rfl] at this
  refine (congrArg _ this).trans ?_
  rw [Z0c]
  omega
theorem Zsr {n:Int} (h0:0≤n):IntKind.wrap .u8 (Z4 .or .u64 (Zi .u64 (n / 5070602400912917605986812821504%2251799813685248) 50) (Zq .u64 (n / 11417981541647679048466287755595961091061972992%2251799813685248) 1))=n / 5708990770823839524233143877797980545530986496%256:=by
  have e1:Zi .u64 (n / 5070602400912917605986812821504%2251799813685248) 50=n / 5708990770823839524233143877797980545530986496%2:=by
    have:=Z1p (n / 5070602400912917605986812821504%2251799813685248) 50 (by decide)
    rw [show ((2^50:Nat):Int)=1125899906842624 from rfl] at this
    refine this.trans ?_
    omega
  have e2:Zq .u64 (n / 11417981541647679048466287755595961091061972992%2251799813685248) 1=(n / 11417981541647679048466287755595961091061972992%2251799813685248)*2:=by
    have:=Zen .u64 (x:=n / 11417981541647679048466287755595961091061972992%2251799813685248) (n:=1) (by decide)
    rw [show ((2^1:Nat):Int)=2 from rfl] at this
    refine this.trans (Zt (by omega) (by omega))
  rw [e1,e2,Z0d 1 (x:=(n / 11417981541647679048466287755595961091061972992%2251799813685248)*2) (y:=n / 5708990770823839524233143877797980545530986496%2) (a:=n / 11417981541647679048466287755595961091061972992%2251799813685248) rfl (by omega) (by omega) (by show _<(2:Int); omega) (by omega),Z0c]
  omega
theorem Zss {n:Int} (h0:0≤n):IntKind.wrap .u8 (Zi .u64 (n / 11417981541647679048466287755595961091061972992%2251799813685248) 7)=n / 1461501637330902918203684832716283019655932542976%256:=by
  have:=Z1p (n / 11417981541647679048466287755595961091061972992%2251799813685248) 7 (by decide)
  rw [show ((2^7:Nat):Int)=128 from rfl] at this
  refine (congrArg _ this).trans ?_
  rw [Z0c]
  omega
theorem Zst {n:Int} (h0:0≤n):IntKind.wrap .u8 (Zi .u64 (n / 11417981541647679048466287755595961091061972992%2251799813685248) 15)=n / 374144419156711147060143317175368453031918731001856%256:=by
  have:=Z1p (n / 11417981541647679048466287755595961091061972992%2251799813685248) 15 (by decide)
  rw [show ((2^15:Nat):Int)=32768 from rfl] at this
  refine (congrArg _ this).trans ?_
  rw [Z0c]
  omega
theorem Zsu {n:Int} (h0:0≤n):IntKind.wrap .u8 (Zi .u64 (n / 11417981541647679048466287755595961091061972992%2251799813685248) 23)=n / 95780971304118053647396689196894323976171195136475136%256:=by
  have:=Z1p (n / 11417981541647679048466287755595961091061972992%2251799813685248) 23 (by decide)
  rw [show ((2^23:Nat):Int)=8388608 from rfl] at this
  refine (congrArg _ this).trans ?_
  rw [Z0c]
  omega
theorem Zsv {n:Int} (h0:0≤n):IntKind.wrap .u8 (Zi .u64 (n / 11417981541647679048466287755595961091061972992%2251799813685248) 31)=n / 24519928653854221733733552434404946937899825954937634816%256:=by
  have:=Z1p (n / 11417981541647679048466287755595961091061972992%2251799813685248) 31 (by decide)
  rw [show ((2^31:Nat):Int)=2147483648 from rfl] at this
  refine (congrArg _ this).trans ?_
  rw [Z0c]
  omega
theorem Zsw {n:Int} (h0:0≤n):IntKind.wrap .u8 (Zi .u64 (n / 11417981541647679048466287755595961091061972992%2251799813685248) 39)=n / 6277101735386680763835789423207666416102355444464034512896%256:=by
  have:=Z1p (n / 11417981541647679048466287755595961091061972992%2251799813685248) 39 (by decide)
  rw [show ((2^39:Nat):Int)=549755813888 from rfl] at this
  refine (congrArg _ this).trans ?_
  rw [Z0c]
  omega
theorem Zsx {n:Int} (h0:0≤n):IntKind.wrap .u8 (Z4 .or .u64 (Zi .u64 (n / 11417981541647679048466287755595961091061972992%2251799813685248) 47) (Zq .u64 (n / 25711008708143844408671393477458601640355247900524685364822016%2251799813685248) 4))=n / 1606938044258990275541962092341162602522202993782792835301376%256:=by
  have e1:Zi .u64 (n / 11417981541647679048466287755595961091061972992%2251799813685248) 47=n / 1606938044258990275541962092341162602522202993782792835301376%16:=by
    have:=Z1p (n / 11417981541647679048466287755595961091061972992%2251799813685248) 47 (by decide)
    rw [show ((2^47:Nat):Int)=140737488355328 from rfl] at this
    refine this.trans ?_
    omega
  have e2:Zq .u64 (n / 25711008708143844408671393477458601640355247900524685364822016%2251799813685248) 4=(n / 25711008708143844408671393477458601640355247900524685364822016%2251799813685248)*16:=by
    have:=Zen .u64 (x:=n / 25711008708143844408671393477458601640355247900524685364822016%2251799813685248) (n:=4) (by decide)
    rw [show ((2^4:Nat):Int)=16 from rfl] at this
    refine this.trans (Zt (by omega) (by omega))
  rw [e1,e2,Z0d 4 (x:=(n / 25711008708143844408671393477458601640355247900524685364822016%2251799813685248)*16) (y:=n / 1606938044258990275541962092341162602522202993782792835301376%16) (a:=n / 25711008708143844408671393477458601640355247900524685364822016%2251799813685248) rfl (by omega) (by omega) (by show _<(16:Int); omega) (by omega),Z0c]
  omega
theorem Zsy {n:Int} (h0:0≤n) (h1:n<57896044618658097711785492504343953926634992332820282019728792003956564819949):IntKind.wrap .u8 (Zi .u64 (n / 25711008708143844408671393477458601640355247900524685364822016%2251799813685248) 4)=n / 411376139330301510538742295639337626245683966408394965837152256%256:=by
  have:=Z1p (n / 25711008708143844408671393477458601640355247900524685364822016%2251799813685248) 4 (by decide)
  rw [show ((2^4:Nat):Int)=16 from rfl] at this
  refine (congrArg _ this).trans ?_
  rw [Z0c]
  omega
theorem Zsz {n:Int} (h0:0≤n) (h1:n<57896044618658097711785492504343953926634992332820282019728792003956564819949):IntKind.wrap .u8 (Zi .u64 (n / 25711008708143844408671393477458601640355247900524685364822016%2251799813685248) 12)=n / 105312291668557186697918027683670432318895095400549111254310977536%256:=by
  have:=Z1p (n / 25711008708143844408671393477458601640355247900524685364822016%2251799813685248) 12 (by decide)
  rw [show ((2^12:Nat):Int)=4096 from rfl] at this
  refine (congrArg _ this).trans ?_
  rw [Z0c]
  omega
theorem Zt0 {n:Int} (h0:0≤n) (h1:n<57896044618658097711785492504343953926634992332820282019728792003956564819949):IntKind.wrap .u8 (Zi .u64 (n / 25711008708143844408671393477458601640355247900524685364822016%2251799813685248) 20)=n / 26959946667150639794667015087019630673637144422540572481103610249216%256:=by
  have:=Z1p (n / 25711008708143844408671393477458601640355247900524685364822016%2251799813685248) 20 (by decide)
  rw [show ((2^20:Nat):Int)=1048576 from rfl] at this
  refine (congrArg _ this).trans ?_
  rw [Z0c]
  omega
theorem Zt1 {n:Int} (h0:0≤n) (h1:n<57896044618658097711785492504343953926634992332820282019728792003956564819949):IntKind.wrap .u8 (Zi .u64 (n / 25711008708143844408671393477458601640355247900524685364822016%2251799813685248) 28)=n / 6901746346790563787434755862277025452451108972170386555162524223799296%256:=by
  have:=Z1p (n / 25711008708143844408671393477458601640355247900524685364822016%2251799813685248) 28 (by decide)
  rw [show ((2^28:Nat):Int)=268435456 from rfl] at this
  refine (congrArg _ this).trans ?_
  rw [Z0c]
  omega
theorem Zt2 {n:Int} (h0:0≤n) (h1:n<57896044618658097711785492504343953926634992332820282019728792003956564819949):IntKind.wrap .u8 (Zi .u64 (n / 25711008708143844408671393477458601640355247900524685364822016%2251799813685248) 36)=n / 1766847064778384329583297500742918515827483896875618958121606201292619776%256:=by
  have:=Z1p (n / 25711008708143844408671393477458601640355247900524685364822016%2251799813685248) 36 (by decide)
  rw [show ((2^36:Nat):Int)=68719476736 from rfl] at this
  refine (congrArg _ this).trans ?_
  rw [Z0c]
  omega
theorem Zt3 {n:Int} (h0:0≤n) (h1:n<57896044618658097711785492504343953926634992332820282019728792003956564819949):IntKind.wrap .u8 (Zi .u64 (n / 25711008708143844408671393477458601640355247900524685364822016%2251799813685248) 44)=n / 452312848583266388373324160190187140051835877600158453279131187530910662656%256:=by
  have:=Z1p (n / 25711008708143844408671393477458601640355247900524685364822016%2251799813685248) 44 (by decide)
  rw [show ((2^44:Nat):Int)=17592186044416 from rfl] at this
  refine (congrArg _ this).trans ?_
  rw [Z0c]
  omega
theorem Zkk {x:List Int} (hx:U5 x):Z7u x=some (byt (Z57 x%PP)):=by
  rw [Z7u,Z3 (Z4e hx),Z2p]
  have h0:0≤Z57 x%PP:=Int.emod_nonneg _ (by decide)
  have h1:Z57 x%PP<PP:=Int.emod_lt_of_pos _ Zfc
  unfold Zgg
  generalize Z57 x%PP=n at *
  have e:Ze2 n = [n%2251799813685248,n / 2251799813685248%2251799813685248,n / 5070602400912917605986812821504%2251799813685248,n / 11417981541647679048466287755595961091061972992%2251799813685248,n / 25711008708143844408671393477458601640355247900524685364822016%2251799813685248]:=rfl
  rw [e,Zmx,Zw5 h0,Zw6 h0,Zw7 h0,Zw8 h0,Zw9 h0,Zwa h0,Zwb h0,Zwc h0,Zwd h0,Zwe h0,Zsi h0,Zsj h0,Zsk h0,Zsl h0,Zsm h0,Zsn h0,Zso h0,Zsp h0,Zsq h0,Zsr h0,Zss h0,Zst h0,Zsu h0,Zsv h0,Zsw h0,Zsx h0,Zsy h0 h1,Zsz h0 h1,Zt0 h0 h1,Zt1 h0 h1,Zt2 h0 h1,Zt3 h0 h1]
  rfl
theorem Zwl (k:List Int→Option (List Int)) (x:List Int):Z2x x k big 0 (List.replicate 5 0)=k [Z4 .or .u64 (Z4 .or .u64 (Z4 .or .u64 (Z4 .or .u64 (Z4 .or .u64 (Z4 .or .u64 (Z4 .or .u64 (0) (Z4 .and .u64 (Zq .u64 (IntKind.wrap .u64 (x.getD 0 0)) 0) 2251799813685247)) (Z4 .and .u64 (Zq .u64 (IntKind.wrap .u64 (x.getD 1 0)) 8) 2251799813685247)) (Z4 .and .u64 (Zq .u64 (IntKind.wrap .u64 (x.getD 2 0)) 16) 2251799813685247)) (Z4 .and .u64 (Zq .u64 (IntKind.wrap .u64 (x.getD 3 0)) 24) 2251799813685247)) (Z4 .and .u64 (Zq .u64 (IntKind.wrap .u64 (x.getD 4 0)) 32) 2251799813685247)) (Z4 .and .u64 (Zq .u64 (IntKind.wrap .u64 (x.getD 5 0)) 40) 2251799813685247)) (Z4 .and .u64 (Zq .u64 (IntKind.wrap .u64 (x.getD 6 0)) 48) 2251799813685247),
  Z4 .or .u64 (Z4 .or .u64 (Z4 .or .u64 (Z4 .or .u64 (Z4 .or .u64 (Z4 .or .u64 (Z4 .or .u64 (0) (Zi .u64 (IntKind.wrap .u64 (x.getD 6 0)) 3)) (Z4 .and .u64 (Zq .u64 (IntKind.wrap .u64 (x.getD 7 0)) 5) 2251799813685247)) (Z4 .and .u64 (Zq .u64 (IntKind.wrap .u64 (x.getD 8 0)) 13) 2251799813685247)) (Z4 .and .u64 (Zq .u64 (IntKind.wrap .u64 (x.getD 9 0)) 21) 2251799813685247)) (Z4 .and .u64 (Zq .u64 (IntKind.wrap .u64 (x.getD 10 0)) 29) 2251799813685247)) (Z4 .and .u64 (Zq .u64 (IntKind.wrap .u64 (x.getD 11 0)) 37) 2251799813685247)) (Z4 .and .u64 (Zq .u64 (IntKind.wrap .u64 (x.getD 12 0)) 45) 2251799813685247),
  Z4 .or .u64 (Z4 .or .u64 (Z4 .or .u64 (Z4 .or .u64 (Z4 .or .u64 (Z4 .or .u64 (Z4 .or .u64 (Z4 .or .u64 (0) (Zi .u64 (IntKind.wrap .u64 (x.getD 12 0)) 6)) (Z4 .and .u64 (Zq .u64 (IntKind.wrap .u64 (x.getD 13 0)) 2) 2251799813685247)) (Z4 .and .u64 (Zq .u64 (IntKind.wrap .u64 (x.getD 14 0)) 10) 2251799813685247)) (Z4 .and .u64 (Zq .u64 (IntKind.wrap .u64 (x.getD 15 0)) 18) 2251799813685247)) (Z4 .and .u64 (Zq .u64 (IntKind.wrap .u64 (x.getD 16 0)) 26) 2251799813685247)) (Z4 .and .u64 (Zq .u64 (IntKind.wrap .u64 (x.getD 17 0)) 34) 2251799813685247)) (Z4 .and .u64 (Zq .u64 (IntKind.wrap .u64 (x.getD 18 0)) 42) 2251799813685247)) (Z4 .and .u64 (Zq .u64 (IntKind.wrap .u64 (x.getD 19 0)) 50) 2251799813685247),
  Z4 .or .u64 (Z4 .or .u64 (Z4 .or .u64 (Z4 .or .u64 (Z4 .or .u64 (Z4 .or .u64 (Z4 .or .u64 (0) (Zi .u64 (IntKind.wrap .u64 (x.getD 19 0)) 1)) (Z4 .and .u64 (Zq .u64 (IntKind.wrap .u64 (x.getD 20 0)) 7) 2251799813685247)) (Z4 .and .u64 (Zq .u64 (IntKind.wrap .u64 (x.getD 21 0)) 15) 2251799813685247)) (Z4 .and .u64 (Zq .u64 (IntKind.wrap .u64 (x.getD 22 0)) 23) 2251799813685247)) (Z4 .and .u64 (Zq .u64 (IntKind.wrap .u64 (x.getD 23 0)) 31) 2251799813685247)) (Z4 .and .u64 (Zq .u64 (IntKind.wrap .u64 (x.getD 24 0)) 39) 2251799813685247)) (Z4 .and .u64 (Zq .u64 (IntKind.wrap .u64 (x.getD 25 0)) 47) 2251799813685247),
  Z4 .or .u64 (Z4 .or .u64 (Z4 .or .u64 (Z4 .or .u64 (Z4 .or .u64 (Z4 .or .u64 (Z4 .or .u64 (0) (Zi .u64 (IntKind.wrap .u64 (x.getD 25 0)) 4)) (Z4 .and .u64 (Zq .u64 (IntKind.wrap .u64 (x.getD 26 0)) 4) 2251799813685247)) (Z4 .and .u64 (Zq .u64 (IntKind.wrap .u64 (x.getD 27 0)) 12) 2251799813685247)) (Z4 .and .u64 (Zq .u64 (IntKind.wrap .u64 (x.getD 28 0)) 20) 2251799813685247)) (Z4 .and .u64 (Zq .u64 (IntKind.wrap .u64 (x.getD 29 0)) 28) 2251799813685247)) (Z4 .and .u64 (Zq .u64 (IntKind.wrap .u64 (x.getD 30 0)) 36) 2251799813685247)) (Z4 .and .u64 (Zq .u64 (IntKind.wrap .u64 (Z4 .and .u8 (x.getD 31 0) 127)) 44) 2251799813685247)]:=by kernel_rfl
theorem Z14 (k:Nat) {b:Int} (hk:k≤51) (hb:0≤b∧b<256):Z4 .and .u64 (Zq .u64 (IntKind.wrap .u64 b) (k:Int)) 2251799813685247=b%((2^(51-k):Nat):Int)*((2^k:Nat):Int):=by
  have hp:(0:Int)<((2^k:Nat):Int):=by have:=Nat.pow_pos (n:=k) (show 0<2 by decide); omega
  have hq:(0:Int)<((2^(51-k):Nat):Int):=by have:=Nat.pow_pos (n:=51-k) (show 0<2 by decide); omega
  have hle:((2^k:Nat):Int)≤2251799813685248:=by
    have:=Nat.pow_le_pow_right (show 0<2 by decide) hk
    have e:(2^51:Nat)=2251799813685248:=by decide
    omega
  have hprod:((2^k:Nat):Int)*((2^(51-k):Nat):Int)=2251799813685248:=by
    rw [← Int.natCast_mul,← Nat.pow_add,show k+(51-k)=51 by omega]; rfl
  have hbk:b*((2^k:Nat):Int)≤256*2251799813685248:=Int.mul_le_mul (by omega) hle (by omega) (by omega)
  have hbk0:0≤b*((2^k:Nat):Int):=Int.mul_nonneg hb.1 (by omega)
  rw [Zt hb.1 (by omega),Zen .u64 (n:=k) (by show k≤64; omega),Zt hbk0 (by omega),Zhi hbk0 (by omega)]
  rw [← hprod,Int.mul_comm b,Int.mul_emod_mul_of_pos _ _ hp,Int.mul_comm]
theorem Zf6 (k:Nat) {b:Int} (hk:k≤64) (hb:0≤b∧b<256):Zi .u64 (IntKind.wrap .u64 b) (k:Int)=b / ((2^k:Nat):Int):=by
  rw [Zt hb.1 (by omega),Zby .u64 hk]
theorem Zzc {b0 b1 b2 b3 b4 b5 b6:Int} (h0:0≤b0∧b0<256) (h1:0≤b1∧b1<256) (h2:0≤b2∧b2<256) (h3:0≤b3∧b3<256) (h4:0≤b4∧b4<256) (h5:0≤b5∧b5<256) (h6:0≤b6∧b6<256):Z4 .or .u64 (Z4 .or .u64 (Z4 .or .u64 (Z4 .or .u64 (Z4 .or .u64 (Z4 .or .u64 (Z4 .or .u64 (0) (Z4 .and .u64 (Zq .u64 (IntKind.wrap .u64 b0) 0) 2251799813685247)) (Z4 .and .u64 (Zq .u64 (IntKind.wrap .u64 b1) 8) 2251799813685247)) (Z4 .and .u64 (Zq .u64 (IntKind.wrap .u64 b2) 16) 2251799813685247)) (Z4 .and .u64 (Zq .u64 (IntKind.wrap .u64 b3) 24) 2251799813685247)) (Z4 .and .u64 (Zq .u64 (IntKind.wrap .u64 b4) 32) 2251799813685247)) (Z4 .and .u64 (Zq .u64 (IntKind.wrap .u64 b5) 40) 2251799813685247)) (Z4 .and .u64 (Zq .u64 (IntKind.wrap .u64 b6) 48) 2251799813685247)=0+b0*1+b1*256+b2*65536+b3*16777216+b4*4294967296+b5*1099511627776+b6%8*281474976710656:=by
  have p0:Z4 .and .u64 (Zq .u64 (IntKind.wrap .u64 b0) 0) 2251799813685247=b0*1:=by
    have:=Z14 0 (by decide) h0
    refine this.trans ?_
    rw [show ((2^(51-0):Nat):Int)=2251799813685248 from rfl,show ((2^0:Nat):Int)=1 from rfl]
    rw [Int.emod_eq_of_lt h0.1 (by omega)]
  rw [p0,Z0d 0 (x:=b0*1) (y:=0) (a:=b0) (by simp) (by omega) (by omega) (by show _<(1:Int); omega) (by omega)]
  have p1:Z4 .and .u64 (Zq .u64 (IntKind.wrap .u64 b1) 8) 2251799813685247=b1*256:=by
    have:=Z14 8 (by decide) h1
    refine this.trans ?_
    rw [show ((2^(51-8):Nat):Int)=8796093022208 from rfl,show ((2^8:Nat):Int)=256 from rfl]
    rw [Int.emod_eq_of_lt h1.1 (by omega)]
  rw [p1,Z0d 8 (x:=b1*256) (y:=0+b0*1) (a:=b1) (by simp) (by omega) (by omega) (by show _<(256:Int); omega) (by omega)]
  have p2:Z4 .and .u64 (Zq .u64 (IntKind.wrap .u64 b2) 16) 2251799813685247=b2*65536:=by
    have:=Z14 16 (by decide) h2
    refine this.trans ?_
    rw [show ((2^(51-16):Nat):Int)=34359738368 from rfl,show ((2^16:Nat):Int)=65536 from rfl]
    rw [Int.emod_eq_of_lt h2.1 (by omega)]
  rw [p2,Z0d 16 (x:=b2*65536) (y:=0+b0*1+b1*256) (a:=b2) (by simp) (by omega) (by omega) (by show _<(65536:Int); omega) (by omega)]
  have p3:Z4 .and .u64 (Zq .u64 (IntKind.wrap .u64 b3) 24) 2251799813685247=b3*16777216:=by
    have:=Z14 24 (by decide) h3
    refine this.trans ?_
    rw [show ((2^(51-24):Nat):Int)=134217728 from rfl,show ((2^24:Nat):Int)=16777216 from rfl]
    rw [Int.emod_eq_of_lt h3.1 (by omega)]
  rw [p3,Z0d 24 (x:=b3*16777216) (y:=0+b0*1+b1*256+b2*65536) (a:=b3) (by simp) (by omega) (by omega) (by show _<(16777216:Int); omega) (by omega)]
  have p4:Z4 .and .u64 (Zq .u64 (IntKind.wrap .u64 b4) 32) 2251799813685247=b4*4294967296:=by
    have:=Z14 32 (by decide) h4
    refine this.trans ?_
    rw [show ((2^(51-32):Nat):Int)=524288 from rfl,show ((2^32:Nat):Int)=4294967296 from rfl]
    rw [Int.emod_eq_of_lt h4.1 (by omega)]
  rw [p4,Z0d 32 (x:=b4*4294967296) (y:=0+b0*1+b1*256+b2*65536+b3*16777216) (a:=b4) (by simp) (by omega) (by omega) (by show _<(4294967296:Int); omega) (by omega)]
  have p5:Z4 .and .u64 (Zq .u64 (IntKind.wrap .u64 b5) 40) 2251799813685247=b5*1099511627776:=by
    have:=Z14 40 (by decide) h5
    refine this.trans ?_
    rw [show ((2^(51-40):Nat):Int)=2048 from rfl,show ((2^40:Nat):Int)=1099511627776 from rfl]
    rw [Int.emod_eq_of_lt h5.1 (by omega)]
  rw [p5,Z0d 40 (x:=b5*1099511627776) (y:=0+b0*1+b1*256+b2*65536+b3*16777216+b4*4294967296) (a:=b5) (by simp) (by omega) (by omega) (by show _<(1099511627776:Int); omega) (by omega)]
  have p6:Z4 .and .u64 (Zq .u64 (IntKind.wrap .u64 b6) 48) 2251799813685247=b6%8*281474976710656:=by
    have:=Z14 48 (by decide) h6
    refine this.trans ?_
    rw [show ((2^(51-48):Nat):Int)=8 from rfl,show ((2^48:Nat):Int)=281474976710656 from rfl]
  rw [p6,Z0d 48 (x:=b6%8*281474976710656) (y:=0+b0*1+b1*256+b2*65536+b3*16777216+b4*4294967296+b5*1099511627776) (a:=b6%8) (by simp) (by omega) (by omega) (by show _<(281474976710656:Int); omega) (by omega)]
theorem Zzd {b6 b7 b8 b9 b10 b11 b12:Int} (h6:0≤b6∧b6<256) (h7:0≤b7∧b7<256) (h8:0≤b8∧b8<256) (h9:0≤b9∧b9<256) (h10:0≤b10∧b10<256) (h11:0≤b11∧b11<256) (h12:0≤b12∧b12<256):Z4 .or .u64 (Z4 .or .u64 (Z4 .or .u64 (Z4 .or .u64 (Z4 .or .u64 (Z4 .or .u64 (Z4 .or .u64 (0) (Zi .u64 (IntKind.wrap .u64 b6) 3)) (Z4 .and .u64 (Zq .u64 (IntKind.wrap .u64 b7) 5) 2251799813685247)) (Z4 .and .u64 (Zq .u64 (IntKind.wrap .u64 b8) 13) 2251799813685247)) (Z4 .and .u64 (Zq .u64 (IntKind.wrap .u64 b9) 21) 2251799813685247)) (Z4 .and .u64 (Zq .u64 (IntKind.wrap .u64 b10) 29) 2251799813685247)) (Z4 .and .u64 (Zq .u64 (IntKind.wrap .u64 b11) 37) 2251799813685247)) (Z4 .and .u64 (Zq .u64 (IntKind.wrap .u64 b12) 45) 2251799813685247)=0+b6 / 8+b7*32+b8*8192+b9*2097152+b10*536870912+b11*137438953472+b12%64*35184372088832:=by
  have p0:Zi .u64 (IntKind.wrap .u64 b6) 3=b6 / 8:=by
    have:=Zf6 3 (by decide) h6
    refine this.trans ?_
    rw [show ((2^3:Nat):Int)=8 from rfl]
  rw [p0,Z0d 0 (x:=b6 / 8) (y:=0) (a:=b6 / 8) (by simp) (by omega) (by omega) (by show _<(1:Int); omega) (by omega)]
  have p1:Z4 .and .u64 (Zq .u64 (IntKind.wrap .u64 b7) 5) 2251799813685247=b7*32:=by
    have:=Z14 5 (by decide) h7
    refine this.trans ?_
    rw [show ((2^(51-5):Nat):Int)=70368744177664 from rfl,show ((2^5:Nat):Int)=32 from rfl]
    rw [Int.emod_eq_of_lt h7.1 (by omega)]
  rw [p1,Z0d 5 (x:=b7*32) (y:=0+b6 / 8) (a:=b7) (by simp) (by omega) (by omega) (by show _<(32:Int); omega) (by omega)]
  have p2:Z4 .and .u64 (Zq .u64 (IntKind.wrap .u64 b8) 13) 2251799813685247=b8*8192:=by
    have:=Z14 13 (by decide) h8
    refine this.trans ?_
    rw [show ((2^(51-13):Nat):Int)=274877906944 from rfl,show ((2^13:Nat):Int)=8192 from rfl]
    rw [Int.emod_eq_of_lt h8.1 (by omega)]
  rw [p2,Z0d 13 (x:=b8*8192) (y:=0+b6 / 8+b7*32) (a:=b8) (by simp) (by omega) (by omega) (by show _<(8192:Int); omega) (by omega)]
  have p3:Z4 .and .u64 (Zq .u64 (IntKind.wrap .u64 b9) 21) 2251799813685247=b9*2097152:=by
    have:=Z14 21 (by decide) h9
    refine this.trans ?_
    rw [show ((2^(51-21):Nat):Int)=1073741824 from rfl,show ((2^21:Nat):Int)=2097152 from rfl]
    rw [Int.emod_eq_of_lt h9.1 (by omega)]
  rw [p3,Z0d 21 (x:=b9*2097152) (y:=0+b6 / 8+b7*32+b8*8192) (a:=b9) (by simp) (by omega) (by omega) (by show _<(2097152:Int); omega) (by omega)]
  have p4:Z4 .and .u64 (Zq .u64 (IntKind.wrap .u64 b10) 29) 2251799813685247=b10*536870912:=by
    have:=Z14 29 (by decide) h10
    refine this.trans ?_
    rw [show ((2^(51-29):Nat):Int)=4194304 from rfl,show ((2^29:Nat):Int)=536870912 from rfl]
    rw [Int.emod_eq_of_lt h10.1 (by omega)]
  rw [p4,Z0d 29 (x:=b10*536870912) (y:=0+b6 / 8+b7*32+b8*8192+b9*2097152) (a:=b10) (by simp) (by omega) (by omega) (by show _<(536870912:Int); omega) (by omega)]
  have p5:Z4 .and .u64 (Zq .u64 (IntKind.wrap .u64 b11) 37) 2251799813685247=b11*137438953472:=by
    have:=Z14 37 (by decide) h11
    refine this.trans ?_
    rw [show ((2^(51-37):Nat):Int)=16384 from rfl,show ((2^37:Nat):Int)=137438953472 from rfl]
    rw [Int.emod_eq_of_lt h11.1 (by omega)]
  rw [p5,Z0d 37 (x:=b11*137438953472) (y:=0+b6 / 8+b7*32+b8*8192+b9*2097152+b10*536870912) (a:=b11) (by simp) (by omega) (by omega) (by show _<(137438953472:Int); omega) (by omega)]
  have p6:Z4 .and .u64 (Zq .u64 (IntKind.wrap .u64 b12) 45) 2251799813685247=b12%64*35184372088832:=by
    have:=Z14 45 (by decide) h12
    refine this.trans ?_
    rw [show ((2^(51-45):Nat):Int)=64 from rfl,show ((2^45:Nat):Int)=35184372088832 from rfl]
  rw [p6,Z0d 45 (x:=b12%64*35184372088832) (y:=0+b6 / 8+b7*32+b8*8192+b9*2097152+b10*536870912+b11*137438953472) (a:=b12%64) (by simp) (by omega) (by omega) (by show _<(35184372088832:Int); omega) (by omega)]
theorem Zze {b12 b13 b14 b15 b16 b17 b18 b19:Int} (h12:0≤b12∧b12<256) (h13:0≤b13∧b13<256) (h14:0≤b14∧b14<256) (h15:0≤b15∧b15<256) (h16:0≤b16∧b16<256) (h17:0≤b17∧b17<256) (h18:0≤b18∧b18<256) (h19:0≤b19∧b19<256):Z4 .or .u64 (Z4 .or .u64 (Z4 .or .u64 (Z4 .or .u64 (Z4 .or .u64 (Z4 .or .u64 (Z4 .or .u64 (Z4 .or .u64 (0) (Zi .u64 (IntKind.wrap .u64 b12) 6)) (Z4 .and .u64 (Zq .u64 (IntKind.wrap .u64 b13) 2) 2251799813685247)) (Z4 .and .u64 (Zq .u64 (IntKind.wrap .u64 b14) 10) 2251799813685247)) (Z4 .and .u64 (Zq .u64 (IntKind.wrap .u64 b15) 18) 2251799813685247)) (Z4 .and .u64 (Zq .u64 (IntKind.wrap .u64 b16) 26) 2251799813685247)) (Z4 .and .u64 (Zq .u64 (IntKind.wrap .u64 b17) 34) 2251799813685247)) (Z4 .and .u64 (Zq .u64 (IntKind.wrap .u64 b18) 42) 2251799813685247)) (Z4 .and .u64 (Zq .u64 (IntKind.wrap .u64 b19) 50) 2251799813685247)=0+b12 / 64+b13*4+b14*1024+b15*262144+b16*67108864+b17*17179869184+b18*4398046511104+b19%2*1125899906842624:=by
  have p0:Zi .u64 (IntKind.wrap .u64 b12) 6=b12 / 64:=by
    have:=Zf6 6 (by decide) h12
    refine this.trans ?_
    rw [show ((2^6:Nat):Int)=64 from rfl]
  rw [p0,Z0d 0 (x:=b12 / 64) (y:=0) (a:=b12 / 64) (by simp) (by omega) (by omega) (by show _<(1:Int); omega) (by omega)]
  have p1:Z4 .and .u64 (Zq .u64 (IntKind.wrap .u64 b13) 2) 2251799813685247=b13*4:=by
    have:=Z14 2 (by decide) h13
    refine this.trans ?_
    rw [show ((2^(51-2):Nat):Int)=562949953421312 from rfl,show ((2^2:Nat):Int)=4 from rfl]
    rw [Int.emod_eq_of_lt h13.1 (by omega)]
  rw [p1,Z0d 2 (x:=b13*4) (y:=0+b12 / 64) (a:=b13) (by simp) (by omega) (by omega) (by show _<(4:Int); omega) (by omega)]
  have p2:Z4 .and .u64 (Zq .u64 (IntKind.wrap .u64 b14) 10) 2251799813685247=b14*1024:=by
    have:=Z14 10 (by decide) h14
    refine this.trans ?_
    rw [show ((2^(51-10):Nat):Int)=2199023255552 from rfl,show ((2^10:Nat):Int)=1024 from rfl]
    rw [Int.emod_eq_of_lt h14.1 (by omega)]
  rw [p2,Z0d 10 (x:=b14*1024) (y:=0+b12 / 64+b13*4) (a:=b14) (by simp) (by omega) (by omega) (by show _<(1024:Int); omega) (by omega)]
  have p3:Z4 .and .u64 (Zq .u64 (IntKind.wrap .u64 b15) 18) 2251799813685247=b15*262144:=by
    have:=Z14 18 (by decide) h15
    refine this.trans ?_
    rw [show ((2^(51-18):Nat):Int)=8589934592 from rfl,show ((2^18:Nat):Int)=262144 from rfl]
    rw [Int.emod_eq_of_lt h15.1 (by omega)]
  rw [p3,Z0d 18 (x:=b15*262144) (y:=0+b12 / 64+b13*4+b14*1024) (a:=b15) (by simp) (by omega) (by omega) (by show _<(262144:Int); omega) (by omega)]
  have p4:Z4 .and .u64 (Zq .u64 (IntKind.wrap .u64 b16) 26) 2251799813685247=b16*67108864:=by
    have:=Z14 26 (by decide) h16
    refine this.trans ?_
    rw [show ((2^(51-26):Nat):Int)=33554432 from rfl,show ((2^26:Nat):Int)=67108864 from rfl]
    rw [Int.emod_eq_of_lt h16.1 (by omega)]
  rw [p4,Z0d 26 (x:=b16*67108864) (y:=0+b12 / 64+b13*4+b14*1024+b15*262144) (a:=b16) (by simp) (by omega) (by omega) (by show _<(67108864:Int); omega) (by omega)]
  have p5:Z4 .and .u64 (Zq .u64 (IntKind.wrap .u64 b17) 34) 2251799813685247=b17*17179869184:=by
    have:=Z14 34 (by decide) h17
    refine this.trans ?_
    rw [show ((2^(51-34):Nat):Int)=131072 from rfl,show ((2^34:Nat):Int)=17179869184 from rfl]
    rw [Int.emod_eq_of_lt h17.1 (by omega)]
  rw [p5,Z0d 34 (x:=b17*17179869184) (y:=0+b12 / 64+b13*4+b14*1024+b15*262144+b16*67108864) (a:=b17) (by simp) (by omega) (by omega) (by show _<(17179869184:Int); omega) (by omega)]
  have p6:Z4 .and .u64 (Zq .u64 (IntKind.wrap .u64 b18) 42) 2251799813685247=b18*4398046511104:=by
    have:=Z14 42 (by decide) h18
    refine this.trans ?_
    rw [show ((2^(51-42):Nat):Int)=512 from rfl,show ((2^42:Nat):Int)=4398046511104 from rfl]
    rw [Int.emod_eq_of_lt h18.1 (by omega)]
  rw [p6,Z0d 42 (x:=b18*4398046511104) (y:=0+b12 / 64+b13*4+b14*1024+b15*262144+b16*67108864+b17*17179869184) (a:=b18) (by simp) (by omega) (by omega) (by show _<(4398046511104:Int); omega) (by omega)]
  have p7:Z4 .and .u64 (Zq .u64 (IntKind.wrap .u64 b19) 50) 2251799813685247=b19%2*1125899906842624:=by
    have:=Z14 50 (by decide) h19
    refine this.trans ?_
    rw [show ((2^(51-50):Nat):Int)=2 from rfl,show ((2^50:Nat):Int)=1125899906842624 from rfl]
  rw [p7,Z0d 50 (x:=b19%2*1125899906842624) (y:=0+b12 / 64+b13*4+b14*1024+b15*262144+b16*67108864+b17*17179869184+b18*4398046511104) (a:=b19%2) (by simp) (by omega) (by omega) (by show _<(1125899906842624:Int); omega) (by omega)]
theorem Zzf {b19 b20 b21 b22 b23 b24 b25:Int} (h19:0≤b19∧b19<256) (h20:0≤b20∧b20<256) (h21:0≤b21∧b21<256) (h22:0≤b22∧b22<256) (h23:0≤b23∧b23<256) (h24:0≤b24∧b24<256) (h25:0≤b25∧b25<256):Z4 .or .u64 (Z4 .or .u64 (Z4 .or .u64 (Z4 .or .u64 (Z4 .or .u64 (Z4 .or .u64 (Z4 .or .u64 (0) (Zi .u64 (IntKind.wrap .u64 b19) 1)) (Z4 .and .u64 (Zq .u64 (IntKind.wrap .u64 b20) 7) 2251799813685247)) (Z4 .and .u64 (Zq .u64 (IntKind.wrap .u64 b21) 15) 2251799813685247)) (Z4 .and .u64 (Zq .u64 (IntKind.wrap .u64 b22) 23) 2251799813685247)) (Z4 .and .u64 (Zq .u64 (IntKind.wrap .u64 b23) 31) 2251799813685247)) (Z4 .and .u64 (Zq .u64 (IntKind.wrap .u64 b24) 39) 2251799813685247)) (Z4 .and .u64 (Zq .u64 (IntKind.wrap .u64 b25) 47) 2251799813685247)=0+b19 / 2+b20*128+b21*32768+b22*8388608+b23*2147483648+b24*549755813888+b25%16*140737488355328:=by
  have p0:Zi .u64 (IntKind.wrap .u64 b19) 1=b19 / 2:=by
    have:=Zf6 1 (by decide) h19
    refine this.trans ?_
    rw [show ((2^1:Nat):Int)=2 from rfl]
  rw [p0,Z0d 0 (x:=b19 / 2) (y:=0) (a:=b19 / 2) (by simp) (by omega) (by omega) (by show _<(1:Int); omega) (by omega)]
  have p1:Z4 .and .u64 (Zq .u64 (IntKind.wrap .u64 b20) 7) 2251799813685247=b20*128:=by
    have:=Z14 7 (by decide) h20
    refine this.trans ?_
    rw [show ((2^(51-7):Nat):Int)=17592186044416 from rfl,show ((2^7:Nat):Int)=128 from rfl]
    rw [Int.emod_eq_of_lt h20.1 (by omega)]
  rw [p1,Z0d 7 (x:=b20*128) (y:=0+b19 / 2) (a:=b20) (by simp) (by omega) (by omega) (by show _<(128:Int); omega) (by omega)]
  have p2:Z4 .and .u64 (Zq .u64 (IntKind.wrap .u64 b21) 15) 2251799813685247=b21*32768:=by
    have:=Z14 15 (by decide) h21
    refine this.trans ?_
    rw [show ((2^(51-15):Nat):Int)=68719476736 from rfl,show ((2^15:Nat):Int)=32768 from rfl]
    rw [Int.emod_eq_of_lt h21.1 (by omega)]
  rw [p2,Z0d 15 (x:=b21*32768) (y:=0+b19 / 2+b20*128) (a:=b21) (by simp) (by omega) (by omega) (by show _<(32768:Int); omega) (by omega)]
  have p3:Z4 .and .u64 (Zq .u64 (IntKind.wrap .u64 b22) 23) 2251799813685247=b22*8388608:=by
    have:=Z14 23 (by decide) h22
    refine this.trans ?_
    rw [show ((2^(51-23):Nat):Int)=268435456 from rfl,show ((2^23:Nat):Int)=8388608 from rfl]
    rw [Int.emod_eq_of_lt h22.1 (by omega)]
  rw [p3,Z0d 23 (x:=b22*8388608) (y:=0+b19 / 2+b20*128+b21*32768) (a:=b22) (by simp) (by omega) (by omega) (by show _<(8388608:Int); omega) (by omega)]
  have p4:Z4 .and .u64 (Zq .u64 (IntKind.wrap .u64 b23) 31) 2251799813685247=b23*2147483648:=by
    have:=Z14 31 (by decide) h23
    refine this.trans ?_
    rw [show ((2^(51-31):Nat):Int)=1048576 from rfl,show ((2^31:Nat):Int)=2147483648 from rfl]
    rw [Int.emod_eq_of_lt h23.1 (by omega)]
  rw [p4,Z0d 31 (x:=b23*2147483648) (y:=0+b19 / 2+b20*128+b21*32768+b22*8388608) (a:=b23) (by simp) (by omega) (by omega) (by show _<(2147483648:Int); omega) (by omega)]
  have p5:Z4 .and .u64 (Zq .u64 (IntKind.wrap .u64 b24) 39) 2251799813685247=b24*549755813888:=by
    have:=Z14 39 (by decide) h24
    refine this.trans ?_
    rw [show ((2^(51-39):Nat):Int)=4096 from rfl,show ((2^39:Nat):Int)=549755813888 from rfl]
    rw [Int.emod_eq_of_lt h24.1 (by omega)]
  rw [p5,Z0d 39 (x:=b24*549755813888) (y:=0+b19 / 2+b20*128+b21*32768+b22*8388608+b23*2147483648) (a:=b24) (by simp) (by omega) (by omega) (by show _<(549755813888:Int); omega) (by omega)]
  have p6:Z4 .and .u64 (Zq .u64 (IntKind.wrap .u64 b25) 47) 2251799813685247=b25%16*140737488355328:=by
    have:=Z14 47 (by decide) h25
    refine this.trans ?_
    rw [show ((2^(51-47):Nat):Int)=16 from rfl,show ((2^47:Nat):Int)=140737488355328 from rfl]
  rw [p6,Z0d 47 (x:=b25%16*140737488355328) (y:=0+b19 / 2+b20*128+b21*32768+b22*8388608+b23*2147483648+b24*549755813888) (a:=b25%16) (by simp) (by omega) (by omega) (by show _<(140737488355328:Int); omega) (by omega)]
theorem Zzg {b25 b26 b27 b28 b29 b30 b31:Int} (h25:0≤b25∧b25<256) (h26:0≤b26∧b26<256) (h27:0≤b27∧b27<256) (h28:0≤b28∧b28<256) (h29:0≤b29∧b29<256) (h30:0≤b30∧b30<256) (h31:0≤b31∧b31<256):Z4 .or .u64 (Z4 .or .u64 (Z4 .or .u64 (Z4 .or .u64 (Z4 .or .u64 (Z4 .or .u64 (Z4 .or .u64 (0) (Zi .u64 (IntKind.wrap .u64 b25) 4)) (Z4 .and .u64 (Zq .u64 (IntKind.wrap .u64 b26) 4) 2251799813685247)) (Z4 .and .u64 (Zq .u64 (IntKind.wrap .u64 b27) 12) 2251799813685247)) (Z4 .and .u64 (Zq .u64 (IntKind.wrap .u64 b28) 20) 2251799813685247)) (Z4 .and .u64 (Zq .u64 (IntKind.wrap .u64 b29) 28) 2251799813685247)) (Z4 .and .u64 (Zq .u64 (IntKind.wrap .u64 b30) 36) 2251799813685247)) (Z4 .and .u64 (Zq .u64 (IntKind.wrap .u64 b31) 44) 2251799813685247)=0+b25 / 16+b26*16+b27*4096+b28*1048576+b29*268435456+b30*68719476736+b31%128*17592186044416:=by
  have p0:Zi .u64 (IntKind.wrap .u64 b25) 4=b25 / 16:=by
    have:=Zf6 4 (by decide) h25
    refine this.trans ?_
    rw [show ((2^4:Nat):Int)=16 from rfl]
  rw [p0,Z0d 0 (x:=b25 / 16) (y:=0) (a:=b25 / 16) (by simp) (by omega) (by omega) (by show _<(1:Int); omega) (by omega)]
  have p1:Z4 .and .u64 (Zq .u64 (IntKind.wrap .u64 b26) 4) 2251799813685247=b26*16:=by
    have:=Z14 4 (by decide) h26
    refine this.trans ?_
    rw [show ((2^(51-4):Nat):Int)=140737488355328 from rfl,show ((2^4:Nat):Int)=16 from rfl]
    rw [Int.emod_eq_of_lt h26.1 (by omega)]
  rw [p1,Z0d 4 (x:=b26*16) (y:=0+b25 / 16) (a:=b26) (by simp) (by omega) (by omega) (by show _<(16:Int); omega) (by omega)]
  have p2:Z4 .and .u64 (Zq .u64 (IntKind.wrap .u64 b27) 12) 2251799813685247=b27*4096:=by
    have:=Z14 12 (by decide) h27
    refine this.trans ?_
    rw [show ((2^(51-12):Nat):Int)=549755813888 from rfl,show ((2^12:Nat):Int)=4096 from rfl]
    rw [Int.emod_eq_of_lt h27.1 (by omega)]
  rw [p2,Z0d 12 (x:=b27*4096) (y:=0+b25 / 16+b26*16) (a:=b27) (by simp) (by omega) (by omega) (by show _<(4096:Int); omega) (by omega)]
  have p3:Z4 .and .u64 (Zq .u64 (IntKind.wrap .u64 b28) 20) 2251799813685247=b28*1048576:=by
    have:=Z14 20 (by decide) h28
    refine this.trans ?_
    rw [show ((2^(51-20):Nat):Int)=2147483648 from rfl,show ((2^20:Nat):Int)=1048576 from rfl]
    rw [Int.emod_eq_of_lt h28.1 (by omega)]
  rw [p3,Z0d 20 (x:=b28*1048576) (y:=0+b25 / 16+b26*16+b27*4096) (a:=b28) (by simp) (by omega) (by omega) (by show _<(1048576:Int); omega) (by omega)]
  have p4:Z4 .and .u64 (Zq .u64 (IntKind.wrap .u64 b29) 28) 2251799813685247=b29*268435456:=by
    have:=Z14 28 (by decide) h29
    refine this.trans ?_
    rw [show ((2^(51-28):Nat):Int)=8388608 from rfl,show ((2^28:Nat):Int)=268435456 from rfl]
    rw [Int.emod_eq_of_lt h29.1 (by omega)]
  rw [p4,Z0d 28 (x:=b29*268435456) (y:=0+b25 / 16+b26*16+b27*4096+b28*1048576) (a:=b29) (by simp) (by omega) (by omega) (by show _<(268435456:Int); omega) (by omega)]
  have p5:Z4 .and .u64 (Zq .u64 (IntKind.wrap .u64 b30) 36) 2251799813685247=b30*68719476736:=by
    have:=Z14 36 (by decide) h30
    refine this.trans ?_
    rw [show ((2^(51-36):Nat):Int)=32768 from rfl,show ((2^36:Nat):Int)=68719476736 from rfl]
    rw [Int.emod_eq_of_lt h30.1 (by omega)]
  rw [p5,Z0d 36 (x:=b30*68719476736) (y:=0+b25 / 16+b26*16+b27*4096+b28*1048576+b29*268435456) (a:=b30) (by simp) (by omega) (by omega) (by show _<(68719476736:Int); omega) (by omega)]
  have p6:Z4 .and .u64 (Zq .u64 (IntKind.wrap .u64 b31) 44) 2251799813685247=b31%128*17592186044416:=by
    have:=Z14 44 (by decide) h31
    refine this.trans ?_
    rw [show ((2^(51-44):Nat):Int)=128 from rfl,show ((2^44:Nat):Int)=17592186044416 from rfl]
  rw [p6,Z0d 44 (x:=b31%128*17592186044416) (y:=0+b25 / 16+b26*16+b27*4096+b28*1048576+b29*268435456+b30*68719476736) (a:=b31%128) (by simp) (by omega) (by omega) (by show _<(17592186044416:Int); omega) (by omega)]
def Zgc (x:List Int):Int:=x.getD 0 0+x.getD 1 0*256+x.getD 2 0*65536+x.getD 3 0*16777216+x.getD 4 0*4294967296+x.getD 5 0*1099511627776+x.getD 6 0*281474976710656+x.getD 7 0*72057594037927936+x.getD 8 0*18446744073709551616+x.getD 9 0*4722366482869645213696+x.getD 10 0*1208925819614629174706176+x.getD 11 0*309485009821345068724781056+x.getD 12 0*79228162514264337593543950336+x.getD 13 0*20282409603651670423947251286016+x.getD 14 0*5192296858534827628530496329220096+x.getD 15 0*1329227995784915872903807060280344576+x.getD 16 0*340282366920938463463374607431768211456+x.getD 17 0*87112285931760246646623899502532662132736+x.getD 18 0*22300745198530623141535718272648361505980416+x.getD 19 0*5708990770823839524233143877797980545530986496+x.getD 20 0*1461501637330902918203684832716283019655932542976+x.getD 21 0*374144419156711147060143317175368453031918731001856+x.getD 22 0*95780971304118053647396689196894323976171195136475136+x.getD 23 0*24519928653854221733733552434404946937899825954937634816+x.getD 24 0*6277101735386680763835789423207666416102355444464034512896+x.getD 25 0*1606938044258990275541962092341162602522202993782792835301376+x.getD 26 0*411376139330301510538742295639337626245683966408394965837152256+x.getD 27 0*105312291668557186697918027683670432318895095400549111254310977536+x.getD 28 0*26959946667150639794667015087019630673637144422540572481103610249216+x.getD 29 0*6901746346790563787434755862277025452451108972170386555162524223799296+x.getD 30 0*1766847064778384329583297500742918515827483896875618958121606201292619776+x.getD 31 0%128*452312848583266388373324160190187140051835877600158453279131187530910662656
theorem Z9o {x:List Int} (h:Byt x):Z23 x=some (fe (Zgc x)):=by
  rw [Z23,Z2p,Zwl]
  have e31:Z4 .and .u8 (x.getD 31 0) 127=x.getD 31 0%128:=Zd5 7 (by decide) (by decide) (h 31).1 (h 31).2
  have h31:0≤x.getD 31 0%128∧x.getD 31 0%128<256:=by have:=h 31; omega
  rw [e31,Zzc (h 0) (h 1) (h 2) (h 3) (h 4) (h 5) (h 6),Zzd (h 6) (h 7) (h 8) (h 9) (h 10) (h 11) (h 12),Zze (h 12) (h 13) (h 14) (h 15) (h 16) (h 17) (h 18) (h 19),Zzf (h 19) (h 20) (h 21) (h 22) (h 23) (h 24) (h 25),Zzg (h 25) (h 26) (h 27) (h 28) (h 29) (h 30) h31]
  have g0:=h 0
  have g1:=h 1
  have g2:=h 2
  have g3:=h 3
  have g4:=h 4
  have g5:=h 5
  have g6:=h 6
  have g7:=h 7
  have g8:=h 8
  have g9:=h 9
  have g10:=h 10
  have g11:=h 11
  have g12:=h 12
  have g13:=h 13
  have g14:=h 14
  have g15:=h 15
  have g16:=h 16
  have g17:=h 17
  have g18:=h 18
  have g19:=h 19
  have g20:=h 20
  have g21:=h 21
  have g22:=h 22
  have g23:=h 23
  have g24:=h 24
  have g25:=h 25
  have g26:=h 26
  have g27:=h 27
  have g28:=h 28
  have g29:=h 29
  have g30:=h 30
  have g31:=h 31
  rw [Z3 (Z4e (U5.mk5 (by omega) (by omega) (by omega) (by omega) (by omega)))]
  unfold Zgg fe
  congr 3
  simp only [Z57,Zgc,List.getD_cons_zero,List.getD_cons_succ]
  omega
theorem Zfj (a:Int):a%PP%PP=a%PP:=Int.emod_emod_of_dvd _ (Int.dvd_refl _)
theorem Zg8 (a b:Int):Z09 (fe a) (fe b)=some (fe (a*b)):=by
  rw [Znm (Zac a) (Zac b),Z4c,Z4c,← Int.mul_emod]; rfl
theorem Zbk (a:Int):Z0x (fe a)=some (fe (a*a)):=by
  rw [Zj7 (Zac a),Z4c,← Int.mul_emod]; rfl
theorem Zp6 (a b:Int):Z1s (fe a) (fe b)=some (fe (a+b)):=by
  rw [Zr7 (Zac a) (Zac b),Z4c,Z4c,Zc6]
  exact (Int.add_emod _ _ _).symm
theorem Zti (a b:Int):Z3x (fe a) (fe b)=some (fe (a-b)):=by
  rw [Z0ac (Zac a) (Zac b),Z4c,Z4c,Zc6]
  exact (Int.sub_emod _ _ _).symm
theorem Zvv (a:Int):Z49 (fe a)=some (fe (-a)):=by
  rw [Zrm (Zac a),Z4c,Zc6]
  have h:=Int.sub_emod 0 a PP
  simp only [Int.zero_sub] at h
  rw [h]
  simp
structure Q4 where
  x:Int
  y:Int
  z:Int
  t:Int
  deriving DecidableEq
def pt (q:Q4):Z9:=⟨fe q.x,fe q.y,fe q.z,fe q.t⟩
def Zzq (q:Q4):Q4:=⟨q.x%PP,q.y%PP,q.z%PP,q.t%PP⟩
theorem Zrv (q:Q4):pt (Zzq q)=pt q:=by simp only [pt,Zzq,Zrd]
def D2:Int:=16295367250680780974490674513165176452449235426866156013048779062215315747161
def Zhw (e f g h:Int):Q4:=⟨e*f,g*h,f*g,e*h⟩
def qadd (p q:Q4):Q4 :=
  let a:=(p.y-p.x)*(q.y-q.x)
  let b:=(p.y+p.x)*(q.y+q.x)
  let c:=p.t*D2*q.t
  let d:=(p.z+p.z)*q.z
  Zhw (b-a) (d-c) (d+c) (b+a)
def qdbl (p:Q4):Q4 :=
  let a:=p.x*p.x
  let b:=p.y*p.y
  let z:=p.z*p.z
  let h:=a+b
  let e:=h-(p.x+p.y)*(p.x+p.y)
  let g:=a-b
  Zhw e (z+z+g) g h
theorem Zi9 (e f g h:Int):Z6q (fe e) (fe f) (fe g) (fe h)=some (pt (Zhw e f g h)):=by
  rw [Z6q,Z3 (Zg8 e f),Z3 (Zg8 g h),Z3 (Zg8 f g),Z3 (Zg8 e h)]; rfl
theorem Zlx:Z75=some (fe D2):=by
  rw [Z75,Zf]
  congr 1
theorem Zt4 (p q:Q4):Z73 (pt p) (pt q)=some (pt (qadd p q)):=by
  rw [Z73]
  show opt (Z3x (fe p.y) (fe p.x)) _=_
  rw [Z3 (Zti p.y p.x)]
  show opt (Z3x (fe q.y) (fe q.x)) _=_
  rw [Z3 (Zti q.y q.x),Z3 (Zg8 _ _)]
  show opt (Z1s (fe p.y) (fe p.x)) _=_
  rw [Z3 (Zp6 p.y p.x)]
  show opt (Z1s (fe q.y) (fe q.x)) _=_
  rw [Z3 (Zp6 q.y q.x),Z3 (Zg8 _ _),Z3 Zlx]
  show opt (Z09 (fe p.t) (fe D2)) _=_
  rw [Z3 (Zg8 _ _)]
  show opt (Z09 (fe (p.t*D2)) (fe q.t)) _=_
  rw [Z3 (Zg8 _ _)]
  show opt (Z1s (fe p.z) (fe p.z)) _=_
  rw [Z3 (Zp6 _ _)]
  show opt (Z09 (fe (p.z+p.z)) (fe q.z)) _=_
  rw [Z3 (Zg8 _ _),Z3 (Zti _ _),Z3 (Zti _ _),Z3 (Zp6 _ _),Z3 (Zp6 _ _),Z3 (Zi9 _ _ _ _)]
  rfl
theorem Zt6 (p:Q4):Z5e (pt p)=some (pt (qdbl p)):=by
  rw [Z5e]
  show opt (Z0x (fe p.x)) _=_
  rw [Z3 (Zbk _)]
  show opt (Z0x (fe p.y)) _=_
  rw [Z3 (Zbk _)]
  show opt (Z0x (fe p.z)) _=_
  rw [Z3 (Zbk _),Z3 (Zp6 _ _)]
  show opt (Z1s (fe p.x) (fe p.y)) _=_
  rw [Z3 (Zp6 _ _),Z3 (Zbk _),Z3 (Zti _ _),Z3 (Zti _ _),Z3 (Zp6 _ _),Z3 (Zp6 _ _),Z3 (Zi9 _ _ _ _)]
  rfl
def Zma:Q4:=⟨0,1,1,0⟩
theorem Zi2:Z6r=some (fe 1):=by rw [Z6r,Zf]; congr 1
theorem Zkf:Z7r=some (pt Zma):=by
  rw [Z7r,Z3 Zi2,Z3 Zi2]
  have:(List.replicate 5 0:List Int)=fe 0:=by decide
  rw [this]; rfl
theorem Zt8 (p:Q4):Za9 (pt p)=some (pt ⟨-p.x,p.y,p.z,-p.t⟩):=by
  rw [Za9]
  show opt (Z49 (fe p.x)) _=_
  rw [Z3 (Zvv _)]
  show opt (Z49 (fe p.t)) _=_
  rw [Z3 (Zvv _)]
  rfl
def Zet (p q:Q4):Q4:=Zzq (qadd p q)
def Z7z (p:Q4):Q4:=Zzq (qdbl p)
theorem Zf2 (p q:Q4):Z73 (pt p) (pt q)=some (pt (Zet p q)):=by rw [Zt4]; unfold Zet; rw [Zrv]
theorem Zkm (p:Q4):Z5e (pt p)=some (pt (Z7z p)):=by rw [Zt6]; unfold Z7z; rw [Zrv]
def tab (p:Q4):Nat→Q4
  | 0=>Zma
  | i+1=>Zet (tab p i) p
def Zjk (f:Nat→Z9) (i:Nat):List Z9:=(List.range 16).map fun j=>if j≤i then f j else Z0j
theorem Zqu (f:Nat→Z9) {i:Nat} (hi:i<15):Zew Z0j (Zjk f i) (i+1) (f (i+1))=Zjk f (i+1):=by
  rw [Zau (by simp [Zjk]; omega)]
  apply List.ext_getElem
  · simp [Zjk]
  · intro j h1 h2
    simp only [Zjk,List.getElem_set,List.getElem_map,List.getElem_range]
    by_cases hj:i+1=j
    · subst hj; simp
    · rw [if_neg hj]
      by_cases h:j≤i
      · rw [if_pos h,if_pos (by omega)]
      · rw [if_neg h,if_neg (by omega)]
theorem Zf9 (f:Nat→Z9) {i j:Nat} (hj:j≤i) (hi:i<16):(Zjk f i).getD j Z0j=f j:=by
  simp only [Zjk,List.getD,List.getElem?_map,List.getElem?_range (show j<16 by omega),Option.map_some,Option.getD_some,if_pos hj]
theorem Zm5 (p:Q4) {kk:List Z9→Option (List Z9)} {k':Int→List Z9→Option (List Z9)} {i:Nat} (hi:i<15) :
    Z2w (pt p) kk k' (i:Int) (Zjk (fun j=>pt (tab p j)) i)=k' ((i+1:Nat):Int) (Zjk (fun j=>pt (tab p j)) (i+1)):=by
  rw [Z2w,Z21 (by simp; omega)]
  simp only [Zf]
  rw [Zs (by omega) (by omega),Z06 (Z28 (by omega) (by omega)),Int.toNat_natCast,Zf9 _ (Nat.le_refl i) (by omega),Z3 (Zf2 _ _),Z06 (Z28 (by omega) (by omega))]
  have e:((i:Int)+1).toNat=i+1:=by omega
  have e2:(i:Int)+1=((i+1:Nat):Int):=by omega
  rw [e]
  have:=Zqu (fun j=>pt (tab p j)) hi
  rw [show pt (Zet (tab p i) p)=pt (tab p (i+1)) from rfl,this,e2]
theorem Zim (p:Q4) : ∀ (k n:Nat),k≤15→Z1k (pt p) some (n+1+k) ((15-k:Nat):Int) (Zjk (fun j=>pt (tab p j)) (15-k))=some (Zjk (fun j=>pt (tab p j)) 15)
  | 0,n,_=>by
    rw [show n+1+0=n+1 from rfl,Z1k,Z2w,Z1q (by decide)]
  | k+1,n,hk=>by
    have ih:=Zim p k n (by omega)
    rw [← Nat.add_assoc,Z1k,Zm5 p (by omega)]
    rw [show 15-(k+1)+1=15-k by omega]
    exact ih
theorem Zbq (p:Q4):Z3f (pt p)=some (Zjk (fun j=>pt (tab p j)) 15):=by
  rw [Z3f,Z3 Zkf,Zf,Z2p]
  obtain ⟨n,hn⟩ : ∃ n,big=n+1+15:=⟨18446744073709551600,Z4i⟩
  have:=Zim p 15 n (by decide)
  rw [← hn] at this
  have e:Zew Z0j (List.replicate 16 Z0j) 0 (pt Zma)=Zjk (fun j=>pt (tab p j)) (15-15):=by
    rw [Zau (by simp)]
    rfl
  rw [e]
  exact this
def nib (k:List Int) (i:Nat):Int:=if i%2=0 then k.getD (31-i / 2) 0 / 16%16 else k.getD (31-i / 2) 0%16
theorem Zfo {k:List Int} (hk:Byt k) {i:Nat} (hi:i<64):Z5f k (i:Int)=some (nib k i):=by
  rw [Z5f]
  simp only [Zf]
  have h1:IntKind.wrap .i64 (Int.tdiv (i:Int) 2)=((i / 2:Nat):Int):=by
    rw [Int.tdiv_eq_ediv_of_nonneg (by omega),Zs (by omega) (by omega)]; omega
  have h2:Int.tmod (i:Int) 2=((i%2:Nat):Int):=by
    rw [Int.tmod_eq_emod_of_nonneg (by omega)]; omega
  rw [h1,h2,Zs (x:=31-((i / 2:Nat):Int)) (by omega) (by omega),Z06 (Z28 (by omega) (by omega))]
  have h3:(31-((i / 2:Nat):Int)).toNat=31-i / 2:=by omega
  rw [h3]
  have hb:=hk (31-i / 2)
  rw [Zs (x:=1-((i%2:Nat):Int)) (by omega) (by omega),Zs (by omega) (by omega)]
  rcases Nat.mod_two_eq_zero_or_one i with h | h
  · rw [h,Z06 (by decide)]
    have e:Zi .u8 (k.getD (31-i / 2) 0) (4*(1-((0:Nat):Int)))=k.getD (31-i / 2) 0 / 16:=Zby .u8 (n:=4) (by decide)
    rw [e]
    have e2:Z4 .and .u8 (k.getD (31-i / 2) 0 / 16) 15=k.getD (31-i / 2) 0 / 16%16:=Zd5 4 (by decide) (by decide) (by omega) (by omega)
    rw [e2,nib,if_pos h]
  · rw [h,Z06 (by decide)]
    have e:Zi .u8 (k.getD (31-i / 2) 0) (4*(1-((1:Nat):Int)))=k.getD (31-i / 2) 0:=by
      have:=Zby .u8 (x:=k.getD (31-i / 2) 0) (n:=0) (by decide)
      simpa using this
    rw [e]
    have e2:Z4 .and .u8 (k.getD (31-i / 2) 0) 15=k.getD (31-i / 2) 0%16:=Zd5 4 (by decide) (by decide) (by omega) (by omega)
    rw [e2,nib,if_neg (by omega)]
theorem Zk0 (k:List Int) (i:Nat):0≤nib k i∧nib k i<16:=by unfold nib; split <;> omega
def Zgf (q:Q4):Q4:=Z7z (Z7z (Z7z (Z7z q)))
def Zzr (k:List Int) (p:Q4) (q:Q4) (i:Nat):Q4:=Zet (Zgf q) (tab p (nib k i).toNat)
def Zix (k:List Int) (p:Q4):Nat→Q4
  | 0=>Zma
  | i+1=>Zzr k p (Zix k p i) i
theorem Zm4 (q:Q4) {kk:List Int→List Int→List Int→List Int→Option Z9} :
    Z38 kk big 0 (pt q).gX (pt q).gY (pt q).gZ (pt q).gT=kk (pt (Zgf q)).gX (pt (Zgf q)).gY (pt (Zgf q)).gZ (pt (Zgf q)).gT:=by
  obtain ⟨n,hn⟩ : ∃ n,big=n+1+1+1+1+1:=⟨18446744073709551611,Z4i⟩
  have step : ∀ (n j:Nat) (q:Q4),j<4→Z38 kk (n+1) (j:Int) (pt q).gX (pt q).gY (pt q).gZ (pt q).gT =
      Z38 kk n ((j+1:Nat):Int) (pt (Z7z q)).gX (pt (Z7z q)).gY (pt (Z7z q)).gZ (pt (Z7z q)).gT:=by
    intro n j q hj
    rw [Z38,Z8d,Z21 (by simp; omega)]
    have:=Zkm q
    rw [show (⟨(pt q).gX,(pt q).gY,(pt q).gZ,(pt q).gT⟩:Z9)=pt q from rfl,Z3 this]
    simp only [Zf]
    rw [Zs (by omega) (by omega)]
    rfl
  rw [hn]
  have s0:=step (n+1+1+1+1) 0 q (by decide)
  have s1:=step (n+1+1+1) 1 (Z7z q) (by decide)
  have s2:=step (n+1+1) 2 (Z7z (Z7z q)) (by decide)
  have s3:=step (n+1) 3 (Z7z (Z7z (Z7z q))) (by decide)
  refine s0.trans (s1.trans (s2.trans (s3.trans ?_)))
  rw [Z38,Z8d,Z1q (by decide)]
  rfl
theorem Zgy {k:List Int} (hk:Byt k) (p:Q4) : ∀ (j n:Nat),j≤64→Z4j k (Zjk (fun j=>pt (tab p j)) 15) (fun a b c d=>some ⟨a,b,c,d⟩) (n+1+j) ((64-j:Nat):Int) (pt (Zix k p (64-j))).gX (pt (Zix k p (64-j))).gY (pt (Zix k p (64-j))).gZ (pt (Zix k p (64-j))).gT=some (pt (Zix k p 64))
  | 0,n,_=>by
    rw [show n+1+0=n+1 from rfl,Z4j,Z8c,Z1q (by decide)]
  | j+1,n,hj=>by
    have ih:=Zgy hk p j n (by omega)
    have hr:=Zk0 k (64-(j+1))
    rw [← Nat.add_assoc,Z4j,Z8c,Z21 (by simp; omega),Z2p,Zm4]
    rw [Z3 (Zfo hk (by omega)),Z06 (Z28 hr.1 hr.2),Zf,Zf9 _ (by omega) (by decide)]
    have hadd:=Zf2 (Zgf (Zix k p (64-(j+1)))) (tab p (nib k (64-(j+1))).toNat)
    rw [show (⟨(pt (Zgf (Zix k p (64-(j+1))))).gX,(pt (Zgf (Zix k p (64-(j+1))))).gY,(pt (Zgf (Zix k p (64-(j+1))))).gZ,(pt (Zgf (Zix k p (64-(j+1))))).gT⟩:Z9)=pt (Zgf (Zix k p (64-(j+1)))) from rfl,Z3 hadd,Zf,Zs (by omega) (by omega)]
    have ei:((64-(j+1):Nat):Int)+1=((64-(j+1)+1:Nat):Int):=by omega
    rw [ei]
    have e:64-(j+1)+1=64-j:=by omega
    rw [e]
    have e2:Zet (Zgf (Zix k p (64-(j+1)))) (tab p (nib k (64-(j+1))).toNat)=Zix k p (64-j):=by rw [← e]; rfl
    rw [e2]
    exact ih
theorem Zt7 {k:List Int} (hk:Byt k) (p:Q4):Zbd k (pt p)=some (pt (Zix k p 64)):=by
  rw [Zbd,Z3 (Zbq p),Z3 Zkf,Z2p]
  obtain ⟨n,hn⟩ : ∃ n,big=n+1+64:=⟨18446744073709551551,Z4i⟩
  have:=Zgy hk p 64 n (by decide)
  rw [← hn] at this
  exact this
theorem byt_of {l:List Int} (h : ∀ x∈l,0≤x∧x<256):Byt l:=by
  intro i
  simp only [List.getD]
  cases hi:l[i]? with
  | none=>simp
  | some v=>exact h v (List.mem_of_getElem? hi)
def BX:Int:=15112221349535400772501151409588531511454012693041857206046113283949847762202
def BY:Int:=46316835694926478169428394003475163141307993866256225615783033603165251855960
def Zm9:Q4:=⟨BX,BY,1,BX*BY⟩
theorem Zom (k:List Int→Option Z9):Z4y k big 0 [88,0,0,0,0,0,0,0,0,0,0,0,0,0,0,0,0,0,0,0,0,0,0,0,0,0,0,0,0,0,0,0]=k [88,102,102,102,102,102,102,102,102,102,102,102,102,102,102,102,102,102,102,102,102,102,102,102,102,102,102,102,102,102,102,102]:=by kernel_rfl
theorem Zlk:Z7t=some (pt Zm9):=by
  rw [Z7t,Zf,Z3 (Z9o (byt_of (by decide))),Zf,Z2p,Zom,Z3 (Z9o (byt_of (by decide))),Z3 Zi2]
  have e1:Zgc [26,213,37,143,96,45,86,201,178,167,37,149,96,199,44,105,92,220,214,253,49,226,164,192,254,83,110,205,211,54,105,33]=BX:=by decide
  have e2:Zgc [88,102,102,102,102,102,102,102,102,102,102,102,102,102,102,102,102,102,102,102,102,102,102,102,102,102,102,102,102,102,102,102]=BY:=by decide
  rw [e1,e2,Z3 (Zg8 _ _)]
  rfl
theorem Zm3 {k:List Int} (hk:Byt k):Z3u k=some (pt (Zix k Zm9 64)):=by
  rw [Z3u,Z3 Zlk,Z3 (Zt7 hk _)]
def einv:List Int:=[235,255,255,255,255,255,255,255,255,255,255,255,255,255,255,255,255,255,255,255,255,255,255,255,255,255,255,255,255,255,255,127]
theorem Zo2:Z5j 235 127=some einv:=by kernel_rfl
theorem Zpk:Byt einv:=byt_of (by decide)
def Zna (a:Int):Int:=pw (a%PP) einv 256
theorem Zre {n:Int} (h:0≤n∧n<PP):Ze2 n=fe n:=(Zpn h.1 h.2).symm
theorem Zwr (a:Int):Z6u (fe a)=some (fe (Zna a)):=by
  rw [Z6u,Z3 Zo2,Z3 (Zru (Zac _) Zpk),Z4c,Zre (Zo5 _ _ _)]
  rfl
def Zie (x y:Int):List Int:=if x%PP%2=1 then Z4q (byt (y%PP)) 31 (Z4 .or .u8 ((byt (y%PP)).getD 31 0) 128) else byt (y%PP)
def encQ (q:Q4):List Int:=Zie (q.x*Zna q.z) (q.y*Zna q.z)
theorem Zif (q:Q4):Z3t (pt q)=some (encQ q):=by
  rw [Z3t]
  show opt (Z6u (fe q.z)) _=_
  rw [Z3 (Zwr _)]
  show opt (Z09 (fe q.y) (fe (Zna q.z))) _=_
  rw [Z3 (Zg8 _ _),Z3 (Zkk (Zac _))]
  show opt (Z09 (fe q.x) (fe (Zna q.z))) _=_
  rw [Z3 (Zg8 _ _),Z3 (Zku (Zac _)),Z2p,Z4c,Z4c]
  simp only [Zf,Zfj]
  unfold encQ Zie
  by_cases h:q.x*Zna q.z%PP%2=1
  · rw [Z21 (by rw [h]; rfl),if_pos h]
  · rw [Z1q (by simpa using h),if_neg h]
theorem Zjq (q:Q4) {kk:List Int→List Int→List Int→List Int→Option Z9} :
    Z1h kk big 0 (pt q).gX (pt q).gY (pt q).gZ (pt q).gT=kk (pt (Zgf q)).gX (pt (Zgf q)).gY (pt (Zgf q)).gZ (pt (Zgf q)).gT:=by
  obtain ⟨n,hn⟩ : ∃ n,big=n+1+1+1+1+1:=⟨18446744073709551611,Z4i⟩
  have step : ∀ (n j:Nat) (q:Q4),j<4→Z1h kk (n+1) (j:Int) (pt q).gX (pt q).gY (pt q).gZ (pt q).gT =
      Z1h kk n ((j+1:Nat):Int) (pt (Z7z q)).gX (pt (Z7z q)).gY (pt (Z7z q)).gZ (pt (Z7z q)).gT:=by
    intro n j q hj
    rw [Z1h,Z4x,Z21 (by simp; omega)]
    have:=Zkm q
    rw [show (⟨(pt q).gX,(pt q).gY,(pt q).gZ,(pt q).gT⟩:Z9)=pt q from rfl,Z3 this]
    simp only [Zf]
    rw [Zs (by omega) (by omega)]
    rfl
  rw [hn]
  have s0:=step (n+1+1+1+1) 0 q (by decide)
  have s1:=step (n+1+1+1) 1 (Z7z q) (by decide)
  have s2:=step (n+1+1) 2 (Z7z (Z7z q)) (by decide)
  have s3:=step (n+1) 3 (Z7z (Z7z (Z7z q))) (by decide)
  refine s0.trans (s1.trans (s2.trans (s3.trans ?_)))
  rw [Z1h,Z4x,Z1q (by decide)]
  rfl
def Zu4 (k l:List Int) (p r:Q4) (q:Q4) (i:Nat):Q4:=Zet (Zet (Zgf q) (tab p (nib k i).toNat)) (tab r (nib l i).toNat)
def Zfu (k l:List Int) (p r:Q4):Nat→Q4
  | 0=>Zma
  | i+1=>Zu4 k l p r (Zfu k l p r i) i
theorem Zqc (q:Q4):(⟨(pt q).gX,(pt q).gY,(pt q).gZ,(pt q).gT⟩:Z9)=pt q:=rfl
theorem Zfg {k l:List Int} (hk:Byt k) (hl:Byt l) (p r:Q4) : ∀ (j n:Nat),j≤64→Z27 k l (Zjk (fun j=>pt (tab p j)) 15) (Zjk (fun j=>pt (tab r j)) 15) (fun a b c d=>some ⟨a,b,c,d⟩) (n+1+j) ((64-j:Nat):Int) (pt (Zfu k l p r (64-j))).gX (pt (Zfu k l p r (64-j))).gY (pt (Zfu k l p r (64-j))).gZ (pt (Zfu k l p r (64-j))).gT=some (pt (Zfu k l p r 64))
  | 0,n,_=>by
    rw [show n+1+0=n+1 from rfl,Z27,Z4w,Z1q (by decide)]
  | j+1,n,hj=>by
    have ih:=Zfg hk hl p r j n (by omega)
    have hr:=Zk0 k (64-(j+1))
    have hr2:=Zk0 l (64-(j+1))
    rw [← Nat.add_assoc,Z27,Z4w,Z21 (by simp; omega),Z2p,Zjq]
    rw [Z3 (Zfo hk (by omega)),Z06 (Z28 hr.1 hr.2),Zf,Zf9 _ (by omega) (by decide)]
    have hadd:=Zf2 (Zgf (Zfu k l p r (64-(j+1)))) (tab p (nib k (64-(j+1))).toNat)
    rw [Zqc,Z3 hadd]
    rw [Z3 (Zfo hl (by omega)),Z06 (Z28 hr2.1 hr2.2),Zf,Zf9 _ (by omega) (by decide)]
    have hadd2:=Zf2 (Zet (Zgf (Zfu k l p r (64-(j+1)))) (tab p (nib k (64-(j+1))).toNat)) (tab r (nib l (64-(j+1))).toNat)
    rw [Z3 hadd2,Zf,Zs (by omega) (by omega)]
    have ei:((64-(j+1):Nat):Int)+1=((64-(j+1)+1:Nat):Int):=by omega
    rw [ei]
    have e:64-(j+1)+1=64-j:=by omega
    rw [e]
    have e2:Zet (Zet (Zgf (Zfu k l p r (64-(j+1)))) (tab p (nib k (64-(j+1))).toNat)) (tab r (nib l (64-(j+1))).toNat)=Zfu k l p r (64-j):=by rw [← e]; rfl
    rw [e2]
    exact ih
theorem Zlw {k l:List Int} (hk:Byt k) (hl:Byt l) (p:Q4):Z74 k (pt p) l=some (pt (Zfu k l p Zm9 64)):=by
  rw [Z74,Z3 Zlk,Z2p,Z3 (Zbq p),Z3 (Zbq Zm9)]
  dsimp only
  rw [Z3 Zkf,Z2p]
  obtain ⟨n,hn⟩ : ∃ n,big=n+1+64:=⟨18446744073709551551,Z4i⟩
  have:=Zfg hk hl p Zm9 64 n (by decide)
  rw [← hn] at this
  exact this
theorem Zmz {x:List Int} (h:Byt x):Z48 x=some (ieq 32 (byt (Z57 (fe (Zgc x))%PP)) x):=by
  rw [Z48,Z3 (Z9o h),Z3 (Zkk (Zac _))]
def esq:List Int:=[253,255,255,255,255,255,255,255,255,255,255,255,255,255,255,255,255,255,255,255,255,255,255,255,255,255,255,255,255,255,255,15]
def ert:List Int:=[251,255,255,255,255,255,255,255,255,255,255,255,255,255,255,255,255,255,255,255,255,255,255,255,255,255,255,255,255,255,255,31]
theorem Zqa:Z5j 253 15=some esq:=by kernel_rfl
theorem Zq9:Z5j 251 31=some ert:=by kernel_rfl
theorem fpow (a:Int) {e:List Int} (he:Byt e):Z8g (fe a) e=some (fe (pw (a%PP) e 256)):=by
  rw [Zru (Zac _) he,Zre (Zo5 _ _ _),Z4c]
theorem fodd (a:Int):Z6k (fe a)=some (a%PP%2==1):=by rw [Zku (Zac _),Z4c,Zfj]
theorem Ztj (a:Int):Z3v (fe a)=some (decide (a%PP=0)):=by rw [Zng (Zac _),Z4c,Zfj]
theorem feq (a b:Int):Z6j (fe a) (fe b)=some (decide (a%PP=b%PP)):=by rw [Zpl (Zac _) (Zac _),Z4c,Z4c,Zfj,Zfj]
theorem Znb (c:Bool) (a b:Int):Z6y c (fe a) (fe b)=some (fe (bif c then a else b)):=by
  rw [Zof (Zac _) (Zac _),Z4c,Z4c]; cases c <;> simp [Zrd]
def fabs (a:Int):Int:=bif a%PP%2==1 then -a else a
def Zok (a b:Int):Int:=a*(b*b*b)*pw ((a*((b*b*b)*(b*b*b))*b)%PP) esq 256
def Z0mf:Int:=pw (2%PP) ert 256
def sqrR (a b:Int):Int×Bool :=
  if b%PP=0 then (0,decide (a%PP=0))
  else if (b*(Zok a b*Zok a b))%PP=a%PP then (fabs (Zok a b),true)
  else if (b*(Zok a b*Zok a b))%PP=(-a)%PP then (fabs (Zok a b*Z0mf),true)
  else (0,false)
theorem fe0:([0,0,0,0,0]:List Int)=fe 0:=by decide
theorem Zvj (a b:Int):Z5i (fe a) (fe b)=some (fe (sqrR a b).1,(sqrR a b).2):=by
  rw [Z5i,Z3 (Ztj b)]
  unfold sqrR
  by_cases h:b%PP=0
  · rw [if_pos h,Z21 (by simpa using h),Zf,Z3 (Ztj a),fe0]
  · rw [if_neg h,Z1q (by simpa using h),Z3 (Zbk b),Z3 (Zg8 _ _),Z3 (Zbk _),Z3 (Zg8 _ _),Z3 (Zg8 _ _),Z3 (Zg8 _ _),Z3 Zqa,Z3 (fpow _ (byt_of (by decide))),Z3 (Zg8 _ _)]
    have e0:a*(b*b*b)*pw ((a*((b*b*b)*(b*b*b))*b)%PP) esq 256=Zok a b:=rfl
    rw [e0,Z3 (Zbk _),Z3 (Zg8 _ _),Z2p,Z3 (feq _ _)]
    by_cases h1:(b*(Zok a b*Zok a b))%PP=a%PP
    · rw [if_pos h1,Z21 (by simpa using h1)]
      dsimp only
      rw [Z3 (fodd _),Z3 (Zvv _),Z3 (Znb _ _ _)]
      rfl
    · rw [if_neg h1,Z1q (by simpa using h1),Z3 (Zvv _),Z3 (feq _ _)]
      by_cases h2:(b*(Zok a b*Zok a b))%PP=(-a)%PP
      · rw [if_pos h2,Z21 (by simpa using h2),Z3 (Zli (n:=2) (by decide)),Z3 Zq9,Z3 (fpow _ (byt_of (by decide))),Z3 (Zg8 _ _)]
        dsimp only
        rw [Z3 (fodd _),Z3 (Zvv _),Z3 (Znb _ _ _)]
        rfl
      · rw [if_neg h2,Z1q (by simpa using h2),Zf,fe0]
def DD:Int:=37095705934669439343138083508754565189542113879843219016388785533085940283555
theorem Zps:Z96=some (fe DD):=by rw [Z96,Zf]; decide
def Z6f (p:List Int):List Int:=Z4q p 31 (p.getD 31 0%128)
def Zt9 (p:List Int):Int:=p.getD 31 0 / 128
def dcan (p:List Int):Bool:=ieq 32 (byt (Z57 (fe (Zgc (Z6f p)))%PP)) (Z6f p)
def Zic (y:Int):Int×Bool:=sqrR (y*y-1) (DD*(y*y)+1)
def dx (p:List Int):Int:=if Zt9 p=1 then-(Zic (Zgc (Z6f p))).1 else (Zic (Zgc (Z6f p))).1
def dok (p:List Int):Bool:=dcan p&&(Zic (Zgc (Z6f p))).2 && !(Zt9 p==1&&decide ((Zic (Zgc (Z6f p))).1%PP=0))
def dpt (p:List Int):Q4:=⟨dx p,Zgc (Z6f p),1,dx p*Zgc (Z6f p)⟩
theorem Zi0 {p:List Int} (h:Byt p) {j:Nat} {v:Int} (hv:0≤v∧v<256):Byt (Z4q p j v):=by
  intro i
  rw [Z9b]
  split
  · exact hv
  · exact h i
theorem Zw1 {x:Int} (h0:0≤x) (h1:x<256):Z4 .and .u8 x 127=x%128:=Zd5 7 (by decide) (by decide) h0 h1
theorem Zn6 {p:List Int} (h:Byt p):Z8b p=some (if dok p then (pt (dpt p),true) else (Z0j,false)):=by
  have h31:=h 31
  have hy:Byt (Z6f p):=Zi0 h (by omega)
  have hs:Zi .u8 (p.getD 31 0) 7=Zt9 p:=by have:=Zby .u8 (x:=p.getD 31 0) (n:=7) (by decide); simpa [Zt9] using this
  rw [Z8b,Zf,Zf,Zf,Zf,Zf,Zw1 h31.1 h31.2,hs]
  show opt (Z48 (Z6f p)) _=_
  rw [Z3 (Zmz hy)]
  have ec:ieq 32 (byt (Z57 (fe (Zgc (Z6f p)))%PP)) (Z6f p)=dcan p:=rfl
  rw [ec]
  unfold dok
  cases hc:dcan p
  · rw [Z21 (by rfl)]; rfl
  · rw [Z1q (by rfl)]
    show opt (Z23 (Z6f p)) _=_
    rw [Z3 (Z9o hy),Z3 (Zbk _),Z3 Zi2,Z3 (Zti _ _),Z3 Zps,Z3 (Zg8 _ _),Z3 (Zp6 _ _),Z3 (Zvj _ _)]
    have er:sqrR (Zgc (Z6f p)*Zgc (Z6f p)-1) (DD*(Zgc (Z6f p)*Zgc (Z6f p))+1)=Zic (Zgc (Z6f p)):=rfl
    rw [er]
    simp only [Ztj]
    cases hd:(Zic (Zgc (Z6f p))).2
    · rw [Z06 (by simp [imp]),Z21 (by simp)]; rfl
    · rw [Z06 (by simp [imp])]
      by_cases hz:(Zt9 p==1&&decide ((Zic (Zgc (Z6f p))).1%PP=0))=true
      · rw [Z21 (by simpa using hz),if_neg (by simp [hz])]; rfl
      · have hz':(Zt9 p==1&&decide ((Zic (Zgc (Z6f p))).1%PP=0))=false:=by simpa using hz
        rw [Z1q (by simpa using hz'),if_pos (by simp [hz']),Z2p]
        unfold dpt dx
        by_cases ht:Zt9 p=1
        · rw [Z21 (by simp [ht]),Z3 (Zvv _),if_pos ht]
          dsimp only
          rw [Z3 (Zg8 _ _)]; rfl
        · rw [Z1q (by simpa using ht),if_neg ht]
          dsimp only
          rw [Z3 (Zg8 _ _)]; rfl
def W64 (l:List Int):Prop:=∀ i,0≤l.getD i 0∧l.getD i 0<18446744073709551616
def V4 (l:List Int):Int:=l.getD 0 0+l.getD 1 0*18446744073709551616+l.getD 2 0*340282366920938463463374607431768211456+l.getD 3 0*6277101735386680763835789423207666416102355444464034512896
def B4:Int:=115792089237316195423570985008687907853269984665640564039457584007913129639936
def VL:Int:=7237005577332262213973186563042994240857116359379907606001950938285454250989
theorem Zkg:V4 G_order=VL:=by decide
theorem Zg6 {l:List Int} (h : ∀ x∈l,0≤x∧x<18446744073709551616):W64 l:=by
  intro i
  simp only [List.getD]
  cases hi:l[i]? with
  | none=>simp
  | some v=>exact h v (List.mem_of_getElem? hi)
theorem Za2:W64 G_order:=Zg6 (by decide)
theorem Z93 {l:List Int} (h:W64 l) {i:Nat} {z:Int} (hz:0≤z∧z<18446744073709551616):W64 (Z4q l i z):=by
  intro j; rw [Z9b]; split
  · exact hz
  · exact h j
theorem Zez {l:List Int} (h:W64 l) {i:Nat} {z:Int} (hz:0≤z∧z<18446744073709551616):W64 (Zew 0 l i z):=by
  intro j; rw [Z5l]; split
  · exact hz
  · exact h j
theorem Z3s (n:Nat):W64 (List.replicate n 0):=Zg6 (by intro x hx; rw [List.mem_replicate] at hx; omega)
theorem Zio (x y:Int):0≤Z4 .or .u64 x y∧Z4 .or .u64 x y<18446744073709551616:=by
  show 0≤IntKind.u64.wrap _∧IntKind.u64.wrap _<_
  rw [Zc2]; omega
theorem Zjl (x y:Int):0≤Z4 .and .u64 x y∧Z4 .and .u64 x y<18446744073709551616:=by
  show 0≤IntKind.u64.wrap _∧IntKind.u64.wrap _<_
  rw [Zc2]; omega
theorem Zsb {x y c:Int} (hx:0≤x∧x<18446744073709551616) (hy:0≤y∧y<18446744073709551616) (hc:c=0∨c=1):Zb7 x y c=true:=by
  unfold Zb7
  rw [decide_eq_true hx.1,decide_eq_true hy.1,decide_eq_true (show 0≤c by omega),decide_eq_true (show c≤1 by omega)]; rfl
theorem Zvl {x y c:Int} (hx:0≤x∧x<18446744073709551616) (hy:0≤y∧y<18446744073709551616) (hc:c=0∨c=1):Zoo x y c=true:=by
  unfold Zoo
  rw [decide_eq_true hx.1,decide_eq_true hy.1,decide_eq_true hy.2,decide_eq_true (show 0≤c by omega),decide_eq_true (show c≤1 by omega)]; rfl
theorem Zca {q:List Int} {k:Int→List Int→Option (List Int×Int)} {a:List Int} {c:Int} (n:Nat) {i:Nat} (hi:i<4) (ha:W64 a) (hq:W64 q) (hc:c=0∨c=1) :
    ∃ c' lo,Z26 q k (n+1) c (i:Int) a=Z26 q k n c' ((i+1:Nat):Int) (Z4q a i lo)∧0≤lo∧lo<18446744073709551616∧(c'=0∨c'=1)∧lo=a.getD i 0-q.getD i 0-c+c'*18446744073709551616:=by
  have h1:=ha i
  have h2:=hq i
  refine ⟨Zqq (a.getD i 0) (q.getD i 0) c,Zqr (a.getD i 0) (q.getD i 0) c,?_,?_⟩
  · rw [Z26,Z5s,Z21 (by simp; omega),Z06 (Z28 (by omega) (by omega)),Z06 (Z28 (by omega) (by omega)),Zf,Zf]
    simp only [Int.toNat_natCast]
    rw [Z06 (Zvl h1 h2 hc),Zf,Zf,Z06 (Z28 (by omega) (by omega)),Zf,Zf,Zs (by omega) (by omega)]
    rfl
  · unfold Zqq Zqr
    generalize a.getD i 0=x at *
    generalize q.getD i 0=y at *
    split <;> omega
theorem Zf3 {p q:List Int} (hp:W64 p) (hq:W64 q) : ∃ a c,Z4m p q=some (a,c)∧W64 a∧(c=0∨c=1)∧V4 a=V4 p-V4 q+c*B4:=by
  obtain ⟨n,hn⟩ : ∃ n,big=n+1+1+1+1+1:=⟨18446744073709551611,Z4i⟩
  rw [Z4m,Z2p,hn]
  obtain ⟨c0,l0,e0,b0,b0',hc0,v0⟩:=Zca (k:=fun i a=>some (a,i)) (n+1+1+1+1) (i:=0) (by decide) hp hq (.inl rfl)
  have w0:=Z93 hp (i:=0) ⟨b0,b0'⟩
  obtain ⟨c1,l1,e1,b1,b1',hc1,v1⟩:=Zca (k:=fun i a=>some (a,i)) (n+1+1+1) (i:=1) (by decide) w0 hq hc0
  have w1:=Z93 w0 (i:=1) ⟨b1,b1'⟩
  obtain ⟨c2,l2,e2,b2,b2',hc2,v2⟩:=Zca (k:=fun i a=>some (a,i)) (n+1+1) (i:=2) (by decide) w1 hq hc1
  have w2:=Z93 w1 (i:=2) ⟨b2,b2'⟩
  obtain ⟨c3,l3,e3,b3,b3',hc3,v3⟩:=Zca (k:=fun i a=>some (a,i)) (n+1) (i:=3) (by decide) w2 hq hc2
  have w3:=Z93 w2 (i:=3) ⟨b3,b3'⟩
  refine ⟨_,c3,(e0.trans (e1.trans (e2.trans (e3.trans ?_)))),w3,hc3,?_⟩
  · rw [Z26,Z5s,Z1q (by decide)]
  · simp only [V4,Z9b] at v1 v2 v3 ⊢
    simp [-List.getD_eq_getElem?_getD] at v1 v2 v3 ⊢
    unfold B4
    omega
theorem Zdh {q:List Int} {k:Int→List Int→Option (List Int×Int)} {a:List Int} {c:Int} (n:Nat) {i:Nat} (hi:i<4) (ha:W64 a) (hq:W64 q) (hc:c=0∨c=1) :
    ∃ c' lo,Z2i q k (n+1) c (i:Int) a=Z2i q k n c' ((i+1:Nat):Int) (Z4q a i lo)∧0≤lo∧lo<18446744073709551616∧(c'=0∨c'=1)∧lo=a.getD i 0+q.getD i 0+c-c'*18446744073709551616:=by
  have h1:=ha i
  have h2:=hq i
  refine ⟨Zbb (a.getD i 0) (q.getD i 0) c,Z8a (a.getD i 0) (q.getD i 0) c,?_,?_⟩
  · rw [Z2i,Z6d,Z21 (by simp; omega),Z06 (Z28 (by omega) (by omega)),Z06 (Z28 (by omega) (by omega)),Zf,Zf]
    simp only [Int.toNat_natCast]
    rw [Z06 (Zsb h1 h2 hc),Zf,Zf,Z06 (Z28 (by omega) (by omega)),Zf,Zf,Zs (by omega) (by omega)]
    rfl
  · unfold Zbb Z8a
    generalize a.getD i 0=x at *
    generalize q.getD i 0=y at *
    omega
theorem Zcy {p q:List Int} (hp:W64 p) (hq:W64 q) : ∃ a c,Z42 p q=some (a,c)∧W64 a∧(c=0∨c=1)∧V4 a=V4 p+V4 q-c*B4:=by
  obtain ⟨n,hn⟩ : ∃ n,big=n+1+1+1+1+1:=⟨18446744073709551611,Z4i⟩
  rw [Z42,Z2p,hn]
  obtain ⟨c0,l0,e0,b0,b0',hc0,v0⟩:=Zdh (k:=fun i a=>some (a,i)) (n+1+1+1+1) (i:=0) (by decide) hp hq (.inl rfl)
  have w0:=Z93 hp (i:=0) ⟨b0,b0'⟩
  obtain ⟨c1,l1,e1,b1,b1',hc1,v1⟩:=Zdh (k:=fun i a=>some (a,i)) (n+1+1+1) (i:=1) (by decide) w0 hq hc0
  have w1:=Z93 w0 (i:=1) ⟨b1,b1'⟩
  obtain ⟨c2,l2,e2,b2,b2',hc2,v2⟩:=Zdh (k:=fun i a=>some (a,i)) (n+1+1) (i:=2) (by decide) w1 hq hc1
  have w2:=Z93 w1 (i:=2) ⟨b2,b2'⟩
  obtain ⟨c3,l3,e3,b3,b3',hc3,v3⟩:=Zdh (k:=fun i a=>some (a,i)) (n+1) (i:=3) (by decide) w2 hq hc2
  have w3:=Z93 w2 (i:=3) ⟨b3,b3'⟩
  refine ⟨_,c3,(e0.trans (e1.trans (e2.trans (e3.trans ?_)))),w3,hc3,?_⟩
  · rw [Z2i,Z6d,Z1q (by decide)]
  · simp only [V4,Z9b] at v1 v2 v3 ⊢
    simp [-List.getD_eq_getElem?_getD] at v1 v2 v3 ⊢
    unfold B4
    omega
theorem Zba {l:List Int} (h:W64 l):0≤V4 l∧V4 l<B4:=by
  have h0:=h 0
  have h1:=h 1
  have h2:=h 2
  have h3:=h 3
  unfold V4 B4
  omega
theorem Zc3 {k2:List Int→Option (List Int)} {k5:Unit→Option (List Int)} {a:List Int} (n:Nat) {i:Nat} (hi:i<4) :
    Z0b k2 a k5 (n+1) (i:Int)=if a.getD i 0<G_order.getD i 0 then k2 a else if a.getD i 0>G_order.getD i 0 then k5 () else Z0b k2 a k5 n ((i:Int)-1):=by
  rw [Z0b,Z5r,Z21 (by simp),Z06 (Z28 (by omega) (by omega)),Z06 (Z28 (by omega) (by omega)),Zf,Zf]
  simp only [Int.toNat_natCast]
  by_cases h1:a.getD i 0<G_order.getD i 0
  · rw [Z21 (by simpa using h1),if_pos h1]
  · rw [Z1q (by simpa using h1),if_neg h1,Z06 (Z28 (by omega) (by omega)),Z06 (Z28 (by omega) (by omega)),Zf,Zf]
    by_cases h2:a.getD i 0>G_order.getD i 0
    · rw [Z21 (by simpa using h2),if_pos h2]
    · rw [Z1q (by simpa using h2),if_neg h2,Zf,Zs (by omega) (by omega)]
theorem Zi7 {k2:List Int→Option (List Int)} {k5:Unit→Option (List Int)} {a:List Int} (ha:W64 a):Z0b k2 a k5 big 3=if V4 a<VL then k2 a else k5 ():=by
  obtain ⟨n,hn⟩ : ∃ n,big=n+1+1+1+1+1:=⟨18446744073709551611,Z4i⟩
  rw [hn]
  have s3:=Zc3 (k2:=k2) (k5:=k5) (a:=a) (n+1+1+1+1) (i:=3) (by decide)
  have s2:=Zc3 (k2:=k2) (k5:=k5) (a:=a) (n+1+1+1) (i:=2) (by decide)
  have s1:=Zc3 (k2:=k2) (k5:=k5) (a:=a) (n+1+1) (i:=1) (by decide)
  have s0:=Zc3 (k2:=k2) (k5:=k5) (a:=a) (n+1) (i:=0) (by decide)
  have e:Z0b k2 a k5 (n+1) (-1)=k5 ():=by
    rw [Z0b,Z5r,Z1q (by decide)]
  have o0:G_order.getD 0 0=6346243789798364141:=rfl
  have o1:G_order.getD 1 0=1503914060200516822:=rfl
  have o2:G_order.getD 2 0=0:=rfl
  have o3:G_order.getD 3 0=1152921504606846976:=rfl
  rw [o0] at s0
  rw [o1] at s1
  rw [o2] at s2
  rw [o3] at s3
  have s0':Z0b k2 a k5 (n+1+1) (1-1)=_:=s0
  have s1':Z0b k2 a k5 (n+1+1+1) (2-1)=_:=s1
  have s2':Z0b k2 a k5 (n+1+1+1+1) (3-1)=_:=s2
  have e':Z0b k2 a k5 (n+1) (0-1)=k5 ():=e
  have f3:Z0b k2 a k5 (n+1+1+1+1+1) 3=_:=s3
  rw [f3]
  rw [show ((3:Nat):Int)-1=3-1 from rfl,s2',show ((2:Nat):Int)-1=2-1 from rfl,s1',show ((1:Nat):Int)-1=1-1 from rfl,s0',show ((0:Nat):Int)-1=0-1 from rfl,e']
  have h0:=ha 0
  have h1:=ha 1
  have h2:=ha 2
  have h3:=ha 3
  unfold V4 VL
  generalize a.getD 0 0=a0 at *
  generalize a.getD 1 0=a1 at *
  generalize a.getD 2 0=a2 at *
  generalize a.getD 3 0=a3 at *
  by_cases hv:a0+a1*18446744073709551616+a2*340282366920938463463374607431768211456+a3*6277101735386680763835789423207666416102355444464034512896<7237005577332262213973186563042994240857116359379907606001950938285454250989
  · rw [if_pos hv]
    repeat' split
    all_goals first | rfl | (exfalso; omega)
  · rw [if_neg hv]
    repeat' split
    all_goals first | rfl | (exfalso; omega)
theorem Zlv (m:Nat) : ∀ (n:Nat) {a:List Int},W64 a→V4 a<((m:Int)+1)*VL→∃ r,Z2v some (n+1+m) a=some r∧W64 r∧V4 r=V4 a%VL:=by
  induction m with
  | zero =>
    intro n a ha hv
    have h0:=Zba ha
    have hv':V4 a<VL:=by omega
    refine ⟨a,?_,ha,?_⟩
    · rw [Nat.add_zero,Z2v,Z5q,Z2p,Zi7 ha,if_pos hv']
    · rw [Int.emod_eq_of_lt h0.1 hv']
  | succ m ih =>
    intro n a ha hv
    have h0:=Zba ha
    rw [← Nat.add_assoc,Z2v,Z5q,Z2p,Zi7 ha]
    by_cases h:V4 a<VL
    · rw [if_pos h]
      exact ⟨a,rfl,ha,by rw [Int.emod_eq_of_lt h0.1 h]⟩
    · rw [if_neg h]
      obtain ⟨b,c,e,hb,hc,hv2⟩:=Zf3 ha Za2
      have hbr:=Zba hb
      rw [Zkg] at hv2
      have hc0:c=0:=by
        unfold B4 VL at *
        rcases hc with h | h
        · exact h
        · exfalso; subst h; omega
      rw [Z3 e]
      have hv3:V4 b=V4 a-VL:=by rw [hv2,hc0]; omega
      have hlt:V4 b<((m:Int)+1)*VL:=by
        rw [hv3]
        have:((m+1:Nat):Int)+1=((m:Int)+1)+1:=by omega
        rw [this,Int.add_mul ((m:Int)+1) 1 VL] at hv
        omega
      obtain ⟨r,er,hr,vr⟩:=ih n hb hlt
      exact ⟨r,er,hr,by rw [vr,hv3,Int.sub_emod_right]⟩
theorem Zhl {a:List Int} (ha:W64 a) : ∃ r,Z5p a=some r∧W64 r∧V4 r=V4 a%VL:=by
  rw [Z5p,Z2p]
  obtain ⟨n,hn⟩ : ∃ n,big=n+1+16:=⟨18446744073709551599,Z4i⟩
  rw [hn]
  have h:=Zba ha
  exact Zlv 16 n ha (by unfold B4 at h; unfold VL; omega)
theorem Zgw (p:List Int):Z6n p=some [Z4 .or .u64 (Z4 .or .u64 (Z4 .or .u64 (Z4 .or .u64 (Z4 .or .u64 (Z4 .or .u64 (Z4 .or .u64 (Z4 .or .u64 (0) (Zq .u64 (IntKind.wrap .u64 (p.getD 0 0)) 0)) (Zq .u64 (IntKind.wrap .u64 (p.getD 1 0)) 8)) (Zq .u64 (IntKind.wrap .u64 (p.getD 2 0)) 16)) (Zq .u64 (IntKind.wrap .u64 (p.getD 3 0)) 24)) (Zq .u64 (IntKind.wrap .u64 (p.getD 4 0)) 32)) (Zq .u64 (IntKind.wrap .u64 (p.getD 5 0)) 40)) (Zq .u64 (IntKind.wrap .u64 (p.getD 6 0)) 48)) (Zq .u64 (IntKind.wrap .u64 (p.getD 7 0)) 56),Z4 .or .u64 (Z4 .or .u64 (Z4 .or .u64 (Z4 .or .u64 (Z4 .or .u64 (Z4 .or .u64 (Z4 .or .u64 (Z4 .or .u64 (0) (Zq .u64 (IntKind.wrap .u64 (p.getD 8 0)) 0)) (Zq .u64 (IntKind.wrap .u64 (p.getD 9 0)) 8)) (Zq .u64 (IntKind.wrap .u64 (p.getD 10 0)) 16)) (Zq .u64 (IntKind.wrap .u64 (p.getD 11 0)) 24)) (Zq .u64 (IntKind.wrap .u64 (p.getD 12 0)) 32)) (Zq .u64 (IntKind.wrap .u64 (p.getD 13 0)) 40)) (Zq .u64 (IntKind.wrap .u64 (p.getD 14 0)) 48)) (Zq .u64 (IntKind.wrap .u64 (p.getD 15 0)) 56),Z4 .or .u64 (Z4 .or .u64 (Z4 .or .u64 (Z4 .or .u64 (Z4 .or .u64 (Z4 .or .u64 (Z4 .or .u64 (Z4 .or .u64 (0) (Zq .u64 (IntKind.wrap .u64 (p.getD 16 0)) 0)) (Zq .u64 (IntKind.wrap .u64 (p.getD 17 0)) 8)) (Zq .u64 (IntKind.wrap .u64 (p.getD 18 0)) 16)) (Zq .u64 (IntKind.wrap .u64 (p.getD 19 0)) 24)) (Zq .u64 (IntKind.wrap .u64 (p.getD 20 0)) 32)) (Zq .u64 (IntKind.wrap .u64 (p.getD 21 0)) 40)) (Zq .u64 (IntKind.wrap .u64 (p.getD 22 0)) 48)) (Zq .u64 (IntKind.wrap .u64 (p.getD 23 0)) 56),Z4 .or .u64 (Z4 .or .u64 (Z4 .or .u64 (Z4 .or .u64 (Z4 .or .u64 (Z4 .or .u64 (Z4 .or .u64 (Z4 .or .u64 (0) (Zq .u64 (IntKind.wrap .u64 (p.getD 24 0)) 0)) (Zq .u64 (IntKind.wrap .u64 (p.getD 25 0)) 8)) (Zq .u64 (IntKind.wrap .u64 (p.getD 26 0)) 16)) (Zq .u64 (IntKind.wrap .u64 (p.getD 27 0)) 24)) (Zq .u64 (IntKind.wrap .u64 (p.getD 28 0)) 32)) (Zq .u64 (IntKind.wrap .u64 (p.getD 29 0)) 40)) (Zq .u64 (IntKind.wrap .u64 (p.getD 30 0)) 48)) (Zq .u64 (IntKind.wrap .u64 (p.getD 31 0)) 56)]:=by kernel_rfl
theorem Zlo (p:List Int) (k:List Int→Option (List Int)):Z3r p k big 0 (List.replicate 8 0)=k [Z4 .or .u64 (Z4 .or .u64 (Z4 .or .u64 (Z4 .or .u64 (Z4 .or .u64 (Z4 .or .u64 (Z4 .or .u64 (Z4 .or .u64 (0) (Zq .u64 (IntKind.wrap .u64 (p.getD 0 0)) 0)) (Zq .u64 (IntKind.wrap .u64 (p.getD 1 0)) 8)) (Zq .u64 (IntKind.wrap .u64 (p.getD 2 0)) 16)) (Zq .u64 (IntKind.wrap .u64 (p.getD 3 0)) 24)) (Zq .u64 (IntKind.wrap .u64 (p.getD 4 0)) 32)) (Zq .u64 (IntKind.wrap .u64 (p.getD 5 0)) 40)) (Zq .u64 (IntKind.wrap .u64 (p.getD 6 0)) 48)) (Zq .u64 (IntKind.wrap .u64 (p.getD 7 0)) 56),Z4 .or .u64 (Z4 .or .u64 (Z4 .or .u64 (Z4 .or .u64 (Z4 .or .u64 (Z4 .or .u64 (Z4 .or .u64 (Z4 .or .u64 (0) (Zq .u64 (IntKind.wrap .u64 (p.getD 8 0)) 0)) (Zq .u64 (IntKind.wrap .u64 (p.getD 9 0)) 8)) (Zq .u64 (IntKind.wrap .u64 (p.getD 10 0)) 16)) (Zq .u64 (IntKind.wrap .u64 (p.getD 11 0)) 24)) (Zq .u64 (IntKind.wrap .u64 (p.getD 12 0)) 32)) (Zq .u64 (IntKind.wrap .u64 (p.getD 13 0)) 40)) (Zq .u64 (IntKind.wrap .u64 (p.getD 14 0)) 48)) (Zq .u64 (IntKind.wrap .u64 (p.getD 15 0)) 56),Z4 .or .u64 (Z4 .or .u64 (Z4 .or .u64 (Z4 .or .u64 (Z4 .or .u64 (Z4 .or .u64 (Z4 .or .u64 (Z4 .or .u64 (0) (Zq .u64 (IntKind.wrap .u64 (p.getD 16 0)) 0)) (Zq .u64 (IntKind.wrap .u64 (p.getD 17 0)) 8)) (Zq .u64 (IntKind.wrap .u64 (p.getD 18 0)) 16)) (Zq .u64 (IntKind.wrap .u64 (p.getD 19 0)) 24)) (Zq .u64 (IntKind.wrap .u64 (p.getD 20 0)) 32)) (Zq .u64 (IntKind.wrap .u64 (p.getD 21 0)) 40)) (Zq .u64 (IntKind.wrap .u64 (p.getD 22 0)) 48)) (Zq .u64 (IntKind.wrap .u64 (p.getD 23 0)) 56),Z4 .or .u64 (Z4 .or .u64 (Z4 .or .u64 (Z4 .or .u64 (Z4 .or .u64 (Z4 .or .u64 (Z4 .or .u64 (Z4 .or .u64 (0) (Zq .u64 (IntKind.wrap .u64 (p.getD 24 0)) 0)) (Zq .u64 (IntKind.wrap .u64 (p.getD 25 0)) 8)) (Zq .u64 (IntKind.wrap .u64 (p.getD 26 0)) 16)) (Zq .u64 (IntKind.wrap .u64 (p.getD 27 0)) 24)) (Zq .u64 (IntKind.wrap .u64 (p.getD 28 0)) 32)) (Zq .u64 (IntKind.wrap .u64 (p.getD 29 0)) 40)) (Zq .u64 (IntKind.wrap .u64 (p.getD 30 0)) 48)) (Zq .u64 (IntKind.wrap .u64 (p.getD 31 0)) 56),Z4 .or .u64 (Z4 .or .u64 (Z4 .or .u64 (Z4 .or .u64 (Z4 .or .u64 (Z4 .or .u64 (Z4 .or .u64 (Z4 .or .u64 (0) (Zq .u64 (IntKind.wrap .u64 (p.getD 32 0)) 0)) (Zq .u64 (IntKind.wrap .u64 (p.getD 33 0)) 8)) (Zq .u64 (IntKind.wrap .u64 (p.getD 34 0)) 16)) (Zq .u64 (IntKind.wrap .u64 (p.getD 35 0)) 24)) (Zq .u64 (IntKind.wrap .u64 (p.getD 36 0)) 32)) (Zq .u64 (IntKind.wrap .u64 (p.getD 37 0)) 40)) (Zq .u64 (IntKind.wrap .u64 (p.getD 38 0)) 48)) (Zq .u64 (IntKind.wrap .u64 (p.getD 39 0)) 56),Z4 .or .u64 (Z4 .or .u64 (Z4 .or .u64 (Z4 .or .u64 (Z4 .or .u64 (Z4 .or .u64 (Z4 .or .u64 (Z4 .or .u64 (0) (Zq .u64 (IntKind.wrap .u64 (p.getD 40 0)) 0)) (Zq .u64 (IntKind.wrap .u64 (p.getD 41 0)) 8)) (Zq .u64 (IntKind.wrap .u64 (p.getD 42 0)) 16)) (Zq .u64 (IntKind.wrap .u64 (p.getD 43 0)) 24)) (Zq .u64 (IntKind.wrap .u64 (p.getD 44 0)) 32)) (Zq .u64 (IntKind.wrap .u64 (p.getD 45 0)) 40)) (Zq .u64 (IntKind.wrap .u64 (p.getD 46 0)) 48)) (Zq .u64 (IntKind.wrap .u64 (p.getD 47 0)) 56),Z4 .or .u64 (Z4 .or .u64 (Z4 .or .u64 (Z4 .or .u64 (Z4 .or .u64 (Z4 .or .u64 (Z4 .or .u64 (Z4 .or .u64 (0) (Zq .u64 (IntKind.wrap .u64 (p.getD 48 0)) 0)) (Zq .u64 (IntKind.wrap .u64 (p.getD 49 0)) 8)) (Zq .u64 (IntKind.wrap .u64 (p.getD 50 0)) 16)) (Zq .u64 (IntKind.wrap .u64 (p.getD 51 0)) 24)) (Zq .u64 (IntKind.wrap .u64 (p.getD 52 0)) 32)) (Zq .u64 (IntKind.wrap .u64 (p.getD 53 0)) 40)) (Zq .u64 (IntKind.wrap .u64 (p.getD 54 0)) 48)) (Zq .u64 (IntKind.wrap .u64 (p.getD 55 0)) 56),Z4 .or .u64 (Z4 .or .u64 (Z4 .or .u64 (Z4 .or .u64 (Z4 .or .u64 (Z4 .or .u64 (Z4 .or .u64 (Z4 .or .u64 (0) (Zq .u64 (IntKind.wrap .u64 (p.getD 56 0)) 0)) (Zq .u64 (IntKind.wrap .u64 (p.getD 57 0)) 8)) (Zq .u64 (IntKind.wrap .u64 (p.getD 58 0)) 16)) (Zq .u64 (IntKind.wrap .u64 (p.getD 59 0)) 24)) (Zq .u64 (IntKind.wrap .u64 (p.getD 60 0)) 32)) (Zq .u64 (IntKind.wrap .u64 (p.getD 61 0)) 40)) (Zq .u64 (IntKind.wrap .u64 (p.getD 62 0)) 48)) (Zq .u64 (IntKind.wrap .u64 (p.getD 63 0)) 56)]:=by kernel_rfl
theorem Zj8 (p:List Int):Z4o p=some [IntKind.wrap .u8 (p.getD 0 0),IntKind.wrap .u8 (Zi .u64 (p.getD 0 0) 8),IntKind.wrap .u8 (Zi .u64 (Zi .u64 (p.getD 0 0) 8) 8),IntKind.wrap .u8 (Zi .u64 (Zi .u64 (Zi .u64 (p.getD 0 0) 8) 8) 8),IntKind.wrap .u8 (Zi .u64 (Zi .u64 (Zi .u64 (Zi .u64 (p.getD 0 0) 8) 8) 8) 8),IntKind.wrap .u8 (Zi .u64 (Zi .u64 (Zi .u64 (Zi .u64 (Zi .u64 (p.getD 0 0) 8) 8) 8) 8) 8),IntKind.wrap .u8 (Zi .u64 (Zi .u64 (Zi .u64 (Zi .u64 (Zi .u64 (Zi .u64 (p.getD 0 0) 8) 8) 8) 8) 8) 8),IntKind.wrap .u8 (Zi .u64 (Zi .u64 (Zi .u64 (Zi .u64 (Zi .u64 (Zi .u64 (Zi .u64 (p.getD 0 0) 8) 8) 8) 8) 8) 8) 8),IntKind.wrap .u8 (p.getD 1 0),IntKind.wrap .u8 (Zi .u64 (p.getD 1 0) 8),IntKind.wrap .u8 (Zi .u64 (Zi .u64 (p.getD 1 0) 8) 8),IntKind.wrap .u8 (Zi .u64 (Zi .u64 (Zi .u64 (p.getD 1 0) 8) 8) 8),IntKind.wrap .u8 (Zi .u64 (Zi .u64 (Zi .u64 (Zi .u64 (p.getD 1 0) 8) 8) 8) 8),IntKind.wrap .u8 (Zi .u64 (Zi .u64 (Zi .u64 (Zi .u64 (Zi .u64 (p.getD 1 0) 8) 8) 8) 8) 8),IntKind.wrap .u8 (Zi .u64 (Zi .u64 (Zi .u64 (Zi .u64 (Zi .u64 (Zi .u64 (p.getD 1 0) 8) 8) 8) 8) 8) 8),IntKind.wrap .u8 (Zi .u64 (Zi .u64 (Zi .u64 (Zi .u64 (Zi .u64 (Zi .u64 (Zi .u64 (p.getD 1 0) 8) 8) 8) 8) 8) 8) 8),IntKind.wrap .u8 (p.getD 2 0),IntKind.wrap .u8 (Zi .u64 (p.getD 2 0) 8),IntKind.wrap .u8 (Zi .u64 (Zi .u64 (p.getD 2 0) 8) 8),IntKind.wrap .u8 (Zi .u64 (Zi .u64 (Zi .u64 (p.getD 2 0) 8) 8) 8),IntKind.wrap .u8 (Zi .u64 (Zi .u64 (Zi .u64 (Zi .u64 (p.getD 2 0) 8) 8) 8) 8),IntKind.wrap .u8 (Zi .u64 (Zi .u64 (Zi .u64 (Zi .u64 (Zi .u64 (p.getD 2 0) 8) 8) 8) 8) 8),IntKind.wrap .u8 (Zi .u64 (Zi .u64 (Zi .u64 (Zi .u64 (Zi .u64 (Zi .u64 (p.getD 2 0) 8) 8) 8) 8) 8) 8),IntKind.wrap .u8 (Zi .u64 (Zi .u64 (Zi .u64 (Zi .u64 (Zi .u64 (Zi .u64 (Zi .u64 (p.getD 2 0) 8) 8) 8) 8) 8) 8) 8),IntKind.wrap .u8 (p.getD 3 0),IntKind.wrap .u8 (Zi .u64 (p.getD 3 0) 8),IntKind.wrap .u8 (Zi .u64 (Zi .u64 (p.getD 3 0) 8) 8),IntKind.wrap .u8 (Zi .u64 (Zi .u64 (Zi .u64 (p.getD 3 0) 8) 8) 8),IntKind.wrap .u8 (Zi .u64 (Zi .u64 (Zi .u64 (Zi .u64 (p.getD 3 0) 8) 8) 8) 8),IntKind.wrap .u8 (Zi .u64 (Zi .u64 (Zi .u64 (Zi .u64 (Zi .u64 (p.getD 3 0) 8) 8) 8) 8) 8),IntKind.wrap .u8 (Zi .u64 (Zi .u64 (Zi .u64 (Zi .u64 (Zi .u64 (Zi .u64 (p.getD 3 0) 8) 8) 8) 8) 8) 8),IntKind.wrap .u8 (Zi .u64 (Zi .u64 (Zi .u64 (Zi .u64 (Zi .u64 (Zi .u64 (Zi .u64 (p.getD 3 0) 8) 8) 8) 8) 8) 8) 8)]:=by kernel_rfl
theorem Zje (x:Int):0≤IntKind.wrap .u8 x∧IntKind.wrap .u8 x<256:=by rw [Z0c]; omega
theorem Zon (p:List Int) : ∃ r,Z4o p=some r∧Byt r∧r.length=32:=by
  refine ⟨_,Zj8 p,byt_of ?_,rfl⟩
  repeat' (first | exact Zje _ | exact List.forall_mem_nil _ | refine List.forall_mem_cons.2 ⟨?_,?_⟩)
theorem Zpt (p:List Int) : ∃ r,Z6n p=some r∧W64 r:=by
  refine ⟨_,Zgw p,Zg6 ?_⟩
  repeat' (first | exact Zio _ _ | exact List.forall_mem_nil _ | refine List.forall_mem_cons.2 ⟨?_,?_⟩)
theorem Zhm (p:List Int) : ∃ b,Z3q p=some b:=by
  obtain ⟨r,e,hr⟩:=Zpt p
  obtain ⟨a,c,e2,_⟩:=Zf3 hr Za2
  exact ⟨_,by rw [Z3q,Z3 e,Z3 e2]⟩
theorem Zf1 {x y:Int} (hx:0≤x) (hy:0≤y):Zb7 x y 0=true:=by
  unfold Zb7
  rw [decide_eq_true hx,decide_eq_true hy]; rfl
theorem Zov (x:Int):0≤IntKind.wrap .u64 x∧IntKind.wrap .u64 x<18446744073709551616:=by rw [Zc2]; omega
theorem Zd4 (x y c:Int):0≤Z8a x y c∧Z8a x y c<18446744073709551616:=by unfold Z8a; omega
theorem Zk8 {q:List Int} (hq:W64 q) {i:Nat} {z:Int} (hz:0≤z∧z<18446744073709551616) {L:Nat} (hL:i+q.length≤L) (hb:L<1000000) (m:Nat) : ∀ (n:Nat) (j:Nat) (l:List Int) (c:Int),j+m=q.length→l.length=L→W64 l→(0≤c∧c<18446744073709551616) →
    ∃ l' c',(∀ k,Z1g q (i:Int) z k (n+1+m) l c (j:Int)=k l' c')∧l'.length=L∧W64 l'∧(0≤c'∧c'<18446744073709551616):=by
  induction m with
  | zero =>
    intro n j l c hj hl hw hc
    refine ⟨l,c,fun k=>?_,hl,hw,hc⟩
    rw [Nat.add_zero,Z1g,Z3j,Z1q (by simp; omega)]
  | succ m ih =>
    intro n j l c hj hl hw hc
    have hqj:=hq j
    have hmul:=Zht hz hqj
    have hlj:=hw (i+j)
    have hp:0≤z*q.getD j 0:=Int.mul_nonneg hz.1 hqj.1
    have e1:IntKind.wrap .i64 ((i:Int)+(j:Int))=((i+j:Nat):Int):=by rw [Zs (by omega) (by omega)]; omega
    have e2:IntKind.wrap .i64 ((j:Int)+1)=((j+1:Nat):Int):=by rw [Zs (by omega) (by omega)]; rfl
    have hj':j<q.length:=by omega
    have hbr:decide ((j:Int)<(q.length:Int))=true:=by simp; omega
    have hlo:0≤z*q.getD j 0%18446744073709551616:=by omega
    obtain ⟨l',c',e,h1,h2,h3⟩:=ih n (j+1) (Zew 0 l (i+j) (Z8a (Z8a (z*q.getD j 0%18446744073709551616) (l.getD (i+j) 0) 0) c 0)) (IntKind.wrap .u64 (IntKind.wrap .u64 (z*q.getD j 0 / 18446744073709551616+Zbb (z*q.getD j 0%18446744073709551616) (l.getD (i+j) 0) 0)+Zbb (Z8a (z*q.getD j 0%18446744073709551616) (l.getD (i+j) 0) 0) c 0)) (by omega) (by rw [Zau (by omega),List.length_set,hl]) (Zez hw (Zd4 _ _ _)) (Zov _)
    refine ⟨l',c',fun k=>?_,h1,h2,h3⟩
    rw [← Nat.add_assoc,Z1g,Z3j,Z21 hbr,Z06 (Z28 (by omega) (by omega)),Zf]
    simp only [Int.toNat_natCast]
    rw [Z3 hmul,Zf,e1,Z06 (Z28 (by omega) (by omega)),Zf]
    simp only [Int.toNat_natCast]
    rw [Z06 (Zf1 hlo hlj.1),Zf,Zf,Zf,Z06 (Zf1 (Zd4 _ _ _).1 hc.1),Zf,Zf,Zf,Zf,Z06 (Z28 (by omega) (by omega)),Zf,Zf,e2]
    exact e k
theorem Zk9 {p q:List Int} (hp:W64 p) (hq:W64 q) {L:Nat} (hL:p.length+q.length=L) (hb:L<1000000) (m:Nat) : ∀ (n:Nat) (i:Nat) (l:List Int),i+m=p.length→l.length=L→W64 l →
    ∃ l',Z1f p q some (n+1+m) l (i:Int)=some l'∧l'.length=L∧W64 l':=by
  induction m with
  | zero =>
    intro n i l hi hl hw
    refine ⟨l,?_,hl,hw⟩
    rw [Nat.add_zero,Z1f,Z3i,Z1q (by simp; omega)]
  | succ m ih =>
    intro n i l hi hl hw
    have hbr:decide ((i:Int)<(p.length:Int))=true:=by simp; omega
    obtain ⟨n',hn⟩ : ∃ n',big=n'+1+q.length:=⟨18446744073709551615-q.length,by have:big=18446744073709551616:=Z4i; omega⟩
    obtain ⟨l',c',e,hl',hw',hc'⟩:=Zk8 hq (i:=i) (hp i) (L:=L) (by omega) hb q.length n' 0 l 0 (by omega) hl hw (by decide)
    have e1:IntKind.wrap .i64 ((i:Int)+(q.length:Int))=((i+q.length:Nat):Int):=by rw [Zs (by omega) (by omega)]; omega
    have e2:IntKind.wrap .i64 ((i:Int)+1)=((i+1:Nat):Int):=by rw [Zs (by omega) (by omega)]; rfl
    obtain ⟨l2,e3,hl2,hw2⟩:=ih n (i+1) (Zew 0 l' (i+q.length) c') (by omega) (by rw [Zau (by omega),List.length_set,hl']) (Zez hw' hc')
    refine ⟨l2,?_,hl2,hw2⟩
    rw [← Nat.add_assoc,Z1f,Z3i,Z21 hbr,Z06 (Z28 (by omega) (by omega)),Zf,Z2p]
    simp only [Int.toNat_natCast]
    rw [hn]
    refine (e _).trans ?_
    simp only [Zf,e1,e2]
    rw [Z06 (Z28 (by omega) (by omega))]
    exact e3
theorem Zoq {p q:List Int} (hp:W64 p) (hq:W64 q) (hb:p.length+q.length<1000000) : ∃ r,Z4p p q=some r∧r.length=p.length+q.length∧W64 r:=by
  have e1:IntKind.wrap .i64 ((p.length:Int)+(q.length:Int))=((p.length+q.length:Nat):Int):=by rw [Zs (by omega) (by omega)]; omega
  obtain ⟨n,hn⟩ : ∃ n',big=n'+1+p.length:=⟨18446744073709551615-p.length,by have:big=18446744073709551616:=Z4i; omega⟩
  obtain ⟨r,e,h1,h2⟩:=Zk9 hp hq (L:=p.length+q.length) rfl hb p.length n 0 (List.replicate (p.length+q.length) 0) (by omega) (by simp) (Z3s _)
  refine ⟨r,?_,h1,h2⟩
  rw [Z4p,Zf,e1,Z06 (by unfold mkB; simp; omega),Z2p,Int.toNat_natCast,hn]
  exact e
theorem Zj5 {x:Int} (h:0≤x∧x<18446744073709551616):0≤Zi .u64 x 60∧Zi .u64 x 60<18446744073709551616:=by
  have:=Zby .u64 (x:=x) (n:=60) (by decide)
  rw [show ((60:Nat):Int)=60 from rfl] at this
  rw [this]
  have:((2^60:Nat):Int)=1152921504606846976:=by decide
  rw [this]; omega
theorem Zhd {l r:List Int} (h:W64 l) (hr:W64 r):W64 (l++r):=by
  intro i
  by_cases hi:i<l.length
  · have:(l++r).getD i 0=l.getD i 0:=by simp [List.getD_eq_getElem?_getD,List.getElem?_append_left hi]
    rw [this]; exact h i
  · have:(l++r).getD i 0=r.getD (i-l.length) 0:=by simp [List.getD_eq_getElem?_getD,List.getElem?_append_right (Nat.le_of_not_lt hi)]
    rw [this]; exact hr _
theorem Zhe {z:Int} (h:0≤z∧z<18446744073709551616):W64 [z]:=Zg6 (by simpa using h)
theorem Zmg {p:List Int} (hp:W64 p) (hb:p.length<1000000) {k:List Int→Option (List Int×List Int)} (m:Nat) : ∀ (n i:Nat) (l:List Int),i+m=p.length→l.length≤i→W64 l →
    ∃ l',Z0r p k (n+1+m) l (i:Int)=k l'∧l'.length=l.length+m∧W64 l':=by
  induction m with
  | zero =>
    intro n i l hi hl hw
    refine ⟨l,?_,rfl,hw⟩
    rw [Nat.add_zero,Z0r,Z1n,Z1q (by simp; omega)]
  | succ m ih =>
    intro n i l hi hl hw
    have hbr:decide ((i:Int)<(p.length:Int))=true:=by simp; omega
    have e2:IntKind.wrap .i64 ((i:Int)+1)=((i+1:Nat):Int):=by rw [Zs (by omega) (by omega)]; rfl
    have hs:=Zj5 (hp i)
    by_cases h:i+1<p.length
    · obtain ⟨l',e,h1,h2⟩:=ih n (i+1) (l ++ [Z4 .or .u64 (Zi .u64 (p.getD i 0) 60) (Zq .u64 (p.getD (i+1) 0) 4)]) (by omega) (by simp; omega) (Zhd hw (Zhe (Zio _ _)))
      refine ⟨l',?_,by rw [h1]; simp; omega,h2⟩
      rw [← Nat.add_assoc,Z0r,Z1n,Z21 hbr,Z06 (Z28 (by omega) (by omega))]
      simp only [Zf,e2,Z2p,Int.toNat_natCast]
      rw [Z21 (by simp; omega),Z06 (Z28 (by omega) (by omega))]
      rw [Z06 (by simp; omega)]
      exact e
    · obtain ⟨l',e,h1,h2⟩:=ih n (i+1) (l ++ [Zi .u64 (p.getD i 0) 60]) (by omega) (by simp; omega) (Zhd hw (Zhe hs))
      refine ⟨l',?_,by rw [h1]; simp; omega,h2⟩
      rw [← Nat.add_assoc,Z0r,Z1n,Z21 hbr,Z06 (Z28 (by omega) (by omega))]
      simp only [Zf,e2,Z2p,Int.toNat_natCast]
      rw [Z1q (by simp; omega)]
      rw [Z06 (by simp; omega)]
      exact e
theorem Zoi {p:List Int} (hp:W64 p) (h4:4≤p.length) (hb:p.length<1000000) : ∃ a h,Z4n p=some (a,h)∧W64 a∧W64 h∧h.length=p.length-3:=by
  obtain ⟨n,hn⟩ : ∃ n',big=n'+1+(p.length-3):=⟨18446744073709551615-(p.length-3),by have:big=18446744073709551616:=Z4i; omega⟩
  have hw0:W64 (wr (List.replicate 4 0) 0 (p.take 4)):=by
    intro i
    rw [Zkd]
    split
    · rename_i h
      have:(p.take 4).getD (i-0) 0=p.getD i 0:=by
        simp only [List.length_take] at h
        have h4':i<4:=by omega
        simp [List.getD_eq_getElem?_getD,List.getElem?_take,h4']
      rw [this]; exact hp i
    · exact Z3s 4 i
  obtain ⟨l',e,h1,h2⟩:=Zmg hp hb (k:=fun l128=>some (Z4q (wr (List.replicate 4 0) 0 (p.take 4)) 3 (Z4 .and .u64 ((wr (List.replicate 4 0) 0 (p.take 4)).getD 3 0) 1152921504606846975),l128)) (p.length-3) n 3 [] (by omega) (by simp) (Z3s 0)
  refine ⟨Z4q (wr (List.replicate 4 0) 0 (p.take 4)) 3 (Z4 .and .u64 ((wr (List.replicate 4 0) 0 (p.take 4)).getD 3 0) 1152921504606846975),l',?_,Z93 hw0 (Zjl _ _),h2,by simpa using h1⟩
  simp only [Z4n,Zf,Z2p]
  rw [hn]
  exact e
theorem Zki:W64 [6346243789798364141,1503914060200516822]:=Zg6 (by decide)
theorem Z9p {l:List Int} (n:Nat) {i:Nat} {a:List (List Int)} {k:List (List Int)→Option (List Int)} (hi:i<4) (hl:W64 l) (h4:4≤l.length) (hb:l.length<1000) (ha : ∀ i,W64 (a.getD i (List.replicate 4 0))) :
    ∃ l' a',Z0q k (n+1) l (i:Int) a=Z0q k n l' ((i+1:Nat):Int) a'∧W64 l'∧l'.length=l.length-1∧(∀ i,W64 (a'.getD i (List.replicate 4 0))):=by
  obtain ⟨lo,h,e,w1,w2,w3⟩:=Zoi hl h4 (by omega)
  obtain ⟨s,c,e2,ws,_,_⟩:=Zcy (ha (i%2)) w1
  obtain ⟨t,e3,l3,wt⟩:=Zoq w2 Zki (by simp; omega)
  have em:Int.tmod (i:Int) 2=((i%2:Nat):Int):=by rw [Int.tmod_eq_emod_of_nonneg (by omega)]; omega
  have e1:IntKind.wrap .i64 ((i:Int)+1)=((i+1:Nat):Int):=by rw [Zs (by omega) (by omega)]; rfl
  refine ⟨t,Zew (List.replicate 4 0) a (i%2) s,?_,wt,by rw [l3,w3]; simp; omega,?_⟩
  · rw [Z0q,Z33,Z21 (by simp; omega),Z3 e]
    simp only [Zf,em,e1,Int.toNat_natCast]
    rw [Z06 (Z28 (by omega) (by omega)),Z3 e2,Z06 (Z28 (by omega) (by omega)),Z9d,Z3 rfl,Z3 e3]
  · intro j
    rw [Z5l]
    split
    · exact ws
    · exact ha j
theorem Zmb {p:List Int} (hp:W64 p) (h8:p.length=8) : ∃ r,Z37 p=some r∧W64 r∧0≤V4 r∧V4 r<VL:=by
  obtain ⟨n,hn⟩ : ∃ n,big=n+1+1+1+1+1:=⟨18446744073709551611,Z4i⟩
  rw [Z37,Z2p,hn]
  have ha0 : ∀ i,W64 ((List.replicate 2 (List.replicate 4 0):List (List Int)).getD i (List.replicate 4 0)):=by
    intro i
    have:(List.replicate 2 (List.replicate 4 0):List (List Int)).getD i (List.replicate 4 0)=List.replicate 4 0:=by
      match i with
      | 0=>rfl
      | 1=>rfl
      | i+2=>rfl
    rw [this]; exact Z3s 4
  obtain ⟨l1,a1,f1,w1,n1,h1⟩:=Z9p (n+1+1+1+1) (i:=0) (k:=fun (a121:List (List Int))=>opt (Z42 G_order G_order) fun y239 =>
 bnd (a121.getD 0 (List.replicate 4 0)) fun x242 =>
 opt (Z42 x242 y239.1) fun y243 =>
 bnd (a121.getD 1 (List.replicate 4 0)) fun x246 =>
 opt (Z4m y243.1 x246) fun y247 =>
 opt (Z5p y247.1) fun y249 =>
 some y249) (by decide) hp (by omega) (by omega) ha0
  obtain ⟨l2,a2,f2,w2,n2,h2⟩:=Z9p (n+1+1+1) (i:=1) (k:=_) (by decide) w1 (by omega) (by omega) h1
  obtain ⟨l3,a3,f3,w3,n3,h3⟩:=Z9p (n+1+1) (i:=2) (k:=_) (by decide) w2 (by omega) (by omega) h2
  obtain ⟨l4,a4,f4,w4,n4,h4⟩:=Z9p (n+1) (i:=3) (k:=_) (by decide) w3 (by omega) (by omega) h3
  obtain ⟨g1,c1,q1,v1,_,_⟩:=Zcy Za2 Za2
  obtain ⟨g2,c2,q2,v2,_,_⟩:=Zcy (h4 0) v1
  obtain ⟨g3,c3,q3,v3,_,_⟩:=Zf3 v2 (h4 1)
  obtain ⟨r,q4,v4,v5⟩:=Zhl v3
  refine ⟨r,?_,v4,(Zba v4).1,by rw [v5]; exact Int.emod_lt_of_pos _ (by decide)⟩
  refine f1.trans (f2.trans (f3.trans (f4.trans ?_)))
  rw [Z0q,Z33,Z1q (by decide),Z3 q1,Zf,Z3 q2,Zf,Z3 q3,Z3 q4]
theorem tk8 (a b c d e f g h:Int):tk [a,b,c,d,e,f,g,h] 0 8 = [a,b,c,d,e,f,g,h]:=rfl
theorem Zlp (p:List Int) : ∃ r,Z7d p=some r∧Byt r∧r.length=32:=by
  rw [Z7d,Z2p,Zlo]
  obtain ⟨r,e,w,_⟩:=Zmb (p:=[Z4 .or .u64 (Z4 .or .u64 (Z4 .or .u64 (Z4 .or .u64 (Z4 .or .u64 (Z4 .or .u64 (Z4 .or .u64 (Z4 .or .u64 (0) (Zq .u64 (IntKind.wrap .u64 (p.getD 0 0)) 0)) (Zq .u64 (IntKind.wrap .u64 (p.getD 1 0)) 8)) (Zq .u64 (IntKind.wrap .u64 (p.getD 2 0)) 16)) (Zq .u64 (IntKind.wrap .u64 (p.getD 3 0)) 24)) (Zq .u64 (IntKind.wrap .u64 (p.getD 4 0)) 32)) (Zq .u64 (IntKind.wrap .u64 (p.getD 5 0)) 40)) (Zq .u64 (IntKind.wrap .u64 (p.getD 6 0)) 48)) (Zq .u64 (IntKind.wrap .u64 (p.getD 7 0)) 56),Z4 .or .u64 (Z4 .or .u64 (Z4 .or .u64 (Z4 .or .u64 (Z4 .or .u64 (Z4 .or .u64 (Z4 .or .u64 (Z4 .or .u64 (0) (Zq .u64 (IntKind.wrap .u64 (p.getD 8 0)) 0)) (Zq .u64 (IntKind.wrap .u64 (p.getD 9 0)) 8)) (Zq .u64 (IntKind.wrap .u64 (p.getD 10 0)) 16)) (Zq .u64 (IntKind.wrap .u64 (p.getD 11 0)) 24)) (Zq .u64 (IntKind.wrap .u64 (p.getD 12 0)) 32)) (Zq .u64 (IntKind.wrap .u64 (p.getD 13 0)) 40)) (Zq .u64 (IntKind.wrap .u64 (p.getD 14 0)) 48)) (Zq .u64 (IntKind.wrap .u64 (p.getD 15 0)) 56),Z4 .or .u64 (Z4 .or .u64 (Z4 .or .u64 (Z4 .or .u64 (Z4 .or .u64 (Z4 .or .u64 (Z4 .or .u64 (Z4 .or .u64 (0) (Zq .u64 (IntKind.wrap .u64 (p.getD 16 0)) 0)) (Zq .u64 (IntKind.wrap .u64 (p.getD 17 0)) 8)) (Zq .u64 (IntKind.wrap .u64 (p.getD 18 0)) 16)) (Zq .u64 (IntKind.wrap .u64 (p.getD 19 0)) 24)) (Zq .u64 (IntKind.wrap .u64 (p.getD 20 0)) 32)) (Zq .u64 (IntKind.wrap .u64 (p.getD 21 0)) 40)) (Zq .u64 (IntKind.wrap .u64 (p.getD 22 0)) 48)) (Zq .u64 (IntKind.wrap .u64 (p.getD 23 0)) 56),Z4 .or .u64 (Z4 .or .u64 (Z4 .or .u64 (Z4 .or .u64 (Z4 .or .u64 (Z4 .or .u64 (Z4 .or .u64 (Z4 .or .u64 (0) (Zq .u64 (IntKind.wrap .u64 (p.getD 24 0)) 0)) (Zq .u64 (IntKind.wrap .u64 (p.getD 25 0)) 8)) (Zq .u64 (IntKind.wrap .u64 (p.getD 26 0)) 16)) (Zq .u64 (IntKind.wrap .u64 (p.getD 27 0)) 24)) (Zq .u64 (IntKind.wrap .u64 (p.getD 28 0)) 32)) (Zq .u64 (IntKind.wrap .u64 (p.getD 29 0)) 40)) (Zq .u64 (IntKind.wrap .u64 (p.getD 30 0)) 48)) (Zq .u64 (IntKind.wrap .u64 (p.getD 31 0)) 56),Z4 .or .u64 (Z4 .or .u64 (Z4 .or .u64 (Z4 .or .u64 (Z4 .or .u64 (Z4 .or .u64 (Z4 .or .u64 (Z4 .or .u64 (0) (Zq .u64 (IntKind.wrap .u64 (p.getD 32 0)) 0)) (Zq .u64 (IntKind.wrap .u64 (p.getD 33 0)) 8)) (Zq .u64 (IntKind.wrap .u64 (p.getD 34 0)) 16)) (Zq .u64 (IntKind.wrap .u64 (p.getD 35 0)) 24)) (Zq .u64 (IntKind.wrap .u64 (p.getD 36 0)) 32)) (Zq .u64 (IntKind.wrap .u64 (p.getD 37 0)) 40)) (Zq .u64 (IntKind.wrap .u64 (p.getD 38 0)) 48)) (Zq .u64 (IntKind.wrap .u64 (p.getD 39 0)) 56),Z4 .or .u64 (Z4 .or .u64 (Z4 .or .u64 (Z4 .or .u64 (Z4 .or .u64 (Z4 .or .u64 (Z4 .or .u64 (Z4 .or .u64 (0) (Zq .u64 (IntKind.wrap .u64 (p.getD 40 0)) 0)) (Zq .u64 (IntKind.wrap .u64 (p.getD 41 0)) 8)) (Zq .u64 (IntKind.wrap .u64 (p.getD 42 0)) 16)) (Zq .u64 (IntKind.wrap .u64 (p.getD 43 0)) 24)) (Zq .u64 (IntKind.wrap .u64 (p.getD 44 0)) 32)) (Zq .u64 (IntKind.wrap .u64 (p.getD 45 0)) 40)) (Zq .u64 (IntKind.wrap .u64 (p.getD 46 0)) 48)) (Zq .u64 (IntKind.wrap .u64 (p.getD 47 0)) 56),Z4 .or .u64 (Z4 .or .u64 (Z4 .or .u64 (Z4 .or .u64 (Z4 .or .u64 (Z4 .or .u64 (Z4 .or .u64 (Z4 .or .u64 (0) (Zq .u64 (IntKind.wrap .u64 (p.getD 48 0)) 0)) (Zq .u64 (IntKind.wrap .u64 (p.getD 49 0)) 8)) (Zq .u64 (IntKind.wrap .u64 (p.getD 50 0)) 16)) (Zq .u64 (IntKind.wrap .u64 (p.getD 51 0)) 24)) (Zq .u64 (IntKind.wrap .u64 (p.getD 52 0)) 32)) (Zq .u64 (IntKind.wrap .u64 (p.getD 53 0)) 40)) (Zq .u64 (IntKind.wrap .u64 (p.getD 54 0)) 48)) (Zq .u64 (IntKind.wrap .u64 (p.getD 55 0)) 56),Z4 .or .u64 (Z4 .or .u64 (Z4 .or .u64 (Z4 .or .u64 (Z4 .or .u64 (Z4 .or .u64 (Z4 .or .u64 (Z4 .or .u64 (0) (Zq .u64 (IntKind.wrap .u64 (p.getD 56 0)) 0)) (Zq .u64 (IntKind.wrap .u64 (p.getD 57 0)) 8)) (Zq .u64 (IntKind.wrap .u64 (p.getD 58 0)) 16)) (Zq .u64 (IntKind.wrap .u64 (p.getD 59 0)) 24)) (Zq .u64 (IntKind.wrap .u64 (p.getD 60 0)) 32)) (Zq .u64 (IntKind.wrap .u64 (p.getD 61 0)) 40)) (Zq .u64 (IntKind.wrap .u64 (p.getD 62 0)) 48)) (Zq .u64 (IntKind.wrap .u64 (p.getD 63 0)) 56)]) (Zg6 (by
    repeat' (first | exact Zio _ _ | exact List.forall_mem_nil _ | refine List.forall_mem_cons.2 ⟨?_,?_⟩))) rfl
  obtain ⟨s,e2,b⟩:=Zon r
  refine ⟨s,?_,b⟩
  rw [tk8,Z3 e,Z3 e2]
def pV (l:List Int):Nat→Int
  | 0=>0
  | n+1=>pV l n+l.getD n 0*(18446744073709551616:Int)^n
theorem Z7y (l:List Int) (n:Nat):pV l (n+1)=pV l n+l.getD n 0*(18446744073709551616:Int)^n:=rfl
theorem Zir (l:List Int) (i:Nat) (v:Int) : ∀ n,n≤i→pV (Zew 0 l i v) n=pV l n
  | 0,_=>rfl
  | n+1,h=>by rw [Z7y,Z7y,Zir l i v n (by omega),Z5l,if_neg (by omega)]
theorem Znw (l:List Int) (i:Nat) (v:Int) : ∀ n,i<n→pV (Zew 0 l i v) n=pV l n+(v-l.getD i 0)*(18446744073709551616:Int)^i
  | 0,h=>by omega
  | n+1,h=>by
    rw [Z7y,Z7y,Z5l]
    by_cases hi:n=i
    · subst hi
      rw [if_pos rfl,Zir l n v n (Nat.le_refl _),Int.sub_mul]
      omega
    · rw [if_neg hi,Znw l i v n (by omega)]
      omega
theorem Znx {l:List Int} {m:Nat} (h : ∀ t,m≤t→l.getD t 0=0) : ∀ n,m≤n→pV l n=pV l m
  | 0,hn=>by rw [show m=0 by omega]
  | n+1,hn=>by
    by_cases e:m=n+1
    · rw [e]
    · rw [Z7y,h n (by omega),Znx h n (by omega)]; omega
theorem Ziq (n m:Nat):pV (List.replicate m 0) n=0:=by
  induction n with
  | zero=>rfl
  | succ n ih =>
    have:(List.replicate m (0:Int)).getD n 0=0:=by
      simp only [List.getD]
      cases hi:(List.replicate m (0:Int))[n]? with
      | none=>rfl
      | some v=>simpa using (List.mem_replicate.1 (List.mem_of_getElem? hi)).2
    rw [Z7y,ih,this]; omega
theorem Zo0 (n:Nat):0<(18446744073709551616:Int)^n:=Int.pow_pos (by decide)
theorem Zrq {l:List Int} (h:W64 l) : ∀ n,0≤pV l n∧pV l n<(18446744073709551616:Int)^n
  | 0=>by show (0:Int)≤0∧(0:Int)<1; omega
  | n+1=>by
    have ih:=Zrq h n
    have h1:=h n
    have hp:=Zo0 n
    rw [Z7y,Int.pow_succ]
    generalize (18446744073709551616:Int)^n=w at *
    generalize l.getD n 0=x at *
    generalize pV l n=v at *
    have a:0≤x*w:=Int.mul_nonneg h1.1 (by omega)
    have b:x*w≤18446744073709551615*w:=Int.mul_le_mul_of_nonneg_right (by omega) (by omega)
    omega
theorem Zn1 {z q o c:Int} (hz:0≤z∧z<18446744073709551616) (hq:0≤q∧q<18446744073709551616) (ho:0≤o∧o<18446744073709551616) (hc:0≤c∧c<18446744073709551616) :
    ∃ n,IntKind.wrap .u64 (IntKind.wrap .u64 (z*q / 18446744073709551616+Zbb (z*q%18446744073709551616) o 0)+Zbb (Z8a (z*q%18446744073709551616) o 0) c 0)=n∧0≤n∧n<18446744073709551616∧Z8a (Z8a (z*q%18446744073709551616) o 0) c 0+n*18446744073709551616=z*q+o+c:=by
  have h0:0≤z*q:=Int.mul_nonneg hz.1 hq.1
  have h1:z*q≤18446744073709551615*18446744073709551615:=Int.mul_le_mul (by omega) (by omega) hq.1 (by omega)
  generalize z*q=p at *
  refine ⟨_,rfl,?_⟩
  unfold Z8a Zbb
  have e1:IntKind.wrap .u64 (p / 18446744073709551616+(p%18446744073709551616+o+0) / 18446744073709551616)=p / 18446744073709551616+(p%18446744073709551616+o+0) / 18446744073709551616:=Zt (by omega) (by omega)
  rw [e1]
  rw [Zt (by omega) (by omega)]
  omega
theorem Zjb {q:List Int} (hq:W64 q) {i:Nat} {z:Int} (hz:0≤z∧z<18446744073709551616) {L:Nat} (hL:i+q.length≤L) (hb:L<1000000) (m:Nat) : ∀ (n:Nat) (j:Nat) (l:List Int) (c:Int),j+m=q.length→l.length=L→W64 l→(0≤c∧c<18446744073709551616) →
    ∃ l' c',(∀ k,Z1g q (i:Int) z k (n+1+m) l c (j:Int)=k l' c')∧l'.length=L∧W64 l'∧(0≤c'∧c'<18446744073709551616) ∧
      pV l' L+c'*(18446744073709551616:Int)^(i+q.length)+z*pV q j*(18446744073709551616:Int)^i=pV l L+c*(18446744073709551616:Int)^(i+j)+z*pV q q.length*(18446744073709551616:Int)^i∧(∀ t,i+q.length≤t→l'.getD t 0=l.getD t 0):=by
  induction m with
  | zero =>
    intro n j l c hj hl hw hc
    refine ⟨l,c,fun k=>?_,hl,hw,hc,?_,fun _ _=>rfl⟩
    · rw [Nat.add_zero,Z1g,Z3j,Z1q (by simp; omega)]
    · rw [show j=q.length by omega]
  | succ m ih =>
    intro n j l c hj hl hw hc
    have hqj:=hq j
    have hmul:=Zht hz hqj
    have hlj:=hw (i+j)
    have hp:0≤z*q.getD j 0:=Int.mul_nonneg hz.1 hqj.1
    have e1:IntKind.wrap .i64 ((i:Int)+(j:Int))=((i+j:Nat):Int):=by rw [Zs (by omega) (by omega)]; omega
    have e2:IntKind.wrap .i64 ((j:Int)+1)=((j+1:Nat):Int):=by rw [Zs (by omega) (by omega)]; rfl
    have hj':j<q.length:=by omega
    have hbr:decide ((j:Int)<(q.length:Int))=true:=by simp; omega
    have hlo:0≤z*q.getD j 0%18446744073709551616:=by omega
    obtain ⟨c1,ec,c1a,c1b,ev⟩:=Zn1 hz hqj hlj hc
    obtain ⟨l',c',e,h1,h2,h3,h4,h5⟩:=ih n (j+1) (Zew 0 l (i+j) (Z8a (Z8a (z*q.getD j 0%18446744073709551616) (l.getD (i+j) 0) 0) c 0)) c1 (by omega) (by rw [Zau (by omega),List.length_set,hl]) (Zez hw (Zd4 _ _ _)) ⟨c1a,c1b⟩
    refine ⟨l',c',fun k=>?_,h1,h2,h3,?_,?_⟩
    · rw [← Nat.add_assoc,Z1g,Z3j,Z21 hbr,Z06 (Z28 (by omega) (by omega)),Zf]
      simp only [Int.toNat_natCast]
      rw [Z3 hmul,Zf,e1,Z06 (Z28 (by omega) (by omega)),Zf]
      simp only [Int.toNat_natCast]
      rw [Z06 (Zf1 hlo hlj.1),Zf,Zf,Zf,Z06 (Zf1 (Zd4 _ _ _).1 hc.1),Zf,Zf,Zf,Zf,Z06 (Z28 (by omega) (by omega)),Zf,Zf,e2,ec]
      exact e k
    · rw [Znw _ _ _ _ (by omega),Z7y,← Nat.add_assoc,Int.pow_succ,Int.pow_add 18446744073709551616 i j] at h4
      rw [Int.pow_add 18446744073709551616 i j]
      generalize (18446744073709551616:Int)^(i+q.length)=w1 at *
      generalize (18446744073709551616:Int)^i=w2 at *
      generalize (18446744073709551616:Int)^j=w3 at *
      generalize Z8a (Z8a (z*q.getD j 0%18446744073709551616) (l.getD (i+j) 0) 0) c 0=lo at *
      generalize q.getD j 0=qj at *
      generalize l.getD (i+j) 0=o at *
      generalize pV l' L=a1 at *
      generalize pV l L=a2 at *
      generalize pV q j=a3 at *
      generalize pV q q.length=a4 at *
      clear e ec ih
      grind -lia -linarith (splits:=0)
    · intro t ht
      rw [h5 t ht,Z5l,if_neg (by omega)]
theorem Zjc {p q:List Int} (hp:W64 p) (hq:W64 q) {L:Nat} (hL:p.length+q.length=L) (hb:L<1000000) (m:Nat) : ∀ (n:Nat) (i:Nat) (l:List Int),i+m=p.length→l.length=L→W64 l→(∀ t,i+q.length≤t→l.getD t 0=0)→pV l L=pV p i*pV q q.length →
    ∃ l',Z1f p q some (n+1+m) l (i:Int)=some l'∧l'.length=L∧W64 l'∧pV l' L=pV p p.length*pV q q.length:=by
  induction m with
  | zero =>
    intro n i l hi hl hw hz hv
    refine ⟨l,?_,hl,hw,by rw [hv,show i=p.length by omega]⟩
    rw [Nat.add_zero,Z1f,Z3i,Z1q (by simp; omega)]
  | succ m ih =>
    intro n i l hi hl hw hz hv
    have hbr:decide ((i:Int)<(p.length:Int))=true:=by simp; omega
    obtain ⟨n',hn⟩ : ∃ n',big=n'+1+q.length:=⟨18446744073709551615-q.length,by have:big=18446744073709551616:=Z4i; omega⟩
    obtain ⟨l',c',e,hl',hw',hc',v',z'⟩:=Zjb hq (i:=i) (hp i) (L:=L) (by omega) hb q.length n' 0 l 0 (by omega) hl hw (by decide)
    have e1:IntKind.wrap .i64 ((i:Int)+(q.length:Int))=((i+q.length:Nat):Int):=by rw [Zs (by omega) (by omega)]; omega
    have e2:IntKind.wrap .i64 ((i:Int)+1)=((i+1:Nat):Int):=by rw [Zs (by omega) (by omega)]; rfl
    have hz0:l'.getD (i+q.length) 0=0:=by rw [z' _ (Nat.le_refl _),hz _ (Nat.le_refl _)]
    obtain ⟨l2,e3,hl2,hw2,v2⟩:=ih n (i+1) (Zew 0 l' (i+q.length) c') (by omega) (by rw [Zau (by omega),List.length_set,hl']) (Zez hw' hc') (by
      intro t ht
      rw [Z5l,if_neg (by omega),z' t (by omega),hz t (by omega)]) (by
      rw [Znw _ _ _ _ (by omega),hz0,Z7y]
      rw [hv] at v'
      have e0:pV q 0=0:=rfl
      rw [e0] at v'
      generalize (18446744073709551616:Int)^(i+q.length)=w1 at *
      generalize (18446744073709551616:Int)^i=w2 at *
      generalize pV l' L=a1 at *
      generalize pV q q.length=a4 at *
      generalize pV p i=a5 at *
      generalize p.getD i 0=a6 at *
      clear e ih
      grind -lia -linarith (splits:=0))
    refine ⟨l2,?_,hl2,hw2,v2⟩
    rw [← Nat.add_assoc,Z1f,Z3i,Z21 hbr,Z06 (Z28 (by omega) (by omega)),Zf,Z2p]
    simp only [Int.toNat_natCast]
    rw [hn]
    refine (e _).trans ?_
    simp only [Zf,e1,e2]
    rw [Z06 (Z28 (by omega) (by omega))]
    exact e3
theorem Zjd {p q:List Int} (hp:W64 p) (hq:W64 q) (hb:p.length+q.length<1000000) : ∃ r,Z4p p q=some r∧r.length=p.length+q.length∧W64 r∧pV r r.length=pV p p.length*pV q q.length:=by
  have e1:IntKind.wrap .i64 ((p.length:Int)+(q.length:Int))=((p.length+q.length:Nat):Int):=by rw [Zs (by omega) (by omega)]; omega
  obtain ⟨n,hn⟩ : ∃ n',big=n'+1+p.length:=⟨18446744073709551615-p.length,by have:big=18446744073709551616:=Z4i; omega⟩
  obtain ⟨r,e,h1,h2,h3⟩:=Zjc hp hq (L:=p.length+q.length) rfl hb p.length n 0 (List.replicate (p.length+q.length) 0) (by omega) (by simp) (Z3s _) (by
    intro t _
    simp only [List.getD]
    cases hi:(List.replicate (p.length+q.length) (0:Int))[t]? with
    | none=>rfl
    | some v=>simpa using (List.mem_replicate.1 (List.mem_of_getElem? hi)).2) (by
    rw [Ziq]
    show 0=0*_
    omega)
  refine ⟨r,?_,h1,h2,by rw [h1]; exact h3⟩
  rw [Z4p,Zf,e1,Z06 (by unfold mkB; simp; omega),Z2p,Int.toNat_natCast,hn]
  exact e
theorem Zlg (x:Int):Zi .u64 x 60=x / 1152921504606846976:=by
  have:=Zby .u64 (x:=x) (n:=60) (by decide)
  simpa using this
theorem Zvi (x:Int):Zq .u64 x 4=(x*16)%18446744073709551616:=by
  have:=Zen .u64 (x:=x) (n:=4) (by decide); rw [Zc2] at this; simpa using this
theorem Znh {x y:Int} (hx:0≤x∧x<18446744073709551616) (hy:0≤y∧y<18446744073709551616):Z4 .or .u64 (Zi .u64 x 60) (Zq .u64 y 4)=x / 1152921504606846976+y%1152921504606846976*16:=by
  rw [Zlg,Zvi]
  have e:y*16%18446744073709551616=y%1152921504606846976*16:=by omega
  rw [e]
  exact Z0d 4 (x:=y%1152921504606846976*16) (a:=y%1152921504606846976) rfl (by omega) (by omega) (by
    show _<(16:Int)
    omega) (by omega)
theorem Zzh (l:List Int) (v:Int):pV (l ++ [v]) l.length=pV l l.length:=by
  have h : ∀ n,n≤l.length→pV (l ++ [v]) n=pV l n:=by
    intro n
    induction n with
    | zero=>intro _; rfl
    | succ n ih =>
      intro hn
      have:(l ++ [v]).getD n 0=l.getD n 0:=by simp [List.getD_eq_getElem?_getD,List.getElem?_append_left (show n<l.length by omega)]
      rw [Z7y,Z7y,ih (by omega),this]
  exact h _ (Nat.le_refl _)
theorem Ztz (l:List Int) (v:Int):pV (l ++ [v]) (l ++ [v]).length=pV l l.length+v*(18446744073709551616:Int)^l.length:=by
  have e:(l ++ [v]).length=l.length+1:=by simp
  rw [e,Z7y,Zzh]
  have:(l ++ [v]).getD l.length 0=v:=by simp [List.getD_eq_getElem?_getD]
  rw [this]
theorem Zoh (x d r y w2 w3 b1 b2 b3:Int) {b4:Int} (hx:1152921504606846976*d+r=x)
    (h:b1+w3*1152921504606846976*(b2+(d+y*16)*w2)=b4+x*(w3*w2)+y*(w3*w2*18446744073709551616)+w3*1152921504606846976*b3) :
    b1+w3*1152921504606846976*b2=b4+r*(w3*w2)+w3*1152921504606846976*b3:=by grind -lia -linarith (splits:=0)
theorem Zk7 {p:List Int} (hp:W64 p) (hb:p.length<1000000) {k:List Int→Option (List Int×List Int)} (m:Nat) : ∀ (n i:Nat) (l:List Int),3+i+m=p.length→l.length=i→W64 l →
    ∃ l',Z0r p k (n+1+m) l ((3+i:Nat):Int)=k l'∧l'.length=i+m∧W64 l' ∧
      pV p p.length+7237005577332262213973186563042994240829374041602535252466099000494570602496*pV l l.length=pV p (3+i)+p.getD (3+i) 0%1152921504606846976*(18446744073709551616:Int)^(3+i)+7237005577332262213973186563042994240829374041602535252466099000494570602496*pV l' l'.length:=by
  induction m with
  | zero =>
    intro n i l hi hl hw
    refine ⟨l,?_,by omega,hw,?_⟩
    · rw [Nat.add_zero,Z0r,Z1n,Z1q (by simp; omega)]
    · have e:p.getD (3+i) 0=0:=by simp [List.getD_eq_getElem?_getD,List.getElem?_eq_none (show p.length≤3+i by omega)]
      rw [e,show 3+i=p.length by omega]
      omega
  | succ m ih =>
    intro n i l hi hl hw
    have hbr:decide (((3+i:Nat):Int)<(p.length:Int))=true:=by simp; omega
    have e2:IntKind.wrap .i64 (((3+i:Nat):Int)+1)=((3+(i+1):Nat):Int):=by rw [Zs (by omega) (by omega)]; omega
    have hs:=Zj5 (hp (3+i))
    have e3:((3+(i+1):Nat):Int).toNat=3+i+1:=by omega
    have hw3:(18446744073709551616:Int)^3*1152921504606846976=7237005577332262213973186563042994240829374041602535252466099000494570602496:=by decide
    have fin : ∀ (w:Int) (l':List Int),w=p.getD (3+i) 0 / 1152921504606846976+p.getD (3+i+1) 0%1152921504606846976*16 →
        pV p p.length+7237005577332262213973186563042994240829374041602535252466099000494570602496*pV (l ++ [w]) (l ++ [w]).length=pV p (3+(i+1))+p.getD (3+(i+1)) 0%1152921504606846976*(18446744073709551616:Int)^(3+(i+1))+7237005577332262213973186563042994240829374041602535252466099000494570602496*pV l' l'.length →
        pV p p.length+7237005577332262213973186563042994240829374041602535252466099000494570602496*pV l l.length=pV p (3+i)+p.getD (3+i) 0%1152921504606846976*(18446744073709551616:Int)^(3+i)+7237005577332262213973186563042994240829374041602535252466099000494570602496*pV l' l'.length:=by
      intro w l' hw' h
      rw [Ztz,hl,← Nat.add_assoc,Z7y,Int.pow_succ,Int.pow_add 18446744073709551616 3 i,hw',← hw3] at h
      rw [hl,Int.pow_add 18446744073709551616 3 i,← hw3]
      exact Zoh _ _ _ _ _ _ _ _ _ (Int.mul_ediv_add_emod (p.getD (3+i) 0) 1152921504606846976) h
    by_cases h:3+i+1<p.length
    · obtain ⟨l',e,h1,h2,h3⟩:=ih n (i+1) (l ++ [Z4 .or .u64 (Zi .u64 (p.getD (3+i) 0) 60) (Zq .u64 (p.getD (3+i+1) 0) 4)]) (by omega) (by simp; omega) (Zhd hw (Zhe (Zio _ _)))
      refine ⟨l',?_,by omega,h2,fin _ _ (Znh (hp _) (hp _)) h3⟩
      rw [← Nat.add_assoc,Z0r,Z1n,Z21 hbr,Z06 (Z28 (by omega) (by omega))]
      simp only [Zf,e2,Z2p,Int.toNat_natCast,e3]
      rw [Z21 (by simp; omega),Z06 (Z28 (by omega) (by omega))]
      rw [Z06 (by simp; omega)]
      exact e
    · obtain ⟨l',e,h1,h2,h3⟩:=ih n (i+1) (l ++ [Zi .u64 (p.getD (3+i) 0) 60]) (by omega) (by simp; omega) (Zhd hw (Zhe hs))
      have e0:p.getD (3+i+1) 0=0:=by simp [List.getD_eq_getElem?_getD,List.getElem?_eq_none (show p.length≤3+i+1 by omega)]
      refine ⟨l',?_,by omega,h2,fin _ _ (by rw [e0,Zlg]; omega) h3⟩
      rw [← Nat.add_assoc,Z0r,Z1n,Z21 hbr,Z06 (Z28 (by omega) (by omega))]
      simp only [Zf,e2,Z2p,Int.toNat_natCast]
      rw [Z1q (by simp; omega)]
      rw [Z06 (by simp; omega)]
      exact e
theorem Zhp {l:List Int} {i:Nat} (h:l.length≤i):l.getD i 0=0:=by simp [List.getD_eq_getElem?_getD,List.getElem?_eq_none h]
theorem Znv {l:List Int} {n:Nat} (h:l.length≤n):pV l n=pV l l.length:=Znx (fun t ht=>Zhp ht) n h
theorem Zoj {p:List Int} (hp:W64 p) (hb:p.length<1000000) : ∃ a h,Z4n p=some (a,h)∧W64 a∧W64 h∧h.length=p.length-3 ∧
    V4 a=pV p p.length%7237005577332262213973186563042994240829374041602535252466099000494570602496∧pV h h.length=pV p p.length / 7237005577332262213973186563042994240829374041602535252466099000494570602496:=by
  obtain ⟨n,hn⟩ : ∃ n',big=n'+1+(p.length-3):=⟨18446744073709551615-(p.length-3),by have:big=18446744073709551616:=Z4i; omega⟩
  have hw0g : ∀ i,(wr (List.replicate 4 0) 0 (p.take 4)).getD i 0=if i<4 then p.getD i 0 else 0:=by
    intro i
    rw [Zkd]
    have hr:(List.replicate 4 (0:Int)).getD i 0=0:=by
      match i with
      | 0=>rfl
      | 1=>rfl
      | 2=>rfl
      | 3=>rfl
      | i+4=>rfl
    by_cases h:0≤i∧i<0+(p.take 4).length
    · rw [if_pos h]
      simp only [List.length_take] at h
      have h4':i<4:=by omega
      rw [if_pos h4']
      simp [List.getD_eq_getElem?_getD,List.getElem?_take,h4']
    · rw [if_neg h,hr]
      simp only [List.length_take] at h
      split
      · rw [Zhp (by omega)]
      · rfl
  have hw0:W64 (wr (List.replicate 4 0) 0 (p.take 4)):=by
    intro i
    rw [hw0g]
    split
    · exact hp i
    · decide
  have hmask:Z4 .and .u64 ((wr (List.replicate 4 0) 0 (p.take 4)).getD 3 0) 1152921504606846975=p.getD 3 0%1152921504606846976:=by
    rw [hw0g,if_pos (by decide)]
    exact Zhj 60 (by decide) (by decide) (hp 3).1 (hp 3).2
  have hlow:V4 (Z4q (wr (List.replicate 4 0) 0 (p.take 4)) 3 (Z4 .and .u64 ((wr (List.replicate 4 0) 0 (p.take 4)).getD 3 0) 1152921504606846975))=p.getD 0 0+p.getD 1 0*18446744073709551616+p.getD 2 0*340282366920938463463374607431768211456+(p.getD 3 0%1152921504606846976)*6277101735386680763835789423207666416102355444464034512896:=by
    unfold V4
    rw [hmask]
    simp only [Z9b,hw0g]
    simp
  have h3:pV p 3=p.getD 0 0+p.getD 1 0*18446744073709551616+p.getD 2 0*340282366920938463463374607431768211456:=by
    simp only [pV]
    omega
  have hr0:=hp 0
  have hr1:=hp 1
  have hr2:=hp 2
  have hr3:=hp 3
  by_cases hlen:3≤p.length
  · obtain ⟨l',e,h1,h2,h4⟩:=Zk7 hp hb (k:=fun l128=>some (Z4q (wr (List.replicate 4 0) 0 (p.take 4)) 3 (Z4 .and .u64 ((wr (List.replicate 4 0) 0 (p.take 4)).getD 3 0) 1152921504606846975),l128)) (p.length-3) n 0 [] (by omega) rfl (Z3s 0)
    refine ⟨(Z4q (wr (List.replicate 4 0) 0 (p.take 4)) 3 (Z4 .and .u64 ((wr (List.replicate 4 0) 0 (p.take 4)).getD 3 0) 1152921504606846975)),l',?_,Z93 hw0 (Zjl _ _),h2,by omega,?_⟩
    · simp only [Z4n,Zf,Z2p]
      rw [hn]
      exact e
    · rw [hlow]
      rw [Nat.add_zero,h3] at h4
      have e0:pV ([]:List Int) ([]:List Int).length=0:=rfl
      have e3:(18446744073709551616:Int)^3=6277101735386680763835789423207666416102355444464034512896:=by decide
      rw [e0,e3] at h4
      generalize pV p p.length=X at *
      generalize pV l' l'.length=Y at *
      omega
  · have e3:p.getD 3 0=0:=Zhp (by omega)
    have hx:pV p p.length=pV p 3:=(Znv (by omega)).symm
    refine ⟨(Z4q (wr (List.replicate 4 0) 0 (p.take 4)) 3 (Z4 .and .u64 ((wr (List.replicate 4 0) 0 (p.take 4)).getD 3 0) 1152921504606846975)),[],?_,Z93 hw0 (Zjl _ _),Z3s 0,by simp; omega,?_⟩
    · simp only [Z4n,Zf,Z2p]
      rw [hn,show p.length-3=0 by omega,Nat.add_zero,Z0r,Z1n,Z1q (by simp; omega)]
    · rw [hlow,hx,h3,e3]
      have e0:pV ([]:List Int) ([]:List Int).length=0:=rfl
      rw [e0]
      omega
theorem Z8x {l:List Int} (n:Nat) {i:Nat} {a:List (List Int)} (hi:i<4) (hl:W64 l) (hb:l.length<1000) (ha : ∀ i,W64 (a.getD i (List.replicate 4 0)))
    (hs:V4 (a.getD (i%2) (List.replicate 4 0))+pV l l.length%7237005577332262213973186563042994240829374041602535252466099000494570602496<B4) :
    ∃ l' a',(∀ k:List (List Int)→Option (List Int),Z0q k (n+1) l (i:Int) a=Z0q k n l' ((i+1:Nat):Int) a')∧W64 l'∧l'.length=l.length-3+2∧(∀ i,W64 (a'.getD i (List.replicate 4 0))) ∧
      pV l' l'.length=pV l l.length / 7237005577332262213973186563042994240829374041602535252466099000494570602496*27742317777372353535851937790883648493 ∧
      V4 (a'.getD (i%2) (List.replicate 4 0))=V4 (a.getD (i%2) (List.replicate 4 0))+pV l l.length%7237005577332262213973186563042994240829374041602535252466099000494570602496 ∧
      (∀ j,j≠i%2→a'.getD j (List.replicate 4 0)=a.getD j (List.replicate 4 0)):=by
  obtain ⟨lo,h,e,w1,w2,w3,v1,v2⟩:=Zoj hl (by omega)
  obtain ⟨s,c,e2,ws,hc,vs⟩:=Zcy (ha (i%2)) w1
  obtain ⟨t,e3,l3,wt,vt⟩:=Zjd w2 Zki (by simp; omega)
  have em:Int.tmod (i:Int) 2=((i%2:Nat):Int):=by rw [Int.tmod_eq_emod_of_nonneg (by omega)]; omega
  have e1:IntKind.wrap .i64 ((i:Int)+1)=((i+1:Nat):Int):=by rw [Zs (by omega) (by omega)]; rfl
  refine ⟨t,Zew (List.replicate 4 0) a (i%2) s,?_,wt,by rw [l3,w3]; rfl,?_,?_,?_,?_⟩
  · intro k
    rw [Z0q,Z33,Z21 (by simp; omega),Z3 e]
    simp only [Zf,em,e1,Int.toNat_natCast]
    rw [Z06 (Z28 (by omega) (by omega)),Z3 e2,Z06 (Z28 (by omega) (by omega)),Z9d,Z3 rfl,Z3 e3]
  · intro j
    rw [Z5l]
    split
    · exact ws
    · exact ha j
  · rw [vt,v2]; rfl
  · rw [Z5l,if_pos rfl]
    have hr:=Zba ws
    have hr2:=Zba (ha (i%2))
    rw [← v1] at hs ⊢
    have hc0:c=0:=by
      unfold B4 at *
      rcases hc with h | h
      · exact h
      · exfalso; subst h; omega
    rw [vs,hc0]; omega
  · intro j hj
    rw [Z5l,if_neg hj]
theorem Zkh:V4 (List.replicate 4 0)=0:=by decide
theorem Zh0 {p:List Int} (hp:W64 p) (h8:p.length≤8) : ∃ r,Z37 p=some r∧W64 r∧V4 r=pV p p.length%VL:=by
  obtain ⟨n,hn⟩ : ∃ n,big=n+1+1+1+1+1:=⟨18446744073709551611,Z4i⟩
  rw [Z37,Z2p,hn]
  have ha0 : ∀ i,(List.replicate 2 (List.replicate 4 0):List (List Int)).getD i (List.replicate 4 0)=List.replicate 4 0:=by
    intro i
    match i with
    | 0=>rfl
    | 1=>rfl
    | i+2=>rfl
  have hX:=Zrq hp 8
  rw [Znv h8] at hX
  have e8:(18446744073709551616:Int)^8=13407807929942597099574024998205846127479365820592393377723561443721764030073546976801874298166903427690031858186486050853753882811946569946433649006084096:=by decide
  rw [e8] at hX
  obtain ⟨l1,a1,f1,w1,n1,h1,x1,s1,o1⟩:=Z8x (n+1+1+1+1) (i:=0) (l:=p) (a:=List.replicate 2 (List.replicate 4 0)) (by decide) hp (by omega) (by intro i; rw [ha0]; exact Z3s 4) (by
    rw [ha0,Zkh]
    generalize pV p p.length=X at *
    unfold B4
    omega)
  rw [ha0,Zkh] at s1
  have t1:=o1 1 (by decide)
  rw [ha0] at t1
  obtain ⟨l2,a2,f2,w2,n2,h2,x2,s2,o2⟩:=Z8x (n+1+1+1) (i:=1) (by decide) w1 (by omega) h1 (by
    rw [t1,Zkh]
    generalize pV l1 l1.length=X at *
    unfold B4
    omega)
  rw [t1,Zkh] at s2
  have t2:=o2 0 (by decide)
  obtain ⟨l3,a3,f3,w3,n3,h3,x3,s3,o3⟩:=Z8x (n+1+1) (i:=2) (by decide) w2 (by omega) h2 (by
    have e:a2.getD (2%2) (List.replicate 4 0)=a1.getD 0 (List.replicate 4 0):=t2
    have s1':V4 (a1.getD 0 (List.replicate 4 0))=_:=s1
    rw [e,s1']
    generalize pV p p.length=X at *
    generalize pV l2 l2.length=Y at *
    unfold B4
    omega)
  have t3:=o3 1 (by decide)
  obtain ⟨l4,a4,f4,w4,n4,h4,x4,s4,o4⟩:=Z8x (n+1) (i:=3) (by decide) w3 (by omega) h3 (by
    have e:a3.getD (3%2) (List.replicate 4 0)=a2.getD 1 (List.replicate 4 0):=t3
    have s2':V4 (a2.getD 1 (List.replicate 4 0))=_:=s2
    rw [e,s2']
    generalize pV l1 l1.length=X at *
    generalize pV l3 l3.length=Y at *
    unfold B4
    omega)
  have t4:=o4 0 (by decide)
  have v0:V4 (a4.getD 0 (List.replicate 4 0))=pV p p.length%7237005577332262213973186563042994240829374041602535252466099000494570602496+pV l2 l2.length%7237005577332262213973186563042994240829374041602535252466099000494570602496:=by
    have s3':V4 (a3.getD 0 (List.replicate 4 0))=V4 (a2.getD 0 (List.replicate 4 0))+_:=s3
    have s1':V4 (a1.getD 0 (List.replicate 4 0))=_:=s1
    rw [t4,s3',t2,s1']
    omega
  have v1:V4 (a4.getD 1 (List.replicate 4 0))=pV l1 l1.length%7237005577332262213973186563042994240829374041602535252466099000494570602496+pV l3 l3.length%7237005577332262213973186563042994240829374041602535252466099000494570602496:=by
    have s4':V4 (a4.getD 1 (List.replicate 4 0))=V4 (a3.getD 1 (List.replicate 4 0))+_:=s4
    have s2':V4 (a2.getD 1 (List.replicate 4 0))=_:=s2
    rw [s4',t3,s2']
    omega
  obtain ⟨g1,c1,q1,z1,hc1,y1⟩:=Zcy Za2 Za2
  obtain ⟨g2,c2,q2,z2,hc2,y2⟩:=Zcy (h4 0) z1
  obtain ⟨g3,c3,q3,z3,hc3,y3⟩:=Zf3 z2 (h4 1)
  obtain ⟨r,q4,z4,y4⟩:=Zhl z3
  refine ⟨r,?_,z4,?_⟩
  · refine (f1 _).trans ((f2 _).trans ((f3 _).trans ((f4 _).trans ?_)))
    rw [Z0q,Z33,Z1q (by decide),Z3 q1,Zf,Z3 q2,Zf,Z3 q3,Z3 q4]
  · have r1:=Zba z1
    have r2:=Zba z2
    have r3:=Zba z3
    rw [y4]
    rw [Zkg] at y1
    rw [v0] at y2
    rw [v1] at y3
    generalize V4 g1=G1 at *
    generalize V4 g2=G2 at *
    generalize V4 g3=G3 at *
    generalize pV p p.length=X at *
    generalize pV l1 l1.length=X1 at *
    generalize pV l2 l2.length=X2 at *
    generalize pV l3 l3.length=X3 at *
    clear f1 f2 f3 f4 q1 q2 q3 q4 e8
    unfold VL at *
    unfold B4 at *
    have k1:c1=0:=by rcases hc1 with h | h <;> omega
    subst k1
    have b1:X1<51397454971639728862728594851412511588645886491167898648663828096174877345658614143171087801555262538602929264263168:=by omega
    have b2:X2<197026866089141791222560432227205258386878298291626920115022677913390379788544:=by omega
    have b3:X3<776784897766425899003854258144742157804:=by omega
    have k2:c2=0:=by rcases hc2 with h | h <;> omega
    subst k2
    have k3:c3=0:=by rcases hc3 with h | h <;> omega
    subst k3
    have e:G3=X-7237005577332262213973186563042994240857116359379907606001950938285454250989*(X / 7237005577332262213973186563042994240829374041602535252466099000494570602496-X1 / 7237005577332262213973186563042994240829374041602535252466099000494570602496+X2 / 7237005577332262213973186563042994240829374041602535252466099000494570602496-2):=by omega
    rw [e,Int.sub_mul_emod_self_left]
end Go.Proofs.YtiflckckekjbnaaGreatDoor
namespace Go.Proofs.YtiflckckekjbnaaGreatDoor
set_option linter.all false
set_option maxRecDepth 100000
def Prm (n:Nat):Prop:=2≤n ∧ ∀ d,d∣n→d=1∨d=n
theorem Zrt (n:Nat) : ∀ (m:Nat) (f:Nat→Nat),(∀ i,i<n→f i<m)→(∀ i j,i<n→j<n→f i=f j→i=j)→n≤m:=by
  induction n with
  | zero=>intros; omega
  | succ n ih =>
    intro m f h1 h2
    have hm:=h1 n (by omega)
    have:=ih (m-1) (fun i=>if f i=m-1 then f n else f i) (by
      intro i hi
      have a1:=h1 i (by omega)
      have a2:f i≠f n:=fun e=>by have:=h2 i n (by omega) (by omega) e; omega
      split <;> omega) (by
      intro i j hi hj e
      have a1:f i≠f n:=fun e=>by have:=h2 i n (by omega) (by omega) e; omega
      have a2:f j≠f n:=fun e=>by have:=h2 j n (by omega) (by omega) e; omega
      split at e <;> split at e
      · rename_i x y; exact h2 i j (by omega) (by omega) (x.trans y.symm)
      · exact absurd e.symm a2
      · exact absurd e a1
      · exact h2 i j (by omega) (by omega) e)
    omega
theorem surj {n:Nat} {f:Nat→Nat} (h1 : ∀ i,i<n→f i<n) (h2 : ∀ i j,i<n→j<n→f i=f j→i=j) {v:Nat} (hv:v<n) : ∃ i,i<n∧f i=v:=by
  false_or_by_contra
  rename_i hc
  have hc : ∀ i,i<n→f i≠v:=fun i hi e=>hc ⟨i,hi,e⟩
  have:=Zrt (n+1) n (fun i=>if i=n then v else f i) (by
    intro i hi
    split
    · exact hv
    · exact h1 i (by omega)) (by
    intro i j hi hj e
    split at e <;> split at e
    · omega
    · exact absurd e.symm (hc j (by omega))
    · exact absurd e (hc i (by omega))
    · exact h2 i j (by omega) (by omega) e)
  omega
theorem Zf7 {a n e:Nat}:(a%n)^e%n=a^e%n:=by rw [← Nat.pow_mod]
def One (a m k:Nat):Prop:=a^k%m=1%m
theorem One.mul {a m k:Nat} (h:One a m k) (l:Nat):One a m (k*l):=by
  unfold One at *
  rw [Nat.pow_mul,Nat.pow_mod,h,← Nat.pow_mod,Nat.one_pow]
theorem One.rest {a m k l:Nat} (h:One a m k) (h2:One a m l):One a m (k%l):=by
  have h3:=h2.mul (k / l)
  unfold One at *
  have e:k=l*(k / l)+k%l:=(Nat.div_add_mod k l).symm
  rw [e,Nat.pow_add,Nat.mul_mod,h3,← Nat.mul_mod,Nat.one_mul] at h
  exact h
theorem One.gcd {a m:Nat} (k:Nat) : ∀ l,One a m k→One a m l→One a m (Nat.gcd k l):=by
  induction k using Nat.strongRecOn with
  | ind k ih =>
    intro l h h2
    by_cases hk:k=0
    · subst hk; rw [Nat.gcd_zero_left]; exact h2
    · rw [Nat.gcd_rec]
      exact ih (l%k) (Nat.mod_lt _ (by omega)) k (h2.rest h) h
def Zk3:List Nat→Nat
  | []=>1
  | r::rs=>r*Zk3 rs
theorem Zl7 {m:Nat} (hm:1<m) : ∀ (rs:List Nat),(∀ r∈rs,Prm r)→m∣Zk3 rs→∃ r,r∈rs∧r∣m
  | [],_,h=>by
    have:=Nat.le_of_dvd (by decide) h
    simp [Zk3] at this
    omega
  | r::rs,hp,h=>by
    have hr:=hp r List.mem_cons_self
    rcases hr.2 (Nat.gcd m r) (Nat.gcd_dvd_right m r) with h1 | h1
    · have h2:m∣Zk3 rs:=Nat.Coprime.dvd_of_dvd_mul_left h1 h
      obtain ⟨s,hs,hd⟩:=Zl7 hm rs (fun x hx=>hp x (List.mem_cons_of_mem _ hx)) h2
      exact ⟨s,List.mem_cons_of_mem _ hs,hd⟩
    · exact ⟨r,List.mem_cons_self,by rw [← h1]; exact Nat.gcd_dvd_left m r⟩
theorem Zl2 {a m n:Nat} {rs:List Nat} (hp : ∀ r∈rs,Prm r) (hn:Zk3 rs=n) (h0:0<n) (h1:One a m n) (hr : ∀ r∈rs,¬ One a m (n / r)) {k:Nat} (hk:0<k) (hkn:k<n) : ¬ One a m k:=by
  intro h
  have hg:=One.gcd k n h h1
  have hd:Nat.gcd k n∣n:=Nat.gcd_dvd_right k n
  have hle:Nat.gcd k n≤k:=Nat.le_of_dvd hk (Nat.gcd_dvd_left k n)
  obtain ⟨q,hq⟩:=hd
  generalize Nat.gcd k n=g at *
  have hq1:1<q:=by
    rcases Nat.lt_or_ge 1 q with h | h
    · exact h
    · have:g*q≤g*1:=Nat.mul_le_mul_left g h
      omega
  obtain ⟨r,hrm,s,hs⟩:=Zl7 hq1 rs hp (by rw [hn,hq]; exact Nat.dvd_mul_left q g)
  have hr0:0<r:=by have:=(hp r hrm).1; omega
  apply hr r hrm
  have e:n / r=g*s:=by
    rw [hq,hs,← Nat.mul_assoc,Nat.mul_comm g r,Nat.mul_assoc,Nat.mul_div_cancel_left _ hr0]
  rw [e]
  exact hg.mul s
theorem Zgz {a m n:Nat} (h1:One a m n) (ho : ∀ k,0<k→k<n→¬ One a m k) {i j:Nat} (hi:i<n) (hj:j<n) (e:a^i%m=a^j%m):i=j:=by
  have key : ∀ i j,i<j→j<n→a^i%m=a^j%m→False:=by
    intro i j hij hj e
    apply ho (j-i) (by omega) (by omega)
    have e2:a^(n-i)*a^i%m=a^(n-i)*a^j%m:=by rw [Nat.mul_mod,e,← Nat.mul_mod]
    rw [← Nat.pow_add,← Nat.pow_add,show n-i+i=n by omega,show n-i+j=n+(j-i) by omega] at e2
    unfold One at h1 ⊢
    rw [h1,Nat.pow_add,Nat.mul_mod,h1,← Nat.mul_mod,Nat.one_mul] at e2
    exact e2.symm
  rcases Nat.lt_trichotomy i j with h | h | h
  · exact (key i j h hj e).elim
  · exact h
  · exact (key j i h hi e.symm).elim
theorem One.dvd {a m l k:Nat} (h:One a m k) (hl:l∣m):One a l k:=by
  unfold One at *
  obtain ⟨q,rfl⟩:=hl
  have:=congrArg (· % l) h
  simpa [Nat.mod_mul_right_mod] using this
theorem pock {n F c:Nat} {rs:List Nat} (h2:2≤n) (hp : ∀ r∈rs,Prm r) (hF:Zk3 rs=F) (hF0:0<F) (hFn:n<F*F) (h1:One c n F) (hr : ∀ r∈rs,Nat.gcd (c^(F / r)%n+(n-1)) n=1):Prm n:=by
  have key : ∀ l,l∣n→2≤l→F≤l:=by
    intro l hl h2l
    have h1l:=h1.dvd hl
    have hol : ∀ k,0<k→k<F→¬ One c l k:=fun k hk hkF=>Zl2 hp hF hF0 h1l (fun r hrm hone=>by
      have hg:=hr r hrm
      have hd:l∣c^(F / r)%n+(n-1):=by
        unfold One at hone
        have e1:c^(F / r)%n%l=1%l:=by
          obtain ⟨q,rfl⟩:=hl
          rw [Nat.mod_mul_right_mod]; exact hone
        obtain ⟨q,rfl⟩:=hl
        apply Nat.dvd_of_mod_eq_zero
        rw [Nat.add_mod,e1,← Nat.add_mod,show 1+(l*q-1)=l*q by omega,Nat.mul_mod_right]
      have:=Nat.dvd_gcd hd hl
      rw [hg] at this
      have:=Nat.le_of_dvd (by decide) this
      omega) hk hkF
    exact Zrt F l (fun i=>c^i%l) (fun i _=>Nat.mod_lt _ (by omega)) (fun i j hi hj e=>Zgz h1l hol hi hj e)
  refine ⟨h2,fun d hd=>?_⟩
  obtain ⟨q,hq⟩:=hd
  by_cases hd1:d=1
  · exact .inl hd1
  by_cases hq1:q=1
  · subst hq1; exact .inr (by omega)
  exfalso
  have hd0:d≠0:=fun h=>by subst h; simp at hq; omega
  have hq0:q≠0:=fun h=>by subst h; simp at hq; omega
  have a1:=key d ⟨q,hq⟩ (by omega)
  have a2:=key q ⟨d,by rw [hq,Nat.mul_comm]⟩ (by omega)
  have:=Nat.mul_le_mul a1 a2
  omega
def pm (m:Nat):Nat→Nat→Nat→Nat→Nat
  | 0,_,_,acc=>acc
  | f+1,a,e,acc=>pm m f (a*a%m) (e / 2) (if e%2=0 then acc else acc*a%m)
theorem Zu0 (m f:Nat) : ∀ (a e acc:Nat),e<2^f→pm m f a e acc%m=acc*a^e%m:=by
  induction f with
  | zero => intro a e acc h; have : e = 0 := by simpa using h
            subst this; simp [pm]
  | succ f ih =>
    intro a e acc h
    have h2:e / 2<2^f:=by rw [Nat.pow_succ] at h; omega
    rw [pm,ih _ _ _ h2]
    have e1:e=2*(e / 2)+e%2:=(Nat.div_add_mod e 2).symm
    have e2:(a*a%m)^(e / 2)%m=a^(2*(e / 2))%m:=by rw [← Nat.pow_mod,← Nat.pow_two,← Nat.pow_mul]
    by_cases hz:e%2=0
    · rw [if_pos hz,Nat.mul_mod,e2,← Nat.mul_mod,show 2*(e / 2)=e by omega]
    · have e3:a^e=a*a^(2*(e / 2)):=by
        conv=>lhs; rw [e1,show e%2=1 by omega,Nat.pow_succ,Nat.mul_comm]
      rw [if_neg hz,Nat.mul_mod,e2,Nat.mod_mod,← Nat.mul_mod,e3,Nat.mul_assoc]
theorem Zrp {a m e:Nat} (f:Nat) (h:e<2^f) (h1:(pm m f a e 1%m==1%m)=true):One a m e:=by
  have:=Zu0 m f a e 1 h
  unfold One
  rw [Nat.one_mul] at this
  rw [← this]
  simpa using h1
def chkP (n F c:Nat) (rs:List Nat):Bool :=
  Nat.ble 2 n&&(Zk3 rs==F)&&Nat.ble 1 F&&Nat.blt n (F*F)&&Nat.blt F (2^256)&&(pm n 256 c F 1%n==1%n)&&rs.all fun r=>Nat.blt (F / r) (2^256)&&Nat.gcd (pm n 256 c (F / r) 1%n+(n-1)) n==1
theorem Zit {n F c:Nat} {rs:List Nat} (hp : ∀ r∈rs,Prm r) (h:chkP n F c rs=true):Prm n:=by
  unfold chkP at h
  simp only [Bool.and_eq_true,List.all_eq_true] at h
  obtain ⟨⟨⟨⟨⟨⟨h1,h2⟩,h3⟩,h4⟩,h5⟩,h6⟩,h7⟩:=h
  refine pock (F:=F) (c:=c) (rs:=rs) (Nat.le_of_ble_eq_true h1) hp (by simpa using h2) (Nat.le_of_ble_eq_true h3) (Nat.le_of_ble_eq_true h4) (Zrp 256 (Nat.le_of_ble_eq_true h5) h6) ?_
  intro r hr
  obtain ⟨a1,a2⟩:=h7 r hr
  have:=Zu0 n 256 c (F / r) 1 (Nat.le_of_ble_eq_true a1)
  rw [Nat.one_mul] at this
  rw [← this]
  simpa using a2
def tryD (n:Nat):Nat→Nat→Bool
  | 0,_=>true
  | f+1,d => !(n%d==0)&&tryD n f (d+1)
theorem Zvq (n f:Nat) : ∀ d,tryD n f d=true→∀ i,i<f→n%(d+i)≠0:=by
  induction f with
  | zero=>intros; omega
  | succ f ih =>
    intro d h i hi
    simp only [tryD,Bool.and_eq_true] at h
    cases i with
    | zero=>simpa using h.1
    | succ i=>have:=ih (d+1) h.2 i (by omega); rwa [show d+(i+1)=d+1+i by omega]
theorem Z8k (n f:Nat) (h:(Nat.ble 2 n&&tryD n f 2&&Nat.blt n ((f+2)*(f+2)))=true):Prm n:=by
  simp only [Bool.and_eq_true] at h
  obtain ⟨⟨h1,h2⟩,h3⟩:=h
  have h1:=Nat.le_of_ble_eq_true h1
  have h3:n<(f+2)*(f+2):=Nat.le_of_ble_eq_true h3
  have key : ∀ d,2≤d→d<f+2→¬ d∣n:=fun d a b hd=>by
    have:=Zvq n f 2 h2 (d-2) (by omega)
    rw [show 2+(d-2)=d by omega] at this
    exact this (Nat.mod_eq_zero_of_dvd hd)
  refine ⟨h1,fun d hd=>?_⟩
  obtain ⟨q,hq⟩:=hd
  by_cases hd1:d=1
  · exact .inl hd1
  by_cases hq1:q=1
  · subst hq1; exact .inr (by omega)
  exfalso
  have hd0:d≠0:=fun h=>by subst h; simp at hq; omega
  have hq0:q≠0:=fun h=>by subst h; simp at hq; omega
  have a1:f+2≤d:=by
    rcases Nat.lt_or_ge d (f+2) with h | h
    · exact absurd ⟨q,hq⟩ (key d (by omega) h)
    · exact h
  have a2:f+2≤q:=by
    rcases Nat.lt_or_ge q (f+2) with h | h
    · exact absurd ⟨d,by rw [hq,Nat.mul_comm]⟩ (key q (by omega) h)
    · exact h
  have:=Nat.mul_le_mul a1 a2
  omega
theorem Zsd {P:Nat→Prop} {a:Nat} (h:P a) : ∀ r ∈ [a],P r:=by intro r hr; rw [List.mem_singleton] at hr; subst hr; exact h
theorem Zhh {P:Nat→Prop} {a b:Nat} (h:P a) (h2:P b) : ∀ r ∈ [a,b],P r:=by
  intro r hr
  simp only [List.mem_cons,List.not_mem_nil,or_false] at hr
  rcases hr with rfl | rfl
  · exact h
  · exact h2
theorem Zgi:Prm 2773320623:=Z8k 2773320623 52662 (by decide +kernel)
theorem Zft:Prm 72106336199:=Zit (F:=2773320623) (c:=67108864) (rs:=[2773320623]) (Zsd Zgi) (by decide +kernel)
theorem Zk2:Prm 8574133:=Z8k 8574133 2928 (by decide +kernel)
theorem Zu1:Prm 127:=Z8k 127 11 (by decide +kernel)
theorem Zcm:Prm 1919519569386763:=Zit (F:=1088914891) (c:=354538099852037) (rs:=[8574133,127]) (Zhh Zk2 Zu1) (by decide +kernel)
theorem Zm7:Prm 430751:=Z8k 430751 656 (by decide +kernel)
theorem Zqb:Prm 4153:=Z8k 4153 64 (by decide +kernel)
theorem Zbr:Prm 31757755568855353:=Zit (F:=1788908903) (c:=26222887164197666) (rs:=[430751,4153]) (Zhh Zm7 Zqb) (by decide +kernel)
theorem Z5n:Prm 75445702479781427272750846543864801:=Zit (F:=138409523410761641138333837) (c:=23520671056837248616447561120497838) (rs:=[1919519569386763,72106336199]) (Zhh Zcm Zft) (by decide +kernel)
theorem Z1e:Prm 74058212732561358302231226437062788676166966415465897661863160754340907:=Zit (F:=2395986178073482737347378734667165195040796357129753) (c:=32917242187670345156894797748588826076355976820526874250530785709567478) (rs:=[75445702479781427272750846543864801,31757755568855353]) (Zhh Z5n Zbr) (by decide +kernel)
abbrev pN:Nat:=57896044618658097711785492504343953926634992332820282019728792003956564819949
abbrev qN:Nat:=74058212732561358302231226437062788676166966415465897661863160754340907
theorem Zzi:Prm 2:=Z8k 2 0 (by decide +kernel)
theorem Z0eo:Prm 3:=Z8k 3 1 (by decide +kernel)
theorem Zo3:Prm 65147:=Z8k 65147 255 (by decide +kernel)
theorem Znr {a m e:Nat} (f:Nat) (h:e<2^f) (h1:(pm m f a e 1%m==1%m)=false) : ¬ One a m e:=by
  have:=Zu0 m f a e 1 h
  intro h2
  unfold One at h2
  rw [Nat.one_mul,h2] at this
  rw [this] at h1
  simp at h1
theorem Zdm:One 2 pN (pN-1):=Zrp 256 (by decide +kernel) (by decide +kernel)
theorem Zmc {k:Nat} (hk:0<k) (hk2:k<pN-1) : ¬ One 2 pN k:=by
  refine Zl2 (rs:=[2,2,3,65147,qN]) ?_ (by decide +kernel) (by decide +kernel) Zdm ?_ hk hk2
  · intro r hr
    simp only [List.mem_cons,List.not_mem_nil,or_false] at hr
    rcases hr with rfl | rfl | rfl | rfl | rfl
    · exact Zzi
    · exact Zzi
    · exact Z0eo
    · exact Zo3
    · exact Z1e
  · intro r hr
    simp only [List.mem_cons,List.not_mem_nil,or_false] at hr
    rcases hr with rfl | rfl | rfl | rfl | rfl
    all_goals exact Znr 256 (by decide +kernel) (by decide +kernel)
theorem Zhx {i:Nat} (hi:i<pN-1):2^i%pN≠0:=by
  intro h
  have h1:=Zdm
  unfold One at h1
  rw [show pN-1=i+(pN-1-i) by omega,Nat.pow_add,Nat.mul_mod,h,Nat.zero_mul,Nat.zero_mod] at h1
  exact absurd h1 (by decide +kernel)
theorem Zql {a:Nat} (ha:a%pN≠0) : ∃ i,i<pN-1∧2^i%pN=a%pN:=by
  have hlt : ∀ x,x%pN<pN:=fun x=>Nat.mod_lt _ (by decide +kernel)
  obtain ⟨i,hi,e⟩:=surj (n:=pN-1) (f:=fun i=>2^i%pN-1) (fun i hi=>by
    have:=hlt (2^i)
    have:=Zhx hi
    omega) (fun i j hi hj e=>by
    have:=Zhx hi
    have:=Zhx hj
    exact Zgz Zdm (fun k a b=>Zmc a b) hi hj (by omega)) (v:=a%pN-1) (by have:=hlt a; omega)
  refine ⟨i,hi,?_⟩
  have:=Zhx hi
  omega
theorem Zn9 {a:Nat} (ha:a%pN≠0):One a pN (pN-1):=by
  obtain ⟨i,_,e⟩:=Zql ha
  have h:=Zdm.mul i
  unfold One at h ⊢
  rw [← Zf7,← e,Zf7,← Nat.pow_mul,Nat.mul_comm]
  exact h
theorem Ztn {a:Nat} (ha:a%pN≠0):a*a^(pN-2)%pN=1:=by
  have h:=Zn9 ha
  unfold One at h
  rw [show pN-1=(pN-2)+1 by decide +kernel,Nat.pow_succ,Nat.mul_comm] at h
  rw [h]
  decide +kernel
theorem Zts {d:Nat} (hd:(pm pN 256 d ((pN-1) / 2) 1%pN==1%pN)=false) (x:Nat) (hx:x%pN≠0):x*x%pN≠d%pN:=by
  intro e
  refine Znr 256 (by decide +kernel) hd ?_
  have h:=Zn9 hx
  unfold One at h ⊢
  rw [← Zf7,← e,Zf7,← Nat.pow_two,← Nat.pow_mul,show 2*((pN-1) / 2)=pN-1 by decide +kernel]
  exact h
abbrev dN:Nat:=37095705934669439343138083508754565189542113879843219016388785533085940283555
theorem Zn5 (x:Nat) (hx:x%pN≠0):x*x%pN≠dN%pN:=Zts (by decide +kernel) x hx
abbrev F:=Fin pN
theorem Zmp (a:F) (ha:a≠0) : ∃ i:F,a*i=1:=by
  have h0:a.val%pN≠0:=by
    intro h
    apply ha
    rw [Nat.mod_eq_of_lt a.isLt] at h
    exact Fin.ext h
  have h:=Ztn h0
  refine ⟨⟨a.val^(pN-2)%pN,Nat.mod_lt _ (by decide +kernel)⟩,Fin.ext ?_⟩
  rw [Fin.val_mul]
  show a.val*(a.val^(pN-2)%pN)%pN=_
  generalize a.val^(pN-2)=z at *
  rw [Nat.mul_mod,Nat.mod_mod,← Nat.mul_mod,h]
  decide +kernel
theorem Zhc {a b:F} (h:a*b=0):a=0∨b=0:=by
  by_cases ha:a=0
  · exact .inl ha
  · obtain ⟨i,hi⟩:=Zmp a ha
    exact .inr (by grind -lia -linarith (splits:=0))
def dF:F:=⟨dN,by decide +kernel⟩
def iF:F:=⟨19681161376707505956807079304988542015446066515923890162744021073123829784752,by decide +kernel⟩
theorem Z0be:iF*iF+1=0:=by decide +kernel
theorem Zn4 (s t:F) (h:s*s=dF*(t*t)):t=0:=by
  false_or_by_contra
  rename_i ht
  obtain ⟨i,hi⟩:=Zmp t ht
  have hx:(s*i)*(s*i)=dF:=by grind -lia -linarith (splits:=0)
  have h1:(s*i).val*(s*i).val%pN=dN%pN:=by
    have:=congrArg Fin.val hx
    rw [Fin.val_mul] at this
    rw [this]
    decide +kernel
  by_cases hz:(s*i).val%pN=0
  · rw [Nat.mul_mod,hz] at h1
    exact absurd h1 (by decide +kernel)
  · exact Zn5 _ hz h1
structure On (x y:F):Prop where
  eq:y*y-x*x=1+dF*x*x*y*y
theorem Z0ad (a:F) (h:a+a=0):a=0:=by
  obtain ⟨i,hi⟩:=Zmp 2 (by decide +kernel)
  grind -lia -linarith (splits:=0)
theorem Zr9 {x1 y1 x2 y2:F} (h1:On x1 y1) (h2:On x2 y2):dF*x1*x2*y1*y2*(dF*x1*x2*y1*y2)≠1:=by
  intro h3
  have e1:=h1.eq
  have e2:=h2.eq
  have hi:=Z0be
  obtain ⟨j,hj⟩ : ∃ j,j=iF:=⟨_,rfl⟩
  rw [← hj] at hi
  obtain ⟨d,hd⟩ : ∃ d,d=dF:=⟨_,rfl⟩
  have nr : ∀ s t:F,s*s=d*(t*t)→t=0:=by rw [hd]; exact Zn4
  rw [← hd] at e1 e2 h3
  clear hd hj h1 h2
  obtain ⟨e,he⟩ : ∃ e,e=d*x1*x2*y1*y2:=⟨_,rfl⟩
  rw [← he] at h3
  -- with u = j x the curve is u u + y y = 1 - d u u y y
  have a1:x1*y1*(j*x2+y2)=0:=by
    refine nr (j*x1+e*y1) _ ?_
    grind -lia -linarith (splits:=0)
  have a2:x1*y1*(j*x2-y2)=0:=by
    refine nr (j*x1-e*y1) _ ?_
    grind -lia -linarith (splits:=0)
  have n1:x1*y1≠0:=fun h=>absurd (show (1:F)=0 by grind -lia -linarith (splits:=0)) (by decide +kernel)
  have b1:=(Zhc a1).resolve_left n1
  have b2:=(Zhc a2).resolve_left n1
  have b3:y2=0:=Z0ad y2 (by grind -lia -linarith (splits:=0))
  exact absurd (show (1:F)=0 by grind -lia -linarith (splits:=0)) (by decide +kernel)
noncomputable def Zkt (a:F):F:=if h:a=0 then 0 else Classical.choose (Zmp a h)
theorem Z58 {a:F} (ha:a≠0):a*Zkt a=1:=by
  unfold Zkt
  rw [dif_neg ha]
  exact Classical.choose_spec (Zmp a ha)
theorem Zph {x1 y1 x2 y2:F} (h1:On x1 y1) (h2:On x2 y2):1+dF*x1*x2*y1*y2≠0:=by
  intro h
  refine Zr9 h1 h2 ?_
  generalize dF*x1*x2*y1*y2=e at *
  grind -lia -linarith (splits:=0)
theorem Zpi {x1 y1 x2 y2:F} (h1:On x1 y1) (h2:On x2 y2):1-dF*x1*x2*y1*y2≠0:=by
  intro h
  refine Zr9 h1 h2 ?_
  generalize dF*x1*x2*y1*y2=e at *
  grind -lia -linarith (splits:=0)
structure G where
  x:F
  y:F
  on:On x y
theorem Zs8 {P Q:G} (hx:P.x=Q.x) (hy:P.y=Q.y):P=Q:=by
  cases P; cases Q
  simp only at hx hy
  subst hx; subst hy; rfl
theorem Ztw (a b u v d:F) (h1:b*b-a*a=1+d*a*a*b*b) (h2:v*v-u*u=1+d*u*u*v*v) :
    (b*v+a*u)*(b*v+a*u)*(1+d*a*u*b*v)*(1+d*a*u*b*v)-(a*v+b*u)*(a*v+b*u)*(1-d*a*u*b*v)*(1-d*a*u*b*v)-(1+d*a*u*b*v)*(1+d*a*u*b*v)*(1-d*a*u*b*v)*(1-d*a*u*b*v)-d*(a*v+b*u)*(a*v+b*u)*(b*v+a*u)*(b*v+a*u)=0:=by
  grind -lia -linarith (splits:=0)
theorem Ztv (A B C D i1 i2 d:F) (hB:B*i1=1) (hD:D*i2=1) (h:C*C*B*B-A*A*D*D-B*B*D*D-d*A*A*C*C=0) :
    C*i2*(C*i2)-A*i1*(A*i1)=1+d*(A*i1)*(A*i1)*(C*i2)*(C*i2):=by
  grind -lia -linarith (splits:=0)
noncomputable def Zd3 (P Q:G):G :=
  ⟨(P.x*Q.y+P.y*Q.x)*Zkt (1+dF*P.x*Q.x*P.y*Q.y),(P.y*Q.y+P.x*Q.x)*Zkt (1-dF*P.x*Q.x*P.y*Q.y),
    ⟨Ztv _ _ _ _ _ _ _ (Z58 (Zph P.on Q.on)) (Z58 (Zpi P.on Q.on)) (Ztw P.x P.y Q.x Q.y dF P.on.eq Q.on.eq)⟩⟩
def Zcp:G:=⟨0,1,⟨by decide +kernel⟩⟩
theorem Zmr (P Q:G):Zd3 P Q=Zd3 Q P:=by
  have e1:dF*P.x*Q.x*P.y*Q.y=dF*Q.x*P.x*Q.y*P.y:=by generalize dF=d; grind -lia -linarith (splits:=0)
  refine Zs8 ?_ ?_
  · show (P.x*Q.y+P.y*Q.x)*_=(Q.x*P.y+Q.y*P.x)*_
    rw [e1]; generalize Zkt _=i; grind -lia -linarith (splits:=0)
  · show (P.y*Q.y+P.x*Q.x)*_=(Q.y*P.y+Q.x*P.x)*_
    rw [e1]; generalize Zkt _=i; grind -lia -linarith (splits:=0)
theorem Zpa (a b u v x y d:F) (h1:b*b-a*a=1+d*a*a*b*b) (h2:v*v-u*u=1+d*u*u*v*v) (h3:y*y-x*x=1+d*x*x*y*y):((a*v+b*u)*(1-d*a*u*b*v)*y+(b*v+a*u)*(1+d*a*u*b*v)*x)*((1+d*u*x*v*y)*(1-d*u*x*v*y)+d*(u*y+v*x)*(v*y+u*x)*a*b)-((u*y+v*x)*(1-d*u*x*v*y)*b+(v*y+u*x)*(1+d*u*x*v*y)*a)*((1+d*a*u*b*v)*(1-d*a*u*b*v)+d*(a*v+b*u)*(b*v+a*u)*x*y)=0:=by
  grind -lia -linarith (splits:=0)
theorem Zpb (a b u v x y d:F) (h1:b*b-a*a=1+d*a*a*b*b) (h2:v*v-u*u=1+d*u*u*v*v) (h3:y*y-x*x=1+d*x*x*y*y):((b*v+a*u)*(1+d*a*u*b*v)*y+(a*v+b*u)*(1-d*a*u*b*v)*x)*((1+d*u*x*v*y)*(1-d*u*x*v*y)-d*(u*y+v*x)*(v*y+u*x)*a*b)-((v*y+u*x)*(1+d*u*x*v*y)*b+(u*y+v*x)*(1-d*u*x*v*y)*a)*((1+d*a*u*b*v)*(1-d*a*u*b*v)-d*(a*v+b*u)*(b*v+a*u)*x*y)=0:=by
  grind -lia -linarith (splits:=0)
theorem Zwo (A B C D A2 B2 C2 D2 i1 i2 i3 i4 x1 y1 x3 y3 d j k:F) (hB:B*i1=1) (hD:D*i2=1) (hB2:B2*i3=1) (hD2:D2*i4=1)
    (h:(A*D*y3+C*B*x3)*(B2*D2+d*A2*C2*x1*y1)-(A2*D2*y1+C2*B2*x1)*(B*D+d*A*C*x3*y3)=0) :
    (A*i1*y3+C*i2*x3)*(1+d*(A2*i3)*(C2*i4)*x1*y1)=(A2*i3*y1+C2*i4*x1)*(1+d*(A*i1)*(C*i2)*x3*y3):=by
  grind -lia -linarith (splits:=0)
theorem Zwp (A B C D A2 B2 C2 D2 i1 i2 i3 i4 x1 y1 x3 y3 d j k:F) (hB:B*i1=1) (hD:D*i2=1) (hB2:B2*i3=1) (hD2:D2*i4=1)
    (h:(C*B*y3+A*D*x3)*(B2*D2-d*A2*C2*x1*y1)-(C2*B2*y1+A2*D2*x1)*(B*D-d*A*C*x3*y3)=0) :
    (C*i2*y3+A*i1*x3)*(1-d*(A2*i3)*(C2*i4)*x1*y1)=(C2*i4*y1+A2*i3*x1)*(1-d*(A*i1)*(C*i2)*x3*y3):=by
  grind -lia -linarith (splits:=0)
theorem Z0bc (X Y U V x1 y1 x3 y3 d j k:F) (h:(X*y3+Y*x3)*(1+d*U*V*x1*y1)=(U*y1+V*x1)*(1+d*X*Y*x3*y3)) (hj:(1+d*X*x3*Y*y3)*j=1) (hk:(1+d*x1*U*y1*V)*k=1) :
    (X*y3+Y*x3)*j=(x1*V+y1*U)*k:=by grind -lia -linarith (splits:=0)
theorem Z0bd (X Y U V x1 y1 x3 y3 d j k:F) (h:(Y*y3+X*x3)*(1-d*U*V*x1*y1)=(V*y1+U*x1)*(1-d*X*Y*x3*y3)) (hj:(1-d*X*x3*Y*y3)*j=1) (hk:(1-d*x1*U*y1*V)*k=1) :
    (Y*y3+X*x3)*j=(y1*V+x1*U)*k:=by grind -lia -linarith (splits:=0)
theorem Zlq (P Q R:G):Zd3 (Zd3 P Q) R=Zd3 P (Zd3 Q R):=by
  have b1:=Z58 (Zph P.on Q.on)
  have b2:=Z58 (Zpi P.on Q.on)
  have b3:=Z58 (Zph Q.on R.on)
  have b4:=Z58 (Zpi Q.on R.on)
  refine Zs8 ?_ ?_
  · refine Z0bc _ _ _ _ P.x P.y R.x R.y dF _ _ ?_ (Z58 (Zph (Zd3 P Q).on R.on)) (Z58 (Zph P.on (Zd3 Q R).on))
    exact Zwo _ _ _ _ _ _ _ _ _ _ _ _ P.x P.y R.x R.y dF 0 0 b1 b2 b3 b4 (Zpa P.x P.y Q.x Q.y R.x R.y dF P.on.eq Q.on.eq R.on.eq)
  · refine Z0bd _ _ _ _ P.x P.y R.x R.y dF _ _ ?_ (Z58 (Zpi (Zd3 P Q).on R.on)) (Z58 (Zpi P.on (Zd3 Q R).on))
    exact Zwp _ _ _ _ _ _ _ _ _ _ _ _ P.x P.y R.x R.y dF 0 0 b1 b2 b3 b4 (Zpb P.x P.y Q.x Q.y R.x R.y dF P.on.eq Q.on.eq R.on.eq)
theorem Zi5 (P:G):Zd3 P Zcp=P:=by
  have b1:=Z58 (Zph P.on Zcp.on)
  have b2:=Z58 (Zpi P.on Zcp.on)
  have z1:Zcp.x=0:=rfl
  have z2:Zcp.y=1:=rfl
  refine Zs8 ?_ ?_
  · show (P.x*Zcp.y+P.y*Zcp.x)*Zkt _=P.x
    generalize Zkt (1+dF*P.x*Zcp.x*P.y*Zcp.y)=i at *
    rw [z1,z2] at *
    generalize dF=d at *
    grind -lia -linarith (splits:=0)
  · show (P.y*Zcp.y+P.x*Zcp.x)*Zkt _=P.y
    generalize Zkt (1-dF*P.x*Zcp.x*P.y*Zcp.y)=i at *
    rw [z1,z2] at *
    generalize dF=d at *
    grind -lia -linarith (splits:=0)
theorem Zp5 (P:G):Zd3 Zcp P=P:=by rw [Zmr,Zi5]
noncomputable def Zil:Nat→G→G
  | 0,_=>Zcp
  | n+1,P=>Zd3 (Zil n P) P
theorem Zkv (m n:Nat) (P:G):Zil (m+n) P=Zd3 (Zil m P) (Zil n P):=by
  induction n with
  | zero=>exact (Zi5 _).symm
  | succ n ih =>
    show Zd3 (Zil (m+n) P) P=Zd3 (Zil m P) (Zd3 (Zil n P) P)
    rw [ih,Zlq]
theorem Zf4 (m n:Nat) (P:G):Zil (m*n) P=Zil m (Zil n P):=by
  induction m with
  | zero=>rw [Nat.zero_mul]; rfl
  | succ m ih=>rw [Nat.succ_mul,Zkv,ih]; rfl
def fi (n:Int):F:=⟨(n%57896044618658097711785492504343953926634992332820282019728792003956564819949).toNat,by
  show _<57896044618658097711785492504343953926634992332820282019728792003956564819949
  omega⟩
theorem Zbh (n:Int):((fi n).val:Int)=n%57896044618658097711785492504343953926634992332820282019728792003956564819949:=by
  show (((n%_).toNat:Nat):Int)=_
  omega
theorem Ztx:(pN:Int)=57896044618658097711785492504343953926634992332820282019728792003956564819949:=by decide +kernel
theorem Z0bb {a b:Int}:fi a=fi b↔a%57896044618658097711785492504343953926634992332820282019728792003956564819949=b%57896044618658097711785492504343953926634992332820282019728792003956564819949:=by
  constructor
  · intro h
    rw [← Zbh,← Zbh,h]
  · intro h
    apply Fin.ext
    have:((fi a).val:Int)=((fi b).val:Int):=by rw [Zbh,Zbh,h]
    omega
theorem Zdb (a b:Int):fi (a+b)=fi a+fi b:=by
  apply Fin.ext
  rw [Fin.val_add]
  apply Int.ofNat_inj.1
  rw [Zbh,Int.natCast_emod,Int.natCast_add,Zbh,Zbh,Ztx]
  exact Int.add_emod _ _ _
theorem Z6s (a b:Int):fi (a*b)=fi a*fi b:=by
  apply Fin.ext
  rw [Fin.val_mul]
  apply Int.ofNat_inj.1
  rw [Zbh,Int.natCast_emod,Int.natCast_mul,Zbh,Zbh,Ztx]
  exact Int.mul_emod _ _ _
theorem fi_1:fi 1=1:=by decide +kernel
theorem Zeg (a b:Int):fi (a-b)=fi a-fi b:=by
  have h:=Zdb (a-b) b
  rw [Int.sub_add_cancel] at h
  grind -lia -linarith (splits:=0)
theorem Zbg (a:Int):fi (a%57896044618658097711785492504343953926634992332820282019728792003956564819949)=fi a:=by
  rw [Z0bb]; exact Int.emod_emod_of_dvd _ (Int.dvd_refl _)
def fv (x:F):Int:=(x.val:Int)
theorem Zri (x:F):0≤fv x∧fv x<57896044618658097711785492504343953926634992332820282019728792003956564819949:=by
  have:=x.isLt
  have h:=Ztx
  unfold fv
  omega
theorem Zwq (n:Int):fv (fi n)=n%57896044618658097711785492504343953926634992332820282019728792003956564819949:=Zbh n
def pwF (x:F):Nat→F
  | 0=>1
  | n+1=>pwF x n*x
theorem Zl8 (x:F):pwF x 0=1:=rfl
theorem Zdj (x:F) (n:Nat):pwF x (n+1)=pwF x n*x:=rfl
theorem Zo4 (x:F) (m n:Nat):pwF x (m+n)=pwF x m*pwF x n:=by
  induction n with
  | zero=>rw [Nat.add_zero,Zl8]; generalize pwF x m=z; grind -lia -linarith (splits:=0)
  | succ n ih=>rw [← Nat.add_assoc,Zdj,Zdj,ih]; generalize pwF x m=z; generalize pwF x n=w; grind -lia -linarith (splits:=0)
theorem Zu3 (x:F) (n:Nat):(pwF x n).val=x.val^n%pN:=by
  induction n with
  | zero=>rw [Zl8,Nat.pow_zero]; decide +kernel
  | succ n ih=>rw [Zdj,Fin.val_mul,ih,Nat.mod_mul_mod,Nat.pow_succ]
theorem Ztg {x:F} {n:Nat} (hn:n=pN-1) (hx:x≠0):pwF x n=1:=by
  have h0:x.val%pN≠0:=by
    intro h
    apply hx
    rw [Nat.mod_eq_of_lt x.isLt] at h
    exact Fin.ext h
  have h:=Zn9 h0
  rw [← hn] at h
  unfold One at h
  apply Fin.ext
  rw [Zu3,h]
  decide +kernel
theorem Ztm {x:F} {n:Nat} (hn:n+2=pN) (hx:x≠0):x*pwF x n=1:=by
  have h:=Ztg (n:=n+1) (by omega) hx
  rw [Zdj] at h
  rw [← h]
  generalize pwF x n=z
  grind -lia -linarith (splits:=0)
end Go.Proofs.YtiflckckekjbnaaGreatDoor
