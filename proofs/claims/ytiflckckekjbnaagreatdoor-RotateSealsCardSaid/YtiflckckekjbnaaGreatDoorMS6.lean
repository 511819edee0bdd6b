/- Texts of a proof, one behind the other: L16 L17 LZ F0 F1 F2 F3 F4 F5 F6 C1 C2 C3 G1 G2 V1 N1 N2 N3 N7 N8 N9 N10 N11. -/
import Derived.Test.YtiflckckekjbnaaGreatDoorMS5
import Derived.KernelRfl
namespace Go.Proofs.YtiflckckekjbnaaGreatDoor
open Go Go.Sx Go.RowKit
set_option linter.all false
set_option maxHeartbeats 400000
set_option maxRecDepth 100000
def Zgs (p0:Int):Option ((Bool×List Int)) :=
 br (((decide (p0<1))||(decide (p0>255)))) (
 some (true,[])
 ) (
 bnd (IntKind.wrap .u8 p0) fun z6 =>
 chk (decide (0<([70,66,1,z6]:List (Int)).length)) <|
 some (false,([70,66,1,z6]:List (Int)))
 )
theorem Zl4 {W:World} {r:(Bool×List Int)} {p0:Int} (h:Zgs p0=some r)  :
    Calls Tryz.prog 76 [.int .i64 (p0)].toArray W (Zc0 W [] (fun v Ms=>∃ (u0:Value) (M0:List Zf),v=u0∧Ms = [.all M0]∧Z0b (El.int .u8) u0 M0 r.2∧Zo2 u0=r.1)):=by
 unfold Zgs at h
 refine Z02 mo ok76 rfl (Zgo _) ?_
 refine Z0<|Z2<|Z7 rfl<|Z1<|Z0<|Z0<|Z2<|Z7 rfl<|Z6 _ (Z9 rfl rfl rfl)<|Z7 rfl<|Zql rfl rfl rfl (fun hg1=>Zie rfl _ (Z0u rfl) (Zie rfl _ (Z9 rfl rfl rfl) (Ze9))) (fun hg1=>rfl) rfl<|Z1<|Z07 h rfl (fun h=>?_) (fun h=>?_)
 ·refine Z0<|Z2<|Z7 rfl<|Z1<|Zm ?_
  revert h; refine Zw fun h=>?_
  subst h
  exact ⟨_,_,(.cons (.tmp rfl) .nil),(.no .nil),⟨_,rfl,⟨(.slice none 0 0),[],rfl,rfl,Z59,rfl⟩⟩⟩
 ·refine Zk<|Z0<|bH h fun z6 ez6 h=>Z2<|Z7 rfl<|Z6 _ (iz ez6 (Z3k rfl))<|Zd (Z5h (E:=(El.int .u8)) (xs:=[70,66,1,z6]) (.one rfl rfl rfl (.one rfl rfl rfl (.one rfl rfl rfl (.one rfl rfl rfl BdR.nil)))) (.cons (p:=[.one (.int .u8 (70))]) rfl (.cons (p:=[.one (.int .u8 (66))]) rfl (.cons (p:=[.one (.int .u8 (1))]) rfl (.cons (p:=[.one (.int .u8 (z6))]) rfl .nil)))) rfl fun v7 ms8 O9=>Z7 rfl<|Z1<|Zm<|cH h fun c10 h=>?_)
  revert h; refine Zw fun h=>?_
  subst h
  exact ⟨_,_,(.cons (.tmp rfl) .nil),(.all .here .nil),⟨_,rfl,⟨v7,ms8,rfl,rfl,O9,(Shp.notnil (Shp.own O9) c10)⟩⟩⟩
def Z6a (k29:(Int)→Option (Int)) (k45:(Int)→(Int)→Option (Int)) (i43:Int) (i44:Int):Option (Int) :=
 br ((i44 != 0)) (
 bnd (IntKind.wrap .i64 (i43+1)) fun z50 =>
 bnd (Zn .u32 i44 1) fun z52 =>
 k45 z50 z52
 ) (
 k29 i43
 )
def Z3d (k29:(Int)→Option (Int)):Nat→(Int)→(Int)→Option (Int)
  | 0,_,_=>none
  | n+1,i43,i44=>Z6a k29 (Z3d k29 n) i43 i44
def Z7y:Option (Int) :=
 bnd (Z4 .xor .u32 4294967295 0) fun z4 =>
 jn (fun (i28:Int)=>some i28) fun k29=>Z3d k29 big 0 z4
theorem Zd2 {W:World} {r:Int} (h:Z7y=some r)  :
    Calls Tryz.prog 199 [].toArray W (Z2s W (.int .i64 (r))):=by
 unfold Z7y at h
 refine Zc mo Z0zv rfl ?_
 refine Z0<|Z2<|Z7 rfl<|Z1<|Z0<|Z2<|Z7 rfl<|Z1<|Z0<|Z0<|bH h fun z4 ez4 h=>Z2<|Z6 _ (Z3k rfl)<|Z6 _ (iz ez4 (Zyr rfl rfl))<|Z7 rfl<|Z1<|jH h fun k29 qk29 h=>Zh (G:=fun t m=>∃ (i28:Int),k29 i28=some r∧Fit [(1,.int .i64 (i28))] [] t m) ?_ ?_
 ·refine Za<|Zo (fun n46 t m=>∃ (i43:Int) (i44:Int),Z3d k29 n46 i43 i44=some r∧Fit [(1,.int .i64 (i43)),(2,.int .u32 (i44))] [] t m) big ?_ ?_
  ·exact ⟨0,z4,h,⟨⟨rfl,rfl,trivial⟩,.nil⟩⟩
  ·rintro n46 t m ⟨i43,i44,h,hF⟩
   refine Zg hF ?_
   clear hF
   rcases n46 with _ | n46
   · exact Z05 h
   have h:Z6a k29 (Z3d k29 n46) i43 i44=some r:=h
   unfold Z6a at h
   obtain ⟨k45,qk45⟩ : ∃ k,k=Z3d k29 n46:=⟨_,rfl⟩
   try rw [← qk45] at h
   refine Z0<|Z0<|Z2<|Z7 rfl<|Z6 _ (Z9 rfl rfl rfl)<|Z1<|Z07 h rfl (fun h=>?_) (fun h=>?_)
   ·refine Zk<|Z0<|Za<|bH h fun z50 ez50 h=>Z2<|Z7 rfl<|Z6 _ (iz ez50 (Z9 rfl rfl rfl))<|Z7 rfl<|Z1<|bH h fun z52 ez52 h=>Z2<|Z7 rfl<|Z6 _ (iz ez52 (Z4i rfl rfl (by decide)))<|Z7 rfl<|Z1 ?_
    rw [qk45] at h
    exact ⟨n46,Nat.lt_succ_self _,z50,z52,h,⟨⟨rfl,rfl,trivial⟩,.nil⟩⟩
   ·exact Zv _ rfl<|⟨i43,h,⟨⟨rfl,trivial⟩,.nil⟩⟩
 ·rintro t m ⟨i28,h,hF⟩
  refine Zg hF ?_
  clear hF
  subst qk29
  refine Z0<|Z2<|Z7 rfl<|Z7 rfl<|Z1<|Zm ?_
  revert h; refine Zw fun h=>?_
  subst h
  exact ⟨_,(.cons (.tmp rfl) .nil),rfl⟩
def Z56 (k65:(List (Int))→OL) (k102:(Int)→(List (Int))→(Int)→OL) (i96:Int) (l99:List (Int)) (i101:Int):OL :=
 br ((decide (i101≥0))) (
 bnd (IntKind.wrap .u8 i96) fun z107 =>
 chk (inB i101 l99.length) <|
 bnd (Zcp 0 l99 (i101).toNat z107) fun l109 =>
 bnd (Zn .u32 i96 8) fun z113 =>
 bnd (IntKind.wrap .i64 (i101-1)) fun z115 =>
 k102 z113 l109 z115
 ) (
 k65 l99
 )
def Z2j (k65:(List (Int))→OL):Nat→(Int)→(List (Int))→(Int)→OL
  | 0,_,_,_=>none
  | n+1,i96,l99,i101=>Z56 k65 (Z2j k65 n) i96 l99 i101
def Z3p (p0:Int):OL :=
 opt (Z7y) fun y3 =>
 bnd (IntKind.wrap .i64 (Int.tdiv y3 8)) fun z4 =>
 chk (mkB 1 z4 z4) <|
 bnd (IntKind.wrap .i64 (((List.replicate (z4).toNat 0:List (Int)).length:Int)-1)) fun z10 =>
 jn (fun (l63:List (Int))=>some l63) fun k65=>Z2j k65 big p0 (List.replicate (z4).toNat 0:List (Int)) z10
theorem Zb9 {W:World} {r:(List Int)} {p0:Int} (h:Z3p p0=some r)  :
    Calls Tryz.prog 148 [.int .u32 (p0)].toArray W (Zc0 W [] (fun v Ms=>∃ (u0:Value) (M0:List Zf),v=u0∧Ms = [.all M0]∧Z0b (El.int .u8) u0 M0 r)):=by
 unfold Z3p at h
 refine Z02 mo Z0yp rfl (Zgo _) ?_
 refine Z0<|Z2<|Z7 rfl<|Z1<|Z0<|oH h fun y3 ey3 h=>bH h fun z4 ez4 h=>cH h fun c5 h=>Z2<|Z6 _ (Z0g rfl (Zd2 ey3))<|Z6 _ (iz ez4 (Z98 rfl rfl (by decide)))<|Zd (Zfj (E:=(El.int .u8)) rfl rfl rfl c5 fun v6 ms7 O8=>Z7 rfl<|Z1<|Z0<|Z0<|bH h fun z10 ez10 h=>Z2<|Z7 rfl<|Z6 _ (Z25 rfl (Shp.own O8))<|Z6 _ (iz ez10 (Z9 rfl rfl rfl))<|Z7 rfl<|Z1<|jH h fun k65 qk65 h=>Zh (G:=fun t m=>∃ (l63:List (Int)) (v61:Value) (ms62:List Zf),k65 l63=some r∧Z0b (El.int .u8) v61 ms62 l63∧Fit [(3,v61)] (ms62 ++ []) t m) ?_ ?_)
 ·refine Za<|Zo (fun n103 t m=>∃ (i96:Int) (l99:List (Int)) (i101:Int) (v97:Value) (ms98:List Zf),Z2j k65 n103 i96 l99 i101=some r∧Z0b (El.int .u8) v97 ms98 l99∧Fit [(0,.int .u32 (i96)),(3,v97),(4,.int .i64 (i101))] (ms98 ++ []) t m) big ?_ ?_
  ·exact ⟨p0,(List.replicate (z4).toNat 0:List (Int)),z10,v6,ms7,h,O8,⟨⟨rfl,rfl,rfl,trivial⟩,(.all .here .nil)⟩⟩
  ·rintro n103 t m ⟨i96,l99,i101,v97,ms98,h,O100,hF⟩
   refine Zg hF ?_
   clear hF
   rcases n103 with _ | n103
   · exact Z05 h
   have h:Z56 k65 (Z2j k65 n103) i96 l99 i101=some r:=h
   unfold Z56 at h
   obtain ⟨k102,qk102⟩ : ∃ k,k=Z2j k65 n103:=⟨_,rfl⟩
   try rw [← qk102] at h
   refine Z0<|Z0<|Z2<|Z7 rfl<|Z6 _ (Z9 rfl rfl rfl)<|Z1<|Z07 h rfl (fun h=>?_) (fun h=>?_)
   ·refine Zk<|Z0<|Za<|Z0<|bH h fun z107 ez107 h=>cH h fun c108 h=>bH h fun l109 el109 h=>Z2<|Z7 rfl<|Z7 rfl<|Z7 rfl<|Z6 _ (iz ez107 (Z3k rfl))<|Z6 _ (Z32 rfl rfl (Shp.own O100) c108)<|Zd (Zg1 (E:=(El.int .u8)) el109 O100 .here rfl rfl rfl (Z01 c108) fun ms110 O111=>Z1<|bH h fun z113 ez113 h=>Z2<|Z7 rfl<|Z6 _ (iz ez113 (Z4i rfl rfl (by decide)))<|Z7 rfl<|Z1<|bH h fun z115 ez115 h=>Z2<|Z7 rfl<|Z6 _ (iz ez115 (Z9 rfl rfl rfl))<|Z7 rfl<|Z1 ?_)
    rw [qk102] at h
    exact ⟨n103,Nat.lt_succ_self _,z113,l109,z115,v97,ms110,h,O111,⟨⟨rfl,rfl,rfl,trivial⟩,(.all .here .nil)⟩⟩
   ·exact Zv _ rfl<|⟨l99,v97,ms98,h,O100,⟨⟨rfl,trivial⟩,(.all .here .nil)⟩⟩
 ·rintro t m ⟨l63,v61,ms62,h,O64,hF⟩
  refine Zg hF ?_
  clear hF
  subst qk65
  refine Z0<|Z2<|Z7 rfl<|Z7 rfl<|Z1<|Zm ?_
  revert h; refine Zw fun h=>?_
  subst h
  exact ⟨_,_,(.cons (.tmp rfl) .nil),(.all .here .nil),⟨_,rfl,⟨v61,ms62,rfl,rfl,O64⟩⟩⟩
def Z7u (p0:Z11) (p1:Int):Option (Z11) :=
 opt (Z3p p1) fun y2 =>
 opt (Z4l p0 y2) fun y8 =>
 some y8
theorem Zf6 {W:World} {r:Z11} {p0:Z11} {p1:Int} {v0:Value} {M0:List Zf} {b:Nat} {T:TypeId} (h:Z7u p0 p1=some r) (h0:Sat W (b::M0.map (·.b)) (ck b T [.one (v0),.one (.int .i64 (p0.gfault))]::(M0 ++ [])) W) (O0:Z0b (El.int .u8) v0 M0 p0.gbytes) :
    Calls Tryz.prog 77 [.pointer (some ⟨b,0,none⟩),.int .u32 (p1)].toArray W (Zc0 W (b::M0.map (·.b)) (fun v Ms=>∃ (uw:Value) (Mw:List Zf),v = .tuple #[]∧Ms = [.one (ck b T [.one (uw),.one (.int .i64 (r.gfault))]),.all Mw]∧Z0b (El.int .u8) uw Mw r.gbytes)):=by
 unfold Z7u at h
 refine Z02 mo ok77 rfl h0 ?_
 refine oH h fun y2 ey2 h=>oH h fun y8 ey8 h=>Z2<|Z7 rfl<|Z7 rfl<|Zd (Zz rfl (fun w hw=>Zb9  ey2 ) fun v3 Msv3 R4=>?_)
 obtain ⟨_,ms6,rfl,rfl,O7⟩:=R4
 refine Zd (Z2i (mS:=_::M0) rfl (Zbj (.app .here) (.app .here)) (fun w hw=>Z9d  ey8 (Z7r hw (Zbj (.app .here) (.app .here))) O0 ⟨(Z0a O7 .here) w hw,(Zhq (Zd7 (E:=(El.int .u8)) O7 .here .here hw) (Zgw (E:=(El.int .u8)) O7 .here (.there .here) hw))⟩) fun v9 Msv9 R10=>?_)
 obtain ⟨v11,ms12,rfl,rfl,O13⟩:=R10
 refine Z1 ?_
 revert h; refine Zw fun h=>?_
 subst h
 exact ⟨_,_,.nil,(.one .here (.all .here .nil)),⟨_,rfl,⟨v11,ms12,rfl,rfl,O13⟩⟩⟩
def Z6o (p0:Z11):Option ((List Int)×Int×Z11) :=
 br ((p0.gfault != 0)) (
 some ([],p0.gfault,p0)
 ) (
 chk (decide ((([]:List (Int)).length+p0.gbytes.length)*1≤140737488355328)) <|
 bnd (([]:List (Int))++p0.gbytes) fun l10 =>
 some (l10,0,p0)
 )
theorem Zek {W:World} {r:(List Int)×Int×Z11} {p0:Z11} {v0:Value} {M0:List Zf} {b:Nat} {T:TypeId} (h:Z6o p0=some r) (h0:Sat W (b::M0.map (·.b)) (ck b T [.one (v0),.one (.int .i64 (p0.gfault))]::(M0 ++ [])) W) (O0:Z0b (El.int .u8) v0 M0 p0.gbytes) :
    Calls Tryz.prog 78 [.pointer (some ⟨b,0,none⟩)].toArray W (Zc0 W (b::M0.map (·.b)) (fun v Ms=>∃ (u0:Value) (M0:List Zf) (uw:Value) (Mw:List Zf),v = .tuple #[u0,.int .i64 (r.2.1)]∧Ms = [.all M0,.one (ck b T [.one (uw),.one (.int .i64 (r.2.2.gfault))]),.all Mw]∧Z0b (El.int .u8) u0 M0 r.1∧Z0b (El.int .u8) uw Mw r.2.2.gbytes)):=by
 unfold Z6o at h
 refine Z02 mo ok78 rfl h0 ?_
 refine Z0<|Z2<|Z7 rfl<|Z7 rfl<|Z1<|Z0<|Z0<|Z2<|Z7 rfl<|Z6 _ (Z4h rfl)<|Z6 _ (Z4g rfl)<|Z6 _ (Z1a rfl .here rfl)<|Z6 _ (Z9 rfl rfl rfl)<|Z1<|Z07 h rfl (fun h=>?_) (fun h=>?_)
 ·refine Z0<|Zu<|Z8 _ (Z0u rfl)<|Z8 _ (Z4h rfl)<|Z8 _ (Z4g rfl)<|Z8 _ (Z0u rfl)<|Zq _ (Z1a rfl .here rfl)<|Z8 _ (Z0u rfl)<|Z03<|Zm ?_
  revert h; refine Zw fun h=>?_
  subst h
  exact ⟨_,_,(.cons (.tmp rfl) (.cons (.tmp rfl) .nil)),(.no (.one .here (.all .here .nil))),⟨_,rfl,⟨(.slice none 0 0),[],v0,M0,rfl,rfl,Z59,O0⟩⟩⟩
 ·refine Zk<|Z0<|cH h fun c9 h=>bH h fun l10 el10 h=>Z2<|Zd (Z5h (E:=(El.int .u8)) (xs:=[]) BdR.nil .nil rfl fun v6 ms7 O8=>Z7 rfl<|Z6 _ (Z4h rfl)<|Z6 _ (Z4g rfl)<|Z6 _ (Z1a rfl (.app .here) rfl)<|Zd (Z3f (E:=(El.int .u8)) el10 rfl O8 .here rfl (Z0a O0 (.app (.there .here))) c9 fun v11 ms12 O13=>Z7 rfl<|Z7 rfl<|Z1<|Zm ?_))
  revert h; refine Zw fun h=>?_
  subst h
  exact ⟨_,_,(.cons (.tmp rfl) (.cons (.tmp rfl) .nil)),(.all .here (.one .here (.all .here .nil))),⟨_,rfl,⟨v11,ms12,v0,M0,rfl,rfl,O13,O0⟩⟩⟩
structure Z1q where
  gEpoch:Int
  gKey:List Int
  gSig:List Int
def Z77 (p0:Z1q):Option ((Bool×List Int)) :=
 br (((decide (p0.gEpoch<1))||(decide (p0.gEpoch>64)))) (
 some (true,[])
 ) (
 opt (Z8e ) fun y7 =>
 opt (Zgs 11) fun y16 =>
 opt (Z3n y7 y16.2) fun y23 =>
 bnd (IntKind.wrap .u32 p0.gEpoch) fun z30 =>
 opt (Z7u y23 z30) fun y31 =>
 opt (Z3n y31 (tk p0.gKey 0 32)) fun y38 =>
 opt (Z6o y38) fun y45 =>
 chk (decide (0<y45.1.length)) <|
 some (false,y45.1)
 )
theorem Z7p {W:World} {r:(Bool×List Int)} {p0:Z1q} (h:Z77 p0=some r)  :
    Calls Tryz.prog 29 [agg [.one (.int .i64 (p0.gEpoch)),.ints .u8 32 (p0.gKey),.ints .u8 64 (p0.gSig)]].toArray W (Zc0 W [] (fun v Ms=>∃ (u0:Value) (M0:List Zf),v=u0∧Ms = [.all M0]∧Z0b (El.int .u8) u0 M0 r.2∧Zo2 u0=r.1)):=by
 unfold Z77 at h
 refine Z02 mo ok29 rfl (Zgo _) ?_
 refine Z0<|Z2<|Zd (Z0e (s:=[.one (.int .i64 (p0.gEpoch)),.ints .u8 32 (p0.gKey),.ints .u8 64 (p0.gSig)]) rfl fun b2 hb2=>Z7 rfl<|Z1<|Z0<|Z0<|Z2<|Z6 _ (Z4g rfl)<|Z6 _ (Z1a rfl .here rfl)<|Z6 _ (Z9 rfl rfl rfl)<|Z7 rfl<|Zql rfl rfl rfl (fun hg1=>Zie rfl _ (Z4g rfl) (Zie rfl _ (Z1a rfl .here rfl) (Zie rfl _ (Z9 rfl rfl rfl) (Ze9)))) (fun hg1=>rfl) rfl<|Z1<|Z07 h rfl (fun h=>?_) (fun h=>?_))
 ·refine Z0<|Z2<|Z7 rfl<|Z1<|Zm ?_
  revert h; refine Zw fun h=>?_
  subst h
  exact ⟨_,_,(.cons (.tmp rfl) .nil),(.no .nil),⟨_,rfl,⟨(.slice none 0 0),[],rfl,rfl,Z59,rfl⟩⟩⟩
 ·refine Zk<|Z0<|oH h fun y7 ey7 h=>Z2<|Zd (Zz rfl (fun w hw=>Zfv  ey7 ) fun v8 Msv8 R9=>?_)
  obtain ⟨b10,T11,v12,ms13,rfl,rfl,O14⟩:=R9
  refine Z7 rfl<|Z1<|Z0<|oH h fun y16 ey16 h=>oH h fun y23 ey23 h=>Z2<|Z7 rfl<|Zd (Zz rfl (fun w hw=>Zl4  ey16 ) fun v17 Msv17 R18=>?_)
  obtain ⟨_,ms20,rfl,rfl,O21,N22⟩:=R18
  refine Zd (Z2i (mS:=_::ms13) rfl (Zbj (.app .here) (.app .here)) (fun w hw=>Z7x  ey23 (Z7r hw (Zbj (.app .here) (.app .here))) O14 ⟨(Z0a O21 .here) w hw,(Zhq (Zd7 (E:=(El.int .u8)) O21 .here .here hw) (Zgw (E:=(El.int .u8)) O21 .here (.there .here) hw))⟩) fun v24 Msv24 R25=>?_)
  obtain ⟨v26,ms27,rfl,rfl,O28⟩:=R25
  refine Z1<|Z0<|bH h fun z30 ez30 h=>oH h fun y31 ey31 h=>Z2<|Z7 rfl<|Z6 _ (Z4g rfl)<|Z6 _ (Z1a rfl (.there (.app (.app .here))) rfl)<|Z6 _ (iz ez30 (Z3k rfl))<|Zd (Z2i (mS:=_::ms27) rfl (Zbj .here .here) (fun w hw=>Zf6  ey31 (Z7r hw (Zbj .here .here)) O28) fun v32 Msv32 R33=>?_)
  obtain ⟨v34,ms35,rfl,rfl,O36⟩:=R33
  refine Z1<|Z0<|oH h fun y38 ey38 h=>Z2<|Z7 rfl<|Z6 _ (Z4g rfl)<|Z6 _ (Z7c rfl .no .no .no (by simp) (by decide))<|Zd (Z2i (mS:=_::ms35) rfl (Zbj .here .here) (fun w hw=>Z7x  ey38 (Z7r hw (Zbj .here .here)) O36 ⟨(Z1g (s:=[.one (.int .i64 (p0.gEpoch)),.ints .u8 32 (p0.gKey),.ints .u8 64 (p0.gSig)]) (N:=32) (k:=.u8) (base:=1) (lo:=0) (hi:=32) (mz:=32) (.there (.app (.app .here))) rfl (by decide)) w hw,(Zhq (Zlb (.there (.app (.app .here))) .here hw Z95) (Zlc (.there (.app (.app .here))) (.there .here) hw Z95))⟩) fun v39 Msv39 R40=>?_)
  obtain ⟨v41,ms42,rfl,rfl,O43⟩:=R40
  refine Z1<|Z0<|oH h fun y45 ey45 h=>Z2<|Z7 rfl<|Zd (Z2i (mS:=_::ms42) rfl (Zbj .here .here) (fun w hw=>Zek  ey45 (Z7r hw (Zbj .here .here)) O43) fun v46 Msv46 R47=>?_)
  obtain ⟨v48,ms49,v51,ms52,rfl,rfl,O50,O53⟩:=R47
  refine Z7 rfl<|Z6 _ (Z37 rfl rfl)<|Z6 _ (Z37 rfl rfl)<|Z7 rfl<|Z7 rfl<|Z1<|Z0<|Z2<|Z7 rfl<|Z7 rfl<|Z1<|Zm<|cH h fun c55 h=>?_
  revert h; refine Zw fun h=>?_
  subst h
  exact ⟨_,_,(.cons (.tmp rfl) .nil),(.all .here .nil),⟨_,rfl,⟨v48,ms49,rfl,rfl,O50,(Shp.notnil (Shp.own O50) c55)⟩⟩⟩
def Zai (p0:List Int) (p1:Int) (p2:List Int):Option (Z1q×Bool) :=
 opt (Z77 (⟨p1,p2,(List.replicate 64 0)⟩:Z1q)) fun y8 =>
 br (y8.1) (
 some ((⟨0,(List.replicate 32 0),(List.replicate 64 0)⟩:Z1q),false)
 ) (
 opt (Zeh p0 y8.2) fun y19 =>
 some ((⟨p1,p2,y19⟩:Z1q),true)
 )
theorem Zif {W:World} {r:Z1q×Bool} {p0:List Int} {p1:Int} {p2:List Int} (h:Zai p0 p1 p2=some r) (hG:Globs W) :
    Calls Tryz.prog 27 [agg [.ints .u8 32 (p0)],.int .i64 (p1),agg [.ints .u8 32 (p2)]].toArray W (Z2s W (.tuple #[agg [.one (.int .i64 (r.1.gEpoch)),.ints .u8 32 (r.1.gKey),.ints .u8 64 (r.1.gSig)],.bool (r.2)])):=by
 unfold Zai at h
 refine Zc mo ok27 rfl ?_
 refine Z0<|Z2<|Zd (Z0e (s:=[.ints .u8 32 (p0)]) rfl fun b2 hb2=>Zd (Z0e (s:=[.ints .u8 32 (p2)]) rfl fun b3 hb3=>Zd (Zr fun b4 hb4=>Z7 rfl<|Z1<|Z0<|Z2<|Z7 rfl<|Z6 _ (Z00 (p:=[.ints .u8 32 (p2)]) rfl (.there .here) rfl)<|Z6 _ (Zgu (q:=[.one (.int .i64 (p1)),.ints .u8 32 (p2),.ints .u8 64 ((List.replicate 64 0))]) (.one rfl rfl rfl (.agg rfl rfl rfl BdR.nil)))<|Zd (Zr fun b6 hb6=>Zd (Zp (q:=[.one (.int .i64 (p1)),.ints .u8 32 (p2),.ints .u8 64 ((List.replicate 64 0))]) rfl rfl rfl rfl rfl .here<|Z1<|Z0<|oH h fun y8 ey8 h=>Z2<|Z6 _ (Z00 (p:=[.one (.int .i64 (p1)),.ints .u8 32 (p2),.ints .u8 64 ((List.replicate 64 0))]) rfl .here rfl)<|Zd (Zz rfl (fun w hw=>Z7p (p0:=(⟨p1,p2,(List.replicate 64 0)⟩:Z1q)) ey8 ) fun v9 Msv9 R10=>?_))))))
 obtain ⟨_,ms12,rfl,rfl,O13,N14⟩:=R10
 refine Z7 rfl<|Z1<|Z0<|Z0<|Z2<|Z7 rfl<|Z6 _ (Zvz rfl (Shp.own O13) N14)<|Z1<|Z07 h rfl (fun h=>?_) (fun h=>?_)
 ·refine Z0<|Z2<|Z6 _ (Zgu (q:=[.one (.int .i64 (0)),.ints .u8 32 ((List.replicate 32 0)),.ints .u8 64 ((List.replicate 64 0))]) BdR.nil)<|Zd (Zp (q:=[.one (.int .i64 (0)),.ints .u8 32 ((List.replicate 32 0)),.ints .u8 64 ((List.replicate 64 0))]) rfl rfl rfl rfl rfl (.app (.there .here))<|Z7 rfl<|Z1<|Zm ?_)
  revert h; refine Zw fun h=>?_
  subst h
  exact ⟨_,(.cons (.agg rfl (.app (.there .here)) rfl) (.cons (.tmp rfl) .nil)),rfl⟩
 ·refine Zk<|Z0<|oH h fun y19 ey19 h=>Z2<|Z6 _ (Z00 (p:=[.ints .u8 32 (p0)]) rfl (.app (.there (.there (.there .here)))) rfl)<|Z7 rfl<|Z6 _ (Z08 rfl (fun w hw=>Zl3 ey19 (hG.at hw (by simp)) ((Z0a O13 .here) w hw)))<|Z6 _ (Z4g rfl)<|Zd (Zp (q:=[.one (.int .i64 (p1)),.ints .u8 32 (p2),.ints .u8 64 (y19)]) rfl rfl rfl rfl rfl (.app .here)<|Z1<|Z0<|Z2<|Z6 _ (Z00 (p:=[.one (.int .i64 (p1)),.ints .u8 32 (p2),.ints .u8 64 (y19)]) rfl (.app .here) rfl)<|Zd (Zp (q:=[.one (.int .i64 (p1)),.ints .u8 32 (p2),.ints .u8 64 (y19)]) rfl rfl rfl rfl rfl (.app (.there .here))<|Z7 rfl<|Z1<|Zm ?_))
  revert h; refine Zw fun h=>?_
  subst h
  exact ⟨_,(.cons (.agg rfl (.app (.there .here)) rfl) (.cons (.tmp rfl) .nil)),rfl⟩
structure Zag where
  gB:List Int
  gE:Int
def Z9q (p0:Zag) (p1:List Int):Option (Zag) :=
 br ((p0.gE==0)) (
 chk (decide ((([]:List (Int)).length+p0.gB.length)*1≤140737488355328)) <|
 bnd (([]:List (Int))++p0.gB) fun l6 =>
 chk (decide ((l6.length+p1.length)*1≤140737488355328)) <|
 bnd (l6++p1) fun l12 =>
 some (⟨l12,p0.gE⟩:Zag)
 ) (
 some p0
 )
theorem Ze6 {W:World} {r:Zag} {p0:Zag} {p1:List Int} {v0:Value} {M0:List Zf} {v1:Value} {b:Nat} {T:TypeId} (h:Z9q p0 p1=some r) (h0:Sat W (b::M0.map (·.b)) (ck b T [.one (v0),.one (.int .i64 (p0.gE))]::(M0 ++ [])) W) (O0:Z0b (El.int .u8) v0 M0 p0.gB) (A1:Z4y (El.int .u8) W v1 p1∧Z8f v1 p1 (b::M0.map (·.b))) :
    Calls Tryz.prog 149 [.pointer (some ⟨b,0,none⟩),v1].toArray W (Zc0 W (b::M0.map (·.b)) (fun v Ms=>∃ (uw:Value) (Mw:List Zf),v = .tuple #[]∧Ms = [.one (ck b T [.one (uw),.one (.int .i64 (r.gE))]),.all Mw]∧Z0b (El.int .u8) uw Mw r.gB)):=by
 unfold Z9q at h
 refine Z02 mo Z0yq rfl h0 ?_
 refine Z0<|Z2<|Z7 rfl<|Z6 _ (Z4h rfl)<|Z6 _ (Z4g rfl)<|Z6 _ (Z1a rfl .here rfl)<|Z6 _ (Z9 rfl rfl rfl)<|Z1<|Z07 h rfl (fun h=>?_) (fun h=>?_)
 ·refine Z0<|Z2<|Z7 rfl<|Z1<|Z0<|cH h fun c5 h=>bH h fun l6 el6 h=>Z2<|Z7 rfl<|Z7 rfl<|Z6 _ (Z4h rfl)<|Z6 _ (Z4g rfl)<|Z6 _ (Z1a rfl .here rfl)<|Zd (Z3f (E:=(El.int .u8)) el6 rfl Z59 .here rfl (Z0a O0 (.there .here)) c5 fun v7 ms8 O9=>Z7 rfl<|Z1<|cH h fun c11 h=>bH h fun l12 el12 h=>Z2<|Z7 rfl<|Z7 rfl<|Z7 rfl<|Zd (Z3f (E:=(El.int .u8)) el12 rfl O9 .here rfl (Z16 A1.1 A1.2) c11 fun v13 ms14 O15=>Z6 _ (Z4h rfl)<|Z6 _ (Z4g rfl)<|Zd (Zlf (q:=[.one (v13),.one (.int .i64 (p0.gE))]) rfl rfl (Zmf.one1 (Z0b.isSl O15)) rfl (.app .here)<|Z1 ?_)))
  revert h; refine Zw fun h=>?_
  subst h
  exact ⟨_,_,.nil,(.one (.app .here) (.all .here .nil)),⟨_,rfl,⟨v13,ms14,rfl,rfl,O15⟩⟩⟩
 ·refine Zk ?_
  revert h; refine Zw fun h=>?_
  subst h
  exact ⟨_,_,.nil,(.one .here (.all .here .nil)),⟨_,rfl,⟨v0,M0,rfl,rfl,O0⟩⟩⟩
def Z76 (p0:Zag) (p1:List Int):Option (Zag) :=
 opt (Z9q p0 p1) fun y2 =>
 some y2
theorem Zbz {W:World} {r:Zag} {p0:Zag} {p1:List Int} {v0:Value} {M0:List Zf} {v1:Value} {b:Nat} {T:TypeId} (h:Z76 p0 p1=some r) (h0:Sat W (b::M0.map (·.b)) (ck b T [.one (v0),.one (.int .i64 (p0.gE))]::(M0 ++ [])) W) (O0:Z0b (El.int .u8) v0 M0 p0.gB) (A1:Z4y (El.int .u8) W v1 p1∧Z8f v1 p1 (b::M0.map (·.b))) :
    Calls Tryz.prog 79 [.pointer (some ⟨b,0,none⟩),v1].toArray W (Zc0 W (b::M0.map (·.b)) (fun v Ms=>∃ (uw:Value) (Mw:List Zf),v = .tuple #[]∧Ms = [.one (ck b T [.one (uw),.one (.int .i64 (r.gE))]),.all Mw]∧Z0b (El.int .u8) uw Mw r.gB)):=by
 unfold Z76 at h
 refine Z02 mo ok79 rfl h0 ?_
 refine oH h fun y2 ey2 h=>Z2<|Z7 rfl<|Z7 rfl<|Zd (Z2i (mS:=_::M0) rfl (Zbj .here .here) (fun w hw=>Ze6  ey2 (Z7r hw (Zbj .here .here)) O0 ⟨(Z16 A1.1 A1.2) w hw,(Zhq (Zl9 (E:=(El.int .u8)) A1.1 A1.2 .here hw) (Zla (E:=(El.int .u8)) A1.1 A1.2 (.there .here) hw))⟩) fun v3 Msv3 R4=>?_)
 obtain ⟨v5,ms6,rfl,rfl,O7⟩:=R4
 refine Z1 ?_
 revert h; refine Zw fun h=>?_
 subst h
 exact ⟨_,_,.nil,(.one .here (.all .here .nil)),⟨_,rfl,⟨v5,ms6,rfl,rfl,O7⟩⟩⟩
def Zn6 (p0:Int):OL :=
 br (((decide (p0<1))||(decide (p0>255)))) (
 some []
 ) (
 bnd (IntKind.wrap .u8 p0) fun z6 =>
 some ([70,66,1,z6]:List (Int))
 )
theorem Zor {W:World} {r:(List Int)} {p0:Int} (h:Zn6 p0=some r)  :
    Calls Tryz.prog 80 [.int .i64 (p0)].toArray W (Zc0 W [] (fun v Ms=>∃ (u0:Value) (M0:List Zf),v=u0∧Ms = [.all M0]∧Z0b (El.int .u8) u0 M0 r)):=by
 unfold Zn6 at h
 refine Z02 mo ok80 rfl (Zgo _) ?_
 refine Z0<|Z2<|Z7 rfl<|Z1<|Z0<|Z0<|Z2<|Z7 rfl<|Z6 _ (Z9 rfl rfl rfl)<|Z7 rfl<|Zql rfl rfl rfl (fun hg1=>Zie rfl _ (Z0u rfl) (Zie rfl _ (Z9 rfl rfl rfl) (Ze9))) (fun hg1=>rfl) rfl<|Z1<|Z07 h rfl (fun h=>?_) (fun h=>?_)
 ·refine Z0<|Z2<|Z7 rfl<|Z1<|Zm ?_
  revert h; refine Zw fun h=>?_
  subst h
  exact ⟨_,_,(.cons (.tmp rfl) .nil),(.no .nil),⟨_,rfl,⟨(.slice none 0 0),[],rfl,rfl,Z59⟩⟩⟩
 ·refine Zk<|Z0<|bH h fun z6 ez6 h=>Z2<|Z7 rfl<|Z6 _ (iz ez6 (Z3k rfl))<|Zd (Z5h (E:=(El.int .u8)) (xs:=[70,66,1,z6]) (.one rfl rfl rfl (.one rfl rfl rfl (.one rfl rfl rfl (.one rfl rfl rfl BdR.nil)))) (.cons (p:=[.one (.int .u8 (70))]) rfl (.cons (p:=[.one (.int .u8 (66))]) rfl (.cons (p:=[.one (.int .u8 (1))]) rfl (.cons (p:=[.one (.int .u8 (z6))]) rfl .nil)))) rfl fun v7 ms8 O9=>Z7 rfl<|Z1<|Zm ?_)
  revert h; refine Zw fun h=>?_
  subst h
  exact ⟨_,_,(.cons (.tmp rfl) .nil),(.all .here .nil),⟨_,rfl,⟨v7,ms8,rfl,rfl,O9⟩⟩⟩
def Zos (p0:Int):OL :=
 bnd (IntKind.wrap .u32 (Int.tdiv p0 16777216)) fun z3 =>
 bnd (IntKind.wrap .u8 z3) fun z4 =>
 bnd (IntKind.wrap .u32 (Int.tdiv p0 65536)) fun z5 =>
 bnd (IntKind.wrap .u8 z5) fun z6 =>
 bnd (IntKind.wrap .u32 (Int.tdiv p0 256)) fun z7 =>
 bnd (IntKind.wrap .u8 z7) fun z8 =>
 bnd (IntKind.wrap .u8 p0) fun z9 =>
 some ([z4,z6,z8,z9]:List (Int))
theorem Zqb {W:World} {r:(List Int)} {p0:Int} (h:Zos p0=some r)  :
    Calls Tryz.prog 150 [.int .u32 (p0)].toArray W (Zc0 W [] (fun v Ms=>∃ (u0:Value) (M0:List Zf),v=u0∧Ms = [.all M0]∧Z0b (El.int .u8) u0 M0 r)):=by
 unfold Zos at h
 refine Z02 mo Z0yr rfl (Zgo _) ?_
 refine Z0<|Z2<|Z7 rfl<|Z1<|Z0<|bH h fun z3 ez3 h=>bH h fun z4 ez4 h=>bH h fun z5 ez5 h=>bH h fun z6 ez6 h=>bH h fun z7 ez7 h=>bH h fun z8 ez8 h=>bH h fun z9 ez9 h=>Z2<|Z7 rfl<|Z6 _ (iz ez3 (Z98 rfl rfl (by decide)))<|Z6 _ (iz ez4 (Z3k rfl))<|Z7 rfl<|Z6 _ (iz ez5 (Z98 rfl rfl (by decide)))<|Z6 _ (iz ez6 (Z3k rfl))<|Z7 rfl<|Z6 _ (iz ez7 (Z98 rfl rfl (by decide)))<|Z6 _ (iz ez8 (Z3k rfl))<|Z7 rfl<|Z6 _ (iz ez9 (Z3k rfl))<|Zd (Z5h (E:=(El.int .u8)) (xs:=[z4,z6,z8,z9]) (.one rfl rfl rfl (.one rfl rfl rfl (.one rfl rfl rfl (.one rfl rfl rfl BdR.nil)))) (.cons (p:=[.one (.int .u8 (z4))]) rfl (.cons (p:=[.one (.int .u8 (z6))]) rfl (.cons (p:=[.one (.int .u8 (z8))]) rfl (.cons (p:=[.one (.int .u8 (z9))]) rfl .nil)))) rfl fun v10 ms11 O12=>Z7 rfl<|Z1<|Zm ?_)
 revert h; refine Zw fun h=>?_
 subst h
 exact ⟨_,_,(.cons (.tmp rfl) .nil),(.all .here .nil),⟨_,rfl,⟨v10,ms11,rfl,rfl,O12⟩⟩⟩
def Zev (p0:Zag) (p1:Int):Option (Zag) :=
 opt (Zos p1) fun y2 =>
 opt (Z9q p0 y2) fun y8 =>
 some y8
theorem Zk4 {W:World} {r:Zag} {p0:Zag} {p1:Int} {v0:Value} {M0:List Zf} {b:Nat} {T:TypeId} (h:Zev p0 p1=some r) (h0:Sat W (b::M0.map (·.b)) (ck b T [.one (v0),.one (.int .i64 (p0.gE))]::(M0 ++ [])) W) (O0:Z0b (El.int .u8) v0 M0 p0.gB) :
    Calls Tryz.prog 81 [.pointer (some ⟨b,0,none⟩),.int .u32 (p1)].toArray W (Zc0 W (b::M0.map (·.b)) (fun v Ms=>∃ (uw:Value) (Mw:List Zf),v = .tuple #[]∧Ms = [.one (ck b T [.one (uw),.one (.int .i64 (r.gE))]),.all Mw]∧Z0b (El.int .u8) uw Mw r.gB)):=by
 unfold Zev at h
 refine Z02 mo ok81 rfl h0 ?_
 refine oH h fun y2 ey2 h=>oH h fun y8 ey8 h=>Z2<|Z7 rfl<|Z7 rfl<|Zd (Zz rfl (fun w hw=>Zqb  ey2 ) fun v3 Msv3 R4=>?_)
 obtain ⟨_,ms6,rfl,rfl,O7⟩:=R4
 refine Zd (Z2i (mS:=_::M0) rfl (Zbj (.app .here) (.app .here)) (fun w hw=>Ze6  ey8 (Z7r hw (Zbj (.app .here) (.app .here))) O0 ⟨(Z0a O7 .here) w hw,(Zhq (Zd7 (E:=(El.int .u8)) O7 .here .here hw) (Zgw (E:=(El.int .u8)) O7 .here (.there .here) hw))⟩) fun v9 Msv9 R10=>?_)
 obtain ⟨v11,ms12,rfl,rfl,O13⟩:=R10
 refine Z1 ?_
 revert h; refine Zw fun h=>?_
 subst h
 exact ⟨_,_,.nil,(.one .here (.all .here .nil)),⟨_,rfl,⟨v11,ms12,rfl,rfl,O13⟩⟩⟩
def Z1o (p0:Z1q):OL :=
 br (((decide (p0.gEpoch<1))||(decide (p0.gEpoch>64)))) (
 some []
 ) (
 opt (Zn6 11) fun y9 =>
 opt (Z76 (⟨[],0⟩:Zag) y9) fun y15 =>
 bnd (IntKind.wrap .u32 p0.gEpoch) fun z22 =>
 opt (Zev y15 z22) fun y23 =>
 opt (Z76 y23 (tk p0.gKey 0 32)) fun y30 =>
 some y30.gB
 )
theorem Z26 {W:World} {r:(List Int)} {p0:Z1q} (h:Z1o p0=some r)  :
    Calls Tryz.prog 31 [agg [.one (.int .i64 (p0.gEpoch)),.ints .u8 32 (p0.gKey),.ints .u8 64 (p0.gSig)]].toArray W (Zc0 W [] (fun v Ms=>∃ (u0:Value) (M0:List Zf),v=u0∧Ms = [.all M0]∧Z0b (El.int .u8) u0 M0 r)):=by
 unfold Z1o at h
 refine Z02 mo ok31 rfl (Zgo _) ?_
 refine Z0<|Z2<|Zd (Z0e (s:=[.one (.int .i64 (p0.gEpoch)),.ints .u8 32 (p0.gKey),.ints .u8 64 (p0.gSig)]) rfl fun b2 hb2=>Z7 rfl<|Z1<|Z0<|Z0<|Z2<|Z6 _ (Z4g rfl)<|Z6 _ (Z1a rfl .here rfl)<|Z6 _ (Z9 rfl rfl rfl)<|Z7 rfl<|Zql rfl rfl rfl (fun hg1=>Zie rfl _ (Z4g rfl) (Zie rfl _ (Z1a rfl .here rfl) (Zie rfl _ (Z9 rfl rfl rfl) (Ze9)))) (fun hg1=>rfl) rfl<|Z1<|Z07 h rfl (fun h=>?_) (fun h=>?_))
 ·refine Z0<|Z2<|Z7 rfl<|Z1<|Zm ?_
  revert h; refine Zw fun h=>?_
  subst h
  exact ⟨_,_,(.cons (.tmp rfl) .nil),(.no .nil),⟨_,rfl,⟨(.slice none 0 0),[],rfl,rfl,Z59⟩⟩⟩
 ·refine Zk<|Z0<|Z2<|Zd (Zr fun b7 hb7=>Z1<|Z0<|oH h fun y9 ey9 h=>oH h fun y15 ey15 h=>Z2<|Zd (Zz rfl (fun w hw=>Zor  ey9 ) fun v10 Msv10 R11=>?_))
  obtain ⟨_,ms13,rfl,rfl,O14⟩:=R11
  refine Zd (Z2i (mS:=_ :: []) rfl (Z0br (.app .here)) (fun w hw=>Zbz (p0:=(⟨[],0⟩:Zag)) ey15 (Z7r hw (Z0br (.app .here))) Z59 ⟨(Z0a O14 .here) w hw,(Zhq (Zd7 (E:=(El.int .u8)) O14 .here .here hw) Zpn)⟩) fun v16 Msv16 R17=>?_)
  obtain ⟨v18,ms19,rfl,rfl,O20⟩:=R17
  refine Z1<|Z0<|bH h fun z22 ez22 h=>oH h fun y23 ey23 h=>Z2<|Z6 _ (Z4g rfl)<|Z6 _ (Z1a rfl (.there (.app (.app .here))) rfl)<|Z6 _ (iz ez22 (Z3k rfl))<|Zd (Z2i (mS:=_::ms19) rfl (Zbj .here .here) (fun w hw=>Zk4  ey23 (Z7r hw (Zbj .here .here)) O20) fun v24 Msv24 R25=>?_)
  obtain ⟨v26,ms27,rfl,rfl,O28⟩:=R25
  refine Z1<|Z0<|oH h fun y30 ey30 h=>Z2<|Z6 _ (Z4g rfl)<|Z6 _ (Z7c rfl .no .no .no (by simp) (by decide))<|Zd (Z2i (mS:=_::ms27) rfl (Zbj .here .here) (fun w hw=>Zbz  ey30 (Z7r hw (Zbj .here .here)) O28 ⟨(Z1g (s:=[.one (.int .i64 (p0.gEpoch)),.ints .u8 32 (p0.gKey),.ints .u8 64 (p0.gSig)]) (N:=32) (k:=.u8) (base:=1) (lo:=0) (hi:=32) (mz:=32) (.there (.app (.app .here))) rfl (by decide)) w hw,(Zhq (Zlb (.there (.app (.app .here))) .here hw Z95) (Zlc (.there (.app (.app .here))) (.there .here) hw Z95))⟩) fun v31 Msv31 R32=>?_)
  obtain ⟨v33,ms34,rfl,rfl,O35⟩:=R32
  refine Z1<|Z0<|Z2<|Z6 _ (Z4g rfl)<|Z6 _ (Z1a rfl .here rfl)<|Z7 rfl<|Z1<|Zm ?_
  revert h; refine Zw fun h=>?_
  subst h
  exact ⟨_,_,(.cons (.tmp rfl) .nil),(.all (.there .here) .nil),⟨_,rfl,⟨v33,ms34,rfl,rfl,O35⟩⟩⟩
def Z49 (p0:List Int) (p1:Int) (p2:List Int):Option (Z1q×Bool) :=
 br (((decide (p1<1))||(decide (p1>64)))) (
 some ((⟨0,(List.replicate 32 0),(List.replicate 64 0)⟩:Z1q),false)
 ) (
 opt (Z1o (⟨p1,p2,(List.replicate 64 0)⟩:Z1q)) fun y11 =>
 opt (Zk3 p0 y11) fun y17 =>
 some ((⟨p1,p2,y17⟩:Z1q),true)
 )
theorem Zd3 {W:World} {r:Z1q×Bool} {p0:List Int} {p1:Int} {p2:List Int} (h:Z49 p0 p1 p2=some r) (hG:Globs W) :
    Calls Tryz.prog 28 [agg [.ints .u8 32 (p0)],.int .i64 (p1),agg [.ints .u8 32 (p2)]].toArray W (Z2s W (.tuple #[agg [.one (.int .i64 (r.1.gEpoch)),.ints .u8 32 (r.1.gKey),.ints .u8 64 (r.1.gSig)],.bool (r.2)])):=by
 unfold Z49 at h
 refine Zc mo ok28 rfl ?_
 refine Z0<|Z2<|Zd (Z0e (s:=[.ints .u8 32 (p0)]) rfl fun b2 hb2=>Zd (Z0e (s:=[.ints .u8 32 (p2)]) rfl fun b3 hb3=>Zd (Zr fun b4 hb4=>Z7 rfl<|Z1<|Z0<|Z0<|Z2<|Z7 rfl<|Z6 _ (Z9 rfl rfl rfl)<|Z7 rfl<|Zql rfl rfl rfl (fun hg1=>Zie rfl _ (Z0u rfl) (Zie rfl _ (Z9 rfl rfl rfl) (Ze9))) (fun hg1=>rfl) rfl<|Z1<|Z07 h rfl (fun h=>?_) (fun h=>?_))))
 ·refine Z0<|Z2<|Z6 _ (Zgu (q:=[.one (.int .i64 (0)),.ints .u8 32 ((List.replicate 32 0)),.ints .u8 64 ((List.replicate 64 0))]) BdR.nil)<|Zd (Zp (q:=[.one (.int .i64 (0)),.ints .u8 32 ((List.replicate 32 0)),.ints .u8 64 ((List.replicate 64 0))]) rfl rfl rfl rfl rfl .here<|Z7 rfl<|Z1<|Zm ?_)
  revert h; refine Zw fun h=>?_
  subst h
  exact ⟨_,(.cons (.agg rfl .here rfl) (.cons (.tmp rfl) .nil)),rfl⟩
 ·refine Zk<|Z0<|Z2<|Z7 rfl<|Z6 _ (Z00 (p:=[.ints .u8 32 (p2)]) rfl (.there .here) rfl)<|Z6 _ (Zgu (q:=[.one (.int .i64 (p1)),.ints .u8 32 (p2),.ints .u8 64 ((List.replicate 64 0))]) (.one rfl rfl rfl (.agg rfl rfl rfl BdR.nil)))<|Zd (Zr fun b9 hb9=>Zd (Zp (q:=[.one (.int .i64 (p1)),.ints .u8 32 (p2),.ints .u8 64 ((List.replicate 64 0))]) rfl rfl rfl rfl rfl .here<|Z1<|Z0<|oH h fun y11 ey11 h=>oH h fun y17 ey17 h=>Zu<|Zq _ (Z00 (p:=[.ints .u8 32 (p0)]) rfl (.there (.there (.there .here))) rfl)<|Zq _ (Z00 (p:=[.one (.int .i64 (p1)),.ints .u8 32 (p2),.ints .u8 64 ((List.replicate 64 0))]) rfl .here rfl)<|Z5d (Zz rfl (fun w hw=>Z26 (p0:=(⟨p1,p2,(List.replicate 64 0)⟩:Z1q)) ey11 ) fun v12 Msv12 R13=>?_)))
  obtain ⟨_,ms15,rfl,rfl,O16⟩:=R13
  refine ⟨(by repeat (first | exact Sup.refl _ | apply Sup.cons | apply Sup.app)),Zqp _ (Z08 rfl (fun w hw=>Zoq ey17 (hG.at hw (by simp)) ((Z0a O16 .here) w hw))) (Z8 _ (Z4g rfl) (Z1b rfl (Zp (q:=[.one (.int .i64 (p1)),.ints .u8 32 (p2),.ints .u8 64 (y17)]) rfl rfl rfl rfl rfl (.app .here) (Z03 (Z0 (Z2 (Z6 _ (Z00 (p:=[.one (.int .i64 (p1)),.ints .u8 32 (p2),.ints .u8 64 (y17)]) rfl (.app .here) rfl) (Zd (Zp (q:=[.one (.int .i64 (p1)),.ints .u8 32 (p2),.ints .u8 64 (y17)]) rfl rfl rfl rfl rfl (.app (.there .here)) (Z7 rfl (Z1 (Zm ?_)))))))))))) (by repeat (first | exact Sup.refl _ | apply Sup.cons | apply Sup.app))⟩
  revert h; refine Zw fun h=>?_
  subst h
  exact ⟨_,(.cons (.agg rfl (.app (.there .here)) rfl) (.cons (.tmp rfl) .nil)),rfl⟩
def Z1u (p0:List Int) (p1:List Int) (k42:Unit→Option (Bool)) (k66:(Int)→Option (Bool)) (i65:Int):Option (Bool) :=
 br ((decide (i65<(p0.length:Int)))) (
 chk (inB i65 p0.length) <|
 chk (inB i65 p1.length) <|
 bnd (p0.getD (i65).toNat 0) fun z73 =>
 bnd (p1.getD (i65).toNat 0) fun z74 =>
 br ((z73 != z74)) (
 some false
 ) (
 bnd (IntKind.wrap .i64 (i65+1)) fun z78 =>
 k66 z78
 )
 ) (
 k42 ()
 )
def Z1v (p0:List Int) (p1:List Int) (k42:Unit→Option (Bool)):Nat→(Int)→Option (Bool)
  | 0,_=>none
  | n+1,i65=>Z1u p0 p1 k42 (Z1v p0 p1 k42 n) i65
def Z1r (p0:List Int) (p1:List Int):Option (Bool) :=
 br (((p0.length:Int) != (p1.length:Int))) (
 some false
 ) (
 jn (fun (_:Unit)=>some true) fun k42=>Z1v p0 p1 k42 big 0
 )
theorem Z2m {W:World} {r:Bool} {p0:List Int} {p1:List Int} {v0:Value} {v1:Value} (h:Z1r p0 p1=some r) (A0:Z4y (El.int .u8) W v0 p0) (A1:Z4y (El.int .u8) W v1 p1) :
    Calls Tryz.prog 30 [v0,v1].toArray W (Z2s W (.bool (r))):=by
 unfold Z1r at h
 refine Zc mo ok30 rfl ?_
 refine Z0<|Z2<|Z7 rfl<|Z1<|Z0<|Z0<|Z2<|Z7 rfl<|Z6 _ (Z25 rfl (Shp.rd A0))<|Z7 rfl<|Z6 _ (Z25 rfl (Shp.rd A1))<|Z6 _ (Z9 rfl rfl rfl)<|Z1<|Z07 h rfl (fun h=>?_) (fun h=>?_)
 ·refine Z0<|Z2<|Z7 rfl<|Z1<|Zm ?_
  revert h; refine Zw fun h=>?_
  subst h
  exact ⟨_,(.cons (.tmp rfl) .nil),rfl⟩
 ·refine Zk<|Z0<|Z0<|Z2<|Z7 rfl<|Z1<|jH h fun k42 qk42 h=>Zh (G:=fun t m=>k42 ()=some r∧Fit [] [] t m) ?_ ?_
  ·refine Za<|Zo (fun n67 t m=>∃ (i65:Int),Z1v p0 p1 k42 n67 i65=some r∧Fit [(0,v0),(1,v1),(5,.int .i64 (i65))] [] t m) big ?_ ?_
   ·exact ⟨0,h,⟨⟨rfl,rfl,rfl,trivial⟩,.nil⟩⟩
   ·rintro n67 t m ⟨i65,h,hF⟩
    refine Zg hF ?_
    clear hF
    rcases n67 with _ | n67
    · exact Z05 h
    have h:Z1u p0 p1 k42 (Z1v p0 p1 k42 n67) i65=some r:=h
    unfold Z1u at h
    obtain ⟨k66,qk66⟩ : ∃ k,k=Z1v p0 p1 k42 n67:=⟨_,rfl⟩
    try rw [← qk66] at h
    refine Z0<|Z0<|Z2<|Z7 rfl<|Z7 rfl<|Z6 _ (Z25 rfl (Shp.rd A0))<|Z6 _ (Z9 rfl rfl rfl)<|Z1<|Z07 h rfl (fun h=>?_) (fun h=>?_)
    ·refine Zk<|Z0<|Za<|Z0<|cH h fun c71 h=>cH h fun c72 h=>bH h fun z73 ez73 h=>bH h fun z74 ez74 h=>Zu<|Z8 _ (Z0u rfl)<|Z8 _ (Z0u rfl)<|Z8 _ (Z32 rfl rfl (Shp.rd A0) c71)<|Z8 _ (Z0u rfl)<|Z8 _ (Z0u rfl)<|Z8 _ (Z32 rfl rfl (Shp.rd A1) c72)<|Zq _ (iz ez73 (Z33 (E:=(El.int .u8)) (s:=[.one (.int .u8 (p0.getD (i65).toNat 0))]) rfl (Z16 A0 Z1f) (Z01 c71) rfl rfl))<|Zq _ (iz ez74 (Z33 (E:=(El.int .u8)) (s:=[.one (.int .u8 (p1.getD (i65).toNat 0))]) rfl (Z16 A1 Z1f) (Z01 c72) rfl rfl))<|Z8 _ (Z9 rfl rfl rfl)<|Z03<|Z07 h rfl (fun h=>?_) (fun h=>?_)
     ·refine Z0<|Z2<|Z7 rfl<|Z1<|Zm ?_
      revert h; refine Zw fun h=>?_
      subst h
      exact ⟨_,(.cons (.tmp rfl) .nil),rfl⟩
     ·refine Zk<|bH h fun z78 ez78 h=>Z2<|Z7 rfl<|Z6 _ (iz ez78 (Z9 rfl rfl rfl))<|Z7 rfl<|Z1 ?_
      rw [qk66] at h
      exact ⟨n67,Nat.lt_succ_self _,z78,h,⟨⟨rfl,rfl,rfl,trivial⟩,.nil⟩⟩
    ·exact Zv _ rfl<|⟨h,⟨trivial,.nil⟩⟩
  ·rintro t m ⟨h,hF⟩
   refine Zg hF ?_
   clear hF
   subst qk42
   refine Z0<|Z2<|Z7 rfl<|Z1<|Zm ?_
   revert h; refine Zw fun h=>?_
   subst h
   exact ⟨_,(.cons (.tmp rfl) .nil),rfl⟩
def Z1h (k58:(List (Int))→Option (Bool)) (k93:(List (Int))→(Int)→Option (Bool)) (l90:List (Int)) (i92:Int):Option (Bool) :=
 br ((decide (i92<64))) (
 chk (decide ((l90.length+([33]:List (Int)).length)*1≤140737488355328)) <|
 bnd (l90++([33]:List (Int))) fun l102 =>
 bnd (IntKind.wrap .i64 (i92+1)) fun z107 =>
 k93 l102 z107
 ) (
 k58 l90
 )
def Z1k (k58:(List (Int))→Option (Bool)):Nat→(List (Int))→(Int)→Option (Bool)
  | 0,_,_=>none
  | n+1,l90,i92=>Z1h k58 (Z1k k58 n) l90 i92
def Z1i (k162:(List (Int))→Option (Bool)) (k197:(List (Int))→(Int)→Option (Bool)) (l194:List (Int)) (i196:Int):Option (Bool) :=
 br ((decide (i196<64))) (
 chk (decide ((l194.length+([34]:List (Int)).length)*1≤140737488355328)) <|
 bnd (l194++([34]:List (Int))) fun l206 =>
 bnd (IntKind.wrap .i64 (i196+1)) fun z211 =>
 k197 l206 z211
 ) (
 k162 l194
 )
def Z1l (k162:(List (Int))→Option (Bool)):Nat→(List (Int))→(Int)→Option (Bool)
  | 0,_,_=>none
  | n+1,l194,i196=>Z1i k162 (Z1l k162 n) l194 i196
def Z1j (l56:List (Int)) (k244:Unit→Option (Bool)) (k265:(Int)→Option (Bool)) (i264:Int):Option (Bool) :=
 br ((decide (i264<(l56.length:Int)))) (
 chk (inB i264 l56.length) <|
 bnd (l56.getD (i264).toNat 0) fun z271 =>
 br ((z271 != 33)) (
 some false
 ) (
 bnd (IntKind.wrap .i64 (i264+1)) fun z275 =>
 k265 z275
 )
 ) (
 k244 ()
 )
def Z1m (l56:List (Int)) (k244:Unit→Option (Bool)):Nat→(Int)→Option (Bool)
  | 0,_=>none
  | n+1,i264=>Z1j l56 k244 (Z1m l56 k244 n) i264
def Z3a (p0:List Int) (p1:List Int):Option (Bool) :=
 jn (fun (l56:List (Int))=>jn (fun (l160:List (Int))=>jn (fun (_:Unit)=>bnd (IntKind.wrap .i64 ((p1.length:Int)+64)) fun z277 =>
 some ((l160.length:Int)==z277)) fun k244=>Z1m l56 k244 big (p0.length:Int)) fun k162=>Z1l k162 big p1 0) fun k58=>Z1k k58 big p0 0
theorem Z7g {W:World} {r:Bool} {p0:List Int} {p1:List Int} {v0:Value} {M0:List Zf} {v1:Value} {M1:List Zf} (h:Z3a p0 p1=some r) (h0:Sat W ((M0++M1).map (·.b)) (M0++(M1 ++ [])) W) (O0:Zf1 (El.int .u8) v0 M0 p0) (O1:Zf1 (El.int .u8) v1 M1 p1) :
    Calls Tryz.prog 32 [v0,v1].toArray W (Zc0 W ((M0++M1).map (·.b)) (fun v Ms=>∃ (X0:List Zf) (X1:List Zf),v = .bool (r)∧Ms = [.all X0,.all X1]∧Zf1 (El.int .u8) v0 X0 p0∧Zf1 (El.int .u8) v1 X1 p1)):=by
 unfold Z3a at h
 refine Z02 mo ok32 rfl h0 ?_
 refine Z0<|Z2<|Z7 rfl<|Z1<|Z0<|Z2<|Z7 rfl<|Z7 rfl<|Z1<|Z0<|Z2<|Z7 rfl<|Z7 rfl<|Z1<|Z0<|Z0<|Z2<|Z7 rfl<|Z1<|jH h fun k58 qk58 h=>Zh (G:=fun t m=>∃ (l56:List (Int)) (v54:Value) (ms55:List Zf),k58 l56=some r∧Z2u (El.int .u8) v0 p0 v54 l56 ms55∧Fit [(0,v0),(1,v1),(5,v54),(6,v1)] (M1++(ms55 ++ [])) t m) ?_ ?_
 ·refine Za<|Zo (fun n94 t m=>∃ (l90:List (Int)) (i92:Int) (v88:Value) (ms89:List Zf),Z1k k58 n94 l90 i92=some r∧Z2u (El.int .u8) v0 p0 v88 l90 ms89∧Fit [(0,v0),(1,v1),(5,v88),(6,v1),(7,.int .i64 (i92))] (M1++(ms89 ++ [])) t m) big ?_ ?_
  ·exact ⟨p0,0,v0,M0,h,(Zf1.grow O0),⟨⟨rfl,rfl,rfl,rfl,rfl,trivial⟩,(.all (.app .here) (.all .here .nil))⟩⟩
  ·rintro n94 t m ⟨l90,i92,v88,ms89,h,G91,hF⟩
   refine Zg hF ?_
   clear hF
   rcases n94 with _ | n94
   · exact Z05 h
   have h:Z1h k58 (Z1k k58 n94) l90 i92=some r:=h
   unfold Z1h at h
   obtain ⟨k93,qk93⟩ : ∃ k,k=Z1k k58 n94:=⟨_,rfl⟩
   try rw [← qk93] at h
   refine Z0<|Z0<|Z2<|Z7 rfl<|Z6 _ (Z9 rfl rfl rfl)<|Z1<|Z07 h rfl (fun h=>?_) (fun h=>?_)
   ·refine Zk<|Z0<|Za<|cH h fun c101 h=>bH h fun l102 el102 h=>Z2<|Z7 rfl<|Zd (Z5h (E:=(El.int .u8)) (xs:=[33]) (.one rfl rfl rfl BdR.nil) (.cons (p:=[.one (.int .u8 (33))]) rfl .nil) rfl fun v98 ms99 O100=>Zd (Zml (E:=(El.int .u8)) el102 rfl G91 (.app (.app .here)) rfl (Z0a O100 .here) c101 fun v103 ms104 O105=>Z7 rfl<|Z1<|bH h fun z107 ez107 h=>Z2<|Z7 rfl<|Z6 _ (iz ez107 (Z9 rfl rfl rfl))<|Z7 rfl<|Z1 ?_))
    rw [qk93] at h
    exact ⟨n94,Nat.lt_succ_self _,l102,z107,v103,ms104,h,O105,⟨⟨rfl,rfl,rfl,rfl,rfl,trivial⟩,(.all (.app (.app .here)) (.all .here .nil))⟩⟩
   ·exact Zv _ rfl<|⟨l90,v88,ms89,h,G91,⟨⟨rfl,rfl,rfl,rfl,trivial⟩,(.all .here (.all .here .nil))⟩⟩
 ·rintro t m ⟨l56,v54,ms55,h,G57,hF⟩
  refine Zg hF ?_
  clear hF
  subst qk58
  refine Z0<|Z0<|Z2<|Z7 rfl<|Z1<|jH h fun k162 qk162 h=>Zh (G:=fun t m=>∃ (l160:List (Int)) (v158:Value) (ms159:List Zf),k162 l160=some r∧Z2u (El.int .u8) v1 p1 v158 l160 ms159∧Fit [(0,v0),(1,v1),(5,v54),(6,v158)] (ms55++(ms159 ++ [])) t m) ?_ ?_
  ·refine Za<|Zo (fun n198 t m=>∃ (l194:List (Int)) (i196:Int) (v192:Value) (ms193:List Zf),Z1l k162 n198 l194 i196=some r∧Z2u (El.int .u8) v1 p1 v192 l194 ms193∧Fit [(0,v0),(1,v1),(5,v54),(6,v192),(8,.int .i64 (i196))] (ms55++(ms193 ++ [])) t m) big ?_ ?_
   ·exact ⟨p1,0,v1,M1,h,(Zf1.grow O1),⟨⟨rfl,rfl,rfl,rfl,rfl,trivial⟩,(.all (.app .here) (.all .here .nil))⟩⟩
   ·rintro n198 t m ⟨l194,i196,v192,ms193,h,G195,hF⟩
    refine Zg hF ?_
    clear hF
    rcases n198 with _ | n198
    · exact Z05 h
    have h:Z1i k162 (Z1l k162 n198) l194 i196=some r:=h
    unfold Z1i at h
    obtain ⟨k197,qk197⟩ : ∃ k,k=Z1l k162 n198:=⟨_,rfl⟩
    try rw [← qk197] at h
    refine Z0<|Z0<|Z2<|Z7 rfl<|Z6 _ (Z9 rfl rfl rfl)<|Z1<|Z07 h rfl (fun h=>?_) (fun h=>?_)
    ·refine Zk<|Z0<|Za<|cH h fun c205 h=>bH h fun l206 el206 h=>Z2<|Z7 rfl<|Zd (Z5h (E:=(El.int .u8)) (xs:=[34]) (.one rfl rfl rfl BdR.nil) (.cons (p:=[.one (.int .u8 (34))]) rfl .nil) rfl fun v202 ms203 O204=>Zd (Zml (E:=(El.int .u8)) el206 rfl G195 (.app (.app .here)) rfl (Z0a O204 .here) c205 fun v207 ms208 O209=>Z7 rfl<|Z1<|bH h fun z211 ez211 h=>Z2<|Z7 rfl<|Z6 _ (iz ez211 (Z9 rfl rfl rfl))<|Z7 rfl<|Z1 ?_))
     rw [qk197] at h
     exact ⟨n198,Nat.lt_succ_self _,l206,z211,v207,ms208,h,O209,⟨⟨rfl,rfl,rfl,rfl,rfl,trivial⟩,(.all (.app (.app .here)) (.all .here .nil))⟩⟩
    ·exact Zv _ rfl<|⟨l194,v192,ms193,h,G195,⟨⟨rfl,rfl,rfl,rfl,trivial⟩,(.all .here (.all .here .nil))⟩⟩
  ·rintro t m ⟨l160,v158,ms159,h,G161,hF⟩
   refine Zg hF ?_
   clear hF
   subst qk162
   refine Z0<|Z0<|Z2<|Z7 rfl<|Z6 _ (Z25 rfl (Zf1.shp (Z2u.base G57)))<|Z7 rfl<|Z1<|jH h fun k244 qk244 h=>Zh (G:=fun t m=>k244 ()=some r∧Fit [(1,v1),(6,v158)] (ms55++(ms159 ++ [])) t m) ?_ ?_
   ·refine Za<|Zo (fun n266 t m=>∃ (i264:Int),Z1m l56 k244 n266 i264=some r∧Fit [(1,v1),(5,v54),(6,v158),(9,.int .i64 (i264))] (ms55++(ms159 ++ [])) t m) big ?_ ?_
    ·exact ⟨(p0.length:Int),h,⟨⟨rfl,rfl,rfl,rfl,trivial⟩,(.all .here (.all .here .nil))⟩⟩
    ·rintro n266 t m ⟨i264,h,hF⟩
     refine Zg hF ?_
     clear hF
     rcases n266 with _ | n266
     · exact Z05 h
     have h:Z1j l56 k244 (Z1m l56 k244 n266) i264=some r:=h
     unfold Z1j at h
     obtain ⟨k265,qk265⟩ : ∃ k,k=Z1m l56 k244 n266:=⟨_,rfl⟩
     try rw [← qk265] at h
     refine Z0<|Z0<|Z2<|Z7 rfl<|Z7 rfl<|Z6 _ (Z25 rfl (Z2u.shp G57))<|Z6 _ (Z9 rfl rfl rfl)<|Z1<|Z07 h rfl (fun h=>?_) (fun h=>?_)
     ·refine Zk<|Z0<|Za<|Z0<|cH h fun c270 h=>bH h fun z271 ez271 h=>Z2<|Z7 rfl<|Z7 rfl<|Z6 _ (Z32 rfl rfl (Z2u.shp G57) c270)<|Z6 _ (iz ez271 (Z33 (E:=(El.int .u8)) (s:=[.one (.int .u8 (l56.getD (i264).toNat 0))]) rfl (Z0uf G57 .here) (Z01 c270) rfl rfl))<|Z6 _ (Z9 rfl rfl rfl)<|Z1<|Z07 h rfl (fun h=>?_) (fun h=>?_)
      ·refine Z0<|Z2<|Z7 rfl<|Z1<|Zm ?_
       revert h; refine Zw fun h=>?_
       subst h
       exact ⟨_,_,(.cons (.tmp rfl) .nil),(.all .here (.all .here .nil)),⟨_,rfl,⟨ms55,ms159,rfl,rfl,(Z2u.base G57),(Z2u.base G161)⟩⟩⟩
      ·refine Zk<|bH h fun z275 ez275 h=>Z2<|Z7 rfl<|Z6 _ (iz ez275 (Z9 rfl rfl rfl))<|Z7 rfl<|Z1 ?_
       rw [qk265] at h
       exact ⟨n266,Nat.lt_succ_self _,z275,h,⟨⟨rfl,rfl,rfl,rfl,trivial⟩,(.all .here (.all .here .nil))⟩⟩
     ·exact Zv _ rfl<|⟨h,⟨⟨rfl,rfl,trivial⟩,(.all .here (.all .here .nil))⟩⟩
   ·rintro t m ⟨h,hF⟩
    refine Zg hF ?_
    clear hF
    subst qk244
    refine Z0<|bH h fun z277 ez277 h=>Z2<|Z7 rfl<|Z6 _ (Z25 rfl (Z2u.shp G161))<|Z7 rfl<|Z6 _ (Z25 rfl (Zf1.shp (Z2u.base G161)))<|Z6 _ (iz ez277 (Z9 rfl rfl rfl))<|Z6 _ (Z9 rfl rfl rfl)<|Z7 rfl<|Z1<|Zm ?_
    revert h; refine Zw fun h=>?_
    subst h
    exact ⟨_,_,(.cons (.tmp rfl) .nil),(.all .here (.all .here .nil)),⟨_,rfl,⟨ms55,ms159,rfl,rfl,(Z2u.base G57),(Z2u.base G161)⟩⟩⟩
def Z0o (k129:(List (Int))→Option (Bool)) (k157:(List (Int))→(Int)→Option (Bool)) (l154:List (Int)) (i156:Int):Option (Bool) :=
 br ((decide (i156<(l154.length:Int)))) (
 chk (inB i156 l154.length) <|
 bnd (Zcp 0 l154 (i156).toNat 51) fun l163 =>
 bnd (IntKind.wrap .i64 (i156+1)) fun z167 =>
 k157 l163 z167
 ) (
 k129 l154
 )
def Z0f (k129:(List (Int))→Option (Bool)):Nat→(List (Int))→(Int)→Option (Bool)
  | 0,_,_=>none
  | n+1,l154,i156=>Z0o k129 (Z0f k129 n) l154 i156
def Z0p (k223:(List (Int))→Option (Bool)) (k258:(List (Int))→(Int)→Option (Bool)) (l255:List (Int)) (i257:Int):Option (Bool) :=
 br ((decide (i257<200))) (
 chk (decide ((l255.length+([68]:List (Int)).length)*1≤140737488355328)) <|
 bnd (l255++([68]:List (Int))) fun l267 =>
 bnd (IntKind.wrap .i64 (i257+1)) fun z272 =>
 k258 l267 z272
 ) (
 k223 l255
 )
def Z0q (k223:(List (Int))→Option (Bool)):Nat→(List (Int))→(Int)→Option (Bool)
  | 0,_,_=>none
  | n+1,l255,i257=>Z0p k223 (Z0q k223 n) l255 i257
def Z39 (p0:List Int) (p1:Int) (p2:List Int) (p3:Z1q):Option (Bool) :=
 opt (Zai p0 p1 p2) fun y6 =>
 opt (Z49 p0 p1 p2) fun y9 =>
 br (((!((y6.1.gEpoch==y9.1.gEpoch)&&((ieq 32 y6.1.gKey y9.1.gKey)&&(ieq 64 y6.1.gSig y9.1.gSig))))||(!(y6.2==y9.2)))) (
 some false
 ) (
 opt (Z77 p3) fun y15 =>
 opt (Z77 y6.1) fun y23 =>
 opt (Z77 p3) fun y31 =>
 jn (fun (i60:Bool)=>br (i60) (
 some false
 ) (
 jn (fun (l127:List (Int))=>jn (fun (l221:List (Int))=>jn (fun (i303:Bool)=>some i303) fun k304=>bnd (IntKind.wrap .i64 ((l127.length:Int)+200)) fun z306 =>
 br (((l221.length:Int)==z306)) (
 opt (Z1o y9.1) fun y307 =>
 opt (Z1r y23.2 y307) fun y313 =>
 br (y313) (
 opt (Z1o p3) fun y314 =>
 opt (Z1r y31.2 y314) fun y320 =>
 br (y320) (
 opt (Z3a l127 y23.2) fun y321 =>
 br (y321) (
 opt (Z3a y23.2 y31.2) fun y328 =>
 k304 y328
 ) (
 k304 false
 )
 ) (
 k304 false
 )
 ) (
 k304 false
 )
 ) (
 k304 false
 )) fun k223=>Z0q k223 big l127 0) fun k129=>Z0f k129 big y15.2 0
 )) fun k61=>opt (Z1o p3) fun y63 =>
 opt (Z1r y15.2 y63) fun y69 =>
 br ((!y69)) (
 k61 true
 ) (
 opt (Z1o y9.1) fun y70 =>
 opt (Z1r y23.2 y70) fun y76 =>
 br ((!y76)) (
 k61 true
 ) (
 opt (Z1o p3) fun y77 =>
 opt (Z1r y31.2 y77) fun y83 =>
 k61 (!y83)
 )
 )
 )
theorem fareboxlaw30_RotateSeals_spec {W:World} {r:Bool} {p0:List Int} {p1:Int} {p2:List Int} {p3:Z1q} (h:Z39 p0 p1 p2 p3=some r) (hG:Globs W) :
    Calls Tryz.prog 6 [agg [.ints .u8 32 (p0)],.int .i64 (p1),agg [.ints .u8 32 (p2)],agg [.one (.int .i64 (p3.gEpoch)),.ints .u8 32 (p3.gKey),.ints .u8 64 (p3.gSig)]].toArray W (Z2s W (.bool (r))):=by
 unfold Z39 at h
 refine Zc mo ok6 rfl ?_
 refine Z0<|Z2<|Zd (Z0e (s:=[.ints .u8 32 (p0)]) rfl fun b2 hb2=>Zd (Z0e (s:=[.ints .u8 32 (p2)]) rfl fun b3 hb3=>Zd (Z0e (s:=[.one (.int .i64 (p3.gEpoch)),.ints .u8 32 (p3.gKey),.ints .u8 64 (p3.gSig)]) rfl fun b4 hb4=>Z7 rfl<|Z1<|Z0<|oH h fun y6 ey6 h=>Z2<|Z6 _ (Z00 (p:=[.ints .u8 32 (p0)]) rfl (.there (.there .here)) rfl)<|Z7 rfl<|Z6 _ (Z00 (p:=[.ints .u8 32 (p2)]) rfl (.there .here) rfl)<|Z6 _ (Z08 rfl (fun w hw=>Zif ey6 (hG.at hw (by simp))))<|Z7 rfl<|Z6 _ (Z37 rfl rfl)<|Z6 _ (Z37 rfl rfl)<|Zd (Zr fun b7 hb7=>Zd (Zp (q:=[.one (.int .i64 (y6.1.gEpoch)),.ints .u8 32 (y6.1.gKey),.ints .u8 64 (y6.1.gSig)]) rfl rfl rfl rfl rfl .here<|Z7 rfl<|Z1<|Z0<|oH h fun y9 ey9 h=>Z2<|Z6 _ (Z00 (p:=[.ints .u8 32 (p0)]) rfl (.there (.there (.there .here))) rfl)<|Z7 rfl<|Z6 _ (Z00 (p:=[.ints .u8 32 (p2)]) rfl (.there (.there .here)) rfl)<|Z6 _ (Z08 rfl (fun w hw=>Zd3 ey9 (hG.at hw (by simp))))<|Z7 rfl<|Z6 _ (Z37 rfl rfl)<|Z6 _ (Z37 rfl rfl)<|Zd (Zr fun b10 hb10=>Zd (Zp (q:=[.one (.int .i64 (y9.1.gEpoch)),.ints .u8 32 (y9.1.gKey),.ints .u8 64 (y9.1.gSig)]) rfl rfl rfl rfl rfl .here<|Z7 rfl<|Z1<|Z0<|Z0<|Z2<|Z6 _ (Z00 (p:=[.one (.int .i64 (y6.1.gEpoch)),.ints .u8 32 (y6.1.gKey),.ints .u8 64 (y6.1.gSig)]) rfl (.there .here) rfl)<|Z6 _ (Z00 (p:=[.one (.int .i64 (y9.1.gEpoch)),.ints .u8 32 (y9.1.gKey),.ints .u8 64 (y9.1.gSig)]) rfl .here rfl)<|Z6 _ (Zyp (s:=[.one (.int .i64 (y6.1.gEpoch)),.ints .u8 32 (y6.1.gKey),.ints .u8 64 (y6.1.gSig)]) (s':=[.one (.int .i64 (y9.1.gEpoch)),.ints .u8 32 (y9.1.gKey),.ints .u8 64 (y9.1.gSig)]) rfl rfl rfl rfl _ (Zr9 rfl Z020 (Zr9 rfl Zg2 (Zil Zg2))))<|Z7 rfl<|Zql rfl rfl rfl (fun hg1=>Zie rfl _ (Z0u rfl) (Zie rfl _ (Z0u rfl) (Zie rfl _ (Z10i rfl rfl) (Ze9)))) (fun hg1=>rfl) rfl<|Z1<|Z07 h rfl (fun h=>?_) (fun h=>?_))))))))
 ·refine Z0<|Z2<|Z7 rfl<|Z1<|Zm ?_
  revert h; refine Zw fun h=>?_
  subst h
  exact ⟨_,(.cons (.tmp rfl) .nil),rfl⟩
 ·refine Zk<|Z0<|oH h fun y15 ey15 h=>Z2<|Z6 _ (Z00 (p:=[.one (.int .i64 (p3.gEpoch)),.ints .u8 32 (p3.gKey),.ints .u8 64 (p3.gSig)]) rfl (.there (.there .here)) rfl)<|Zd (Zz rfl (fun w hw=>Z7p  ey15 ) fun v16 Msv16 R17=>?_)
  obtain ⟨_,ms19,rfl,rfl,O20,N21⟩:=R17
  refine Z7 rfl<|Z1<|Z0<|oH h fun y23 ey23 h=>Z2<|Z6 _ (Z00 (p:=[.one (.int .i64 (y6.1.gEpoch)),.ints .u8 32 (y6.1.gKey),.ints .u8 64 (y6.1.gSig)]) rfl (.app (.there .here)) rfl)<|Zd (Zz rfl (fun w hw=>Z7p  ey23 ) fun v24 Msv24 R25=>?_)
  obtain ⟨_,ms27,rfl,rfl,O28,N29⟩:=R25
  refine Z7 rfl<|Z1<|Z0<|oH h fun y31 ey31 h=>Z2<|Z6 _ (Z00 (p:=[.one (.int .i64 (p3.gEpoch)),.ints .u8 32 (p3.gKey),.ints .u8 64 (p3.gSig)]) rfl (.app (.app (.there (.there .here)))) rfl)<|Zd (Zz rfl (fun w hw=>Z7p  ey31 ) fun v32 Msv32 R33=>?_)
  obtain ⟨_,ms35,rfl,rfl,O36,N37⟩:=R33
  refine Z7 rfl<|Z1<|Z0<|Z0<|jH h fun k61 qk61 h=>Zh (G:=fun t m=>∃ (i60:Bool),k61 i60=some r∧Fit [(7,.pointer (some ⟨b4,0,none⟩)),(11,.pointer (some ⟨b10,0,none⟩)),(13,v16),(14,v24),(15,v32),(65,.bool (i60))] (ms35++(ms27++(ms19++(ck b10 51 [.one (.int .i64 (y9.1.gEpoch)),.ints .u8 32 (y9.1.gKey),.ints .u8 64 (y9.1.gSig)]::(ck b7 51 [.one (.int .i64 (y6.1.gEpoch)),.ints .u8 32 (y6.1.gKey),.ints .u8 64 (y6.1.gSig)]::(ck b4 51 [.one (.int .i64 (p3.gEpoch)),.ints .u8 32 (p3.gKey),.ints .u8 64 (p3.gSig)]::(ck b3 29 [.ints .u8 32 (p2)]::(ck b2 23 [.ints .u8 32 (p0)] :: [])))))))) t m) ?_ ?_
  ·refine Z2<|oH h fun y63 ey63 h=>oH h fun y69 ey69 h=>Z7 rfl<|Z6 _ (Z00 (p:=[.one (.int .i64 (p3.gEpoch)),.ints .u8 32 (p3.gKey),.ints .u8 64 (p3.gSig)]) rfl (.app (.app (.app (.there (.there .here))))) rfl)<|Zd (Zz rfl (fun w hw=>Z26  ey63 ) fun v64 Msv64 R65=>?_)
   obtain ⟨_,ms67,rfl,rfl,O68⟩:=R65
   refine Z6 _ (Z08 rfl (fun w hw=>Z2m ey69 ((Z0a O20 (.app (.app (.app .here)))) w hw) ((Z0a O68 .here) w hw)))<|Z6 _ (Zyr rfl rfl)<|Z7 rfl<|Zty (tc:=52) h rfl (fun h=>?_) (fun h=>?_)
   ·exact Z3o rfl rfl<|Z3o rfl rfl<|Z3o rfl rfl<|Z3o rfl rfl<|Z3o rfl rfl<|Z6 _ (Zjn rfl rfl)<|Z7 rfl<|Z3o rfl rfl<|Z3o rfl rfl<|Z3o rfl rfl<|Z3o rfl rfl<|Z3o rfl rfl<|Z6 _ (Zjn rfl rfl)<|Z1<|⟨true,h,⟨⟨rfl,rfl,rfl,rfl,rfl,rfl,trivial⟩,(.all (.app .here) (.all (.app .here) (.all (.app .here) (.one (.app .here) (.one (.app .here) (.one (.app .here) (.one (.app .here) (.one (.app .here) .nil))))))))⟩⟩
   ·refine oH h fun y70 ey70 h=>oH h fun y76 ey76 h=>Zd6 rfl _ (Z0u rfl)<|Zd6 rfl _ (Z00 (p:=[.one (.int .i64 (y9.1.gEpoch)),.ints .u8 32 (y9.1.gKey),.ints .u8 64 (y9.1.gSig)]) rfl (.app (.app (.app (.app .here)))) rfl)<|Ztz rfl (Zz rfl (fun w hw=>Z26  ey70 ) fun v71 Msv71 R72=>?_)
    obtain ⟨_,ms74,rfl,rfl,O75⟩:=R72
    refine Zd6 rfl _ (Z08 rfl (fun w hw=>Z2m ey76 ((Z0a O28 (.app (.app (.app .here)))) w hw) ((Z0a O75 .here) w hw)))<|Zd6 rfl _ (Zyr rfl rfl)<|Z6 _ (Zcw rfl rfl)<|Z7 rfl<|Zty (tc:=59) h rfl (fun h=>?_) (fun h=>?_)
    ·exact Z3o rfl rfl<|Z3o rfl rfl<|Z3o rfl rfl<|Z3o rfl rfl<|Z3o rfl rfl<|Z6 _ (Zjn rfl rfl)<|Z1<|⟨true,h,⟨⟨rfl,rfl,rfl,rfl,rfl,rfl,trivial⟩,(.all (.app (.app .here)) (.all (.app (.app .here)) (.all (.app (.app .here)) (.one (.app (.app .here)) (.one (.app (.app .here)) (.one (.app (.app .here)) (.one (.app (.app .here)) (.one (.app (.app .here)) .nil))))))))⟩⟩
    ·refine oH h fun y77 ey77 h=>oH h fun y83 ey83 h=>Zd6 rfl _ (Z0u rfl)<|Zd6 rfl _ (Z00 (p:=[.one (.int .i64 (p3.gEpoch)),.ints .u8 32 (p3.gKey),.ints .u8 64 (p3.gSig)]) rfl (.app (.app (.app (.app (.app (.there (.there .here))))))) rfl)<|Ztz rfl (Zz rfl (fun w hw=>Z26  ey77 ) fun v78 Msv78 R79=>?_)
     obtain ⟨_,ms81,rfl,rfl,O82⟩:=R79
     exact Zd6 rfl _ (Z08 rfl (fun w hw=>Z2m ey83 ((Z0a O36 (.app (.app (.app .here)))) w hw) ((Z0a O82 .here) w hw)))<|Zd6 rfl _ (Zyr rfl rfl)<|Z6 _ (Zcw rfl rfl)<|Z1<|⟨(!y83),h,⟨⟨rfl,rfl,rfl,rfl,rfl,rfl,trivial⟩,(.all (.app (.app (.app .here))) (.all (.app (.app (.app .here))) (.all (.app (.app (.app .here))) (.one (.app (.app (.app .here))) (.one (.app (.app (.app .here))) (.one (.app (.app (.app .here))) (.one (.app (.app (.app .here))) (.one (.app (.app (.app .here))) .nil))))))))⟩⟩
  ·rintro t m ⟨i60,h,hF⟩
   refine Zg hF ?_
   clear hF
   subst qk61
   refine Z07 h rfl (fun h=>?_) (fun h=>?_)
   ·refine Z0<|Z2<|Z7 rfl<|Z1<|Zm ?_
    revert h; refine Zw fun h=>?_
    subst h
    exact ⟨_,(.cons (.tmp rfl) .nil),rfl⟩
   ·refine Zk<|Z0<|Z0<|Z2<|Z7 rfl<|Z1<|jH h fun k129 qk129 h=>Zh (G:=fun t m=>∃ (l127:List (Int)) (v125:Value) (ms126:List Zf),k129 l127=some r∧Z0b (El.int .u8) v125 ms126 l127∧Fit [(7,.pointer (some ⟨b4,0,none⟩)),(11,.pointer (some ⟨b10,0,none⟩)),(13,v125),(14,v24),(15,v32)] (ms35++(ms27++(ck b10 51 [.one (.int .i64 (y9.1.gEpoch)),.ints .u8 32 (y9.1.gKey),.ints .u8 64 (y9.1.gSig)]::(ck b7 51 [.one (.int .i64 (y6.1.gEpoch)),.ints .u8 32 (y6.1.gKey),.ints .u8 64 (y6.1.gSig)]::(ck b4 51 [.one (.int .i64 (p3.gEpoch)),.ints .u8 32 (p3.gKey),.ints .u8 64 (p3.gSig)]::(ck b3 29 [.ints .u8 32 (p2)]::(ck b2 23 [.ints .u8 32 (p0)]::(ms126 ++ [])))))))) t m) ?_ ?_
    ·refine Za<|Zo (fun n158 t m=>∃ (l154:List (Int)) (i156:Int) (v152:Value) (ms153:List Zf),Z0f k129 n158 l154 i156=some r∧Z0b (El.int .u8) v152 ms153 l154∧Fit [(7,.pointer (some ⟨b4,0,none⟩)),(11,.pointer (some ⟨b10,0,none⟩)),(13,v152),(14,v24),(15,v32),(16,.int .i64 (i156))] (ms35++(ms27++(ck b10 51 [.one (.int .i64 (y9.1.gEpoch)),.ints .u8 32 (y9.1.gKey),.ints .u8 64 (y9.1.gSig)]::(ck b7 51 [.one (.int .i64 (y6.1.gEpoch)),.ints .u8 32 (y6.1.gKey),.ints .u8 64 (y6.1.gSig)]::(ck b4 51 [.one (.int .i64 (p3.gEpoch)),.ints .u8 32 (p3.gKey),.ints .u8 64 (p3.gSig)]::(ck b3 29 [.ints .u8 32 (p2)]::(ck b2 23 [.ints .u8 32 (p0)]::(ms153 ++ [])))))))) t m) big ?_ ?_
     ·exact ⟨y15.2,0,v16,ms19,h,O20,⟨⟨rfl,rfl,rfl,rfl,rfl,rfl,trivial⟩,(.all .here (.all .here (.one (.app .here) (.one (.app .here) (.one (.app .here) (.one (.app .here) (.one (.app .here) (.all .here .nil))))))))⟩⟩
     ·rintro n158 t m ⟨l154,i156,v152,ms153,h,O155,hF⟩
      refine Zg hF ?_
      clear hF
      rcases n158 with _ | n158
      · exact Z05 h
      have h:Z0o k129 (Z0f k129 n158) l154 i156=some r:=h
      unfold Z0o at h
      obtain ⟨k157,qk157⟩ : ∃ k,k=Z0f k129 n158:=⟨_,rfl⟩
      try rw [← qk157] at h
      refine Z0<|Z0<|Z2<|Z7 rfl<|Z7 rfl<|Z6 _ (Z25 rfl (Shp.own O155))<|Z6 _ (Z9 rfl rfl rfl)<|Z1<|Z07 h rfl (fun h=>?_) (fun h=>?_)
      ·refine Zk<|Z0<|Za<|cH h fun c162 h=>bH h fun l163 el163 h=>Z2<|Z7 rfl<|Z7 rfl<|Z6 _ (Z32 rfl rfl (Shp.own O155) c162)<|Zd (Zg1 (E:=(El.int .u8)) el163 O155 (.app (.app (.there (.there (.there (.there (.there .here))))))) rfl rfl rfl (Z01 c162) fun ms164 O165=>Z1<|bH h fun z167 ez167 h=>Z2<|Z7 rfl<|Z6 _ (iz ez167 (Z9 rfl rfl rfl))<|Z7 rfl<|Z1 ?_)
       rw [qk157] at h
       exact ⟨n158,Nat.lt_succ_self _,l163,z167,v152,ms164,h,O165,⟨⟨rfl,rfl,rfl,rfl,rfl,rfl,trivial⟩,(.all (.app .here) (.all (.app .here) (.one (.app .here) (.one (.app .here) (.one (.app .here) (.one (.app .here) (.one (.app .here) (.all .here .nil))))))))⟩⟩
      ·exact Zv _ rfl<|⟨l154,v152,ms153,h,O155,⟨⟨rfl,rfl,rfl,rfl,rfl,trivial⟩,(.all .here (.all .here (.one .here (.one .here (.one .here (.one .here (.one .here (.all .here .nil))))))))⟩⟩
    ·rintro t m ⟨l127,v125,ms126,h,O128,hF⟩
     refine Zg hF ?_
     clear hF
     subst qk129
     refine Z0<|Z2<|Z7 rfl<|Z7 rfl<|Z1<|Z0<|Z0<|Z2<|Z7 rfl<|Z1<|jH h fun k223 qk223 h=>Zh (G:=fun t m=>∃ (l221:List (Int)) (v219:Value) (ms220:List Zf),k223 l221=some r∧Z2u (El.int .u8) v125 l127 v219 l221 ms220∧Fit [(7,.pointer (some ⟨b4,0,none⟩)),(11,.pointer (some ⟨b10,0,none⟩)),(13,v125),(14,v24),(15,v32),(17,v219)] (ms35++(ms27++(ck b10 51 [.one (.int .i64 (y9.1.gEpoch)),.ints .u8 32 (y9.1.gKey),.ints .u8 64 (y9.1.gSig)]::(ck b7 51 [.one (.int .i64 (y6.1.gEpoch)),.ints .u8 32 (y6.1.gKey),.ints .u8 64 (y6.1.gSig)]::(ck b4 51 [.one (.int .i64 (p3.gEpoch)),.ints .u8 32 (p3.gKey),.ints .u8 64 (p3.gSig)]::(ck b3 29 [.ints .u8 32 (p2)]::(ck b2 23 [.ints .u8 32 (p0)]::(ms220 ++ [])))))))) t m) ?_ ?_
     ·refine Za<|Zo (fun n259 t m=>∃ (l255:List (Int)) (i257:Int) (v253:Value) (ms254:List Zf),Z0q k223 n259 l255 i257=some r∧Z2u (El.int .u8) v125 l127 v253 l255 ms254∧Fit [(7,.pointer (some ⟨b4,0,none⟩)),(11,.pointer (some ⟨b10,0,none⟩)),(13,v125),(14,v24),(15,v32),(17,v253),(18,.int .i64 (i257))] (ms35++(ms27++(ck b10 51 [.one (.int .i64 (y9.1.gEpoch)),.ints .u8 32 (y9.1.gKey),.ints .u8 64 (y9.1.gSig)]::(ck b7 51 [.one (.int .i64 (y6.1.gEpoch)),.ints .u8 32 (y6.1.gKey),.ints .u8 64 (y6.1.gSig)]::(ck b4 51 [.one (.int .i64 (p3.gEpoch)),.ints .u8 32 (p3.gKey),.ints .u8 64 (p3.gSig)]::(ck b3 29 [.ints .u8 32 (p2)]::(ck b2 23 [.ints .u8 32 (p0)]::(ms254 ++ [])))))))) t m) big ?_ ?_
      ·exact ⟨l127,0,v125,ms126,h,(Zf1.grow (Z0b.oin O128)),⟨⟨rfl,rfl,rfl,rfl,rfl,rfl,rfl,trivial⟩,(.all .here (.all .here (.one .here (.one .here (.one .here (.one .here (.one .here (.all .here .nil))))))))⟩⟩
      ·rintro n259 t m ⟨l255,i257,v253,ms254,h,G256,hF⟩
       refine Zg hF ?_
       clear hF
       rcases n259 with _ | n259
       · exact Z05 h
       have h:Z0p k223 (Z0q k223 n259) l255 i257=some r:=h
       unfold Z0p at h
       obtain ⟨k258,qk258⟩ : ∃ k,k=Z0q k223 n259:=⟨_,rfl⟩
       try rw [← qk258] at h
       refine Z0<|Z0<|Z2<|Z7 rfl<|Z6 _ (Z9 rfl rfl rfl)<|Z1<|Z07 h rfl (fun h=>?_) (fun h=>?_)
       ·refine Zk<|Z0<|Za<|cH h fun c266 h=>bH h fun l267 el267 h=>Z2<|Z7 rfl<|Zd (Z5h (E:=(El.int .u8)) (xs:=[68]) (.one rfl rfl rfl BdR.nil) (.cons (p:=[.one (.int .u8 (68))]) rfl .nil) rfl fun v263 ms264 O265=>Zd (Zml (E:=(El.int .u8)) el267 rfl G256 (.app (.app (.app (.there (.there (.there (.there (.there .here)))))))) rfl (Z0a O265 .here) c266 fun v268 ms269 O270=>Z7 rfl<|Z1<|bH h fun z272 ez272 h=>Z2<|Z7 rfl<|Z6 _ (iz ez272 (Z9 rfl rfl rfl))<|Z7 rfl<|Z1 ?_))
        rw [qk258] at h
        exact ⟨n259,Nat.lt_succ_self _,l267,z272,v268,ms269,h,O270,⟨⟨rfl,rfl,rfl,rfl,rfl,rfl,rfl,trivial⟩,(.all (.app (.app .here)) (.all (.app (.app .here)) (.one (.app (.app .here)) (.one (.app (.app .here)) (.one (.app (.app .here)) (.one (.app (.app .here)) (.one (.app (.app .here)) (.all .here .nil))))))))⟩⟩
       ·exact Zv _ rfl<|⟨l255,v253,ms254,h,G256,⟨⟨rfl,rfl,rfl,rfl,rfl,rfl,trivial⟩,(.all .here (.all .here (.one .here (.one .here (.one .here (.one .here (.one .here (.all .here .nil))))))))⟩⟩
     ·rintro t m ⟨l221,v219,ms220,h,G222,hF⟩
      refine Zg hF ?_
      clear hF
      subst qk223
      refine Z0<|jH h fun k304 qk304 h=>Zh (G:=fun t m=>∃ (i303:Bool),k304 i303=some r∧Fit [(8,.bool (i303))] (ck b10 51 [.one (.int .i64 (y9.1.gEpoch)),.ints .u8 32 (y9.1.gKey),.ints .u8 64 (y9.1.gSig)]::(ck b7 51 [.one (.int .i64 (y6.1.gEpoch)),.ints .u8 32 (y6.1.gKey),.ints .u8 64 (y6.1.gSig)]::(ck b4 51 [.one (.int .i64 (p3.gEpoch)),.ints .u8 32 (p3.gKey),.ints .u8 64 (p3.gSig)]::(ck b3 29 [.ints .u8 32 (p2)]::(ck b2 23 [.ints .u8 32 (p0)] :: []))))) t m) ?_ ?_
      ·refine Z2<|bH h fun z306 ez306 h=>Z7 rfl<|Z6 _ (Z25 rfl (Z2u.shp G222))<|Z7 rfl<|Z6 _ (Z25 rfl (Zf1.shp (Z2u.base G222)))<|Z6 _ (iz ez306 (Z9 rfl rfl rfl))<|Z6 _ (Z9 rfl rfl rfl)<|Z7 rfl<|Zty (tc:=89) h rfl (fun h=>?_) (fun h=>?_)
       ·refine oH h fun y307 ey307 h=>oH h fun y313 ey313 h=>Zd6 rfl _ (Z0u rfl)<|Zd6 rfl _ (Z00 (p:=[.one (.int .i64 (y9.1.gEpoch)),.ints .u8 32 (y9.1.gKey),.ints .u8 64 (y9.1.gSig)]) rfl (.app (.app .here)) rfl)<|Ztz rfl (Zz rfl (fun w hw=>Z26  ey307 ) fun v308 Msv308 R309=>?_)
        obtain ⟨_,ms311,rfl,rfl,O312⟩:=R309
        refine Zd6 rfl _ (Z08 rfl (fun w hw=>Z2m ey313 ((Z0a O28 (.app (.app .here))) w hw) ((Z0a O312 .here) w hw)))<|Z6 _ (Zjn rfl rfl)<|Z7 rfl<|Zty (tc:=95) h rfl (fun h=>?_) (fun h=>?_)
        ·refine oH h fun y314 ey314 h=>oH h fun y320 ey320 h=>Zd6 rfl _ (Z0u rfl)<|Zd6 rfl _ (Z00 (p:=[.one (.int .i64 (p3.gEpoch)),.ints .u8 32 (p3.gKey),.ints .u8 64 (p3.gSig)]) rfl (.app (.app (.app (.there (.there .here))))) rfl)<|Ztz rfl (Zz rfl (fun w hw=>Z26  ey314 ) fun v315 Msv315 R316=>?_)
         obtain ⟨_,ms318,rfl,rfl,O319⟩:=R316
         refine Zd6 rfl _ (Z08 rfl (fun w hw=>Z2m ey320 ((Z0a O36 (.app (.app .here))) w hw) ((Z0a O319 .here) w hw)))<|Z6 _ (Zjn rfl rfl)<|Z7 rfl<|Zty (tc:=101) h rfl (fun h=>?_) (fun h=>?_)
         ·refine oH h fun y321 ey321 h=>Zd6 rfl _ (Z0u rfl)<|Zd6 rfl _ (Z0u rfl)<|Ztz rfl (Z2i (mS:=ms220++ms27) rfl (Zyj (.app (.app (.app (.app (.there (.there (.there (.there (.there .here))))))))) (.app (.app (.app .here)))) (fun w hw=>Z7g  ey321 (Zsb hw (Zyj (.app (.app (.app (.app (.there (.there (.there (.there (.there .here))))))))) (.app (.app (.app .here))))) (Z2u.base G222) (Z0b.oin O28)) fun v322 Msv322 R323=>?_)
          obtain ⟨ms324,ms326,rfl,rfl,O325,O327⟩:=R323
          refine Z6 _ (Zjn rfl rfl)<|Z7 rfl<|Zty (tc:=106) h rfl (fun h=>?_) (fun h=>?_)
          ·refine oH h fun y328 ey328 h=>Zd6 rfl _ (Z0u rfl)<|Zd6 rfl _ (Z0u rfl)<|Ztz rfl (Z2i (mS:=ms326++ms35) rfl (Zyj (.app .here) (.app (.app (.app .here)))) (fun w hw=>Z7g  ey328 (Zsb hw (Zyj (.app .here) (.app (.app (.app .here))))) O327 (Z0b.oin O36)) fun v329 Msv329 R330=>?_)
           obtain ⟨ms331,ms333,rfl,rfl,O332,O334⟩:=R330
           exact Z6 _ (Zjn rfl rfl)<|Z7 rfl<|Z1<|⟨y328,h,⟨⟨rfl,trivial⟩,(.one (.app (.app (.app (.app (.app .here))))) (.one (.app (.app (.app (.app (.app .here))))) (.one (.app (.app (.app (.app (.app .here))))) (.one (.app (.app (.app (.app (.app .here))))) (.one (.app (.app (.app (.app (.app .here))))) .nil)))))⟩⟩
          ·exact Z3o rfl rfl<|Z3o rfl rfl<|Z3o rfl rfl<|Z6 _ (Zcw rfl rfl)<|Z7 rfl<|Z1<|⟨false,h,⟨⟨rfl,trivial⟩,(.one (.app (.app (.app (.app (.app .here))))) (.one (.app (.app (.app (.app (.app .here))))) (.one (.app (.app (.app (.app (.app .here))))) (.one (.app (.app (.app (.app (.app .here))))) (.one (.app (.app (.app (.app (.app .here))))) .nil)))))⟩⟩
         ·exact Z3o rfl rfl<|Z3o rfl rfl<|Z3o rfl rfl<|Z6 _ (Zcw rfl rfl)<|Z7 rfl<|Z3o rfl rfl<|Z3o rfl rfl<|Z3o rfl rfl<|Z6 _ (Zcw rfl rfl)<|Z7 rfl<|Z1<|⟨false,h,⟨⟨rfl,trivial⟩,(.one (.app (.app (.app (.app .here)))) (.one (.app (.app (.app (.app .here)))) (.one (.app (.app (.app (.app .here)))) (.one (.app (.app (.app (.app .here)))) (.one (.app (.app (.app (.app .here)))) .nil)))))⟩⟩
        ·exact Z3o rfl rfl<|Z3o rfl rfl<|Z3o rfl rfl<|Z3o rfl rfl<|Z6 _ (Zcw rfl rfl)<|Z7 rfl<|Z3o rfl rfl<|Z3o rfl rfl<|Z3o rfl rfl<|Z6 _ (Zcw rfl rfl)<|Z7 rfl<|Z3o rfl rfl<|Z3o rfl rfl<|Z3o rfl rfl<|Z6 _ (Zcw rfl rfl)<|Z7 rfl<|Z1<|⟨false,h,⟨⟨rfl,trivial⟩,(.one (.app (.app (.app .here))) (.one (.app (.app (.app .here))) (.one (.app (.app (.app .here))) (.one (.app (.app (.app .here))) (.one (.app (.app (.app .here))) .nil)))))⟩⟩
       ·exact Z3o rfl rfl<|Z3o rfl rfl<|Z3o rfl rfl<|Z3o rfl rfl<|Z6 _ (Zcw rfl rfl)<|Z7 rfl<|Z3o rfl rfl<|Z3o rfl rfl<|Z3o rfl rfl<|Z3o rfl rfl<|Z6 _ (Zcw rfl rfl)<|Z7 rfl<|Z3o rfl rfl<|Z3o rfl rfl<|Z3o rfl rfl<|Z6 _ (Zcw rfl rfl)<|Z7 rfl<|Z3o rfl rfl<|Z3o rfl rfl<|Z3o rfl rfl<|Z6 _ (Zcw rfl rfl)<|Z7 rfl<|Z1<|⟨false,h,⟨⟨rfl,trivial⟩,(.one (.app (.app .here)) (.one (.app (.app .here)) (.one (.app (.app .here)) (.one (.app (.app .here)) (.one (.app (.app .here)) .nil)))))⟩⟩
      ·rintro t m ⟨i303,h,hF⟩
       refine Zg hF ?_
       clear hF
       subst qk304
       refine Zm ?_
       revert h; refine Zw fun h=>?_
       subst h
       exact ⟨_,(.cons (.tmp rfl) .nil),rfl⟩
end Go.Proofs.YtiflckckekjbnaaGreatDoor

namespace Go.Proofs.YtiflckckekjbnaaGreatDoor
open Go Go.Sx Go.RowKit
set_option linter.all false
theorem Zcu (x:Int):IntKind.u64.wrap x=x%18446744073709551616:=by simp [IntKind.wrap,IntKind.bits,IntKind.signed]
theorem Z0d (x:Int):IntKind.u8.wrap x=x%256:=by simp [IntKind.wrap,IntKind.bits,IntKind.signed]
theorem Zb {x:Int} (h0:0≤x) (h1:x<18446744073709551616):IntKind.u64.wrap x=x:=by rw [Zcu]; omega
theorem Ze {x:Int} (h0 : -9223372036854775808≤x) (h1:x≤9223372036854775807):IntKind.i64.wrap x=x:=by rw [IntKind.wrap_i64]; omega
theorem bv64 (m:Nat) (h:m<18446744073709551616):(BitVec.ofInt 64 (m:Int)).toNat=m:=by
  rw [BitVec.toNat_ofInt]; simp; omega
theorem bv8 (m:Nat) (h:m<256):(BitVec.ofInt 8 (m:Int)).toNat=m:=by
  rw [BitVec.toNat_ofInt]; simp; omega
theorem Z0vg {x y:Int} (m n:Nat) (hx:x=m) (hy:y=n) (h1:m<18446744073709551616) (h2:n<18446744073709551616):Z4 .and .u64 x y=((m &&& n:Nat):Int):=by
  subst hx; subst hy
  show IntKind.u64.wrap (((BitVec.ofInt 64 (m:Int) &&& BitVec.ofInt 64 (n:Int)).toNat:Nat):Int)=_
  rw [BitVec.toNat_and,bv64 m h1,bv64 n h2,Zb (by omega)]
  have:m &&& n≤m:=Nat.and_le_left
  omega
theorem or64 {x y:Int} (m n:Nat) (hx:x=m) (hy:y=n) (h1:m<18446744073709551616) (h2:n<18446744073709551616):Z4 .or .u64 x y=((m ||| n:Nat):Int):=by
  subst hx; subst hy
  show IntKind.u64.wrap (((BitVec.ofInt 64 (m:Int) ||| BitVec.ofInt 64 (n:Int)).toNat:Nat):Int)=_
  rw [BitVec.toNat_or,bv64 m h1,bv64 n h2,Zb (by omega)]
  have:m ||| n<2^64:=Nat.or_lt_two_pow (by simpa using h1) (by simpa using h2)
  simp at this; omega
theorem Zgv (k:Nat) {x y:Int} (hy:y=((2^k-1:Nat):Int)) (hk:2^k≤18446744073709551616) (h0:0≤x) (h1:x<18446744073709551616):Z4 .and .u64 x y=x%((2^k:Nat):Int):=by
  have hp:0<2^k:=Nat.pow_pos (by decide)
  rw [Z0vg x.toNat (2^k-1) (by omega) hy (by omega) (by omega),Nat.and_two_pow_sub_one_eq_mod]
  rw [Int.natCast_emod]
  congr 1; omega
theorem Zmi {x:Int} (h0:0≤x) (h1:x<18446744073709551616):Z4 .and .u64 x 2251799813685247=x%2251799813685248:=Zgv 51 (by decide) (by decide) h0 h1
theorem Z00w {x:Int} (h0:0≤x) (h1:x<18446744073709551616):Z4 .and .u64 x 4294967295=x%4294967296:=Zgv 32 (by decide) (by decide) h0 h1
theorem Zrq (k:Nat) {x y a:Int} (hx:x=a*((2^k:Nat):Int)) (ha:0≤a) (h0:0≤y) (hy:y<((2^k:Nat):Int)) (h1:x+y<18446744073709551616):Z4 .or .u64 x y=x+y:=by
  have hp:(0:Int)≤((2^k:Nat):Int):=Int.natCast_nonneg _
  have hx0:0≤x:=by rw [hx]; exact Int.mul_nonneg ha hp
  rw [or64 x.toNat y.toNat (by omega) (by omega) (by omega) (by omega)]
  have e:x.toNat=a.toNat <<< k:=by
    rw [Nat.shiftLeft_eq]
    have:(x.toNat:Int)=((a.toNat*2^k:Nat):Int):=by
      rw [Int.natCast_mul,Int.toNat_of_nonneg hx0,Int.toNat_of_nonneg ha,hx]
    exact Int.ofNat_inj.1 this
  rw [e,← Nat.shiftLeft_add_eq_or_of_lt (by omega:y.toNat<2^k),← e]
  omega
theorem Z93 (k:IntKind) {x:Int} {n:Nat} (h:n≤k.bits):Zn k x (n:Int)=x / ((2^n:Nat):Int):=by
  simp only [Zn,Int.toNat_natCast,Nat.min_eq_left h]
  rw [Int.fdiv_eq_ediv_of_nonneg]
  · simp
  · exact Int.le_of_lt (Int.pow_pos (by decide))
theorem Ztu (x:Int):Zn .u64 x 51=x / 2251799813685248:=by have:=Z93 .u64 (x:=x) (n:=51) (by decide); simpa using this
theorem Z18a (x:Int):Zn .u64 x 32=x / 4294967296:=by have:=Z93 .u64 (x:=x) (n:=32) (by decide); simpa using this
theorem Zeg (k:IntKind) {x:Int} {n:Nat} (h:n≤k.bits):Zj k x (n:Int)=k.wrap (x*((2^n:Nat):Int)):=by
  simp only [Zj,Int.toNat_natCast,Nat.min_eq_left h]
  simp
theorem Z0up (x:Int):Zj .u64 x 13=(x*8192)%18446744073709551616:=by have:=Zeg .u64 (x:=x) (n:=13) (by decide); rw [Zcu] at this; simpa using this
section
variable {α β:Type}
theorem Zl (x:α) (f:α→Option β):bnd x f=f x:=by
  have h : ∀ y,y=bnd x f→y=f x:=fun y e=>e
  exact h _ rfl
theorem Zy {c:Bool} {o:Option β} (h:c=true):chk c o=o:=by subst h; rfl
theorem Z3 {o:Option α} {f:α→Option β} {y:α} (h:o=some y):opt o f=f y:=by subst h; rfl
theorem Z15 {c:Bool} {a b:Option β} (h:c=true):br c a b=a:=by subst h; rfl
theorem Z0x {c:Bool} {a b:Option β} (h:c=false):br c a b=b:=by subst h; rfl
theorem Z12 {K:Type} (k:K) (g:K→Option β):jn k g=g k:=by
  have h : ∀ y,y=jn k g→y=g k:=fun y e=>e
  exact h _ rfl
end
theorem Z0n {z:Int} {n:Nat} (h0:0≤z) (h1:z<n):inB z n=true:=by simp [inB,h0,h1]
abbrev PP:Int:=57896044618658097711785492504343953926634992332820282019728792003956564819949
abbrev M51:Int:=2251799813685248
def Z6s (x:List Int):Int:=x.getD 0 0+x.getD 1 0*2251799813685248+x.getD 2 0*5070602400912917605986812821504+x.getD 3 0*11417981541647679048466287755595961091061972992+x.getD 4 0*25711008708143844408671393477458601640355247900524685364822016
structure U5 (x:List Int):Prop where
  a0:0≤x.getD 0 0
  a1:0≤x.getD 1 0
  a2:0≤x.getD 2 0
  a3:0≤x.getD 3 0
  a4:0≤x.getD 4 0
  b0:x.getD 0 0<18446744073709551616
  b1:x.getD 1 0<18446744073709551616
  b2:x.getD 2 0<18446744073709551616
  b3:x.getD 3 0<18446744073709551616
  b4:x.getD 4 0<18446744073709551616
def Zjd (n:Int):List Int:=[n%M51,n / M51%M51,n / (M51*M51)%M51,n / (M51*M51*M51)%M51,n / (M51*M51*M51*M51)%M51]
theorem Zpw {n d0 d1 d2 d3 d4:Int} (h:n=d0+d1*2251799813685248+d2*5070602400912917605986812821504+d3*11417981541647679048466287755595961091061972992+d4*25711008708143844408671393477458601640355247900524685364822016)
    (h0:0≤d0∧d0<2251799813685248) (h1:0≤d1∧d1<2251799813685248) (h2:0≤d2∧d2<2251799813685248) (h3:0≤d3∧d3<2251799813685248) (h4:0≤d4∧d4<2251799813685248) : [d0,d1,d2,d3,d4]=Zjd n:=by
  unfold Zjd
  simp only [M51,List.cons.injEq,and_true]
  refine ⟨?_,?_,?_,?_,?_⟩ <;> omega
theorem Zjf {n:Int} (h0:0≤n) (h1:n<PP):Z6s (Zjd n)=n:=by
  simp only [Z6s,Zjd,M51,PP,List.getD_cons_zero,List.getD_cons_succ] at *
  omega
theorem Zpv (n:Int):U5 (Zjd n):=by
  constructor <;> simp only [Zjd,M51,List.getD_cons_zero,List.getD_cons_succ] <;> omega
set_option maxRecDepth 100000
def Z9x (x:List Int):List Int :=
  [x.getD 0 0%2251799813685248+x.getD 4 0 / 2251799813685248*19,x.getD 1 0%2251799813685248+x.getD 0 0 / 2251799813685248,x.getD 2 0%2251799813685248+x.getD 1 0 / 2251799813685248,
   x.getD 3 0%2251799813685248+x.getD 2 0 / 2251799813685248,x.getD 4 0%2251799813685248+x.getD 3 0 / 2251799813685248]
theorem Zen {x:List Int} (h:U5 x):Z45 x=some (Z9x x):=by
  have ⟨a0,a1,a2,a3,a4,b0,b1,b2,b3,b4⟩:=h
  simp only [Z45,Zl,Ztu,Zcu,Zmi a0 b0,Zmi a1 b1,Zmi a2 b2,Zmi a3 b3,Zmi a4 b4,Z9x]
  simp only [Option.some.injEq,List.cons.injEq,and_true]
  refine ⟨?_,?_,?_,?_,?_⟩ <;> omega
structure C5 (x:List Int) (e:Int):Prop where
  a0:0≤x.getD 0 0
  a1:0≤x.getD 1 0
  a2:0≤x.getD 2 0
  a3:0≤x.getD 3 0
  a4:0≤x.getD 4 0
  b0:x.getD 0 0<2251799813685248+e
  b1:x.getD 1 0<2251799813685248+e
  b2:x.getD 2 0<2251799813685248+e
  b3:x.getD 3 0<2251799813685248+e
  b4:x.getD 4 0<2251799813685248+e
theorem C5.u {x:List Int} {e:Int} (h:C5 x e) (he:e≤1125899906842624):U5 x:=by
  have ⟨a0,a1,a2,a3,a4,b0,b1,b2,b3,b4⟩:=h
  constructor <;> omega
theorem Zun {x:List Int} (h:U5 x):C5 (Z9x x) 262144:=by
  have ⟨a0,a1,a2,a3,a4,b0,b1,b2,b3,b4⟩:=h
  constructor <;> simp only [Z9x,List.getD_cons_zero,List.getD_cons_succ] <;> omega
theorem Z061 {x:List Int} (h:C5 x 262144):C5 (Z9x x) 20:=by
  have ⟨a0,a1,a2,a3,a4,b0,b1,b2,b3,b4⟩:=h
  constructor <;> simp only [Z9x,List.getD_cons_zero,List.getD_cons_succ] <;> omega
theorem Z01n {x:List Int} : ∃ q,Z6s x=Z6s (Z9x x)+q*PP:=by
  refine ⟨x.getD 4 0 / 2251799813685248,?_⟩
  simp only [Z6s,Z9x,PP,List.getD_cons_zero,List.getD_cons_succ]
  omega
theorem Zgx {x:List Int}:Z6s (Z9x x)%PP=Z6s x%PP:=by
  obtain ⟨q,hq⟩:=Z01n (x:=x)
  rw [hq,Int.add_mul_emod_self_right]
def Zkv (x:List Int):List Int:=Zjd (Z6s x%PP)
abbrev shw (x:Int):Int:=Zn .u64 x 51
abbrev wuu (x:Int):Int:=IntKind.wrap .u64 x
abbrev low (x:Int):Int:=Z4 .and .u64 x 2251799813685247
def rQ (y1 y2 y3 y4 q:Int):Int:=shw (wuu (y4+shw (wuu (y3+shw (wuu (y2+shw (wuu (y1+q))))))))
def rr0 (y0 Q:Int):Int:=wuu (y0+wuu (19*Q))
theorem Z04v (y0 y1 y2 y3 y4 q:Int):Z4d [y0,y1,y2,y3,y4] (fun i46=>Z4e (fun a149=>some (Z21 a149 4 (Z4 .and .u64 (a149.getD 4 0) 2251799813685247))) big 0 (Z21 [y0,y1,y2,y3,y4] 0 (IntKind.wrap .u64 (y0+IntKind.wrap .u64 (19*i46))))) big q 0 =
    some [low (rr0 y0 (rQ y1 y2 y3 y4 q)),low (wuu (y1+shw (rr0 y0 (rQ y1 y2 y3 y4 q)))),low (wuu (y2+shw (wuu (y1+shw (rr0 y0 (rQ y1 y2 y3 y4 q)))))),
      low (wuu (y3+shw (wuu (y2+shw (wuu (y1+shw (rr0 y0 (rQ y1 y2 y3 y4 q)))))))),low (wuu (y4+shw (wuu (y3+shw (wuu (y2+shw (wuu (y1+shw (rr0 y0 (rQ y1 y2 y3 y4 q)))))))))) ]:=by kernel_rfl
theorem Zry {y q:Int} (hy:0≤y∧y<2251799813685268) (hq:0≤q∧q≤1) : ∃ q' s,shw (wuu (y+q))=q'∧y+q=2251799813685248*q'+s∧(0≤s∧s<2251799813685248)∧(0≤q'∧q'≤1):=by
  refine ⟨(y+q) / 2251799813685248,(y+q)%2251799813685248,?_,by omega,by omega,by omega⟩
  rw [shw,Ztu,wuu,Zb (by omega) (by omega)]
theorem Zox {y r:Int} (hy:0≤y∧y<2251799813685268) (hr:0≤r∧r<4503599627370496) : ∃ c d r',shw r=c∧low r=d∧r=2251799813685248*c+d∧(0≤d∧d<2251799813685248)∧wuu (y+c)=r'∧r'=y+c∧(0≤r'∧r'<4503599627370496):=by
  refine ⟨r / 2251799813685248,r%2251799813685248,y+r / 2251799813685248,Ztu _,Zmi hr.1 (by omega),by omega,by omega,Zb (by omega) (by omega),rfl,by omega⟩
theorem Zyw {y0 y1 y2 y3 y4 q0 q1 q2 q3 q4 s0 s1 s2 s3 s4 c0 c1 c2 c3 c4 d0 d1 d2 d3 d4:Int}
    (h0:y0+19=2251799813685248*q0+s0) (h1:y1+q0=2251799813685248*q1+s1) (h2:y2+q1=2251799813685248*q2+s2) (h3:y3+q2=2251799813685248*q3+s3) (h4:y4+q3=2251799813685248*q4+s4)
    (k0:y0+19*q4=2251799813685248*c0+d0) (k1:y1+c0=2251799813685248*c1+d1) (k2:y2+c1=2251799813685248*c2+d2) (k3:y3+c2=2251799813685248*c3+d3) (k4:y4+c3=2251799813685248*c4+d4)
    (t0:0≤s0∧s0<2251799813685248) (t1:0≤s1∧s1<2251799813685248) (t2:0≤s2∧s2<2251799813685248) (t3:0≤s3∧s3<2251799813685248) (t4:0≤s4∧s4<2251799813685248)
    (u0:0≤d0∧d0<2251799813685248) (u1:0≤d1∧d1<2251799813685248) (u2:0≤d2∧d2<2251799813685248) (u3:0≤d3∧d3<2251799813685248) (u4:0≤d4∧d4<2251799813685248) (hq:0≤q4∧q4≤1) (hy:0≤(y0+y1*2251799813685248+y2*5070602400912917605986812821504+y3*11417981541647679048466287755595961091061972992+y4*25711008708143844408671393477458601640355247900524685364822016)∧(y0+y1*2251799813685248+y2*5070602400912917605986812821504+y3*11417981541647679048466287755595961091061972992+y4*25711008708143844408671393477458601640355247900524685364822016)<115792089237316195423570985008687907853269984665640564039457584007913129639836) :
    (y0+y1*2251799813685248+y2*5070602400912917605986812821504+y3*11417981541647679048466287755595961091061972992+y4*25711008708143844408671393477458601640355247900524685364822016)-q4*PP=(d0+d1*2251799813685248+d2*5070602400912917605986812821504+d3*11417981541647679048466287755595961091061972992+d4*25711008708143844408671393477458601640355247900524685364822016)∧0≤(d0+d1*2251799813685248+d2*5070602400912917605986812821504+d3*11417981541647679048466287755595961091061972992+d4*25711008708143844408671393477458601640355247900524685364822016)∧(d0+d1*2251799813685248+d2*5070602400912917605986812821504+d3*11417981541647679048466287755595961091061972992+d4*25711008708143844408671393477458601640355247900524685364822016)<PP:=by
  have e1:(y0+y1*2251799813685248+y2*5070602400912917605986812821504+y3*11417981541647679048466287755595961091061972992+y4*25711008708143844408671393477458601640355247900524685364822016)+19=q4*57896044618658097711785492504343953926634992332820282019728792003956564819968+(s0+s1*2251799813685248+s2*5070602400912917605986812821504+s3*11417981541647679048466287755595961091061972992+s4*25711008708143844408671393477458601640355247900524685364822016):=by omega
  have e2:(y0+y1*2251799813685248+y2*5070602400912917605986812821504+y3*11417981541647679048466287755595961091061972992+y4*25711008708143844408671393477458601640355247900524685364822016)+19*q4=c4*57896044618658097711785492504343953926634992332820282019728792003956564819968+(d0+d1*2251799813685248+d2*5070602400912917605986812821504+d3*11417981541647679048466287755595961091061972992+d4*25711008708143844408671393477458601640355247900524685364822016):=by omega
  have b1:0≤(s0+s1*2251799813685248+s2*5070602400912917605986812821504+s3*11417981541647679048466287755595961091061972992+s4*25711008708143844408671393477458601640355247900524685364822016)∧(s0+s1*2251799813685248+s2*5070602400912917605986812821504+s3*11417981541647679048466287755595961091061972992+s4*25711008708143844408671393477458601640355247900524685364822016)<57896044618658097711785492504343953926634992332820282019728792003956564819968:=by omega
  have b2:0≤(d0+d1*2251799813685248+d2*5070602400912917605986812821504+d3*11417981541647679048466287755595961091061972992+d4*25711008708143844408671393477458601640355247900524685364822016)∧(d0+d1*2251799813685248+d2*5070602400912917605986812821504+d3*11417981541647679048466287755595961091061972992+d4*25711008708143844408671393477458601640355247900524685364822016)<57896044618658097711785492504343953926634992332820282019728792003956564819968:=by omega
  generalize (y0+y1*2251799813685248+y2*5070602400912917605986812821504+y3*11417981541647679048466287755595961091061972992+y4*25711008708143844408671393477458601640355247900524685364822016)=V at *
  generalize (d0+d1*2251799813685248+d2*5070602400912917605986812821504+d3*11417981541647679048466287755595961091061972992+d4*25711008708143844408671393477458601640355247900524685364822016)=D at *
  generalize (s0+s1*2251799813685248+s2*5070602400912917605986812821504+s3*11417981541647679048466287755595961091061972992+s4*25711008708143844408671393477458601640355247900524685364822016)=S at *
  clear h0 h1 h2 h3 h4 k0 k1 k2 k3 k4 t0 t1 t2 t3 t4 u0 u1 u2 u3 u4
  simp only [PP]
  have hc:q4=0∨q4=1:=by omega
  rcases hc with rfl | rfl
  · obtain rfl:c4=0:=by omega
    omega
  · obtain rfl:c4=1:=by omega
    omega
theorem Z90 {x:List Int} (h:U5 x):Z27 x=some (Zkv x):=by
  have h1:=Zun h
  have h2:=Z061 h1
  have hm:Z6s (Z9x (Z9x x))%PP=Z6s x%PP:=by rw [Zgx,Zgx]
  rw [Z27,Z3 (Zen h),Z3 (Zen (h1.u (by decide)))]
  unfold Zkv
  rw [← hm]
  have hl:Z9x (Z9x x) = [(Z9x (Z9x x)).getD 0 0,(Z9x (Z9x x)).getD 1 0,(Z9x (Z9x x)).getD 2 0,(Z9x (Z9x x)).getD 3 0,(Z9x (Z9x x)).getD 4 0]:=rfl
  generalize Z9x (Z9x x)=y at *
  have ⟨a0,a1,a2,a3,a4,b0,b1,b2,b3,b4⟩:=h2
  simp only [Zl,Z12,Z6s]
  generalize y.getD 0 0=y0 at *
  generalize y.getD 1 0=y1 at *
  generalize y.getD 2 0=y2 at *
  generalize y.getD 3 0=y3 at *
  generalize y.getD 4 0=y4 at *
  rw [hl,Z04v]
  congr 1
  clear hl h1 h2 hm h
  have e0:Zn .u64 (IntKind.wrap .u64 (y0+19)) 51=(y0+19) / 2251799813685248:=by rw [Ztu,Zb (by omega) (by omega)]
  obtain ⟨q0,s0,hq0,hs0,hs0',hq0'⟩ : ∃ q s,(y0+19) / 2251799813685248=q∧y0+19=2251799813685248*q+s∧(0≤s∧s<2251799813685248)∧(0≤q∧q≤1):=⟨_,(y0+19)%2251799813685248,rfl,by omega,by omega,by omega⟩
  rw [e0,hq0]
  obtain ⟨q1,s1,e1,hs1,hs1',hq1'⟩:=Zry (y:=y1) (q:=q0) (by omega) hq0'
  obtain ⟨q2,s2,e2,hs2,hs2',hq2'⟩:=Zry (y:=y2) (q:=q1) (by omega) hq1'
  obtain ⟨q3,s3,e3,hs3,hs3',hq3'⟩:=Zry (y:=y3) (q:=q2) (by omega) hq2'
  obtain ⟨q4,s4,e4,hs4,hs4',hq4'⟩:=Zry (y:=y4) (q:=q3) (by omega) hq3'
  have f0:rr0 y0 q4=y0+19*q4:=by rw [rr0,wuu,wuu,Zb (x:=19*q4) (by omega) (by omega),Zb (by omega) (by omega)]
  have hy:0≤(y0+y1*2251799813685248+y2*5070602400912917605986812821504+y3*11417981541647679048466287755595961091061972992+y4*25711008708143844408671393477458601640355247900524685364822016)∧(y0+y1*2251799813685248+y2*5070602400912917605986812821504+y3*11417981541647679048466287755595961091061972992+y4*25711008708143844408671393477458601640355247900524685364822016)<115792089237316195423570985008687907853269984665640564039457584007913129639836:=by omega
  unfold rQ
  rw [e1,e2,e3,e4,f0]
  obtain ⟨c0,d0,r1,g0,l0,k0,u0,w1,v1,z1⟩:=Zox (y:=y1) (r:=y0+19*q4) (by omega) (by omega)
  rw [g0,l0,w1]
  obtain ⟨c1,d1,r2,g1,l1,k1,u1,w2,v2,z2⟩:=Zox (y:=y2) (r:=r1) (by omega) z1
  rw [g1,l1,w2]
  obtain ⟨c2,d2,r3,g2,l2,k2,u2,w3,v3,z3⟩:=Zox (y:=y3) (r:=r2) (by omega) z2
  rw [g2,l2,w3]
  obtain ⟨c3,d3,r4,g3,l3,k3,u3,w4,v4,z4⟩:=Zox (y:=y4) (r:=r3) (by omega) z3
  rw [g3,l3,w4]
  obtain ⟨c4,d4,r5,g4,l4,k4,u4,w5,v5,z5⟩:=Zox (y:=y4) (r:=r4) (by omega) z4
  rw [l4]
  subst v1 v2 v3 v4
  obtain ⟨hv,hlo⟩:=Zyw hs0 hs1 hs2 hs3 hs4 k0 k1 k2 k3 k4 hs0' hs1' hs2' hs3' hs4' u0 u1 u2 u3 u4 hq4' hy
  refine Zpw ?_ u0 u1 u2 u3 u4
  rw [← hv] at hlo ⊢
  rw [← Int.emod_eq_of_lt hlo.1 hlo.2,Int.sub_mul_emod_self_right]
theorem Zdn {a b:Int} {A B:Int} (ha:0≤a∧a≤A) (hb:0≤b∧b≤B):0≤a*b∧a*b≤A*B :=
  ⟨Int.mul_nonneg ha.1 hb.1,Int.mul_le_mul ha.2 hb.2 hb.1 (Int.le_trans ha.1 ha.2)⟩
theorem Zrl {x y:Int} (hx:0≤x∧x<18446744073709551616) (hy:0≤y∧y<18446744073709551616) :
    Z4f x y=some (x*y / 18446744073709551616,x*y%18446744073709551616):=by
  simp only [Z4f,Zl,Z00w hx.1 hx.2,Z00w hy.1 hy.2,Z18a]
  have ex:x=x / 4294967296*4294967296+x%4294967296:=by omega
  have ey:y=y / 4294967296*4294967296+y%4294967296:=by omega
  have bxl:0≤x%4294967296∧x%4294967296≤4294967295:=by omega
  have byl:0≤y%4294967296∧y%4294967296≤4294967295:=by omega
  have bxh:0≤x / 4294967296∧x / 4294967296≤4294967295:=by omega
  have byh:0≤y / 4294967296∧y / 4294967296≤4294967295:=by omega
  have hxy:x*y=x / 4294967296*(y / 4294967296)*18446744073709551616+(x / 4294967296*(y%4294967296)+x%4294967296*(y / 4294967296))*4294967296+x%4294967296*(y%4294967296):=by
    conv=>lhs; rw [ex,ey]
    generalize x / 4294967296=a
    generalize x%4294967296=b
    generalize y / 4294967296=c
    generalize y%4294967296=d
    grind
  have p00:=Zdn bxl byl
  have p10:=Zdn bxh byl
  have p01:=Zdn bxl byh
  have p11:=Zdn bxh byh
  rw [hxy]
  generalize x%4294967296*(y%4294967296)=A at *
  generalize x / 4294967296*(y%4294967296)=B at *
  generalize x%4294967296*(y / 4294967296)=D at *
  generalize x / 4294967296*(y / 4294967296)=F at *
  clear hxy ex ey bxl byl bxh byh
  rw [Zb (x:=A) (by omega) (by omega),Zb (x:=B) (by omega) (by omega),Zb (x:=D) (by omega) (by omega),Zb (x:=F) (by omega) (by omega)]
  rw [Zb (x:=B+A / 4294967296) (by omega) (by omega),Z00w (by omega) (by omega)]
  rw [Zb (x:=(B+A / 4294967296)%4294967296+D) (by omega) (by omega),Zb (x:=F+(B+A / 4294967296) / 4294967296) (by omega) (by omega)]
  rw [Zb (by omega) (by omega),Zcu]
  congr 1
  refine Prod.ext ?_ rfl
  show F+(B+A / 4294967296) / 4294967296+((B+A / 4294967296)%4294967296+D) / 4294967296=_
  omega
def Zhs (s:Int):Int:=s / 18446744073709551616
def Zeo (s:Int):Int:=s%18446744073709551616
theorem Zmg (a b c:Int):Z9w a b c=(a+b+c)%18446744073709551616:=rfl
theorem Zij (a b c:Int):Zfi a b c=(a+b+c) / 18446744073709551616:=rfl
theorem Zx8 {xs:List Int} {o L:Nat} {s a c:Int} (hs:0≤s) (h1:xs.getD o 0=Zhs s) (h2:xs.getD (o+1) 0=Zeo s) (hL:o+1<L) (ha:0≤a∧a<18446744073709551616) (hc:0≤c∧c<18446744073709551616)
    (hb:s+a*c<340282366920938463463374607431768211456) :
    Z2b xs o L a c=some (Z21 (Z21 xs (o+1) (Zeo (s+a*c))) o (Zhs (s+a*c))):=by
  have hp:=Zdn (A:=18446744073709551615) (B:=18446744073709551615) (a:=a) (b:=c) (by omega) (by omega)
  rw [Z2b,Z3 (Zrl ha hc)]
  rw [Zy (by simpa using hL)]
  simp only [Zl,h2]
  have e1:Zeo s+a*c%18446744073709551616=Zeo s+a*c%18446744073709551616:=rfl
  generalize a*c=p at *
  have hlo:0≤Zeo s∧Zeo s<18446744073709551616:=by unfold Zeo; omega
  have hhi:0≤Zhs s∧Zhs s<18446744073709551616:=by unfold Zhs; omega
  rw [Zy (by simp [Zd1]; omega),Zy (by simpa using hL),Zy (by simp; omega)]
  simp only [Nat.add_zero,Z0s]
  rw [if_neg (by omega),h1,Zy (by simp [Zd1,Zij]; omega),Zy (by simp; omega)]
  simp only [Zmg,Zij]
  congr 2
  · congr 1
    unfold Zeo; omega
  · unfold Zhs Zeo; omega
def Zki (S:Nat→Int):List Int:=[Zhs (S 0),Zeo (S 0),Zhs (S 1),Zeo (S 1),Zhs (S 2),Zeo (S 2),Zhs (S 3),Zeo (S 3),Zhs (S 4),Zeo (S 4)]
theorem Ztx {S T:Nat→Int} (h : ∀ k,k<5→S k=T k):Zki S=Zki T:=by
  simp only [Zki,h 0 (by decide),h 1 (by decide),h 2 (by decide),h 3 (by decide),h 4 (by decide)]
def updN (S:Nat→Int) (k:Nat) (v:Int):Nat→Int:=fun j=>if j=k then v else S j
theorem Zso {S:Nat→Int} {k:Nat} {a c:Int} (hk:k<5) (hs:0≤S k) (ha:0≤a∧a<18446744073709551616) (hc:0≤c∧c<18446744073709551616) (hb:S k+a*c<340282366920938463463374607431768211456) :
    Z2b (Zki S) (0+k*2) 10 a c=some (Zki (updN S k (S k+a*c))):=by
  have h1:(Zki S).getD (0+k*2) 0=Zhs (S k):=by
    match k,hk with
    | 0,_=>rfl
    | 1,_=>rfl
    | 2,_=>rfl
    | 3,_=>rfl
    | 4,_=>rfl
  have h2:(Zki S).getD (0+k*2+1) 0=Zeo (S k):=by
    match k,hk with
    | 0,_=>rfl
    | 1,_=>rfl
    | 2,_=>rfl
    | 3,_=>rfl
    | 4,_=>rfl
  rw [Zx8 hs h1 h2 (by omega) ha hc hb]
  congr 1
  match k,hk with
  | 0,_=>rfl
  | 1,_=>rfl
  | 2,_=>rfl
  | 3,_=>rfl
  | 4,_=>rfl
def Zmt (x:Int) (y:List Int) (i j:Nat):Int:=x*(if i+j<5 then y.getD j 0 else 19*y.getD j 0)
theorem Zvj {y:List Int} {i j:Nat} {kk:List Int→Option (List Int)} {k':Int→List Int→Option (List Int)} {x:Int} {S:Nat→Int} {T:Int} (hi:i<5) (hj:j<5) (hx:0≤x∧x≤2251799813947392) (hy : ∀ j,j<5→0≤y.getD j 0∧y.getD j 0≤2251799813947392)
    (hS : ∀ k,k<5→0≤S k∧S k≤T) (hT:T≤100000000000000000000000000000000000) :
    Z5j y (i:Int) x kk k' (j:Int) (Zki S)=k' ((j+1:Nat):Int) (Zki (updN S ((i+j)%5) (S ((i+j)%5)+Zmt x y i j))):=by
  have hyj:=hy j hj
  rw [Z5j,Z15 (by simp; omega),Z12,Zy (Z0n (by omega) (by omega))]
  simp only [Zl,Int.toNat_natCast]
  have hij:IntKind.wrap .i64 ((i:Int)+(j:Int))=((i+j:Nat):Int):=by rw [Ze (by omega) (by omega)]; omega
  have hj1:IntKind.wrap .i64 ((j:Int)+1)=((j+1:Nat):Int):=by rw [Ze (by omega) (by omega)]; omega
  rw [hij,hj1]
  have hSk:=hS ((i+j)%5) (Nat.mod_lt _ (by decide))
  by_cases h:i+j<5
  · have hm:(i+j)%5=i+j:=Nat.mod_eq_of_lt h
    rw [hm] at hSk ⊢
    have hp:=Zdn hx hyj
    rw [Z15 (by simp; omega),Zy (Z0n (by omega) (by omega)),Z3 (Zso (S:=S) (k:=((i+j:Nat):Int).toNat) (by omega) (by rw [Int.toNat_natCast]; exact hSk.1) (by omega) (by omega) (by rw [Int.toNat_natCast]; omega))]
    simp only [Int.toNat_natCast,Zmt,if_pos h]
  · have hm:(i+j)%5=i+j-5:=by omega
    rw [hm] at hSk ⊢
    have h5:IntKind.wrap .i64 (((i+j:Nat):Int)-5)=((i+j-5:Nat):Int):=by rw [Ze (by omega) (by omega)]; omega
    have h19:IntKind.wrap .u64 (19*y.getD j 0)=19*y.getD j 0:=Zb (by omega) (by omega)
    rw [h5,h19]
    have hp:=Zdn (b:=19*y.getD j 0) (B:=42784196465000448) hx (by omega)
    rw [Z0x (by simp; omega),Zy (Z0n (by omega) (by omega)),Z3 (Zso (S:=S) (k:=((i+j-5:Nat):Int).toNat) (by omega) (by rw [Int.toNat_natCast]; exact hSk.1) (by omega) (by omega) (by rw [Int.toNat_natCast]; omega))]
    simp only [Int.toNat_natCast,Zmt,if_neg h]
theorem Zya {y:List Int} {i:Nat} {kk:List Int→Option (List Int)} {k':Int→List Int→Option (List Int)} {x:Int} {a:List Int} (hi:i<5):Z5j y (i:Int) x kk k' 5 a=kk a:=by
  rw [Z5j,Z0x (by decide)]
theorem Zy8 {x:Int} {y:List Int} {i j:Nat} (hj:j<5) (hx:0≤x∧x≤2251799813947392) (hy : ∀ j,j<5→0≤y.getD j 0∧y.getD j 0≤2251799813947392):0≤Zmt x y i j∧Zmt x y i j≤96341445639776675308685928431616:=by
  have hyj:=hy j hj
  unfold Zmt
  split
  · have:=Zdn hx hyj; omega
  · have:=Zdn (b:=19*y.getD j 0) (B:=42784196465000448) hx (by omega); omega
theorem Z0uw {S:Nat→Int} {T v:Int} {k:Nat} (hS : ∀ k,k<5→0≤S k∧S k≤T) (hv:0≤v∧v≤T+96341445639776675308685928431616) : ∀ j,j<5→0≤updN S k v j∧updN S k v j≤T+96341445639776675308685928431616:=by
  intro j hj
  have:=hS j hj
  unfold updN
  split <;> omega
def inn (S:Nat→Int) (x:Int) (y:List Int) (i:Nat):Nat→Int:=fun k=>S k+x*(if i≤k then y.getD (k-i) 0 else 19*y.getD (k+5-i) 0)
theorem Zvh {y:List Int} {i:Nat} {kk:List Int→Option (List Int)} {x:Int} {S:Nat→Int} {T:Int} (hi:i<5) (hx:0≤x∧x≤2251799813947392) (hy : ∀ j,j<5→0≤y.getD j 0∧y.getD j 0≤2251799813947392)
    (hS : ∀ k,k<5→0≤S k∧S k≤T) (hT:T≤10000000000000000000000000000000000) :
    Z4o y (i:Int) x kk big 0 (Zki S)=kk (Zki (inn S x y i)):=by
  obtain ⟨n,hn⟩ : ∃ n,big=n+6:=⟨18446744073709551610,Z19⟩
  rw [hn]
  have step : ∀ (n j:Nat) (S:Nat→Int) (T:Int),j<5→(∀ k,k<5→0≤S k∧S k≤T)→T≤100000000000000000000000000000000000 →
      Z4o y (i:Int) x kk (n+1) (j:Int) (Zki S)=Z4o y (i:Int) x kk n ((j+1:Nat):Int) (Zki (updN S ((i+j)%5) (S ((i+j)%5)+Zmt x y i j))) :=
    fun n j S T hj hS hT=>Zvj hi hj hx hy hS hT
  have bd : ∀ (j:Nat) (S:Nat→Int) (T:Int),j<5→(∀ k,k<5→0≤S k∧S k≤T)→∀ k,k<5→0≤updN S ((i+j)%5) (S ((i+j)%5)+Zmt x y i j) k∧updN S ((i+j)%5) (S ((i+j)%5)+Zmt x y i j) k≤T+96341445639776675308685928431616 :=
    fun j S T hj hS=>Z0uw hS (by have:=Zy8 (i:=i) hj hx hy; have:=hS ((i+j)%5) (Nat.mod_lt _ (by decide)); omega)
  have s0:=step (n+5) 0 S T (by decide) hS (by omega)
  have b0:=bd 0 S T (by decide) hS
  have s1:=step (n+4) 1 _ _ (by decide) b0 (by omega)
  have b1:=bd 1 _ _ (by decide) b0
  have s2:=step (n+3) 2 _ _ (by decide) b1 (by omega)
  have b2:=bd 2 _ _ (by decide) b1
  have s3:=step (n+2) 3 _ _ (by decide) b2 (by omega)
  have b3:=bd 3 _ _ (by decide) b2
  have s4:=step (n+1) 4 _ _ (by decide) b3 (by omega)
  refine (s0.trans (s1.trans (s2.trans (s3.trans (s4.trans ((Zya hi).trans ?_))))))
  congr 1
  apply Ztx
  intro k hk
  clear s0 s1 s2 s3 s4 b0 b1 b2 b3 bd step hS hy hx hn
  match i,hi,k,hk with
  | 0,_,0,_ | 0,_,1,_ | 0,_,2,_ | 0,_,3,_ | 0,_,4,_ | 1,_,0,_ | 1,_,1,_ | 1,_,2,_ | 1,_,3,_ | 1,_,4,_ | 2,_,0,_ | 2,_,1,_ | 2,_,2,_ | 2,_,3,_ | 2,_,4,_
  | 3,_,0,_ | 3,_,1,_ | 3,_,2,_ | 3,_,3,_ | 3,_,4,_ | 4,_,0,_ | 4,_,1,_ | 4,_,2,_ | 4,_,3,_ | 4,_,4,_=>rfl
theorem Zg5 {S:Nat→Int} {x T:Int} {y:List Int} {i:Nat} (hi:i<5) (hx:0≤x∧x≤2251799813947392) (hy : ∀ j,j<5→0≤y.getD j 0∧y.getD j 0≤2251799813947392) (hS : ∀ k,k<5→0≤S k∧S k≤T) :
    ∀ k,k<5→0≤inn S x y i k∧inn S x y i k≤T+96341445639776675308685928431616:=by
  intro k hk
  have h1:=hS k hk
  unfold inn
  split
  · have:=Zdn hx (hy (k-i) (by omega)); omega
  · have:=Zdn (b:=19*y.getD (k+5-i) 0) (B:=42784196465000448) hx (by have:=hy (k+5-i) (by omega); omega); omega
def Zko (x y:List Int):Nat→Int:=inn (inn (inn (inn (inn (fun _=>0) (x.getD 0 0) y 0) (x.getD 1 0) y 1) (x.getD 2 0) y 2) (x.getD 3 0) y 3) (x.getD 4 0) y 4
theorem Z029 {x y:List Int} (hx : ∀ j,j<5→0≤x.getD j 0∧x.getD j 0≤2251799813947392) (hy : ∀ j,j<5→0≤y.getD j 0∧y.getD j 0≤2251799813947392) : ∀ k,k<5→0≤Zko x y k∧Zko x y k≤481707228198883376543429642158080:=by
  have b0:=Zg5 (S:=fun _=>0) (T:=0) (i:=0) (by decide) (hx 0 (by decide)) hy (fun _ _=>by simp)
  have b1:=Zg5 (i:=1) (by decide) (hx 1 (by decide)) hy b0
  have b2:=Zg5 (i:=2) (by decide) (hx 2 (by decide)) hy b1
  have b3:=Zg5 (i:=3) (by decide) (hx 3 (by decide)) hy b2
  have b4:=Zg5 (i:=4) (by decide) (hx 4 (by decide)) hy b3
  intro k hk
  have:=b4 k hk
  unfold Zko
  omega
theorem Zbi {x y : List Int} (hx : ∀ j, j < 5 → 0 ≤ x.getD j 0 ∧ x.getD j 0 ≤ 2251799813947392) (hy : ∀ j, j < 5 → 0 ≤ y.getD j 0 ∧ y.getD j 0 ≤ 2251799813947392) (n i : Nat) (S : Nat → Int) (T : Int) (hi : i < 5) (hS : ∀ k, k < 5 → 0 ≤ S k ∧ S k ≤ T) (hT : T ≤ 10000000000000000000000000000000000) (kk : List Int → Option (List Int)) :
      Z2y x y kk (n+1) (i:Int) (Zki S)=Z2y x y kk n ((i+1:Nat):Int) (Zki (inn S (x.getD i 0) y i)):=by
  rw [Z2y,Z8k,Z15 (by simp; omega),Zy (Z0n (by omega) (by omega))]
  simp only [Zl,Z12,Int.toNat_natCast]
  rw [Zvh hi (hx i hi) hy hS hT,Ze (by omega) (by omega)]
  rfl
theorem Ztc {x y:List Int} (n:Nat) (a:List Int) (kk:List Int→Option (List Int)):Z2y x y kk (n+1) ((5:Nat):Int) a=kk a:=by
  rw [Z2y,Z8k,Z0x (by decide)]
theorem Z18c:(List.replicate 10 0:List Int)=Zki (fun _=>0):=by decide
theorem Zvi {x y:List Int} (hx : ∀ j,j<5→0≤x.getD j 0∧x.getD j 0≤2251799813947392) (hy : ∀ j,j<5→0≤y.getD j 0∧y.getD j 0≤2251799813947392) (kk:List Int→Option (List Int)) :
    Z2y x y kk big 0 (List.replicate 10 0)=kk (Zki (Zko x y)):=by
  obtain ⟨n,hn⟩ : ∃ n,big=n+1+1+1+1+1+1:=⟨18446744073709551610,Z19⟩
  have b0:=Zg5 (S:=fun _=>0) (T:=0) (i:=0) (by decide) (hx 0 (by decide)) hy (fun _ _=>by simp)
  have b1:=Zg5 (i:=1) (by decide) (hx 1 (by decide)) hy b0
  have b2:=Zg5 (i:=2) (by decide) (hx 2 (by decide)) hy b1
  have b3:=Zg5 (i:=3) (by decide) (hx 3 (by decide)) hy b2
  have s0:=Zbi (kk:=kk) hx hy (n+1+1+1+1+1) 0 (fun _=>0) 0 (by decide) (fun _ _=>by simp) (by omega)
  have s1:=Zbi (kk:=kk) hx hy (n+1+1+1+1) 1 _ _ (by decide) b0 (by omega)
  have s2:=Zbi (kk:=kk) hx hy (n+1+1+1) 2 _ _ (by decide) b1 (by omega)
  have s3:=Zbi (kk:=kk) hx hy (n+1+1) 3 _ _ (by decide) b2 (by omega)
  have s4:=Zbi (kk:=kk) hx hy (n+1) 4 _ _ (by decide) b3 (by omega)
  have s5:=Ztc (x:=x) (y:=y) n (Zki (Zko x y)) kk
  unfold Zko at s5 ⊢
  rw [← hn] at s0
  rw [Z18c]
  exact s0.trans (s1.trans (s2.trans (s3.trans (s4.trans s5))))
theorem Zvf {S:Nat→Int} {kk:Int→List Int→Option (List Int)} {k':Int→Int→List Int→Option (List Int)} {i:Nat} {c:Int} {out:List Int} (hi:i<5) (hS:0≤S i∧S i≤481707228198883376543429642158080) (hc:0≤c∧c<18446744073709551616) :
    Z71 (Zki S) kk k' c (i:Int) out=k' ((S i+c) / 2251799813685248) ((i+1:Nat):Int) (Z21 out i ((S i+c)%2251799813685248)):=by
  have ht:tk (Zki S) (i*2) 2 = [Zhs (S i),Zeo (S i)]:=by
    match i,hi with
    | 0,_=>rfl
    | 1,_=>rfl
    | 2,_=>rfl
    | 3,_=>rfl
    | 4,_=>rfl
  rw [Z71,Z15 (by simp; omega),Zy (Z0n (by omega) (by omega))]
  simp only [Zl,Int.toNat_natCast,ht,List.getD_cons_zero,List.getD_cons_succ]
  generalize S i=s at *
  have hl:0≤Zeo s∧Zeo s<18446744073709551616:=by unfold Zeo; omega
  rw [Zy (by simp [Zd1]; omega),Zy (Z0n (by omega) (by omega))]
  simp only [Zmg,Zij,Int.add_zero]
  rw [Ze (by omega) (by omega),Ztu,Z0up,Zmi (by omega) (by omega)]
  have hh:0≤Zhs s∧Zhs s<1000000000000000:=by unfold Zhs; omega
  have hcar:0≤(Zeo s+c) / 18446744073709551616∧(Zeo s+c) / 18446744073709551616≤1:=by omega
  rw [Zb (x:=Zhs s+(Zeo s+c) / 18446744073709551616) (by omega) (by omega)]
  have hm:(Zhs s+(Zeo s+c) / 18446744073709551616)*8192%18446744073709551616=(Zhs s+(Zeo s+c) / 18446744073709551616)*8192:=by omega
  rw [hm,Zrq 13 (x:=(Zhs s+(Zeo s+c) / 18446744073709551616)*8192) (a:=Zhs s+(Zeo s+c) / 18446744073709551616) rfl (by omega) (by omega) (by omega) (by omega)]
  have e1:(Zeo s+c)%18446744073709551616%2251799813685248=(s+c)%2251799813685248:=by unfold Zeo; omega
  have e2:(Zhs s+(Zeo s+c) / 18446744073709551616)*8192+(Zeo s+c)%18446744073709551616 / 2251799813685248=(s+c) / 2251799813685248:=by unfold Zhs Zeo; omega
  rw [e1,e2]
  rfl
theorem alg5 (x0 x1 x2 x3 x4 y0 y1 y2 y3 y4 m:Int):(x0+x1*m+x2*(m*m)+x3*(m*m*m)+x4*(m*m*m*m))*(y0+y1*m+y2*(m*m)+y3*(m*m*m)+y4*(m*m*m*m)) =
    x0*y0+(x0*y1+x1*y0)*m+(x0*y2+x1*y1+x2*y0)*(m*m)+(x0*y3+x1*y2+x2*y1+x3*y0)*(m*m*m)+(x0*y4+x1*y3+x2*y2+x3*y1+x4*y0)*(m*m*m*m)
     + ((x1*y4+x2*y3+x3*y2+x4*y1)+(x2*y4+x3*y3+x4*y2)*m+(x3*y4+x4*y3)*(m*m)+x4*y4*(m*m*m))*(m*m*m*m*m):=by grind
theorem Zy7 (x y:List Int) : ∃ q,Z6s x*Z6s y=Zko x y 0+Zko x y 1*2251799813685248+Zko x y 2*5070602400912917605986812821504+Zko x y 3*11417981541647679048466287755595961091061972992+Zko x y 4*25711008708143844408671393477458601640355247900524685364822016+q*PP:=by
  have h:=alg5 (x.getD 0 0) (x.getD 1 0) (x.getD 2 0) (x.getD 3 0) (x.getD 4 0) (y.getD 0 0) (y.getD 1 0) (y.getD 2 0) (y.getD 3 0) (y.getD 4 0) 2251799813685248
  have e0:Zko x y 0=x.getD 0 0*y.getD 0 0+19*(x.getD 1 0*y.getD 4 0+x.getD 2 0*y.getD 3 0+x.getD 3 0*y.getD 2 0+x.getD 4 0*y.getD 1 0):=by simp [Zko,inn] <;> grind
  have e1:Zko x y 1=x.getD 0 0*y.getD 1 0+x.getD 1 0*y.getD 0 0+19*(x.getD 2 0*y.getD 4 0+x.getD 3 0*y.getD 3 0+x.getD 4 0*y.getD 2 0):=by simp [Zko,inn] <;> grind
  have e2:Zko x y 2=x.getD 0 0*y.getD 2 0+x.getD 1 0*y.getD 1 0+x.getD 2 0*y.getD 0 0+19*(x.getD 3 0*y.getD 4 0+x.getD 4 0*y.getD 3 0):=by simp [Zko,inn] <;> grind
  have e3:Zko x y 3=x.getD 0 0*y.getD 3 0+x.getD 1 0*y.getD 2 0+x.getD 2 0*y.getD 1 0+x.getD 3 0*y.getD 0 0+19*(x.getD 4 0*y.getD 4 0):=by simp [Zko,inn] <;> grind
  have e4:Zko x y 4=x.getD 0 0*y.getD 4 0+x.getD 1 0*y.getD 3 0+x.getD 2 0*y.getD 2 0+x.getD 3 0*y.getD 1 0+x.getD 4 0*y.getD 0 0:=by simp [Zko,inn] <;> grind
  refine ⟨(x.getD 1 0*y.getD 4 0+x.getD 2 0*y.getD 3 0+x.getD 3 0*y.getD 2 0+x.getD 4 0*y.getD 1 0)+(x.getD 2 0*y.getD 4 0+x.getD 3 0*y.getD 3 0+x.getD 4 0*y.getD 2 0)*2251799813685248+(x.getD 3 0*y.getD 4 0+x.getD 4 0*y.getD 3 0)*5070602400912917605986812821504+x.getD 4 0*y.getD 4 0*11417981541647679048466287755595961091061972992,?_⟩
  rw [e0,e1,e2,e3,e4]
  simp only [Z6s,PP]
  simp only [Int.reduceMul] at h
  rw [h]
  omega
theorem U5.mk5 {d0 d1 d2 d3 d4:Int} (h0:0≤d0∧d0<18446744073709551616) (h1:0≤d1∧d1<18446744073709551616) (h2:0≤d2∧d2<18446744073709551616) (h3:0≤d3∧d3<18446744073709551616) (h4:0≤d4∧d4<18446744073709551616):U5 [d0,d1,d2,d3,d4] :=
  ⟨h0.1,h1.1,h2.1,h3.1,h4.1,h0.2,h1.2,h2.2,h3.2,h4.2⟩
theorem Zyb {c d0 d1 d2 d3 d4:Int} (hc:0≤c∧c<900000000000000000)
    (h0:0≤d0∧d0<2251799813685248) (h1:0≤d1∧d1<2251799813685248) (h2:0≤d2∧d2<2251799813685248) (h3:0≤d3∧d3<2251799813685248) (h4:0≤d4∧d4<2251799813685248) :
    (opt (Z2b (List.replicate 2 0) 0 2 c 19) fun y1819 =>
      bnd (y1819.getD 1 0) fun z1823 =>
      bnd ([d0,d1,d2,d3,d4].getD 0 0) fun z1824 =>
      chk (Zd1 z1823 z1824 0) <|
      bnd (Z9w z1823 z1824 0) fun z1826 =>
      bnd (Zfi z1823 z1824 0) fun z1827 =>
      bnd (Z4 .and .u64 z1826 2251799813685247) fun z1829 =>
      bnd (Z21 [d0,d1,d2,d3,d4] 0 z1829) fun l1830 =>
      bnd (l1830.getD 1 0) fun z1832 =>
      bnd (y1819.getD 0 0) fun z1833 =>
      bnd (IntKind.wrap .u64 (z1833+z1827)) fun z1834 =>
      bnd (Zj .u64 z1834 13) fun z1835 =>
      bnd (Zn .u64 z1826 51) fun z1836 =>
      bnd (Z4 .or .u64 z1835 z1836) fun z1837 =>
      bnd (IntKind.wrap .u64 (z1832+z1837)) fun z1838 =>
      bnd (Z21 l1830 1 z1838) fun l1839 =>
      opt (Z27 l1839) fun y1841 =>
      some y1841)=some (Zjd ((d0+d1*2251799813685248+d2*5070602400912917605986812821504+d3*11417981541647679048466287755595961091061972992+d4*25711008708143844408671393477458601640355247900524685364822016+19*c)%PP)):=by
  have hw:Z2b (List.replicate 2 0) 0 2 c 19=some [Zhs (0+c*19),Zeo (0+c*19)]:=Zx8 (s:=0) (by decide) rfl rfl (by decide) (by omega) (by omega) (by omega)
  rw [Z3 hw]
  simp only [Zl,List.getD_cons_zero,List.getD_cons_succ]
  have hl:Zeo (0+c*19)=c*19%18446744073709551616:=by unfold Zeo; rw [Int.zero_add]
  have hh:Zhs (0+c*19)=c*19 / 18446744073709551616:=by unfold Zhs; rw [Int.zero_add]
  rw [hl,hh]
  have hlt:c*19<18446744073709551616:=by omega
  rw [Int.emod_eq_of_lt (by omega) hlt,Int.ediv_eq_zero_of_lt (by omega) hlt]
  rw [Zy (by simp [Zd1]; omega)]
  simp only [Zmg,Zij,Int.add_zero,Int.zero_add]
  rw [Int.emod_eq_of_lt (a:=c*19+d0) (by omega) (by omega),Int.ediv_eq_zero_of_lt (a:=c*19+d0) (by omega) (by omega)]
  have ew:IntKind.wrap .u64 0=0:=by decide
  rw [ew,Ztu,Z0up,Zmi (by omega) (by omega)]
  have e0:(0:Int)*8192%18446744073709551616=0:=by decide
  rw [e0,Zrq 13 (x:=0) (a:=0) (by simp) (by omega) (by omega) (by omega) (by omega),Int.zero_add]
  have hs1:Z21 [d0,d1,d2,d3,d4] 0 ((c*19+d0)%2251799813685248) = [(c*19+d0)%2251799813685248,d1,d2,d3,d4]:=rfl
  rw [hs1]
  simp only [List.getD_cons_zero,List.getD_cons_succ]
  rw [Zb (by omega) (by omega)]
  have hs2:Z21 [(c*19+d0)%2251799813685248,d1,d2,d3,d4] 1 (d1+(c*19+d0) / 2251799813685248) = [(c*19+d0)%2251799813685248,d1+(c*19+d0) / 2251799813685248,d2,d3,d4]:=rfl
  rw [hs2,Z3 (Z90 (U5.mk5 (by omega) (by omega) (by omega) (by omega) (by omega)))]
  unfold Zkv
  congr 3
  simp only [Z6s,List.getD_cons_zero,List.getD_cons_succ]
  omega
theorem C5.le {x:List Int} (h:C5 x 262144) : ∀ j,j<5→0≤x.getD j 0∧x.getD j 0≤2251799813947392:=by
  have ⟨a0,a1,a2,a3,a4,b0,b1,b2,b3,b4⟩:=h
  intro j hj
  match j,hj with
  | 0,_=>omega
  | 1,_=>omega
  | 2,_=>omega
  | 3,_=>omega
  | 4,_=>omega
theorem Zvg {x y:List Int} (hx:U5 x) (hy:U5 y):Z1c x y=some (Zjd (Z6s x*Z6s y%PP)):=by
  have cx:=(Zun hx).le
  have cy:=(Zun hy).le
  rw [Z1c,Z3 (Zen hx),Z3 (Zen hy),Z12,Zvi cx cy,Z12]
  have hb:=Z029 cx cy
  obtain ⟨q,hq⟩:=Zy7 (Z9x x) (Z9x y)
  have hm:Z6s x*Z6s y%PP=Z6s (Z9x x)*Z6s (Z9x y)%PP:=by
    rw [Int.mul_emod,← Zgx (x:=x),← Zgx (x:=y),← Int.mul_emod]
  rw [hm,hq,Int.add_mul_emod_self_right]
  generalize Zko (Z9x x) (Z9x y)=S at *
  obtain ⟨n,hn⟩ : ∃ n,big=n+1+1+1+1+1+1:=⟨18446744073709551610,Z19⟩
  generalize hkk:(fun (i1740:Int) (a1741:List Int)=>_)=kk
  have step : ∀ (n i:Nat) (c:Int) (out:List Int),i<5→(0≤c∧c<18446744073709551616)→Z3h (Zki S) kk (n+1) c (i:Int) out=Z3h (Zki S) kk n ((S i+c) / 2251799813685248) ((i+1:Nat):Int) (Z21 out i ((S i+c)%2251799813685248)):=by
    intro n i c out hi hc
    rw [Z3h,Zvf hi (hb i hi) hc]
  have c0:=hb 0 (by decide)
  have c1:=hb 1 (by decide)
  have c2:=hb 2 (by decide)
  have c3:=hb 3 (by decide)
  have c4:=hb 4 (by decide)
  have k1 : ∃ d,(S 0+0)%2251799813685248=d∧(0≤d∧d<2251799813685248):=⟨_,rfl,by omega⟩
  have s0:=step (n+1+1+1+1+1) 0 0 (List.replicate 5 0) (by decide) (by decide)
  generalize hd0:(S 0+0)%2251799813685248=d0 at s0
  generalize hv0:(S 0+0) / 2251799813685248=v0 at s0
  have s1:=step (n+1+1+1+1) 1 v0 (Z21 (List.replicate 5 0) 0 d0) (by decide) (by omega)
  generalize hd1:(S 1+v0)%2251799813685248=d1 at s1
  generalize hv1:(S 1+v0) / 2251799813685248=v1 at s1
  have s2:=step (n+1+1+1) 2 v1 (Z21 (Z21 (List.replicate 5 0) 0 d0) 1 d1) (by decide) (by omega)
  generalize hd2:(S 2+v1)%2251799813685248=d2 at s2
  generalize hv2:(S 2+v1) / 2251799813685248=v2 at s2
  have s3:=step (n+1+1) 3 v2 (Z21 (Z21 (Z21 (List.replicate 5 0) 0 d0) 1 d1) 2 d2) (by decide) (by omega)
  generalize hd3:(S 3+v2)%2251799813685248=d3 at s3
  generalize hv3:(S 3+v2) / 2251799813685248=v3 at s3
  have s4:=step (n+1) 4 v3 (Z21 (Z21 (Z21 (Z21 (List.replicate 5 0) 0 d0) 1 d1) 2 d2) 3 d3) (by decide) (by omega)
  generalize hd4:(S 4+v3)%2251799813685248=d4 at s4
  generalize hv4:(S 4+v3) / 2251799813685248=v4 at s4
  have hout:Z21 (Z21 (Z21 (Z21 (Z21 (List.replicate 5 0) 0 d0) 1 d1) 2 d2) 3 d3) 4 d4 = [d0,d1,d2,d3,d4]:=rfl
  rw [hout] at s4
  have s5:Z3h (Zki S) kk (n+1) v4 ((4+1:Nat):Int) [d0,d1,d2,d3,d4]=kk v4 [d0,d1,d2,d3,d4]:=by rw [Z3h,Z71,Z0x (by decide)]
  subst hkk
  have s5:=s5.trans (Zyb (c:=v4) (d0:=d0) (d1:=d1) (d2:=d2) (d3:=d3) (d4:=d4) (by omega) (by omega) (by omega) (by omega) (by omega) (by omega))
  rw [← hn] at s0
  refine s0.trans (s1.trans (s2.trans (s3.trans (s4.trans (s5.trans ?_)))))
  congr 2
  clear s0 s1 s2 s3 s4 s5 step hout hb hn k1 cx cy
  have e0:S 0=v0*2251799813685248+d0:=by omega
  have e1:S 1+v0=v1*2251799813685248+d1:=by omega
  have e2:S 2+v1=v2*2251799813685248+d2:=by omega
  have e3:S 3+v2=v3*2251799813685248+d3:=by omega
  have e4:S 4+v3=v4*2251799813685248+d4:=by omega
  clear hd0 hd1 hd2 hd3 hd4 hv0 hv1 hv2 hv3 hv4
  have key:S 0+S 1*2251799813685248+S 2*5070602400912917605986812821504+S 3*11417981541647679048466287755595961091061972992+S 4*25711008708143844408671393477458601640355247900524685364822016 =
      d0+d1*2251799813685248+d2*5070602400912917605986812821504+d3*11417981541647679048466287755595961091061972992+d4*25711008708143844408671393477458601640355247900524685364822016+19*v4+v4*PP:=by
    simp only [PP]; omega
  rw [key,Int.add_mul_emod_self_right]
theorem Zpd {x:List Int} (hx:U5 x):Z1y x=some (Zjd (Z6s x*Z6s x%PP)):=by
  rw [Z1y,Z3 (Zvg hx hx)]
def fe (n:Int):List Int:=Zjd (n%PP)
theorem Zje (n:Int):U5 (fe n):=Zpv _
theorem Ziz:(0:Int)<PP:=by decide
theorem Z97 (n:Int):Z6s (fe n)=n%PP:=Zjf (Int.emod_nonneg _ (by decide)) (Int.emod_lt_of_pos _ Ziz)
theorem Z067 (n:Int):fe (n%PP)=fe n:=by unfold fe; rw [Int.emod_emod_of_dvd _ (Int.dvd_refl _)]
theorem Zg3 {a b:Int} (h:a%PP=b%PP):fe a=fe b:=by unfold fe; rw [h]
theorem Z00u (k:List Int→Option (List Int)) (x0 x1 x2 x3 x4 y0 y1 y2 y3 y4:Int):Z6z [y0,y1,y2,y3,y4] k big 0 [x0,x1,x2,x3,x4] =
    k ([IntKind.wrap .u64 (x0+y0),IntKind.wrap .u64 (x1+y1),IntKind.wrap .u64 (x2+y2),IntKind.wrap .u64 (x3+y3),IntKind.wrap .u64 (x4+y4)]):=by kernel_rfl
theorem Zzv {x y:List Int} (hx:U5 x) (hy:U5 y):Z2c x y=some (fe (Z6s x+Z6s y)):=by
  have cx:=Zun hx
  have cy:=Zun hy
  have ex:=Zgx (x:=x)
  have ey:=Zgx (x:=y)
  rw [Z2c,Z3 (Zen hx),Z3 (Zen hy),Z12]
  have hlx:Z9x x = [(Z9x x).getD 0 0,(Z9x x).getD 1 0,(Z9x x).getD 2 0,(Z9x x).getD 3 0,(Z9x x).getD 4 0]:=rfl
  have hly:Z9x y = [(Z9x y).getD 0 0,(Z9x y).getD 1 0,(Z9x y).getD 2 0,(Z9x y).getD 3 0,(Z9x y).getD 4 0]:=rfl
  have hm:(Z6s x+Z6s y)%PP=(Z6s (Z9x x)+Z6s (Z9x y))%PP:=by rw [Int.add_emod,← ex,← ey,← Int.add_emod]
  rw [Zg3 hm]
  generalize Z9x x=a at *
  generalize Z9x y=b at *
  have ⟨p0,p1,p2,p3,p4,q0,q1,q2,q3,q4⟩:=cx
  have ⟨r0,r1,r2,r3,r4,s0,s1,s2,s3,s4⟩:=cy
  rw [hlx,hly,Z00u]
  rw [Zb (by omega) (by omega),Zb (by omega) (by omega),Zb (by omega) (by omega),Zb (by omega) (by omega),Zb (by omega) (by omega)]
  rw [Z3 (Z90 (U5.mk5 (by omega) (by omega) (by omega) (by omega) (by omega)))]
  unfold Zkv fe
  congr 3
  simp only [Z6s,List.getD_cons_zero,List.getD_cons_succ]
  omega
theorem Z02b (k:List Int→Option (List Int)) (y0 y1 y2 y3 y4 z:Int):Z72 [y0,y1,y2,y3,y4] k big 1 [z,0,0,0,0] =
    k ([z,IntKind.wrap .u64 (4503599627370494-y1),IntKind.wrap .u64 (4503599627370494-y2),IntKind.wrap .u64 (4503599627370494-y3),IntKind.wrap .u64 (4503599627370494-y4)]):=by kernel_rfl
theorem Z0bo {x:List Int} (hx:U5 x):Zdf x=some (fe (- Z6s x)):=by
  rw [Zdf,Z3 (Z90 hx)]
  simp only [Zl,Z12]
  have hv:Z6s (Zkv x)=Z6s x%PP:=Z97 (Z6s x)
  have hl:Zkv x = [(Zkv x).getD 0 0,(Zkv x).getD 1 0,(Zkv x).getD 2 0,(Zkv x).getD 3 0,(Zkv x).getD 4 0]:=rfl
  have hb : ∀ j,j<5→0≤(Zkv x).getD j 0∧(Zkv x).getD j 0<2251799813685248:=by
    intro j hj
    unfold Zkv Zjd
    match j,hj with
    | 0,_=>simp only [M51,List.getD_cons_zero,List.getD_cons_succ]; omega
    | 1,_=>simp only [M51,List.getD_cons_zero,List.getD_cons_succ]; omega
    | 2,_=>simp only [M51,List.getD_cons_zero,List.getD_cons_succ]; omega
    | 3,_=>simp only [M51,List.getD_cons_zero,List.getD_cons_succ]; omega
    | 4,_=>simp only [M51,List.getD_cons_zero,List.getD_cons_succ]; omega
  have hm:(- Z6s x)%PP=(2*PP-Z6s (Zkv x))%PP:=by
    rw [hv]
    have e : - Z6s x=2*PP-Z6s x%PP+(-2-Z6s x / PP)*PP:=by
      have:=Int.emod_add_mul_ediv (Z6s x) PP
      rw [Int.mul_comm] at this
      have h2:(-2-Z6s x / PP)*PP = -2*PP-Z6s x / PP*PP:=by rw [Int.sub_mul]
      omega
    rw [e,Int.add_mul_emod_self_right]
  rw [Zg3 hm]
  generalize Zkv x=a at *
  have b0:=hb 0 (by decide)
  have b1:=hb 1 (by decide)
  have b2:=hb 2 (by decide)
  have b3:=hb 3 (by decide)
  have b4:=hb 4 (by decide)
  rw [hl]
  simp only [List.getD_cons_zero]
  rw [Z02b]
  rw [Zb (by omega) (by omega),Zb (by omega) (by omega),Zb (by omega) (by omega),Zb (by omega) (by omega),Zb (by omega) (by omega)]
  rw [Z3 (Z90 (U5.mk5 (by omega) (by omega) (by omega) (by omega) (by omega)))]
  unfold Zkv fe
  congr 3
  simp only [Z6s,PP,List.getD_cons_zero,List.getD_cons_succ]
  omega
theorem Z0ur {x y:List Int} (hx:U5 x) (hy:U5 y):Z4c x y=some (fe (Z6s x-Z6s y)):=by
  rw [Z4c,Z3 (Z0bo hy),Z3 (Zzv hx (Zje _)),Z97]
  rw [Zg3 (a:=Z6s x + -Z6s y%PP) (b:=Z6s x-Z6s y)]
  rw [Int.sub_eq_add_neg,Int.add_emod,Int.emod_emod_of_dvd _ (Int.dvd_refl _),← Int.add_emod]
theorem Zze {n:Int} (h:0≤n∧n<18446744073709551616):Za4 n=some (fe n):=by
  rw [Za4]
  simp only [Zl]
  rw [Z3 (Z90 (U5.mk5 h (by omega) (by omega) (by omega) (by omega)))]
  unfold Zkv fe
  congr 3
  simp only [Z6s,List.getD_cons_zero,List.getD_cons_succ]
  omega
theorem Zpm {x:Int} (h0:0≤x) (h1:x<18446744073709551616):Z4 .and .u64 x 1=x%2:=Zgv 1 (by decide) (by decide) h0 h1
theorem Zy4 {x:List Int} (hx:U5 x):Za3 x=some (Z6s x%PP%2==1):=by
  rw [Za3,Z3 (Z90 hx)]
  simp only [Zl]
  have e:(Zkv x).getD 0 0=Z6s x%PP%2251799813685248:=rfl
  rw [e,Zpm (by omega) (by omega)]
  congr 2
  omega
theorem and8 {x y:Int} (m n:Nat) (hx:x=m) (hy:y=n) (h1:m<256) (h2:n<256):Z4 .and .u8 x y=((m &&& n:Nat):Int):=by
  subst hx; subst hy
  show IntKind.u8.wrap (((BitVec.ofInt 8 (m:Int) &&& BitVec.ofInt 8 (n:Int)).toNat:Nat):Int)=_
  rw [BitVec.toNat_and,bv8 m h1,bv8 n h2,Z0d]
  have:m &&& n≤m:=Nat.and_le_left
  omega
theorem Zik (k:Nat) {x y:Int} (hy:y=((2^k-1:Nat):Int)) (hk:2^k≤256) (h0:0≤x) (h1:x<256):Z4 .and .u8 x y=x%((2^k:Nat):Int):=by
  have hp:0<2^k:=Nat.pow_pos (by decide)
  rw [and8 x.toNat (2^k-1) (by omega) hy (by omega) (by omega),Nat.and_two_pow_sub_one_eq_mod]
  rw [Int.natCast_emod]
  congr 1; omega
theorem Zub {x:Int} (h0:0≤x) (h1:x<256):Z4 .and .u8 x 1=x%2:=Zik 1 (by decide) (by decide) h0 h1
def Byt (e:List Int):Prop:=∀ i,0≤e.getD i 0∧e.getD i 0<256
def ebit (e:List Int) (i:Nat):Bool:=(e.getD (i / 8) 0 / ((2^(i%8):Nat):Int))%2==1
def pw (x:Int) (e:List Int):Nat→Int
  | 0=>1
  | k+1=>if ebit e (255-k) then pw x e k*pw x e k%PP*x%PP else pw x e k*pw x e k%PP
theorem Z00a (x:Int) (e:List Int) (k:Nat):0≤pw x e k∧pw x e k<PP:=by
  cases k with
  | zero=>exact ⟨by show (0:Int)≤1; decide,by show (1:Int)<PP; decide⟩
  | succ k =>
    unfold pw
    split
    · exact ⟨Int.emod_nonneg _ (by decide),Int.emod_lt_of_pos _ Ziz⟩
    · exact ⟨Int.emod_nonneg _ (by decide),Int.emod_lt_of_pos _ Ziz⟩
theorem Zy0 {n:Int} (h0:0≤n) (h1:n<PP):fe n=Zjd n:=by unfold fe; rw [Int.emod_eq_of_lt h0 h1]
theorem Zvt {x e:List Int} (hx:U5 x) (he:Byt e) {kk:List Int→Option (List Int)} {k':Int→List Int→Option (List Int)} {i:Nat} (hi:i<256) (a:Int) (ha:0≤a∧a<PP) :
    Z73 x e kk k' (i:Int) (Zjd a)=k' ((i:Int)-1) (Zjd (if ebit e i then a*a%PP*Z6s x%PP else a*a%PP)):=by
  have hsq:Z1y (Zjd a)=some (Zjd (a*a%PP)):=by rw [Zpd (Zpv _),Zjf ha.1 ha.2]
  rw [Z73,Z15 (by simp),Z12,Z3 hsq]
  simp only [Zl]
  have hd:IntKind.wrap .i64 (Int.tdiv (i:Int) 8)=((i / 8:Nat):Int):=by
    rw [Int.tdiv_eq_ediv_of_nonneg (by omega),Ze (by omega) (by omega)]; omega
  have hm:Int.tmod (i:Int) 8=((i%8:Nat):Int):=by
    rw [Int.tmod_eq_emod_of_nonneg (by omega)]; omega
  rw [hd,hm,Zy (Z0n (by omega) (by omega)),Zy (by simp; omega)]
  have hb:=he (i / 8)
  simp only [Int.toNat_natCast]
  rw [Z93 .u8 (n:=i%8) (by show i%8≤8; omega)]
  have hp:(0:Int)<((2^(i%8):Nat):Int):=by have:=Nat.pow_pos (n:=i%8) (show 0<2 by decide); omega
  have hq0:=Int.ediv_nonneg hb.1 (Int.le_of_lt hp)
  have hq1:e.getD (i / 8) 0 / ((2^(i%8):Nat):Int)<256:=Int.lt_of_le_of_lt (Int.ediv_le_self _ hb.1) hb.2
  rw [Zub hq0 hq1]
  have hw:IntKind.wrap .i64 ((i:Int)-1)=(i:Int)-1:=Ze (by omega) (by omega)
  by_cases hbit:ebit e i=true
  · have hb':(e.getD (i / 8) 0 / ((2^(i%8):Nat):Int)%2==1)=true:=hbit
    rw [Z15 hb',if_pos hbit,Z3 (Zvg (Zpv _) hx),Zjf (Int.emod_nonneg _ (by decide)) (Int.emod_lt_of_pos _ Ziz),hw]
  · rw [Bool.not_eq_true] at hbit
    have hb':(e.getD (i / 8) 0 / ((2^(i%8):Nat):Int)%2==1)=false:=hbit
    rw [Z0x hb',if_neg (by rw [hbit]; decide),hw]
theorem Zrt {x e:List Int} (hx:U5 x) (he:Byt e) : ∀ (k n:Nat),k≤256→Z3y x e some (n+1+k) ((k:Int)-1) (Zjd (pw (Z6s x) e (256-k)))=some (Zjd (pw (Z6s x) e 256))
  | 0,n,_=>by
    show Z3y x e some (n+1) _ _=_
    rw [Z3y,Z73,Z0x (by decide)]
  | k+1,n,hk=>by
    have ih:=Zrt hx he k n (by omega)
    rw [← Nat.add_assoc,Z3y]
    have hi:((k+1:Nat):Int)-1=(k:Int):=by omega
    rw [hi,Zvt hx he (by omega) _ (Z00a _ _ _)]
    have e1:256-k=(256-(k+1))+1:=by omega
    have e2:255-(256-(k+1))=k:=by omega
    rw [e1,pw,e2] at ih
    exact ih
theorem Z0bv {x e:List Int} (hx:U5 x) (he:Byt e):Zdh x e=some (Zjd (pw (Z6s x) e 256)):=by
  rw [Zdh,Z3 (Zze (by decide)),Z12]
  obtain ⟨n,hn⟩ : ∃ n,big=n+1+256:=⟨18446744073709551359,Z19⟩
  have:=Zrt hx he 256 n (Nat.le_refl _)
  rw [← hn] at this
  have e1:fe 1=Zjd (pw (Z6s x) e (256-256)):=rfl
  rw [e1]
  exact this
set_option maxHeartbeats 1000000
theorem Z0k (k:Nat) {x y a:Int} (hx:x=a*((2^k:Nat):Int)) (ha:0≤a) (h0:0≤y) (hy:y<((2^k:Nat):Int)) (h1:y+x<18446744073709551616):Z4 .or .u64 y x=y+x:=by
  have hp:(0:Int)≤((2^k:Nat):Int):=Int.natCast_nonneg _
  have hx0:0≤x:=by rw [hx]; exact Int.mul_nonneg ha hp
  have:=Zrq k hx ha h0 hy (by omega)
  rw [or64 y.toNat x.toNat (by omega) (by omega) (by omega) (by omega)]
  rw [or64 x.toNat y.toNat (by omega) (by omega) (by omega) (by omega)] at this
  rw [Nat.or_comm,this,Int.add_comm]
def byt (n:Int):List Int:=[n%256,n / 256%256,n / 65536%256,n / 16777216%256,n / 4294967296%256,n / 1099511627776%256,n / 281474976710656%256,n / 72057594037927936%256,n / 18446744073709551616%256,n / 4722366482869645213696%256,n / 1208925819614629174706176%256,n / 309485009821345068724781056%256,n / 79228162514264337593543950336%256,n / 20282409603651670423947251286016%256,n / 5192296858534827628530496329220096%256,n / 1329227995784915872903807060280344576%256,n / 340282366920938463463374607431768211456%256,n / 87112285931760246646623899502532662132736%256,n / 22300745198530623141535718272648361505980416%256,n / 5708990770823839524233143877797980545530986496%256,n / 1461501637330902918203684832716283019655932542976%256,n / 374144419156711147060143317175368453031918731001856%256,n / 95780971304118053647396689196894323976171195136475136%256,n / 24519928653854221733733552434404946937899825954937634816%256,n / 6277101735386680763835789423207666416102355444464034512896%256,n / 1606938044258990275541962092341162602522202993782792835301376%256,n / 411376139330301510538742295639337626245683966408394965837152256%256,n / 105312291668557186697918027683670432318895095400549111254310977536%256,n / 26959946667150639794667015087019630673637144422540572481103610249216%256,n / 6901746346790563787434755862277025452451108972170386555162524223799296%256,n / 1766847064778384329583297500742918515827483896875618958121606201292619776%256,n / 452312848583266388373324160190187140051835877600158453279131187530910662656%256]
theorem Zum (k:List Int→Option (List Int)) (y0 y1 y2 y3 y4:Int):Z53 [y0,y1,y2,y3,y4] k big 0 (List.replicate 32 0)=k [IntKind.wrap .u8 (Zn .u64 y0 0),IntKind.wrap .u8 (Zn .u64 y0 8),IntKind.wrap .u8 (Zn .u64 y0 16),IntKind.wrap .u8 (Zn .u64 y0 24),IntKind.wrap .u8 (Zn .u64 y0 32),IntKind.wrap .u8 (Zn .u64 y0 40),IntKind.wrap .u8 (Z4 .or .u64 (Zn .u64 y0 48) (Zj .u64 y1 3)),IntKind.wrap .u8 (Zn .u64 y1 5),IntKind.wrap .u8 (Zn .u64 y1 13),IntKind.wrap .u8 (Zn .u64 y1 21),IntKind.wrap .u8 (Zn .u64 y1 29),IntKind.wrap .u8 (Zn .u64 y1 37),IntKind.wrap .u8 (Z4 .or .u64 (Zn .u64 y1 45) (Zj .u64 y2 6)),IntKind.wrap .u8 (Zn .u64 y2 2),IntKind.wrap .u8 (Zn .u64 y2 10),IntKind.wrap .u8 (Zn .u64 y2 18),IntKind.wrap .u8 (Zn .u64 y2 26),IntKind.wrap .u8 (Zn .u64 y2 34),IntKind.wrap .u8 (Zn .u64 y2 42),IntKind.wrap .u8 (Z4 .or .u64 (Zn .u64 y2 50) (Zj .u64 y3 1)),IntKind.wrap .u8 (Zn .u64 y3 7),IntKind.wrap .u8 (Zn .u64 y3 15),IntKind.wrap .u8 (Zn .u64 y3 23),IntKind.wrap .u8 (Zn .u64 y3 31),IntKind.wrap .u8 (Zn .u64 y3 39),IntKind.wrap .u8 (Z4 .or .u64 (Zn .u64 y3 47) (Zj .u64 y4 4)),IntKind.wrap .u8 (Zn .u64 y4 4),IntKind.wrap .u8 (Zn .u64 y4 12),IntKind.wrap .u8 (Zn .u64 y4 20),IntKind.wrap .u8 (Zn .u64 y4 28),IntKind.wrap .u8 (Zn .u64 y4 36),IntKind.wrap .u8 (Zn .u64 y4 44)]:=by kernel_rfl
theorem Z22 (x:Int) (n:Nat) (h:n≤64):Zn .u64 x (n:Int)=x / ((2^n:Nat):Int):=Z93 .u64 h
theorem Z05r {n:Int} (h0:0≤n):IntKind.wrap .u8 (Zn .u64 (n%2251799813685248) 0)=n%256:=by
  have:=Z22 (n%2251799813685248) 0 (by decide)
  rw [show ((2^0:Nat):Int)=1 from rfl] at this
  refine (congrArg _ this).trans ?_
  rw [Z0d]
  omega
theorem Z05s {n:Int} (h0:0≤n):IntKind.wrap .u8 (Zn .u64 (n%2251799813685248) 8)=n / 256%256:=by
  have:=Z22 (n%2251799813685248) 8 (by decide)
  rw [show ((2^8:Nat):Int)=256 from rfl] at this
  refine (congrArg _ this).trans ?_
  rw [Z0d]
  omega
theorem Z05t {n:Int} (h0:0≤n):IntKind.wrap .u8 (Zn .u64 (n%2251799813685248) 16)=n / 65536%256:=by
  have:=Z22 (n%2251799813685248) 16 (by decide)
  rw [show ((2^16:Nat):Int)=65536 from rfl] at this
  refine (congrArg _ this).trans ?_
  rw [Z0d]
  omega
theorem Z05u {n:Int} (h0:0≤n):IntKind.wrap .u8 (Zn .u64 (n%2251799813685248) 24)=n / 16777216%256:=by
  have:=Z22 (n%2251799813685248) 24 (by decide)
  rw [show ((2^24:Nat):Int)=16777216 from rfl] at this
  refine (congrArg _ this).trans ?_
  rw [Z0d]
  omega
theorem Z05v {n:Int} (h0:0≤n):IntKind.wrap .u8 (Zn .u64 (n%2251799813685248) 32)=n / 4294967296%256:=by
  have:=Z22 (n%2251799813685248) 32 (by decide)
  rw [show ((2^32:Nat):Int)=4294967296 from rfl] at this
  refine (congrArg _ this).trans ?_
  rw [Z0d]
  omega
theorem Z05w {n:Int} (h0:0≤n):IntKind.wrap .u8 (Zn .u64 (n%2251799813685248) 40)=n / 1099511627776%256:=by
  have:=Z22 (n%2251799813685248) 40 (by decide)
  rw [show ((2^40:Nat):Int)=1099511627776 from rfl] at this
  refine (congrArg _ this).trans ?_
  rw [Z0d]
  omega
theorem Z05x {n:Int} (h0:0≤n):IntKind.wrap .u8 (Z4 .or .u64 (Zn .u64 (n%2251799813685248) 48) (Zj .u64 (n / 2251799813685248%2251799813685248) 3))=n / 281474976710656%256:=by
  have e1:Zn .u64 (n%2251799813685248) 48=n / 281474976710656%8:=by
    have:=Z22 (n%2251799813685248) 48 (by decide)
    rw [show ((2^48:Nat):Int)=281474976710656 from rfl] at this
    refine this.trans ?_
    omega
  have e2:Zj .u64 (n / 2251799813685248%2251799813685248) 3=(n / 2251799813685248%2251799813685248)*8:=by
    have:=Zeg .u64 (x:=n / 2251799813685248%2251799813685248) (n:=3) (by decide)
    rw [show ((2^3:Nat):Int)=8 from rfl] at this
    refine this.trans (Zb (by omega) (by omega))
  rw [e1,e2,Z0k 3 (x:=(n / 2251799813685248%2251799813685248)*8) (y:=n / 281474976710656%8) (a:=n / 2251799813685248%2251799813685248) rfl (by omega) (by omega) (by show _<(8:Int); omega) (by omega),Z0d]
  omega
theorem Z05y {n:Int} (h0:0≤n):IntKind.wrap .u8 (Zn .u64 (n / 2251799813685248%2251799813685248) 5)=n / 72057594037927936%256:=by
  have:=Z22 (n / 2251799813685248%2251799813685248) 5 (by decide)
  rw [show ((2^5:Nat):Int)=32 from rfl] at this
  refine (congrArg _ this).trans ?_
  rw [Z0d]
  omega
theorem Z05z {n:Int} (h0:0≤n):IntKind.wrap .u8 (Zn .u64 (n / 2251799813685248%2251799813685248) 13)=n / 18446744073709551616%256:=by
  have:=Z22 (n / 2251799813685248%2251799813685248) 13 (by decide)
  rw [show ((2^13:Nat):Int)=8192 from rfl] at this
  refine (congrArg _ this).trans ?_
  rw [Z0d]
  omega
theorem Z060 {n:Int} (h0:0≤n):IntKind.wrap .u8 (Zn .u64 (n / 2251799813685248%2251799813685248) 21)=n / 4722366482869645213696%256:=by
  have:=Z22 (n / 2251799813685248%2251799813685248) 21 (by decide)
  rw [show ((2^21:Nat):Int)=2097152 from rfl] at this
  refine (congrArg _ this).trans ?_
  rw [Z0d]
  omega
theorem Z00z {n:Int} (h0:0≤n):IntKind.wrap .u8 (Zn .u64 (n / 2251799813685248%2251799813685248) 29)=n / 1208925819614629174706176%256:=by
  have:=Z22 (n / 2251799813685248%2251799813685248) 29 (by decide)
  rw [show ((2^29:Nat):Int)=536870912 from rfl] at this
  refine (congrArg _ this).trans ?_
  rw [Z0d]
  omega
theorem Z010 {n:Int} (h0:0≤n):IntKind.wrap .u8 (Zn .u64 (n / 2251799813685248%2251799813685248) 37)=n / 309485009821345068724781056%256:=by
  have:=Z22 (n / 2251799813685248%2251799813685248) 37 (by decide)
  rw [show ((2^37:Nat):Int)=137438953472 from rfl] at this
  refine (congrArg _ this).trans ?_
  rw [Z0d]
  omega
theorem Z011 {n:Int} (h0:0≤n):IntKind.wrap .u8 (Z4 .or .u64 (Zn .u64 (n / 2251799813685248%2251799813685248) 45) (Zj .u64 (n / 5070602400912917605986812821504%2251799813685248) 6))=n / 79228162514264337593543950336%256:=by
  have e1:Zn .u64 (n / 2251799813685248%2251799813685248) 45=n / 79228162514264337593543950336%64:=by
    have:=Z22 (n / 2251799813685248%2251799813685248) 45 (by decide)
    rw [show ((2^45:Nat):Int)=35184372088832 from rfl] at this
    refine this.trans ?_
    omega
  have e2:Zj .u64 (n / 5070602400912917605986812821504%2251799813685248) 6=(n / 5070602400912917605986812821504%2251799813685248)*64:=by
    have:=Zeg .u64 (x:=n / 5070602400912917605986812821504%2251799813685248) (n:=6) (by decide)
    rw [show ((2^6:Nat):Int)=64 from rfl] at this
    refine this.trans (Zb (by omega) (by omega))
  rw [e1,e2,Z0k 6 (x:=(n / 5070602400912917605986812821504%2251799813685248)*64) (y:=n / 79228162514264337593543950336%64) (a:=n / 5070602400912917605986812821504%2251799813685248) rfl (by omega) (by omega) (by show _<(64:Int); omega) (by omega),Z0d]
  omega
theorem Z012 {n:Int} (h0:0≤n):IntKind.wrap .u8 (Zn .u64 (n / 5070602400912917605986812821504%2251799813685248) 2)=n / 20282409603651670423947251286016%256:=by
  have:=Z22 (n / 5070602400912917605986812821504%2251799813685248) 2 (by decide)
  rw [show ((2^2:Nat):Int)=4 from rfl] at this
  refine (congrArg _ this).trans ?_
  rw [Z0d]
  omega
theorem Z013 {n:Int} (h0:0≤n):IntKind.wrap .u8 (Zn .u64 (n / 5070602400912917605986812821504%2251799813685248) 10)=n / 5192296858534827628530496329220096%256:=by
  have:=Z22 (n / 5070602400912917605986812821504%2251799813685248) 10 (by decide)
  rw [show ((2^10:Nat):Int)=1024 from rfl] at this
  refine (congrArg _ this).trans ?_
  rw [Z0d]
  omega
theorem Z014 {n:Int} (h0:0≤n):IntKind.wrap .u8 (Zn .u64 (n / 5070602400912917605986812821504%2251799813685248) 18)=n / 1329227995784915872903807060280344576%256:=by
  have:=Z22 (n / 5070602400912917605986812821504%2251799813685248) 18 (by decide)
  rw [show ((2^18:Nat):Int)=262144 from rfl] at this
  refine (congrArg _ this).trans ?_
  rw [Z0d]
  omega
theorem Z015 {n:Int} (h0:0≤n):IntKind.wrap .u8 (Zn .u64 (n / 5070602400912917605986812821504%2251799813685248) 26)=n / 340282366920938463463374607431768211456%256:=by
  have:=Z22 (n / 5070602400912917605986812821504%2251799813685248) 26 (by decide)
  rw [show ((2^26:Nat):Int)=67108864 from rfl] at this
  refine (congrArg _ this).trans ?_
  rw [Z0d]
  omega
theorem Z016 {n:Int} (h0:0≤n):IntKind.wrap .u8 (Zn .u64 (n / 5070602400912917605986812821504%2251799813685248) 34)=n / 87112285931760246646623899502532662132736%256:=by
  have:=Z22 (n / 5070602400912917605986812821504%2251799813685248) 34 (by decide)
  rw [show ((2^34:Nat):Int)=17179869184 from rfl] at this
  refine (congrArg _ this).trans ?_
  rw [Z0d]
  omega
theorem Z017 {n:Int} (h0:0≤n):IntKind.wrap .u8 (Zn .u64 (n / 5070602400912917605986812821504%2251799813685248) 42)=n / 22300745198530623141535718272648361505980416%256:=by
  have:=Z22 (n / 5070602400912917605986812821504%2251799813685248) 42 (by decide)
  rw [show ((2^42:Nat):Int)=4398046511104 from rfl] at this
  refine (congrArg _ this).trans ?_
  rw [Z0d]
  omega
theorem Z018 {n:Int} (h0:0≤n):IntKind.wrap .u8 (Z4 .or .u64 (Zn .u64 (n / 5070602400912917605986812821504%2251799813685248) 50) (Zj .u64 (n / 11417981541647679048466287755595961091061972992%2251799813685248) 1))=n / 5708990770823839524233143877797980545530986496%256:=by
  have e1:Zn .u64 (n / 5070602400912917605986812821504%2251799813685248) 50=n / 5708990770823839524233143877797980545530986496%2:=by
    have:=Z22 (n / 5070602400912917605986812821504%2251799813685248) 50 (by decide)
    rw [show ((2^50:Nat):Int)=1125899906842624 from rfl] at this
    refine this.trans ?_
    omega
  have e2:Zj .u64 (n / 11417981541647679048466287755595961091061972992%2251799813685248) 1=(n / 11417981541647679048466287755595961091061972992%2251799813685248)*2:=by
    have:=Zeg .u64 (x:=n / 11417981541647679048466287755595961091061972992%2251799813685248) (n:=1) (by decide)
    rw [show ((2^1:Nat):Int)=2 from rfl] at this
    refine this.trans (Zb (by omega) (by omega))
  rw [e1,e2,Z0k 1 (x:=(n / 11417981541647679048466287755595961091061972992%2251799813685248)*2) (y:=n / 5708990770823839524233143877797980545530986496%2) (a:=n / 11417981541647679048466287755595961091061972992%2251799813685248) rfl (by omega) (by omega) (by show _<(2:Int); omega) (by omega),Z0d]
  omega
theorem Z019 {n:Int} (h0:0≤n):IntKind.wrap .u8 (Zn .u64 (n / 11417981541647679048466287755595961091061972992%2251799813685248) 7)=n / 1461501637330902918203684832716283019655932542976%256:=by
  have:=Z22 (n / 11417981541647679048466287755595961091061972992%2251799813685248) 7 (by decide)
  rw [show ((2^7:Nat):Int)=128 from rfl] at this
  refine (congrArg _ this).trans ?_
  rw [Z0d]
  omega
theorem Z01a {n:Int} (h0:0≤n):IntKind.wrap .u8 (Zn .u64 (n / 11417981541647679048466287755595961091061972992%2251799813685248) 15)=n / 374144419156711147060143317175368453031918731001856%256:=by
  have:=Z22 (n / 11417981541647679048466287755595961091061972992%2251799813685248) 15 (by decide)
  rw [show ((2^15:Nat):Int)=32768 from rfl] at this
  refine (congrArg _ this).trans ?_
  rw [Z0d]
  omega
theorem Z01b {n:Int} (h0:0≤n):IntKind.wrap .u8 (Zn .u64 (n / 11417981541647679048466287755595961091061972992%2251799813685248) 23)=n / 95780971304118053647396689196894323976171195136475136%256:=by
  have:=Z22 (n / 11417981541647679048466287755595961091061972992%2251799813685248) 23 (by decide)
  rw [show ((2^23:Nat):Int)=8388608 from rfl] at this
  refine (congrArg _ this).trans ?_
  rw [Z0d]
  omega
theorem Z01c {n:Int} (h0:0≤n):IntKind.wrap .u8 (Zn .u64 (n / 11417981541647679048466287755595961091061972992%2251799813685248) 31)=n / 24519928653854221733733552434404946937899825954937634816%256:=by
  have:=Z22 (n / 11417981541647679048466287755595961091061972992%2251799813685248) 31 (by decide)
  rw [show ((2^31:Nat):Int)=2147483648 from rfl] at this
  refine (congrArg _ this).trans ?_
  rw [Z0d]
  omega
theorem Z01d {n:Int} (h0:0≤n):IntKind.wrap .u8 (Zn .u64 (n / 11417981541647679048466287755595961091061972992%2251799813685248) 39)=n / 6277101735386680763835789423207666416102355444464034512896%256:=by
  have:=Z22 (n / 11417981541647679048466287755595961091061972992%2251799813685248) 39 (by decide)
  rw [show ((2^39:Nat):Int)=549755813888 from rfl] at this
  refine (congrArg _ this).trans ?_
  rw [Z0d]
  omega
theorem Z01e {n:Int} (h0:0≤n):IntKind.wrap .u8 (Z4 .or .u64 (Zn .u64 (n / 11417981541647679048466287755595961091061972992%2251799813685248) 47) (Zj .u64 (n / 25711008708143844408671393477458601640355247900524685364822016%2251799813685248) 4))=n / 1606938044258990275541962092341162602522202993782792835301376%256:=by
  have e1:Zn .u64 (n / 11417981541647679048466287755595961091061972992%2251799813685248) 47=n / 1606938044258990275541962092341162602522202993782792835301376%16:=by
    have:=Z22 (n / 11417981541647679048466287755595961091061972992%2251799813685248) 47 (by decide)
    rw [show ((2^47:Nat):Int)=140737488355328 from rfl] at this
    refine this.trans ?_
    omega
  have e2:Zj .u64 (n / 25711008708143844408671393477458601640355247900524685364822016%2251799813685248) 4=(n / 25711008708143844408671393477458601640355247900524685364822016%2251799813685248)*16:=by
    have:=Zeg .u64 (x:=n / 25711008708143844408671393477458601640355247900524685364822016%2251799813685248) (n:=4) (by decide)
    rw [show ((2^4:Nat):Int)=16 from rfl] at this
    refine this.trans (Zb (by omega) (by omega))
  rw [e1,e2,Z0k 4 (x:=(n / 25711008708143844408671393477458601640355247900524685364822016%2251799813685248)*16) (y:=n / 1606938044258990275541962092341162602522202993782792835301376%16) (a:=n / 25711008708143844408671393477458601640355247900524685364822016%2251799813685248) rfl (by omega) (by omega) (by show _<(16:Int); omega) (by omega),Z0d]
  omega
theorem Z01f {n:Int} (h0:0≤n) (h1:n<57896044618658097711785492504343953926634992332820282019728792003956564819949):IntKind.wrap .u8 (Zn .u64 (n / 25711008708143844408671393477458601640355247900524685364822016%2251799813685248) 4)=n / 411376139330301510538742295639337626245683966408394965837152256%256:=by
  have:=Z22 (n / 25711008708143844408671393477458601640355247900524685364822016%2251799813685248) 4 (by decide)
  rw [show ((2^4:Nat):Int)=16 from rfl] at this
  refine (congrArg _ this).trans ?_
  rw [Z0d]
  omega
theorem Z01g {n:Int} (h0:0≤n) (h1:n<57896044618658097711785492504343953926634992332820282019728792003956564819949):IntKind.wrap .u8 (Zn .u64 (n / 25711008708143844408671393477458601640355247900524685364822016%2251799813685248) 12)=n / 105312291668557186697918027683670432318895095400549111254310977536%256:=by
  have:=Z22 (n / 25711008708143844408671393477458601640355247900524685364822016%2251799813685248) 12 (by decide)
  rw [show ((2^12:Nat):Int)=4096 from rfl] at this
  refine (congrArg _ this).trans ?_
  rw [Z0d]
  omega
theorem Z01h {n:Int} (h0:0≤n) (h1:n<57896044618658097711785492504343953926634992332820282019728792003956564819949):IntKind.wrap .u8 (Zn .u64 (n / 25711008708143844408671393477458601640355247900524685364822016%2251799813685248) 20)=n / 26959946667150639794667015087019630673637144422540572481103610249216%256:=by
  have:=Z22 (n / 25711008708143844408671393477458601640355247900524685364822016%2251799813685248) 20 (by decide)
  rw [show ((2^20:Nat):Int)=1048576 from rfl] at this
  refine (congrArg _ this).trans ?_
  rw [Z0d]
  omega
theorem Z01i {n:Int} (h0:0≤n) (h1:n<57896044618658097711785492504343953926634992332820282019728792003956564819949):IntKind.wrap .u8 (Zn .u64 (n / 25711008708143844408671393477458601640355247900524685364822016%2251799813685248) 28)=n / 6901746346790563787434755862277025452451108972170386555162524223799296%256:=by
  have:=Z22 (n / 25711008708143844408671393477458601640355247900524685364822016%2251799813685248) 28 (by decide)
  rw [show ((2^28:Nat):Int)=268435456 from rfl] at this
  refine (congrArg _ this).trans ?_
  rw [Z0d]
  omega
theorem Z01j {n:Int} (h0:0≤n) (h1:n<57896044618658097711785492504343953926634992332820282019728792003956564819949):IntKind.wrap .u8 (Zn .u64 (n / 25711008708143844408671393477458601640355247900524685364822016%2251799813685248) 36)=n / 1766847064778384329583297500742918515827483896875618958121606201292619776%256:=by
  have:=Z22 (n / 25711008708143844408671393477458601640355247900524685364822016%2251799813685248) 36 (by decide)
  rw [show ((2^36:Nat):Int)=68719476736 from rfl] at this
  refine (congrArg _ this).trans ?_
  rw [Z0d]
  omega
theorem Z01k {n:Int} (h0:0≤n) (h1:n<57896044618658097711785492504343953926634992332820282019728792003956564819949):IntKind.wrap .u8 (Zn .u64 (n / 25711008708143844408671393477458601640355247900524685364822016%2251799813685248) 44)=n / 452312848583266388373324160190187140051835877600158453279131187530910662656%256:=by
  have:=Z22 (n / 25711008708143844408671393477458601640355247900524685364822016%2251799813685248) 44 (by decide)
  rw [show ((2^44:Nat):Int)=17592186044416 from rfl] at this
  refine (congrArg _ this).trans ?_
  rw [Z0d]
  omega
theorem Zxs {x:List Int} (hx:U5 x):Za2 x=some (byt (Z6s x%PP)):=by
  rw [Za2,Z3 (Z90 hx),Z12]
  have h0:0≤Z6s x%PP:=Int.emod_nonneg _ (by decide)
  have h1:Z6s x%PP<PP:=Int.emod_lt_of_pos _ Ziz
  unfold Zkv
  generalize Z6s x%PP=n at *
  have e:Zjd n = [n%2251799813685248,n / 2251799813685248%2251799813685248,n / 5070602400912917605986812821504%2251799813685248,n / 11417981541647679048466287755595961091061972992%2251799813685248,n / 25711008708143844408671393477458601640355247900524685364822016%2251799813685248]:=rfl
  rw [e,Zum,Z05r h0,Z05s h0,Z05t h0,Z05u h0,Z05v h0,Z05w h0,Z05x h0,Z05y h0,Z05z h0,Z060 h0,Z00z h0,Z010 h0,Z011 h0,Z012 h0,Z013 h0,Z014 h0,Z015 h0,Z016 h0,Z017 h0,Z018 h0,Z019 h0,Z01a h0,Z01b h0,Z01c h0,Z01d h0,Z01e h0,Z01f h0 h1,Z01g h0 h1,Z01h h0 h1,Z01i h0 h1,Z01j h0 h1,Z01k h0 h1]
  rfl
theorem Z066 (k:List Int→Option (List Int)) (x:List Int):Z3b x k big 0 (List.replicate 5 0)=k [Z4 .or .u64 (Z4 .or .u64 (Z4 .or .u64 (Z4 .or .u64 (Z4 .or .u64 (Z4 .or .u64 (Z4 .or .u64 (0) (Z4 .and .u64 (Zj .u64 (IntKind.wrap .u64 (x.getD 0 0)) 0) 2251799813685247)) (Z4 .and .u64 (Zj .u64 (IntKind.wrap .u64 (x.getD 1 0)) 8) 2251799813685247)) (Z4 .and .u64 (Zj .u64 (IntKind.wrap .u64 (x.getD 2 0)) 16) 2251799813685247)) (Z4 .and .u64 (Zj .u64 (IntKind.wrap .u64 (x.getD 3 0)) 24) 2251799813685247)) (Z4 .and .u64 (Zj .u64 (IntKind.wrap .u64 (x.getD 4 0)) 32) 2251799813685247)) (Z4 .and .u64 (Zj .u64 (IntKind.wrap .u64 (x.getD 5 0)) 40) 2251799813685247)) (Z4 .and .u64 (Zj .u64 (IntKind.wrap .u64 (x.getD 6 0)) 48) 2251799813685247),
  Z4 .or .u64 (Z4 .or .u64 (Z4 .or .u64 (Z4 .or .u64 (Z4 .or .u64 (Z4 .or .u64 (Z4 .or .u64 (0) (Zn .u64 (IntKind.wrap .u64 (x.getD 6 0)) 3)) (Z4 .and .u64 (Zj .u64 (IntKind.wrap .u64 (x.getD 7 0)) 5) 2251799813685247)) (Z4 .and .u64 (Zj .u64 (IntKind.wrap .u64 (x.getD 8 0)) 13) 2251799813685247)) (Z4 .and .u64 (Zj .u64 (IntKind.wrap .u64 (x.getD 9 0)) 21) 2251799813685247)) (Z4 .and .u64 (Zj .u64 (IntKind.wrap .u64 (x.getD 10 0)) 29) 2251799813685247)) (Z4 .and .u64 (Zj .u64 (IntKind.wrap .u64 (x.getD 11 0)) 37) 2251799813685247)) (Z4 .and .u64 (Zj .u64 (IntKind.wrap .u64 (x.getD 12 0)) 45) 2251799813685247),
  Z4 .or .u64 (Z4 .or .u64 (Z4 .or .u64 (Z4 .or .u64 (Z4 .or .u64 (Z4 .or .u64 (Z4 .or .u64 (Z4 .or .u64 (0) (Zn .u64 (IntKind.wrap .u64 (x.getD 12 0)) 6)) (Z4 .and .u64 (Zj .u64 (IntKind.wrap .u64 (x.getD 13 0)) 2) 2251799813685247)) (Z4 .and .u64 (Zj .u64 (IntKind.wrap .u64 (x.getD 14 0)) 10) 2251799813685247)) (Z4 .and .u64 (Zj .u64 (IntKind.wrap .u64 (x.getD 15 0)) 18) 2251799813685247)) (Z4 .and .u64 (Zj .u64 (IntKind.wrap .u64 (x.getD 16 0)) 26) 2251799813685247)) (Z4 .and .u64 (Zj .u64 (IntKind.wrap .u64 (x.getD 17 0)) 34) 2251799813685247)) (Z4 .and .u64 (Zj .u64 (IntKind.wrap .u64 (x.getD 18 0)) 42) 2251799813685247)) (Z4 .and .u64 (Zj .u64 (IntKind.wrap .u64 (x.getD 19 0)) 50) 2251799813685247),
  Z4 .or .u64 (Z4 .or .u64 (Z4 .or .u64 (Z4 .or .u64 (Z4 .or .u64 (Z4 .or .u64 (Z4 .or .u64 (0) (Zn .u64 (IntKind.wrap .u64 (x.getD 19 0)) 1)) (Z4 .and .u64 (Zj .u64 (IntKind.wrap .u64 (x.getD 20 0)) 7) 2251799813685247)) (Z4 .and .u64 (Zj .u64 (IntKind.wrap .u64 (x.getD 21 0)) 15) 2251799813685247)) (Z4 .and .u64 (Zj .u64 (IntKind.wrap .u64 (x.getD 22 0)) 23) 2251799813685247)) (Z4 .and .u64 (Zj .u64 (IntKind.wrap .u64 (x.getD 23 0)) 31) 2251799813685247)) (Z4 .and .u64 (Zj .u64 (IntKind.wrap .u64 (x.getD 24 0)) 39) 2251799813685247)) (Z4 .and .u64 (Zj .u64 (IntKind.wrap .u64 (x.getD 25 0)) 47) 2251799813685247),
  Z4 .or .u64 (Z4 .or .u64 (Z4 .or .u64 (Z4 .or .u64 (Z4 .or .u64 (Z4 .or .u64 (Z4 .or .u64 (0) (Zn .u64 (IntKind.wrap .u64 (x.getD 25 0)) 4)) (Z4 .and .u64 (Zj .u64 (IntKind.wrap .u64 (x.getD 26 0)) 4) 2251799813685247)) (Z4 .and .u64 (Zj .u64 (IntKind.wrap .u64 (x.getD 27 0)) 12) 2251799813685247)) (Z4 .and .u64 (Zj .u64 (IntKind.wrap .u64 (x.getD 28 0)) 20) 2251799813685247)) (Z4 .and .u64 (Zj .u64 (IntKind.wrap .u64 (x.getD 29 0)) 28) 2251799813685247)) (Z4 .and .u64 (Zj .u64 (IntKind.wrap .u64 (x.getD 30 0)) 36) 2251799813685247)) (Z4 .and .u64 (Zj .u64 (IntKind.wrap .u64 (Z4 .and .u8 (x.getD 31 0) 127)) 44) 2251799813685247)]:=by kernel_rfl
theorem Z14 (k:Nat) {b:Int} (hk:k≤51) (hb:0≤b∧b<256):Z4 .and .u64 (Zj .u64 (IntKind.wrap .u64 b) (k:Int)) 2251799813685247=b%((2^(51-k):Nat):Int)*((2^k:Nat):Int):=by
  have hp:(0:Int)<((2^k:Nat):Int):=by have:=Nat.pow_pos (n:=k) (show 0<2 by decide); omega
  have hq:(0:Int)<((2^(51-k):Nat):Int):=by have:=Nat.pow_pos (n:=51-k) (show 0<2 by decide); omega
  have hle:((2^k:Nat):Int)≤2251799813685248:=by
    have:=Nat.pow_le_pow_right (show 0<2 by decide) hk
    have e:(2^51:Nat)=2251799813685248:=by decide
    omega
  have hprod:((2^k:Nat):Int)*((2^(51-k):Nat):Int)=2251799813685248:=by
    rw [← Int.natCast_mul,← Nat.pow_add,show k+(51-k)=51 by omega]; rfl
  have hbk:b*((2^k:Nat):Int)≤256*2251799813685248:=Int.mul_le_mul (by omega) hle (by omega) (by omega)
  have hbk0:0≤b*((2^k:Nat):Int):=Int.mul_nonneg hb.1 (by omega)
  rw [Zb hb.1 (by omega),Zeg .u64 (n:=k) (by show k≤64; omega),Zb hbk0 (by omega),Zmi hbk0 (by omega)]
  rw [← hprod,Int.mul_comm b,Int.mul_emod_mul_of_pos _ _ hp,Int.mul_comm]
theorem Zip (k:Nat) {b:Int} (hk:k≤64) (hb:0≤b∧b<256):Zn .u64 (IntKind.wrap .u64 b) (k:Int)=b / ((2^k:Nat):Int):=by
  rw [Zb hb.1 (by omega),Z93 .u64 hk]
theorem Z0bi {b0 b1 b2 b3 b4 b5 b6:Int} (h0:0≤b0∧b0<256) (h1:0≤b1∧b1<256) (h2:0≤b2∧b2<256) (h3:0≤b3∧b3<256) (h4:0≤b4∧b4<256) (h5:0≤b5∧b5<256) (h6:0≤b6∧b6<256):Z4 .or .u64 (Z4 .or .u64 (Z4 .or .u64 (Z4 .or .u64 (Z4 .or .u64 (Z4 .or .u64 (Z4 .or .u64 (0) (Z4 .and .u64 (Zj .u64 (IntKind.wrap .u64 b0) 0) 2251799813685247)) (Z4 .and .u64 (Zj .u64 (IntKind.wrap .u64 b1) 8) 2251799813685247)) (Z4 .and .u64 (Zj .u64 (IntKind.wrap .u64 b2) 16) 2251799813685247)) (Z4 .and .u64 (Zj .u64 (IntKind.wrap .u64 b3) 24) 2251799813685247)) (Z4 .and .u64 (Zj .u64 (IntKind.wrap .u64 b4) 32) 2251799813685247)) (Z4 .and .u64 (Zj .u64 (IntKind.wrap .u64 b5) 40) 2251799813685247)) (Z4 .and .u64 (Zj .u64 (IntKind.wrap .u64 b6) 48) 2251799813685247)=0+b0*1+b1*256+b2*65536+b3*16777216+b4*4294967296+b5*1099511627776+b6%8*281474976710656:=by
  have p0:Z4 .and .u64 (Zj .u64 (IntKind.wrap .u64 b0) 0) 2251799813685247=b0*1:=by
    have:=Z14 0 (by decide) h0
    refine this.trans ?_
    rw [show ((2^(51-0):Nat):Int)=2251799813685248 from rfl,show ((2^0:Nat):Int)=1 from rfl]
    rw [Int.emod_eq_of_lt h0.1 (by omega)]
  rw [p0,Z0k 0 (x:=b0*1) (y:=0) (a:=b0) (by simp) (by omega) (by omega) (by show _<(1:Int); omega) (by omega)]
  have p1:Z4 .and .u64 (Zj .u64 (IntKind.wrap .u64 b1) 8) 2251799813685247=b1*256:=by
    have:=Z14 8 (by decide) h1
    refine this.trans ?_
    rw [show ((2^(51-8):Nat):Int)=8796093022208 from rfl,show ((2^8:Nat):Int)=256 from rfl]
    rw [Int.emod_eq_of_lt h1.1 (by omega)]
  rw [p1,Z0k 8 (x:=b1*256) (y:=0+b0*1) (a:=b1) (by simp) (by omega) (by omega) (by show _<(256:Int); omega) (by omega)]
  have p2:Z4 .and .u64 (Zj .u64 (IntKind.wrap .u64 b2) 16) 2251799813685247=b2*65536:=by
    have:=Z14 16 (by decide) h2
    refine this.trans ?_
    rw [show ((2^(51-16):Nat):Int)=34359738368 from rfl,show ((2^16:Nat):Int)=65536 from rfl]
    rw [Int.emod_eq_of_lt h2.1 (by omega)]
  rw [p2,Z0k 16 (x:=b2*65536) (y:=0+b0*1+b1*256) (a:=b2) (by simp) (by omega) (by omega) (by show _<(65536:Int); omega) (by omega)]
  have p3:Z4 .and .u64 (Zj .u64 (IntKind.wrap .u64 b3) 24) 2251799813685247=b3*16777216:=by
    have:=Z14 24 (by decide) h3
    refine this.trans ?_
    rw [show ((2^(51-24):Nat):Int)=134217728 from rfl,show ((2^24:Nat):Int)=16777216 from rfl]
    rw [Int.emod_eq_of_lt h3.1 (by omega)]
  rw [p3,Z0k 24 (x:=b3*16777216) (y:=0+b0*1+b1*256+b2*65536) (a:=b3) (by simp) (by omega) (by omega) (by show _<(16777216:Int); omega) (by omega)]
  have p4:Z4 .and .u64 (Zj .u64 (IntKind.wrap .u64 b4) 32) 2251799813685247=b4*4294967296:=by
    have:=Z14 32 (by decide) h4
    refine this.trans ?_
    rw [show ((2^(51-32):Nat):Int)=524288 from rfl,show ((2^32:Nat):Int)=4294967296 from rfl]
    rw [Int.emod_eq_of_lt h4.1 (by omega)]
  rw [p4,Z0k 32 (x:=b4*4294967296) (y:=0+b0*1+b1*256+b2*65536+b3*16777216) (a:=b4) (by simp) (by omega) (by omega) (by show _<(4294967296:Int); omega) (by omega)]
  have p5:Z4 .and .u64 (Zj .u64 (IntKind.wrap .u64 b5) 40) 2251799813685247=b5*1099511627776:=by
    have:=Z14 40 (by decide) h5
    refine this.trans ?_
    rw [show ((2^(51-40):Nat):Int)=2048 from rfl,show ((2^40:Nat):Int)=1099511627776 from rfl]
    rw [Int.emod_eq_of_lt h5.1 (by omega)]
  rw [p5,Z0k 40 (x:=b5*1099511627776) (y:=0+b0*1+b1*256+b2*65536+b3*16777216+b4*4294967296) (a:=b5) (by simp) (by omega) (by omega) (by show _<(1099511627776:Int); omega) (by omega)]
  have p6:Z4 .and .u64 (Zj .u64 (IntKind.wrap .u64 b6) 48) 2251799813685247=b6%8*281474976710656:=by
    have:=Z14 48 (by decide) h6
    refine this.trans ?_
    rw [show ((2^(51-48):Nat):Int)=8 from rfl,show ((2^48:Nat):Int)=281474976710656 from rfl]
  rw [p6,Z0k 48 (x:=b6%8*281474976710656) (y:=0+b0*1+b1*256+b2*65536+b3*16777216+b4*4294967296+b5*1099511627776) (a:=b6%8) (by simp) (by omega) (by omega) (by show _<(281474976710656:Int); omega) (by omega)]
theorem Z0bj {b6 b7 b8 b9 b10 b11 b12:Int} (h6:0≤b6∧b6<256) (h7:0≤b7∧b7<256) (h8:0≤b8∧b8<256) (h9:0≤b9∧b9<256) (h10:0≤b10∧b10<256) (h11:0≤b11∧b11<256) (h12:0≤b12∧b12<256):Z4 .or .u64 (Z4 .or .u64 (Z4 .or .u64 (Z4 .or .u64 (Z4 .or .u64 (Z4 .or .u64 (Z4 .or .u64 (0) (Zn .u64 (IntKind.wrap .u64 b6) 3)) (Z4 .and .u64 (Zj .u64 (IntKind.wrap .u64 b7) 5) 2251799813685247)) (Z4 .and .u64 (Zj .u64 (IntKind.wrap .u64 b8) 13) 2251799813685247)) (Z4 .and .u64 (Zj .u64 (IntKind.wrap .u64 b9) 21) 2251799813685247)) (Z4 .and .u64 (Zj .u64 (IntKind.wrap .u64 b10) 29) 2251799813685247)) (Z4 .and .u64 (Zj .u64 (IntKind.wrap .u64 b11) 37) 2251799813685247)) (Z4 .and .u64 (Zj .u64 (IntKind.wrap .u64 b12) 45) 2251799813685247)=0+b6 / 8+b7*32+b8*8192+b9*2097152+b10*536870912+b11*137438953472+b12%64*35184372088832:=by
  have p0:Zn .u64 (IntKind.wrap .u64 b6) 3=b6 / 8:=by
    have:=Zip 3 (by decide) h6
    refine this.trans ?_
    rw [show ((2^3:Nat):Int)=8 from rfl]
  rw [p0,Z0k 0 (x:=b6 / 8) (y:=0) (a:=b6 / 8) (by simp) (by omega) (by omega) (by show _<(1:Int); omega) (by omega)]
  have p1:Z4 .and .u64 (Zj .u64 (IntKind.wrap .u64 b7) 5) 2251799813685247=b7*32:=by
    have:=Z14 5 (by decide) h7
    refine this.trans ?_
    rw [show ((2^(51-5):Nat):Int)=70368744177664 from rfl,show ((2^5:Nat):Int)=32 from rfl]
    rw [Int.emod_eq_of_lt h7.1 (by omega)]
  rw [p1,Z0k 5 (x:=b7*32) (y:=0+b6 / 8) (a:=b7) (by simp) (by omega) (by omega) (by show _<(32:Int); omega) (by omega)]
  have p2:Z4 .and .u64 (Zj .u64 (IntKind.wrap .u64 b8) 13) 2251799813685247=b8*8192:=by
    have:=Z14 13 (by decide) h8
    refine this.trans ?_
    rw [show ((2^(51-13):Nat):Int)=274877906944 from rfl,show ((2^13:Nat):Int)=8192 from rfl]
    rw [Int.emod_eq_of_lt h8.1 (by omega)]
  rw [p2,Z0k 13 (x:=b8*8192) (y:=0+b6 / 8+b7*32) (a:=b8) (by simp) (by omega) (by omega) (by show _<(8192:Int); omega) (by omega)]
  have p3:Z4 .and .u64 (Zj .u64 (IntKind.wrap .u64 b9) 21) 2251799813685247=b9*2097152:=by
    have:=Z14 21 (by decide) h9
    refine this.trans ?_
    rw [show ((2^(51-21):Nat):Int)=1073741824 from rfl,show ((2^21:Nat):Int)=2097152 from rfl]
    rw [Int.emod_eq_of_lt h9.1 (by omega)]
  rw [p3,Z0k 21 (x:=b9*2097152) (y:=0+b6 / 8+b7*32+b8*8192) (a:=b9) (by simp) (by omega) (by omega) (by show _<(2097152:Int); omega) (by omega)]
  have p4:Z4 .and .u64 (Zj .u64 (IntKind.wrap .u64 b10) 29) 2251799813685247=b10*536870912:=by
    have:=Z14 29 (by decide) h10
    refine this.trans ?_
    rw [show ((2^(51-29):Nat):Int)=4194304 from rfl,show ((2^29:Nat):Int)=536870912 from rfl]
    rw [Int.emod_eq_of_lt h10.1 (by omega)]
  rw [p4,Z0k 29 (x:=b10*536870912) (y:=0+b6 / 8+b7*32+b8*8192+b9*2097152) (a:=b10) (by simp) (by omega) (by omega) (by show _<(536870912:Int); omega) (by omega)]
  have p5:Z4 .and .u64 (Zj .u64 (IntKind.wrap .u64 b11) 37) 2251799813685247=b11*137438953472:=by
    have:=Z14 37 (by decide) h11
    refine this.trans ?_
    rw [show ((2^(51-37):Nat):Int)=16384 from rfl,show ((2^37:Nat):Int)=137438953472 from rfl]
    rw [Int.emod_eq_of_lt h11.1 (by omega)]
  rw [p5,Z0k 37 (x:=b11*137438953472) (y:=0+b6 / 8+b7*32+b8*8192+b9*2097152+b10*536870912) (a:=b11) (by simp) (by omega) (by omega) (by show _<(137438953472:Int); omega) (by omega)]
  have p6:Z4 .and .u64 (Zj .u64 (IntKind.wrap .u64 b12) 45) 2251799813685247=b12%64*35184372088832:=by
    have:=Z14 45 (by decide) h12
    refine this.trans ?_
    rw [show ((2^(51-45):Nat):Int)=64 from rfl,show ((2^45:Nat):Int)=35184372088832 from rfl]
  rw [p6,Z0k 45 (x:=b12%64*35184372088832) (y:=0+b6 / 8+b7*32+b8*8192+b9*2097152+b10*536870912+b11*137438953472) (a:=b12%64) (by simp) (by omega) (by omega) (by show _<(35184372088832:Int); omega) (by omega)]
theorem Z0bk {b12 b13 b14 b15 b16 b17 b18 b19:Int} (h12:0≤b12∧b12<256) (h13:0≤b13∧b13<256) (h14:0≤b14∧b14<256) (h15:0≤b15∧b15<256) (h16:0≤b16∧b16<256) (h17:0≤b17∧b17<256) (h18:0≤b18∧b18<256) (h19:0≤b19∧b19<256):Z4 .or .u64 (Z4 .or .u64 (Z4 .or .u64 (Z4 .or .u64 (Z4 .or .u64 (Z4 .or .u64 (Z4 .or .u64 (Z4 .or .u64 (0) (Zn .u64 (IntKind.wrap .u64 b12) 6)) (Z4 .and .u64 (Zj .u64 (IntKind.wrap .u64 b13) 2) 2251799813685247)) (Z4 .and .u64 (Zj .u64 (IntKind.wrap .u64 b14) 10) 2251799813685247)) (Z4 .and .u64 (Zj .u64 (IntKind.wrap .u64 b15) 18) 2251799813685247)) (Z4 .and .u64 (Zj .u64 (IntKind.wrap .u64 b16) 26) 2251799813685247)) (Z4 .and .u64 (Zj .u64 (IntKind.wrap .u64 b17) 34) 2251799813685247)) (Z4 .and .u64 (Zj .u64 (IntKind.wrap .u64 b18) 42) 2251799813685247)) (Z4 .and .u64 (Zj .u64 (IntKind.wrap .u64 b19) 50) 2251799813685247)=0+b12 / 64+b13*4+b14*1024+b15*262144+b16*67108864+b17*17179869184+b18*4398046511104+b19%2*1125899906842624:=by
  have p0:Zn .u64 (IntKind.wrap .u64 b12) 6=b12 / 64:=by
    have:=Zip 6 (by decide) h12
    refine this.trans ?_
    rw [show ((2^6:Nat):Int)=64 from rfl]
  rw [p0,Z0k 0 (x:=b12 / 64) (y:=0) (a:=b12 / 64) (by simp) (by omega) (by omega) (by show _<(1:Int); omega) (by omega)]
  have p1:Z4 .and .u64 (Zj .u64 (IntKind.wrap .u64 b13) 2) 2251799813685247=b13*4:=by
    have:=Z14 2 (by decide) h13
    refine this.trans ?_
    rw [show ((2^(51-2):Nat):Int)=562949953421312 from rfl,show ((2^2:Nat):Int)=4 from rfl]
    rw [Int.emod_eq_of_lt h13.1 (by omega)]
  rw [p1,Z0k 2 (x:=b13*4) (y:=0+b12 / 64) (a:=b13) (by simp) (by omega) (by omega) (by show _<(4:Int); omega) (by omega)]
  have p2:Z4 .and .u64 (Zj .u64 (IntKind.wrap .u64 b14) 10) 2251799813685247=b14*1024:=by
    have:=Z14 10 (by decide) h14
    refine this.trans ?_
    rw [show ((2^(51-10):Nat):Int)=2199023255552 from rfl,show ((2^10:Nat):Int)=1024 from rfl]
    rw [Int.emod_eq_of_lt h14.1 (by omega)]
  rw [p2,Z0k 10 (x:=b14*1024) (y:=0+b12 / 64+b13*4) (a:=b14) (by simp) (by omega) (by omega) (by show _<(1024:Int); omega) (by omega)]
  have p3:Z4 .and .u64 (Zj .u64 (IntKind.wrap .u64 b15) 18) 2251799813685247=b15*262144:=by
    have:=Z14 18 (by decide) h15
    refine this.trans ?_
    rw [show ((2^(51-18):Nat):Int)=8589934592 from rfl,show ((2^18:Nat):Int)=262144 from rfl]
    rw [Int.emod_eq_of_lt h15.1 (by omega)]
  rw [p3,Z0k 18 (x:=b15*262144) (y:=0+b12 / 64+b13*4+b14*1024) (a:=b15) (by simp) (by omega) (by omega) (by show _<(262144:Int); omega) (by omega)]
  have p4:Z4 .and .u64 (Zj .u64 (IntKind.wrap .u64 b16) 26) 2251799813685247=b16*67108864:=by
    have:=Z14 26 (by decide) h16
    refine this.trans ?_
    rw [show ((2^(51-26):Nat):Int)=33554432 from rfl,show ((2^26:Nat):Int)=67108864 from rfl]
    rw [Int.emod_eq_of_lt h16.1 (by omega)]
  rw [p4,Z0k 26 (x:=b16*67108864) (y:=0+b12 / 64+b13*4+b14*1024+b15*262144) (a:=b16) (by simp) (by omega) (by omega) (by show _<(67108864:Int); omega) (by omega)]
  have p5:Z4 .and .u64 (Zj .u64 (IntKind.wrap .u64 b17) 34) 2251799813685247=b17*17179869184:=by
    have:=Z14 34 (by decide) h17
    refine this.trans ?_
    rw [show ((2^(51-34):Nat):Int)=131072 from rfl,show ((2^34:Nat):Int)=17179869184 from rfl]
    rw [Int.emod_eq_of_lt h17.1 (by omega)]
  rw [p5,Z0k 34 (x:=b17*17179869184) (y:=0+b12 / 64+b13*4+b14*1024+b15*262144+b16*67108864) (a:=b17) (by simp) (by omega) (by omega) (by show _<(17179869184:Int); omega) (by omega)]
  have p6:Z4 .and .u64 (Zj .u64 (IntKind.wrap .u64 b18) 42) 2251799813685247=b18*4398046511104:=by
    have:=Z14 42 (by decide) h18
    refine this.trans ?_
    rw [show ((2^(51-42):Nat):Int)=512 from rfl,show ((2^42:Nat):Int)=4398046511104 from rfl]
    rw [Int.emod_eq_of_lt h18.1 (by omega)]
  rw [p6,Z0k 42 (x:=b18*4398046511104) (y:=0+b12 / 64+b13*4+b14*1024+b15*262144+b16*67108864+b17*17179869184) (a:=b18) (by simp) (by omega) (by omega) (by show _<(4398046511104:Int); omega) (by omega)]
  have p7:Z4 .and .u64 (Zj .u64 (IntKind.wrap .u64 b19) 50) 2251799813685247=b19%2*1125899906842624:=by
    have:=Z14 50 (by decide) h19
    refine this.trans ?_
    rw [show ((2^(51-50):Nat):Int)=2 from rfl,show ((2^50:Nat):Int)=1125899906842624 from rfl]
  rw [p7,Z0k 50 (x:=b19%2*1125899906842624) (y:=0+b12 / 64+b13*4+b14*1024+b15*262144+b16*67108864+b17*17179869184+b18*4398046511104) (a:=b19%2) (by simp) (by omega) (by omega) (by show _<(1125899906842624:Int); omega) (by omega)]
theorem Z0bl {b19 b20 b21 b22 b23 b24 b25:Int} (h19:0≤b19∧b19<256) (h20:0≤b20∧b20<256) (h21:0≤b21∧b21<256) (h22:0≤b22∧b22<256) (h23:0≤b23∧b23<256) (h24:0≤b24∧b24<256) (h25:0≤b25∧b25<256):Z4 .or .u64 (Z4 .or .u64 (Z4 .or .u64 (Z4 .or .u64 (Z4 .or .u64 (Z4 .or .u64 (Z4 .or .u64 (0) (Zn .u64 (IntKind.wrap .u64 b19) 1)) (Z4 .and .u64 (Zj .u64 (IntKind.wrap .u64 b20) 7) 2251799813685247)) (Z4 .and .u64 (Zj .u64 (IntKind.wrap .u64 b21) 15) 2251799813685247)) (Z4 .and .u64 (Zj .u64 (IntKind.wrap .u64 b22) 23) 2251799813685247)) (Z4 .and .u64 (Zj .u64 (IntKind.wrap .u64 b23) 31) 2251799813685247)) (Z4 .and .u64 (Zj .u64 (IntKind.wrap .u64 b24) 39) 2251799813685247)) (Z4 .and .u64 (Zj .u64 (IntKind.wrap .u64 b25) 47) 2251799813685247)=0+b19 / 2+b20*128+b21*32768+b22*8388608+b23*2147483648+b24*549755813888+b25%16*140737488355328:=by
  have p0:Zn .u64 (IntKind.wrap .u64 b19) 1=b19 / 2:=by
    have:=Zip 1 (by decide) h19
    refine this.trans ?_
    rw [show ((2^1:Nat):Int)=2 from rfl]
  rw [p0,Z0k 0 (x:=b19 / 2) (y:=0) (a:=b19 / 2) (by simp) (by omega) (by omega) (by show _<(1:Int); omega) (by omega)]
  have p1:Z4 .and .u64 (Zj .u64 (IntKind.wrap .u64 b20) 7) 2251799813685247=b20*128:=by
    have:=Z14 7 (by decide) h20
    refine this.trans ?_
    rw [show ((2^(51-7):Nat):Int)=17592186044416 from rfl,show ((2^7:Nat):Int)=128 from rfl]
    rw [Int.emod_eq_of_lt h20.1 (by omega)]
  rw [p1,Z0k 7 (x:=b20*128) (y:=0+b19 / 2) (a:=b20) (by simp) (by omega) (by omega) (by show _<(128:Int); omega) (by omega)]
  have p2:Z4 .and .u64 (Zj .u64 (IntKind.wrap .u64 b21) 15) 2251799813685247=b21*32768:=by
    have:=Z14 15 (by decide) h21
    refine this.trans ?_
    rw [show ((2^(51-15):Nat):Int)=68719476736 from rfl,show ((2^15:Nat):Int)=32768 from rfl]
    rw [Int.emod_eq_of_lt h21.1 (by omega)]
  rw [p2,Z0k 15 (x:=b21*32768) (y:=0+b19 / 2+b20*128) (a:=b21) (by simp) (by omega) (by omega) (by show _<(32768:Int); omega) (by omega)]
  have p3:Z4 .and .u64 (Zj .u64 (IntKind.wrap .u64 b22) 23) 2251799813685247=b22*8388608:=by
    have:=Z14 23 (by decide) h22
    refine this.trans ?_
    rw [show ((2^(51-23):Nat):Int)=268435456 from rfl,show ((2^23:Nat):Int)=8388608 from rfl]
    rw [Int.emod_eq_of_lt h22.1 (by omega)]
  rw [p3,Z0k 23 (x:=b22*8388608) (y:=0+b19 / 2+b20*128+b21*32768) (a:=b22) (by simp) (by omega) (by omega) (by show _<(8388608:Int); omega) (by omega)]
  have p4:Z4 .and .u64 (Zj .u64 (IntKind.wrap .u64 b23) 31) 2251799813685247=b23*2147483648:=by
    have:=Z14 31 (by decide) h23
    refine this.trans ?_
    rw [show ((2^(51-31):Nat):Int)=1048576 from rfl,show ((2^31:Nat):Int)=2147483648 from rfl]
    rw [Int.emod_eq_of_lt h23.1 (by omega)]
  rw [p4,Z0k 31 (x:=b23*2147483648) (y:=0+b19 / 2+b20*128+b21*32768+b22*8388608) (a:=b23) (by simp) (by omega) (by omega) (by show _<(2147483648:Int); omega) (by omega)]
  have p5:Z4 .and .u64 (Zj .u64 (IntKind.wrap .u64 b24) 39) 2251799813685247=b24*549755813888:=by
    have:=Z14 39 (by decide) h24
    refine this.trans ?_
    rw [show ((2^(51-39):Nat):Int)=4096 from rfl,show ((2^39:Nat):Int)=549755813888 from rfl]
    rw [Int.emod_eq_of_lt h24.1 (by omega)]
  rw [p5,Z0k 39 (x:=b24*549755813888) (y:=0+b19 / 2+b20*128+b21*32768+b22*8388608+b23*2147483648) (a:=b24) (by simp) (by omega) (by omega) (by show _<(549755813888:Int); omega) (by omega)]
  have p6:Z4 .and .u64 (Zj .u64 (IntKind.wrap .u64 b25) 47) 2251799813685247=b25%16*140737488355328:=by
    have:=Z14 47 (by decide) h25
    refine this.trans ?_
    rw [show ((2^(51-47):Nat):Int)=16 from rfl,show ((2^47:Nat):Int)=140737488355328 from rfl]
  rw [p6,Z0k 47 (x:=b25%16*140737488355328) (y:=0+b19 / 2+b20*128+b21*32768+b22*8388608+b23*2147483648+b24*549755813888) (a:=b25%16) (by simp) (by omega) (by omega) (by show _<(140737488355328:Int); omega) (by omega)]
theorem Z0bm {b25 b26 b27 b28 b29 b30 b31:Int} (h25:0≤b25∧b25<256) (h26:0≤b26∧b26<256) (h27:0≤b27∧b27<256) (h28:0≤b28∧b28<256) (h29:0≤b29∧b29<256) (h30:0≤b30∧b30<256) (h31:0≤b31∧b31<256):Z4 .or .u64 (Z4 .or .u64 (Z4 .or .u64 (Z4 .or .u64 (Z4 .or .u64 (Z4 .or .u64 (Z4 .or .u64 (0) (Zn .u64 (IntKind.wrap .u64 b25) 4)) (Z4 .and .u64 (Zj .u64 (IntKind.wrap .u64 b26) 4) 2251799813685247)) (Z4 .and .u64 (Zj .u64 (IntKind.wrap .u64 b27) 12) 2251799813685247)) (Z4 .and .u64 (Zj .u64 (IntKind.wrap .u64 b28) 20) 2251799813685247)) (Z4 .and .u64 (Zj .u64 (IntKind.wrap .u64 b29) 28) 2251799813685247)) (Z4 .and .u64 (Zj .u64 (IntKind.wrap .u64 b30) 36) 2251799813685247)) (Z4 .and .u64 (Zj .u64 (IntKind.wrap .u64 b31) 44) 2251799813685247)=0+b25 / 16+b26*16+b27*4096+b28*1048576+b29*268435456+b30*68719476736+b31%128*17592186044416:=by
  have p0:Zn .u64 (IntKind.wrap .u64 b25) 4=b25 / 16:=by
    have:=Zip 4 (by decide) h25
    refine this.trans ?_
    rw [show ((2^4:Nat):Int)=16 from rfl]
  rw [p0,Z0k 0 (x:=b25 / 16) (y:=0) (a:=b25 / 16) (by simp) (by omega) (by omega) (by show _<(1:Int); omega) (by omega)]
  have p1:Z4 .and .u64 (Zj .u64 (IntKind.wrap .u64 b26) 4) 2251799813685247=b26*16:=by
    have:=Z14 4 (by decide) h26
    refine this.trans ?_
    rw [show ((2^(51-4):Nat):Int)=140737488355328 from rfl,show ((2^4:Nat):Int)=16 from rfl]
    rw [Int.emod_eq_of_lt h26.1 (by omega)]
  rw [p1,Z0k 4 (x:=b26*16) (y:=0+b25 / 16) (a:=b26) (by simp) (by omega) (by omega) (by show _<(16:Int); omega) (by omega)]
  have p2:Z4 .and .u64 (Zj .u64 (IntKind.wrap .u64 b27) 12) 2251799813685247=b27*4096:=by
    have:=Z14 12 (by decide) h27
    refine this.trans ?_
    rw [show ((2^(51-12):Nat):Int)=549755813888 from rfl,show ((2^12:Nat):Int)=4096 from rfl]
    rw [Int.emod_eq_of_lt h27.1 (by omega)]
  rw [p2,Z0k 12 (x:=b27*4096) (y:=0+b25 / 16+b26*16) (a:=b27) (by simp) (by omega) (by omega) (by show _<(4096:Int); omega) (by omega)]
  have p3:Z4 .and .u64 (Zj .u64 (IntKind.wrap .u64 b28) 20) 2251799813685247=b28*1048576:=by
    have:=Z14 20 (by decide) h28
    refine this.trans ?_
    rw [show ((2^(51-20):Nat):Int)=2147483648 from rfl,show ((2^20:Nat):Int)=1048576 from rfl]
    rw [Int.emod_eq_of_lt h28.1 (by omega)]
  rw [p3,Z0k 20 (x:=b28*1048576) (y:=0+b25 / 16+b26*16+b27*4096) (a:=b28) (by simp) (by omega) (by omega) (by show _<(1048576:Int); omega) (by omega)]
  have p4:Z4 .and .u64 (Zj .u64 (IntKind.wrap .u64 b29) 28) 2251799813685247=b29*268435456:=by
    have:=Z14 28 (by decide) h29
    refine this.trans ?_
    rw [show ((2^(51-28):Nat):Int)=8388608 from rfl,show ((2^28:Nat):Int)=268435456 from rfl]
    rw [Int.emod_eq_of_lt h29.1 (by omega)]
  rw [p4,Z0k 28 (x:=b29*268435456) (y:=0+b25 / 16+b26*16+b27*4096+b28*1048576) (a:=b29) (by simp) (by omega) (by omega) (by show _<(268435456:Int); omega) (by omega)]
  have p5:Z4 .and .u64 (Zj .u64 (IntKind.wrap .u64 b30) 36) 2251799813685247=b30*68719476736:=by
    have:=Z14 36 (by decide) h30
    refine this.trans ?_
    rw [show ((2^(51-36):Nat):Int)=32768 from rfl,show ((2^36:Nat):Int)=68719476736 from rfl]
    rw [Int.emod_eq_of_lt h30.1 (by omega)]
  rw [p5,Z0k 36 (x:=b30*68719476736) (y:=0+b25 / 16+b26*16+b27*4096+b28*1048576+b29*268435456) (a:=b30) (by simp) (by omega) (by omega) (by show _<(68719476736:Int); omega) (by omega)]
  have p6:Z4 .and .u64 (Zj .u64 (IntKind.wrap .u64 b31) 44) 2251799813685247=b31%128*17592186044416:=by
    have:=Z14 44 (by decide) h31
    refine this.trans ?_
    rw [show ((2^(51-44):Nat):Int)=128 from rfl,show ((2^44:Nat):Int)=17592186044416 from rfl]
  rw [p6,Z0k 44 (x:=b31%128*17592186044416) (y:=0+b25 / 16+b26*16+b27*4096+b28*1048576+b29*268435456+b30*68719476736) (a:=b31%128) (by simp) (by omega) (by omega) (by show _<(17592186044416:Int); omega) (by omega)]
def Zsv (x:List Int):Int:=x.getD 0 0+x.getD 1 0*256+x.getD 2 0*65536+x.getD 3 0*16777216+x.getD 4 0*4294967296+x.getD 5 0*1099511627776+x.getD 6 0*281474976710656+x.getD 7 0*72057594037927936+x.getD 8 0*18446744073709551616+x.getD 9 0*4722366482869645213696+x.getD 10 0*1208925819614629174706176+x.getD 11 0*309485009821345068724781056+x.getD 12 0*79228162514264337593543950336+x.getD 13 0*20282409603651670423947251286016+x.getD 14 0*5192296858534827628530496329220096+x.getD 15 0*1329227995784915872903807060280344576+x.getD 16 0*340282366920938463463374607431768211456+x.getD 17 0*87112285931760246646623899502532662132736+x.getD 18 0*22300745198530623141535718272648361505980416+x.getD 19 0*5708990770823839524233143877797980545530986496+x.getD 20 0*1461501637330902918203684832716283019655932542976+x.getD 21 0*374144419156711147060143317175368453031918731001856+x.getD 22 0*95780971304118053647396689196894323976171195136475136+x.getD 23 0*24519928653854221733733552434404946937899825954937634816+x.getD 24 0*6277101735386680763835789423207666416102355444464034512896+x.getD 25 0*1606938044258990275541962092341162602522202993782792835301376+x.getD 26 0*411376139330301510538742295639337626245683966408394965837152256+x.getD 27 0*105312291668557186697918027683670432318895095400549111254310977536+x.getD 28 0*26959946667150639794667015087019630673637144422540572481103610249216+x.getD 29 0*6901746346790563787434755862277025452451108972170386555162524223799296+x.getD 30 0*1766847064778384329583297500742918515827483896875618958121606201292619776+x.getD 31 0%128*452312848583266388373324160190187140051835877600158453279131187530910662656
theorem Zhr {x:List Int} (h:Byt x):Z4a x=some (fe (Zsv x)):=by
  rw [Z4a,Z12,Z066]
  have e31:Z4 .and .u8 (x.getD 31 0) 127=x.getD 31 0%128:=Zik 7 (by decide) (by decide) (h 31).1 (h 31).2
  have h31:0≤x.getD 31 0%128∧x.getD 31 0%128<256:=by have:=h 31; omega
  rw [e31,Z0bi (h 0) (h 1) (h 2) (h 3) (h 4) (h 5) (h 6),Z0bj (h 6) (h 7) (h 8) (h 9) (h 10) (h 11) (h 12),Z0bk (h 12) (h 13) (h 14) (h 15) (h 16) (h 17) (h 18) (h 19),Z0bl (h 19) (h 20) (h 21) (h 22) (h 23) (h 24) (h 25),Z0bm (h 25) (h 26) (h 27) (h 28) (h 29) (h 30) h31]
  have g0:=h 0
  have g1:=h 1
  have g2:=h 2
  have g3:=h 3
  have g4:=h 4
  have g5:=h 5
  have g6:=h 6
  have g7:=h 7
  have g8:=h 8
  have g9:=h 9
  have g10:=h 10
  have g11:=h 11
  have g12:=h 12
  have g13:=h 13
  have g14:=h 14
  have g15:=h 15
  have g16:=h 16
  have g17:=h 17
  have g18:=h 18
  have g19:=h 19
  have g20:=h 20
  have g21:=h 21
  have g22:=h 22
  have g23:=h 23
  have g24:=h 24
  have g25:=h 25
  have g26:=h 26
  have g27:=h 27
  have g28:=h 28
  have g29:=h 29
  have g30:=h 30
  have g31:=h 31
  rw [Z3 (Z90 (U5.mk5 (by omega) (by omega) (by omega) (by omega) (by omega)))]
  unfold Zkv fe
  congr 3
  simp only [Z6s,Zsv,List.getD_cons_zero,List.getD_cons_succ]
  omega
theorem Zps (a:Int):a%PP%PP=a%PP:=Int.emod_emod_of_dvd _ (Int.dvd_refl _)
theorem Zu1 (a b:Int):Z1c (fe a) (fe b)=some (fe (a*b)):=by
  rw [Zvg (Zje a) (Zje b),Z97,Z97,← Int.mul_emod]; rfl
theorem Zmo (a:Int):Z1y (fe a)=some (fe (a*a)):=by
  rw [Zpd (Zje a),Z97,← Int.mul_emod]; rfl
theorem Zxz (a b:Int):Z2c (fe a) (fe b)=some (fe (a+b)):=by
  rw [Zzv (Zje a) (Zje b),Z97,Z97,Zg3]
  exact (Int.add_emod _ _ _).symm
theorem fsub (a b:Int):Z4c (fe a) (fe b)=some (fe (a-b)):=by
  rw [Z0ur (Zje a) (Zje b),Z97,Z97,Zg3]
  exact (Int.sub_emod _ _ _).symm
structure Q4 where
  x:Int
  y:Int
  z:Int
  t:Int
  deriving DecidableEq
def pt (q:Q4):Zi:=⟨fe q.x,fe q.y,fe q.z,fe q.t⟩
def qred (q:Q4):Q4:=⟨q.x%PP,q.y%PP,q.z%PP,q.t%PP⟩
theorem Z008 (q:Q4):pt (qred q)=pt q:=by simp only [pt,qred,Z067]
def D2:Int:=16295367250680780974490674513165176452449235426866156013048779062215315747161
def Zn8 (e f g h:Int):Q4:=⟨e*f,g*h,f*g,e*h⟩
def qadd (p q:Q4):Q4 :=
  let a:=(p.y-p.x)*(q.y-q.x)
  let b:=(p.y+p.x)*(q.y+q.x)
  let c:=p.t*D2*q.t
  let d:=(p.z+p.z)*q.z
  Zn8 (b-a) (d-c) (d+c) (b+a)
def qdbl (p:Q4):Q4 :=
  let a:=p.x*p.x
  let b:=p.y*p.y
  let z:=p.z*p.z
  let h:=a+b
  let e:=h-(p.x+p.y)*(p.x+p.y)
  let g:=a-b
  Zn8 e (z+z+g) g h
theorem Zns (e f g h:Int):Z6y (fe e) (fe f) (fe g) (fe h)=some (pt (Zn8 e f g h)):=by
  rw [Z6y,Z3 (Zu1 e f),Z3 (Zu1 g h),Z3 (Zu1 f g),Z3 (Zu1 e h)]; rfl
theorem Zt0:Z7e=some (fe D2):=by
  rw [Z7e,Zl]
  congr 1
theorem Z01m (p q:Q4):Z9y (pt p) (pt q)=some (pt (qadd p q)):=by
  rw [Z9y]
  show opt (Z4c (fe p.y) (fe p.x)) _=_
  rw [Z3 (fsub p.y p.x)]
  show opt (Z4c (fe q.y) (fe q.x)) _=_
  rw [Z3 (fsub q.y q.x),Z3 (Zu1 _ _)]
  show opt (Z2c (fe p.y) (fe p.x)) _=_
  rw [Z3 (Zxz p.y p.x)]
  show opt (Z2c (fe q.y) (fe q.x)) _=_
  rw [Z3 (Zxz q.y q.x),Z3 (Zu1 _ _),Z3 Zt0]
  show opt (Z1c (fe p.t) (fe D2)) _=_
  rw [Z3 (Zu1 _ _)]
  show opt (Z1c (fe (p.t*D2)) (fe q.t)) _=_
  rw [Z3 (Zu1 _ _)]
  show opt (Z2c (fe p.z) (fe p.z)) _=_
  rw [Z3 (Zxz _ _)]
  show opt (Z1c (fe (p.z+p.z)) (fe q.z)) _=_
  rw [Z3 (Zu1 _ _),Z3 (fsub _ _),Z3 (fsub _ _),Z3 (Zxz _ _),Z3 (Zxz _ _),Z3 (Zns _ _ _ _)]
  rfl
theorem Z01o (p:Q4):Z6x (pt p)=some (pt (qdbl p)):=by
  rw [Z6x]
  show opt (Z1y (fe p.x)) _=_
  rw [Z3 (Zmo _)]
  show opt (Z1y (fe p.y)) _=_
  rw [Z3 (Zmo _)]
  show opt (Z1y (fe p.z)) _=_
  rw [Z3 (Zmo _),Z3 (Zxz _ _)]
  show opt (Z2c (fe p.x) (fe p.y)) _=_
  rw [Z3 (Zxz _ _),Z3 (Zmo _),Z3 (fsub _ _),Z3 (fsub _ _),Z3 (Zxz _ _),Z3 (Zxz _ _),Z3 (Zns _ _ _ _)]
  rfl
def Zw1:Q4:=⟨0,1,1,0⟩
theorem Zqk:Z7z=some (fe 1):=by rw [Z7z,Zl]; congr 1
theorem Zxg:Z9l=some (pt Zw1):=by
  rw [Z9l,Z3 Zqk,Z3 Zqk]
  have:(List.replicate 5 0:List Int)=fe 0:=by decide
  rw [this]; rfl
def Zqc (p q:Q4):Q4:=qred (qadd p q)
def Ze8 (p:Q4):Q4:=qred (qdbl p)
theorem Zr1 (p q:Q4):Z9y (pt p) (pt q)=some (pt (Zqc p q)):=by rw [Z01m]; unfold Zqc; rw [Z008]
theorem Zxt (p:Q4):Z6x (pt p)=some (pt (Ze8 p)):=by rw [Z01o]; unfold Ze8; rw [Z008]
def tab (p:Q4):Nat→Q4
  | 0=>Zw1
  | i+1=>Zqc (tab p i) p
def Zsh (f:Nat→Zi) (i:Nat):List Zi:=(List.range 16).map fun j=>if j≤i then f j else Z1t
theorem Zzm (f:Nat→Zi) {i:Nat} (hi:i<15):Zcp Z1t (Zsh f i) (i+1) (f (i+1))=Zsh f (i+1):=by
  rw [Zb8 (by simp [Zsh]; omega)]
  apply List.ext_getElem
  · simp [Zsh]
  · intro j h1 h2
    simp only [Zsh,List.getElem_set,List.getElem_map,List.getElem_range]
    by_cases hj:i+1=j
    · subst hj; simp
    · rw [if_neg hj]
      by_cases h:j≤i
      · rw [if_pos h,if_pos (by omega)]
      · rw [if_neg h,if_neg (by omega)]
theorem Zsi (f:Nat→Zi) {i j:Nat} (hj:j≤i) (hi:i<16):(Zsh f i).getD j Z1t=f j:=by
  simp only [Zsh,List.getD,List.getElem?_map,List.getElem?_range (show j<16 by omega),Option.map_some,Option.getD_some,if_pos hj]
theorem Ztb (p:Q4) {kk:List Zi→Option (List Zi)} {k':Int→List Zi→Option (List Zi)} {i:Nat} (hi:i<15) :
    Z38 (pt p) kk k' (i:Int) (Zsh (fun j=>pt (tab p j)) i)=k' ((i+1:Nat):Int) (Zsh (fun j=>pt (tab p j)) (i+1)):=by
  rw [Z38,Z15 (by simp; omega)]
  simp only [Zl]
  rw [Ze (by omega) (by omega),Zy (Z0n (by omega) (by omega)),Int.toNat_natCast,Zsi _ (Nat.le_refl i) (by omega),Z3 (Zr1 _ _),Zy (Z0n (by omega) (by omega))]
  have e:((i:Int)+1).toNat=i+1:=by omega
  have e2:(i:Int)+1=((i+1:Nat):Int):=by omega
  rw [e]
  have:=Zzm (fun j=>pt (tab p j)) hi
  rw [show pt (Zqc (tab p i) p)=pt (tab p (i+1)) from rfl,this,e2]
theorem Zo6 (p:Q4) : ∀ (k n:Nat),k≤15→Z1x (pt p) some (n+1+k) ((15-k:Nat):Int) (Zsh (fun j=>pt (tab p j)) (15-k))=some (Zsh (fun j=>pt (tab p j)) 15)
  | 0,n,_=>by
    rw [show n+1+0=n+1 from rfl,Z1x,Z38,Z0x (by decide)]
  | k+1,n,hk=>by
    have ih:=Zo6 p k n (by omega)
    rw [← Nat.add_assoc,Z1x,Ztb p (by omega)]
    rw [show 15-(k+1)+1=15-k by omega]
    exact ih
theorem Zo7 (p:Q4):Z5g (pt p)=some (Zsh (fun j=>pt (tab p j)) 15):=by
  rw [Z5g,Z3 Zxg,Zl,Z12]
  obtain ⟨n,hn⟩ : ∃ n,big=n+1+15:=⟨18446744073709551600,Z19⟩
  have:=Zo6 p 15 n (by decide)
  rw [← hn] at this
  have e:Zcp Z1t (List.replicate 16 Z1t) 0 (pt Zw1)=Zsh (fun j=>pt (tab p j)) (15-15):=by
    rw [Zb8 (by simp)]
    rfl
  rw [e]
  exact this
def nib (k:List Int) (i:Nat):Int:=if i%2=0 then k.getD (31-i / 2) 0 / 16%16 else k.getD (31-i / 2) 0%16
theorem Zvk {k:List Int} (hk:Byt k) {i:Nat} (hi:i<64):Z8i k (i:Int)=some (nib k i):=by
  rw [Z8i]
  simp only [Zl]
  have h1:IntKind.wrap .i64 (Int.tdiv (i:Int) 2)=((i / 2:Nat):Int):=by
    rw [Int.tdiv_eq_ediv_of_nonneg (by omega),Ze (by omega) (by omega)]; omega
  have h2:Int.tmod (i:Int) 2=((i%2:Nat):Int):=by
    rw [Int.tmod_eq_emod_of_nonneg (by omega)]; omega
  rw [h1,h2,Ze (x:=31-((i / 2:Nat):Int)) (by omega) (by omega),Zy (Z0n (by omega) (by omega))]
  have h3:(31-((i / 2:Nat):Int)).toNat=31-i / 2:=by omega
  rw [h3]
  have hb:=hk (31-i / 2)
  rw [Ze (x:=1-((i%2:Nat):Int)) (by omega) (by omega),Ze (by omega) (by omega)]
  rcases Nat.mod_two_eq_zero_or_one i with h | h
  · rw [h,Zy (by decide)]
    have e:Zn .u8 (k.getD (31-i / 2) 0) (4*(1-((0:Nat):Int)))=k.getD (31-i / 2) 0 / 16:=Z93 .u8 (n:=4) (by decide)
    rw [e]
    have e2:Z4 .and .u8 (k.getD (31-i / 2) 0 / 16) 15=k.getD (31-i / 2) 0 / 16%16:=Zik 4 (by decide) (by decide) (by omega) (by omega)
    rw [e2,nib,if_pos h]
  · rw [h,Zy (by decide)]
    have e:Zn .u8 (k.getD (31-i / 2) 0) (4*(1-((1:Nat):Int)))=k.getD (31-i / 2) 0:=by
      have:=Z93 .u8 (x:=k.getD (31-i / 2) 0) (n:=0) (by decide)
      simpa using this
    rw [e]
    have e2:Z4 .and .u8 (k.getD (31-i / 2) 0) 15=k.getD (31-i / 2) 0%16:=Zik 4 (by decide) (by decide) (by omega) (by omega)
    rw [e2,nib,if_neg (by omega)]
theorem Z02c (k:List Int) (i:Nat):0≤nib k i∧nib k i<16:=by unfold nib; split <;> omega
def Zsx (q:Q4):Q4:=Ze8 (Ze8 (Ze8 (Ze8 q)))
def Z0c7 (k:List Int) (p:Q4) (q:Q4) (i:Nat):Q4:=Zqc (Zsx q) (tab p (nib k i).toNat)
def Zou (k:List Int) (p:Q4):Nat→Q4
  | 0=>Zw1
  | i+1=>Z0c7 k p (Zou k p i) i
theorem Zta (q:Q4) {kk:List Int→List Int→List Int→List Int→Option Zi} :
    Z3g kk big 0 (pt q).gX (pt q).gY (pt q).gZ (pt q).gT=kk (pt (Zsx q)).gX (pt (Zsx q)).gY (pt (Zsx q)).gZ (pt (Zsx q)).gT:=by
  obtain ⟨n,hn⟩ : ∃ n,big=n+1+1+1+1+1:=⟨18446744073709551611,Z19⟩
  have step : ∀ (n j:Nat) (q:Q4),j<4→Z3g kk (n+1) (j:Int) (pt q).gX (pt q).gY (pt q).gZ (pt q).gT =
      Z3g kk n ((j+1:Nat):Int) (pt (Ze8 q)).gX (pt (Ze8 q)).gY (pt (Ze8 q)).gZ (pt (Ze8 q)).gT:=by
    intro n j q hj
    rw [Z3g,Z8h,Z15 (by simp; omega)]
    have:=Zxt q
    rw [show (⟨(pt q).gX,(pt q).gY,(pt q).gZ,(pt q).gT⟩:Zi)=pt q from rfl,Z3 this]
    simp only [Zl]
    rw [Ze (by omega) (by omega)]
    rfl
  rw [hn]
  have s0:=step (n+1+1+1+1) 0 q (by decide)
  have s1:=step (n+1+1+1) 1 (Ze8 q) (by decide)
  have s2:=step (n+1+1) 2 (Ze8 (Ze8 q)) (by decide)
  have s3:=step (n+1) 3 (Ze8 (Ze8 (Ze8 q))) (by decide)
  refine s0.trans (s1.trans (s2.trans (s3.trans ?_)))
  rw [Z3g,Z8h,Z0x (by decide)]
  rfl
theorem Zlm {k:List Int} (hk:Byt k) (p:Q4) : ∀ (j n:Nat),j≤64→Z4n k (Zsh (fun j=>pt (tab p j)) 15) (fun a b c d=>some ⟨a,b,c,d⟩) (n+1+j) ((64-j:Nat):Int) (pt (Zou k p (64-j))).gX (pt (Zou k p (64-j))).gY (pt (Zou k p (64-j))).gZ (pt (Zou k p (64-j))).gT=some (pt (Zou k p 64))
  | 0,n,_=>by
    rw [show n+1+0=n+1 from rfl,Z4n,Z8g,Z0x (by decide)]
  | j+1,n,hj=>by
    have ih:=Zlm hk p j n (by omega)
    have hr:=Z02c k (64-(j+1))
    rw [← Nat.add_assoc,Z4n,Z8g,Z15 (by simp; omega),Z12,Zta]
    rw [Z3 (Zvk hk (by omega)),Zy (Z0n hr.1 hr.2),Zl,Zsi _ (by omega) (by decide)]
    have hadd:=Zr1 (Zsx (Zou k p (64-(j+1)))) (tab p (nib k (64-(j+1))).toNat)
    rw [show (⟨(pt (Zsx (Zou k p (64-(j+1))))).gX,(pt (Zsx (Zou k p (64-(j+1))))).gY,(pt (Zsx (Zou k p (64-(j+1))))).gZ,(pt (Zsx (Zou k p (64-(j+1))))).gT⟩:Zi)=pt (Zsx (Zou k p (64-(j+1)))) from rfl,Z3 hadd,Zl,Ze (by omega) (by omega)]
    have ei:((64-(j+1):Nat):Int)+1=((64-(j+1)+1:Nat):Int):=by omega
    rw [ei]
    have e:64-(j+1)+1=64-j:=by omega
    rw [e]
    have e2:Zqc (Zsx (Zou k p (64-(j+1)))) (tab p (nib k (64-(j+1))).toNat)=Zou k p (64-j):=by rw [← e]; rfl
    rw [e2]
    exact ih
theorem Z01p {k:List Int} (hk:Byt k) (p:Q4):Zd9 k (pt p)=some (pt (Zou k p 64)):=by
  rw [Zd9,Z3 (Zo7 p),Z3 Zxg,Z12]
  obtain ⟨n,hn⟩ : ∃ n,big=n+1+64:=⟨18446744073709551551,Z19⟩
  have:=Zlm hk p 64 n (by decide)
  rw [← hn] at this
  exact this
theorem byt_of {l:List Int} (h : ∀ x∈l,0≤x∧x<256):Byt l:=by
  intro i
  simp only [List.getD]
  cases hi:l[i]? with
  | none=>simp
  | some v=>exact h v (List.mem_of_getElem? hi)
def BX:Int:=15112221349535400772501151409588531511454012693041857206046113283949847762202
def BY:Int:=46316835694926478169428394003475163141307993866256225615783033603165251855960
def Z02v:Q4:=⟨BX,BY,1,BX*BY⟩
theorem Zwz (k:List Int→Option Zi):Z52 k big 0 [88,0,0,0,0,0,0,0,0,0,0,0,0,0,0,0,0,0,0,0,0,0,0,0,0,0,0,0,0,0,0,0]=k [88,102,102,102,102,102,102,102,102,102,102,102,102,102,102,102,102,102,102,102,102,102,102,102,102,102,102,102,102,102,102,102]:=by kernel_rfl
theorem Zzf:Z9z=some (pt Z02v):=by
  rw [Z9z,Zl,Z3 (Zhr (byt_of (by decide))),Zl,Z12,Zwz,Z3 (Zhr (byt_of (by decide))),Z3 Zqk]
  have e1:Zsv [26,213,37,143,96,45,86,201,178,167,37,149,96,199,44,105,92,220,214,253,49,226,164,192,254,83,110,205,211,54,105,33]=BX:=by decide
  have e2:Zsv [88,102,102,102,102,102,102,102,102,102,102,102,102,102,102,102,102,102,102,102,102,102,102,102,102,102,102,102,102,102,102,102]=BY:=by decide
  rw [e1,e2,Z3 (Zu1 _ _)]
  rfl
theorem Zt9 {k:List Int} (hk:Byt k):Z4r k=some (pt (Zou k Z02v 64)):=by
  rw [Z4r,Z3 Zzf,Z3 (Z01p hk _)]
def Zpl:List Int:=[235,255,255,255,255,255,255,255,255,255,255,255,255,255,255,255,255,255,255,255,255,255,255,255,255,255,255,255,255,255,255,127]
theorem Zvu:Zcf 235 127=some Zpl:=by kernel_rfl
theorem Zr7:Byt Zpl:=byt_of (by decide)
def Zv0 (a:Int):Int:=pw (a%PP) Zpl 256
theorem Z068 {n:Int} (h:0≤n∧n<PP):Zjd n=fe n:=(Zy0 h.1 h.2).symm
theorem Z06d (a:Int):Z70 (fe a)=some (fe (Zv0 a)):=by
  rw [Z70,Z3 Zvu,Z3 (Z0bv (Zje _) Zr7),Z97,Z068 (Z00a _ _ _)]
  rfl
def Zjc (x y:Int):List Int:=if x%PP%2=1 then Z21 (byt (y%PP)) 31 (Z4 .or .u8 ((byt (y%PP)).getD 31 0) 128) else byt (y%PP)
def encQ (q:Q4):List Int:=Zjc (q.x*Zv0 q.z) (q.y*Zv0 q.z)
theorem Zux (q:Q4):Z5f (pt q)=some (encQ q):=by
  rw [Z5f]
  show opt (Z70 (fe q.z)) _=_
  rw [Z3 (Z06d _)]
  show opt (Z1c (fe q.y) (fe (Zv0 q.z))) _=_
  rw [Z3 (Zu1 _ _),Z3 (Zxs (Zje _))]
  show opt (Z1c (fe q.x) (fe (Zv0 q.z))) _=_
  rw [Z3 (Zu1 _ _),Z3 (Zy4 (Zje _)),Z12,Z97,Z97]
  simp only [Zl,Zps]
  unfold encQ Zjc
  by_cases h:q.x*Zv0 q.z%PP%2=1
  · rw [Z15 (by rw [h]; rfl),if_pos h]
  · rw [Z0x (by simpa using h),if_neg h]
def ert:List Int:=[251,255,255,255,255,255,255,255,255,255,255,255,255,255,255,255,255,255,255,255,255,255,255,255,255,255,255,255,255,255,255,31]
def fabs (a:Int):Int:=bif a%PP%2==1 then -a else a
def Ztv:Int:=pw (2%PP) ert 256
def DD:Int:=37095705934669439343138083508754565189542113879843219016388785533085940283555
theorem Zey {p:List Int} (h:Byt p) {j:Nat} {v:Int} (hv:0≤v∧v<256):Byt (Z21 p j v):=by
  intro i
  rw [Z0s]
  split
  · exact hv
  · exact h i
def W64 (l:List Int):Prop:=∀ i,0≤l.getD i 0∧l.getD i 0<18446744073709551616
def V4 (l:List Int):Int:=l.getD 0 0+l.getD 1 0*18446744073709551616+l.getD 2 0*340282366920938463463374607431768211456+l.getD 3 0*6277101735386680763835789423207666416102355444464034512896
def B4:Int:=115792089237316195423570985008687907853269984665640564039457584007913129639936
def VL:Int:=7237005577332262213973186563042994240857116359379907606001950938285454250989
theorem Zqq:V4 G_order=VL:=by decide
theorem Zm8 {l:List Int} (h : ∀ x∈l,0≤x∧x<18446744073709551616):W64 l:=by
  intro i
  simp only [List.getD]
  cases hi:l[i]? with
  | none=>simp
  | some v=>exact h v (List.mem_of_getElem? hi)
theorem Zj1:W64 G_order:=Zm8 (by decide)
theorem Zb1 {l:List Int} (h:W64 l) {i:Nat} {z:Int} (hz:0≤z∧z<18446744073709551616):W64 (Z21 l i z):=by
  intro j; rw [Z0s]; split
  · exact hz
  · exact h j
theorem Zqs {l:List Int} (h:W64 l) {i:Nat} {z:Int} (hz:0≤z∧z<18446744073709551616):W64 (Zcp 0 l i z):=by
  intro j; rw [Z2z]; split
  · exact hz
  · exact h j
theorem Z9e (n:Nat):W64 (List.replicate n 0):=Zm8 (by intro x hx; rw [List.mem_replicate] at hx; omega)
theorem Zvo (x y:Int):0≤Z4 .or .u64 x y∧Z4 .or .u64 x y<18446744073709551616:=by
  show 0≤IntKind.u64.wrap _∧IntKind.u64.wrap _<_
  rw [Zcu]; omega
theorem Zud (x y:Int):0≤Z4 .and .u64 x y∧Z4 .and .u64 x y<18446744073709551616:=by
  show 0≤IntKind.u64.wrap _∧IntKind.u64.wrap _<_
  rw [Zcu]; omega
theorem Z00t {x y c:Int} (hx:0≤x∧x<18446744073709551616) (hy:0≤y∧y<18446744073709551616) (hc:c=0∨c=1):Zd1 x y c=true:=by
  unfold Zd1
  rw [decide_eq_true hx.1,decide_eq_true hy.1,decide_eq_true (show 0≤c by omega),decide_eq_true (show c≤1 by omega)]; rfl
theorem Z055 {x y c:Int} (hx:0≤x∧x<18446744073709551616) (hy:0≤y∧y<18446744073709551616) (hc:c=0∨c=1):Zx1 x y c=true:=by
  unfold Zx1
  rw [decide_eq_true hx.1,decide_eq_true hy.1,decide_eq_true hy.2,decide_eq_true (show 0≤c by omega),decide_eq_true (show c≤1 by omega)]; rfl
theorem Zep {q:List Int} {k:Int→List Int→Option (List Int×Int)} {a:List Int} {c:Int} (n:Nat) {i:Nat} (hi:i<4) (ha:W64 a) (hq:W64 q) (hc:c=0∨c=1) :
    ∃ c' lo,Z2f q k (n+1) c (i:Int) a=Z2f q k n c' ((i+1:Nat):Int) (Z21 a i lo)∧0≤lo∧lo<18446744073709551616∧(c'=0∨c'=1)∧lo=a.getD i 0-q.getD i 0-c+c'*18446744073709551616:=by
  have h1:=ha i
  have h2:=hq i
  refine ⟨Zzg (a.getD i 0) (q.getD i 0) c,Zzh (a.getD i 0) (q.getD i 0) c,?_,?_⟩
  · rw [Z2f,Z5w,Z15 (by simp; omega),Zy (Z0n (by omega) (by omega)),Zy (Z0n (by omega) (by omega)),Zl,Zl]
    simp only [Int.toNat_natCast]
    rw [Zy (Z055 h1 h2 hc),Zl,Zl,Zy (Z0n (by omega) (by omega)),Zl,Zl,Ze (by omega) (by omega)]
    rfl
  · unfold Zzg Zzh
    generalize a.getD i 0=x at *
    generalize q.getD i 0=y at *
    split <;> omega
theorem Zrj {p q:List Int} (hp:W64 p) (hq:W64 q) : ∃ a c,Z79 p q=some (a,c)∧W64 a∧(c=0∨c=1)∧V4 a=V4 p-V4 q+c*B4:=by
  obtain ⟨n,hn⟩ : ∃ n,big=n+1+1+1+1+1:=⟨18446744073709551611,Z19⟩
  rw [Z79,Z12,hn]
  obtain ⟨c0,l0,e0,b0,b0',hc0,v0⟩:=Zep (k:=fun i a=>some (a,i)) (n+1+1+1+1) (i:=0) (by decide) hp hq (.inl rfl)
  have w0:=Zb1 hp (i:=0) ⟨b0,b0'⟩
  obtain ⟨c1,l1,e1,b1,b1',hc1,v1⟩:=Zep (k:=fun i a=>some (a,i)) (n+1+1+1) (i:=1) (by decide) w0 hq hc0
  have w1:=Zb1 w0 (i:=1) ⟨b1,b1'⟩
  obtain ⟨c2,l2,e2,b2,b2',hc2,v2⟩:=Zep (k:=fun i a=>some (a,i)) (n+1+1) (i:=2) (by decide) w1 hq hc1
  have w2:=Zb1 w1 (i:=2) ⟨b2,b2'⟩
  obtain ⟨c3,l3,e3,b3,b3',hc3,v3⟩:=Zep (k:=fun i a=>some (a,i)) (n+1) (i:=3) (by decide) w2 hq hc2
  have w3:=Zb1 w2 (i:=3) ⟨b3,b3'⟩
  refine ⟨_,c3,(e0.trans (e1.trans (e2.trans (e3.trans ?_)))),w3,hc3,?_⟩
  · rw [Z2f,Z5w,Z0x (by decide)]
  · simp only [V4,Z0s] at v1 v2 v3 ⊢
    simp [-List.getD_eq_getElem?_getD] at v1 v2 v3 ⊢
    unfold B4
    omega
theorem Zgc {q:List Int} {k:Int→List Int→Option (List Int×Int)} {a:List Int} {c:Int} (n:Nat) {i:Nat} (hi:i<4) (ha:W64 a) (hq:W64 q) (hc:c=0∨c=1) :
    ∃ c' lo,Z2t q k (n+1) c (i:Int) a=Z2t q k n c' ((i+1:Nat):Int) (Z21 a i lo)∧0≤lo∧lo<18446744073709551616∧(c'=0∨c'=1)∧lo=a.getD i 0+q.getD i 0+c-c'*18446744073709551616:=by
  have h1:=ha i
  have h2:=hq i
  refine ⟨Zfi (a.getD i 0) (q.getD i 0) c,Z9w (a.getD i 0) (q.getD i 0) c,?_,?_⟩
  · rw [Z2t,Z6m,Z15 (by simp; omega),Zy (Z0n (by omega) (by omega)),Zy (Z0n (by omega) (by omega)),Zl,Zl]
    simp only [Int.toNat_natCast]
    rw [Zy (Z00t h1 h2 hc),Zl,Zl,Zy (Z0n (by omega) (by omega)),Zl,Zl,Ze (by omega) (by omega)]
    rfl
  · unfold Zfi Z9w
    generalize a.getD i 0=x at *
    generalize q.getD i 0=y at *
    omega
theorem Zmx {p q:List Int} (hp:W64 p) (hq:W64 q) : ∃ a c,Z5x p q=some (a,c)∧W64 a∧(c=0∨c=1)∧V4 a=V4 p+V4 q-c*B4:=by
  obtain ⟨n,hn⟩ : ∃ n,big=n+1+1+1+1+1:=⟨18446744073709551611,Z19⟩
  rw [Z5x,Z12,hn]
  obtain ⟨c0,l0,e0,b0,b0',hc0,v0⟩:=Zgc (k:=fun i a=>some (a,i)) (n+1+1+1+1) (i:=0) (by decide) hp hq (.inl rfl)
  have w0:=Zb1 hp (i:=0) ⟨b0,b0'⟩
  obtain ⟨c1,l1,e1,b1,b1',hc1,v1⟩:=Zgc (k:=fun i a=>some (a,i)) (n+1+1+1) (i:=1) (by decide) w0 hq hc0
  have w1:=Zb1 w0 (i:=1) ⟨b1,b1'⟩
  obtain ⟨c2,l2,e2,b2,b2',hc2,v2⟩:=Zgc (k:=fun i a=>some (a,i)) (n+1+1) (i:=2) (by decide) w1 hq hc1
  have w2:=Zb1 w1 (i:=2) ⟨b2,b2'⟩
  obtain ⟨c3,l3,e3,b3,b3',hc3,v3⟩:=Zgc (k:=fun i a=>some (a,i)) (n+1) (i:=3) (by decide) w2 hq hc2
  have w3:=Zb1 w2 (i:=3) ⟨b3,b3'⟩
  refine ⟨_,c3,(e0.trans (e1.trans (e2.trans (e3.trans ?_)))),w3,hc3,?_⟩
  · rw [Z2t,Z6m,Z0x (by decide)]
  · simp only [V4,Z0s] at v1 v2 v3 ⊢
    simp [-List.getD_eq_getElem?_getD] at v1 v2 v3 ⊢
    unfold B4
    omega
theorem Zf8 {l:List Int} (h:W64 l):0≤V4 l∧V4 l<B4:=by
  have h0:=h 0
  have h1:=h 1
  have h2:=h 2
  have h3:=h 3
  unfold V4 B4
  omega
theorem Zem {k2:List Int→Option (List Int)} {k5:Unit→Option (List Int)} {a:List Int} (n:Nat) {i:Nat} (hi:i<4) :
    Z0i k2 a k5 (n+1) (i:Int)=if a.getD i 0<G_order.getD i 0 then k2 a else if a.getD i 0>G_order.getD i 0 then k5 () else Z0i k2 a k5 n ((i:Int)-1):=by
  rw [Z0i,Z5v,Z15 (by simp),Zy (Z0n (by omega) (by omega)),Zy (Z0n (by omega) (by omega)),Zl,Zl]
  simp only [Int.toNat_natCast]
  by_cases h1:a.getD i 0<G_order.getD i 0
  · rw [Z15 (by simpa using h1),if_pos h1]
  · rw [Z0x (by simpa using h1),if_neg h1,Zy (Z0n (by omega) (by omega)),Zy (Z0n (by omega) (by omega)),Zl,Zl]
    by_cases h2:a.getD i 0>G_order.getD i 0
    · rw [Z15 (by simpa using h2),if_pos h2]
    · rw [Z0x (by simpa using h2),if_neg h2,Zl,Ze (by omega) (by omega)]
theorem Znp {k2:List Int→Option (List Int)} {k5:Unit→Option (List Int)} {a:List Int} (ha:W64 a):Z0i k2 a k5 big 3=if V4 a<VL then k2 a else k5 ():=by
  obtain ⟨n,hn⟩ : ∃ n,big=n+1+1+1+1+1:=⟨18446744073709551611,Z19⟩
  rw [hn]
  have s3:=Zem (k2:=k2) (k5:=k5) (a:=a) (n+1+1+1+1) (i:=3) (by decide)
  have s2:=Zem (k2:=k2) (k5:=k5) (a:=a) (n+1+1+1) (i:=2) (by decide)
  have s1:=Zem (k2:=k2) (k5:=k5) (a:=a) (n+1+1) (i:=1) (by decide)
  have s0:=Zem (k2:=k2) (k5:=k5) (a:=a) (n+1) (i:=0) (by decide)
  have e:Z0i k2 a k5 (n+1) (-1)=k5 ():=by
    rw [Z0i,Z5v,Z0x (by decide)]
  have o0:G_order.getD 0 0=6346243789798364141:=rfl
  have o1:G_order.getD 1 0=1503914060200516822:=rfl
  have o2:G_order.getD 2 0=0:=rfl
  have o3:G_order.getD 3 0=1152921504606846976:=rfl
  rw [o0] at s0
  rw [o1] at s1
  rw [o2] at s2
  rw [o3] at s3
  have s0':Z0i k2 a k5 (n+1+1) (1-1)=_:=s0
  have s1':Z0i k2 a k5 (n+1+1+1) (2-1)=_:=s1
  have s2':Z0i k2 a k5 (n+1+1+1+1) (3-1)=_:=s2
  have e':Z0i k2 a k5 (n+1) (0-1)=k5 ():=e
  have f3:Z0i k2 a k5 (n+1+1+1+1+1) 3=_:=s3
  rw [f3]
  rw [show ((3:Nat):Int)-1=3-1 from rfl,s2',show ((2:Nat):Int)-1=2-1 from rfl,s1',show ((1:Nat):Int)-1=1-1 from rfl,s0',show ((0:Nat):Int)-1=0-1 from rfl,e']
  have h0:=ha 0
  have h1:=ha 1
  have h2:=ha 2
  have h3:=ha 3
  unfold V4 VL
  generalize a.getD 0 0=a0 at *
  generalize a.getD 1 0=a1 at *
  generalize a.getD 2 0=a2 at *
  generalize a.getD 3 0=a3 at *
  by_cases hv:a0+a1*18446744073709551616+a2*340282366920938463463374607431768211456+a3*6277101735386680763835789423207666416102355444464034512896<7237005577332262213973186563042994240857116359379907606001950938285454250989
  · rw [if_pos hv]
    repeat' split
    all_goals first | rfl | (exfalso; omega)
  · rw [if_neg hv]
    repeat' split
    all_goals first | rfl | (exfalso; omega)
theorem Zst (m:Nat) : ∀ (n:Nat) {a:List Int},W64 a→V4 a<((m:Int)+1)*VL→∃ r,Z34 some (n+1+m) a=some r∧W64 r∧V4 r=V4 a%VL:=by
  induction m with
  | zero =>
    intro n a ha hv
    have h0:=Zf8 ha
    have hv':V4 a<VL:=by omega
    refine ⟨a,?_,ha,?_⟩
    · rw [Nat.add_zero,Z34,Z5u,Z12,Znp ha,if_pos hv']
    · rw [Int.emod_eq_of_lt h0.1 hv']
  | succ m ih =>
    intro n a ha hv
    have h0:=Zf8 ha
    rw [← Nat.add_assoc,Z34,Z5u,Z12,Znp ha]
    by_cases h:V4 a<VL
    · rw [if_pos h]
      exact ⟨a,rfl,ha,by rw [Int.emod_eq_of_lt h0.1 h]⟩
    · rw [if_neg h]
      obtain ⟨b,c,e,hb,hc,hv2⟩:=Zrj ha Zj1
      have hbr:=Zf8 hb
      rw [Zqq] at hv2
      have hc0:c=0:=by
        unfold B4 VL at *
        rcases hc with h | h
        · exact h
        · exfalso; subst h; omega
      rw [Z3 e]
      have hv3:V4 b=V4 a-VL:=by rw [hv2,hc0]; omega
      have hlt:V4 b<((m:Int)+1)*VL:=by
        rw [hv3]
        have:((m+1:Nat):Int)+1=((m:Int)+1)+1:=by omega
        rw [this,Int.add_mul ((m:Int)+1) 1 VL] at hv
        omega
      obtain ⟨r,er,hr,vr⟩:=ih n hb hlt
      exact ⟨r,er,hr,by rw [vr,hv3,Int.sub_emod_right]⟩
theorem Zqw {a:List Int} (ha:W64 a) : ∃ r,Z78 a=some r∧W64 r∧V4 r=V4 a%VL:=by
  rw [Z78,Z12]
  obtain ⟨n,hn⟩ : ∃ n,big=n+1+16:=⟨18446744073709551599,Z19⟩
  rw [hn]
  have h:=Zf8 ha
  exact Zst 16 n ha (by unfold B4 at h; unfold VL; omega)
theorem Zt6 (p:List Int):Zak p=some [Z4 .or .u64 (Z4 .or .u64 (Z4 .or .u64 (Z4 .or .u64 (Z4 .or .u64 (Z4 .or .u64 (Z4 .or .u64 (Z4 .or .u64 (0) (Zj .u64 (IntKind.wrap .u64 (p.getD 0 0)) 0)) (Zj .u64 (IntKind.wrap .u64 (p.getD 1 0)) 8)) (Zj .u64 (IntKind.wrap .u64 (p.getD 2 0)) 16)) (Zj .u64 (IntKind.wrap .u64 (p.getD 3 0)) 24)) (Zj .u64 (IntKind.wrap .u64 (p.getD 4 0)) 32)) (Zj .u64 (IntKind.wrap .u64 (p.getD 5 0)) 40)) (Zj .u64 (IntKind.wrap .u64 (p.getD 6 0)) 48)) (Zj .u64 (IntKind.wrap .u64 (p.getD 7 0)) 56),Z4 .or .u64 (Z4 .or .u64 (Z4 .or .u64 (Z4 .or .u64 (Z4 .or .u64 (Z4 .or .u64 (Z4 .or .u64 (Z4 .or .u64 (0) (Zj .u64 (IntKind.wrap .u64 (p.getD 8 0)) 0)) (Zj .u64 (IntKind.wrap .u64 (p.getD 9 0)) 8)) (Zj .u64 (IntKind.wrap .u64 (p.getD 10 0)) 16)) (Zj .u64 (IntKind.wrap .u64 (p.getD 11 0)) 24)) (Zj .u64 (IntKind.wrap .u64 (p.getD 12 0)) 32)) (Zj .u64 (IntKind.wrap .u64 (p.getD 13 0)) 40)) (Zj .u64 (IntKind.wrap .u64 (p.getD 14 0)) 48)) (Zj .u64 (IntKind.wrap .u64 (p.getD 15 0)) 56),Z4 .or .u64 (Z4 .or .u64 (Z4 .or .u64 (Z4 .or .u64 (Z4 .or .u64 (Z4 .or .u64 (Z4 .or .u64 (Z4 .or .u64 (0) (Zj .u64 (IntKind.wrap .u64 (p.getD 16 0)) 0)) (Zj .u64 (IntKind.wrap .u64 (p.getD 17 0)) 8)) (Zj .u64 (IntKind.wrap .u64 (p.getD 18 0)) 16)) (Zj .u64 (IntKind.wrap .u64 (p.getD 19 0)) 24)) (Zj .u64 (IntKind.wrap .u64 (p.getD 20 0)) 32)) (Zj .u64 (IntKind.wrap .u64 (p.getD 21 0)) 40)) (Zj .u64 (IntKind.wrap .u64 (p.getD 22 0)) 48)) (Zj .u64 (IntKind.wrap .u64 (p.getD 23 0)) 56),Z4 .or .u64 (Z4 .or .u64 (Z4 .or .u64 (Z4 .or .u64 (Z4 .or .u64 (Z4 .or .u64 (Z4 .or .u64 (Z4 .or .u64 (0) (Zj .u64 (IntKind.wrap .u64 (p.getD 24 0)) 0)) (Zj .u64 (IntKind.wrap .u64 (p.getD 25 0)) 8)) (Zj .u64 (IntKind.wrap .u64 (p.getD 26 0)) 16)) (Zj .u64 (IntKind.wrap .u64 (p.getD 27 0)) 24)) (Zj .u64 (IntKind.wrap .u64 (p.getD 28 0)) 32)) (Zj .u64 (IntKind.wrap .u64 (p.getD 29 0)) 40)) (Zj .u64 (IntKind.wrap .u64 (p.getD 30 0)) 48)) (Zj .u64 (IntKind.wrap .u64 (p.getD 31 0)) 56)]:=by kernel_rfl
theorem Zsq (p:List Int) (k:List Int→Option (List Int)):Z3w p k big 0 (List.replicate 8 0)=k [Z4 .or .u64 (Z4 .or .u64 (Z4 .or .u64 (Z4 .or .u64 (Z4 .or .u64 (Z4 .or .u64 (Z4 .or .u64 (Z4 .or .u64 (0) (Zj .u64 (IntKind.wrap .u64 (p.getD 0 0)) 0)) (Zj .u64 (IntKind.wrap .u64 (p.getD 1 0)) 8)) (Zj .u64 (IntKind.wrap .u64 (p.getD 2 0)) 16)) (Zj .u64 (IntKind.wrap .u64 (p.getD 3 0)) 24)) (Zj .u64 (IntKind.wrap .u64 (p.getD 4 0)) 32)) (Zj .u64 (IntKind.wrap .u64 (p.getD 5 0)) 40)) (Zj .u64 (IntKind.wrap .u64 (p.getD 6 0)) 48)) (Zj .u64 (IntKind.wrap .u64 (p.getD 7 0)) 56),Z4 .or .u64 (Z4 .or .u64 (Z4 .or .u64 (Z4 .or .u64 (Z4 .or .u64 (Z4 .or .u64 (Z4 .or .u64 (Z4 .or .u64 (0) (Zj .u64 (IntKind.wrap .u64 (p.getD 8 0)) 0)) (Zj .u64 (IntKind.wrap .u64 (p.getD 9 0)) 8)) (Zj .u64 (IntKind.wrap .u64 (p.getD 10 0)) 16)) (Zj .u64 (IntKind.wrap .u64 (p.getD 11 0)) 24)) (Zj .u64 (IntKind.wrap .u64 (p.getD 12 0)) 32)) (Zj .u64 (IntKind.wrap .u64 (p.getD 13 0)) 40)) (Zj .u64 (IntKind.wrap .u64 (p.getD 14 0)) 48)) (Zj .u64 (IntKind.wrap .u64 (p.getD 15 0)) 56),Z4 .or .u64 (Z4 .or .u64 (Z4 .or .u64 (Z4 .or .u64 (Z4 .or .u64 (Z4 .or .u64 (Z4 .or .u64 (Z4 .or .u64 (0) (Zj .u64 (IntKind.wrap .u64 (p.getD 16 0)) 0)) (Zj .u64 (IntKind.wrap .u64 (p.getD 17 0)) 8)) (Zj .u64 (IntKind.wrap .u64 (p.getD 18 0)) 16)) (Zj .u64 (IntKind.wrap .u64 (p.getD 19 0)) 24)) (Zj .u64 (IntKind.wrap .u64 (p.getD 20 0)) 32)) (Zj .u64 (IntKind.wrap .u64 (p.getD 21 0)) 40)) (Zj .u64 (IntKind.wrap .u64 (p.getD 22 0)) 48)) (Zj .u64 (IntKind.wrap .u64 (p.getD 23 0)) 56),Z4 .or .u64 (Z4 .or .u64 (Z4 .or .u64 (Z4 .or .u64 (Z4 .or .u64 (Z4 .or .u64 (Z4 .or .u64 (Z4 .or .u64 (0) (Zj .u64 (IntKind.wrap .u64 (p.getD 24 0)) 0)) (Zj .u64 (IntKind.wrap .u64 (p.getD 25 0)) 8)) (Zj .u64 (IntKind.wrap .u64 (p.getD 26 0)) 16)) (Zj .u64 (IntKind.wrap .u64 (p.getD 27 0)) 24)) (Zj .u64 (IntKind.wrap .u64 (p.getD 28 0)) 32)) (Zj .u64 (IntKind.wrap .u64 (p.getD 29 0)) 40)) (Zj .u64 (IntKind.wrap .u64 (p.getD 30 0)) 48)) (Zj .u64 (IntKind.wrap .u64 (p.getD 31 0)) 56),Z4 .or .u64 (Z4 .or .u64 (Z4 .or .u64 (Z4 .or .u64 (Z4 .or .u64 (Z4 .or .u64 (Z4 .or .u64 (Z4 .or .u64 (0) (Zj .u64 (IntKind.wrap .u64 (p.getD 32 0)) 0)) (Zj .u64 (IntKind.wrap .u64 (p.getD 33 0)) 8)) (Zj .u64 (IntKind.wrap .u64 (p.getD 34 0)) 16)) (Zj .u64 (IntKind.wrap .u64 (p.getD 35 0)) 24)) (Zj .u64 (IntKind.wrap .u64 (p.getD 36 0)) 32)) (Zj .u64 (IntKind.wrap .u64 (p.getD 37 0)) 40)) (Zj .u64 (IntKind.wrap .u64 (p.getD 38 0)) 48)) (Zj .u64 (IntKind.wrap .u64 (p.getD 39 0)) 56),Z4 .or .u64 (Z4 .or .u64 (Z4 .or .u64 (Z4 .or .u64 (Z4 .or .u64 (Z4 .or .u64 (Z4 .or .u64 (Z4 .or .u64 (0) (Zj .u64 (IntKind.wrap .u64 (p.getD 40 0)) 0)) (Zj .u64 (IntKind.wrap .u64 (p.getD 41 0)) 8)) (Zj .u64 (IntKind.wrap .u64 (p.getD 42 0)) 16)) (Zj .u64 (IntKind.wrap .u64 (p.getD 43 0)) 24)) (Zj .u64 (IntKind.wrap .u64 (p.getD 44 0)) 32)) (Zj .u64 (IntKind.wrap .u64 (p.getD 45 0)) 40)) (Zj .u64 (IntKind.wrap .u64 (p.getD 46 0)) 48)) (Zj .u64 (IntKind.wrap .u64 (p.getD 47 0)) 56),Z4 .or .u64 (Z4 .or .u64 (Z4 .or .u64 (Z4 .or .u64 (Z4 .or .u64 (Z4 .or .u64 (Z4 .or .u64 (Z4 .or .u64 (0) (Zj .u64 (IntKind.wrap .u64 (p.getD 48 0)) 0)) (Zj .u64 (IntKind.wrap .u64 (p.getD 49 0)) 8)) (Zj .u64 (IntKind.wrap .u64 (p.getD 50 0)) 16)) (Zj .u64 (IntKind.wrap .u64 (p.getD 51 0)) 24)) (Zj .u64 (IntKind.wrap .u64 (p.getD 52 0)) 32)) (Zj .u64 (IntKind.wrap .u64 (p.getD 53 0)) 40)) (Zj .u64 (IntKind.wrap .u64 (p.getD 54 0)) 48)) (Zj .u64 (IntKind.wrap .u64 (p.getD 55 0)) 56),Z4 .or .u64 (Z4 .or .u64 (Z4 .or .u64 (Z4 .or .u64 (Z4 .or .u64 (Z4 .or .u64 (Z4 .or .u64 (Z4 .or .u64 (0) (Zj .u64 (IntKind.wrap .u64 (p.getD 56 0)) 0)) (Zj .u64 (IntKind.wrap .u64 (p.getD 57 0)) 8)) (Zj .u64 (IntKind.wrap .u64 (p.getD 58 0)) 16)) (Zj .u64 (IntKind.wrap .u64 (p.getD 59 0)) 24)) (Zj .u64 (IntKind.wrap .u64 (p.getD 60 0)) 32)) (Zj .u64 (IntKind.wrap .u64 (p.getD 61 0)) 40)) (Zj .u64 (IntKind.wrap .u64 (p.getD 62 0)) 48)) (Zj .u64 (IntKind.wrap .u64 (p.getD 63 0)) 56)]:=by kernel_rfl
theorem Zx0 (p:List Int):Z5y p=some [IntKind.wrap .u8 (p.getD 0 0),IntKind.wrap .u8 (Zn .u64 (p.getD 0 0) 8),IntKind.wrap .u8 (Zn .u64 (Zn .u64 (p.getD 0 0) 8) 8),IntKind.wrap .u8 (Zn .u64 (Zn .u64 (Zn .u64 (p.getD 0 0) 8) 8) 8),IntKind.wrap .u8 (Zn .u64 (Zn .u64 (Zn .u64 (Zn .u64 (p.getD 0 0) 8) 8) 8) 8),IntKind.wrap .u8 (Zn .u64 (Zn .u64 (Zn .u64 (Zn .u64 (Zn .u64 (p.getD 0 0) 8) 8) 8) 8) 8),IntKind.wrap .u8 (Zn .u64 (Zn .u64 (Zn .u64 (Zn .u64 (Zn .u64 (Zn .u64 (p.getD 0 0) 8) 8) 8) 8) 8) 8),IntKind.wrap .u8 (Zn .u64 (Zn .u64 (Zn .u64 (Zn .u64 (Zn .u64 (Zn .u64 (Zn .u64 (p.getD 0 0) 8) 8) 8) 8) 8) 8) 8),IntKind.wrap .u8 (p.getD 1 0),IntKind.wrap .u8 (Zn .u64 (p.getD 1 0) 8),IntKind.wrap .u8 (Zn .u64 (Zn .u64 (p.getD 1 0) 8) 8),IntKind.wrap .u8 (Zn .u64 (Zn .u64 (Zn .u64 (p.getD 1 0) 8) 8) 8),IntKind.wrap .u8 (Zn .u64 (Zn .u64 (Zn .u64 (Zn .u64 (p.getD 1 0) 8) 8) 8) 8),IntKind.wrap .u8 (Zn .u64 (Zn .u64 (Zn .u64 (Zn .u64 (Zn .u64 (p.getD 1 0) 8) 8) 8) 8) 8),IntKind.wrap .u8 (Zn .u64 (Zn .u64 (Zn .u64 (Zn .u64 (Zn .u64 (Zn .u64 (p.getD 1 0) 8) 8) 8) 8) 8) 8),IntKind.wrap .u8 (Zn .u64 (Zn .u64 (Zn .u64 (Zn .u64 (Zn .u64 (Zn .u64 (Zn .u64 (p.getD 1 0) 8) 8) 8) 8) 8) 8) 8),IntKind.wrap .u8 (p.getD 2 0),IntKind.wrap .u8 (Zn .u64 (p.getD 2 0) 8),IntKind.wrap .u8 (Zn .u64 (Zn .u64 (p.getD 2 0) 8) 8),IntKind.wrap .u8 (Zn .u64 (Zn .u64 (Zn .u64 (p.getD 2 0) 8) 8) 8),IntKind.wrap .u8 (Zn .u64 (Zn .u64 (Zn .u64 (Zn .u64 (p.getD 2 0) 8) 8) 8) 8),IntKind.wrap .u8 (Zn .u64 (Zn .u64 (Zn .u64 (Zn .u64 (Zn .u64 (p.getD 2 0) 8) 8) 8) 8) 8),IntKind.wrap .u8 (Zn .u64 (Zn .u64 (Zn .u64 (Zn .u64 (Zn .u64 (Zn .u64 (p.getD 2 0) 8) 8) 8) 8) 8) 8),IntKind.wrap .u8 (Zn .u64 (Zn .u64 (Zn .u64 (Zn .u64 (Zn .u64 (Zn .u64 (Zn .u64 (p.getD 2 0) 8) 8) 8) 8) 8) 8) 8),IntKind.wrap .u8 (p.getD 3 0),IntKind.wrap .u8 (Zn .u64 (p.getD 3 0) 8),IntKind.wrap .u8 (Zn .u64 (Zn .u64 (p.getD 3 0) 8) 8),IntKind.wrap .u8 (Zn .u64 (Zn .u64 (Zn .u64 (p.getD 3 0) 8) 8) 8),IntKind.wrap .u8 (Zn .u64 (Zn .u64 (Zn .u64 (Zn .u64 (p.getD 3 0) 8) 8) 8) 8),IntKind.wrap .u8 (Zn .u64 (Zn .u64 (Zn .u64 (Zn .u64 (Zn .u64 (p.getD 3 0) 8) 8) 8) 8) 8),IntKind.wrap .u8 (Zn .u64 (Zn .u64 (Zn .u64 (Zn .u64 (Zn .u64 (Zn .u64 (p.getD 3 0) 8) 8) 8) 8) 8) 8),IntKind.wrap .u8 (Zn .u64 (Zn .u64 (Zn .u64 (Zn .u64 (Zn .u64 (Zn .u64 (Zn .u64 (p.getD 3 0) 8) 8) 8) 8) 8) 8) 8)]:=by kernel_rfl
theorem Zsl (x:Int):0≤IntKind.wrap .u8 x∧IntKind.wrap .u8 x<256:=by rw [Z0d]; omega
theorem Zqv {x y:Int} (hx:0≤x) (hy:0≤y):Zd1 x y 0=true:=by
  unfold Zd1
  rw [decide_eq_true hx,decide_eq_true hy]; rfl
theorem Z059 (x:Int):0≤IntKind.wrap .u64 x∧IntKind.wrap .u64 x<18446744073709551616:=by rw [Zcu]; omega
theorem Znm (x y c:Int):0≤Z9w x y c∧Z9w x y c<18446744073709551616:=by unfold Z9w; omega
theorem Zwv {x:Int} (h:0≤x∧x<18446744073709551616):0≤Zn .u64 x 60∧Zn .u64 x 60<18446744073709551616:=by
  have:=Z93 .u64 (x:=x) (n:=60) (by decide)
  rw [show ((60:Nat):Int)=60 from rfl] at this
  rw [this]
  have:((2^60:Nat):Int)=1152921504606846976:=by decide
  rw [this]; omega
theorem Zu5 {l r:List Int} (h:W64 l) (hr:W64 r):W64 (l++r):=by
  intro i
  by_cases hi:i<l.length
  · have:(l++r).getD i 0=l.getD i 0:=by simp [List.getD_eq_getElem?_getD,List.getElem?_append_left hi]
    rw [this]; exact h i
  · have:(l++r).getD i 0=r.getD (i-l.length) 0:=by simp [List.getD_eq_getElem?_getD,List.getElem?_append_right (Nat.le_of_not_lt hi)]
    rw [this]; exact hr _
theorem Zu6 {z:Int} (h:0≤z∧z<18446744073709551616):W64 [z]:=Zm8 (by simpa using h)
theorem Zxm:W64 [6346243789798364141,1503914060200516822]:=Zm8 (by decide)
theorem tk8 (a b c d e f g h:Int):tk [a,b,c,d,e,f,g,h] 0 8 = [a,b,c,d,e,f,g,h]:=rfl
def pV (l:List Int):Nat→Int
  | 0=>0
  | n+1=>pV l n+l.getD n 0*(18446744073709551616:Int)^n
theorem Z82 (l:List Int) (n:Nat):pV l (n+1)=pV l n+l.getD n 0*(18446744073709551616:Int)^n:=rfl
theorem Zoc (l:List Int) (i:Nat) (v:Int) : ∀ n,n≤i→pV (Zcp 0 l i v) n=pV l n
  | 0,_=>rfl
  | n+1,h=>by rw [Z82,Z82,Zoc l i v n (by omega),Z2z,if_neg (by omega)]
theorem Zvq (l:List Int) (i:Nat) (v:Int) : ∀ n,i<n→pV (Zcp 0 l i v) n=pV l n+(v-l.getD i 0)*(18446744073709551616:Int)^i
  | 0,h=>by omega
  | n+1,h=>by
    rw [Z82,Z82,Z2z]
    by_cases hi:n=i
    · subst hi
      rw [if_pos rfl,Zoc l n v n (Nat.le_refl _),Int.sub_mul]
      omega
    · rw [if_neg hi,Zvq l i v n (by omega)]
      omega
theorem Zvr {l:List Int} {m:Nat} (h : ∀ t,m≤t→l.getD t 0=0) : ∀ n,m≤n→pV l n=pV l m
  | 0,hn=>by rw [show m=0 by omega]
  | n+1,hn=>by
    by_cases e:m=n+1
    · rw [e]
    · rw [Z82,h n (by omega),Zvr h n (by omega)]; omega
theorem Zob (n m:Nat):pV (List.replicate m 0) n=0:=by
  induction n with
  | zero=>rfl
  | succ n ih =>
    have:(List.replicate m (0:Int)).getD n 0=0:=by
      simp only [List.getD]
      cases hi:(List.replicate m (0:Int))[n]? with
      | none=>rfl
      | some v=>simpa using (List.mem_replicate.1 (List.mem_of_getElem? hi)).2
    rw [Z82,ih,this]; omega
theorem Zvs (n:Nat):0<(18446744073709551616:Int)^n:=Int.pow_pos (by decide)
theorem Z006 {l:List Int} (h:W64 l) : ∀ n,0≤pV l n∧pV l n<(18446744073709551616:Int)^n
  | 0=>by show (0:Int)≤0∧(0:Int)<1; omega
  | n+1=>by
    have ih:=Z006 h n
    have h1:=h n
    have hp:=Zvs n
    rw [Z82,Int.pow_succ]
    generalize (18446744073709551616:Int)^n=w at *
    generalize l.getD n 0=x at *
    generalize pV l n=v at *
    have a:0≤x*w:=Int.mul_nonneg h1.1 (by omega)
    have b:x*w≤18446744073709551615*w:=Int.mul_le_mul_of_nonneg_right (by omega) (by omega)
    omega
theorem Zuo {z q o c:Int} (hz:0≤z∧z<18446744073709551616) (hq:0≤q∧q<18446744073709551616) (ho:0≤o∧o<18446744073709551616) (hc:0≤c∧c<18446744073709551616) :
    ∃ n,IntKind.wrap .u64 (IntKind.wrap .u64 (z*q / 18446744073709551616+Zfi (z*q%18446744073709551616) o 0)+Zfi (Z9w (z*q%18446744073709551616) o 0) c 0)=n∧0≤n∧n<18446744073709551616∧Z9w (Z9w (z*q%18446744073709551616) o 0) c 0+n*18446744073709551616=z*q+o+c:=by
  have h0:0≤z*q:=Int.mul_nonneg hz.1 hq.1
  have h1:z*q≤18446744073709551615*18446744073709551615:=Int.mul_le_mul (by omega) (by omega) hq.1 (by omega)
  generalize z*q=p at *
  refine ⟨_,rfl,?_⟩
  unfold Z9w Zfi
  have e1:IntKind.wrap .u64 (p / 18446744073709551616+(p%18446744073709551616+o+0) / 18446744073709551616)=p / 18446744073709551616+(p%18446744073709551616+o+0) / 18446744073709551616:=Zb (by omega) (by omega)
  rw [e1]
  rw [Zb (by omega) (by omega)]
  omega
theorem Zpg {q:List Int} (hq:W64 q) {i:Nat} {z:Int} (hz:0≤z∧z<18446744073709551616) {L:Nat} (hL:i+q.length≤L) (hb:L<1000000) (m:Nat) : ∀ (n:Nat) (j:Nat) (l:List Int) (c:Int),j+m=q.length→l.length=L→W64 l→(0≤c∧c<18446744073709551616) →
    ∃ l' c',(∀ k,Z36 q (i:Int) z k (n+1+m) l c (j:Int)=k l' c')∧l'.length=L∧W64 l'∧(0≤c'∧c'<18446744073709551616) ∧
      pV l' L+c'*(18446744073709551616:Int)^(i+q.length)+z*pV q j*(18446744073709551616:Int)^i=pV l L+c*(18446744073709551616:Int)^(i+j)+z*pV q q.length*(18446744073709551616:Int)^i∧(∀ t,i+q.length≤t→l'.getD t 0=l.getD t 0):=by
  induction m with
  | zero =>
    intro n j l c hj hl hw hc
    refine ⟨l,c,fun k=>?_,hl,hw,hc,?_,fun _ _=>rfl⟩
    · rw [Nat.add_zero,Z36,Z61,Z0x (by simp; omega)]
    · rw [show j=q.length by omega]
  | succ m ih =>
    intro n j l c hj hl hw hc
    have hqj:=hq j
    have hmul:=Zrl hz hqj
    have hlj:=hw (i+j)
    have hp:0≤z*q.getD j 0:=Int.mul_nonneg hz.1 hqj.1
    have e1:IntKind.wrap .i64 ((i:Int)+(j:Int))=((i+j:Nat):Int):=by rw [Ze (by omega) (by omega)]; omega
    have e2:IntKind.wrap .i64 ((j:Int)+1)=((j+1:Nat):Int):=by rw [Ze (by omega) (by omega)]; rfl
    have hj':j<q.length:=by omega
    have hbr:decide ((j:Int)<(q.length:Int))=true:=by simp; omega
    have hlo:0≤z*q.getD j 0%18446744073709551616:=by omega
    obtain ⟨c1,ec,c1a,c1b,ev⟩:=Zuo hz hqj hlj hc
    obtain ⟨l',c',e,h1,h2,h3,h4,h5⟩:=ih n (j+1) (Zcp 0 l (i+j) (Z9w (Z9w (z*q.getD j 0%18446744073709551616) (l.getD (i+j) 0) 0) c 0)) c1 (by omega) (by rw [Zb8 (by omega),List.length_set,hl]) (Zqs hw (Znm _ _ _)) ⟨c1a,c1b⟩
    refine ⟨l',c',fun k=>?_,h1,h2,h3,?_,?_⟩
    · rw [← Nat.add_assoc,Z36,Z61,Z15 hbr,Zy (Z0n (by omega) (by omega)),Zl]
      simp only [Int.toNat_natCast]
      rw [Z3 hmul,Zl,e1,Zy (Z0n (by omega) (by omega)),Zl]
      simp only [Int.toNat_natCast]
      rw [Zy (Zqv hlo hlj.1),Zl,Zl,Zl,Zy (Zqv (Znm _ _ _).1 hc.1),Zl,Zl,Zl,Zl,Zy (Z0n (by omega) (by omega)),Zl,Zl,e2,ec]
      exact e k
    · rw [Zvq _ _ _ _ (by omega),Z82,← Nat.add_assoc,Int.pow_succ,Int.pow_add 18446744073709551616 i j] at h4
      rw [Int.pow_add 18446744073709551616 i j]
      generalize (18446744073709551616:Int)^(i+q.length)=w1 at *
      generalize (18446744073709551616:Int)^i=w2 at *
      generalize (18446744073709551616:Int)^j=w3 at *
      generalize Z9w (Z9w (z*q.getD j 0%18446744073709551616) (l.getD (i+j) 0) 0) c 0=lo at *
      generalize q.getD j 0=qj at *
      generalize l.getD (i+j) 0=o at *
      generalize pV l' L=a1 at *
      generalize pV l L=a2 at *
      generalize pV q j=a3 at *
      generalize pV q q.length=a4 at *
      clear e ec ih
      grind -lia -linarith (splits:=0)
    · intro t ht
      rw [h5 t ht,Z2z,if_neg (by omega)]
theorem Zph {p q:List Int} (hp:W64 p) (hq:W64 q) {L:Nat} (hL:p.length+q.length=L) (hb:L<1000000) (m:Nat) : ∀ (n:Nat) (i:Nat) (l:List Int),i+m=p.length→l.length=L→W64 l→(∀ t,i+q.length≤t→l.getD t 0=0)→pV l L=pV p i*pV q q.length →
    ∃ l',Z35 p q some (n+1+m) l (i:Int)=some l'∧l'.length=L∧W64 l'∧pV l' L=pV p p.length*pV q q.length:=by
  induction m with
  | zero =>
    intro n i l hi hl hw hz hv
    refine ⟨l,?_,hl,hw,by rw [hv,show i=p.length by omega]⟩
    rw [Nat.add_zero,Z35,Z60,Z0x (by simp; omega)]
  | succ m ih =>
    intro n i l hi hl hw hz hv
    have hbr:decide ((i:Int)<(p.length:Int))=true:=by simp; omega
    obtain ⟨n',hn⟩ : ∃ n',big=n'+1+q.length:=⟨18446744073709551615-q.length,by have:big=18446744073709551616:=Z19; omega⟩
    obtain ⟨l',c',e,hl',hw',hc',v',z'⟩:=Zpg hq (i:=i) (hp i) (L:=L) (by omega) hb q.length n' 0 l 0 (by omega) hl hw (by decide)
    have e1:IntKind.wrap .i64 ((i:Int)+(q.length:Int))=((i+q.length:Nat):Int):=by rw [Ze (by omega) (by omega)]; omega
    have e2:IntKind.wrap .i64 ((i:Int)+1)=((i+1:Nat):Int):=by rw [Ze (by omega) (by omega)]; rfl
    have hz0:l'.getD (i+q.length) 0=0:=by rw [z' _ (Nat.le_refl _),hz _ (Nat.le_refl _)]
    obtain ⟨l2,e3,hl2,hw2,v2⟩:=ih n (i+1) (Zcp 0 l' (i+q.length) c') (by omega) (by rw [Zb8 (by omega),List.length_set,hl']) (Zqs hw' hc') (by
      intro t ht
      rw [Z2z,if_neg (by omega),z' t (by omega),hz t (by omega)]) (by
      rw [Zvq _ _ _ _ (by omega),hz0,Z82]
      rw [hv] at v'
      have e0:pV q 0=0:=rfl
      rw [e0] at v'
      generalize (18446744073709551616:Int)^(i+q.length)=w1 at *
      generalize (18446744073709551616:Int)^i=w2 at *
      generalize pV l' L=a1 at *
      generalize pV q q.length=a4 at *
      generalize pV p i=a5 at *
      generalize p.getD i 0=a6 at *
      clear e ih
      grind -lia -linarith (splits:=0))
    refine ⟨l2,?_,hl2,hw2,v2⟩
    rw [← Nat.add_assoc,Z35,Z60,Z15 hbr,Zy (Z0n (by omega) (by omega)),Zl,Z12]
    simp only [Int.toNat_natCast]
    rw [hn]
    refine (e _).trans ?_
    simp only [Zl,e1,e2]
    rw [Zy (Z0n (by omega) (by omega))]
    exact e3
theorem Zpi {p q:List Int} (hp:W64 p) (hq:W64 q) (hb:p.length+q.length<1000000) : ∃ r,Z7b p q=some r∧r.length=p.length+q.length∧W64 r∧pV r r.length=pV p p.length*pV q q.length:=by
  have e1:IntKind.wrap .i64 ((p.length:Int)+(q.length:Int))=((p.length+q.length:Nat):Int):=by rw [Ze (by omega) (by omega)]; omega
  obtain ⟨n,hn⟩ : ∃ n',big=n'+1+p.length:=⟨18446744073709551615-p.length,by have:big=18446744073709551616:=Z19; omega⟩
  obtain ⟨r,e,h1,h2,h3⟩:=Zph hp hq (L:=p.length+q.length) rfl hb p.length n 0 (List.replicate (p.length+q.length) 0) (by omega) (by simp) (Z9e _) (by
    intro t _
    simp only [List.getD]
    cases hi:(List.replicate (p.length+q.length) (0:Int))[t]? with
    | none=>rfl
    | some v=>simpa using (List.mem_replicate.1 (List.mem_of_getElem? hi)).2) (by
    rw [Zob]
    show 0=0*_
    omega)
  refine ⟨r,?_,h1,h2,by rw [h1]; exact h3⟩
  rw [Z7b,Zl,e1,Zy (by unfold mkB; simp; omega),Z12,Int.toNat_natCast,hn]
  exact e
theorem Zsc (x:Int):Zn .u64 x 60=x / 1152921504606846976:=by
  have:=Z93 .u64 (x:=x) (n:=60) (by decide)
  simpa using this
theorem Z051 (x:Int):Zj .u64 x 4=(x*16)%18446744073709551616:=by
  have:=Zeg .u64 (x:=x) (n:=4) (by decide); rw [Zcu] at this; simpa using this
theorem Zv8 {x y:Int} (hx:0≤x∧x<18446744073709551616) (hy:0≤y∧y<18446744073709551616):Z4 .or .u64 (Zn .u64 x 60) (Zj .u64 y 4)=x / 1152921504606846976+y%1152921504606846976*16:=by
  rw [Zsc,Z051]
  have e:y*16%18446744073709551616=y%1152921504606846976*16:=by omega
  rw [e]
  exact Z0k 4 (x:=y%1152921504606846976*16) (a:=y%1152921504606846976) rfl (by omega) (by omega) (by
    show _<(16:Int)
    omega) (by omega)
theorem Z0bq (l:List Int) (v:Int):pV (l ++ [v]) l.length=pV l l.length:=by
  have h : ∀ n,n≤l.length→pV (l ++ [v]) n=pV l n:=by
    intro n
    induction n with
    | zero=>intro _; rfl
    | succ n ih =>
      intro hn
      have:(l ++ [v]).getD n 0=l.getD n 0:=by simp [List.getD_eq_getElem?_getD,List.getElem?_append_left (show n<l.length by omega)]
      rw [Z82,Z82,ih (by omega),this]
  exact h _ (Nat.le_refl _)
theorem Z02l (l:List Int) (v:Int):pV (l ++ [v]) (l ++ [v]).length=pV l l.length+v*(18446744073709551616:Int)^l.length:=by
  have e:(l ++ [v]).length=l.length+1:=by simp
  rw [e,Z82,Z0bq]
  have:(l ++ [v]).getD l.length 0=v:=by simp [List.getD_eq_getElem?_getD]
  rw [this]
theorem Zww (x d r y w2 w3 b1 b2 b3:Int) {b4:Int} (hx:1152921504606846976*d+r=x)
    (h:b1+w3*1152921504606846976*(b2+(d+y*16)*w2)=b4+x*(w3*w2)+y*(w3*w2*18446744073709551616)+w3*1152921504606846976*b3) :
    b1+w3*1152921504606846976*b2=b4+r*(w3*w2)+w3*1152921504606846976*b3:=by grind -lia -linarith (splits:=0)
theorem Zqh {p:List Int} (hp:W64 p) (hb:p.length<1000000) {k:List Int→Option (List Int×List Int)} (m:Nat) : ∀ (n i:Nat) (l:List Int),3+i+m=p.length→l.length=i→W64 l →
    ∃ l',Z20 p k (n+1+m) l ((3+i:Nat):Int)=k l'∧l'.length=i+m∧W64 l' ∧
      pV p p.length+7237005577332262213973186563042994240829374041602535252466099000494570602496*pV l l.length=pV p (3+i)+p.getD (3+i) 0%1152921504606846976*(18446744073709551616:Int)^(3+i)+7237005577332262213973186563042994240829374041602535252466099000494570602496*pV l' l'.length:=by
  induction m with
  | zero =>
    intro n i l hi hl hw
    refine ⟨l,?_,by omega,hw,?_⟩
    · rw [Nat.add_zero,Z20,Z3r,Z0x (by simp; omega)]
    · have e:p.getD (3+i) 0=0:=by simp [List.getD_eq_getElem?_getD,List.getElem?_eq_none (show p.length≤3+i by omega)]
      rw [e,show 3+i=p.length by omega]
      omega
  | succ m ih =>
    intro n i l hi hl hw
    have hbr:decide (((3+i:Nat):Int)<(p.length:Int))=true:=by simp; omega
    have e2:IntKind.wrap .i64 (((3+i:Nat):Int)+1)=((3+(i+1):Nat):Int):=by rw [Ze (by omega) (by omega)]; omega
    have hs:=Zwv (hp (3+i))
    have e3:((3+(i+1):Nat):Int).toNat=3+i+1:=by omega
    have hw3:(18446744073709551616:Int)^3*1152921504606846976=7237005577332262213973186563042994240829374041602535252466099000494570602496:=by decide
    have fin : ∀ (w:Int) (l':List Int),w=p.getD (3+i) 0 / 1152921504606846976+p.getD (3+i+1) 0%1152921504606846976*16 →
        pV p p.length+7237005577332262213973186563042994240829374041602535252466099000494570602496*pV (l ++ [w]) (l ++ [w]).length=pV p (3+(i+1))+p.getD (3+(i+1)) 0%1152921504606846976*(18446744073709551616:Int)^(3+(i+1))+7237005577332262213973186563042994240829374041602535252466099000494570602496*pV l' l'.length →
        pV p p.length+7237005577332262213973186563042994240829374041602535252466099000494570602496*pV l l.length=pV p (3+i)+p.getD (3+i) 0%1152921504606846976*(18446744073709551616:Int)^(3+i)+7237005577332262213973186563042994240829374041602535252466099000494570602496*pV l' l'.length:=by
      intro w l' hw' h
      rw [Z02l,hl,← Nat.add_assoc,Z82,Int.pow_succ,Int.pow_add 18446744073709551616 3 i,hw',← hw3] at h
      rw [hl,Int.pow_add 18446744073709551616 3 i,← hw3]
      exact Zww _ _ _ _ _ _ _ _ _ (Int.mul_ediv_add_emod (p.getD (3+i) 0) 1152921504606846976) h
    by_cases h:3+i+1<p.length
    · obtain ⟨l',e,h1,h2,h3⟩:=ih n (i+1) (l ++ [Z4 .or .u64 (Zn .u64 (p.getD (3+i) 0) 60) (Zj .u64 (p.getD (3+i+1) 0) 4)]) (by omega) (by simp; omega) (Zu5 hw (Zu6 (Zvo _ _)))
      refine ⟨l',?_,by omega,h2,fin _ _ (Zv8 (hp _) (hp _)) h3⟩
      rw [← Nat.add_assoc,Z20,Z3r,Z15 hbr,Zy (Z0n (by omega) (by omega))]
      simp only [Zl,e2,Z12,Int.toNat_natCast,e3]
      rw [Z15 (by simp; omega),Zy (Z0n (by omega) (by omega))]
      rw [Zy (by simp; omega)]
      exact e
    · obtain ⟨l',e,h1,h2,h3⟩:=ih n (i+1) (l ++ [Zn .u64 (p.getD (3+i) 0) 60]) (by omega) (by simp; omega) (Zu5 hw (Zu6 hs))
      have e0:p.getD (3+i+1) 0=0:=by simp [List.getD_eq_getElem?_getD,List.getElem?_eq_none (show p.length≤3+i+1 by omega)]
      refine ⟨l',?_,by omega,h2,fin _ _ (by rw [e0,Zsc]; omega) h3⟩
      rw [← Nat.add_assoc,Z20,Z3r,Z15 hbr,Zy (Z0n (by omega) (by omega))]
      simp only [Zl,e2,Z12,Int.toNat_natCast]
      rw [Z0x (by simp; omega)]
      rw [Zy (by simp; omega)]
      exact e
end Go.Proofs.YtiflckckekjbnaaGreatDoor
namespace Go.Proofs.YtiflckckekjbnaaGreatDoor
set_option linter.all false
set_option maxRecDepth 100000
def Prm (n:Nat):Prop:=2≤n ∧ ∀ d,d∣n→d=1∨d=n
theorem Z007 (n:Nat) : ∀ (m:Nat) (f:Nat→Nat),(∀ i,i<n→f i<m)→(∀ i j,i<n→j<n→f i=f j→i=j)→n≤m:=by
  induction n with
  | zero=>intros; omega
  | succ n ih =>
    intro m f h1 h2
    have hm:=h1 n (by omega)
    have:=ih (m-1) (fun i=>if f i=m-1 then f n else f i) (by
      intro i hi
      have a1:=h1 i (by omega)
      have a2:f i≠f n:=fun e=>by have:=h2 i n (by omega) (by omega) e; omega
      split <;> omega) (by
      intro i j hi hj e
      have a1:f i≠f n:=fun e=>by have:=h2 i n (by omega) (by omega) e; omega
      have a2:f j≠f n:=fun e=>by have:=h2 j n (by omega) (by omega) e; omega
      split at e <;> split at e
      · rename_i x y; exact h2 i j (by omega) (by omega) (x.trans y.symm)
      · exact absurd e.symm a2
      · exact absurd e a1
      · exact h2 i j (by omega) (by omega) e)
    omega
theorem surj {n:Nat} {f:Nat→Nat} (h1 : ∀ i,i<n→f i<n) (h2 : ∀ i j,i<n→j<n→f i=f j→i=j) {v:Nat} (hv:v<n) : ∃ i,i<n∧f i=v:=by
  false_or_by_contra
  rename_i hc
  have hc : ∀ i,i<n→f i≠v:=fun i hi e=>hc ⟨i,hi,e⟩
  have:=Z007 (n+1) n (fun i=>if i=n then v else f i) (by
    intro i hi
    split
    · exact hv
    · exact h1 i (by omega)) (by
    intro i j hi hj e
    split at e <;> split at e
    · omega
    · exact absurd e.symm (hc j (by omega))
    · exact absurd e (hc i (by omega))
    · exact h2 i j (by omega) (by omega) e)
  omega
theorem Ziq {a n e:Nat}:(a%n)^e%n=a^e%n:=by rw [← Nat.pow_mod]
def One (a m k:Nat):Prop:=a^k%m=1%m
theorem One.mul {a m k:Nat} (h:One a m k) (l:Nat):One a m (k*l):=by
  unfold One at *
  rw [Nat.pow_mul,Nat.pow_mod,h,← Nat.pow_mod,Nat.one_pow]
theorem One.rest {a m k l:Nat} (h:One a m k) (h2:One a m l):One a m (k%l):=by
  have h3:=h2.mul (k / l)
  unfold One at *
  have e:k=l*(k / l)+k%l:=(Nat.div_add_mod k l).symm
  rw [e,Nat.pow_add,Nat.mul_mod,h3,← Nat.mul_mod,Nat.one_mul] at h
  exact h
theorem One.gcd {a m:Nat} (k:Nat) : ∀ l,One a m k→One a m l→One a m (Nat.gcd k l):=by
  induction k using Nat.strongRecOn with
  | ind k ih =>
    intro l h h2
    by_cases hk:k=0
    · subst hk; rw [Nat.gcd_zero_left]; exact h2
    · rw [Nat.gcd_rec]
      exact ih (l%k) (Nat.mod_lt _ (by omega)) k (h2.rest h) h
def Zq6:List Nat→Nat
  | []=>1
  | r::rs=>r*Zq6 rs
theorem Zru {m:Nat} (hm:1<m) : ∀ (rs:List Nat),(∀ r∈rs,Prm r)→m∣Zq6 rs→∃ r,r∈rs∧r∣m
  | [],_,h=>by
    have:=Nat.le_of_dvd (by decide) h
    simp [Zq6] at this
    omega
  | r::rs,hp,h=>by
    have hr:=hp r List.mem_cons_self
    rcases hr.2 (Nat.gcd m r) (Nat.gcd_dvd_right m r) with h1 | h1
    · have h2:m∣Zq6 rs:=Nat.Coprime.dvd_of_dvd_mul_left h1 h
      obtain ⟨s,hs,hd⟩:=Zru hm rs (fun x hx=>hp x (List.mem_cons_of_mem _ hx)) h2
      exact ⟨s,List.mem_cons_of_mem _ hs,hd⟩
    · exact ⟨r,List.mem_cons_self,by rw [← h1]; exact Nat.gcd_dvd_left m r⟩
theorem Zrr {a m n:Nat} {rs:List Nat} (hp : ∀ r∈rs,Prm r) (hn:Zq6 rs=n) (h0:0<n) (h1:One a m n) (hr : ∀ r∈rs,¬ One a m (n / r)) {k:Nat} (hk:0<k) (hkn:k<n) : ¬ One a m k:=by
  intro h
  have hg:=One.gcd k n h h1
  have hd:Nat.gcd k n∣n:=Nat.gcd_dvd_right k n
  have hle:Nat.gcd k n≤k:=Nat.le_of_dvd hk (Nat.gcd_dvd_left k n)
  obtain ⟨q,hq⟩:=hd
  generalize Nat.gcd k n=g at *
  have hq1:1<q:=by
    rcases Nat.lt_or_ge 1 q with h | h
    · exact h
    · have:g*q≤g*1:=Nat.mul_le_mul_left g h
      omega
  obtain ⟨r,hrm,s,hs⟩:=Zru hq1 rs hp (by rw [hn,hq]; exact Nat.dvd_mul_left q g)
  have hr0:0<r:=by have:=(hp r hrm).1; omega
  apply hr r hrm
  have e:n / r=g*s:=by
    rw [hq,hs,← Nat.mul_assoc,Nat.mul_comm g r,Nat.mul_assoc,Nat.mul_div_cancel_left _ hr0]
  rw [e]
  exact hg.mul s
theorem Zln {a m n:Nat} (h1:One a m n) (ho : ∀ k,0<k→k<n→¬ One a m k) {i j:Nat} (hi:i<n) (hj:j<n) (e:a^i%m=a^j%m):i=j:=by
  have key : ∀ i j,i<j→j<n→a^i%m=a^j%m→False:=by
    intro i j hij hj e
    apply ho (j-i) (by omega) (by omega)
    have e2:a^(n-i)*a^i%m=a^(n-i)*a^j%m:=by rw [Nat.mul_mod,e,← Nat.mul_mod]
    rw [← Nat.pow_add,← Nat.pow_add,show n-i+i=n by omega,show n-i+j=n+(j-i) by omega] at e2
    unfold One at h1 ⊢
    rw [h1,Nat.pow_add,Nat.mul_mod,h1,← Nat.mul_mod,Nat.one_mul] at e2
    exact e2.symm
  rcases Nat.lt_trichotomy i j with h | h | h
  · exact (key i j h hj e).elim
  · exact h
  · exact (key j i h hi e.symm).elim
theorem One.dvd {a m l k:Nat} (h:One a m k) (hl:l∣m):One a l k:=by
  unfold One at *
  obtain ⟨q,rfl⟩:=hl
  have:=congrArg (· % l) h
  simpa [Nat.mod_mul_right_mod] using this
theorem pock {n F c:Nat} {rs:List Nat} (h2:2≤n) (hp : ∀ r∈rs,Prm r) (hF:Zq6 rs=F) (hF0:0<F) (hFn:n<F*F) (h1:One c n F) (hr : ∀ r∈rs,Nat.gcd (c^(F / r)%n+(n-1)) n=1):Prm n:=by
  have key : ∀ l,l∣n→2≤l→F≤l:=by
    intro l hl h2l
    have h1l:=h1.dvd hl
    have hol : ∀ k,0<k→k<F→¬ One c l k:=fun k hk hkF=>Zrr hp hF hF0 h1l (fun r hrm hone=>by
      have hg:=hr r hrm
      have hd:l∣c^(F / r)%n+(n-1):=by
        unfold One at hone
        have e1:c^(F / r)%n%l=1%l:=by
          obtain ⟨q,rfl⟩:=hl
          rw [Nat.mod_mul_right_mod]; exact hone
        obtain ⟨q,rfl⟩:=hl
        apply Nat.dvd_of_mod_eq_zero
        rw [Nat.add_mod,e1,← Nat.add_mod,show 1+(l*q-1)=l*q by omega,Nat.mul_mod_right]
      have:=Nat.dvd_gcd hd hl
      rw [hg] at this
      have:=Nat.le_of_dvd (by decide) this
      omega) hk hkF
    exact Z007 F l (fun i=>c^i%l) (fun i _=>Nat.mod_lt _ (by omega)) (fun i j hi hj e=>Zln h1l hol hi hj e)
  refine ⟨h2,fun d hd=>?_⟩
  obtain ⟨q,hq⟩:=hd
  by_cases hd1:d=1
  · exact .inl hd1
  by_cases hq1:q=1
  · subst hq1; exact .inr (by omega)
  exfalso
  have hd0:d≠0:=fun h=>by subst h; simp at hq; omega
  have hq0:q≠0:=fun h=>by subst h; simp at hq; omega
  have a1:=key d ⟨q,hq⟩ (by omega)
  have a2:=key q ⟨d,by rw [hq,Nat.mul_comm]⟩ (by omega)
  have:=Nat.mul_le_mul a1 a2
  omega
def pm (m:Nat):Nat→Nat→Nat→Nat→Nat
  | 0,_,_,acc=>acc
  | f+1,a,e,acc=>pm m f (a*a%m) (e / 2) (if e%2=0 then acc else acc*a%m)
theorem Z02o (m f:Nat) : ∀ (a e acc:Nat),e<2^f→pm m f a e acc%m=acc*a^e%m:=by
  induction f with
  | zero => intro a e acc h; have : e = 0 := by simpa using h
            subst this; simp [pm]
  | succ f ih =>
    intro a e acc h
    have h2:e / 2<2^f:=by rw [Nat.pow_succ] at h; omega
    rw [pm,ih _ _ _ h2]
    have e1:e=2*(e / 2)+e%2:=(Nat.div_add_mod e 2).symm
    have e2:(a*a%m)^(e / 2)%m=a^(2*(e / 2))%m:=by rw [← Nat.pow_mod,← Nat.pow_two,← Nat.pow_mul]
    by_cases hz:e%2=0
    · rw [if_pos hz,Nat.mul_mod,e2,← Nat.mul_mod,show 2*(e / 2)=e by omega]
    · have e3:a^e=a*a^(2*(e / 2)):=by
        conv=>lhs; rw [e1,show e%2=1 by omega,Nat.pow_succ,Nat.mul_comm]
      rw [if_neg hz,Nat.mul_mod,e2,Nat.mod_mod,← Nat.mul_mod,e3,Nat.mul_assoc]
theorem Z005 {a m e:Nat} (f:Nat) (h:e<2^f) (h1:(pm m f a e 1%m==1%m)=true):One a m e:=by
  have:=Z02o m f a e 1 h
  unfold One
  rw [Nat.one_mul] at this
  rw [← this]
  simpa using h1
def chkP (n F c:Nat) (rs:List Nat):Bool :=
  Nat.ble 2 n&&(Zq6 rs==F)&&Nat.ble 1 F&&Nat.blt n (F*F)&&Nat.blt F (2^256)&&(pm n 256 c F 1%n==1%n)&&rs.all fun r=>Nat.blt (F / r) (2^256)&&Nat.gcd (pm n 256 c (F / r) 1%n+(n-1)) n==1
theorem Zof {n F c:Nat} {rs:List Nat} (hp : ∀ r∈rs,Prm r) (h:chkP n F c rs=true):Prm n:=by
  unfold chkP at h
  simp only [Bool.and_eq_true,List.all_eq_true] at h
  obtain ⟨⟨⟨⟨⟨⟨h1,h2⟩,h3⟩,h4⟩,h5⟩,h6⟩,h7⟩:=h
  refine pock (F:=F) (c:=c) (rs:=rs) (Nat.le_of_ble_eq_true h1) hp (by simpa using h2) (Nat.le_of_ble_eq_true h3) (Nat.le_of_ble_eq_true h4) (Z005 256 (Nat.le_of_ble_eq_true h5) h6) ?_
  intro r hr
  obtain ⟨a1,a2⟩:=h7 r hr
  have:=Z02o n 256 c (F / r) 1 (Nat.le_of_ble_eq_true a1)
  rw [Nat.one_mul] at this
  rw [← this]
  simpa using a2
def tryD (n:Nat):Nat→Nat→Bool
  | 0,_=>true
  | f+1,d => !(n%d==0)&&tryD n f (d+1)
theorem Z057 (n f:Nat) : ∀ d,tryD n f d=true→∀ i,i<f→n%(d+i)≠0:=by
  induction f with
  | zero=>intros; omega
  | succ f ih =>
    intro d h i hi
    simp only [tryD,Bool.and_eq_true] at h
    cases i with
    | zero=>simpa using h.1
    | succ i=>have:=ih (d+1) h.2 i (by omega); rwa [show d+(i+1)=d+1+i by omega]
theorem Z8p (n f:Nat) (h:(Nat.ble 2 n&&tryD n f 2&&Nat.blt n ((f+2)*(f+2)))=true):Prm n:=by
  simp only [Bool.and_eq_true] at h
  obtain ⟨⟨h1,h2⟩,h3⟩:=h
  have h1:=Nat.le_of_ble_eq_true h1
  have h3:n<(f+2)*(f+2):=Nat.le_of_ble_eq_true h3
  have key : ∀ d,2≤d→d<f+2→¬ d∣n:=fun d a b hd=>by
    have:=Z057 n f 2 h2 (d-2) (by omega)
    rw [show 2+(d-2)=d by omega] at this
    exact this (Nat.mod_eq_zero_of_dvd hd)
  refine ⟨h1,fun d hd=>?_⟩
  obtain ⟨q,hq⟩:=hd
  by_cases hd1:d=1
  · exact .inl hd1
  by_cases hq1:q=1
  · subst hq1; exact .inr (by omega)
  exfalso
  have hd0:d≠0:=fun h=>by subst h; simp at hq; omega
  have hq0:q≠0:=fun h=>by subst h; simp at hq; omega
  have a1:f+2≤d:=by
    rcases Nat.lt_or_ge d (f+2) with h | h
    · exact absurd ⟨q,hq⟩ (key d (by omega) h)
    · exact h
  have a2:f+2≤q:=by
    rcases Nat.lt_or_ge q (f+2) with h | h
    · exact absurd ⟨d,by rw [hq,Nat.mul_comm]⟩ (key q (by omega) h)
    · exact h
  have:=Nat.mul_le_mul a1 a2
  omega
theorem Z00v {P:Nat→Prop} {a:Nat} (h:P a) : ∀ r ∈ [a],P r:=by intro r hr; rw [List.mem_singleton] at hr; subst hr; exact h
theorem Zmh {P:Nat→Prop} {a b:Nat} (h:P a) (h2:P b) : ∀ r ∈ [a,b],P r:=by
  intro r hr
  simp only [List.mem_cons,List.not_mem_nil,or_false] at hr
  rcases hr with rfl | rfl
  · exact h
  · exact h2
theorem Zkx:Prm 2773320623:=Z8p 2773320623 52662 (by decide +kernel)
theorem Zjq:Prm 72106336199:=Zof (F:=2773320623) (c:=67108864) (rs:=[2773320623]) (Z00v Zkx) (by decide +kernel)
theorem Zq5:Prm 8574133:=Z8p 8574133 2928 (by decide +kernel)
theorem Z02p:Prm 127:=Z8p 127 11 (by decide +kernel)
theorem Zf3:Prm 1919519569386763:=Zof (F:=1088914891) (c:=354538099852037) (rs:=[8574133,127]) (Zmh Zq5 Z02p) (by decide +kernel)
theorem Ztd:Prm 430751:=Z8p 430751 656 (by decide +kernel)
theorem Zyl:Prm 4153:=Z8p 4153 64 (by decide +kernel)
theorem Zdo:Prm 31757755568855353:=Zof (F:=1788908903) (c:=26222887164197666) (rs:=[430751,4153]) (Zmh Ztd Zyl) (by decide +kernel)
theorem Z5m:Prm 75445702479781427272750846543864801:=Zof (F:=138409523410761641138333837) (c:=23520671056837248616447561120497838) (rs:=[1919519569386763,72106336199]) (Zmh Zf3 Zjq) (by decide +kernel)
theorem Z1n:Prm 74058212732561358302231226437062788676166966415465897661863160754340907:=Zof (F:=2395986178073482737347378734667165195040796357129753) (c:=32917242187670345156894797748588826076355976820526874250530785709567478) (rs:=[75445702479781427272750846543864801,31757755568855353]) (Zmh Z5m Zdo) (by decide +kernel)
abbrev pN:Nat:=57896044618658097711785492504343953926634992332820282019728792003956564819949
abbrev qN:Nat:=74058212732561358302231226437062788676166966415465897661863160754340907
theorem Z0bw:Prm 2:=Z8p 2 0 (by decide +kernel)
theorem Z10f:Prm 3:=Z8p 3 1 (by decide +kernel)
theorem Zvv:Prm 65147:=Z8p 65147 255 (by decide +kernel)
theorem Zvl {a m e:Nat} (f:Nat) (h:e<2^f) (h1:(pm m f a e 1%m==1%m)=false) : ¬ One a m e:=by
  have:=Z02o m f a e 1 h
  intro h2
  unfold One at h2
  rw [Nat.one_mul,h2] at this
  rw [this] at h1
  simp at h1
theorem Zgk:One 2 pN (pN-1):=Z005 256 (by decide +kernel) (by decide +kernel)
theorem Zto {k:Nat} (hk:0<k) (hk2:k<pN-1) : ¬ One 2 pN k:=by
  refine Zrr (rs:=[2,2,3,65147,qN]) ?_ (by decide +kernel) (by decide +kernel) Zgk ?_ hk hk2
  · intro r hr
    simp only [List.mem_cons,List.not_mem_nil,or_false] at hr
    rcases hr with rfl | rfl | rfl | rfl | rfl
    · exact Z0bw
    · exact Z0bw
    · exact Z10f
    · exact Zvv
    · exact Z1n
  · intro r hr
    simp only [List.mem_cons,List.not_mem_nil,or_false] at hr
    rcases hr with rfl | rfl | rfl | rfl | rfl
    all_goals exact Zvl 256 (by decide +kernel) (by decide +kernel)
theorem Znc {i:Nat} (hi:i<pN-1):2^i%pN≠0:=by
  intro h
  have h1:=Zgk
  unfold One at h1
  rw [show pN-1=i+(pN-1-i) by omega,Nat.pow_add,Nat.mul_mod,h,Nat.zero_mul,Nat.zero_mod] at h1
  exact absurd h1 (by decide +kernel)
theorem Zz4 {a:Nat} (ha:a%pN≠0) : ∃ i,i<pN-1∧2^i%pN=a%pN:=by
  have hlt : ∀ x,x%pN<pN:=fun x=>Nat.mod_lt _ (by decide +kernel)
  obtain ⟨i,hi,e⟩:=surj (n:=pN-1) (f:=fun i=>2^i%pN-1) (fun i hi=>by
    have:=hlt (2^i)
    have:=Znc hi
    omega) (fun i j hi hj e=>by
    have:=Znc hi
    have:=Znc hj
    exact Zln Zgk (fun k a b=>Zto a b) hi hj (by omega)) (v:=a%pN-1) (by have:=hlt a; omega)
  refine ⟨i,hi,?_⟩
  have:=Znc hi
  omega
theorem Zuz {a:Nat} (ha:a%pN≠0):One a pN (pN-1):=by
  obtain ⟨i,_,e⟩:=Zz4 ha
  have h:=Zgk.mul i
  unfold One at h ⊢
  rw [← Ziq,← e,Ziq,← Nat.pow_mul,Nat.mul_comm]
  exact h
theorem Z026 {a:Nat} (ha:a%pN≠0):a*a^(pN-2)%pN=1:=by
  have h:=Zuz ha
  unfold One at h
  rw [show pN-1=(pN-2)+1 by decide +kernel,Nat.pow_succ,Nat.mul_comm] at h
  rw [h]
  decide +kernel
theorem Z02d {d:Nat} (hd:(pm pN 256 d ((pN-1) / 2) 1%pN==1%pN)=false) (x:Nat) (hx:x%pN≠0):x*x%pN≠d%pN:=by
  intro e
  refine Zvl 256 (by decide +kernel) hd ?_
  have h:=Zuz hx
  unfold One at h ⊢
  rw [← Ziq,← e,Ziq,← Nat.pow_two,← Nat.pow_mul,show 2*((pN-1) / 2)=pN-1 by decide +kernel]
  exact h
abbrev dN:Nat:=37095705934669439343138083508754565189542113879843219016388785533085940283555
theorem Zus (x:Nat) (hx:x%pN≠0):x*x%pN≠dN%pN:=Z02d (by decide +kernel) x hx
abbrev F:=Fin pN
theorem Zu4 (a:F) (ha:a≠0) : ∃ i:F,a*i=1:=by
  have h0:a.val%pN≠0:=by
    intro h
    apply ha
    rw [Nat.mod_eq_of_lt a.isLt] at h
    exact Fin.ext h
  have h:=Z026 h0
  refine ⟨⟨a.val^(pN-2)%pN,Nat.mod_lt _ (by decide +kernel)⟩,Fin.ext ?_⟩
  rw [Fin.val_mul]
  show a.val*(a.val^(pN-2)%pN)%pN=_
  generalize a.val^(pN-2)=z at *
  rw [Nat.mul_mod,Nat.mod_mod,← Nat.mul_mod,h]
  decide +kernel
theorem Zme {a b:F} (h:a*b=0):a=0∨b=0:=by
  by_cases ha:a=0
  · exact .inl ha
  · obtain ⟨i,hi⟩:=Zu4 a ha
    exact .inr (by grind -lia -linarith (splits:=0))
def dF:F:=⟨dN,by decide +kernel⟩
def iF:F:=⟨19681161376707505956807079304988542015446066515923890162744021073123829784752,by decide +kernel⟩
theorem Z0vv:iF*iF+1=0:=by decide +kernel
theorem Zur (s t:F) (h:s*s=dF*(t*t)):t=0:=by
  false_or_by_contra
  rename_i ht
  obtain ⟨i,hi⟩:=Zu4 t ht
  have hx:(s*i)*(s*i)=dF:=by grind -lia -linarith (splits:=0)
  have h1:(s*i).val*(s*i).val%pN=dN%pN:=by
    have:=congrArg Fin.val hx
    rw [Fin.val_mul] at this
    rw [this]
    decide +kernel
  by_cases hz:(s*i).val%pN=0
  · rw [Nat.mul_mod,hz] at h1
    exact absurd h1 (by decide +kernel)
  · exact Zus _ hz h1
structure On (x y:F):Prop where
  eq:y*y-x*x=1+dF*x*x*y*y
theorem Z0uv (a:F) (h:a+a=0):a=0:=by
  obtain ⟨i,hi⟩:=Zu4 2 (by decide +kernel)
  grind -lia -linarith (splits:=0)
theorem Zzy {x1 y1 x2 y2:F} (h1:On x1 y1) (h2:On x2 y2):dF*x1*x2*y1*y2*(dF*x1*x2*y1*y2)≠1:=by
  intro h3
  have e1:=h1.eq
  have e2:=h2.eq
  have hi:=Z0vv
  obtain ⟨j,hj⟩ : ∃ j,j=iF:=⟨_,rfl⟩
  rw [← hj] at hi
  obtain ⟨d,hd⟩ : ∃ d,d=dF:=⟨_,rfl⟩
  have nr : ∀ s t:F,s*s=d*(t*t)→t=0:=by rw [hd]; exact Zur
  rw [← hd] at e1 e2 h3
  clear hd hj h1 h2
  obtain ⟨e,he⟩ : ∃ e,e=d*x1*x2*y1*y2:=⟨_,rfl⟩
  rw [← he] at h3
  -- with u = j x the curve is u u + y y = 1 - d u u y y
  have a1:x1*y1*(j*x2+y2)=0:=by
    refine nr (j*x1+e*y1) _ ?_
    grind -lia -linarith (splits:=0)
  have a2:x1*y1*(j*x2-y2)=0:=by
    refine nr (j*x1-e*y1) _ ?_
    grind -lia -linarith (splits:=0)
  have n1:x1*y1≠0:=fun h=>absurd (show (1:F)=0 by grind -lia -linarith (splits:=0)) (by decide +kernel)
  have b1:=(Zme a1).resolve_left n1
  have b2:=(Zme a2).resolve_left n1
  have b3:y2=0:=Z0uv y2 (by grind -lia -linarith (splits:=0))
  exact absurd (show (1:F)=0 by grind -lia -linarith (splits:=0)) (by decide +kernel)
noncomputable def Zri (a:F):F:=if h:a=0 then 0 else Classical.choose (Zu4 a h)
theorem Z5b {a:F} (ha:a≠0):a*Zri a=1:=by
  unfold Zri
  rw [dif_neg ha]
  exact Classical.choose_spec (Zu4 a ha)
theorem Zut {x1 y1 x2 y2:F} (h1:On x1 y1) (h2:On x2 y2):1+dF*x1*x2*y1*y2≠0:=by
  intro h
  refine Zzy h1 h2 ?_
  generalize dF*x1*x2*y1*y2=e at *
  grind -lia -linarith (splits:=0)
theorem Zuu {x1 y1 x2 y2:F} (h1:On x1 y1) (h2:On x2 y2):1-dF*x1*x2*y1*y2≠0:=by
  intro h
  refine Zzy h1 h2 ?_
  generalize dF*x1*x2*y1*y2=e at *
  grind -lia -linarith (splits:=0)
structure G where
  x:F
  y:F
  on:On x y
theorem Z00q {P Q:G} (hx:P.x=Q.x) (hy:P.y=Q.y):P=Q:=by
  cases P; cases Q
  simp only at hx hy
  subst hx; subst hy; rfl
theorem Z02i (a b u v d:F) (h1:b*b-a*a=1+d*a*a*b*b) (h2:v*v-u*u=1+d*u*u*v*v) :
    (b*v+a*u)*(b*v+a*u)*(1+d*a*u*b*v)*(1+d*a*u*b*v)-(a*v+b*u)*(a*v+b*u)*(1-d*a*u*b*v)*(1-d*a*u*b*v)-(1+d*a*u*b*v)*(1+d*a*u*b*v)*(1-d*a*u*b*v)*(1-d*a*u*b*v)-d*(a*v+b*u)*(a*v+b*u)*(b*v+a*u)*(b*v+a*u)=0:=by
  grind -lia -linarith (splits:=0)
theorem Z02h (A B C D i1 i2 d:F) (hB:B*i1=1) (hD:D*i2=1) (h:C*C*B*B-A*A*D*D-B*B*D*D-d*A*A*C*C=0) :
    C*i2*(C*i2)-A*i1*(A*i1)=1+d*(A*i1)*(A*i1)*(C*i2)*(C*i2):=by
  grind -lia -linarith (splits:=0)
noncomputable def Zcb (P Q:G):G :=
  ⟨(P.x*Q.y+P.y*Q.x)*Zri (1+dF*P.x*Q.x*P.y*Q.y),(P.y*Q.y+P.x*Q.x)*Zri (1-dF*P.x*Q.x*P.y*Q.y),
    ⟨Z02h _ _ _ _ _ _ _ (Z5b (Zut P.on Q.on)) (Z5b (Zuu P.on Q.on)) (Z02i P.x P.y Q.x Q.y dF P.on.eq Q.on.eq)⟩⟩
def Zel:G:=⟨0,1,⟨by decide +kernel⟩⟩
theorem Zu7 (P Q:G):Zcb P Q=Zcb Q P:=by
  have e1:dF*P.x*Q.x*P.y*Q.y=dF*Q.x*P.x*Q.y*P.y:=by generalize dF=d; grind -lia -linarith (splits:=0)
  refine Z00q ?_ ?_
  · show (P.x*Q.y+P.y*Q.x)*_=(Q.x*P.y+Q.y*P.x)*_
    rw [e1]; generalize Zri _=i; grind -lia -linarith (splits:=0)
  · show (P.y*Q.y+P.x*Q.x)*_=(Q.y*P.y+Q.x*P.x)*_
    rw [e1]; generalize Zri _=i; grind -lia -linarith (splits:=0)
theorem Zxo (a b u v x y d:F) (h1:b*b-a*a=1+d*a*a*b*b) (h2:v*v-u*u=1+d*u*u*v*v) (h3:y*y-x*x=1+d*x*x*y*y):((a*v+b*u)*(1-d*a*u*b*v)*y+(b*v+a*u)*(1+d*a*u*b*v)*x)*((1+d*u*x*v*y)*(1-d*u*x*v*y)+d*(u*y+v*x)*(v*y+u*x)*a*b)-((u*y+v*x)*(1-d*u*x*v*y)*b+(v*y+u*x)*(1+d*u*x*v*y)*a)*((1+d*a*u*b*v)*(1-d*a*u*b*v)+d*(a*v+b*u)*(b*v+a*u)*x*y)=0:=by
  grind -lia -linarith (splits:=0)
theorem Zxp (a b u v x y d:F) (h1:b*b-a*a=1+d*a*a*b*b) (h2:v*v-u*u=1+d*u*u*v*v) (h3:y*y-x*x=1+d*x*x*y*y):((b*v+a*u)*(1+d*a*u*b*v)*y+(a*v+b*u)*(1-d*a*u*b*v)*x)*((1+d*u*x*v*y)*(1-d*u*x*v*y)-d*(u*y+v*x)*(v*y+u*x)*a*b)-((v*y+u*x)*(1+d*u*x*v*y)*b+(u*y+v*x)*(1-d*u*x*v*y)*a)*((1+d*a*u*b*v)*(1-d*a*u*b*v)-d*(a*v+b*u)*(b*v+a*u)*x*y)=0:=by
  grind -lia -linarith (splits:=0)
theorem Z06b (A B C D A2 B2 C2 D2 i1 i2 i3 i4 x1 y1 x3 y3 d j k:F) (hB:B*i1=1) (hD:D*i2=1) (hB2:B2*i3=1) (hD2:D2*i4=1)
    (h:(A*D*y3+C*B*x3)*(B2*D2+d*A2*C2*x1*y1)-(A2*D2*y1+C2*B2*x1)*(B*D+d*A*C*x3*y3)=0) :
    (A*i1*y3+C*i2*x3)*(1+d*(A2*i3)*(C2*i4)*x1*y1)=(A2*i3*y1+C2*i4*x1)*(1+d*(A*i1)*(C*i2)*x3*y3):=by
  grind -lia -linarith (splits:=0)
theorem Z06c (A B C D A2 B2 C2 D2 i1 i2 i3 i4 x1 y1 x3 y3 d j k:F) (hB:B*i1=1) (hD:D*i2=1) (hB2:B2*i3=1) (hD2:D2*i4=1)
    (h:(C*B*y3+A*D*x3)*(B2*D2-d*A2*C2*x1*y1)-(C2*B2*y1+A2*D2*x1)*(B*D-d*A*C*x3*y3)=0) :
    (C*i2*y3+A*i1*x3)*(1-d*(A2*i3)*(C2*i4)*x1*y1)=(C2*i4*y1+A2*i3*x1)*(1-d*(A*i1)*(C*i2)*x3*y3):=by
  grind -lia -linarith (splits:=0)
theorem Z0vt (X Y U V x1 y1 x3 y3 d j k:F) (h:(X*y3+Y*x3)*(1+d*U*V*x1*y1)=(U*y1+V*x1)*(1+d*X*Y*x3*y3)) (hj:(1+d*X*x3*Y*y3)*j=1) (hk:(1+d*x1*U*y1*V)*k=1) :
    (X*y3+Y*x3)*j=(x1*V+y1*U)*k:=by grind -lia -linarith (splits:=0)
theorem Z0vu (X Y U V x1 y1 x3 y3 d j k:F) (h:(Y*y3+X*x3)*(1-d*U*V*x1*y1)=(V*y1+U*x1)*(1-d*X*Y*x3*y3)) (hj:(1-d*X*x3*Y*y3)*j=1) (hk:(1-d*x1*U*y1*V)*k=1) :
    (Y*y3+X*x3)*j=(y1*V+x1*U)*k:=by grind -lia -linarith (splits:=0)
theorem Zss (P Q R:G):Zcb (Zcb P Q) R=Zcb P (Zcb Q R):=by
  have b1:=Z5b (Zut P.on Q.on)
  have b2:=Z5b (Zuu P.on Q.on)
  have b3:=Z5b (Zut Q.on R.on)
  have b4:=Z5b (Zuu Q.on R.on)
  refine Z00q ?_ ?_
  · refine Z0vt _ _ _ _ P.x P.y R.x R.y dF _ _ ?_ (Z5b (Zut (Zcb P Q).on R.on)) (Z5b (Zut P.on (Zcb Q R).on))
    exact Z06b _ _ _ _ _ _ _ _ _ _ _ _ P.x P.y R.x R.y dF 0 0 b1 b2 b3 b4 (Zxo P.x P.y Q.x Q.y R.x R.y dF P.on.eq Q.on.eq R.on.eq)
  · refine Z0vu _ _ _ _ P.x P.y R.x R.y dF _ _ ?_ (Z5b (Zuu (Zcb P Q).on R.on)) (Z5b (Zuu P.on (Zcb Q R).on))
    exact Z06c _ _ _ _ _ _ _ _ _ _ _ _ P.x P.y R.x R.y dF 0 0 b1 b2 b3 b4 (Zxp P.x P.y Q.x Q.y R.x R.y dF P.on.eq Q.on.eq R.on.eq)
theorem Znl (P:G):Zcb P Zel=P:=by
  have b1:=Z5b (Zut P.on Zel.on)
  have b2:=Z5b (Zuu P.on Zel.on)
  have z1:Zel.x=0:=rfl
  have z2:Zel.y=1:=rfl
  refine Z00q ?_ ?_
  · show (P.x*Zel.y+P.y*Zel.x)*Zri _=P.x
    generalize Zri (1+dF*P.x*Zel.x*P.y*Zel.y)=i at *
    rw [z1,z2] at *
    generalize dF=d at *
    grind -lia -linarith (splits:=0)
  · show (P.y*Zel.y+P.x*Zel.x)*Zri _=P.y
    generalize Zri (1-dF*P.x*Zel.x*P.y*Zel.y)=i at *
    rw [z1,z2] at *
    generalize dF=d at *
    grind -lia -linarith (splits:=0)
theorem Zxf (P:G):Zcb Zel P=P:=by rw [Zu7,Znl]
noncomputable def Zjl:Nat→G→G
  | 0,_=>Zel
  | n+1,P=>Zcb (Zjl n P) P
theorem Zio (m n:Nat) (P:G):Zjl (m+n) P=Zcb (Zjl m P) (Zjl n P):=by
  induction n with
  | zero=>exact (Znl _).symm
  | succ n ih =>
    show Zcb (Zjl (m+n) P) P=Zcb (Zjl m P) (Zcb (Zjl n P) P)
    rw [ih,Zss]
theorem Z9f (m n:Nat) (P:G):Zjl (m*n) P=Zjl m (Zjl n P):=by
  induction m with
  | zero=>rw [Nat.zero_mul]; rfl
  | succ m ih=>rw [Nat.succ_mul,Zio,ih]; rfl
end Go.Proofs.YtiflckckekjbnaaGreatDoor
