/- Texts of a proof, one behind the other: L2 L3 L4 L5 L6 L7. -/
import Derived.Test.YtiflckckekjbnaaGreatDoorMS3
namespace Go.Proofs.YtiflckckekjbnaaGreatDoor
open Go Go.Sx Go.RowKit
set_option linter.all false
set_option maxHeartbeats 400000
set_option maxRecDepth 100000
def Z1z (z3:Int) (k44:(List (Int))→(List Int)→(List Int)→(Int)→Option (Zs)) (l39:List (Int)) (a41:List Int) (a42:List Int) (i43:Int):Option (Zs) :=
 br ((decide ((l39.length:Int)>0))) (
 chk (Zks i43 128 128) <|
 bnd (wr a42 (i43).toNat (l39.take (128-(i43).toNat))) fun l50 =>
 chk (Zks ((Nat.min l39.length (128-(i43).toNat):Nat):Int) (l39.length:Int) l39.length) <|
 bnd (IntKind.wrap .i64 (i43+((Nat.min l39.length (128-(i43).toNat):Nat):Int))) fun z54 =>
 br ((z54==128)) (
 opt (Z92 a41 l50) fun y58 =>
 k44 ((l39.drop (((Nat.min l39.length (128-(i43).toNat):Nat):Int)).toNat).take (((l39.length:Int)).toNat-(((Nat.min l39.length (128-(i43).toNat):Nat):Int)).toNat)) y58 l50 0
 ) (
 k44 ((l39.drop (((Nat.min l39.length (128-(i43).toNat):Nat):Int)).toNat).take (((l39.length:Int)).toNat-(((Nat.min l39.length (128-(i43).toNat):Nat):Int)).toNat)) a41 l50 z54
 )
 ) (
 some (⟨a41,a42,i43,z3⟩:Zs)
 )
def Z0r (z3:Int):Nat→(List (Int))→(List Int)→(List Int)→(Int)→Option (Zs)
  | 0,_,_,_,_=>none
  | n+1,l39,a41,a42,i43=>Z1z z3 (Z0r z3 n) l39 a41 a42 i43
def Z18 (p0:Zs) (p1:List Int):Option (Zs) :=
 bnd (IntKind.wrap .u64 (p1.length:Int)) fun z2 =>
 bnd (IntKind.wrap .u64 (p0.glength+z2)) fun z3 =>
 Z0r z3 big p1 p0.gstate p0.gheld p0.ghave
theorem Z4k {W:World} {r:Zs} {p0:Zs} {p1:List Int} {v1:Value} {b:Nat} {T:TypeId} (h:Z18 p0 p1=some r) (h0:Sat W [b] (ck b T [.ints .u64 8 (p0.gstate),.ints .u8 128 (p0.gheld),.one (.int .i64 (p0.ghave)),.one (.int .u64 (p0.glength))] :: []) W) (hG:Globs W) (hS : ∀ g,g<ng→g ∉ [b]) (A1:Z4y (El.int .u8) W v1 p1∧Z8f v1 p1 [b]) :
    Calls Tryz.prog 97 [.pointer (some ⟨b,0,none⟩),v1].toArray W (Zc0 W [b] (fun v Ms=>v = .tuple #[]∧Ms = [.one (ck b T [.ints .u64 8 (r.gstate),.ints .u8 128 (r.gheld),.one (.int .i64 (r.ghave)),.one (.int .u64 (r.glength))])])):=by
 unfold Z18 at h
 refine Z02 mo ok97 rfl h0 ?_
 refine Z0<|bH h fun z2 ez2 h=>bH h fun z3 ez3 h=>Z2<|Z7 rfl<|Z6 _ (Z4h rfl)<|Z6 _ (Z4g rfl)<|Z6 _ (Z1a rfl .here rfl)<|Z7 rfl<|Z6 _ (Z25 rfl (Shp.rd A1.1))<|Z6 _ (iz ez2 (Z3k rfl))<|Z6 _ (iz ez3 (Z9 rfl rfl rfl))<|Z6 _ (Z4h rfl)<|Z6 _ (Z4g rfl)<|Zd (Zlf (q:=[.ints .u64 8 (p0.gstate),.ints .u8 128 (p0.gheld),.one (.int .i64 (p0.ghave)),.one (.int .u64 (z3))]) rfl rfl rfl rfl .here<|Z1<|Za<|Zo (fun n45 t m=>∃ (l39:List (Int)) (a41:List Int) (a42:List Int) (i43:Int) (v38:Value),Z0r z3 n45 l39 a41 a42 i43=some r∧(Z4y (El.int .u8) W v38 l39∧Z8f v38 l39 [b])∧Fit [(0,.pointer (some ⟨b,0,none⟩)),(1,v38)] (ck b T [.ints .u64 8 (a41),.ints .u8 128 (a42),.one (.int .i64 (i43)),.one (.int .u64 (z3))] :: []) t m) big ?_ ?_)
 ·exact ⟨p1,p0.gstate,p0.gheld,p0.ghave,v1,h,A1,⟨⟨rfl,rfl,trivial⟩,(.one .here .nil)⟩⟩
 ·rintro n45 t m ⟨l39,a41,a42,i43,v38,h,A40,hF⟩
  refine Zg hF ?_
  clear hF
  rcases n45 with _ | n45
  · exact Z05 h
  have h:Z1z z3 (Z0r z3 n45) l39 a41 a42 i43=some r:=h
  unfold Z1z at h
  obtain ⟨k44,qk44⟩ : ∃ k,k=Z0r z3 n45:=⟨_,rfl⟩
  try rw [← qk44] at h
  refine Z0<|Z0<|Z2<|Z7 rfl<|Z6 _ (Z25 rfl (Shp.rd A40.1))<|Z6 _ (Z9 rfl rfl rfl)<|Z1<|Z07 h rfl (fun h=>?_) (fun h=>?_)
  ·refine Zk<|Za<|Z0<|cH h fun c49 h=>bH h fun l50 el50 h=>Zu<|Z8 _ (Z0u rfl)<|Z8 _ (Z4h rfl)<|Z8 _ (Z4g rfl)<|Z8 _ (Z0u rfl)<|Z8 _ (Z4h rfl)<|Z8 _ (Z4g rfl)<|Z8 _ (Z0u rfl)<|Zq _ (Z1a rfl .here rfl)<|Z8 _ (Z7c rfl (.yes rfl) .no .no (by simp) (cut4 c49))<|Z1b rfl (Zh0 (q:=[.ints .u64 8 (a41),.ints .u8 128 (l50),.one (.int .i64 (i43)),.one (.int .u64 (z3))]) (lo:=(i43).toNat) (hi:=128) (mz:=128) (base:=8) el50 rfl rfl (Z16 A40.1 A40.2) rfl (cutn c49) rfl .here<|Z8 _ (Z0u rfl)<|Z03<|Z0<|cH h fun c52 h=>Z2<|Z7 rfl<|Z7 rfl<|Z6 _ (Zrx (lz:=((Nat.min l39.length (128-(i43).toNat):Nat):Int)) (hz:=(l39.length:Int)) rfl (Shp.rd A40.1) (.yes rfl) .no c52)<|Z7 rfl<|Z1<|Z0<|bH h fun z54 ez54 h=>Z2<|Z7 rfl<|Z6 _ (Z4h rfl)<|Z6 _ (Z4g rfl)<|Z6 _ (Z1a rfl .here rfl)<|Z7 rfl<|Z6 _ (iz ez54 (Z9 rfl rfl rfl))<|Z6 _ (Z4h rfl)<|Z6 _ (Z4g rfl)<|Zd (Zlf (q:=[.ints .u64 8 (a41),.ints .u8 128 (l50),.one (.int .i64 (z54)),.one (.int .u64 (z3))]) rfl rfl rfl rfl .here<|Z1<|Z0<|Z2<|Z7 rfl<|Z6 _ (Z4h rfl)<|Z6 _ (Z4g rfl)<|Z6 _ (Z1a rfl .here rfl)<|Z6 _ (Z9 rfl rfl rfl)<|Z1<|Z07 h rfl (fun h=>?_) (fun h=>?_)))
   ·refine Z0<|oH h fun y58 ey58 h=>Zu<|Z8 _ (Z0u rfl)<|Z8 _ (Z0u rfl)<|Z8 _ (Z4h rfl)<|Z8 _ (Z4g rfl)<|Z8 _ (Z0u rfl)<|Z8 _ (Z4h rfl)<|Z8 _ (Z4g rfl)<|Zq _ (Z00 (p:=[.ints .u64 8 (a41)]) rfl .here rfl)<|Zq _ (Z00 (p:=[.ints .u8 128 (l50)]) rfl .here rfl)<|Z8 _ (Z08 rfl (fun w hw=>Zhp ey58 (hG.at hw hS)))<|Z8 _ (Z4h rfl)<|Z8 _ (Z4g rfl)<|Z1b rfl (Zp (q:=[.ints .u64 8 (y58),.ints .u8 128 (l50),.one (.int .i64 (z54)),.one (.int .u64 (z3))]) rfl rfl rfl rfl rfl .here<|Z03<|Z2<|Z7 rfl<|Z6 _ (Z4h rfl)<|Z6 _ (Z4g rfl)<|Zd (Zlf (q:=[.ints .u64 8 (y58),.ints .u8 128 (l50),.one (.int .i64 (0)),.one (.int .u64 (z3))]) rfl rfl rfl rfl .here<|Z1 ?_))
    rw [qk44] at h
    exact ⟨n45,Nat.lt_succ_self _,((l39.drop (((Nat.min l39.length (128-(i43).toNat):Nat):Int)).toNat).take (((l39.length:Int)).toNat-(((Nat.min l39.length (128-(i43).toNat):Nat):Int)).toNat)),y58,l50,0,(Zdb 1 v38 (((Nat.min l39.length (128-(i43).toNat):Nat):Int)).toNat ((l39.length:Int)).toNat),h,(Z00h A40 (lz:=((Nat.min l39.length (128-(i43).toNat):Nat):Int)) (hz:=(l39.length:Int)) c52),⟨⟨rfl,rfl,trivial⟩,(.one .here .nil)⟩⟩
   ·refine Zk ?_
    rw [qk44] at h
    exact ⟨n45,Nat.lt_succ_self _,((l39.drop (((Nat.min l39.length (128-(i43).toNat):Nat):Int)).toNat).take (((l39.length:Int)).toNat-(((Nat.min l39.length (128-(i43).toNat):Nat):Int)).toNat)),a41,l50,z54,(Zdb 1 v38 (((Nat.min l39.length (128-(i43).toNat):Nat):Int)).toNat ((l39.length:Int)).toNat),h,(Z00h A40 (lz:=((Nat.min l39.length (128-(i43).toNat):Nat):Int)) (hz:=(l39.length:Int)) c52),⟨⟨rfl,rfl,trivial⟩,(.one .here .nil)⟩⟩
  ·refine Zv _ rfl ?_
   revert h; refine Zw fun h=>?_
   subst h
   exact ⟨_,_,.nil,(.one .here .nil),⟨_,rfl,⟨rfl,rfl⟩⟩⟩
def Z57 (k65:(List (Int))→OL) (k102:(Int)→(List (Int))→(Int)→OL) (i96:Int) (l99:List (Int)) (i101:Int):OL :=
 br ((decide (i101≥0))) (
 bnd (IntKind.wrap .u8 i96) fun z107 =>
 chk (inB i101 l99.length) <|
 bnd (Zcp 0 l99 (i101).toNat z107) fun l109 =>
 bnd (Zn .u64 i96 8) fun z113 =>
 bnd (IntKind.wrap .i64 (i101-1)) fun z115 =>
 k102 z113 l109 z115
 ) (
 k65 l99
 )
def Z2k (k65:(List (Int))→OL):Nat→(Int)→(List (Int))→(Int)→OL
  | 0,_,_,_=>none
  | n+1,i96,l99,i101=>Z57 k65 (Z2k k65 n) i96 l99 i101
def Z2n (p0:Int):OL :=
 opt (Z2o) fun y3 =>
 bnd (IntKind.wrap .i64 (Int.tdiv y3 8)) fun z4 =>
 chk (mkB 1 z4 z4) <|
 bnd (IntKind.wrap .i64 (((List.replicate (z4).toNat 0:List (Int)).length:Int)-1)) fun z10 =>
 jn (fun (l63:List (Int))=>some l63) fun k65=>Z2k k65 big p0 (List.replicate (z4).toNat 0:List (Int)) z10
theorem Z48 {W:World} {r:(List Int)} {p0:Int} (h:Z2n p0=some r)  :
    Calls Tryz.prog 118 [.int .u64 (p0)].toArray W (Zc0 W [] (fun v Ms=>∃ (u0:Value) (M0:List Zf),v=u0∧Ms = [.all M0]∧Z0b (El.int .u8) u0 M0 r)):=by
 unfold Z2n at h
 refine Z02 mo Z0y2 rfl (Zgo _) ?_
 refine Z0<|Z2<|Z7 rfl<|Z1<|Z0<|oH h fun y3 ey3 h=>bH h fun z4 ez4 h=>cH h fun c5 h=>Z2<|Z6 _ (Z0g rfl (Z3s ey3))<|Z6 _ (iz ez4 (Z98 rfl rfl (by decide)))<|Zd (Zfj (E:=(El.int .u8)) rfl rfl rfl c5 fun v6 ms7 O8=>Z7 rfl<|Z1<|Z0<|Z0<|bH h fun z10 ez10 h=>Z2<|Z7 rfl<|Z6 _ (Z25 rfl (Shp.own O8))<|Z6 _ (iz ez10 (Z9 rfl rfl rfl))<|Z7 rfl<|Z1<|jH h fun k65 qk65 h=>Zh (G:=fun t m=>∃ (l63:List (Int)) (v61:Value) (ms62:List Zf),k65 l63=some r∧Z0b (El.int .u8) v61 ms62 l63∧Fit [(3,v61)] (ms62 ++ []) t m) ?_ ?_)
 ·refine Za<|Zo (fun n103 t m=>∃ (i96:Int) (l99:List (Int)) (i101:Int) (v97:Value) (ms98:List Zf),Z2k k65 n103 i96 l99 i101=some r∧Z0b (El.int .u8) v97 ms98 l99∧Fit [(0,.int .u64 (i96)),(3,v97),(4,.int .i64 (i101))] (ms98 ++ []) t m) big ?_ ?_
  ·exact ⟨p0,(List.replicate (z4).toNat 0:List (Int)),z10,v6,ms7,h,O8,⟨⟨rfl,rfl,rfl,trivial⟩,(.all .here .nil)⟩⟩
  ·rintro n103 t m ⟨i96,l99,i101,v97,ms98,h,O100,hF⟩
   refine Zg hF ?_
   clear hF
   rcases n103 with _ | n103
   · exact Z05 h
   have h:Z57 k65 (Z2k k65 n103) i96 l99 i101=some r:=h
   unfold Z57 at h
   obtain ⟨k102,qk102⟩ : ∃ k,k=Z2k k65 n103:=⟨_,rfl⟩
   try rw [← qk102] at h
   refine Z0<|Z0<|Z2<|Z7 rfl<|Z6 _ (Z9 rfl rfl rfl)<|Z1<|Z07 h rfl (fun h=>?_) (fun h=>?_)
   ·refine Zk<|Z0<|Za<|Z0<|bH h fun z107 ez107 h=>cH h fun c108 h=>bH h fun l109 el109 h=>Z2<|Z7 rfl<|Z7 rfl<|Z7 rfl<|Z6 _ (iz ez107 (Z3k rfl))<|Z6 _ (Z32 rfl rfl (Shp.own O100) c108)<|Zd (Zg1 (E:=(El.int .u8)) el109 O100 .here rfl rfl rfl (Z01 c108) fun ms110 O111=>Z1<|bH h fun z113 ez113 h=>Z2<|Z7 rfl<|Z6 _ (iz ez113 (Z4i rfl rfl (by decide)))<|Z7 rfl<|Z1<|bH h fun z115 ez115 h=>Z2<|Z7 rfl<|Z6 _ (iz ez115 (Z9 rfl rfl rfl))<|Z7 rfl<|Z1 ?_)
    rw [qk102] at h
    exact ⟨n103,Nat.lt_succ_self _,z113,l109,z115,v97,ms110,h,O111,⟨⟨rfl,rfl,rfl,trivial⟩,(.all .here .nil)⟩⟩
   ·exact Zv _ rfl<|⟨l99,v97,ms98,h,O100,⟨⟨rfl,trivial⟩,(.all .here .nil)⟩⟩
 ·rintro t m ⟨l63,v61,ms62,h,O64,hF⟩
  refine Zg hF ?_
  clear hF
  subst qk65
  refine Z0<|Z2<|Z7 rfl<|Z7 rfl<|Z1<|Zm ?_
  revert h; refine Zw fun h=>?_
  subst h
  exact ⟨_,_,(.cons (.tmp rfl) .nil),(.all .here .nil),⟨_,rfl,⟨v61,ms62,rfl,rfl,O64⟩⟩⟩
def Z4x (p0:Zs):Option (Zs×Zs) :=
 some (p0,p0)
theorem Zc8 {W:World} {r:Zs×Zs} {p0:Zs} {b:Nat} {T:TypeId} (h:Z4x p0=some r) (h0:Sat W [b] (ck b T [.ints .u64 8 (p0.gstate),.ints .u8 128 (p0.gheld),.one (.int .i64 (p0.ghave)),.one (.int .u64 (p0.glength))] :: []) W) :
    Calls Tryz.prog 163 [.pointer (some ⟨b,0,none⟩)].toArray W (Zc0 W [b] (fun v Ms=>∃ (b0:Nat) (T0:TypeId),v = .pointer (some ⟨b0,0,none⟩)∧Ms = [.one (ck b0 T0 [.ints .u64 8 (r.1.gstate),.ints .u8 128 (r.1.gheld),.one (.int .i64 (r.1.ghave)),.one (.int .u64 (r.1.glength))]),.one (ck b T [.ints .u64 8 (r.2.gstate),.ints .u8 128 (r.2.gheld),.one (.int .i64 (r.2.ghave)),.one (.int .u64 (r.2.glength))])])):=by
 unfold Z4x at h
 refine Z02 mo Z0z1 rfl h0 ?_
 refine Z0<|Z2<|Z7 rfl<|Z1<|Z0<|Z2<|Z7 rfl<|Z6 _ (Z4h rfl)<|Z6 _ (Z00 (p:=[.ints .u64 8 (p0.gstate),.ints .u8 128 (p0.gheld),.one (.int .i64 (p0.ghave)),.one (.int .u64 (p0.glength))]) rfl .here rfl)<|Zd (Zr fun b3 hb3=>Zd (Zp (q:=[.ints .u64 8 (p0.gstate),.ints .u8 128 (p0.gheld),.one (.int .i64 (p0.ghave)),.one (.int .u64 (p0.glength))]) rfl rfl rfl rfl rfl .here<|Z1<|Z0<|Z2<|Z7 rfl<|Z1<|Zm ?_))
 revert h; refine Zw fun h=>?_
 subst h
 exact ⟨_,_,(.cons (.tmp rfl) .nil),(.one .here (.one .here .nil)),⟨_,rfl,⟨b3,194,rfl,rfl⟩⟩⟩
def Z9t (p0:Int):OL :=
 bnd (IntKind.wrap .u64 (p0+17)) fun z3 =>
 bnd (Int.tmod z3 128) fun z4 =>
 bnd (IntKind.wrap .i64 z4) fun z5 =>
 bnd (IntKind.wrap .i64 (128-z5)) fun z6 =>
 bnd (Int.tmod z6 128) fun z7 =>
 bnd (IntKind.wrap .i64 (17+z7)) fun z9 =>
 chk (mkB 1 0 z9) <|
 chk (decide (((List.replicate 0 0:List (Int)).length+([128]:List (Int)).length)*1≤140737488355328)) <|
 bnd ((List.replicate 0 0:List (Int))++([128]:List (Int))) fun l19 =>
 chk (decide (0≤z7)) <|
 chk (decide ((l19.length+(z7).toNat)*1≤140737488355328)) <|
 bnd (l19++List.replicate (z7).toNat 0) fun l26 =>
 bnd (Zn .u64 p0 61) fun z31 =>
 opt (Z2n z31) fun y32 =>
 chk (decide ((l26.length+y32.length)*1≤140737488355328)) <|
 bnd (l26++y32) fun l39 =>
 bnd (Zj .u64 p0 3) fun z44 =>
 opt (Z2n z44) fun y45 =>
 chk (decide ((l39.length+y45.length)*1≤140737488355328)) <|
 bnd (l39++y45) fun l52 =>
 some l52
theorem Zkg {W:World} {r:(List Int)} {p0:Int} (h:Z9t p0=some r)  :
    Calls Tryz.prog 164 [.int .u64 (p0)].toArray W (Zc0 W [] (fun v Ms=>∃ (u0:Value) (M0:List Zf),v=u0∧Ms = [.all M0]∧Z0b (El.int .u8) u0 M0 r)):=by
 unfold Z9t at h
 refine Z02 mo Z0z2 rfl (Zgo _) ?_
 refine Z0<|Z2<|Z7 rfl<|Z1<|Z0<|bH h fun z3 ez3 h=>bH h fun z4 ez4 h=>bH h fun z5 ez5 h=>bH h fun z6 ez6 h=>bH h fun z7 ez7 h=>Z2<|Z7 rfl<|Z6 _ (iz ez3 (Z9 rfl rfl rfl))<|Z6 _ (iz ez4 (Zah rfl rfl (by decide)))<|Z6 _ (iz ez5 (Z3k rfl))<|Z6 _ (iz ez6 (Z9 rfl rfl rfl))<|Z6 _ (iz ez7 (Zah rfl rfl (by decide)))<|Z7 rfl<|Z1<|Z0<|bH h fun z9 ez9 h=>cH h fun c10 h=>Z2<|Z7 rfl<|Z6 _ (iz ez9 (Z9 rfl rfl rfl))<|Zd (Zfj (E:=(El.int .u8)) rfl rfl rfl c10 fun v11 ms12 O13=>Z7 rfl<|Z1<|Z0<|cH h fun c18 h=>bH h fun l19 el19 h=>Z2<|Z7 rfl<|Zd (Z5h (E:=(El.int .u8)) (xs:=[128]) (.one rfl rfl rfl BdR.nil) (.cons (p:=[.one (.int .u8 (128))]) rfl .nil) rfl fun v15 ms16 O17=>Zd (Z3f (E:=(El.int .u8)) el19 rfl O13 (.app .here) rfl (Z0a O17 .here) c18 fun v20 ms21 O22=>Z7 rfl<|Z1<|Z0<|cH h fun c24 h=>cH h fun c25 h=>bH h fun l26 el26 h=>Z2<|Z7 rfl<|Z7 rfl<|Zd (Z01w (E:=(El.int .u8)) el26 rfl O22 .here rfl c24 rfl c25 fun v27 ms28 O29=>Z7 rfl<|Z1<|Z0<|bH h fun z31 ez31 h=>oH h fun y32 ey32 h=>cH h fun c38 h=>bH h fun l39 el39 h=>Z2<|Z7 rfl<|Z7 rfl<|Z6 _ (iz ez31 (Z4i rfl rfl (by decide)))<|Zd (Zz rfl (fun w hw=>Z48  ey32 ) fun v33 Msv33 R34=>?_)))))
 obtain ⟨_,ms36,rfl,rfl,O37⟩:=R34
 refine Zd (Z3f (E:=(El.int .u8)) el39 rfl O29 (.app .here) rfl (Z0a O37 .here) c38 fun v40 ms41 O42=>Z7 rfl<|Z1<|Z0<|bH h fun z44 ez44 h=>oH h fun y45 ey45 h=>cH h fun c51 h=>bH h fun l52 el52 h=>Z2<|Z7 rfl<|Z7 rfl<|Z6 _ (iz ez44 (Zid rfl rfl (by decide)))<|Zd (Zz rfl (fun w hw=>Z48  ey45 ) fun v46 Msv46 R47=>?_))
 obtain ⟨_,ms49,rfl,rfl,O50⟩:=R47
 refine Zd (Z3f (E:=(El.int .u8)) el52 rfl O42 (.app .here) rfl (Z0a O50 .here) c51 fun v53 ms54 O55=>Z7 rfl<|Z1<|Zm ?_)
 revert h; refine Zw fun h=>?_
 subst h
 exact ⟨_,_,(.cons (.tmp rfl) .nil),(.all .here .nil),⟨_,rfl,⟨v53,ms54,rfl,rfl,O55⟩⟩⟩
def Z6c (y16:Zs) (k75:(List Int)→Option ((List Int)×Zs)) (k109:(Int)→(List Int)→Option ((List Int)×Zs)) (i107:Int) (a108:List Int):Option ((List Int)×Zs) :=
 br ((decide (i107<8))) (
 chk (inB i107 8) <|
 bnd (y16.gstate.getD (i107).toNat 0) fun z115 =>
 bnd (IntKind.wrap .i64 (8*i107)) fun z117 =>
 chk (Zks z117 64 64) <|
 opt (Z2n z115) fun y119 =>
 bnd (wr a108 (z117).toNat (y119.take (64-(z117).toNat))) fun l125 =>
 bnd (IntKind.wrap .i64 (i107+1)) fun z127 =>
 k109 z127 l125
 ) (
 k75 a108
 )
def Z2h (y16:Zs) (k75:(List Int)→Option ((List Int)×Zs)):Nat→(Int)→(List Int)→Option ((List Int)×Zs)
  | 0,_,_=>none
  | n+1,i107,a108=>Z6c y16 k75 (Z2h y16 k75 n) i107 a108
def Z2q (p0:Zs):Option ((List Int)×Zs) :=
 opt (Z4x p0) fun y4 =>
 opt (Z9t y4.2.glength) fun y10 =>
 opt (Z18 y4.1 y10) fun y16 =>
 jn (fun (a74:List Int)=>some (a74,y4.2)) fun k75=>Z2h y16 k75 big 0 (List.replicate 64 0)
theorem Z7w {W:World} {r:(List Int)×Zs} {p0:Zs} {b:Nat} {T:TypeId} (h:Z2q p0=some r) (h0:Sat W [b] (ck b T [.ints .u64 8 (p0.gstate),.ints .u8 128 (p0.gheld),.one (.int .i64 (p0.ghave)),.one (.int .u64 (p0.glength))] :: []) W) (hG:Globs W) (hS : ∀ g,g<ng→g ∉ [b]) :
    Calls Tryz.prog 99 [.pointer (some ⟨b,0,none⟩)].toArray W (Zc0 W [b] (fun v Ms=>v=agg [.ints .u8 64 (r.1)]∧Ms = [.one (ck b T [.ints .u64 8 (r.2.gstate),.ints .u8 128 (r.2.gheld),.one (.int .i64 (r.2.ghave)),.one (.int .u64 (r.2.glength))])])):=by
 unfold Z2q at h
 refine Z02 mo ok99 rfl h0 ?_
 refine Z0<|Z2<|Zd (Zr fun b2 hb2=>Z1<|Z0<|oH h fun y4 ey4 h=>Z2<|Z7 rfl<|Zd (Z2i (mS:=[_]) rfl (Z6p.perm (.there .here)) (fun w hw=>Zc8  ey4 (Zaj hw (mS:=[_]) (Z6p.perm (.there .here))) ) fun v5 Msv5 R6=>?_))
 obtain ⟨b7,T8,rfl,rfl⟩:=R6
 refine Z7 rfl<|Z1<|Z0<|oH h fun y10 ey10 h=>oH h fun y16 ey16 h=>Z2<|Z7 rfl<|Z7 rfl<|Z6 _ (Z4h rfl)<|Z6 _ (Z4g rfl)<|Z6 _ (Z1a rfl (.there .here) rfl)<|Zd (Zz rfl (fun w hw=>Zkg  ey10 ) fun v11 Msv11 R12=>?_)
 obtain ⟨_,ms14,rfl,rfl,O15⟩:=R12
 refine Zd (Z2i (mS:=[_]) rfl (Z6p.perm (.app .here)) (fun w hw=>Z4k  ey16 (Zaj hw (mS:=[_]) (Z6p.perm (.app .here))) (hG.at hw hS) (hG.ap hS (.app .here) hw) ⟨(Z0a O15 .here) w hw,(Zd7 (E:=(El.int .u8)) O15 .here .here hw)⟩) fun v17 Msv17 R18=>?_)
 obtain ⟨rfl,rfl⟩:=R18
 refine Z1<|Z0<|Z2<|Zd (Zr fun b20 hb20=>Z1<|Z0<|Z0<|Z2<|Z7 rfl<|Z6 _ (Z4h rfl)<|Z6 _ (Z4g rfl)<|Z6 _ (Z00 (p:=[.ints .u64 8 (y16.gstate)]) rfl (.there .here) rfl)<|Z7 rfl<|Z1<|jH h fun k75 qk75 h=>Zh (G:=fun t m=>∃ (a74:List Int),k75 a74=some r∧Fit [(2,.pointer (some ⟨b2,0,none⟩)),(4,.pointer (some ⟨b20,0,none⟩))] (ck b20 94 [.ints .u8 64 (a74)]::(ck b7 T8 [.ints .u64 8 (y16.gstate),.ints .u8 128 (y16.gheld),.one (.int .i64 (y16.ghave)),.one (.int .u64 (y16.glength))]::(ck b T [.ints .u64 8 (y4.2.gstate),.ints .u8 128 (y4.2.gheld),.one (.int .i64 (y4.2.ghave)),.one (.int .u64 (y4.2.glength))]::(ck b2 94 [.ints .u8 64 ((List.replicate 64 0))] :: [])))) t m) ?_ ?_)
 ·refine Za<|Zo (fun n110 t m=>∃ (i107:Int) (a108:List Int),Z2h y16 k75 n110 i107 a108=some r∧Fit [(2,.pointer (some ⟨b2,0,none⟩)),(4,.pointer (some ⟨b20,0,none⟩)),(19,agg [.ints .u64 8 (y16.gstate)]),(20,.int .i64 (i107))] (ck b20 94 [.ints .u8 64 (a108)]::(ck b7 T8 [.ints .u64 8 (y16.gstate),.ints .u8 128 (y16.gheld),.one (.int .i64 (y16.ghave)),.one (.int .u64 (y16.glength))]::(ck b T [.ints .u64 8 (y4.2.gstate),.ints .u8 128 (y4.2.gheld),.one (.int .i64 (y4.2.ghave)),.one (.int .u64 (y4.2.glength))]::(ck b2 94 [.ints .u8 64 ((List.replicate 64 0))] :: [])))) t m) big ?_ ?_
  ·exact ⟨0,(List.replicate 64 0),h,⟨⟨rfl,rfl,rfl,rfl,trivial⟩,(.one .here (.one .here (.one (.app .here) (.one (.app .here) .nil))))⟩⟩
  ·rintro n110 t m ⟨i107,a108,h,hF⟩
   refine Zg hF ?_
   clear hF
   rcases n110 with _ | n110
   · exact Z05 h
   have h:Z6c y16 k75 (Z2h y16 k75 n110) i107 a108=some r:=h
   unfold Z6c at h
   obtain ⟨k109,qk109⟩ : ∃ k,k=Z2h y16 k75 n110:=⟨_,rfl⟩
   try rw [← qk109] at h
   refine Z0<|Z2<|Z6 _ (Z9 rfl rfl rfl)<|Z1<|Z0<|Z07 h rfl (fun h=>?_) (fun h=>?_)
   ·refine Zk<|Z0<|Za<|Z0<|cH h fun c114 h=>bH h fun z115 ez115 h=>Z2<|Z7 rfl<|Z6 _ (iz ez115 (Zi0 (len:=8) rfl rfl (Z09 c114)))<|Z7 rfl<|Z7 rfl<|Z1<|bH h fun z117 ez117 h=>cH h fun c118 h=>oH h fun y119 ey119 h=>bH h fun l125 el125 h=>Zu<|Z8 _ (Z0u rfl)<|Z8 _ (iz ez117 (Z9 rfl rfl rfl))<|Z8 _ (Z7c rfl (.yes rfl) .no .no (by simp) (cut4 c118))<|Z8 _ (Z0u rfl)<|Z5d (Zz rfl (fun w hw=>Z48  ey119 ) fun v120 Msv120 R121=>?_)
    obtain ⟨_,ms123,rfl,rfl,O124⟩:=R121
    refine ⟨(by repeat (first | exact Sup.refl _ | apply Sup.cons | apply Sup.app)),Z1b rfl (Zh0 (q:=[.ints .u8 64 (l125)]) (lo:=(z117).toNat) (hi:=64) (mz:=64) (base:=0) el125 rfl rfl (Z0a O124 .here) rfl (cutn c118) rfl (.app .here) (Z03 (bH h fun z127 ez127 h=>Z2 (Z6 _ (iz ez127 (Z9 rfl rfl rfl)) (Z7 rfl (Z1 ?_))))))⟩
    rw [qk109] at h
    exact ⟨n110,Nat.lt_succ_self _,z127,l125,h,⟨⟨rfl,rfl,rfl,rfl,trivial⟩,(.one (.app .here) (.one (.app .here) (.one (.app .here) (.one (.app .here) .nil))))⟩⟩
   ·exact Zv _ rfl<|⟨a108,h,⟨⟨rfl,rfl,trivial⟩,(.one .here (.one .here (.one .here (.one .here .nil))))⟩⟩
 ·rintro t m ⟨a74,h,hF⟩
  refine Zg hF ?_
  clear hF
  subst qk75
  refine Z0<|Z2<|Z6 _ (Z00 (p:=[.ints .u8 64 (a74)]) rfl .here rfl)<|Zd (Zp (q:=[.ints .u8 64 (a74)]) rfl rfl rfl rfl rfl (.there (.there (.there .here)))<|Z1<|Zm ?_)
  revert h; refine Zw fun h=>?_
  subst h
  exact ⟨_,_,(.cons (.agg rfl (.there (.there (.there .here))) rfl) .nil),(.one (.there (.there .here)) .nil),⟨_,rfl,⟨rfl,rfl⟩⟩⟩
def Zc9 (p0:List Int):OL :=
 opt (Z9s ) fun y4 =>
 opt (Z18 y4 p0) fun y10 =>
 opt (Z2q y10) fun y14 =>
 some y14.1
theorem Zkh {W:World} {r:(List Int)} {p0:List Int} {v0:Value} (h:Zc9 p0=some r) (hG:Globs W) (A0:Z4y (El.int .u8) W v0 p0) :
    Calls Tryz.prog 88 [v0].toArray W (Z2s W (agg [.ints .u8 64 (r)])):=by
 unfold Zc9 at h
 refine Zc mo ok88 rfl ?_
 refine Z0<|Z2<|Zd (Zr fun b2 hb2=>Z1<|Z0<|oH h fun y4 ey4 h=>Z2<|Zd (Zz rfl (fun w hw=>Zee  ey4 (hG.at hw (by simp))) fun v5 Msv5 R6=>?_))
 obtain ⟨b7,T8,rfl,rfl⟩:=R6
 refine Z7 rfl<|Z1<|Z0<|oH h fun y10 ey10 h=>Z2<|Z7 rfl<|Z7 rfl<|Zd (Z2i (mS:=[_]) rfl (Z6p.perm .here) (fun w hw=>Z4k  ey10 (Zaj hw (mS:=[_]) (Z6p.perm .here)) (hG.at hw (by simp)) (hG.ap (by simp) .here hw) ⟨(Z16 A0 Z1f) w hw,(Znn (E:=(El.int .u8)) A0 .here hw)⟩) fun v11 Msv11 R12=>?_)
 obtain ⟨rfl,rfl⟩:=R12
 refine Z1<|Z0<|oH h fun y14 ey14 h=>Z2<|Z7 rfl<|Zd (Z2i (mS:=[_]) rfl (Z6p.perm .here) (fun w hw=>Z7w  ey14 (Zaj hw (mS:=[_]) (Z6p.perm .here)) (hG.at hw (by simp)) (hG.ap (by simp) .here hw)) fun v15 Msv15 R16=>?_)
 obtain ⟨rfl,rfl⟩:=R16
 refine Zd (Zp (q:=[.ints .u8 64 (y14.1)]) rfl rfl rfl rfl rfl (.there .here)<|Z1<|Zm ?_)
 revert h; refine Zw fun h=>?_
 subst h
 exact ⟨_,(.cons (.agg rfl (.there .here) rfl) .nil),rfl⟩
def Z91 (p0:List Int):OL :=
 bnd (p0.getD 0 0) fun z5 =>
 bnd (Z4 .andNot .u8 z5 7) fun z6 =>
 bnd (Z21 p0 0 z6) fun l7 =>
 bnd (l7.getD 31 0) fun z9 =>
 bnd (Z4 .and .u8 z9 127) fun z10 =>
 bnd (Z4 .or .u8 z10 64) fun z11 =>
 bnd (Z21 l7 31 z11) fun l12 =>
 some l12
theorem Zhn {W:World} {r:(List Int)} {p0:List Int} (h:Z91 p0=some r)  :
    Calls Tryz.prog 89 [agg [.ints .u8 32 (p0)]].toArray W (Z2s W (agg [.ints .u8 32 (r)])):=by
 unfold Z91 at h
 refine Zc mo ok89 rfl ?_
 refine Z0<|Z2<|Zd (Z0e (s:=[.ints .u8 32 (p0)]) rfl fun b2 hb2=>Zd (Zr fun b3 hb3=>Z1<|Z0<|bH h fun z5 ez5 h=>bH h fun z6 ez6 h=>bH h fun l7 el7 h=>Z2<|Z6 _ (Z0v rfl rfl (by decide))<|Z6 _ (iz ez5 (Z1a rfl (.there .here) rfl))<|Z6 _ (iz ez6 (Z9 rfl rfl rfl))<|Z6 _ (Z0v rfl rfl (by decide))<|Zd (Z5i (q:=[.ints .u8 32 (l7)]) (congrArg (fun z=>([.ints .u8 32 (z)]:List Seg)) el7.symm) rfl rfl rfl rfl (.there .here)<|Z1<|Z0<|bH h fun z9 ez9 h=>bH h fun z10 ez10 h=>bH h fun z11 ez11 h=>bH h fun l12 el12 h=>Z2<|Z6 _ (Z0v rfl rfl (by decide))<|Z6 _ (iz ez9 (Z1a rfl (.there .here) rfl))<|Z6 _ (iz ez10 (Z9 rfl rfl rfl))<|Z6 _ (iz ez11 (Z9 rfl rfl rfl))<|Z6 _ (Z0v rfl rfl (by decide))<|Zd (Z5i (q:=[.ints .u8 32 (l12)]) (congrArg (fun z=>([.ints .u8 32 (z)]:List Seg)) el12.symm) rfl rfl rfl rfl (.there .here)<|Z1<|Z0<|Z2<|Z6 _ (Z00 (p:=[.ints .u8 32 (l12)]) rfl (.there .here) rfl)<|Zd (Zp (q:=[.ints .u8 32 (l12)]) rfl rfl rfl rfl rfl .here<|Z1<|Zm ?_)))))
 revert h; refine Zw fun h=>?_
 subst h
 exact ⟨_,(.cons (.agg rfl .here rfl) .nil),rfl⟩
def Zan (p0:List Int):Option ((List Int)×(List Int)) :=
 opt (Zc9 (tk p0 0 32)) fun y5 =>
 chk (decide (32≤(tk y5 0 32).length)) <|
 bnd (tk (tk y5 0 32) 0 32) fun z9 =>
 opt (Z91 z9) fun y10 =>
 some (y10,(tk y5 32 (64-32)))
theorem Zii {W:World} {r:(List Int)×(List Int)} {p0:List Int} (h:Zan p0=some r) (hG:Globs W) :
    Calls Tryz.prog 49 [agg [.ints .u8 32 (p0)]].toArray W (Zc0 W [] (fun v Ms=>∃ (u1:Value) (M1:List Zf),v = .tuple #[agg [.ints .u8 32 (r.1)],u1]∧Ms = [.all M1]∧Z0b (El.int .u8) u1 M1 r.2)):=by
 unfold Zan at h
 refine Z02 mo ok49 rfl (Zgo _) ?_
 refine Z0<|Z2<|Zd (Z0e (s:=[.ints .u8 32 (p0)]) rfl fun b2 hb2=>Zd (Zr fun b3 hb3=>Z7 rfl<|Z1<|Z0<|oH h fun y5 ey5 h=>Z2<|Z6 _ (Z7c rfl .no .no .no (by simp) (by decide))<|Z6 _ (Z08 rfl (fun w hw=>Zkh ey5 (hG.at hw (by simp)) ((Z1g (s:=[.ints .u8 32 (p0)]) (N:=32) (k:=.u8) (base:=0) (lo:=0) (hi:=32) (mz:=32) (.there .here) rfl (by decide)) w hw)))<|Zd (Zr fun b6 hb6=>Zd (Zp (q:=[.ints .u8 64 (y5)]) rfl rfl rfl rfl rfl .here<|Z1<|Z0<|cH h fun c8 h=>bH h fun z9 ez9 h=>oH h fun y10 ey10 h=>Zu<|Z8 _ (Z7c rfl .no (.yes rfl) .no (by simp) (by decide))<|Z8 _ (Z0c1 rfl (Shp.blk (lo:=0) (hi:=32) (mz:=64) (by decide) (by simp [Z0m])) (by decide) c8)<|Z8 _ (Z7c rfl (.yes rfl) .no .no (by simp) (by decide))<|Zq _ (az (fun z=>agg [.ints .u8 32 z]) ez9 (Z10k rfl (Z1g (s:=[.ints .u8 64 (y5)]) (N:=64) (k:=.u8) (base:=0) (lo:=0) (hi:=32) (mz:=64) .here rfl (by decide)) (by decide) c8))<|Z8 _ (Z0g rfl (Zhn ey10))<|Z1b rfl (Zp (q:=[.ints .u8 32 (y10)]) rfl rfl rfl rfl rfl (.there .here)<|Z8 _ (Z0u rfl)<|Z03<|Zm ?_)))))
 revert h; refine Zw fun h=>?_
 subst h
 exact ⟨_,_,(.cons (.agg rfl (.there .here) rfl) (.cons (.tmp rfl) .nil)),(.one .here .nil),⟨_,rfl,⟨(.slice (some (Z3l b6 0 32 64 1)) (64-32) (64-32)),[ck b6 94 [.ints .u8 64 (y5)]],rfl,rfl,(Zoa (s:=[.ints .u8 64 (y5)]) (N:=64) (k:=.u8) (base:=0) (lo:=32) (hi:=64) (mz:=64) rfl (by decide))⟩⟩⟩
def Z45 (p0:List Int):OL :=
 bnd (p0.getD 0 0) fun z5 =>
 bnd (Z4 .and .u64 z5 2251799813685247) fun z6 =>
 bnd (p0.getD 4 0) fun z7 =>
 bnd (Zn .u64 z7 51) fun z8 =>
 bnd (IntKind.wrap .u64 (z8*19)) fun z9 =>
 bnd (IntKind.wrap .u64 (z6+z9)) fun z10 =>
 bnd (p0.getD 1 0) fun z11 =>
 bnd (Z4 .and .u64 z11 2251799813685247) fun z12 =>
 bnd (p0.getD 0 0) fun z13 =>
 bnd (Zn .u64 z13 51) fun z14 =>
 bnd (IntKind.wrap .u64 (z12+z14)) fun z15 =>
 bnd (p0.getD 2 0) fun z16 =>
 bnd (Z4 .and .u64 z16 2251799813685247) fun z17 =>
 bnd (p0.getD 1 0) fun z18 =>
 bnd (Zn .u64 z18 51) fun z19 =>
 bnd (IntKind.wrap .u64 (z17+z19)) fun z20 =>
 bnd (p0.getD 3 0) fun z21 =>
 bnd (Z4 .and .u64 z21 2251799813685247) fun z22 =>
 bnd (p0.getD 2 0) fun z23 =>
 bnd (Zn .u64 z23 51) fun z24 =>
 bnd (IntKind.wrap .u64 (z22+z24)) fun z25 =>
 bnd (p0.getD 4 0) fun z26 =>
 bnd (Z4 .and .u64 z26 2251799813685247) fun z27 =>
 bnd (p0.getD 3 0) fun z28 =>
 bnd (Zn .u64 z28 51) fun z29 =>
 bnd (IntKind.wrap .u64 (z27+z29)) fun z30 =>
 bnd (([z10,z15,z20,z25,z30]:List Int)) fun z31 =>
 some z31
theorem Z3u {W:World} {r:(List Int)} {p0:List Int} (h:Z45 p0=some r)  :
    Calls Tryz.prog 156 [agg [.ints .u64 5 (p0)]].toArray W (Z2s W (agg [.ints .u64 5 (r)])):=by
 unfold Z45 at h
 refine Zc mo Z0yv rfl ?_
 refine Z0<|Z2<|Zd (Z0e (s:=[.ints .u64 5 (p0)]) rfl fun b2 hb2=>Zd (Zr fun b3 hb3=>Z1<|Z0<|bH h fun z5 ez5 h=>bH h fun z6 ez6 h=>bH h fun z7 ez7 h=>bH h fun z8 ez8 h=>bH h fun z9 ez9 h=>bH h fun z10 ez10 h=>bH h fun z11 ez11 h=>bH h fun z12 ez12 h=>bH h fun z13 ez13 h=>bH h fun z14 ez14 h=>bH h fun z15 ez15 h=>bH h fun z16 ez16 h=>bH h fun z17 ez17 h=>bH h fun z18 ez18 h=>bH h fun z19 ez19 h=>bH h fun z20 ez20 h=>bH h fun z21 ez21 h=>bH h fun z22 ez22 h=>bH h fun z23 ez23 h=>bH h fun z24 ez24 h=>bH h fun z25 ez25 h=>bH h fun z26 ez26 h=>bH h fun z27 ez27 h=>bH h fun z28 ez28 h=>bH h fun z29 ez29 h=>bH h fun z30 ez30 h=>bH h fun z31 ez31 h=>Z2<|Z6 _ (Z0v rfl rfl (by decide))<|Z6 _ (iz ez5 (Z1a rfl (.there .here) rfl))<|Z6 _ (iz ez6 (Z9 rfl rfl rfl))<|Z6 _ (Z0v rfl rfl (by decide))<|Z6 _ (iz ez7 (Z1a rfl (.there .here) rfl))<|Z6 _ (iz ez8 (Z4i rfl rfl (by decide)))<|Z6 _ (iz ez9 (Z9 rfl rfl rfl))<|Z6 _ (iz ez10 (Z9 rfl rfl rfl))<|Z6 _ (Z0v rfl rfl (by decide))<|Z6 _ (iz ez11 (Z1a rfl (.there .here) rfl))<|Z6 _ (iz ez12 (Z9 rfl rfl rfl))<|Z6 _ (Z0v rfl rfl (by decide))<|Z6 _ (iz ez13 (Z1a rfl (.there .here) rfl))<|Z6 _ (iz ez14 (Z4i rfl rfl (by decide)))<|Z6 _ (iz ez15 (Z9 rfl rfl rfl))<|Z6 _ (Z0v rfl rfl (by decide))<|Z6 _ (iz ez16 (Z1a rfl (.there .here) rfl))<|Z6 _ (iz ez17 (Z9 rfl rfl rfl))<|Z6 _ (Z0v rfl rfl (by decide))<|Z6 _ (iz ez18 (Z1a rfl (.there .here) rfl))<|Z6 _ (iz ez19 (Z4i rfl rfl (by decide)))<|Z6 _ (iz ez20 (Z9 rfl rfl rfl))<|Z6 _ (Z0v rfl rfl (by decide))<|Z6 _ (iz ez21 (Z1a rfl (.there .here) rfl))<|Z6 _ (iz ez22 (Z9 rfl rfl rfl))<|Z6 _ (Z0v rfl rfl (by decide))<|Z6 _ (iz ez23 (Z1a rfl (.there .here) rfl))<|Z6 _ (iz ez24 (Z4i rfl rfl (by decide)))<|Z6 _ (iz ez25 (Z9 rfl rfl rfl))<|Z6 _ (Z0v rfl rfl (by decide))<|Z6 _ (iz ez26 (Z1a rfl (.there .here) rfl))<|Z6 _ (iz ez27 (Z9 rfl rfl rfl))<|Z6 _ (Z0v rfl rfl (by decide))<|Z6 _ (iz ez28 (Z1a rfl (.there .here) rfl))<|Z6 _ (iz ez29 (Z4i rfl rfl (by decide)))<|Z6 _ (iz ez30 (Z9 rfl rfl rfl))<|Z6 _ (az (fun z=>agg [.ints .u64 5 z]) ez31 (Zgu (.one rfl rfl rfl (.one rfl rfl rfl (.one rfl rfl rfl (.one rfl rfl rfl (.one rfl rfl rfl BdR.nil)))))))<|Zd (Zp (q:=[.ints .u64 5 (z31)]) rfl rfl rfl rfl rfl .here<|Z1<|Zm ?_)))
 revert h; refine Zw fun h=>?_
 subst h
 exact ⟨_,(.cons (.agg rfl .here rfl) .nil),rfl⟩
def Za5 (y6:(List Int)) (k47:(Int)→OL) (k70:(Int)→(Int)→OL) (i68:Int) (i69:Int):OL :=
 br ((decide (i69<4))) (
 chk (inB i69 (tk y6 1 (5-1)).length) <|
 bnd ((tk y6 1 (5-1)).getD (i69).toNat 0) fun z76 =>
 bnd (IntKind.wrap .u64 (z76+i68)) fun z78 =>
 bnd (Zn .u64 z78 51) fun z79 =>
 bnd (IntKind.wrap .i64 (i69+1)) fun z81 =>
 k70 z79 z81
 ) (
 k47 i68
 )
def Z4d (y6:(List Int)) (k47:(Int)→OL):Nat→(Int)→(Int)→OL
  | 0,_,_=>none
  | n+1,i68,i69=>Za5 y6 k47 (Z4d y6 k47 n) i68 i69
def Za6 (k150:(List Int)→OL) (k189:(Int)→(List Int)→OL) (i187:Int) (a188:List Int):OL :=
 br ((decide (i187<4))) (
 bnd (IntKind.wrap .i64 (i187+1)) fun z195 =>
 chk (inB z195 5) <|
 chk (inB i187 5) <|
 bnd (a188.getD (z195).toNat 0) fun z198 =>
 bnd (a188.getD (i187).toNat 0) fun z199 =>
 bnd (Zn .u64 z199 51) fun z200 =>
 bnd (IntKind.wrap .u64 (z198+z200)) fun z201 =>
 chk (inB z195 5) <|
 bnd (Z21 a188 (z195).toNat z201) fun l203 =>
 chk (inB i187 5) <|
 bnd (l203.getD (i187).toNat 0) fun z206 =>
 bnd (Z4 .and .u64 z206 2251799813685247) fun z207 =>
 chk (inB i187 5) <|
 bnd (Z21 l203 (i187).toNat z207) fun l209 =>
 bnd (IntKind.wrap .i64 (i187+1)) fun z211 =>
 k189 z211 l209
 ) (
 k150 a188
 )
def Z4e (k150:(List Int)→OL):Nat→(Int)→(List Int)→OL
  | 0,_,_=>none
  | n+1,i187,a188=>Za6 k150 (Z4e k150 n) i187 a188
def Z27 (p0:List Int):OL :=
 opt (Z45 p0) fun y5 =>
 opt (Z45 y5) fun y6 =>
 bnd (y6.getD 0 0) fun z8 =>
 bnd (IntKind.wrap .u64 (z8+19)) fun z9 =>
 bnd (Zn .u64 z9 51) fun z10 =>
 jn (fun (i46:Int)=>bnd (y6.getD 0 0) fun z83 =>
 bnd (IntKind.wrap .u64 (19*i46)) fun z84 =>
 bnd (IntKind.wrap .u64 (z83+z84)) fun z85 =>
 bnd (Z21 y6 0 z85) fun l86 =>
 jn (fun (a149:List Int)=>bnd (a149.getD 4 0) fun z213 =>
 bnd (Z4 .and .u64 z213 2251799813685247) fun z214 =>
 bnd (Z21 a149 4 z214) fun l215 =>
 some l215) fun k150=>Z4e k150 big 0 l86) fun k47=>Z4d y6 k47 big z10 0
theorem Z28 {W:World} {r:(List Int)} {p0:List Int} (h:Z27 p0=some r)  :
    Calls Tryz.prog 155 [agg [.ints .u64 5 (p0)]].toArray W (Z2s W (agg [.ints .u64 5 (r)])):=by
 unfold Z27 at h
 refine Zc mo Z0yu rfl ?_
 refine Z0<|Z2<|Zd (Z0e (s:=[.ints .u64 5 (p0)]) rfl fun b2 hb2=>Zd (Zr fun b3 hb3=>Z1<|Z0<|oH h fun y5 ey5 h=>oH h fun y6 ey6 h=>Z2<|Z6 _ (Z00 (p:=[.ints .u64 5 (p0)]) rfl (.there .here) rfl)<|Z6 _ (Z0g rfl (Z3u ey5))<|Z6 _ (Z0g rfl (Z3u ey6))<|Zd (Zp (q:=[.ints .u64 5 (y6)]) rfl rfl rfl rfl rfl (.there .here)<|Z1<|Z0<|bH h fun z8 ez8 h=>bH h fun z9 ez9 h=>bH h fun z10 ez10 h=>Z2<|Z6 _ (Z0v rfl rfl (by decide))<|Z6 _ (iz ez8 (Z1a rfl (.there .here) rfl))<|Z6 _ (iz ez9 (Z9 rfl rfl rfl))<|Z6 _ (iz ez10 (Z4i rfl rfl (by decide)))<|Z7 rfl<|Z1<|Z0<|Z0<|Z2<|Z6 _ (Z7c rfl (.yes rfl) .no .no (by simp) (by decide))<|Z6 _ (Zyq rfl)<|Z7 rfl<|Z1<|jH h fun k47 qk47 h=>Zh (G:=fun t m=>∃ (i46:Int),k47 i46=some r∧Fit [(1,.pointer (some ⟨b2,0,none⟩)),(2,.pointer (some ⟨b3,0,none⟩)),(3,.int .u64 (i46))] (ck b3 80 [.ints .u64 5 ((List.replicate 5 0))]::(ck b2 80 [.ints .u64 5 (y6)] :: [])) t m) ?_ ?_)))
 ·refine Za<|Zo (fun n71 t m=>∃ (i68:Int) (i69:Int),Z4d y6 k47 n71 i68 i69=some r∧Fit [(1,.pointer (some ⟨b2,0,none⟩)),(2,.pointer (some ⟨b3,0,none⟩)),(3,.int .u64 (i68)),(14,(.slice (some (Z3l b2 0 1 5 1)) (5-1) (5-1))),(15,.int .i64 4),(16,.int .i64 (i69))] (ck b3 80 [.ints .u64 5 ((List.replicate 5 0))]::(ck b2 80 [.ints .u64 5 (y6)] :: [])) t m) big ?_ ?_
  ·exact ⟨z10,0,h,⟨⟨rfl,rfl,rfl,rfl,rfl,rfl,trivial⟩,(.one .here (.one .here .nil))⟩⟩
  ·rintro n71 t m ⟨i68,i69,h,hF⟩
   refine Zg hF ?_
   clear hF
   rcases n71 with _ | n71
   · exact Z05 h
   have h:Za5 y6 k47 (Z4d y6 k47 n71) i68 i69=some r:=h
   unfold Za5 at h
   obtain ⟨k70,qk70⟩ : ∃ k,k=Z4d y6 k47 n71:=⟨_,rfl⟩
   try rw [← qk70] at h
   refine Z0<|Z2<|Z6 _ (Z9 rfl rfl rfl)<|Z1<|Z0<|Z07 h rfl (fun h=>?_) (fun h=>?_)
   ·refine Zk<|Z0<|Za<|Z0<|cH h fun c75 h=>bH h fun z76 ez76 h=>Z2<|Z6 _ (Z32 rfl rfl (Shp.blk (lo:=1) (hi:=5) (mz:=5) (by decide) (by simp [Z0m])) c75)<|Z6 _ (iz ez76 (Z33 (E:=(El.int .u64)) (s:=[.one (.int .u64 ((tk y6 1 (5-1)).getD (i69).toNat 0))]) rfl (Z1g (s:=[.ints .u64 5 (y6)]) (N:=5) (k:=.u64) (base:=0) (lo:=1) (hi:=5) (mz:=5) (.there .here) rfl (by decide)) (Z01 c75) rfl rfl))<|Z7 rfl<|Z1<|bH h fun z78 ez78 h=>bH h fun z79 ez79 h=>Z2<|Z7 rfl<|Z7 rfl<|Z6 _ (iz ez78 (Z9 rfl rfl rfl))<|Z6 _ (iz ez79 (Z4i rfl rfl (by decide)))<|Z7 rfl<|Z1<|bH h fun z81 ez81 h=>Z2<|Z6 _ (iz ez81 (Z9 rfl rfl rfl))<|Z7 rfl<|Z1 ?_
    rw [qk70] at h
    exact ⟨n71,Nat.lt_succ_self _,z79,z81,h,⟨⟨rfl,rfl,rfl,rfl,rfl,rfl,trivial⟩,(.one .here (.one .here .nil))⟩⟩
   ·exact Zv _ rfl<|⟨i68,h,⟨⟨rfl,rfl,rfl,trivial⟩,(.one .here (.one .here .nil))⟩⟩
 ·rintro t m ⟨i46,h,hF⟩
  refine Zg hF ?_
  clear hF
  subst qk47
  refine Z0<|bH h fun z83 ez83 h=>bH h fun z84 ez84 h=>bH h fun z85 ez85 h=>bH h fun l86 el86 h=>Z2<|Z6 _ (Z0v rfl rfl (by decide))<|Z6 _ (iz ez83 (Z1a rfl (.there .here) rfl))<|Z7 rfl<|Z6 _ (iz ez84 (Z9 rfl rfl rfl))<|Z6 _ (iz ez85 (Z9 rfl rfl rfl))<|Z6 _ (Z0v rfl rfl (by decide))<|Zd (Z5i (q:=[.ints .u64 5 (l86)]) (congrArg (fun z=>([.ints .u64 5 (z)]:List Seg)) el86.symm) rfl rfl rfl rfl (.there .here)<|Z1<|Z0<|Z0<|Z2<|Z7 rfl<|Z1<|jH h fun k150 qk150 h=>Zh (G:=fun t m=>∃ (a149:List Int),k150 a149=some r∧Fit [(1,.pointer (some ⟨b2,0,none⟩)),(2,.pointer (some ⟨b3,0,none⟩))] (ck b3 80 [.ints .u64 5 ((List.replicate 5 0))]::(ck b2 80 [.ints .u64 5 (a149)] :: [])) t m) ?_ ?_)
  ·refine Za<|Zo (fun n190 t m=>∃ (i187:Int) (a188:List Int),Z4e k150 n190 i187 a188=some r∧Fit [(1,.pointer (some ⟨b2,0,none⟩)),(2,.pointer (some ⟨b3,0,none⟩)),(31,.int .i64 (i187))] (ck b3 80 [.ints .u64 5 ((List.replicate 5 0))]::(ck b2 80 [.ints .u64 5 (a188)] :: [])) t m) big ?_ ?_
   ·exact ⟨0,l86,h,⟨⟨rfl,rfl,rfl,trivial⟩,(.one .here (.one .here .nil))⟩⟩
   ·rintro n190 t m ⟨i187,a188,h,hF⟩
    refine Zg hF ?_
    clear hF
    rcases n190 with _ | n190
    · exact Z05 h
    have h:Za6 k150 (Z4e k150 n190) i187 a188=some r:=h
    unfold Za6 at h
    obtain ⟨k189,qk189⟩ : ∃ k,k=Z4e k150 n190:=⟨_,rfl⟩
    try rw [← qk189] at h
    refine Z0<|Z2<|Z6 _ (Z9 rfl rfl rfl)<|Z1<|Z0<|Z07 h rfl (fun h=>?_) (fun h=>?_)
    ·refine Zk<|Z0<|Za<|Z0<|Z2<|Z7 rfl<|Z7 rfl<|Z1<|Z0<|bH h fun z195 ez195 h=>cH h fun c196 h=>cH h fun c197 h=>bH h fun z198 ez198 h=>bH h fun z199 ez199 h=>bH h fun z200 ez200 h=>bH h fun z201 ez201 h=>cH h fun c202 h=>bH h fun l203 el203 h=>Zu<|Z8 _ (Z0u rfl)<|Z8 _ (iz ez195 (Z9 rfl rfl rfl))<|Z8 _ (Z0v rfl rfl (Z09 c196))<|Z8 _ (Z0u rfl)<|Z8 _ (Z0v rfl rfl (Z09 c197))<|Zq _ (iz ez198 (Z2e (base:=0) rfl (.there .here) rfl (Z01 c196)))<|Zq _ (iz ez199 (Z2e (base:=0) rfl (.there .here) rfl (Z01 c197)))<|Z8 _ (iz ez200 (Z4i rfl rfl (by decide)))<|Z8 _ (iz ez201 (Z9 rfl rfl rfl))<|Z8 _ (Z0v rfl rfl (Z09 c202))<|Z1b rfl (Z1e (q:=[.ints .u64 5 (l203)]) (base:=0) el203 rfl rfl rfl (Z01 c202) rfl (.there .here)<|Z03<|cH h fun c205 h=>bH h fun z206 ez206 h=>bH h fun z207 ez207 h=>cH h fun c208 h=>bH h fun l209 el209 h=>Z2<|Z7 rfl<|Z6 _ (Z0v rfl rfl (Z09 c205))<|Z6 _ (iz ez206 (Z2e (base:=0) rfl (.there .here) rfl (Z01 c205)))<|Z6 _ (iz ez207 (Z9 rfl rfl rfl))<|Z6 _ (Z0v rfl rfl (Z09 c208))<|Zd (Z1e (q:=[.ints .u64 5 (l209)]) (base:=0) el209 rfl rfl rfl (Z01 c208) rfl (.there .here)<|Z1<|bH h fun z211 ez211 h=>Z2<|Z6 _ (iz ez211 (Z9 rfl rfl rfl))<|Z7 rfl<|Z1 ?_))
     rw [qk189] at h
     exact ⟨n190,Nat.lt_succ_self _,z211,l209,h,⟨⟨rfl,rfl,rfl,trivial⟩,(.one .here (.one .here .nil))⟩⟩
    ·exact Zv _ rfl<|⟨a188,h,⟨⟨rfl,rfl,trivial⟩,(.one .here (.one .here .nil))⟩⟩
  ·rintro t m ⟨a149,h,hF⟩
   refine Zg hF ?_
   clear hF
   subst qk150
   refine Z0<|bH h fun z213 ez213 h=>bH h fun z214 ez214 h=>bH h fun l215 el215 h=>Z2<|Z6 _ (Z0v rfl rfl (by decide))<|Z6 _ (iz ez213 (Z1a rfl (.there .here) rfl))<|Z6 _ (iz ez214 (Z9 rfl rfl rfl))<|Z6 _ (Z0v rfl rfl (by decide))<|Zd (Z5i (q:=[.ints .u64 5 (l215)]) (congrArg (fun z=>([.ints .u64 5 (z)]:List Seg)) el215.symm) rfl rfl rfl rfl (.there .here)<|Z1<|Z0<|Z2<|Z6 _ (Z00 (p:=[.ints .u64 5 (l215)]) rfl (.there .here) rfl)<|Zd (Zp (q:=[.ints .u64 5 (l215)]) rfl rfl rfl rfl rfl .here<|Z1<|Zm ?_))
   revert h; refine Zw fun h=>?_
   subst h
   exact ⟨_,(.cons (.agg rfl .here rfl) .nil),rfl⟩
def Z4f (p0:Int) (p1:Int):Option (Int×Int) :=
 bnd (Z4 .and .u64 p0 4294967295) fun z3 =>
 bnd (Zn .u64 p0 32) fun z5 =>
 bnd (Z4 .and .u64 p1 4294967295) fun z7 =>
 bnd (Zn .u64 p1 32) fun z9 =>
 bnd (IntKind.wrap .u64 (z3*z7)) fun z11 =>
 bnd (IntKind.wrap .u64 (z5*z7)) fun z13 =>
 bnd (Zn .u64 z11 32) fun z14 =>
 bnd (IntKind.wrap .u64 (z13+z14)) fun z15 =>
 bnd (Z4 .and .u64 z15 4294967295) fun z17 =>
 bnd (Zn .u64 z15 32) fun z19 =>
 bnd (IntKind.wrap .u64 (z3*z9)) fun z21 =>
 bnd (IntKind.wrap .u64 (z17+z21)) fun z22 =>
 bnd (IntKind.wrap .u64 (z5*z9)) fun z24 =>
 bnd (IntKind.wrap .u64 (z24+z19)) fun z25 =>
 bnd (Zn .u64 z22 32) fun z26 =>
 bnd (IntKind.wrap .u64 (z25+z26)) fun z27 =>
 bnd (IntKind.wrap .u64 (p0*p1)) fun z29 =>
 some (z27,z29)
theorem Z9c {W:World} {r:Int×Int} {p0:Int} {p1:Int} (h:Z4f p0 p1=some r)  :
    Calls Tryz.prog 200 [.int .u64 (p0),.int .u64 (p1)].toArray W (Z2s W (.tuple #[.int .u64 (r.1),.int .u64 (r.2)])):=by
 unfold Z4f at h
 refine Zc mo Z0zw rfl ?_
 refine Z0<|Z2<|Z7 rfl<|Z7 rfl<|Z1<|Z0<|bH h fun z3 ez3 h=>Z2<|Z7 rfl<|Z6 _ (iz ez3 (Z9 rfl rfl rfl))<|Z7 rfl<|Z1<|Z0<|bH h fun z5 ez5 h=>Z2<|Z7 rfl<|Z6 _ (iz ez5 (Z4i rfl rfl (by decide)))<|Z7 rfl<|Z1<|Z0<|bH h fun z7 ez7 h=>Z2<|Z7 rfl<|Z6 _ (iz ez7 (Z9 rfl rfl rfl))<|Z7 rfl<|Z1<|Z0<|bH h fun z9 ez9 h=>Z2<|Z7 rfl<|Z6 _ (iz ez9 (Z4i rfl rfl (by decide)))<|Z7 rfl<|Z1<|Z0<|bH h fun z11 ez11 h=>Z2<|Z7 rfl<|Z7 rfl<|Z6 _ (iz ez11 (Z9 rfl rfl rfl))<|Z7 rfl<|Z1<|Z0<|bH h fun z13 ez13 h=>bH h fun z14 ez14 h=>bH h fun z15 ez15 h=>Z2<|Z7 rfl<|Z7 rfl<|Z6 _ (iz ez13 (Z9 rfl rfl rfl))<|Z7 rfl<|Z6 _ (iz ez14 (Z4i rfl rfl (by decide)))<|Z6 _ (iz ez15 (Z9 rfl rfl rfl))<|Z7 rfl<|Z1<|Z0<|bH h fun z17 ez17 h=>Z2<|Z7 rfl<|Z6 _ (iz ez17 (Z9 rfl rfl rfl))<|Z7 rfl<|Z1<|Z0<|bH h fun z19 ez19 h=>Z2<|Z7 rfl<|Z6 _ (iz ez19 (Z4i rfl rfl (by decide)))<|Z7 rfl<|Z1<|Z0<|bH h fun z21 ez21 h=>bH h fun z22 ez22 h=>Z2<|Z7 rfl<|Z7 rfl<|Z7 rfl<|Z6 _ (iz ez21 (Z9 rfl rfl rfl))<|Z6 _ (iz ez22 (Z9 rfl rfl rfl))<|Z7 rfl<|Z1<|Z0<|bH h fun z24 ez24 h=>bH h fun z25 ez25 h=>bH h fun z26 ez26 h=>bH h fun z27 ez27 h=>Z2<|Z7 rfl<|Z7 rfl<|Z6 _ (iz ez24 (Z9 rfl rfl rfl))<|Z7 rfl<|Z6 _ (iz ez25 (Z9 rfl rfl rfl))<|Z7 rfl<|Z6 _ (iz ez26 (Z4i rfl rfl (by decide)))<|Z6 _ (iz ez27 (Z9 rfl rfl rfl))<|Z7 rfl<|Z1<|Z0<|bH h fun z29 ez29 h=>Z2<|Z7 rfl<|Z7 rfl<|Z6 _ (iz ez29 (Z9 rfl rfl rfl))<|Z7 rfl<|Z1<|Zm ?_
 revert h; refine Zw fun h=>?_
 subst h
 exact ⟨_,(.cons (.tmp rfl) (.cons (.tmp rfl) .nil)),rfl⟩
def Z2b (p0:List Int) (o:Nat) (L:Nat) (p1:Int) (p2:Int):OL :=
 opt (Z4f p1 p2) fun y2 =>
 chk (decide (o+1<L)) <|
 bnd (p0.getD (o+1) 0) fun z6 =>
 chk (Zd1 z6 y2.2 0) <|
 bnd (Z9w z6 y2.2 0) fun z8 =>
 bnd (Zfi z6 y2.2 0) fun z9 =>
 chk (decide (o+1<L)) <|
 bnd (Z21 p0 (o+1) z8) fun l11 =>
 chk (decide (o+0<L)) <|
 bnd (l11.getD (o+0) 0) fun z14 =>
 chk (Zd1 z14 y2.1 z9) <|
 bnd (Z9w z14 y2.1 z9) fun z16 =>
 bnd (Zfi z14 y2.1 z9) fun z17 =>
 chk (decide (o+0<L)) <|
 bnd (Z21 l11 (o+0) z16) fun l19 =>
 some l19
theorem Z6r {W:World} {r:(List Int)} {p0:List Int} {o:Nat} {L:Nat} {p1:Int} {p2:Int} {b:Nat} {T:TypeId} (h:Z2b p0 o L p1 p2=some r) (h0:Sat W [b] (ck b T [.ints .u64 L (p0)] :: []) W) :
    Calls Tryz.prog 157 [.pointer (some ⟨b,o,none⟩),.int .u64 (p1),.int .u64 (p2)].toArray W (Zc0 W [b] (fun v Ms=>v = .tuple #[]∧Ms = [.one (ck b T [.ints .u64 L (r)])])):=by
 unfold Z2b at h
 refine Z02 mo Z0yw rfl h0 ?_
 refine Z0<|oH h fun y2 ey2 h=>Z2<|Z7 rfl<|Z7 rfl<|Z6 _ (Z0g rfl (Z9c ey2))<|Z7 rfl<|Z6 _ (Z37 rfl rfl)<|Z6 _ (Z37 rfl rfl)<|Z7 rfl<|Z7 rfl<|Z1<|Z0<|Z2<|Z7 rfl<|Z1<|Z0<|cH h fun c5 h=>bH h fun z6 ez6 h=>cH h fun c7 h=>bH h fun z8 ez8 h=>bH h fun z9 ez9 h=>cH h fun c10 h=>bH h fun l11 el11 h=>Z2<|Z7 rfl<|Z7 rfl<|Z6 _ (Z4h rfl)<|Z6 _ (Z4g rfl)<|Z6 _ (Z00d (base:=0) (i:=o+1) ez6 rfl .here rfl (by omega) c5)<|Z7 rfl<|Z6 _ (Ze7 rfl Zfk (xadd ez8 ez9 c7))<|Z7 rfl<|Z6 _ (Z37 rfl rfl)<|Z6 _ (Z37 rfl rfl)<|Z6 _ (Z4h rfl)<|Z6 _ (Z4g rfl)<|Zd (Zuw (base:=0) (i:=o+1) (q:=[.ints .u64 L l11]) el11 rfl rfl rfl (by omega) c10 (by simp [Zcz,Seg.width]) .here<|Z7 rfl<|Z1<|cH h fun c13 h=>bH h fun z14 ez14 h=>cH h fun c15 h=>bH h fun z16 ez16 h=>bH h fun z17 ez17 h=>cH h fun c18 h=>bH h fun l19 el19 h=>Z2<|Z7 rfl<|Z7 rfl<|Z6 _ (Z4h rfl)<|Z6 _ (Z4g rfl)<|Z6 _ (Z00d (base:=0) (i:=o+0) ez14 rfl .here rfl (by omega) c13)<|Z7 rfl<|Z7 rfl<|Z6 _ (Ze7 rfl Zfk (xadd ez16 ez17 c15))<|Z7 rfl<|Z6 _ (Z37 rfl rfl)<|Z6 _ (Z37 rfl rfl)<|Z6 _ (Z4h rfl)<|Z6 _ (Z4g rfl)<|Zd (Zuw (base:=0) (i:=o+0) (q:=[.ints .u64 L l19]) el19 rfl rfl rfl (by omega) c18 (by simp [Zcz,Seg.width]) .here<|Z1 ?_))
 revert h; refine Zw fun h=>?_
 subst h
 exact ⟨_,_,.nil,(.one .here .nil),⟨_,rfl,⟨rfl,rfl⟩⟩⟩
def Z5j (y7:(List Int)) (i1369:Int) (z1377:Int) (k1520:(List Int)→OL) (k1613:(Int)→(List Int)→OL) (i1611:Int) (a1612:List Int):OL :=
 br ((decide (i1611<5))) (
 jn (fun (a1637:List Int)=>bnd (IntKind.wrap .i64 (i1611+1)) fun z1660 =>
 k1613 z1660 a1637) fun k1638=>chk (inB i1611 5) <|
 bnd (y7.getD (i1611).toNat 0) fun z1641 =>
 bnd (IntKind.wrap .i64 (i1369+i1611)) fun z1643 =>
 br ((decide (z1643<5))) (
 bnd (IntKind.wrap .i64 (i1369+i1611)) fun z1646 =>
 chk (inB z1646 5) <|
 opt (Z2b a1612 (0+(z1646).toNat*2) 10 z1377 z1641) fun y1648 =>
 k1638 y1648
 ) (
 bnd (IntKind.wrap .i64 (i1369+i1611)) fun z1652 =>
 bnd (IntKind.wrap .i64 (z1652-5)) fun z1653 =>
 chk (inB z1653 5) <|
 bnd (IntKind.wrap .u64 (19*z1641)) fun z1655 =>
 opt (Z2b a1612 (0+(z1653).toNat*2) 10 z1377 z1655) fun y1656 =>
 k1638 y1656
 )
 ) (
 k1520 a1612
 )
def Z4o (y7:(List Int)) (i1369:Int) (z1377:Int) (k1520:(List Int)→OL):Nat→(Int)→(List Int)→OL
  | 0,_,_=>none
  | n+1,i1611,a1612=>Z5j y7 i1369 z1377 k1520 (Z4o y7 i1369 z1377 k1520 n) i1611 a1612
def Z8k (y6:(List Int)) (y7:(List Int)) (k837:(List Int)→OL) (k1371:(Int)→(List Int)→OL) (i1369:Int) (a1370:List Int):OL :=
 br ((decide (i1369<5))) (
 chk (inB i1369 5) <|
 bnd (y6.getD (i1369).toNat 0) fun z1377 =>
 jn (fun (a1519:List Int)=>bnd (IntKind.wrap .i64 (i1369+1)) fun z1662 =>
 k1371 z1662 a1519) fun k1520=>Z4o y7 i1369 z1377 k1520 big 0 a1370
 ) (
 k837 a1370
 )
def Z2y (y6:(List Int)) (y7:(List Int)) (k837:(List Int)→OL):Nat→(Int)→(List Int)→OL
  | 0,_,_=>none
  | n+1,i1369,a1370=>Z8k y6 y7 k837 (Z2y y6 y7 k837 n) i1369 a1370
def Z71 (a836:List Int) (k1742:(Int)→(List Int)→OL) (k1791:(Int)→(Int)→(List Int)→OL) (i1788:Int) (i1789:Int) (a1790:List Int):OL :=
 br ((decide (i1789<5))) (
 chk (inB i1789 5) <|
 bnd (tk a836 ((i1789).toNat*2) 2) fun l1797 =>
 bnd (l1797.getD 1 0) fun z1800 =>
 chk (Zd1 z1800 i1788 0) <|
 bnd (Z9w z1800 i1788 0) fun z1802 =>
 bnd (Zfi z1800 i1788 0) fun z1803 =>
 bnd (Z4 .and .u64 z1802 2251799813685247) fun z1805 =>
 chk (inB i1789 5) <|
 bnd (Z21 a1790 (i1789).toNat z1805) fun l1807 =>
 bnd (l1797.getD 0 0) fun z1809 =>
 bnd (IntKind.wrap .u64 (z1809+z1803)) fun z1810 =>
 bnd (Zj .u64 z1810 13) fun z1811 =>
 bnd (Zn .u64 z1802 51) fun z1812 =>
 bnd (Z4 .or .u64 z1811 z1812) fun z1813 =>
 bnd (IntKind.wrap .i64 (i1789+1)) fun z1815 =>
 k1791 z1813 z1815 l1807
 ) (
 k1742 i1788 a1790
 )
def Z3h (a836:List Int) (k1742:(Int)→(List Int)→OL):Nat→(Int)→(Int)→(List Int)→OL
  | 0,_,_,_=>none
  | n+1,i1788,i1789,a1790=>Z71 a836 k1742 (Z3h a836 k1742 n) i1788 i1789 a1790
def Z1c (p0:List Int) (p1:List Int):OL :=
 opt (Z45 p0) fun y6 =>
 opt (Z45 p1) fun y7 =>
 jn (fun (a836:List Int)=>jn (fun (i1740:Int) (a1741:List Int)=>opt (Z2b (List.replicate 2 0) 0 2 i1740 19) fun y1819 =>
 bnd (y1819.getD 1 0) fun z1823 =>
 bnd (a1741.getD 0 0) fun z1824 =>
 chk (Zd1 z1823 z1824 0) <|
 bnd (Z9w z1823 z1824 0) fun z1826 =>
 bnd (Zfi z1823 z1824 0) fun z1827 =>
 bnd (Z4 .and .u64 z1826 2251799813685247) fun z1829 =>
 bnd (Z21 a1741 0 z1829) fun l1830 =>
 bnd (l1830.getD 1 0) fun z1832 =>
 bnd (y1819.getD 0 0) fun z1833 =>
 bnd (IntKind.wrap .u64 (z1833+z1827)) fun z1834 =>
 bnd (Zj .u64 z1834 13) fun z1835 =>
 bnd (Zn .u64 z1826 51) fun z1836 =>
 bnd (Z4 .or .u64 z1835 z1836) fun z1837 =>
 bnd (IntKind.wrap .u64 (z1832+z1837)) fun z1838 =>
 bnd (Z21 l1830 1 z1838) fun l1839 =>
 opt (Z27 l1839) fun y1841 =>
 some y1841) fun k1742=>Z3h a836 k1742 big 0 0 (List.replicate 5 0)) fun k837=>Z2y y6 y7 k837 big 0 (List.replicate 10 0)
theorem Z13 {W:World} {r:(List Int)} {p0:List Int} {p1:List Int} (h:Z1c p0 p1=some r)  :
    Calls Tryz.prog 92 [agg [.ints .u64 5 (p0)],agg [.ints .u64 5 (p1)]].toArray W (Z2s W (agg [.ints .u64 5 (r)])):=by
 unfold Z1c at h
 refine Zc mo ok92 rfl ?_
 refine Z0<|Z2<|Zd (Z0e (s:=[.ints .u64 5 (p0)]) rfl fun b2 hb2=>Zd (Z0e (s:=[.ints .u64 5 (p1)]) rfl fun b3 hb3=>Zd (Zr fun b4 hb4=>Z1<|Z0<|oH h fun y6 ey6 h=>oH h fun y7 ey7 h=>Zu<|Zq _ (Z00 (p:=[.ints .u64 5 (p0)]) rfl (.there (.there .here)) rfl)<|Z8 _ (Z0g rfl (Z3u ey6))<|Zq _ (Z00 (p:=[.ints .u64 5 (p1)]) rfl (.there .here) rfl)<|Z8 _ (Z0g rfl (Z3u ey7))<|Z1b rfl (Zp (q:=[.ints .u64 5 (y6)]) rfl rfl rfl rfl rfl (.there (.there .here))<|Z0v2 rfl (Zp (q:=[.ints .u64 5 (y7)]) rfl rfl rfl rfl rfl (.there .here)<|Z03<|Z0<|Z2<|Zd (Zr fun b9 hb9=>Z1<|Z0<|Z0<|Z2<|Z6 _ (Z00 (p:=[.ints .u64 5 (y6)]) rfl (.there (.there (.there .here))) rfl)<|Z7 rfl<|Z1<|jH h fun k837 qk837 h=>Zh (G:=fun t m=>∃ (a836:List Int),k837 a836=some r∧Fit [(4,.pointer (some ⟨b4,0,none⟩)),(5,.pointer (some ⟨b9,0,none⟩))] (ck b9 188 [.ints .u64 10 (a836)]::(ck b4 80 [.ints .u64 5 ((List.replicate 5 0))]::(ck b3 80 [.ints .u64 5 (y7)]::(ck b2 80 [.ints .u64 5 (y6)] :: [])))) t m) ?_ ?_))))))
 ·refine Za<|Zo (fun n1372 t m=>∃ (i1369:Int) (a1370:List Int),Z2y y6 y7 k837 n1372 i1369 a1370=some r∧Fit [(3,.pointer (some ⟨b3,0,none⟩)),(4,.pointer (some ⟨b4,0,none⟩)),(5,.pointer (some ⟨b9,0,none⟩)),(23,agg [.ints .u64 5 (y6)]),(24,.int .i64 (i1369))] (ck b9 188 [.ints .u64 10 (a1370)]::(ck b4 80 [.ints .u64 5 ((List.replicate 5 0))]::(ck b3 80 [.ints .u64 5 (y7)]::(ck b2 80 [.ints .u64 5 (y6)] :: [])))) t m) big ?_ ?_
  ·exact ⟨0,(List.replicate 10 0),h,⟨⟨rfl,rfl,rfl,rfl,rfl,trivial⟩,(.one .here (.one .here (.one .here (.one .here .nil))))⟩⟩
  ·rintro n1372 t m ⟨i1369,a1370,h,hF⟩
   refine Zg hF ?_
   clear hF
   rcases n1372 with _ | n1372
   · exact Z05 h
   have h:Z8k y6 y7 k837 (Z2y y6 y7 k837 n1372) i1369 a1370=some r:=h
   unfold Z8k at h
   obtain ⟨k1371,qk1371⟩ : ∃ k,k=Z2y y6 y7 k837 n1372:=⟨_,rfl⟩
   try rw [← qk1371] at h
   refine Z0<|Z2<|Z6 _ (Z9 rfl rfl rfl)<|Z1<|Z0<|Z07 h rfl (fun h=>?_) (fun h=>?_)
   ·refine Zk<|Z0<|Za<|Z0<|cH h fun c1376 h=>bH h fun z1377 ez1377 h=>Z2<|Z7 rfl<|Z6 _ (iz ez1377 (Zi0 (len:=5) rfl rfl (Z09 c1376)))<|Z7 rfl<|Z7 rfl<|Z1<|Z0<|Z2<|Z6 _ (Z00 (p:=[.ints .u64 5 (y7)]) rfl (.there (.there .here)) rfl)<|Z7 rfl<|Z1<|jH h fun k1520 qk1520 h=>Zh (G:=fun t m=>∃ (a1519:List Int),k1520 a1519=some r∧Fit [(3,.pointer (some ⟨b3,0,none⟩)),(4,.pointer (some ⟨b4,0,none⟩)),(5,.pointer (some ⟨b9,0,none⟩)),(23,agg [.ints .u64 5 (y6)]),(24,.int .i64 (i1369))] (ck b9 188 [.ints .u64 10 (a1519)]::(ck b4 80 [.ints .u64 5 ((List.replicate 5 0))]::(ck b3 80 [.ints .u64 5 (y7)]::(ck b2 80 [.ints .u64 5 (y6)] :: [])))) t m) ?_ ?_
    ·refine Za<|Zo (fun n1614 t m=>∃ (i1611:Int) (a1612:List Int),Z4o y7 i1369 z1377 k1520 n1614 i1611 a1612=some r∧Fit [(3,.pointer (some ⟨b3,0,none⟩)),(4,.pointer (some ⟨b4,0,none⟩)),(5,.pointer (some ⟨b9,0,none⟩)),(6,.int .i64 (i1369)),(7,.int .u64 (z1377)),(23,agg [.ints .u64 5 (y6)]),(24,.int .i64 (i1369)),(28,agg [.ints .u64 5 (y7)]),(29,.int .i64 (i1611))] (ck b9 188 [.ints .u64 10 (a1612)]::(ck b4 80 [.ints .u64 5 ((List.replicate 5 0))]::(ck b3 80 [.ints .u64 5 (y7)]::(ck b2 80 [.ints .u64 5 (y6)] :: [])))) t m) big ?_ ?_
     ·exact ⟨0,a1370,h,⟨⟨rfl,rfl,rfl,rfl,rfl,rfl,rfl,rfl,rfl,trivial⟩,(.one .here (.one .here (.one .here (.one .here .nil))))⟩⟩
     ·rintro n1614 t m ⟨i1611,a1612,h,hF⟩
      refine Zg hF ?_
      clear hF
      rcases n1614 with _ | n1614
      · exact Z05 h
      have h:Z5j y7 i1369 z1377 k1520 (Z4o y7 i1369 z1377 k1520 n1614) i1611 a1612=some r:=h
      unfold Z5j at h
      obtain ⟨k1613,qk1613⟩ : ∃ k,k=Z4o y7 i1369 z1377 k1520 n1614:=⟨_,rfl⟩
      try rw [← qk1613] at h
      refine Z0<|Z2<|Z6 _ (Z9 rfl rfl rfl)<|Z1<|Z0<|Z07 h rfl (fun h=>?_) (fun h=>?_)
      ·refine Zk<|Z0<|jH h fun k1638 qk1638 h=>Zh (G:=fun t m=>∃ (a1637:List Int),k1638 a1637=some r∧Fit [(3,.pointer (some ⟨b3,0,none⟩)),(4,.pointer (some ⟨b4,0,none⟩)),(5,.pointer (some ⟨b9,0,none⟩)),(6,.int .i64 (i1369)),(7,.int .u64 (z1377)),(23,agg [.ints .u64 5 (y6)]),(24,.int .i64 (i1369)),(28,agg [.ints .u64 5 (y7)]),(29,.int .i64 (i1611))] (ck b9 188 [.ints .u64 10 (a1637)]::(ck b4 80 [.ints .u64 5 ((List.replicate 5 0))]::(ck b3 80 [.ints .u64 5 (y7)]::(ck b2 80 [.ints .u64 5 (y6)] :: [])))) t m) ?_ ?_
       ·refine Za<|Z0<|cH h fun c1640 h=>bH h fun z1641 ez1641 h=>Z2<|Z7 rfl<|Z6 _ (iz ez1641 (Zi0 (len:=5) rfl rfl (Z09 c1640)))<|Z7 rfl<|Z7 rfl<|Z1<|Z0<|bH h fun z1643 ez1643 h=>Z2<|Z7 rfl<|Z7 rfl<|Z6 _ (iz ez1643 (Z9 rfl rfl rfl))<|Z6 _ (Z9 rfl rfl rfl)<|Z1<|Z07 h rfl (fun h=>?_) (fun h=>?_)
        ·refine bH h fun z1646 ez1646 h=>cH h fun c1647 h=>oH h fun y1648 ey1648 h=>Z2<|Z7 rfl<|Z7 rfl<|Z6 _ (iz ez1646 (Z9 rfl rfl rfl))<|Z6 _ (Z0v rfl rfl (Z09 c1647))<|Z7 rfl<|Z7 rfl<|Zd (Z2i (mS:=[_]) rfl (Z6p.perm .here) (fun w hw=>Z6r  ey1648 (Zaj hw (mS:=[_]) (Z6p.perm .here)) ) fun v1649 Msv1649 R1650=>?_)
         obtain ⟨rfl,rfl⟩:=R1650
         exact Z1<|⟨y1648,h,⟨⟨rfl,rfl,rfl,rfl,rfl,rfl,rfl,rfl,rfl,trivial⟩,(.one .here (.one .here (.one .here (.one .here .nil))))⟩⟩
        ·refine bH h fun z1652 ez1652 h=>bH h fun z1653 ez1653 h=>cH h fun c1654 h=>bH h fun z1655 ez1655 h=>oH h fun y1656 ey1656 h=>Z2<|Z7 rfl<|Z7 rfl<|Z6 _ (iz ez1652 (Z9 rfl rfl rfl))<|Z6 _ (iz ez1653 (Z9 rfl rfl rfl))<|Z6 _ (Z0v rfl rfl (Z09 c1654))<|Z7 rfl<|Z7 rfl<|Z6 _ (iz ez1655 (Z9 rfl rfl rfl))<|Zd (Z2i (mS:=[_]) rfl (Z6p.perm .here) (fun w hw=>Z6r  ey1656 (Zaj hw (mS:=[_]) (Z6p.perm .here)) ) fun v1657 Msv1657 R1658=>?_)
         obtain ⟨rfl,rfl⟩:=R1658
         exact Z1<|⟨y1656,h,⟨⟨rfl,rfl,rfl,rfl,rfl,rfl,rfl,rfl,rfl,trivial⟩,(.one .here (.one .here (.one .here (.one .here .nil))))⟩⟩
       ·rintro t m ⟨a1637,h,hF⟩
        refine Zg hF ?_
        clear hF
        subst qk1638
        refine bH h fun z1660 ez1660 h=>Z2<|Z6 _ (iz ez1660 (Z9 rfl rfl rfl))<|Z7 rfl<|Z1 ?_
        rw [qk1613] at h
        exact ⟨n1614,Nat.lt_succ_self _,z1660,a1637,h,⟨⟨rfl,rfl,rfl,rfl,rfl,rfl,rfl,rfl,rfl,trivial⟩,(.one .here (.one .here (.one .here (.one .here .nil))))⟩⟩
      ·exact Zv _ rfl<|⟨a1612,h,⟨⟨rfl,rfl,rfl,rfl,rfl,trivial⟩,(.one .here (.one .here (.one .here (.one .here .nil))))⟩⟩
    ·rintro t m ⟨a1519,h,hF⟩
     refine Zg hF ?_
     clear hF
     subst qk1520
     refine bH h fun z1662 ez1662 h=>Z2<|Z6 _ (iz ez1662 (Z9 rfl rfl rfl))<|Z7 rfl<|Z1 ?_
     rw [qk1371] at h
     exact ⟨n1372,Nat.lt_succ_self _,z1662,a1519,h,⟨⟨rfl,rfl,rfl,rfl,rfl,trivial⟩,(.one .here (.one .here (.one .here (.one .here .nil))))⟩⟩
   ·exact Zv _ rfl<|⟨a1370,h,⟨⟨rfl,rfl,trivial⟩,(.one .here (.one .here (.one .here (.one .here .nil))))⟩⟩
 ·rintro t m ⟨a836,h,hF⟩
  refine Zg hF ?_
  clear hF
  subst qk837
  refine Z0<|Z2<|Zd (Zr fun b1664 hb1664=>Z1<|Z0<|Z2<|Z7 rfl<|Z1<|Z0<|Z0<|Z2<|Z6 _ (Z00 (p:=[.ints .u64 10 (a836)]) rfl (.there .here) rfl)<|Z7 rfl<|Z1<|jH h fun k1742 qk1742 h=>Zh (G:=fun t m=>∃ (i1740:Int) (a1741:List Int),k1742 i1740 a1741=some r∧Fit [(4,.pointer (some ⟨b4,0,none⟩)),(10,.pointer (some ⟨b1664,0,none⟩)),(11,.int .u64 (i1740))] (ck b1664 80 [.ints .u64 5 (a1741)]::(ck b9 188 [.ints .u64 10 (a836)]::(ck b4 80 [.ints .u64 5 ((List.replicate 5 0))]::(ck b3 80 [.ints .u64 5 (y7)]::(ck b2 80 [.ints .u64 5 (y6)] :: []))))) t m) ?_ ?_)
  ·refine Za<|Zo (fun n1792 t m=>∃ (i1788:Int) (i1789:Int) (a1790:List Int),Z3h a836 k1742 n1792 i1788 i1789 a1790=some r∧Fit [(4,.pointer (some ⟨b4,0,none⟩)),(10,.pointer (some ⟨b1664,0,none⟩)),(11,.int .u64 (i1788)),(55,agg [.ints .u64 10 (a836)]),(56,.int .i64 (i1789))] (ck b1664 80 [.ints .u64 5 (a1790)]::(ck b9 188 [.ints .u64 10 (a836)]::(ck b4 80 [.ints .u64 5 ((List.replicate 5 0))]::(ck b3 80 [.ints .u64 5 (y7)]::(ck b2 80 [.ints .u64 5 (y6)] :: []))))) t m) big ?_ ?_
   ·exact ⟨0,0,(List.replicate 5 0),h,⟨⟨rfl,rfl,rfl,rfl,rfl,trivial⟩,(.one .here (.one .here (.one .here (.one .here (.one .here .nil)))))⟩⟩
   ·rintro n1792 t m ⟨i1788,i1789,a1790,h,hF⟩
    refine Zg hF ?_
    clear hF
    rcases n1792 with _ | n1792
    · exact Z05 h
    have h:Z71 a836 k1742 (Z3h a836 k1742 n1792) i1788 i1789 a1790=some r:=h
    unfold Z71 at h
    obtain ⟨k1791,qk1791⟩ : ∃ k,k=Z3h a836 k1742 n1792:=⟨_,rfl⟩
    try rw [← qk1791] at h
    refine Z0<|Z2<|Z6 _ (Z9 rfl rfl rfl)<|Z1<|Z0<|Z07 h rfl (fun h=>?_) (fun h=>?_)
    ·refine Zk<|Z0<|Za<|Z0<|cH h fun c1796 h=>bH h fun l1797 el1797 h=>Z2<|Z7 rfl<|Z6 _ (az (fun z=>agg [.ints .u64 2 z]) el1797 (Z0bz (len:=5) (w:=2) rfl rfl (Z09 c1796)))<|Zd (Zr fun b1798 hb1798=>Z7 rfl<|Zd (Zp (q:=[.ints .u64 2 (l1797)]) rfl rfl rfl rfl rfl .here<|Z1<|Z0<|bH h fun z1800 ez1800 h=>cH h fun c1801 h=>bH h fun z1802 ez1802 h=>bH h fun z1803 ez1803 h=>Z2<|Z6 _ (Z4g rfl)<|Z6 _ (iz ez1800 (Z1a rfl .here rfl))<|Z7 rfl<|Z6 _ (Ze7 rfl Zfk (xadd ez1802 ez1803 c1801))<|Z7 rfl<|Z6 _ (Z37 rfl rfl)<|Z6 _ (Z37 rfl rfl)<|Z7 rfl<|Z7 rfl<|Z1<|Z0<|bH h fun z1805 ez1805 h=>cH h fun c1806 h=>bH h fun l1807 el1807 h=>Z2<|Z7 rfl<|Z7 rfl<|Z6 _ (iz ez1805 (Z9 rfl rfl rfl))<|Z6 _ (Z0v rfl rfl (Z09 c1806))<|Zd (Z1e (q:=[.ints .u64 5 (l1807)]) (base:=0) el1807 rfl rfl rfl (Z01 c1806) rfl (.there .here)<|Z1<|bH h fun z1809 ez1809 h=>bH h fun z1810 ez1810 h=>bH h fun z1811 ez1811 h=>bH h fun z1812 ez1812 h=>bH h fun z1813 ez1813 h=>Z2<|Z6 _ (Z4g rfl)<|Z6 _ (iz ez1809 (Z1a rfl .here rfl))<|Z7 rfl<|Z6 _ (iz ez1810 (Z9 rfl rfl rfl))<|Z6 _ (iz ez1811 (Zid rfl rfl (by decide)))<|Z7 rfl<|Z6 _ (iz ez1812 (Z4i rfl rfl (by decide)))<|Z6 _ (iz ez1813 (Z9 rfl rfl rfl))<|Z7 rfl<|Z1<|bH h fun z1815 ez1815 h=>Z2<|Z6 _ (iz ez1815 (Z9 rfl rfl rfl))<|Z7 rfl<|Z1 ?_)))
     rw [qk1791] at h
     exact ⟨n1792,Nat.lt_succ_self _,z1813,z1815,l1807,h,⟨⟨rfl,rfl,rfl,rfl,rfl,trivial⟩,(.one (.there .here) (.one (.there .here) (.one (.there .here) (.one (.there .here) (.one (.there .here) .nil)))))⟩⟩
    ·exact Zv _ rfl<|⟨i1788,a1790,h,⟨⟨rfl,rfl,rfl,trivial⟩,(.one .here (.one .here (.one .here (.one .here (.one .here .nil)))))⟩⟩
  ·rintro t m ⟨i1740,a1741,h,hF⟩
   refine Zg hF ?_
   clear hF
   subst qk1742
   refine Z0<|Z2<|Zd (Zr fun b1817 hb1817=>Z1<|Z0<|oH h fun y1819 ey1819 h=>Z2<|Z7 rfl<|Zd (Z2i (mS:=[_]) rfl (Z6p.perm .here) (fun w hw=>Z6r  ey1819 (Zaj hw (mS:=[_]) (Z6p.perm .here)) ) fun v1820 Msv1820 R1821=>?_))
   obtain ⟨rfl,rfl⟩:=R1821
   refine Z1<|Z0<|bH h fun z1823 ez1823 h=>bH h fun z1824 ez1824 h=>cH h fun c1825 h=>bH h fun z1826 ez1826 h=>bH h fun z1827 ez1827 h=>Z2<|Z6 _ (Z4g rfl)<|Z6 _ (iz ez1823 (Z1a rfl .here rfl))<|Z6 _ (Z0v rfl rfl (by decide))<|Z6 _ (iz ez1824 (Z1a rfl (.there .here) rfl))<|Z6 _ (Ze7 rfl Zfk (xadd ez1826 ez1827 c1825))<|Z7 rfl<|Z6 _ (Z37 rfl rfl)<|Z6 _ (Z37 rfl rfl)<|Z7 rfl<|Z7 rfl<|Z1<|Z0<|bH h fun z1829 ez1829 h=>bH h fun l1830 el1830 h=>Z2<|Z7 rfl<|Z6 _ (iz ez1829 (Z9 rfl rfl rfl))<|Z6 _ (Z0v rfl rfl (by decide))<|Zd (Z5i (q:=[.ints .u64 5 (l1830)]) (congrArg (fun z=>([.ints .u64 5 (z)]:List Seg)) el1830.symm) rfl rfl rfl rfl (.there .here)<|Z1<|Z0<|bH h fun z1832 ez1832 h=>bH h fun z1833 ez1833 h=>bH h fun z1834 ez1834 h=>bH h fun z1835 ez1835 h=>bH h fun z1836 ez1836 h=>bH h fun z1837 ez1837 h=>bH h fun z1838 ez1838 h=>bH h fun l1839 el1839 h=>Z2<|Z6 _ (Z0v rfl rfl (by decide))<|Z6 _ (iz ez1832 (Z1a rfl (.there .here) rfl))<|Z6 _ (Z4g rfl)<|Z6 _ (iz ez1833 (Z1a rfl .here rfl))<|Z7 rfl<|Z6 _ (iz ez1834 (Z9 rfl rfl rfl))<|Z6 _ (iz ez1835 (Zid rfl rfl (by decide)))<|Z7 rfl<|Z6 _ (iz ez1836 (Z4i rfl rfl (by decide)))<|Z6 _ (iz ez1837 (Z9 rfl rfl rfl))<|Z6 _ (iz ez1838 (Z9 rfl rfl rfl))<|Z6 _ (Z0v rfl rfl (by decide))<|Zd (Z5i (q:=[.ints .u64 5 (l1839)]) (congrArg (fun z=>([.ints .u64 5 (z)]:List Seg)) el1839.symm) rfl rfl rfl rfl (.there .here)<|Z1<|Z0<|oH h fun y1841 ey1841 h=>Z2<|Z6 _ (Z00 (p:=[.ints .u64 5 (l1839)]) rfl (.there .here) rfl)<|Z6 _ (Z0g rfl (Z28 ey1841))<|Zd (Zp (q:=[.ints .u64 5 (y1841)]) rfl rfl rfl rfl rfl (.there (.there (.there .here)))<|Z1<|Zm ?_)))
   revert h; refine Zw fun h=>?_
   subst h
   exact ⟨_,(.cons (.agg rfl (.there (.there (.there .here))) rfl) .nil),rfl⟩
def Z1y (p0:List Int):OL :=
 opt (Z1c p0 p0) fun y5 =>
 some y5
theorem Z4b {W:World} {r:(List Int)} {p0:List Int} (h:Z1y p0=some r)  :
    Calls Tryz.prog 123 [agg [.ints .u64 5 (p0)]].toArray W (Z2s W (agg [.ints .u64 5 (r)])):=by
 unfold Z1y at h
 refine Zc mo Z0y4 rfl ?_
 refine Z0<|Z2<|Zd (Z0e (s:=[.ints .u64 5 (p0)]) rfl fun b2 hb2=>Zd (Zr fun b3 hb3=>Z1<|Z0<|oH h fun y5 ey5 h=>Z2<|Z6 _ (Z00 (p:=[.ints .u64 5 (p0)]) rfl (.there .here) rfl)<|Z6 _ (Z00 (p:=[.ints .u64 5 (p0)]) rfl (.there .here) rfl)<|Z6 _ (Z0g rfl (Z13 ey5))<|Zd (Zp (q:=[.ints .u64 5 (y5)]) rfl rfl rfl rfl rfl .here<|Z1<|Zm ?_)))
 revert h; refine Zw fun h=>?_
 subst h
 exact ⟨_,(.cons (.agg rfl .here rfl) .nil),rfl⟩
def Za4 (p0:Int):OL :=
 bnd (([p0,0,0,0,0]:List Int)) fun z4 =>
 opt (Z27 z4) fun y5 =>
 some y5
theorem Zib {W:World} {r:(List Int)} {p0:Int} (h:Za4 p0=some r)  :
    Calls Tryz.prog 188 [.int .u64 (p0)].toArray W (Z2s W (agg [.ints .u64 5 (r)])):=by
 unfold Za4 at h
 refine Zc mo Z0zm rfl ?_
 refine Z0<|Z2<|Zd (Zr fun b2 hb2=>Z1<|Z0<|bH h fun z4 ez4 h=>oH h fun y5 ey5 h=>Z2<|Z7 rfl<|Z6 _ (az (fun z=>agg [.ints .u64 5 z]) ez4 (Zgu (.one rfl rfl rfl BdR.nil)))<|Z6 _ (Z0g rfl (Z28 ey5))<|Zd (Zp (q:=[.ints .u64 5 (y5)]) rfl rfl rfl rfl rfl .here<|Z1<|Zm ?_))
 revert h; refine Zw fun h=>?_
 subst h
 exact ⟨_,(.cons (.agg rfl .here rfl) .nil),rfl⟩
def Z73 (p0:List Int) (p1:List Int) (k102:(List Int)→OL) (k161:(Int)→(List Int)→OL) (i159:Int) (a160:List Int):OL :=
 br ((decide (i159≥0))) (
 jn (fun (a178:List Int)=>bnd (IntKind.wrap .i64 (i159-1)) fun z194 =>
 k161 z194 a178) fun k179=>opt (Z1y a160) fun y181 =>
 bnd (IntKind.wrap .i64 (Int.tdiv i159 8)) fun z183 =>
 chk (inB z183 32) <|
 bnd (p1.getD (z183).toNat 0) fun z185 =>
 bnd (Int.tmod i159 8) fun z186 =>
 chk (decide (0≤z186)) <|
 bnd (Zn .u8 z185 z186) fun z188 =>
 bnd (Z4 .and .u8 z188 1) fun z189 =>
 br ((z189==1)) (
 opt (Z1c y181 p0) fun y192 =>
 k179 y192
 ) (
 k179 y181
 )
 ) (
 k102 a160
 )
def Z3y (p0:List Int) (p1:List Int) (k102:(List Int)→OL):Nat→(Int)→(List Int)→OL
  | 0,_,_=>none
  | n+1,i159,a160=>Z73 p0 p1 k102 (Z3y p0 p1 k102 n) i159 a160
def Zdh (p0:List Int) (p1:List Int):OL :=
 opt (Za4 1) fun y6 =>
 jn (fun (a101:List Int)=>some a101) fun k102=>Z3y p0 p1 k102 big 255 y6
theorem Zku {W:World} {r:(List Int)} {p0:List Int} {p1:List Int} (h:Zdh p0 p1=some r)  :
    Calls Tryz.prog 153 [agg [.ints .u64 5 (p0)],agg [.ints .u8 32 (p1)]].toArray W (Z2s W (agg [.ints .u64 5 (r)])):=by
 unfold Zdh at h
 refine Zc mo Z0ys rfl ?_
 refine Z0<|Z2<|Zd (Z0e (s:=[.ints .u64 5 (p0)]) rfl fun b2 hb2=>Zd (Z0e (s:=[.ints .u8 32 (p1)]) rfl fun b3 hb3=>Zd (Zr fun b4 hb4=>Z1<|Z0<|oH h fun y6 ey6 h=>Z2<|Z6 _ (Z0g rfl (Zib ey6))<|Zd (Zr fun b7 hb7=>Zd (Zp (q:=[.ints .u64 5 (y6)]) rfl rfl rfl rfl rfl .here<|Z1<|Z0<|Z0<|Z2<|Z7 rfl<|Z1<|jH h fun k102 qk102 h=>Zh (G:=fun t m=>∃ (a101:List Int),k102 a101=some r∧Fit [(4,.pointer (some ⟨b4,0,none⟩)),(5,.pointer (some ⟨b7,0,none⟩))] (ck b7 80 [.ints .u64 5 (a101)]::(ck b4 80 [.ints .u64 5 ((List.replicate 5 0))]::(ck b3 22 [.ints .u8 32 (p1)]::(ck b2 80 [.ints .u64 5 (p0)] :: [])))) t m) ?_ ?_)))))
 ·refine Za<|Zo (fun n162 t m=>∃ (i159:Int) (a160:List Int),Z3y p0 p1 k102 n162 i159 a160=some r∧Fit [(2,.pointer (some ⟨b2,0,none⟩)),(3,.pointer (some ⟨b3,0,none⟩)),(4,.pointer (some ⟨b4,0,none⟩)),(5,.pointer (some ⟨b7,0,none⟩)),(6,.int .i64 (i159))] (ck b7 80 [.ints .u64 5 (a160)]::(ck b4 80 [.ints .u64 5 ((List.replicate 5 0))]::(ck b3 22 [.ints .u8 32 (p1)]::(ck b2 80 [.ints .u64 5 (p0)] :: [])))) t m) big ?_ ?_
  ·exact ⟨255,y6,h,⟨⟨rfl,rfl,rfl,rfl,rfl,trivial⟩,(.one .here (.one .here (.one .here (.one .here .nil))))⟩⟩
  ·rintro n162 t m ⟨i159,a160,h,hF⟩
   refine Zg hF ?_
   clear hF
   rcases n162 with _ | n162
   · exact Z05 h
   have h:Z73 p0 p1 k102 (Z3y p0 p1 k102 n162) i159 a160=some r:=h
   unfold Z73 at h
   obtain ⟨k161,qk161⟩ : ∃ k,k=Z3y p0 p1 k102 n162:=⟨_,rfl⟩
   try rw [← qk161] at h
   refine Z0<|Z0<|Z2<|Z7 rfl<|Z6 _ (Z9 rfl rfl rfl)<|Z1<|Z07 h rfl (fun h=>?_) (fun h=>?_)
   ·refine Zk<|Z0<|jH h fun k179 qk179 h=>Zh (G:=fun t m=>∃ (a178:List Int),k179 a178=some r∧Fit [(2,.pointer (some ⟨b2,0,none⟩)),(3,.pointer (some ⟨b3,0,none⟩)),(4,.pointer (some ⟨b4,0,none⟩)),(5,.pointer (some ⟨b7,0,none⟩)),(6,.int .i64 (i159))] (ck b7 80 [.ints .u64 5 (a178)]::(ck b4 80 [.ints .u64 5 ((List.replicate 5 0))]::(ck b3 22 [.ints .u8 32 (p1)]::(ck b2 80 [.ints .u64 5 (p0)] :: [])))) t m) ?_ ?_
    ·refine Za<|Z0<|oH h fun y181 ey181 h=>Z2<|Z6 _ (Z00 (p:=[.ints .u64 5 (a160)]) rfl .here rfl)<|Z6 _ (Z0g rfl (Z4b ey181))<|Zd (Zp (q:=[.ints .u64 5 (y181)]) rfl rfl rfl rfl rfl .here<|Z1<|Z0<|bH h fun z183 ez183 h=>cH h fun c184 h=>bH h fun z185 ez185 h=>bH h fun z186 ez186 h=>cH h fun c187 h=>bH h fun z188 ez188 h=>bH h fun z189 ez189 h=>Z2<|Z7 rfl<|Z6 _ (iz ez183 (Z98 rfl rfl (by decide)))<|Z6 _ (Z0v rfl rfl (Z09 c184))<|Z6 _ (iz ez185 (Z2e (base:=0) rfl (.there (.there .here)) rfl (Z01 c184)))<|Z7 rfl<|Z6 _ (iz ez186 (Zah rfl rfl (by decide)))<|Z6 _ (iz ez188 (Z4i rfl rfl (of_decide_eq_true c187)))<|Z6 _ (iz ez189 (Z9 rfl rfl rfl))<|Z6 _ (Z9 rfl rfl rfl)<|Z1<|Z07 h rfl (fun h=>?_) (fun h=>?_))
     ·exact oH h fun y192 ey192 h=>Z2<|Z6 _ (Z00 (p:=[.ints .u64 5 (y181)]) rfl .here rfl)<|Z6 _ (Z00 (p:=[.ints .u64 5 (p0)]) rfl (.there (.there (.there .here))) rfl)<|Z6 _ (Z0g rfl (Z13 ey192))<|Zd (Zp (q:=[.ints .u64 5 (y192)]) rfl rfl rfl rfl rfl .here<|Z1<|⟨y192,h,⟨⟨rfl,rfl,rfl,rfl,rfl,trivial⟩,(.one .here (.one .here (.one .here (.one .here .nil))))⟩⟩)
     ·exact Zk<|⟨y181,h,⟨⟨rfl,rfl,rfl,rfl,rfl,trivial⟩,(.one .here (.one .here (.one .here (.one .here .nil))))⟩⟩
    ·rintro t m ⟨a178,h,hF⟩
     refine Zg hF ?_
     clear hF
     subst qk179
     refine bH h fun z194 ez194 h=>Z2<|Z7 rfl<|Z6 _ (iz ez194 (Z9 rfl rfl rfl))<|Z7 rfl<|Z1 ?_
     rw [qk161] at h
     exact ⟨n162,Nat.lt_succ_self _,z194,a178,h,⟨⟨rfl,rfl,rfl,rfl,rfl,trivial⟩,(.one .here (.one .here (.one .here (.one .here .nil))))⟩⟩
   ·exact Zv _ rfl<|⟨a160,h,⟨⟨rfl,rfl,trivial⟩,(.one .here (.one .here (.one .here (.one .here .nil))))⟩⟩
 ·rintro t m ⟨a101,h,hF⟩
  refine Zg hF ?_
  clear hF
  subst qk102
  refine Z0<|Z2<|Z6 _ (Z00 (p:=[.ints .u64 5 (a101)]) rfl .here rfl)<|Zd (Zp (q:=[.ints .u64 5 (a101)]) rfl rfl rfl rfl rfl (.there .here)<|Z1<|Zm ?_)
  revert h; refine Zw fun h=>?_
  subst h
  exact ⟨_,(.cons (.agg rfl (.there .here) rfl) .nil),rfl⟩
def Zb4 (k34:(List Int)→OL) (k52:(Int)→(List Int)→OL) (i50:Int) (a51:List Int):OL :=
 br ((decide (i50<32))) (
 chk (inB i50 32) <|
 bnd (Z21 a51 (i50).toNat 255) fun l59 =>
 bnd (IntKind.wrap .i64 (i50+1)) fun z61 =>
 k52 z61 l59
 ) (
 k34 a51
 )
def Z6d (k34:(List Int)→OL):Nat→(Int)→(List Int)→OL
  | 0,_,_=>none
  | n+1,i50,a51=>Zb4 k34 (Z6d k34 n) i50 a51
def Zcf (p0:Int) (p1:Int):OL :=
 jn (fun (a33:List Int)=>bnd (Z21 a33 0 p0) fun l63 =>
 bnd (Z21 l63 31 p1) fun l64 =>
 some l64) fun k34=>Z6d k34 big 0 (List.replicate 32 0)
theorem Zic {W:World} {r:(List Int)} {p0:Int} {p1:Int} (h:Zcf p0 p1=some r)  :
    Calls Tryz.prog 154 [.int .u8 (p0),.int .u8 (p1)].toArray W (Z2s W (agg [.ints .u8 32 (r)])):=by
 unfold Zcf at h
 refine Zc mo Z0yt rfl ?_
 refine Z0<|Z2<|Zd (Zr fun b2 hb2=>Z1<|Z0<|Z2<|Zd (Zr fun b4 hb4=>Z1<|Z0<|Z0<|Z2<|Z7 rfl<|Z1<|jH h fun k34 qk34 h=>Zh (G:=fun t m=>∃ (a33:List Int),k34 a33=some r∧Fit [(0,.int .u8 (p0)),(1,.int .u8 (p1)),(4,.pointer (some ⟨b2,0,none⟩)),(5,.pointer (some ⟨b4,0,none⟩))] (ck b4 22 [.ints .u8 32 (a33)]::(ck b2 22 [.ints .u8 32 ((List.replicate 32 0))] :: [])) t m) ?_ ?_))
 ·refine Za<|Zo (fun n53 t m=>∃ (i50:Int) (a51:List Int),Z6d k34 n53 i50 a51=some r∧Fit [(0,.int .u8 (p0)),(1,.int .u8 (p1)),(4,.pointer (some ⟨b2,0,none⟩)),(5,.pointer (some ⟨b4,0,none⟩)),(7,.int .i64 (i50))] (ck b4 22 [.ints .u8 32 (a51)]::(ck b2 22 [.ints .u8 32 ((List.replicate 32 0))] :: [])) t m) big ?_ ?_
  ·exact ⟨0,(List.replicate 32 0),h,⟨⟨rfl,rfl,rfl,rfl,rfl,trivial⟩,(.one .here (.one .here .nil))⟩⟩
  ·rintro n53 t m ⟨i50,a51,h,hF⟩
   refine Zg hF ?_
   clear hF
   rcases n53 with _ | n53
   · exact Z05 h
   have h:Zb4 k34 (Z6d k34 n53) i50 a51=some r:=h
   unfold Zb4 at h
   obtain ⟨k52,qk52⟩ : ∃ k,k=Z6d k34 n53:=⟨_,rfl⟩
   try rw [← qk52] at h
   refine Z0<|Z2<|Z6 _ (Z9 rfl rfl rfl)<|Z1<|Z0<|Z07 h rfl (fun h=>?_) (fun h=>?_)
   ·refine Zk<|Z0<|Za<|Z0<|Z2<|Z7 rfl<|Z7 rfl<|Z1<|cH h fun c58 h=>bH h fun l59 el59 h=>Z2<|Z7 rfl<|Z6 _ (Z0v rfl rfl (Z09 c58))<|Zd (Z1e (q:=[.ints .u8 32 (l59)]) (base:=0) el59 rfl rfl rfl (Z01 c58) rfl .here<|Z1<|bH h fun z61 ez61 h=>Z2<|Z6 _ (iz ez61 (Z9 rfl rfl rfl))<|Z7 rfl<|Z1 ?_)
    rw [qk52] at h
    exact ⟨n53,Nat.lt_succ_self _,z61,l59,h,⟨⟨rfl,rfl,rfl,rfl,rfl,trivial⟩,(.one .here (.one .here .nil))⟩⟩
   ·exact Zv _ rfl<|⟨a51,h,⟨⟨rfl,rfl,rfl,rfl,trivial⟩,(.one .here (.one .here .nil))⟩⟩
 ·rintro t m ⟨a33,h,hF⟩
  refine Zg hF ?_
  clear hF
  subst qk34
  refine Z0<|bH h fun l63 el63 h=>bH h fun l64 el64 h=>Z2<|Z7 rfl<|Z7 rfl<|Z6 _ (Z0v rfl rfl (by decide))<|Zd (Z5i (q:=[.ints .u8 32 (l63)]) (congrArg (fun z=>([.ints .u8 32 (z)]:List Seg)) el63.symm) rfl rfl rfl rfl .here<|Z6 _ (Z0v rfl rfl (by decide))<|Zd (Z5i (q:=[.ints .u8 32 (l64)]) (congrArg (fun z=>([.ints .u8 32 (z)]:List Seg)) el64.symm) rfl rfl rfl rfl .here<|Z1<|Z0<|Z2<|Z6 _ (Z00 (p:=[.ints .u8 32 (l64)]) rfl .here rfl)<|Zd (Zp (q:=[.ints .u8 32 (l64)]) rfl rfl rfl rfl rfl (.there .here)<|Z1<|Zm ?_)))
  revert h; refine Zw fun h=>?_
  subst h
  exact ⟨_,(.cons (.agg rfl (.there .here) rfl) .nil),rfl⟩
def Z70 (p0:List Int):OL :=
 opt (Zcf 235 127) fun y5 =>
 opt (Zdh p0 y5) fun y6 =>
 some y6
theorem Zh1 {W:World} {r:(List Int)} {p0:List Int} (h:Z70 p0=some r)  :
    Calls Tryz.prog 90 [agg [.ints .u64 5 (p0)]].toArray W (Z2s W (agg [.ints .u64 5 (r)])):=by
 unfold Z70 at h
 refine Zc mo ok90 rfl ?_
 refine Z0<|Z2<|Zd (Z0e (s:=[.ints .u64 5 (p0)]) rfl fun b2 hb2=>Zd (Zr fun b3 hb3=>Z1<|Z0<|oH h fun y5 ey5 h=>oH h fun y6 ey6 h=>Zu<|Z8 _ (Z0g rfl (Zic ey5))<|Zq _ (Z00 (p:=[.ints .u64 5 (p0)]) rfl (.there .here) rfl)<|Z8 _ (Z0g rfl (Zku ey6))<|Z1b rfl (Zp (q:=[.ints .u64 5 (y6)]) rfl rfl rfl rfl rfl .here<|Z03<|Zm ?_)))
 revert h; refine Zw fun h=>?_
 subst h
 exact ⟨_,(.cons (.agg rfl .here rfl) .nil),rfl⟩
def Zb3 (y5:(List Int)) (k107:(List Int)→OL) (k163:(Int)→(List Int)→OL) (i161:Int) (a162:List Int):OL :=
 br ((decide (i161<32))) (
 bnd (IntKind.wrap .i64 (8*i161)) fun z169 =>
 bnd (IntKind.wrap .i64 (Int.tdiv z169 51)) fun z170 =>
 bnd (IntKind.wrap .i64 (8*i161)) fun z171 =>
 bnd (Int.tmod z171 51) fun z172 =>
 chk (inB z170 5) <|
 bnd (y5.getD (z170).toNat 0) fun z175 =>
 chk (decide (0≤z172)) <|
 bnd (Zn .u64 z175 z172) fun z177 =>
 jn (fun (i188:Int)=>bnd (IntKind.wrap .u8 i188) fun z200 =>
 chk (inB i161 32) <|
 bnd (Z21 a162 (i161).toNat z200) fun l202 =>
 bnd (IntKind.wrap .i64 (i161+1)) fun z204 =>
 k163 z204 l202) fun k189=>br (((decide (z172>43))&&(decide (z170<4)))) (
 bnd (IntKind.wrap .i64 (z170+1)) fun z192 =>
 chk (inB z192 5) <|
 bnd (y5.getD (z192).toNat 0) fun z194 =>
 bnd (IntKind.wrap .i64 (51-z172)) fun z195 =>
 chk (decide (0≤z195)) <|
 bnd (Zj .u64 z194 z195) fun z197 =>
 bnd (Z4 .or .u64 z177 z197) fun z198 =>
 k189 z198
 ) (
 k189 z177
 )
 ) (
 k107 a162
 )
def Z53 (y5:(List Int)) (k107:(List Int)→OL):Nat→(Int)→(List Int)→OL
  | 0,_,_=>none
  | n+1,i161,a162=>Zb3 y5 k107 (Z53 y5 k107 n) i161 a162
def Za2 (p0:List Int):OL :=
 opt (Z27 p0) fun y5 =>
 jn (fun (a106:List Int)=>some a106) fun k107=>Z53 y5 k107 big 0 (List.replicate 32 0)
theorem Zi9 {W:World} {r:(List Int)} {p0:List Int} (h:Za2 p0=some r)  :
    Calls Tryz.prog 91 [agg [.ints .u64 5 (p0)]].toArray W (Z2s W (agg [.ints .u8 32 (r)])):=by
 unfold Za2 at h
 refine Zc mo ok91 rfl ?_
 refine Z0<|Z2<|Zd (Z0e (s:=[.ints .u64 5 (p0)]) rfl fun b2 hb2=>Zd (Zr fun b3 hb3=>Z1<|Z0<|oH h fun y5 ey5 h=>Z2<|Z6 _ (Z00 (p:=[.ints .u64 5 (p0)]) rfl (.there .here) rfl)<|Z6 _ (Z0g rfl (Z28 ey5))<|Zd (Zp (q:=[.ints .u64 5 (y5)]) rfl rfl rfl rfl rfl (.there .here)<|Z1<|Z0<|Z2<|Zd (Zr fun b7 hb7=>Z1<|Z0<|Z0<|Z2<|Z7 rfl<|Z1<|jH h fun k107 qk107 h=>Zh (G:=fun t m=>∃ (a106:List Int),k107 a106=some r∧Fit [(2,.pointer (some ⟨b3,0,none⟩)),(3,.pointer (some ⟨b7,0,none⟩))] (ck b7 22 [.ints .u8 32 (a106)]::(ck b3 22 [.ints .u8 32 ((List.replicate 32 0))]::(ck b2 80 [.ints .u64 5 (y5)] :: []))) t m) ?_ ?_))))
 ·refine Za<|Zo (fun n164 t m=>∃ (i161:Int) (a162:List Int),Z53 y5 k107 n164 i161 a162=some r∧Fit [(1,.pointer (some ⟨b2,0,none⟩)),(2,.pointer (some ⟨b3,0,none⟩)),(3,.pointer (some ⟨b7,0,none⟩)),(10,.int .i64 (i161))] (ck b7 22 [.ints .u8 32 (a162)]::(ck b3 22 [.ints .u8 32 ((List.replicate 32 0))]::(ck b2 80 [.ints .u64 5 (y5)] :: []))) t m) big ?_ ?_
  ·exact ⟨0,(List.replicate 32 0),h,⟨⟨rfl,rfl,rfl,rfl,trivial⟩,(.one .here (.one .here (.one .here .nil)))⟩⟩
  ·rintro n164 t m ⟨i161,a162,h,hF⟩
   refine Zg hF ?_
   clear hF
   rcases n164 with _ | n164
   · exact Z05 h
   have h:Zb3 y5 k107 (Z53 y5 k107 n164) i161 a162=some r:=h
   unfold Zb3 at h
   obtain ⟨k163,qk163⟩ : ∃ k,k=Z53 y5 k107 n164:=⟨_,rfl⟩
   try rw [← qk163] at h
   refine Z0<|Z2<|Z6 _ (Z9 rfl rfl rfl)<|Z1<|Z0<|Z07 h rfl (fun h=>?_) (fun h=>?_)
   ·refine Zk<|Z0<|Za<|Z0<|Z2<|Z7 rfl<|Z7 rfl<|Z1<|Z0<|bH h fun z169 ez169 h=>bH h fun z170 ez170 h=>bH h fun z171 ez171 h=>bH h fun z172 ez172 h=>Z2<|Z7 rfl<|Z6 _ (iz ez169 (Z9 rfl rfl rfl))<|Z6 _ (iz ez170 (Z98 rfl rfl (by decide)))<|Z7 rfl<|Z6 _ (iz ez171 (Z9 rfl rfl rfl))<|Z6 _ (iz ez172 (Zah rfl rfl (by decide)))<|Z7 rfl<|Z7 rfl<|Z1<|Z0<|cH h fun c174 h=>bH h fun z175 ez175 h=>cH h fun c176 h=>bH h fun z177 ez177 h=>Z2<|Z7 rfl<|Z6 _ (Z0v rfl rfl (Z09 c174))<|Z6 _ (iz ez175 (Z2e (base:=0) rfl (.there (.there .here)) rfl (Z01 c174)))<|Z7 rfl<|Z6 _ (iz ez177 (Z4i rfl rfl (of_decide_eq_true c176)))<|Z7 rfl<|Z1<|Z0<|Z0<|Z2<|Z7 rfl<|Z6 _ (Z9 rfl rfl rfl)<|Z7 rfl<|Z00p rfl rfl rfl (fun hg1=>Zie rfl _ (Z0u rfl) (Zie rfl _ (Z9 rfl rfl rfl) (Ze9))) (fun hg1=>rfl) rfl<|Z1<|jH h fun k189 qk189 h=>Zh (G:=fun t m=>∃ (i188:Int),k189 i188=some r∧Fit [(1,.pointer (some ⟨b2,0,none⟩)),(2,.pointer (some ⟨b3,0,none⟩)),(3,.pointer (some ⟨b7,0,none⟩)),(4,.int .i64 (i161)),(7,.int .u64 (i188)),(10,.int .i64 (i161))] (ck b7 22 [.ints .u8 32 (a162)]::(ck b3 22 [.ints .u8 32 ((List.replicate 32 0))]::(ck b2 80 [.ints .u64 5 (y5)] :: []))) t m) ?_ ?_
    ·refine Z07 h rfl (fun h=>?_) (fun h=>?_)
     ·exact bH h fun z192 ez192 h=>cH h fun c193 h=>bH h fun z194 ez194 h=>bH h fun z195 ez195 h=>cH h fun c196 h=>bH h fun z197 ez197 h=>bH h fun z198 ez198 h=>Z2<|Z7 rfl<|Z7 rfl<|Z6 _ (iz ez192 (Z9 rfl rfl rfl))<|Z6 _ (Z0v rfl rfl (Z09 c193))<|Z6 _ (iz ez194 (Z2e (base:=0) rfl (.there (.there .here)) rfl (Z01 c193)))<|Z7 rfl<|Z6 _ (iz ez195 (Z9 rfl rfl rfl))<|Z6 _ (iz ez197 (Zid rfl rfl (of_decide_eq_true c196)))<|Z6 _ (iz ez198 (Z9 rfl rfl rfl))<|Z7 rfl<|Z1<|⟨z198,h,⟨⟨rfl,rfl,rfl,rfl,rfl,rfl,trivial⟩,(.one .here (.one .here (.one .here .nil)))⟩⟩
     ·exact Zk<|⟨z177,h,⟨⟨rfl,rfl,rfl,rfl,rfl,rfl,trivial⟩,(.one .here (.one .here (.one .here .nil)))⟩⟩
    ·rintro t m ⟨i188,h,hF⟩
     refine Zg hF ?_
     clear hF
     subst qk189
     refine bH h fun z200 ez200 h=>cH h fun c201 h=>bH h fun l202 el202 h=>Z2<|Z7 rfl<|Z7 rfl<|Z6 _ (iz ez200 (Z3k rfl))<|Z6 _ (Z0v rfl rfl (Z09 c201))<|Zd (Z1e (q:=[.ints .u8 32 (l202)]) (base:=0) el202 rfl rfl rfl (Z01 c201) rfl .here<|Z1<|bH h fun z204 ez204 h=>Z2<|Z6 _ (iz ez204 (Z9 rfl rfl rfl))<|Z7 rfl<|Z1 ?_)
     rw [qk163] at h
     exact ⟨n164,Nat.lt_succ_self _,z204,l202,h,⟨⟨rfl,rfl,rfl,rfl,trivial⟩,(.one .here (.one .here (.one .here .nil)))⟩⟩
   ·exact Zv _ rfl<|⟨a162,h,⟨⟨rfl,rfl,trivial⟩,(.one .here (.one .here (.one .here .nil)))⟩⟩
 ·rintro t m ⟨a106,h,hF⟩
  refine Zg hF ?_
  clear hF
  subst qk107
  refine Z0<|Z2<|Z6 _ (Z00 (p:=[.ints .u8 32 (a106)]) rfl .here rfl)<|Zd (Zp (q:=[.ints .u8 32 (a106)]) rfl rfl rfl rfl rfl (.there .here)<|Z1<|Zm ?_)
  revert h; refine Zw fun h=>?_
  subst h
  exact ⟨_,(.cons (.agg rfl (.there .here) rfl) .nil),rfl⟩
def Za3 (p0:List Int):Option (Bool) :=
 opt (Z27 p0) fun y4 =>
 bnd (y4.getD 0 0) fun z5 =>
 bnd (Z4 .and .u64 z5 1) fun z6 =>
 some (z6==1)
theorem Zia {W:World} {r:Bool} {p0:List Int} (h:Za3 p0=some r)  :
    Calls Tryz.prog 93 [agg [.ints .u64 5 (p0)]].toArray W (Z2s W (.bool (r))):=by
 unfold Za3 at h
 refine Zc mo ok93 rfl ?_
 refine Z0<|Z2<|Zd (Z0e (s:=[.ints .u64 5 (p0)]) rfl fun b2 hb2=>Z7 rfl<|Z1<|Z0<|oH h fun y4 ey4 h=>bH h fun z5 ez5 h=>bH h fun z6 ez6 h=>Z2<|Z6 _ (Z00 (p:=[.ints .u64 5 (p0)]) rfl .here rfl)<|Z6 _ (Z0g rfl (Z28 ey4))<|Z6 _ (iz ez5 (Zi0 (len:=5) (z:=0) rfl rfl (by decide)))<|Z6 _ (iz ez6 (Z9 rfl rfl rfl))<|Z6 _ (Z9 rfl rfl rfl)<|Z7 rfl<|Z1<|Zm ?_)
 revert h; refine Zw fun h=>?_
 subst h
 exact ⟨_,(.cons (.tmp rfl) .nil),rfl⟩
structure Zi where
  gX:List Int
  gY:List Int
  gZ:List Int
  gT:List Int
def Z1t:Zi:=⟨(List.replicate 5 0),(List.replicate 5 0),(List.replicate 5 0),(List.replicate 5 0)⟩
def Z5f (p0:Zi):OL :=
 opt (Z70 p0.gZ) fun y5 =>
 opt (Z1c p0.gY y5) fun y8 =>
 opt (Za2 y8) fun y9 =>
 opt (Z1c p0.gX y5) fun y12 =>
 opt (Za3 y12) fun y13 =>
 jn (fun (a19:List Int)=>some a19) fun k20=>br (y13) (
 bnd (y9.getD 31 0) fun z23 =>
 bnd (Z4 .or .u8 z23 128) fun z24 =>
 bnd (Z21 y9 31 z24) fun l25 =>
 k20 l25
 ) (
 k20 y9
 )
theorem Zbd {W:World} {r:(List Int)} {p0:Zi} (h:Z5f p0=some r)  :
    Calls Tryz.prog 50 [agg [.ints .u64 5 (p0.gX),.ints .u64 5 (p0.gY),.ints .u64 5 (p0.gZ),.ints .u64 5 (p0.gT)]].toArray W (Z2s W (agg [.ints .u8 32 (r)])):=by
 unfold Z5f at h
 refine Zc mo ok50 rfl ?_
 refine Z0<|Z2<|Zd (Z0e (s:=[.ints .u64 5 (p0.gX),.ints .u64 5 (p0.gY),.ints .u64 5 (p0.gZ),.ints .u64 5 (p0.gT)]) rfl fun b2 hb2=>Zd (Zr fun b3 hb3=>Z1<|Z0<|oH h fun y5 ey5 h=>Z2<|Z6 _ (Z4g rfl)<|Z6 _ (Z00 (p:=[.ints .u64 5 (p0.gZ)]) rfl (.there .here) rfl)<|Z6 _ (Z0g rfl (Zh1 ey5))<|Zd (Zr fun b6 hb6=>Zd (Zp (q:=[.ints .u64 5 (y5)]) rfl rfl rfl rfl rfl .here<|Z1<|Z0<|oH h fun y8 ey8 h=>oH h fun y9 ey9 h=>Z2<|Z6 _ (Z4g rfl)<|Z6 _ (Z00 (p:=[.ints .u64 5 (p0.gY)]) rfl (.there (.there .here)) rfl)<|Z6 _ (Z00 (p:=[.ints .u64 5 (y5)]) rfl .here rfl)<|Z6 _ (Z0g rfl (Z13 ey8))<|Z6 _ (Z0g rfl (Zi9 ey9))<|Zd (Zr fun b10 hb10=>Zd (Zp (q:=[.ints .u8 32 (y9)]) rfl rfl rfl rfl rfl .here<|Z1<|Z0<|Z0<|oH h fun y12 ey12 h=>oH h fun y13 ey13 h=>Z2<|Z6 _ (Z4g rfl)<|Z6 _ (Z00 (p:=[.ints .u64 5 (p0.gX)]) rfl (.there (.there (.there .here))) rfl)<|Z6 _ (Z00 (p:=[.ints .u64 5 (y5)]) rfl (.there .here) rfl)<|Z6 _ (Z0g rfl (Z13 ey12))<|Z6 _ (Z0g rfl (Zia ey13))<|Z1<|jH h fun k20 qk20 h=>Zh (G:=fun t m=>∃ (a19:List Int),k20 a19=some r∧Fit [(2,.pointer (some ⟨b3,0,none⟩)),(4,.pointer (some ⟨b10,0,none⟩))] (ck b10 29 [.ints .u8 32 (a19)]::(ck b6 80 [.ints .u64 5 (y5)]::(ck b3 29 [.ints .u8 32 ((List.replicate 32 0))]::(ck b2 82 [.ints .u64 5 (p0.gX),.ints .u64 5 (p0.gY),.ints .u64 5 (p0.gZ),.ints .u64 5 (p0.gT)] :: [])))) t m) ?_ ?_))))))
 ·refine Z07 h rfl (fun h=>?_) (fun h=>?_)
  ·exact bH h fun z23 ez23 h=>bH h fun z24 ez24 h=>bH h fun l25 el25 h=>Z2<|Z6 _ (Z0v rfl rfl (by decide))<|Z6 _ (iz ez23 (Z1a rfl .here rfl))<|Z6 _ (iz ez24 (Z9 rfl rfl rfl))<|Z6 _ (Z0v rfl rfl (by decide))<|Zd (Z5i (q:=[.ints .u8 32 (l25)]) (congrArg (fun z=>([.ints .u8 32 (z)]:List Seg)) el25.symm) rfl rfl rfl rfl .here<|Z1<|⟨l25,h,⟨⟨rfl,rfl,trivial⟩,(.one .here (.one .here (.one .here (.one .here .nil))))⟩⟩)
  ·exact Zk<|⟨y9,h,⟨⟨rfl,rfl,trivial⟩,(.one .here (.one .here (.one .here (.one .here .nil))))⟩⟩
 ·rintro t m ⟨a19,h,hF⟩
  refine Zg hF ?_
  clear hF
  subst qk20
  refine Z0<|Z2<|Z6 _ (Z00 (p:=[.ints .u8 32 (a19)]) rfl .here rfl)<|Zd (Zp (q:=[.ints .u8 32 (a19)]) rfl rfl rfl rfl rfl (.there (.there .here))<|Z1<|Zm ?_)
  revert h; refine Zw fun h=>?_
  subst h
  exact ⟨_,(.cons (.agg rfl (.there (.there .here)) rfl) .nil),rfl⟩
def Z7z:OL :=
 bnd (([1,0,0,0,0]:List Int)) fun z4 =>
 some z4
theorem Za0 {W:World} {r:(List Int)} (h:Z7z=some r)  :
    Calls Tryz.prog 124 [].toArray W (Z2s W (agg [.ints .u64 5 (r)])):=by
 unfold Z7z at h
 refine Zc mo Z0y5 rfl ?_
 refine Z0<|Z2<|Zd (Zr fun b2 hb2=>Z1<|Z0<|bH h fun z4 ez4 h=>Z2<|Z6 _ (az (fun z=>agg [.ints .u64 5 z]) ez4 (Zgu (.one rfl rfl rfl BdR.nil)))<|Zd (Zp (q:=[.ints .u64 5 (z4)]) rfl rfl rfl rfl rfl .here<|Z1<|Zm ?_))
 revert h; refine Zw fun h=>?_
 subst h
 exact ⟨_,(.cons (.agg rfl .here rfl) .nil),rfl⟩
def Z9l:Option (Zi) :=
 opt (Z7z) fun y4 =>
 opt (Z7z) fun y5 =>
 some (⟨(List.replicate 5 0),y4,y5,(List.replicate 5 0)⟩:Zi)
theorem Zda {W:World} {r:Zi} (h:Z9l=some r)  :
    Calls Tryz.prog 134 [].toArray W (Z2s W (agg [.ints .u64 5 (r.gX),.ints .u64 5 (r.gY),.ints .u64 5 (r.gZ),.ints .u64 5 (r.gT)])):=by
 unfold Z9l at h
 refine Zc mo Z0yc rfl ?_
 refine Z0<|Z2<|Zd (Zr fun b2 hb2=>Z1<|Z0<|oH h fun y4 ey4 h=>oH h fun y5 ey5 h=>Z2<|Z6 _ (Z0g rfl (Za0 ey4))<|Z6 _ (Z0g rfl (Za0 ey5))<|Z6 _ (Zgu (q:=[.ints .u64 5 ((List.replicate 5 0)),.ints .u64 5 (y4),.ints .u64 5 (y5),.ints .u64 5 ((List.replicate 5 0))]) (.agg rfl rfl rfl (.agg rfl rfl rfl BdR.nil)))<|Zd (Zp (q:=[.ints .u64 5 ((List.replicate 5 0)),.ints .u64 5 (y4),.ints .u64 5 (y5),.ints .u64 5 ((List.replicate 5 0))]) rfl rfl rfl rfl rfl .here<|Z1<|Zm ?_))
 revert h; refine Zw fun h=>?_
 subst h
 exact ⟨_,(.cons (.agg rfl .here rfl) .nil),rfl⟩
def Zde (y7:(List Int)) (k50:(List Int)→OL) (k76:(Int)→(List Int)→OL) (i74:Int) (a75:List Int):OL :=
 br ((decide (i74<5))) (
 chk (inB i74 5) <|
 chk (inB i74 5) <|
 bnd (a75.getD (i74).toNat 0) fun z84 =>
 bnd (y7.getD (i74).toNat 0) fun z85 =>
 bnd (IntKind.wrap .u64 (z84+z85)) fun z86 =>
 chk (inB i74 5) <|
 bnd (Z21 a75 (i74).toNat z86) fun l88 =>
 bnd (IntKind.wrap .i64 (i74+1)) fun z90 =>
 k76 z90 l88
 ) (
 k50 a75
 )
def Z6z (y7:(List Int)) (k50:(List Int)→OL):Nat→(Int)→(List Int)→OL
  | 0,_,_=>none
  | n+1,i74,a75=>Zde y7 k50 (Z6z y7 k50 n) i74 a75
def Z2c (p0:List Int) (p1:List Int):OL :=
 opt (Z45 p0) fun y6 =>
 opt (Z45 p1) fun y7 =>
 jn (fun (a49:List Int)=>opt (Z27 a49) fun y92 =>
 some y92) fun k50=>Z6z y7 k50 big 0 y6
theorem Z2a {W:World} {r:(List Int)} {p0:List Int} {p1:List Int} (h:Z2c p0 p1=some r)  :
    Calls Tryz.prog 127 [agg [.ints .u64 5 (p0)],agg [.ints .u64 5 (p1)]].toArray W (Z2s W (agg [.ints .u64 5 (r)])):=by
 unfold Z2c at h
 refine Zc mo Z0y7 rfl ?_
 refine Z0<|Z2<|Zd (Z0e (s:=[.ints .u64 5 (p0)]) rfl fun b2 hb2=>Zd (Z0e (s:=[.ints .u64 5 (p1)]) rfl fun b3 hb3=>Zd (Zr fun b4 hb4=>Z1<|Z0<|oH h fun y6 ey6 h=>oH h fun y7 ey7 h=>Zu<|Zq _ (Z00 (p:=[.ints .u64 5 (p0)]) rfl (.there (.there .here)) rfl)<|Z8 _ (Z0g rfl (Z3u ey6))<|Zq _ (Z00 (p:=[.ints .u64 5 (p1)]) rfl (.there .here) rfl)<|Z8 _ (Z0g rfl (Z3u ey7))<|Z1b rfl (Zp (q:=[.ints .u64 5 (y6)]) rfl rfl rfl rfl rfl (.there (.there .here))<|Z0v2 rfl (Zp (q:=[.ints .u64 5 (y7)]) rfl rfl rfl rfl rfl (.there .here)<|Z03<|Z0<|Z0<|Z2<|Z7 rfl<|Z1<|jH h fun k50 qk50 h=>Zh (G:=fun t m=>∃ (a49:List Int),k50 a49=some r∧Fit [(2,.pointer (some ⟨b2,0,none⟩)),(4,.pointer (some ⟨b4,0,none⟩))] (ck b4 80 [.ints .u64 5 ((List.replicate 5 0))]::(ck b3 80 [.ints .u64 5 (y7)]::(ck b2 80 [.ints .u64 5 (a49)] :: []))) t m) ?_ ?_)))))
 ·refine Za<|Zo (fun n77 t m=>∃ (i74:Int) (a75:List Int),Z6z y7 k50 n77 i74 a75=some r∧Fit [(2,.pointer (some ⟨b2,0,none⟩)),(3,.pointer (some ⟨b3,0,none⟩)),(4,.pointer (some ⟨b4,0,none⟩)),(10,.int .i64 (i74))] (ck b4 80 [.ints .u64 5 ((List.replicate 5 0))]::(ck b3 80 [.ints .u64 5 (y7)]::(ck b2 80 [.ints .u64 5 (a75)] :: []))) t m) big ?_ ?_
  ·exact ⟨0,y6,h,⟨⟨rfl,rfl,rfl,rfl,trivial⟩,(.one .here (.one .here (.one .here .nil)))⟩⟩
  ·rintro n77 t m ⟨i74,a75,h,hF⟩
   refine Zg hF ?_
   clear hF
   rcases n77 with _ | n77
   · exact Z05 h
   have h:Zde y7 k50 (Z6z y7 k50 n77) i74 a75=some r:=h
   unfold Zde at h
   obtain ⟨k76,qk76⟩ : ∃ k,k=Z6z y7 k50 n77:=⟨_,rfl⟩
   try rw [← qk76] at h
   refine Z0<|Z2<|Z6 _ (Z9 rfl rfl rfl)<|Z1<|Z0<|Z07 h rfl (fun h=>?_) (fun h=>?_)
   ·refine Zk<|Z0<|Za<|Z0<|Z2<|Z7 rfl<|Z7 rfl<|Z1<|cH h fun c82 h=>cH h fun c83 h=>bH h fun z84 ez84 h=>bH h fun z85 ez85 h=>bH h fun z86 ez86 h=>cH h fun c87 h=>bH h fun l88 el88 h=>Zu<|Z8 _ (Z0u rfl)<|Z8 _ (Z0v rfl rfl (Z09 c82))<|Z8 _ (Z0u rfl)<|Z8 _ (Z0v rfl rfl (Z09 c83))<|Zq _ (iz ez84 (Z2e (base:=0) rfl (.there (.there .here)) rfl (Z01 c82)))<|Zq _ (iz ez85 (Z2e (base:=0) rfl (.there .here) rfl (Z01 c83)))<|Z8 _ (iz ez86 (Z9 rfl rfl rfl))<|Z8 _ (Z0v rfl rfl (Z09 c87))<|Z1b rfl (Z1e (q:=[.ints .u64 5 (l88)]) (base:=0) el88 rfl rfl rfl (Z01 c87) rfl (.there (.there .here))<|Z03<|bH h fun z90 ez90 h=>Z2<|Z6 _ (iz ez90 (Z9 rfl rfl rfl))<|Z7 rfl<|Z1 ?_)
    rw [qk76] at h
    exact ⟨n77,Nat.lt_succ_self _,z90,l88,h,⟨⟨rfl,rfl,rfl,rfl,trivial⟩,(.one .here (.one .here (.one .here .nil)))⟩⟩
   ·exact Zv _ rfl<|⟨a75,h,⟨⟨rfl,rfl,trivial⟩,(.one .here (.one .here (.one .here .nil)))⟩⟩
 ·rintro t m ⟨a49,h,hF⟩
  refine Zg hF ?_
  clear hF
  subst qk50
  refine Z0<|oH h fun y92 ey92 h=>Z2<|Z6 _ (Z00 (p:=[.ints .u64 5 (a49)]) rfl (.there (.there .here)) rfl)<|Z6 _ (Z0g rfl (Z28 ey92))<|Zd (Zp (q:=[.ints .u64 5 (y92)]) rfl rfl rfl rfl rfl .here<|Z1<|Zm ?_)
  revert h; refine Zw fun h=>?_
  subst h
  exact ⟨_,(.cons (.agg rfl .here rfl) .nil),rfl⟩
def Zdg (y5:(List Int)) (k45:(List Int)→OL) (k66:(Int)→(List Int)→OL) (i64:Int) (a65:List Int):OL :=
 br ((decide (i64<5))) (
 chk (inB i64 5) <|
 bnd (y5.getD (i64).toNat 0) fun z72 =>
 bnd (IntKind.wrap .u64 (4503599627370494-z72)) fun z73 =>
 chk (inB i64 5) <|
 bnd (Z21 a65 (i64).toNat z73) fun l75 =>
 bnd (IntKind.wrap .i64 (i64+1)) fun z77 =>
 k66 z77 l75
 ) (
 k45 a65
 )
def Z72 (y5:(List Int)) (k45:(List Int)→OL):Nat→(Int)→(List Int)→OL
  | 0,_,_=>none
  | n+1,i64,a65=>Zdg y5 k45 (Z72 y5 k45 n) i64 a65
def Zdf (p0:List Int):OL :=
 opt (Z27 p0) fun y5 =>
 bnd (y5.getD 0 0) fun z7 =>
 bnd (IntKind.wrap .u64 (4503599627370458-z7)) fun z8 =>
 bnd (([z8,0,0,0,0]:List Int)) fun z9 =>
 jn (fun (a44:List Int)=>opt (Z27 a44) fun y79 =>
 some y79) fun k45=>Z72 y5 k45 big 1 z9
theorem Zkt {W:World} {r:(List Int)} {p0:List Int} (h:Zdf p0=some r)  :
    Calls Tryz.prog 130 [agg [.ints .u64 5 (p0)]].toArray W (Z2s W (agg [.ints .u64 5 (r)])):=by
 unfold Zdf at h
 refine Zc mo Z0y8 rfl ?_
 refine Z0<|Z2<|Zd (Z0e (s:=[.ints .u64 5 (p0)]) rfl fun b2 hb2=>Zd (Zr fun b3 hb3=>Z1<|Z0<|oH h fun y5 ey5 h=>Z2<|Z6 _ (Z00 (p:=[.ints .u64 5 (p0)]) rfl (.there .here) rfl)<|Z6 _ (Z0g rfl (Z28 ey5))<|Zd (Zp (q:=[.ints .u64 5 (y5)]) rfl rfl rfl rfl rfl (.there .here)<|Z1<|Z0<|bH h fun z7 ez7 h=>bH h fun z8 ez8 h=>bH h fun z9 ez9 h=>Z2<|Z6 _ (Z0v rfl rfl (by decide))<|Z6 _ (iz ez7 (Z1a rfl (.there .here) rfl))<|Z6 _ (iz ez8 (Z9 rfl rfl rfl))<|Z6 _ (az (fun z=>agg [.ints .u64 5 z]) ez9 (Zgu (.one rfl rfl rfl BdR.nil)))<|Zd (Zr fun b10 hb10=>Zd (Zp (q:=[.ints .u64 5 (z9)]) rfl rfl rfl rfl rfl .here<|Z1<|Z0<|Z0<|Z2<|Z7 rfl<|Z1<|jH h fun k45 qk45 h=>Zh (G:=fun t m=>∃ (a44:List Int),k45 a44=some r∧Fit [(2,.pointer (some ⟨b3,0,none⟩)),(3,.pointer (some ⟨b10,0,none⟩))] (ck b10 80 [.ints .u64 5 (a44)]::(ck b3 80 [.ints .u64 5 ((List.replicate 5 0))]::(ck b2 80 [.ints .u64 5 (y5)] :: []))) t m) ?_ ?_)))))
 ·refine Za<|Zo (fun n67 t m=>∃ (i64:Int) (a65:List Int),Z72 y5 k45 n67 i64 a65=some r∧Fit [(1,.pointer (some ⟨b2,0,none⟩)),(2,.pointer (some ⟨b3,0,none⟩)),(3,.pointer (some ⟨b10,0,none⟩)),(4,.int .i64 (i64))] (ck b10 80 [.ints .u64 5 (a65)]::(ck b3 80 [.ints .u64 5 ((List.replicate 5 0))]::(ck b2 80 [.ints .u64 5 (y5)] :: []))) t m) big ?_ ?_
  ·exact ⟨1,z9,h,⟨⟨rfl,rfl,rfl,rfl,trivial⟩,(.one .here (.one .here (.one .here .nil)))⟩⟩
  ·rintro n67 t m ⟨i64,a65,h,hF⟩
   refine Zg hF ?_
   clear hF
   rcases n67 with _ | n67
   · exact Z05 h
   have h:Zdg y5 k45 (Z72 y5 k45 n67) i64 a65=some r:=h
   unfold Zdg at h
   obtain ⟨k66,qk66⟩ : ∃ k,k=Z72 y5 k45 n67:=⟨_,rfl⟩
   try rw [← qk66] at h
   refine Z0<|Z0<|Z2<|Z7 rfl<|Z6 _ (Z9 rfl rfl rfl)<|Z1<|Z07 h rfl (fun h=>?_) (fun h=>?_)
   ·refine Zk<|Z0<|Za<|cH h fun c71 h=>bH h fun z72 ez72 h=>bH h fun z73 ez73 h=>cH h fun c74 h=>bH h fun l75 el75 h=>Z2<|Z7 rfl<|Z7 rfl<|Z6 _ (Z0v rfl rfl (Z09 c71))<|Z6 _ (iz ez72 (Z2e (base:=0) rfl (.there (.there .here)) rfl (Z01 c71)))<|Z6 _ (iz ez73 (Z9 rfl rfl rfl))<|Z6 _ (Z0v rfl rfl (Z09 c74))<|Zd (Z1e (q:=[.ints .u64 5 (l75)]) (base:=0) el75 rfl rfl rfl (Z01 c74) rfl .here<|Z1<|bH h fun z77 ez77 h=>Z2<|Z7 rfl<|Z6 _ (iz ez77 (Z9 rfl rfl rfl))<|Z7 rfl<|Z1 ?_)
    rw [qk66] at h
    exact ⟨n67,Nat.lt_succ_self _,z77,l75,h,⟨⟨rfl,rfl,rfl,rfl,trivial⟩,(.one .here (.one .here (.one .here .nil)))⟩⟩
   ·exact Zv _ rfl<|⟨a65,h,⟨⟨rfl,rfl,trivial⟩,(.one .here (.one .here (.one .here .nil)))⟩⟩
 ·rintro t m ⟨a44,h,hF⟩
  refine Zg hF ?_
  clear hF
  subst qk45
  refine Z0<|oH h fun y79 ey79 h=>Z2<|Z6 _ (Z00 (p:=[.ints .u64 5 (a44)]) rfl .here rfl)<|Z6 _ (Z0g rfl (Z28 ey79))<|Zd (Zp (q:=[.ints .u64 5 (y79)]) rfl rfl rfl rfl rfl (.there .here)<|Z1<|Zm ?_)
  revert h; refine Zw fun h=>?_
  subst h
  exact ⟨_,(.cons (.agg rfl (.there .here) rfl) .nil),rfl⟩
def Z4c (p0:List Int) (p1:List Int):OL :=
 opt (Zdf p1) fun y6 =>
 opt (Z2c p0 y6) fun y7 =>
 some y7
theorem Z54 {W:World} {r:(List Int)} {p0:List Int} {p1:List Int} (h:Z4c p0 p1=some r)  :
    Calls Tryz.prog 126 [agg [.ints .u64 5 (p0)],agg [.ints .u64 5 (p1)]].toArray W (Z2s W (agg [.ints .u64 5 (r)])):=by
 unfold Z4c at h
 refine Zc mo Z0y6 rfl ?_
 refine Z0<|Z2<|Zd (Z0e (s:=[.ints .u64 5 (p0)]) rfl fun b2 hb2=>Zd (Z0e (s:=[.ints .u64 5 (p1)]) rfl fun b3 hb3=>Zd (Zr fun b4 hb4=>Z1<|Z0<|oH h fun y6 ey6 h=>oH h fun y7 ey7 h=>Zu<|Zq _ (Z00 (p:=[.ints .u64 5 (p0)]) rfl (.there (.there .here)) rfl)<|Zq _ (Z00 (p:=[.ints .u64 5 (p1)]) rfl (.there .here) rfl)<|Z8 _ (Z0g rfl (Zkt ey6))<|Z8 _ (Z0g rfl (Z2a ey7))<|Z1b rfl (Zp (q:=[.ints .u64 5 (y7)]) rfl rfl rfl rfl rfl .here<|Z03<|Zm ?_))))
 revert h; refine Zw fun h=>?_
 subst h
 exact ⟨_,(.cons (.agg rfl .here rfl) .nil),rfl⟩
def Z6y (p0:List Int) (p1:List Int) (p2:List Int) (p3:List Int):Option (Zi) :=
 opt (Z1c p0 p1) fun y8 =>
 opt (Z1c p2 p3) fun y9 =>
 opt (Z1c p1 p2) fun y10 =>
 opt (Z1c p0 p3) fun y11 =>
 some (⟨y8,y9,y10,y11⟩:Zi)
theorem Zbe {W:World} {r:Zi} {p0:List Int} {p1:List Int} {p2:List Int} {p3:List Int} (h:Z6y p0 p1 p2 p3=some r)  :
    Calls Tryz.prog 191 [agg [.ints .u64 5 (p0)],agg [.ints .u64 5 (p1)],agg [.ints .u64 5 (p2)],agg [.ints .u64 5 (p3)]].toArray W (Z2s W (agg [.ints .u64 5 (r.gX),.ints .u64 5 (r.gY),.ints .u64 5 (r.gZ),.ints .u64 5 (r.gT)])):=by
 unfold Z6y at h
 refine Zc mo Z0zn rfl ?_
 refine Z0<|Z2<|Zd (Z0e (s:=[.ints .u64 5 (p0)]) rfl fun b2 hb2=>Zd (Z0e (s:=[.ints .u64 5 (p1)]) rfl fun b3 hb3=>Zd (Z0e (s:=[.ints .u64 5 (p2)]) rfl fun b4 hb4=>Zd (Z0e (s:=[.ints .u64 5 (p3)]) rfl fun b5 hb5=>Zd (Zr fun b6 hb6=>Z1<|Z0<|oH h fun y8 ey8 h=>oH h fun y9 ey9 h=>oH h fun y10 ey10 h=>oH h fun y11 ey11 h=>Zu<|Zq _ (Z00 (p:=[.ints .u64 5 (p0)]) rfl (.there (.there (.there (.there .here)))) rfl)<|Zq _ (Z00 (p:=[.ints .u64 5 (p1)]) rfl (.there (.there (.there .here))) rfl)<|Z8 _ (Z0g rfl (Z13 ey8))<|Zq _ (Z00 (p:=[.ints .u64 5 (p2)]) rfl (.there (.there .here)) rfl)<|Zq _ (Z00 (p:=[.ints .u64 5 (p3)]) rfl (.there .here) rfl)<|Z8 _ (Z0g rfl (Z13 ey9))<|Zq _ (Z00 (p:=[.ints .u64 5 (p1)]) rfl (.there (.there (.there .here))) rfl)<|Zq _ (Z00 (p:=[.ints .u64 5 (p2)]) rfl (.there (.there .here)) rfl)<|Z8 _ (Z0g rfl (Z13 ey10))<|Zq _ (Z00 (p:=[.ints .u64 5 (p0)]) rfl (.there (.there (.there (.there .here)))) rfl)<|Zq _ (Z00 (p:=[.ints .u64 5 (p3)]) rfl (.there .here) rfl)<|Z8 _ (Z0g rfl (Z13 ey11))<|Z8 _ (Zgu (q:=[.ints .u64 5 (y8),.ints .u64 5 (y9),.ints .u64 5 (y10),.ints .u64 5 (y11)]) (.agg rfl rfl rfl (.agg rfl rfl rfl (.agg rfl rfl rfl (.agg rfl rfl rfl BdR.nil)))))<|Z1b rfl (Zp (q:=[.ints .u64 5 (y8),.ints .u64 5 (y9),.ints .u64 5 (y10),.ints .u64 5 (y11)]) rfl rfl rfl rfl rfl .here<|Z03<|Zm ?_))))))
 revert h; refine Zw fun h=>?_
 subst h
 exact ⟨_,(.cons (.agg rfl .here rfl) .nil),rfl⟩
def Z7e:OL :=
 bnd (([1859910466990425,932731440258426,1072319116312658,1815898335770999,633789495995903]:List Int)) fun z4 =>
 some z4
theorem Zg0 {W:World} {r:(List Int)} (h:Z7e=some r)  :
    Calls Tryz.prog 192 [].toArray W (Z2s W (agg [.ints .u64 5 (r)])):=by
 unfold Z7e at h
 refine Zc mo Z0zo rfl ?_
 refine Z0<|Z2<|Zd (Zr fun b2 hb2=>Z1<|Z0<|bH h fun z4 ez4 h=>Z2<|Z6 _ (az (fun z=>agg [.ints .u64 5 z]) ez4 (Zgu (.one rfl rfl rfl (.one rfl rfl rfl (.one rfl rfl rfl (.one rfl rfl rfl (.one rfl rfl rfl BdR.nil)))))))<|Zd (Zp (q:=[.ints .u64 5 (z4)]) rfl rfl rfl rfl rfl .here<|Z1<|Zm ?_))
 revert h; refine Zw fun h=>?_
 subst h
 exact ⟨_,(.cons (.agg rfl .here rfl) .nil),rfl⟩
def Z9y (p0:Zi) (p1:Zi):Option (Zi) :=
 opt (Z4c p0.gY p0.gX) fun y6 =>
 opt (Z4c p1.gY p1.gX) fun y7 =>
 opt (Z1c y6 y7) fun y8 =>
 opt (Z2c p0.gY p0.gX) fun y11 =>
 opt (Z2c p1.gY p1.gX) fun y12 =>
 opt (Z1c y11 y12) fun y13 =>
 opt (Z7e) fun y16 =>
 opt (Z1c p0.gT y16) fun y19 =>
 opt (Z1c y19 p1.gT) fun y20 =>
 opt (Z2c p0.gZ p0.gZ) fun y23 =>
 opt (Z1c y23 p1.gZ) fun y24 =>
 opt (Z4c y13 y8) fun y27 =>
 opt (Z4c y24 y20) fun y28 =>
 opt (Z2c y24 y20) fun y29 =>
 opt (Z2c y13 y8) fun y30 =>
 opt (Z6y y27 y28 y29 y30) fun y31 =>
 some y31
theorem Zf9 {W:World} {r:Zi} {p0:Zi} {p1:Zi} (h:Z9y p0 p1=some r)  :
    Calls Tryz.prog 136 [agg [.ints .u64 5 (p0.gX),.ints .u64 5 (p0.gY),.ints .u64 5 (p0.gZ),.ints .u64 5 (p0.gT)],agg [.ints .u64 5 (p1.gX),.ints .u64 5 (p1.gY),.ints .u64 5 (p1.gZ),.ints .u64 5 (p1.gT)]].toArray W (Z2s W (agg [.ints .u64 5 (r.gX),.ints .u64 5 (r.gY),.ints .u64 5 (r.gZ),.ints .u64 5 (r.gT)])):=by
 unfold Z9y at h
 refine Zc mo Z0ye rfl ?_
 refine Z0<|Z2<|Zd (Z0e (s:=[.ints .u64 5 (p0.gX),.ints .u64 5 (p0.gY),.ints .u64 5 (p0.gZ),.ints .u64 5 (p0.gT)]) rfl fun b2 hb2=>Zd (Z0e (s:=[.ints .u64 5 (p1.gX),.ints .u64 5 (p1.gY),.ints .u64 5 (p1.gZ),.ints .u64 5 (p1.gT)]) rfl fun b3 hb3=>Zd (Zr fun b4 hb4=>Z1<|Z0<|oH h fun y6 ey6 h=>oH h fun y7 ey7 h=>oH h fun y8 ey8 h=>Zu<|Z8 _ (Z4g rfl)<|Z8 _ (Z4g rfl)<|Z8 _ (Z4g rfl)<|Z8 _ (Z4g rfl)<|Zq _ (Z00 (p:=[.ints .u64 5 (p0.gY)]) rfl (.there (.there .here)) rfl)<|Zq _ (Z00 (p:=[.ints .u64 5 (p0.gX)]) rfl (.there (.there .here)) rfl)<|Z8 _ (Z0g rfl (Z54 ey6))<|Zq _ (Z00 (p:=[.ints .u64 5 (p1.gY)]) rfl (.there .here) rfl)<|Zq _ (Z00 (p:=[.ints .u64 5 (p1.gX)]) rfl (.there .here) rfl)<|Z8 _ (Z0g rfl (Z54 ey7))<|Z8 _ (Z0g rfl (Z13 ey8))<|Z5d (Zr fun b9 hb9=>⟨(by repeat (first | exact Sup.refl _ | apply Sup.cons | apply Sup.app)),Z1b rfl (Zp (q:=[.ints .u64 5 (y8)]) rfl rfl rfl rfl rfl .here (Z03 (Z0 (oH h fun y11 ey11 h=>oH h fun y12 ey12 h=>oH h fun y13 ey13 h=>Zu (Z8 _ (Z4g rfl) (Z8 _ (Z4g rfl) (Z8 _ (Z4g rfl) (Z8 _ (Z4g rfl) (Zq _ (Z00 (p:=[.ints .u64 5 (p0.gY)]) rfl (.there (.there (.there .here))) rfl) (Zq _ (Z00 (p:=[.ints .u64 5 (p0.gX)]) rfl (.there (.there (.there .here))) rfl) (Z8 _ (Z0g rfl (Z2a ey11)) (Zq _ (Z00 (p:=[.ints .u64 5 (p1.gY)]) rfl (.there (.there .here)) rfl) (Zq _ (Z00 (p:=[.ints .u64 5 (p1.gX)]) rfl (.there (.there .here)) rfl) (Z8 _ (Z0g rfl (Z2a ey12)) (Z8 _ (Z0g rfl (Z13 ey13)) (Z5d (Zr fun b14 hb14=>⟨(by repeat (first | exact Sup.refl _ | apply Sup.cons | apply Sup.app)),Z1b rfl (Zp (q:=[.ints .u64 5 (y13)]) rfl rfl rfl rfl rfl .here (Z03 (Z0 (oH h fun y16 ey16 h=>Z2 (Z6 _ (Z0g rfl (Zg0 ey16)) (Zd (Zr fun b17 hb17=>Zd (Zp (q:=[.ints .u64 5 (y16)]) rfl rfl rfl rfl rfl .here (Z1 (Z0 (oH h fun y19 ey19 h=>oH h fun y20 ey20 h=>Zu (Z8 _ (Z4g rfl) (Z8 _ (Z4g rfl) (Zq _ (Z00 (p:=[.ints .u64 5 (p0.gT)]) rfl (.there (.there (.there (.there (.there .here))))) rfl) (Zq _ (Z00 (p:=[.ints .u64 5 (y16)]) rfl .here rfl) (Z8 _ (Z0g rfl (Z13 ey19)) (Zq _ (Z00 (p:=[.ints .u64 5 (p1.gT)]) rfl (.there (.there (.there (.there .here)))) rfl) (Z8 _ (Z0g rfl (Z13 ey20)) (Z5d (Zr fun b21 hb21=>⟨(by repeat (first | exact Sup.refl _ | apply Sup.cons | apply Sup.app)),Z1b rfl (Zp (q:=[.ints .u64 5 (y20)]) rfl rfl rfl rfl rfl .here (Z03 (Z0 (oH h fun y23 ey23 h=>oH h fun y24 ey24 h=>Zu (Z8 _ (Z4g rfl) (Z8 _ (Z4g rfl) (Z8 _ (Z4g rfl) (Zq _ (Z00 (p:=[.ints .u64 5 (p0.gZ)]) rfl (.there (.there (.there (.there (.there (.there .here)))))) rfl) (Zq _ (Z00 (p:=[.ints .u64 5 (p0.gZ)]) rfl (.there (.there (.there (.there (.there (.there .here)))))) rfl) (Z8 _ (Z0g rfl (Z2a ey23)) (Zq _ (Z00 (p:=[.ints .u64 5 (p1.gZ)]) rfl (.there (.there (.there (.there (.there .here))))) rfl) (Z8 _ (Z0g rfl (Z13 ey24)) (Z5d (Zr fun b25 hb25=>⟨(by repeat (first | exact Sup.refl _ | apply Sup.cons | apply Sup.app)),Z1b rfl (Zp (q:=[.ints .u64 5 (y24)]) rfl rfl rfl rfl rfl .here (Z03 (Z0 (oH h fun y27 ey27 h=>oH h fun y28 ey28 h=>oH h fun y29 ey29 h=>oH h fun y30 ey30 h=>oH h fun y31 ey31 h=>Zu (Zq _ (Z00 (p:=[.ints .u64 5 (y13)]) rfl (.there (.there (.there .here))) rfl) (Zq _ (Z00 (p:=[.ints .u64 5 (y8)]) rfl (.there (.there (.there (.there .here)))) rfl) (Z8 _ (Z0g rfl (Z54 ey27)) (Zq _ (Z00 (p:=[.ints .u64 5 (y24)]) rfl .here rfl) (Zq _ (Z00 (p:=[.ints .u64 5 (y20)]) rfl (.there .here) rfl) (Z8 _ (Z0g rfl (Z54 ey28)) (Zq _ (Z00 (p:=[.ints .u64 5 (y24)]) rfl .here rfl) (Zq _ (Z00 (p:=[.ints .u64 5 (y20)]) rfl (.there .here) rfl) (Z8 _ (Z0g rfl (Z2a ey29)) (Zq _ (Z00 (p:=[.ints .u64 5 (y13)]) rfl (.there (.there (.there .here))) rfl) (Zq _ (Z00 (p:=[.ints .u64 5 (y8)]) rfl (.there (.there (.there (.there .here)))) rfl) (Z8 _ (Z0g rfl (Z2a ey30)) (Z8 _ (Z0g rfl (Zbe ey31)) (Z1b rfl (Zp (q:=[.ints .u64 5 (y31.gX),.ints .u64 5 (y31.gY),.ints .u64 5 (y31.gZ),.ints .u64 5 (y31.gT)]) rfl rfl rfl rfl rfl (.there (.there (.there (.there (.there .here))))) (Z03 (Zm ?_)))))))))))))))))))))⟩))))))))))))))⟩))))))))))))))))))))⟩)))))))))))))))))⟩))))
 revert h; refine Zw fun h=>?_
 subst h
 exact ⟨_,(.cons (.agg rfl (.there (.there (.there (.there (.there .here))))) rfl) .nil),rfl⟩
abbrev Z0j:El (Zi):=⟨20,fun x=>cells [.ints .u64 5 (x.gX),.ints .u64 5 (x.gY),.ints .u64 5 (x.gZ),.ints .u64 5 (x.gT)],fun x=>by rw [cells_length]; rfl,fun x=>(Z4z Z8o (Z4z Z8o (Z4z Z8o (Z4z Z8o Zci)))),by decide,Z1t⟩
def Z38 (p0:Zi) (k48:(List (Zi))→Option ((List (Zi)))) (k72:(Int)→(List (Zi))→Option ((List (Zi)))) (i70:Int) (a71:List (Zi)):Option ((List (Zi))) :=
 br ((decide (i70<15))) (
 bnd (IntKind.wrap .i64 (i70+1)) fun z78 =>
 chk (inB i70 16) <|
 bnd (a71.getD (i70).toNat Z1t) fun x80 =>
 opt (Z9y x80 p0) fun y81 =>
 chk (inB z78 16) <|
 bnd (Zcp Z1t a71 (z78).toNat y81) fun l83 =>
 bnd (IntKind.wrap .i64 (i70+1)) fun z85 =>
 k72 z85 l83
 ) (
 k48 a71
 )
def Z1x (p0:Zi) (k48:(List (Zi))→Option ((List (Zi)))):Nat→(Int)→(List (Zi))→Option ((List (Zi)))
  | 0,_,_=>none
  | n+1,i70,a71=>Z38 p0 k48 (Z1x p0 k48 n) i70 a71
def Z5g (p0:Zi):Option ((List (Zi))) :=
 opt (Z9l) fun y7 =>
 bnd (Zcp Z1t (List.replicate 16 Z1t) 0 y7) fun l8 =>
 jn (fun (a47:List (Zi))=>some a47) fun k48=>Z1x p0 k48 big 0 l8
theorem Zf2 {W:World} {r:(List (Zi))} {p0:Zi} (h:Z5g p0=some r)  :
    Calls Tryz.prog 133 [agg [.ints .u64 5 (p0.gX),.ints .u64 5 (p0.gY),.ints .u64 5 (p0.gZ),.ints .u64 5 (p0.gT)]].toArray W (Z2s W (agg [.rows 20 16 (Z9j Z0j (r))])):=by
 unfold Z5g at h
 refine Zc mo Z0yb rfl ?_
 refine Z0<|Z2<|Zd (Z0e (s:=[.ints .u64 5 (p0.gX),.ints .u64 5 (p0.gY),.ints .u64 5 (p0.gZ),.ints .u64 5 (p0.gT)]) rfl fun b2 hb2=>Zd (Zja (z':=[.rows 20 16 (Z9j Z0j ((List.replicate 16 Z1t)))]) (Zcd (E:=Z0j) rfl rfl) fun b3 hb3=>Z1<|Z0<|Z2<|Zd (Zja (z':=[.rows 20 16 (Z9j Z0j ((List.replicate 16 Z1t)))]) (Zcd (E:=Z0j) rfl rfl) fun b5 hb5=>Z1<|Z0<|oH h fun y7 ey7 h=>bH h fun l8 el8 h=>Z2<|Z6 _ (Z08 (vs:=[]) (v:=agg [.ints .u64 5 (y7.gX),.ints .u64 5 (y7.gY),.ints .u64 5 (y7.gZ),.ints .u64 5 (y7.gT)]) rfl (fun w hw=>Zda (r:=y7) ey7 ))<|Z6 _ (Z0v rfl rfl (by decide))<|Zd (Zjb (q:=[.rows 20 16 (Z9j Z0j (l8))]) (E:=Z0j) (base:=0) (i:=0) (len:=16) el8 rfl rfl rfl rfl (by decide) rfl .here<|Z1<|Z0<|Z0<|Z2<|Z7 rfl<|Z1<|jH h fun k48 qk48 h=>Zh (G:=fun t m=>∃ (a47:List (Zi)),k48 a47=some r∧Fit [(2,.pointer (some ⟨b3,0,none⟩)),(3,.pointer (some ⟨b5,0,none⟩))] (ck b5 166 [.rows 20 16 (Z9j Z0j (a47))]::(ck b3 166 [.rows 20 16 (Z9j Z0j ((List.replicate 16 Z1t)))]::(ck b2 82 [.ints .u64 5 (p0.gX),.ints .u64 5 (p0.gY),.ints .u64 5 (p0.gZ),.ints .u64 5 (p0.gT)] :: []))) t m) ?_ ?_))))
 ·refine Za<|Zo (fun n73 t m=>∃ (i70:Int) (a71:List (Zi)),Z1x p0 k48 n73 i70 a71=some r∧Fit [(1,.pointer (some ⟨b2,0,none⟩)),(2,.pointer (some ⟨b3,0,none⟩)),(3,.pointer (some ⟨b5,0,none⟩)),(7,.int .i64 (i70))] (ck b5 166 [.rows 20 16 (Z9j Z0j (a71))]::(ck b3 166 [.rows 20 16 (Z9j Z0j ((List.replicate 16 Z1t)))]::(ck b2 82 [.ints .u64 5 (p0.gX),.ints .u64 5 (p0.gY),.ints .u64 5 (p0.gZ),.ints .u64 5 (p0.gT)] :: []))) t m) big ?_ ?_
  ·exact ⟨0,l8,h,⟨⟨rfl,rfl,rfl,rfl,trivial⟩,(.one .here (.one .here (.one .here .nil)))⟩⟩
  ·rintro n73 t m ⟨i70,a71,h,hF⟩
   refine Zg hF ?_
   clear hF
   rcases n73 with _ | n73
   · exact Z05 h
   have h:Z38 p0 k48 (Z1x p0 k48 n73) i70 a71=some r:=h
   unfold Z38 at h
   obtain ⟨k72,qk72⟩ : ∃ k,k=Z1x p0 k48 n73:=⟨_,rfl⟩
   try rw [← qk72] at h
   refine Z0<|Z2<|Z6 _ (Z9 rfl rfl rfl)<|Z1<|Z0<|Z07 h rfl (fun h=>?_) (fun h=>?_)
   ·refine Zk<|Z0<|Za<|Z0<|Z2<|Z7 rfl<|Z7 rfl<|Z1<|bH h fun z78 ez78 h=>cH h fun c79 h=>bH h fun x80 ex80 h=>oH h fun y81 ey81 h=>cH h fun c82 h=>bH h fun l83 el83 h=>Zu<|Z8 _ (Z0u rfl)<|Z8 _ (iz ez78 (Z9 rfl rfl rfl))<|Z8 _ (Z0u rfl)<|Z8 _ (Z0v rfl rfl (Z09 c79))<|Zq _ (az (fun x80=>agg [.ints .u64 5 (x80.gX),.ints .u64 5 (x80.gY),.ints .u64 5 (x80.gZ),.ints .u64 5 (x80.gT)]) ex80 (Zlq (base:=0) (w:=20) rfl .here rfl (Z01 c79) rfl rfl rfl))<|Zq _ (Z00 (p:=[.ints .u64 5 (p0.gX),.ints .u64 5 (p0.gY),.ints .u64 5 (p0.gZ),.ints .u64 5 (p0.gT)]) rfl (.there (.there .here)) rfl)<|Z8 _ (Z08 (vs:=[agg [.ints .u64 5 (x80.gX),.ints .u64 5 (x80.gY),.ints .u64 5 (x80.gZ),.ints .u64 5 (x80.gT)],agg [.ints .u64 5 (p0.gX),.ints .u64 5 (p0.gY),.ints .u64 5 (p0.gZ),.ints .u64 5 (p0.gT)]]) (v:=agg [.ints .u64 5 (y81.gX),.ints .u64 5 (y81.gY),.ints .u64 5 (y81.gZ),.ints .u64 5 (y81.gT)]) rfl (fun w hw=>Zf9 (r:=y81) (p0:=x80) (p1:=p0) ey81 ))<|Z8 _ (Z0v rfl rfl (Z09 c82))<|Z1b rfl (Zjb (q:=[.rows 20 16 (Z9j Z0j (l83))]) (E:=Z0j) (base:=0) el83 rfl rfl rfl rfl (Z01 c82) rfl .here<|Z03<|bH h fun z85 ez85 h=>Z2<|Z6 _ (iz ez85 (Z9 rfl rfl rfl))<|Z7 rfl<|Z1 ?_)
    rw [qk72] at h
    exact ⟨n73,Nat.lt_succ_self _,z85,l83,h,⟨⟨rfl,rfl,rfl,rfl,trivial⟩,(.one .here (.one .here (.one .here .nil)))⟩⟩
   ·exact Zv _ rfl<|⟨a71,h,⟨⟨rfl,rfl,trivial⟩,(.one .here (.one .here (.one .here .nil)))⟩⟩
 ·rintro t m ⟨a47,h,hF⟩
  refine Zg hF ?_
  clear hF
  subst qk48
  refine Z0<|Z2<|Z6 _ (Z00 (p:=[.rows 20 16 (Z9j Z0j (a47))]) rfl .here rfl)<|Zd (Zr6 (q:=[.rows 20 16 (Z9j Z0j (a47))]) rfl rfl rfl rfl (Z4z (Zga (E:=Z0j)) Zci) (.there .here)<|Z1<|Zm ?_)
  revert h; refine Zw fun h=>?_
  subst h
  exact ⟨_,(.cons (.agg rfl (.there .here) rfl) .nil),rfl⟩
def Z6x (p0:Zi):Option (Zi) :=
 opt (Z1y p0.gX) fun y5 =>
 opt (Z1y p0.gY) fun y8 =>
 opt (Z1y p0.gZ) fun y11 =>
 opt (Z2c y5 y8) fun y14 =>
 opt (Z2c p0.gX p0.gY) fun y17 =>
 opt (Z1y y17) fun y18 =>
 opt (Z4c y14 y18) fun y19 =>
 opt (Z4c y5 y8) fun y22 =>
 opt (Z2c y11 y11) fun y25 =>
 opt (Z2c y25 y22) fun y26 =>
 opt (Z6y y19 y26 y22 y14) fun y29 =>
 some y29
theorem Zgy {W:World} {r:Zi} {p0:Zi} (h:Z6x p0=some r)  :
    Calls Tryz.prog 135 [agg [.ints .u64 5 (p0.gX),.ints .u64 5 (p0.gY),.ints .u64 5 (p0.gZ),.ints .u64 5 (p0.gT)]].toArray W (Z2s W (agg [.ints .u64 5 (r.gX),.ints .u64 5 (r.gY),.ints .u64 5 (r.gZ),.ints .u64 5 (r.gT)])):=by
 unfold Z6x at h
 refine Zc mo Z0yd rfl ?_
 refine Z0<|Z2<|Zd (Z0e (s:=[.ints .u64 5 (p0.gX),.ints .u64 5 (p0.gY),.ints .u64 5 (p0.gZ),.ints .u64 5 (p0.gT)]) rfl fun b2 hb2=>Zd (Zr fun b3 hb3=>Z1<|Z0<|oH h fun y5 ey5 h=>Z2<|Z6 _ (Z4g rfl)<|Z6 _ (Z00 (p:=[.ints .u64 5 (p0.gX)]) rfl (.there .here) rfl)<|Z6 _ (Z0g rfl (Z4b ey5))<|Zd (Zr fun b6 hb6=>Zd (Zp (q:=[.ints .u64 5 (y5)]) rfl rfl rfl rfl rfl .here<|Z1<|Z0<|oH h fun y8 ey8 h=>Z2<|Z6 _ (Z4g rfl)<|Z6 _ (Z00 (p:=[.ints .u64 5 (p0.gY)]) rfl (.there (.there .here)) rfl)<|Z6 _ (Z0g rfl (Z4b ey8))<|Zd (Zr fun b9 hb9=>Zd (Zp (q:=[.ints .u64 5 (y8)]) rfl rfl rfl rfl rfl .here<|Z1<|Z0<|oH h fun y11 ey11 h=>Z2<|Z6 _ (Z4g rfl)<|Z6 _ (Z00 (p:=[.ints .u64 5 (p0.gZ)]) rfl (.there (.there (.there .here))) rfl)<|Z6 _ (Z0g rfl (Z4b ey11))<|Zd (Zr fun b12 hb12=>Zd (Zp (q:=[.ints .u64 5 (y11)]) rfl rfl rfl rfl rfl .here<|Z1<|Z0<|oH h fun y14 ey14 h=>Z2<|Z6 _ (Z00 (p:=[.ints .u64 5 (y5)]) rfl (.there (.there .here)) rfl)<|Z6 _ (Z00 (p:=[.ints .u64 5 (y8)]) rfl (.there .here) rfl)<|Z6 _ (Z0g rfl (Z2a ey14))<|Zd (Zr fun b15 hb15=>Zd (Zp (q:=[.ints .u64 5 (y14)]) rfl rfl rfl rfl rfl .here<|Z1<|Z0<|oH h fun y17 ey17 h=>oH h fun y18 ey18 h=>oH h fun y19 ey19 h=>Zu<|Z8 _ (Z4g rfl)<|Z8 _ (Z4g rfl)<|Zq _ (Z00 (p:=[.ints .u64 5 (y14)]) rfl .here rfl)<|Zq _ (Z00 (p:=[.ints .u64 5 (p0.gX)]) rfl (.there (.there (.there (.there (.there .here))))) rfl)<|Zq _ (Z00 (p:=[.ints .u64 5 (p0.gY)]) rfl (.there (.there (.there (.there (.there .here))))) rfl)<|Z8 _ (Z0g rfl (Z2a ey17))<|Z8 _ (Z0g rfl (Z4b ey18))<|Z8 _ (Z0g rfl (Z54 ey19))<|Z5d (Zr fun b20 hb20=>⟨(by repeat (first | exact Sup.refl _ | apply Sup.cons | apply Sup.app)),Z1b rfl (Zp (q:=[.ints .u64 5 (y19)]) rfl rfl rfl rfl rfl .here (Z03 (Z0 (oH h fun y22 ey22 h=>Z2 (Z6 _ (Z00 (p:=[.ints .u64 5 (y5)]) rfl (.there (.there (.there (.there .here)))) rfl) (Z6 _ (Z00 (p:=[.ints .u64 5 (y8)]) rfl (.there (.there (.there .here))) rfl) (Z6 _ (Z0g rfl (Z54 ey22)) (Zd (Zr fun b23 hb23=>Zd (Zp (q:=[.ints .u64 5 (y22)]) rfl rfl rfl rfl rfl .here (Z1 (Z0 (oH h fun y25 ey25 h=>oH h fun y26 ey26 h=>Zu (Zq _ (Z00 (p:=[.ints .u64 5 (y11)]) rfl (.there (.there (.there .here))) rfl) (Zq _ (Z00 (p:=[.ints .u64 5 (y11)]) rfl (.there (.there (.there .here))) rfl) (Z8 _ (Z0g rfl (Z2a ey25)) (Zq _ (Z00 (p:=[.ints .u64 5 (y22)]) rfl .here rfl) (Z8 _ (Z0g rfl (Z2a ey26)) (Z5d (Zr fun b27 hb27=>⟨(by repeat (first | exact Sup.refl _ | apply Sup.cons | apply Sup.app)),Z1b rfl (Zp (q:=[.ints .u64 5 (y26)]) rfl rfl rfl rfl rfl .here (Z03 (Z0 (oH h fun y29 ey29 h=>Z2 (Z6 _ (Z00 (p:=[.ints .u64 5 (y19)]) rfl (.there (.there .here)) rfl) (Z6 _ (Z00 (p:=[.ints .u64 5 (y26)]) rfl .here rfl) (Z6 _ (Z00 (p:=[.ints .u64 5 (y22)]) rfl (.there .here) rfl) (Z6 _ (Z00 (p:=[.ints .u64 5 (y14)]) rfl (.there (.there (.there .here))) rfl) (Z6 _ (Z0g rfl (Zbe ey29)) (Zd (Zp (q:=[.ints .u64 5 (y29.gX),.ints .u64 5 (y29.gY),.ints .u64 5 (y29.gZ),.ints .u64 5 (y29.gT)]) rfl rfl rfl rfl rfl (.there (.there (.there (.there (.there (.there (.there .here))))))) (Z1 (Zm ?_)))))))))))))⟩))))))))))))))))))))⟩)))))))))))
 revert h; refine Zw fun h=>?_
 subst h
 exact ⟨_,(.cons (.agg rfl (.there (.there (.there (.there (.there (.there (.there .here))))))) rfl) .nil),rfl⟩
def Z8i (p0:List Int) (p1:Int):Option (Int) :=
 bnd (IntKind.wrap .i64 (Int.tdiv p1 2)) fun z4 =>
 bnd (IntKind.wrap .i64 (31-z4)) fun z5 =>
 chk (inB z5 32) <|
 bnd (p0.getD (z5).toNat 0) fun z7 =>
 bnd (Int.tmod p1 2) fun z8 =>
 bnd (IntKind.wrap .i64 (1-z8)) fun z9 =>
 bnd (IntKind.wrap .i64 (4*z9)) fun z10 =>
 chk (decide (0≤z10)) <|
 bnd (Zn .u8 z7 z10) fun z12 =>
 bnd (Z4 .and .u8 z12 15) fun z13 =>
 some z13
theorem Zgz {W:World} {r:Int} {p0:List Int} {p1:Int} (h:Z8i p0 p1=some r)  :
    Calls Tryz.prog 137 [agg [.ints .u8 32 (p0)],.int .i64 (p1)].toArray W (Z2s W (.int .u8 (r))):=by
 unfold Z8i at h
 refine Zc mo Z0yf rfl ?_
 refine Z0<|Z2<|Zd (Z0e (s:=[.ints .u8 32 (p0)]) rfl fun b2 hb2=>Z7 rfl<|Z1<|Z0<|bH h fun z4 ez4 h=>bH h fun z5 ez5 h=>cH h fun c6 h=>bH h fun z7 ez7 h=>bH h fun z8 ez8 h=>bH h fun z9 ez9 h=>bH h fun z10 ez10 h=>cH h fun c11 h=>bH h fun z12 ez12 h=>bH h fun z13 ez13 h=>Z2<|Z7 rfl<|Z6 _ (iz ez4 (Z98 rfl rfl (by decide)))<|Z6 _ (iz ez5 (Z9 rfl rfl rfl))<|Z6 _ (Z0v rfl rfl (Z09 c6))<|Z6 _ (iz ez7 (Z2e (base:=0) rfl .here rfl (Z01 c6)))<|Z7 rfl<|Z6 _ (iz ez8 (Zah rfl rfl (by decide)))<|Z6 _ (iz ez9 (Z9 rfl rfl rfl))<|Z6 _ (iz ez10 (Z9 rfl rfl rfl))<|Z6 _ (iz ez12 (Z4i rfl rfl (of_decide_eq_true c11)))<|Z6 _ (iz ez13 (Z9 rfl rfl rfl))<|Z7 rfl<|Z1<|Zm ?_)
 revert h; refine Zw fun h=>?_
 subst h
 exact ⟨_,(.cons (.tmp rfl) .nil),rfl⟩
def Z8h (k433:(List Int)→(List Int)→(List Int)→(List Int)→Option (Zi)) (k454:(Int)→(List Int)→(List Int)→(List Int)→(List Int)→Option (Zi)) (i449:Int) (a450:List Int) (a451:List Int) (a452:List Int) (a453:List Int):Option (Zi) :=
 br ((decide (i449<4))) (
 opt (Z6x (⟨a450,a451,a452,a453⟩:Zi)) fun y459 =>
 bnd (IntKind.wrap .i64 (i449+1)) fun z461 =>
 k454 z461 y459.gX y459.gY y459.gZ y459.gT
 ) (
 k433 a450 a451 a452 a453
 )
def Z3g (k433:(List Int)→(List Int)→(List Int)→(List Int)→Option (Zi)):Nat→(Int)→(List Int)→(List Int)→(List Int)→(List Int)→Option (Zi)
  | 0,_,_,_,_,_=>none
  | n+1,i449,a450,a451,a452,a453=>Z8h k433 (Z3g k433 n) i449 a450 a451 a452 a453
def Z8g (p0:List Int) (y6:(List (Zi))) (k242:(List Int)→(List Int)→(List Int)→(List Int)→Option (Zi)) (k395:(Int)→(List Int)→(List Int)→(List Int)→(List Int)→Option (Zi)) (i390:Int) (a391:List Int) (a392:List Int) (a393:List Int) (a394:List Int):Option (Zi) :=
 br ((decide (i390<64))) (
 jn (fun (a429:List Int) (a430:List Int) (a431:List Int) (a432:List Int)=>opt (Z8i p0 i390) fun y463 =>
 chk (inB y463 16) <|
 bnd (y6.getD (y463).toNat Z1t) fun x465 =>
 opt (Z9y (⟨a429,a430,a431,a432⟩:Zi) x465) fun y466 =>
 bnd (IntKind.wrap .i64 (i390+1)) fun z468 =>
 k395 z468 y466.gX y466.gY y466.gZ y466.gT) fun k433=>Z3g k433 big 0 a391 a392 a393 a394
 ) (
 k242 a391 a392 a393 a394
 )
def Z4n (p0:List Int) (y6:(List (Zi))) (k242:(List Int)→(List Int)→(List Int)→(List Int)→Option (Zi)):Nat→(Int)→(List Int)→(List Int)→(List Int)→(List Int)→Option (Zi)
  | 0,_,_,_,_,_=>none
  | n+1,i390,a391,a392,a393,a394=>Z8g p0 y6 k242 (Z4n p0 y6 k242 n) i390 a391 a392 a393 a394
def Zd9 (p0:List Int) (p1:Zi):Option (Zi) :=
 opt (Z5g p1) fun y6 =>
 opt (Z9l) fun y9 =>
 jn (fun (a238:List Int) (a239:List Int) (a240:List Int) (a241:List Int)=>some (⟨a238,a239,a240,a241⟩:Zi)) fun k242=>Z4n p0 y6 k242 big 0 y9.gX y9.gY y9.gZ y9.gT
theorem Zkr {W:World} {r:Zi} {p0:List Int} {p1:Zi} (h:Zd9 p0 p1=some r)  :
    Calls Tryz.prog 94 [agg [.ints .u8 32 (p0)],agg [.ints .u64 5 (p1.gX),.ints .u64 5 (p1.gY),.ints .u64 5 (p1.gZ),.ints .u64 5 (p1.gT)]].toArray W (Z2s W (agg [.ints .u64 5 (r.gX),.ints .u64 5 (r.gY),.ints .u64 5 (r.gZ),.ints .u64 5 (r.gT)])):=by
 unfold Zd9 at h
 refine Zc mo ok94 rfl ?_
 refine Z0<|Z2<|Zd (Z0e (s:=[.ints .u8 32 (p0)]) rfl fun b2 hb2=>Zd (Z0e (s:=[.ints .u64 5 (p1.gX),.ints .u64 5 (p1.gY),.ints .u64 5 (p1.gZ),.ints .u64 5 (p1.gT)]) rfl fun b3 hb3=>Zd (Zr fun b4 hb4=>Z1<|Z0<|oH h fun y6 ey6 h=>Z2<|Z6 _ (Z00 (p:=[.ints .u64 5 (p1.gX),.ints .u64 5 (p1.gY),.ints .u64 5 (p1.gZ),.ints .u64 5 (p1.gT)]) rfl (.there .here) rfl)<|Z6 _ (Z0g rfl (Zf2 ey6))<|Zd (Zja (z':=[.rows 20 16 (Z9j Z0j ((List.replicate 16 Z1t)))]) (Zcd (E:=Z0j) rfl rfl) fun b7 hb7=>Zd (Zr6 (q:=[.rows 20 16 (Z9j Z0j (y6))]) rfl rfl rfl rfl (Z4z (Zga (E:=Z0j)) Zci) .here<|Z1<|Z0<|oH h fun y9 ey9 h=>Z2<|Z6 _ (Z08 (vs:=[]) (v:=agg [.ints .u64 5 (y9.gX),.ints .u64 5 (y9.gY),.ints .u64 5 (y9.gZ),.ints .u64 5 (y9.gT)]) rfl (fun w hw=>Zda (r:=y9) ey9 ))<|Zd (Zr fun b10 hb10=>Zd (Zp (q:=[.ints .u64 5 (y9.gX),.ints .u64 5 (y9.gY),.ints .u64 5 (y9.gZ),.ints .u64 5 (y9.gT)]) rfl rfl rfl rfl rfl .here<|Z1<|Z0<|Z0<|Z2<|Z7 rfl<|Z1<|jH h fun k242 qk242 h=>Zh (G:=fun t m=>∃ (a238:List Int) (a239:List Int) (a240:List Int) (a241:List Int),k242 a238 a239 a240 a241=some r∧Fit [(4,.pointer (some ⟨b4,0,none⟩)),(6,.pointer (some ⟨b10,0,none⟩))] (ck b10 82 [.ints .u64 5 (a238),.ints .u64 5 (a239),.ints .u64 5 (a240),.ints .u64 5 (a241)]::(ck b7 166 [.rows 20 16 (Z9j Z0j (y6))]::(ck b4 82 [.ints .u64 5 ((List.replicate 5 0)),.ints .u64 5 ((List.replicate 5 0)),.ints .u64 5 ((List.replicate 5 0)),.ints .u64 5 ((List.replicate 5 0))]::(ck b3 82 [.ints .u64 5 (p1.gX),.ints .u64 5 (p1.gY),.ints .u64 5 (p1.gZ),.ints .u64 5 (p1.gT)]::(ck b2 74 [.ints .u8 32 (p0)] :: []))))) t m) ?_ ?_)))))))
 ·refine Za<|Zo (fun n396 t m=>∃ (i390:Int) (a391:List Int) (a392:List Int) (a393:List Int) (a394:List Int),Z4n p0 y6 k242 n396 i390 a391 a392 a393 a394=some r∧Fit [(2,.pointer (some ⟨b2,0,none⟩)),(4,.pointer (some ⟨b4,0,none⟩)),(5,.pointer (some ⟨b7,0,none⟩)),(6,.pointer (some ⟨b10,0,none⟩)),(11,.int .i64 (i390))] (ck b10 82 [.ints .u64 5 (a391),.ints .u64 5 (a392),.ints .u64 5 (a393),.ints .u64 5 (a394)]::(ck b7 166 [.rows 20 16 (Z9j Z0j (y6))]::(ck b4 82 [.ints .u64 5 ((List.replicate 5 0)),.ints .u64 5 ((List.replicate 5 0)),.ints .u64 5 ((List.replicate 5 0)),.ints .u64 5 ((List.replicate 5 0))]::(ck b3 82 [.ints .u64 5 (p1.gX),.ints .u64 5 (p1.gY),.ints .u64 5 (p1.gZ),.ints .u64 5 (p1.gT)]::(ck b2 74 [.ints .u8 32 (p0)] :: []))))) t m) big ?_ ?_
  ·exact ⟨0,y9.gX,y9.gY,y9.gZ,y9.gT,h,⟨⟨rfl,rfl,rfl,rfl,rfl,trivial⟩,(.one .here (.one .here (.one .here (.one .here (.one .here .nil)))))⟩⟩
  ·rintro n396 t m ⟨i390,a391,a392,a393,a394,h,hF⟩
   refine Zg hF ?_
   clear hF
   rcases n396 with _ | n396
   · exact Z05 h
   have h:Z8g p0 y6 k242 (Z4n p0 y6 k242 n396) i390 a391 a392 a393 a394=some r:=h
   unfold Z8g at h
   obtain ⟨k395,qk395⟩ : ∃ k,k=Z4n p0 y6 k242 n396:=⟨_,rfl⟩
   try rw [← qk395] at h
   refine Z0<|Z2<|Z6 _ (Z9 rfl rfl rfl)<|Z1<|Z0<|Z07 h rfl (fun h=>?_) (fun h=>?_)
   ·refine Zk<|Z0<|Za<|Z0<|Z2<|Z7 rfl<|Z7 rfl<|Z1<|Z0<|Z0<|Z2<|Z7 rfl<|Z1<|jH h fun k433 qk433 h=>Zh (G:=fun t m=>∃ (a429:List Int) (a430:List Int) (a431:List Int) (a432:List Int),k433 a429 a430 a431 a432=some r∧Fit [(2,.pointer (some ⟨b2,0,none⟩)),(4,.pointer (some ⟨b4,0,none⟩)),(5,.pointer (some ⟨b7,0,none⟩)),(6,.pointer (some ⟨b10,0,none⟩)),(7,.int .i64 (i390)),(11,.int .i64 (i390))] (ck b10 82 [.ints .u64 5 (a429),.ints .u64 5 (a430),.ints .u64 5 (a431),.ints .u64 5 (a432)]::(ck b7 166 [.rows 20 16 (Z9j Z0j (y6))]::(ck b4 82 [.ints .u64 5 ((List.replicate 5 0)),.ints .u64 5 ((List.replicate 5 0)),.ints .u64 5 ((List.replicate 5 0)),.ints .u64 5 ((List.replicate 5 0))]::(ck b3 82 [.ints .u64 5 (p1.gX),.ints .u64 5 (p1.gY),.ints .u64 5 (p1.gZ),.ints .u64 5 (p1.gT)]::(ck b2 74 [.ints .u8 32 (p0)] :: []))))) t m) ?_ ?_
    ·refine Za<|Zo (fun n455 t m=>∃ (i449:Int) (a450:List Int) (a451:List Int) (a452:List Int) (a453:List Int),Z3g k433 n455 i449 a450 a451 a452 a453=some r∧Fit [(2,.pointer (some ⟨b2,0,none⟩)),(4,.pointer (some ⟨b4,0,none⟩)),(5,.pointer (some ⟨b7,0,none⟩)),(6,.pointer (some ⟨b10,0,none⟩)),(7,.int .i64 (i390)),(11,.int .i64 (i390)),(14,.int .i64 (i449))] (ck b10 82 [.ints .u64 5 (a450),.ints .u64 5 (a451),.ints .u64 5 (a452),.ints .u64 5 (a453)]::(ck b7 166 [.rows 20 16 (Z9j Z0j (y6))]::(ck b4 82 [.ints .u64 5 ((List.replicate 5 0)),.ints .u64 5 ((List.replicate 5 0)),.ints .u64 5 ((List.replicate 5 0)),.ints .u64 5 ((List.replicate 5 0))]::(ck b3 82 [.ints .u64 5 (p1.gX),.ints .u64 5 (p1.gY),.ints .u64 5 (p1.gZ),.ints .u64 5 (p1.gT)]::(ck b2 74 [.ints .u8 32 (p0)] :: []))))) t m) big ?_ ?_
     ·exact ⟨0,a391,a392,a393,a394,h,⟨⟨rfl,rfl,rfl,rfl,rfl,rfl,rfl,trivial⟩,(.one .here (.one .here (.one .here (.one .here (.one .here .nil)))))⟩⟩
     ·rintro n455 t m ⟨i449,a450,a451,a452,a453,h,hF⟩
      refine Zg hF ?_
      clear hF
      rcases n455 with _ | n455
      · exact Z05 h
      have h:Z8h k433 (Z3g k433 n455) i449 a450 a451 a452 a453=some r:=h
      unfold Z8h at h
      obtain ⟨k454,qk454⟩ : ∃ k,k=Z3g k433 n455:=⟨_,rfl⟩
      try rw [← qk454] at h
      refine Z0<|Z2<|Z6 _ (Z9 rfl rfl rfl)<|Z1<|Z0<|Z07 h rfl (fun h=>?_) (fun h=>?_)
      ·refine Zk<|Z0<|Za<|oH h fun y459 ey459 h=>Z2<|Z6 _ (Z00 (p:=[.ints .u64 5 (a450),.ints .u64 5 (a451),.ints .u64 5 (a452),.ints .u64 5 (a453)]) rfl .here rfl)<|Z6 _ (Z08 (vs:=[agg [.ints .u64 5 (a450),.ints .u64 5 (a451),.ints .u64 5 (a452),.ints .u64 5 (a453)]]) (v:=agg [.ints .u64 5 (y459.gX),.ints .u64 5 (y459.gY),.ints .u64 5 (y459.gZ),.ints .u64 5 (y459.gT)]) rfl (fun w hw=>Zgy (r:=y459) (p0:=(⟨a450,a451,a452,a453⟩:Zi)) ey459 ))<|Zd (Zp (q:=[.ints .u64 5 (y459.gX),.ints .u64 5 (y459.gY),.ints .u64 5 (y459.gZ),.ints .u64 5 (y459.gT)]) rfl rfl rfl rfl rfl .here<|Z1<|bH h fun z461 ez461 h=>Z2<|Z6 _ (iz ez461 (Z9 rfl rfl rfl))<|Z7 rfl<|Z1 ?_)
       rw [qk454] at h
       exact ⟨n455,Nat.lt_succ_self _,z461,y459.gX,y459.gY,y459.gZ,y459.gT,h,⟨⟨rfl,rfl,rfl,rfl,rfl,rfl,rfl,trivial⟩,(.one .here (.one .here (.one .here (.one .here (.one .here .nil)))))⟩⟩
      ·exact Zv _ rfl<|⟨a450,a451,a452,a453,h,⟨⟨rfl,rfl,rfl,rfl,rfl,rfl,trivial⟩,(.one .here (.one .here (.one .here (.one .here (.one .here .nil)))))⟩⟩
    ·rintro t m ⟨a429,a430,a431,a432,h,hF⟩
     refine Zg hF ?_
     clear hF
     subst qk433
     refine oH h fun y463 ey463 h=>cH h fun c464 h=>bH h fun x465 ex465 h=>oH h fun y466 ey466 h=>Zu<|Z8 _ (Z0u rfl)<|Zq _ (Z00 (p:=[.ints .u64 5 (a429),.ints .u64 5 (a430),.ints .u64 5 (a431),.ints .u64 5 (a432)]) rfl .here rfl)<|Zq _ (Z00 (p:=[.ints .u8 32 (p0)]) rfl (.there (.there (.there (.there .here)))) rfl)<|Z8 _ (Z08 (vs:=[agg [.ints .u8 32 (p0)],.int .i64 (i390)]) (v:=.int .u8 (y463)) rfl (fun w hw=>Zgz (r:=y463) (p0:=p0) (p1:=i390) ey463 ))<|Z8 _ (Z0v rfl rfl (Z09 c464))<|Zq _ (az (fun x465=>agg [.ints .u64 5 (x465.gX),.ints .u64 5 (x465.gY),.ints .u64 5 (x465.gZ),.ints .u64 5 (x465.gT)]) ex465 (Zlq (base:=0) (w:=20) rfl (.there .here) rfl (Z01 c464) rfl rfl rfl))<|Z8 _ (Z08 (vs:=[agg [.ints .u64 5 (a429),.ints .u64 5 (a430),.ints .u64 5 (a431),.ints .u64 5 (a432)],agg [.ints .u64 5 (x465.gX),.ints .u64 5 (x465.gY),.ints .u64 5 (x465.gZ),.ints .u64 5 (x465.gT)]]) (v:=agg [.ints .u64 5 (y466.gX),.ints .u64 5 (y466.gY),.ints .u64 5 (y466.gZ),.ints .u64 5 (y466.gT)]) rfl (fun w hw=>Zf9 (r:=y466) (p0:=(⟨a429,a430,a431,a432⟩:Zi)) (p1:=x465) ey466 ))<|Z1b rfl (Zp (q:=[.ints .u64 5 (y466.gX),.ints .u64 5 (y466.gY),.ints .u64 5 (y466.gZ),.ints .u64 5 (y466.gT)]) rfl rfl rfl rfl rfl .here<|Z03<|bH h fun z468 ez468 h=>Z2<|Z6 _ (iz ez468 (Z9 rfl rfl rfl))<|Z7 rfl<|Z1 ?_)
     rw [qk395] at h
     exact ⟨n396,Nat.lt_succ_self _,z468,y466.gX,y466.gY,y466.gZ,y466.gT,h,⟨⟨rfl,rfl,rfl,rfl,rfl,trivial⟩,(.one .here (.one .here (.one .here (.one .here (.one .here .nil)))))⟩⟩
   ·exact Zv _ rfl<|⟨a391,a392,a393,a394,h,⟨⟨rfl,rfl,trivial⟩,(.one .here (.one .here (.one .here (.one .here (.one .here .nil)))))⟩⟩
 ·rintro t m ⟨a238,a239,a240,a241,h,hF⟩
  refine Zg hF ?_
  clear hF
  subst qk242
  refine Z0<|Z2<|Z6 _ (Z00 (p:=[.ints .u64 5 (a238),.ints .u64 5 (a239),.ints .u64 5 (a240),.ints .u64 5 (a241)]) rfl .here rfl)<|Zd (Zp (q:=[.ints .u64 5 (a238),.ints .u64 5 (a239),.ints .u64 5 (a240),.ints .u64 5 (a241)]) rfl rfl rfl rfl rfl (.there (.there .here))<|Z1<|Zm ?_)
  revert h; refine Zw fun h=>?_
  subst h
  exact ⟨_,(.cons (.agg rfl (.there (.there .here)) rfl) .nil),rfl⟩
def Z7h (p0:List Int) (k214:(List Int)→OL) (k333:(Int)→(List Int)→OL) (i331:Int) (a332:List Int):OL :=
 br ((decide (i331<32))) (
 jn (fun (a377:List Int)=>bnd (IntKind.wrap .i64 (i331+1)) fun z420 =>
 k333 z420 a377) fun k378=>chk (inB i331 32) <|
 bnd (p0.getD (i331).toNat 0) fun z381 =>
 jn (fun (i386:Int)=>bnd (IntKind.wrap .i64 (8*i331)) fun z392 =>
 bnd (IntKind.wrap .i64 (Int.tdiv z392 51)) fun z393 =>
 bnd (IntKind.wrap .i64 (8*i331)) fun z394 =>
 bnd (Int.tmod z394 51) fun z395 =>
 chk (inB z393 5) <|
 bnd (IntKind.wrap .u64 i386) fun z398 =>
 chk (decide (0≤z395)) <|
 bnd (Zj .u64 z398 z395) fun z400 =>
 bnd (Z4 .and .u64 z400 2251799813685247) fun z401 =>
 bnd (a332.getD (z393).toNat 0) fun z402 =>
 bnd (Z4 .or .u64 z402 z401) fun z403 =>
 chk (inB z393 5) <|
 bnd (Z21 a332 (z393).toNat z403) fun l405 =>
 br (((decide (z395>43))&&(decide (z393<4)))) (
 bnd (IntKind.wrap .i64 (z393+1)) fun z409 =>
 chk (inB z409 5) <|
 bnd (IntKind.wrap .u64 i386) fun z411 =>
 bnd (IntKind.wrap .i64 (51-z395)) fun z412 =>
 chk (decide (0≤z412)) <|
 bnd (Zn .u64 z411 z412) fun z414 =>
 bnd (l405.getD (z409).toNat 0) fun z415 =>
 bnd (Z4 .or .u64 z415 z414) fun z416 =>
 chk (inB z409 5) <|
 bnd (Z21 l405 (z409).toNat z416) fun l418 =>
 k378 l418
 ) (
 k378 l405
 )) fun k387=>br ((i331==31)) (
 bnd (Z4 .and .u8 z381 127) fun z390 =>
 k387 z390
 ) (
 k387 z381
 )
 ) (
 k214 a332
 )
def Z3b (p0:List Int) (k214:(List Int)→OL):Nat→(Int)→(List Int)→OL
  | 0,_,_=>none
  | n+1,i331,a332=>Z7h p0 k214 (Z3b p0 k214 n) i331 a332
def Z4a (p0:List Int):OL :=
 jn (fun (a213:List Int)=>opt (Z27 a213) fun y422 =>
 some y422) fun k214=>Z3b p0 k214 big 0 (List.replicate 5 0)
theorem Z9b {W:World} {r:(List Int)} {p0:List Int} (h:Z4a p0=some r)  :
    Calls Tryz.prog 122 [agg [.ints .u8 32 (p0)]].toArray W (Z2s W (agg [.ints .u64 5 (r)])):=by
 unfold Z4a at h
 refine Zc mo Z0y3 rfl ?_
 refine Z0<|Z2<|Zd (Z0e (s:=[.ints .u8 32 (p0)]) rfl fun b2 hb2=>Zd (Zr fun b3 hb3=>Z1<|Z0<|Z2<|Zd (Zr fun b5 hb5=>Z1<|Z0<|Z0<|Z2<|Z6 _ (Z00 (p:=[.ints .u8 32 (p0)]) rfl (.there (.there .here)) rfl)<|Z7 rfl<|Z1<|jH h fun k214 qk214 h=>Zh (G:=fun t m=>∃ (a213:List Int),k214 a213=some r∧Fit [(2,.pointer (some ⟨b3,0,none⟩)),(3,.pointer (some ⟨b5,0,none⟩))] (ck b5 80 [.ints .u64 5 (a213)]::(ck b3 80 [.ints .u64 5 ((List.replicate 5 0))]::(ck b2 22 [.ints .u8 32 (p0)] :: []))) t m) ?_ ?_)))
 ·refine Za<|Zo (fun n334 t m=>∃ (i331:Int) (a332:List Int),Z3b p0 k214 n334 i331 a332=some r∧Fit [(2,.pointer (some ⟨b3,0,none⟩)),(3,.pointer (some ⟨b5,0,none⟩)),(8,agg [.ints .u8 32 (p0)]),(9,.int .i64 (i331))] (ck b5 80 [.ints .u64 5 (a332)]::(ck b3 80 [.ints .u64 5 ((List.replicate 5 0))]::(ck b2 22 [.ints .u8 32 (p0)] :: []))) t m) big ?_ ?_
  ·exact ⟨0,(List.replicate 5 0),h,⟨⟨rfl,rfl,rfl,rfl,trivial⟩,(.one .here (.one .here (.one .here .nil)))⟩⟩
  ·rintro n334 t m ⟨i331,a332,h,hF⟩
   refine Zg hF ?_
   clear hF
   rcases n334 with _ | n334
   · exact Z05 h
   have h:Z7h p0 k214 (Z3b p0 k214 n334) i331 a332=some r:=h
   unfold Z7h at h
   obtain ⟨k333,qk333⟩ : ∃ k,k=Z3b p0 k214 n334:=⟨_,rfl⟩
   try rw [← qk333] at h
   refine Z0<|Z2<|Z6 _ (Z9 rfl rfl rfl)<|Z1<|Z0<|Z07 h rfl (fun h=>?_) (fun h=>?_)
   ·refine Zk<|Z0<|jH h fun k378 qk378 h=>Zh (G:=fun t m=>∃ (a377:List Int),k378 a377=some r∧Fit [(2,.pointer (some ⟨b3,0,none⟩)),(3,.pointer (some ⟨b5,0,none⟩)),(8,agg [.ints .u8 32 (p0)]),(9,.int .i64 (i331))] (ck b5 80 [.ints .u64 5 (a377)]::(ck b3 80 [.ints .u64 5 ((List.replicate 5 0))]::(ck b2 22 [.ints .u8 32 (p0)] :: []))) t m) ?_ ?_
    ·refine Za<|Z0<|cH h fun c380 h=>bH h fun z381 ez381 h=>Z2<|Z7 rfl<|Z6 _ (iz ez381 (Zi0 (len:=32) rfl rfl (Z09 c380)))<|Z7 rfl<|Z7 rfl<|Z1<|Z0<|Z0<|Z2<|Z7 rfl<|Z6 _ (Z9 rfl rfl rfl)<|Z1<|jH h fun k387 qk387 h=>Zh (G:=fun t m=>∃ (i386:Int),k387 i386=some r∧Fit [(2,.pointer (some ⟨b3,0,none⟩)),(3,.pointer (some ⟨b5,0,none⟩)),(4,.int .i64 (i331)),(5,.int .u8 (i386)),(8,agg [.ints .u8 32 (p0)]),(9,.int .i64 (i331))] (ck b5 80 [.ints .u64 5 (a332)]::(ck b3 80 [.ints .u64 5 ((List.replicate 5 0))]::(ck b2 22 [.ints .u8 32 (p0)] :: []))) t m) ?_ ?_
     ·refine Z07 h rfl (fun h=>?_) (fun h=>?_)
      ·exact bH h fun z390 ez390 h=>Z2<|Z7 rfl<|Z6 _ (iz ez390 (Z9 rfl rfl rfl))<|Z7 rfl<|Z1<|⟨z390,h,⟨⟨rfl,rfl,rfl,rfl,rfl,rfl,trivial⟩,(.one .here (.one .here (.one .here .nil)))⟩⟩
      ·exact Zk<|⟨z381,h,⟨⟨rfl,rfl,rfl,rfl,rfl,rfl,trivial⟩,(.one .here (.one .here (.one .here .nil)))⟩⟩
     ·rintro t m ⟨i386,h,hF⟩
      refine Zg hF ?_
      clear hF
      subst qk387
      refine Z0<|bH h fun z392 ez392 h=>bH h fun z393 ez393 h=>bH h fun z394 ez394 h=>bH h fun z395 ez395 h=>Z2<|Z7 rfl<|Z6 _ (iz ez392 (Z9 rfl rfl rfl))<|Z6 _ (iz ez393 (Z98 rfl rfl (by decide)))<|Z7 rfl<|Z6 _ (iz ez394 (Z9 rfl rfl rfl))<|Z6 _ (iz ez395 (Zah rfl rfl (by decide)))<|Z7 rfl<|Z7 rfl<|Z1<|Z0<|cH h fun c397 h=>bH h fun z398 ez398 h=>cH h fun c399 h=>bH h fun z400 ez400 h=>bH h fun z401 ez401 h=>bH h fun z402 ez402 h=>bH h fun z403 ez403 h=>cH h fun c404 h=>bH h fun l405 el405 h=>Zu<|Z8 _ (Z0u rfl)<|Z8 _ (Z0v rfl rfl (Z09 c397))<|Z8 _ (Z0u rfl)<|Z8 _ (iz ez398 (Z3k rfl))<|Z8 _ (Z0u rfl)<|Z8 _ (iz ez400 (Zid rfl rfl (of_decide_eq_true c399)))<|Z8 _ (iz ez401 (Z9 rfl rfl rfl))<|Zq _ (iz ez402 (Z2e (base:=0) rfl .here rfl (Z01 c397)))<|Z8 _ (iz ez403 (Z9 rfl rfl rfl))<|Z8 _ (Z0v rfl rfl (Z09 c404))<|Z1b rfl (Z1e (q:=[.ints .u64 5 (l405)]) (base:=0) el405 rfl rfl rfl (Z01 c404) rfl .here<|Z03<|Z0<|Z2<|Z7 rfl<|Z6 _ (Z9 rfl rfl rfl)<|Z7 rfl<|Z00p rfl rfl rfl (fun hg1=>Zie rfl _ (Z0u rfl) (Zie rfl _ (Z9 rfl rfl rfl) (Ze9))) (fun hg1=>rfl) rfl<|Z1<|Z07 h rfl (fun h=>?_) (fun h=>?_))
      ·exact bH h fun z409 ez409 h=>cH h fun c410 h=>bH h fun z411 ez411 h=>bH h fun z412 ez412 h=>cH h fun c413 h=>bH h fun z414 ez414 h=>bH h fun z415 ez415 h=>bH h fun z416 ez416 h=>cH h fun c417 h=>bH h fun l418 el418 h=>Zu<|Z8 _ (Z0u rfl)<|Z8 _ (iz ez409 (Z9 rfl rfl rfl))<|Z8 _ (Z0v rfl rfl (Z09 c410))<|Z8 _ (Z0u rfl)<|Z8 _ (iz ez411 (Z3k rfl))<|Z8 _ (Z0u rfl)<|Z8 _ (iz ez412 (Z9 rfl rfl rfl))<|Z8 _ (iz ez414 (Z4i rfl rfl (of_decide_eq_true c413)))<|Zq _ (iz ez415 (Z2e (base:=0) rfl .here rfl (Z01 c410)))<|Z8 _ (iz ez416 (Z9 rfl rfl rfl))<|Z8 _ (Z0v rfl rfl (Z09 c417))<|Z1b rfl (Z1e (q:=[.ints .u64 5 (l418)]) (base:=0) el418 rfl rfl rfl (Z01 c417) rfl .here<|Z03<|⟨l418,h,⟨⟨rfl,rfl,rfl,rfl,trivial⟩,(.one .here (.one .here (.one .here .nil)))⟩⟩)
      ·exact Zk<|⟨l405,h,⟨⟨rfl,rfl,rfl,rfl,trivial⟩,(.one .here (.one .here (.one .here .nil)))⟩⟩
    ·rintro t m ⟨a377,h,hF⟩
     refine Zg hF ?_
     clear hF
     subst qk378
     refine bH h fun z420 ez420 h=>Z2<|Z6 _ (iz ez420 (Z9 rfl rfl rfl))<|Z7 rfl<|Z1 ?_
     rw [qk333] at h
     exact ⟨n334,Nat.lt_succ_self _,z420,a377,h,⟨⟨rfl,rfl,rfl,rfl,trivial⟩,(.one .here (.one .here (.one .here .nil)))⟩⟩
   ·exact Zv _ rfl<|⟨a332,h,⟨⟨rfl,rfl,trivial⟩,(.one .here (.one .here (.one .here .nil)))⟩⟩
 ·rintro t m ⟨a213,h,hF⟩
  refine Zg hF ?_
  clear hF
  subst qk214
  refine Z0<|oH h fun y422 ey422 h=>Z2<|Z6 _ (Z00 (p:=[.ints .u64 5 (a213)]) rfl .here rfl)<|Z6 _ (Z0g rfl (Z28 ey422))<|Zd (Zp (q:=[.ints .u64 5 (y422)]) rfl rfl rfl rfl rfl (.there .here)<|Z1<|Zm ?_)
  revert h; refine Zw fun h=>?_
  subst h
  exact ⟨_,(.cons (.agg rfl (.there .here) rfl) .nil),rfl⟩
def Zb2 (k41:(List Int)→Option (Zi)) (k60:(Int)→(List Int)→Option (Zi)) (i58:Int) (a59:List Int):Option (Zi) :=
 br ((decide (i58<31))) (
 bnd (IntKind.wrap .i64 (i58+1)) fun z66 =>
 chk (inB z66 32) <|
 bnd (Z21 a59 (z66).toNat 102) fun l68 =>
 bnd (IntKind.wrap .i64 (i58+1)) fun z70 =>
 k60 z70 l68
 ) (
 k41 a59
 )
def Z52 (k41:(List Int)→Option (Zi)):Nat→(Int)→(List Int)→Option (Zi)
  | 0,_,_=>none
  | n+1,i58,a59=>Zb2 k41 (Z52 k41 n) i58 a59
def Z9z:Option (Zi) :=
 bnd (([26,213,37,143,96,45,86,201,178,167,37,149,96,199,44,105,92,220,214,253,49,226,164,192,254,83,110,205,211,54,105,33]:List Int)) fun z4 =>
 opt (Z4a z4) fun y5 =>
 bnd (([88,0,0,0,0,0,0,0,0,0,0,0,0,0,0,0,0,0,0,0,0,0,0,0,0,0,0,0,0,0,0,0]:List Int)) fun z8 =>
 jn (fun (a40:List Int)=>opt (Z4a a40) fun y72 =>
 opt (Z7z) fun y75 =>
 opt (Z1c y5 y72) fun y76 =>
 some (⟨y5,y72,y75,y76⟩:Zi)) fun k41=>Z52 k41 big 0 z8
theorem Zi8 {W:World} {r:Zi} (h:Z9z=some r)  :
    Calls Tryz.prog 95 [].toArray W (Z2s W (agg [.ints .u64 5 (r.gX),.ints .u64 5 (r.gY),.ints .u64 5 (r.gZ),.ints .u64 5 (r.gT)])):=by
 unfold Z9z at h
 refine Zc mo ok95 rfl ?_
 refine Z0<|Z2<|Zd (Zr fun b2 hb2=>Z1<|Z0<|bH h fun z4 ez4 h=>oH h fun y5 ey5 h=>Z2<|Z6 _ (az (fun z=>agg [.ints .u8 32 z]) ez4 (Zgu (.one rfl rfl rfl (.one rfl rfl rfl (.one rfl rfl rfl (.one rfl rfl rfl (.one rfl rfl rfl (.one rfl rfl rfl (.one rfl rfl rfl (.one rfl rfl rfl (.one rfl rfl rfl (.one rfl rfl rfl (.one rfl rfl rfl (.one rfl rfl rfl (.one rfl rfl rfl (.one rfl rfl rfl (.one rfl rfl rfl (.one rfl rfl rfl (.one rfl rfl rfl (.one rfl rfl rfl (.one rfl rfl rfl (.one rfl rfl rfl (.one rfl rfl rfl (.one rfl rfl rfl (.one rfl rfl rfl (.one rfl rfl rfl (.one rfl rfl rfl (.one rfl rfl rfl (.one rfl rfl rfl (.one rfl rfl rfl (.one rfl rfl rfl (.one rfl rfl rfl (.one rfl rfl rfl (.one rfl rfl rfl BdR.nil))))))))))))))))))))))))))))))))))<|Z6 _ (Z0g rfl (Z9b ey5))<|Zd (Zr fun b6 hb6=>Zd (Zp (q:=[.ints .u64 5 (y5)]) rfl rfl rfl rfl rfl .here<|Z1<|Z0<|bH h fun z8 ez8 h=>Z2<|Z6 _ (az (fun z=>agg [.ints .u8 32 z]) ez8 (Zgu (.one rfl rfl rfl BdR.nil)))<|Zd (Zr fun b9 hb9=>Zd (Zp (q:=[.ints .u8 32 (z8)]) rfl rfl rfl rfl rfl .here<|Z1<|Z0<|Z0<|Z2<|Z7 rfl<|Z1<|jH h fun k41 qk41 h=>Zh (G:=fun t m=>∃ (a40:List Int),k41 a40=some r∧Fit [(0,.pointer (some ⟨b2,0,none⟩)),(1,.pointer (some ⟨b6,0,none⟩)),(2,.pointer (some ⟨b9,0,none⟩))] (ck b9 22 [.ints .u8 32 (a40)]::(ck b6 80 [.ints .u64 5 (y5)]::(ck b2 82 [.ints .u64 5 ((List.replicate 5 0)),.ints .u64 5 ((List.replicate 5 0)),.ints .u64 5 ((List.replicate 5 0)),.ints .u64 5 ((List.replicate 5 0))] :: []))) t m) ?_ ?_)))))
 ·refine Za<|Zo (fun n61 t m=>∃ (i58:Int) (a59:List Int),Z52 k41 n61 i58 a59=some r∧Fit [(0,.pointer (some ⟨b2,0,none⟩)),(1,.pointer (some ⟨b6,0,none⟩)),(2,.pointer (some ⟨b9,0,none⟩)),(8,.int .i64 (i58))] (ck b9 22 [.ints .u8 32 (a59)]::(ck b6 80 [.ints .u64 5 (y5)]::(ck b2 82 [.ints .u64 5 ((List.replicate 5 0)),.ints .u64 5 ((List.replicate 5 0)),.ints .u64 5 ((List.replicate 5 0)),.ints .u64 5 ((List.replicate 5 0))] :: []))) t m) big ?_ ?_
  ·exact ⟨0,z8,h,⟨⟨rfl,rfl,rfl,rfl,trivial⟩,(.one .here (.one .here (.one .here .nil)))⟩⟩
  ·rintro n61 t m ⟨i58,a59,h,hF⟩
   refine Zg hF ?_
   clear hF
   rcases n61 with _ | n61
   · exact Z05 h
   have h:Zb2 k41 (Z52 k41 n61) i58 a59=some r:=h
   unfold Zb2 at h
   obtain ⟨k60,qk60⟩ : ∃ k,k=Z52 k41 n61:=⟨_,rfl⟩
   try rw [← qk60] at h
   refine Z0<|Z2<|Z6 _ (Z9 rfl rfl rfl)<|Z1<|Z0<|Z07 h rfl (fun h=>?_) (fun h=>?_)
   ·refine Zk<|Z0<|Za<|Z0<|Z2<|Z7 rfl<|Z7 rfl<|Z1<|bH h fun z66 ez66 h=>cH h fun c67 h=>bH h fun l68 el68 h=>Z2<|Z7 rfl<|Z6 _ (iz ez66 (Z9 rfl rfl rfl))<|Z6 _ (Z0v rfl rfl (Z09 c67))<|Zd (Z1e (q:=[.ints .u8 32 (l68)]) (base:=0) el68 rfl rfl rfl (Z01 c67) rfl .here<|Z1<|bH h fun z70 ez70 h=>Z2<|Z6 _ (iz ez70 (Z9 rfl rfl rfl))<|Z7 rfl<|Z1 ?_)
    rw [qk60] at h
    exact ⟨n61,Nat.lt_succ_self _,z70,l68,h,⟨⟨rfl,rfl,rfl,rfl,trivial⟩,(.one .here (.one .here (.one .here .nil)))⟩⟩
   ·exact Zv _ rfl<|⟨a59,h,⟨⟨rfl,rfl,rfl,trivial⟩,(.one .here (.one .here (.one .here .nil)))⟩⟩
 ·rintro t m ⟨a40,h,hF⟩
  refine Zg hF ?_
  clear hF
  subst qk41
  refine Z0<|oH h fun y72 ey72 h=>Z2<|Z6 _ (Z00 (p:=[.ints .u8 32 (a40)]) rfl .here rfl)<|Z6 _ (Z0g rfl (Z9b ey72))<|Zd (Zr fun b73 hb73=>Zd (Zp (q:=[.ints .u64 5 (y72)]) rfl rfl rfl rfl rfl .here<|Z1<|Z0<|oH h fun y75 ey75 h=>oH h fun y76 ey76 h=>Zu<|Z8 _ (Z0g rfl (Za0 ey75))<|Zq _ (Z00 (p:=[.ints .u64 5 (y5)]) rfl (.there (.there .here)) rfl)<|Zq _ (Z00 (p:=[.ints .u64 5 (y72)]) rfl .here rfl)<|Zq _ (Z00 (p:=[.ints .u64 5 (y5)]) rfl (.there (.there .here)) rfl)<|Zq _ (Z00 (p:=[.ints .u64 5 (y72)]) rfl .here rfl)<|Z8 _ (Z0g rfl (Z13 ey76))<|Z8 _ (Zgu (q:=[.ints .u64 5 (y5),.ints .u64 5 (y72),.ints .u64 5 (y75),.ints .u64 5 (y76)]) (.agg rfl rfl rfl (.agg rfl rfl rfl (.agg rfl rfl rfl (.agg rfl rfl rfl BdR.nil)))))<|Z1b rfl (Zp (q:=[.ints .u64 5 (y5),.ints .u64 5 (y72),.ints .u64 5 (y75),.ints .u64 5 (y76)]) rfl rfl rfl rfl rfl (.there (.there (.there .here)))<|Z03<|Zm ?_)))
  revert h; refine Zw fun h=>?_
  subst h
  exact ⟨_,(.cons (.agg rfl (.there (.there (.there .here))) rfl) .nil),rfl⟩
def Z4r (p0:List Int):Option (Zi) :=
 opt (Z9z) fun y5 =>
 opt (Zd9 p0 y5) fun y6 =>
 some y6
theorem Zas {W:World} {r:Zi} {p0:List Int} (h:Z4r p0=some r)  :
    Calls Tryz.prog 51 [agg [.ints .u8 32 (p0)]].toArray W (Z2s W (agg [.ints .u64 5 (r.gX),.ints .u64 5 (r.gY),.ints .u64 5 (r.gZ),.ints .u64 5 (r.gT)])):=by
 unfold Z4r at h
 refine Zc mo ok51 rfl ?_
 refine Z0<|Z2<|Zd (Z0e (s:=[.ints .u8 32 (p0)]) rfl fun b2 hb2=>Zd (Zr fun b3 hb3=>Z1<|Z0<|oH h fun y5 ey5 h=>oH h fun y6 ey6 h=>Zu<|Z8 _ (Z0g rfl (Zi8 ey5))<|Zq _ (Z00 (p:=[.ints .u8 32 (p0)]) rfl (.there .here) rfl)<|Z8 _ (Z0g rfl (Zkr ey6))<|Z1b rfl (Zp (q:=[.ints .u64 5 (y6.gX),.ints .u64 5 (y6.gY),.ints .u64 5 (y6.gZ),.ints .u64 5 (y6.gT)]) rfl rfl rfl rfl rfl .here<|Z03<|Zm ?_)))
 revert h; refine Zw fun h=>?_
 subst h
 exact ⟨_,(.cons (.agg rfl .here rfl) .nil),rfl⟩
def Z5e (y4:(Bool×List Int)) (k55:(Int)→Option (Int×Bool)) (k83:(Int)→(Int)→Option (Int×Bool)) (i81:Int) (i82:Int):Option (Int×Bool) :=
 br ((decide (i82<(y4.2.length:Int)))) (
 chk (inB i82 y4.2.length) <|
 bnd (y4.2.getD (i82).toNat 0) fun z89 =>
 bnd (IntKind.wrap .u64 z89) fun z91 =>
 bnd (IntKind.wrap .i64 (8*i82)) fun z92 =>
 chk (decide (0≤z92)) <|
 bnd (Zj .u64 z91 z92) fun z94 =>
 bnd (Z4 .or .u64 i81 z94) fun z95 =>
 bnd (IntKind.wrap .i64 (i82+1)) fun z97 =>
 k83 z95 z97
 ) (
 k55 i81
 )
def Z2w (y4:(Bool×List Int)) (k55:(Int)→Option (Int×Bool)):Nat→(Int)→(Int)→Option (Int×Bool)
  | 0,_,_=>none
  | n+1,i81,i82=>Z5e y4 k55 (Z2w y4 k55 n) i81 i82
def Z5a (p0:List Int) (p1:Int):Option (Int×Bool) :=
 opt (Z3m p0 p1) fun y4 =>
 jn (fun (i54:Int)=>some (i54,(!y4.1))) fun k55=>Z2w y4 k55 big 0 0
theorem Z7d {W:World} {r:Int×Bool} {p0:List Int} {p1:Int} {v0:Value} (h:Z5a p0 p1=some r) (A0:Z4y (El.int .u8) W v0 p0) :
    Calls Tryz.prog 160 [v0,.int .i64 (p1)].toArray W (Z2s W (.tuple #[.int .u64 (r.1),.bool (r.2)])):=by
 unfold Z5a at h
 refine Zc mo Z0yy rfl ?_
 refine Z0<|Z2<|Z7 rfl<|Z7 rfl<|Z1<|Z0<|Z2<|Z7 rfl<|Z1<|Z0<|oH h fun y4 ey4 h=>Z2<|Z7 rfl<|Z7 rfl<|Zd (Zz rfl (fun w hw=>Z7v  ey4 ((Z16 A0 Z1f) w hw)) fun v5 Msv5 R6=>?_)
 obtain ⟨_,rfl,rfl,P10,N8,H9⟩:=R6
 refine Z7 rfl<|Z1<|Z0<|Z0<|Z2<|Z7 rfl<|Z6 _ (Z25 rfl P10)<|Z7 rfl<|Z1<|jH h fun k55 qk55 h=>Zh (G:=fun t m=>∃ (i54:Int),k55 i54=some r∧Fit [(6,.int .u64 (i54)),(7,v5)] [] t m) ?_ ?_
 ·refine Za<|Zo (fun n84 t m=>∃ (i81:Int) (i82:Int),Z2w y4 k55 n84 i81 i82=some r∧Fit [(6,.int .u64 (i81)),(7,v5),(13,v5),(14,.int .i64 ((y4.2.length:Int))),(15,.int .i64 (i82))] [] t m) big ?_ ?_
  ·exact ⟨0,0,h,⟨⟨rfl,rfl,rfl,rfl,rfl,trivial⟩,.nil⟩⟩
  ·rintro n84 t m ⟨i81,i82,h,hF⟩
   refine Zg hF ?_
   clear hF
   rcases n84 with _ | n84
   · exact Z05 h
   have h:Z5e y4 k55 (Z2w y4 k55 n84) i81 i82=some r:=h
   unfold Z5e at h
   obtain ⟨k83,qk83⟩ : ∃ k,k=Z2w y4 k55 n84:=⟨_,rfl⟩
   try rw [← qk83] at h
   refine Z0<|Z2<|Z6 _ (Z9 rfl rfl rfl)<|Z1<|Z0<|Z07 h rfl (fun h=>?_) (fun h=>?_)
   ·refine Zk<|Z0<|Za<|Z0<|cH h fun c88 h=>bH h fun z89 ez89 h=>Z2<|Z7 rfl<|Z6 _ (Z32 rfl rfl P10 c88)<|Z6 _ (iz ez89 (Z33 (E:=(El.int .u8)) (s:=[.one (.int .u8 (y4.2.getD (i82).toNat 0))]) rfl (Zw8 H9 (Z16 A0 Z1f)) (Z01 c88) rfl rfl))<|Z7 rfl<|Z7 rfl<|Z1<|bH h fun z91 ez91 h=>bH h fun z92 ez92 h=>cH h fun c93 h=>bH h fun z94 ez94 h=>bH h fun z95 ez95 h=>Z2<|Z7 rfl<|Z7 rfl<|Z6 _ (iz ez91 (Z3k rfl))<|Z7 rfl<|Z6 _ (iz ez92 (Z9 rfl rfl rfl))<|Z6 _ (iz ez94 (Zid rfl rfl (of_decide_eq_true c93)))<|Z6 _ (iz ez95 (Z9 rfl rfl rfl))<|Z7 rfl<|Z1<|bH h fun z97 ez97 h=>Z2<|Z6 _ (iz ez97 (Z9 rfl rfl rfl))<|Z7 rfl<|Z1 ?_
    rw [qk83] at h
    exact ⟨n84,Nat.lt_succ_self _,z95,z97,h,⟨⟨rfl,rfl,rfl,rfl,rfl,trivial⟩,.nil⟩⟩
   ·exact Zv _ rfl<|⟨i81,h,⟨⟨rfl,rfl,trivial⟩,.nil⟩⟩
 ·rintro t m ⟨i54,h,hF⟩
  refine Zg hF ?_
  clear hF
  subst qk55
  refine Z0<|Z2<|Z7 rfl<|Z7 rfl<|Z6 _ (Zvz rfl P10 N8)<|Z7 rfl<|Z7 rfl<|Z1<|Zm ?_
  revert h; refine Zw fun h=>?_
  subst h
  exact ⟨_,(.cons (.tmp rfl) (.cons (.tmp rfl) .nil)),rfl⟩
def Z58 (z4:Int) (k66:(List (Int))→OL) (k104:(Int)→(List (Int))→(Int)→OL) (i98:Int) (l101:List (Int)) (i103:Int):OL :=
 br ((decide (i103<((List.replicate (z4).toNat 0:List (Int)).length:Int)))) (
 bnd (IntKind.wrap .u8 i98) fun z110 =>
 chk (inB i103 l101.length) <|
 bnd (Zcp 0 l101 (i103).toNat z110) fun l112 =>
 bnd (Zn .u64 i98 8) fun z116 =>
 bnd (IntKind.wrap .i64 (i103+1)) fun z118 =>
 k104 z116 l112 z118
 ) (
 k66 l101
 )
def Z2l (z4:Int) (k66:(List (Int))→OL):Nat→(Int)→(List (Int))→(Int)→OL
  | 0,_,_,_=>none
  | n+1,i98,l101,i103=>Z58 z4 k66 (Z2l z4 k66 n) i98 l101 i103
def Z6q (p0:Int):OL :=
 opt (Z2o) fun y3 =>
 bnd (IntKind.wrap .i64 (Int.tdiv y3 8)) fun z4 =>
 chk (mkB 1 z4 z4) <|
 jn (fun (l64:List (Int))=>some l64) fun k66=>Z2l z4 k66 big p0 (List.replicate (z4).toNat 0:List (Int)) 0
theorem Zba {W:World} {r:(List Int)} {p0:Int} (h:Z6q p0=some r)  :
    Calls Tryz.prog 204 [.int .u64 (p0)].toArray W (Zc0 W [] (fun v Ms=>∃ (u0:Value) (M0:List Zf),v=u0∧Ms = [.all M0]∧Z0b (El.int .u8) u0 M0 r)):=by
 unfold Z6q at h
 refine Z02 mo Z100 rfl (Zgo _) ?_
 refine Z0<|Z2<|Z7 rfl<|Z1<|Z0<|oH h fun y3 ey3 h=>bH h fun z4 ez4 h=>cH h fun c5 h=>Z2<|Z6 _ (Z0g rfl (Z3s ey3))<|Z6 _ (iz ez4 (Z98 rfl rfl (by decide)))<|Zd (Zfj (E:=(El.int .u8)) rfl rfl rfl c5 fun v6 ms7 O8=>Z7 rfl<|Z1<|Z0<|Z0<|Z2<|Z7 rfl<|Z6 _ (Z25 rfl (Shp.own O8))<|Z7 rfl<|Z1<|jH h fun k66 qk66 h=>Zh (G:=fun t m=>∃ (l64:List (Int)) (v62:Value) (ms63:List Zf),k66 l64=some r∧Z0b (El.int .u8) v62 ms63 l64∧Fit [(3,v62)] (ms63 ++ []) t m) ?_ ?_)
 ·refine Za<|Zo (fun n105 t m=>∃ (i98:Int) (l101:List (Int)) (i103:Int) (v99:Value) (ms100:List Zf),Z2l z4 k66 n105 i98 l101 i103=some r∧Z0b (El.int .u8) v99 ms100 l101∧Fit [(0,.int .u64 (i98)),(3,v99),(9,.int .i64 (((List.replicate (z4).toNat 0:List (Int)).length:Int))),(10,.int .i64 (i103))] (ms100 ++ []) t m) big ?_ ?_
  ·exact ⟨p0,(List.replicate (z4).toNat 0:List (Int)),0,v6,ms7,h,O8,⟨⟨rfl,rfl,rfl,rfl,trivial⟩,(.all .here .nil)⟩⟩
  ·rintro n105 t m ⟨i98,l101,i103,v99,ms100,h,O102,hF⟩
   refine Zg hF ?_
   clear hF
   rcases n105 with _ | n105
   · exact Z05 h
   have h:Z58 z4 k66 (Z2l z4 k66 n105) i98 l101 i103=some r:=h
   unfold Z58 at h
   obtain ⟨k104,qk104⟩ : ∃ k,k=Z2l z4 k66 n105:=⟨_,rfl⟩
   try rw [← qk104] at h
   refine Z0<|Z2<|Z6 _ (Z9 rfl rfl rfl)<|Z1<|Z0<|Z07 h rfl (fun h=>?_) (fun h=>?_)
   ·refine Zk<|Z0<|Za<|Z0<|Z2<|Z7 rfl<|Z7 rfl<|Z1<|Z0<|bH h fun z110 ez110 h=>cH h fun c111 h=>bH h fun l112 el112 h=>Z2<|Z7 rfl<|Z7 rfl<|Z7 rfl<|Z6 _ (iz ez110 (Z3k rfl))<|Z6 _ (Z32 rfl rfl (Shp.own O102) c111)<|Zd (Zg1 (E:=(El.int .u8)) el112 O102 .here rfl rfl rfl (Z01 c111) fun ms113 O114=>Z1<|bH h fun z116 ez116 h=>Z2<|Z7 rfl<|Z6 _ (iz ez116 (Z4i rfl rfl (by decide)))<|Z7 rfl<|Z1<|bH h fun z118 ez118 h=>Z2<|Z6 _ (iz ez118 (Z9 rfl rfl rfl))<|Z7 rfl<|Z1 ?_)
    rw [qk104] at h
    exact ⟨n105,Nat.lt_succ_self _,z116,l112,z118,v99,ms113,h,O114,⟨⟨rfl,rfl,rfl,rfl,trivial⟩,(.all .here .nil)⟩⟩
   ·exact Zv _ rfl<|⟨l101,v99,ms100,h,O102,⟨⟨rfl,trivial⟩,(.all .here .nil)⟩⟩
 ·rintro t m ⟨l64,v62,ms63,h,O65,hF⟩
  refine Zg hF ?_
  clear hF
  subst qk66
  refine Z0<|Z2<|Z7 rfl<|Z7 rfl<|Z1<|Zm ?_
  revert h; refine Zw fun h=>?_
  subst h
  exact ⟨_,_,(.cons (.tmp rfl) .nil),(.all .here .nil),⟨_,rfl,⟨v62,ms63,rfl,rfl,O65⟩⟩⟩
def Zal (p0:List Int) (k60:(List Int)→OL) (k94:(Int)→(List Int)→OL) (i92:Int) (a93:List Int):OL :=
 br ((decide (i92<4))) (
 chk (inB i92 4) <|
 bnd (p0.getD (i92).toNat 0) fun z100 =>
 bnd (IntKind.wrap .i64 (8*i92)) fun z102 =>
 chk (Zks z102 32 32) <|
 opt (Z6q z100) fun y104 =>
 bnd (wr a93 (z102).toNat (y104.take (32-(z102).toNat))) fun l110 =>
 bnd (IntKind.wrap .i64 (i92+1)) fun z112 =>
 k94 z112 l110
 ) (
 k60 a93
 )
def Z5z (p0:List Int) (k60:(List Int)→OL):Nat→(Int)→(List Int)→OL
  | 0,_,_=>none
  | n+1,i92,a93=>Zal p0 k60 (Z5z p0 k60 n) i92 a93
def Z5y (p0:List Int):OL :=
 jn (fun (a59:List Int)=>some a59) fun k60=>Z5z p0 k60 big 0 (List.replicate 32 0)
theorem Z86 {W:World} {r:(List Int)} {p0:List Int} (h:Z5y p0=some r)  :
    Calls Tryz.prog 161 [agg [.ints .u64 4 (p0)]].toArray W (Z2s W (agg [.ints .u8 32 (r)])):=by
 unfold Z5y at h
 refine Zc mo Z0yz rfl ?_
 refine Z0<|Z2<|Zd (Z0e (s:=[.ints .u64 4 (p0)]) rfl fun b2 hb2=>Zd (Zr fun b3 hb3=>Z1<|Z0<|Z2<|Zd (Zr fun b5 hb5=>Z1<|Z0<|Z0<|Z2<|Z6 _ (Z00 (p:=[.ints .u64 4 (p0)]) rfl (.there (.there .here)) rfl)<|Z7 rfl<|Z1<|jH h fun k60 qk60 h=>Zh (G:=fun t m=>∃ (a59:List Int),k60 a59=some r∧Fit [(2,.pointer (some ⟨b3,0,none⟩)),(3,.pointer (some ⟨b5,0,none⟩))] (ck b5 74 [.ints .u8 32 (a59)]::(ck b3 74 [.ints .u8 32 ((List.replicate 32 0))]::(ck b2 162 [.ints .u64 4 (p0)] :: []))) t m) ?_ ?_)))
 ·refine Za<|Zo (fun n95 t m=>∃ (i92:Int) (a93:List Int),Z5z p0 k60 n95 i92 a93=some r∧Fit [(2,.pointer (some ⟨b3,0,none⟩)),(3,.pointer (some ⟨b5,0,none⟩)),(6,agg [.ints .u64 4 (p0)]),(7,.int .i64 (i92))] (ck b5 74 [.ints .u8 32 (a93)]::(ck b3 74 [.ints .u8 32 ((List.replicate 32 0))]::(ck b2 162 [.ints .u64 4 (p0)] :: []))) t m) big ?_ ?_
  ·exact ⟨0,(List.replicate 32 0),h,⟨⟨rfl,rfl,rfl,rfl,trivial⟩,(.one .here (.one .here (.one .here .nil)))⟩⟩
  ·rintro n95 t m ⟨i92,a93,h,hF⟩
   refine Zg hF ?_
   clear hF
   rcases n95 with _ | n95
   · exact Z05 h
   have h:Zal p0 k60 (Z5z p0 k60 n95) i92 a93=some r:=h
   unfold Zal at h
   obtain ⟨k94,qk94⟩ : ∃ k,k=Z5z p0 k60 n95:=⟨_,rfl⟩
   try rw [← qk94] at h
   refine Z0<|Z2<|Z6 _ (Z9 rfl rfl rfl)<|Z1<|Z0<|Z07 h rfl (fun h=>?_) (fun h=>?_)
   ·refine Zk<|Z0<|Za<|Z0<|cH h fun c99 h=>bH h fun z100 ez100 h=>Z2<|Z7 rfl<|Z6 _ (iz ez100 (Zi0 (len:=4) rfl rfl (Z09 c99)))<|Z7 rfl<|Z7 rfl<|Z1<|bH h fun z102 ez102 h=>cH h fun c103 h=>oH h fun y104 ey104 h=>bH h fun l110 el110 h=>Zu<|Z8 _ (Z0u rfl)<|Z8 _ (iz ez102 (Z9 rfl rfl rfl))<|Z8 _ (Z7c rfl (.yes rfl) .no .no (by simp) (cut4 c103))<|Z8 _ (Z0u rfl)<|Z5d (Zz rfl (fun w hw=>Zba  ey104 ) fun v105 Msv105 R106=>?_)
    obtain ⟨_,ms108,rfl,rfl,O109⟩:=R106
    refine ⟨(by repeat (first | exact Sup.refl _ | apply Sup.cons | apply Sup.app)),Z1b rfl (Zh0 (q:=[.ints .u8 32 (l110)]) (lo:=(z102).toNat) (hi:=32) (mz:=32) (base:=0) el110 rfl rfl (Z0a O109 .here) rfl (cutn c103) rfl (.app .here) (Z03 (bH h fun z112 ez112 h=>Z2 (Z6 _ (iz ez112 (Z9 rfl rfl rfl)) (Z7 rfl (Z1 ?_))))))⟩
    rw [qk94] at h
    exact ⟨n95,Nat.lt_succ_self _,z112,l110,h,⟨⟨rfl,rfl,rfl,rfl,trivial⟩,(.one (.app .here) (.one (.app .here) (.one (.app .here) .nil)))⟩⟩
   ·exact Zv _ rfl<|⟨a93,h,⟨⟨rfl,rfl,trivial⟩,(.one .here (.one .here (.one .here .nil)))⟩⟩
 ·rintro t m ⟨a59,h,hF⟩
  refine Zg hF ?_
  clear hF
  subst qk60
  refine Z0<|Z2<|Z6 _ (Z00 (p:=[.ints .u8 32 (a59)]) rfl .here rfl)<|Zd (Zp (q:=[.ints .u8 32 (a59)]) rfl rfl rfl rfl rfl (.there .here)<|Z1<|Zm ?_)
  revert h; refine Zw fun h=>?_
  subst h
  exact ⟨_,(.cons (.agg rfl (.there .here) rfl) .nil),rfl⟩
def Z5w (p1:List Int) (k57:(Int)→(List Int)→Option ((List Int)×Int)) (k89:(Int)→(Int)→(List Int)→Option ((List Int)×Int)) (i86:Int) (i87:Int) (a88:List Int):Option ((List Int)×Int) :=
 br ((decide (i87<4))) (
 chk (inB i87 4) <|
 chk (inB i87 4) <|
 bnd (a88.getD (i87).toNat 0) fun z97 =>
 bnd (p1.getD (i87).toNat 0) fun z98 =>
 chk (Zx1 z97 z98 i86) <|
 bnd (Zzh z97 z98 i86) fun z100 =>
 bnd (Zzg z97 z98 i86) fun z101 =>
 chk (inB i87 4) <|
 bnd (Z21 a88 (i87).toNat z100) fun l103 =>
 bnd (IntKind.wrap .i64 (i87+1)) fun z105 =>
 k89 z101 z105 l103
 ) (
 k57 i86 a88
 )
def Z2f (p1:List Int) (k57:(Int)→(List Int)→Option ((List Int)×Int)):Nat→(Int)→(Int)→(List Int)→Option ((List Int)×Int)
  | 0,_,_,_=>none
  | n+1,i86,i87,a88=>Z5w p1 k57 (Z2f p1 k57 n) i86 i87 a88
def Z79 (p0:List Int) (p1:List Int):Option ((List Int)×Int) :=
 jn (fun (i55:Int) (a56:List Int)=>some (a56,i55)) fun k57=>Z2f p1 k57 big 0 0 p0
theorem Zc6 {W:World} {r:(List Int)×Int} {p0:List Int} {p1:List Int} (h:Z79 p0 p1=some r)  :
    Calls Tryz.prog 131 [agg [.ints .u64 4 (p0)],agg [.ints .u64 4 (p1)]].toArray W (Z2s W (.tuple #[agg [.ints .u64 4 (r.1)],.int .u64 (r.2)])):=by
 unfold Z79 at h
 refine Zc mo Z0y9 rfl ?_
 refine Z0<|Z2<|Zd (Z0e (s:=[.ints .u64 4 (p0)]) rfl fun b2 hb2=>Zd (Z0e (s:=[.ints .u64 4 (p1)]) rfl fun b3 hb3=>Zd (Zr fun b4 hb4=>Z7 rfl<|Z1<|Z0<|Z2<|Z7 rfl<|Z1<|Z0<|Z0<|Z2<|Z7 rfl<|Z1<|jH h fun k57 qk57 h=>Zh (G:=fun t m=>∃ (i55:Int) (a56:List Int),k57 i55 a56=some r∧Fit [(2,.pointer (some ⟨b2,0,none⟩)),(4,.pointer (some ⟨b4,0,none⟩)),(6,.int .u64 (i55))] (ck b4 162 [.ints .u64 4 ((List.replicate 4 0))]::(ck b3 162 [.ints .u64 4 (p1)]::(ck b2 162 [.ints .u64 4 (a56)] :: []))) t m) ?_ ?_)))
 ·refine Za<|Zo (fun n90 t m=>∃ (i86:Int) (i87:Int) (a88:List Int),Z2f p1 k57 n90 i86 i87 a88=some r∧Fit [(2,.pointer (some ⟨b2,0,none⟩)),(3,.pointer (some ⟨b3,0,none⟩)),(4,.pointer (some ⟨b4,0,none⟩)),(6,.int .u64 (i86)),(8,.int .i64 (i87))] (ck b4 162 [.ints .u64 4 ((List.replicate 4 0))]::(ck b3 162 [.ints .u64 4 (p1)]::(ck b2 162 [.ints .u64 4 (a88)] :: []))) t m) big ?_ ?_
  ·exact ⟨0,0,p0,h,⟨⟨rfl,rfl,rfl,rfl,rfl,trivial⟩,(.one .here (.one .here (.one .here .nil)))⟩⟩
  ·rintro n90 t m ⟨i86,i87,a88,h,hF⟩
   refine Zg hF ?_
   clear hF
   rcases n90 with _ | n90
   · exact Z05 h
   have h:Z5w p1 k57 (Z2f p1 k57 n90) i86 i87 a88=some r:=h
   unfold Z5w at h
   obtain ⟨k89,qk89⟩ : ∃ k,k=Z2f p1 k57 n90:=⟨_,rfl⟩
   try rw [← qk89] at h
   refine Z0<|Z2<|Z6 _ (Z9 rfl rfl rfl)<|Z1<|Z0<|Z07 h rfl (fun h=>?_) (fun h=>?_)
   ·refine Zk<|Z0<|Za<|Z0<|Z2<|Z7 rfl<|Z7 rfl<|Z1<|cH h fun c95 h=>cH h fun c96 h=>bH h fun z97 ez97 h=>bH h fun z98 ez98 h=>cH h fun c99 h=>bH h fun z100 ez100 h=>bH h fun z101 ez101 h=>cH h fun c102 h=>bH h fun l103 el103 h=>Zu<|Z8 _ (Z0u rfl)<|Z8 _ (Z0u rfl)<|Z8 _ (Z0v rfl rfl (Z09 c95))<|Z8 _ (Z0u rfl)<|Z8 _ (Z0v rfl rfl (Z09 c96))<|Z8 _ (Z0u rfl)<|Zq _ (iz ez97 (Z2e (base:=0) rfl (.there (.there .here)) rfl (Z01 c95)))<|Zq _ (iz ez98 (Z2e (base:=0) rfl (.there .here) rfl (Z01 c96)))<|Z8 _ (Ze7 rfl Z021 (xsub ez100 ez101 c99))<|Z8 _ (Z0u rfl)<|Z8 _ (Z37 rfl rfl)<|Z8 _ (Z37 rfl rfl)<|Z8 _ (Z0v rfl rfl (Z09 c102))<|Z1b rfl (Z1e (q:=[.ints .u64 4 (l103)]) (base:=0) el103 rfl rfl rfl (Z01 c102) rfl (.there (.there .here))<|Z8 _ (Z0u rfl)<|Z03<|bH h fun z105 ez105 h=>Z2<|Z6 _ (iz ez105 (Z9 rfl rfl rfl))<|Z7 rfl<|Z1 ?_)
    rw [qk89] at h
    exact ⟨n90,Nat.lt_succ_self _,z101,z105,l103,h,⟨⟨rfl,rfl,rfl,rfl,rfl,trivial⟩,(.one .here (.one .here (.one .here .nil)))⟩⟩
   ·exact Zv _ rfl<|⟨i86,a88,h,⟨⟨rfl,rfl,rfl,trivial⟩,(.one .here (.one .here (.one .here .nil)))⟩⟩
 ·rintro t m ⟨i55,a56,h,hF⟩
  refine Zg hF ?_
  clear hF
  subst qk57
  refine Z0<|Z2<|Z6 _ (Z00 (p:=[.ints .u64 4 (a56)]) rfl (.there (.there .here)) rfl)<|Z7 rfl<|Zd (Zp (q:=[.ints .u64 4 (a56)]) rfl rfl rfl rfl rfl .here<|Z7 rfl<|Z1<|Zm ?_)
  revert h; refine Zw fun h=>?_
  subst h
  exact ⟨_,(.cons (.agg rfl .here rfl) (.cons (.tmp rfl) .nil)),rfl⟩
def Z6m (p1:List Int) (k57:(Int)→(List Int)→Option ((List Int)×Int)) (k89:(Int)→(Int)→(List Int)→Option ((List Int)×Int)) (i86:Int) (i87:Int) (a88:List Int):Option ((List Int)×Int) :=
 br ((decide (i87<4))) (
 chk (inB i87 4) <|
 chk (inB i87 4) <|
 bnd (a88.getD (i87).toNat 0) fun z97 =>
 bnd (p1.getD (i87).toNat 0) fun z98 =>
 chk (Zd1 z97 z98 i86) <|
 bnd (Z9w z97 z98 i86) fun z100 =>
 bnd (Zfi z97 z98 i86) fun z101 =>
 chk (inB i87 4) <|
 bnd (Z21 a88 (i87).toNat z100) fun l103 =>
 bnd (IntKind.wrap .i64 (i87+1)) fun z105 =>
 k89 z101 z105 l103
 ) (
 k57 i86 a88
 )
def Z2t (p1:List Int) (k57:(Int)→(List Int)→Option ((List Int)×Int)):Nat→(Int)→(Int)→(List Int)→Option ((List Int)×Int)
  | 0,_,_,_=>none
  | n+1,i86,i87,a88=>Z6m p1 k57 (Z2t p1 k57 n) i86 i87 a88
def Z5x (p0:List Int) (p1:List Int):Option ((List Int)×Int) :=
 jn (fun (i55:Int) (a56:List Int)=>some (a56,i55)) fun k57=>Z2t p1 k57 big 0 0 p0
theorem Z6n {W:World} {r:(List Int)×Int} {p0:List Int} {p1:List Int} (h:Z5x p0 p1=some r)  :
    Calls Tryz.prog 165 [agg [.ints .u64 4 (p0)],agg [.ints .u64 4 (p1)]].toArray W (Z2s W (.tuple #[agg [.ints .u64 4 (r.1)],.int .u64 (r.2)])):=by
 unfold Z5x at h
 refine Zc mo Z0z3 rfl ?_
 refine Z0<|Z2<|Zd (Z0e (s:=[.ints .u64 4 (p0)]) rfl fun b2 hb2=>Zd (Z0e (s:=[.ints .u64 4 (p1)]) rfl fun b3 hb3=>Zd (Zr fun b4 hb4=>Z7 rfl<|Z1<|Z0<|Z2<|Z7 rfl<|Z1<|Z0<|Z0<|Z2<|Z7 rfl<|Z1<|jH h fun k57 qk57 h=>Zh (G:=fun t m=>∃ (i55:Int) (a56:List Int),k57 i55 a56=some r∧Fit [(2,.pointer (some ⟨b2,0,none⟩)),(4,.pointer (some ⟨b4,0,none⟩)),(6,.int .u64 (i55))] (ck b4 162 [.ints .u64 4 ((List.replicate 4 0))]::(ck b3 162 [.ints .u64 4 (p1)]::(ck b2 162 [.ints .u64 4 (a56)] :: []))) t m) ?_ ?_)))
 ·refine Za<|Zo (fun n90 t m=>∃ (i86:Int) (i87:Int) (a88:List Int),Z2t p1 k57 n90 i86 i87 a88=some r∧Fit [(2,.pointer (some ⟨b2,0,none⟩)),(3,.pointer (some ⟨b3,0,none⟩)),(4,.pointer (some ⟨b4,0,none⟩)),(6,.int .u64 (i86)),(8,.int .i64 (i87))] (ck b4 162 [.ints .u64 4 ((List.replicate 4 0))]::(ck b3 162 [.ints .u64 4 (p1)]::(ck b2 162 [.ints .u64 4 (a88)] :: []))) t m) big ?_ ?_
  ·exact ⟨0,0,p0,h,⟨⟨rfl,rfl,rfl,rfl,rfl,trivial⟩,(.one .here (.one .here (.one .here .nil)))⟩⟩
  ·rintro n90 t m ⟨i86,i87,a88,h,hF⟩
   refine Zg hF ?_
   clear hF
   rcases n90 with _ | n90
   · exact Z05 h
   have h:Z6m p1 k57 (Z2t p1 k57 n90) i86 i87 a88=some r:=h
   unfold Z6m at h
   obtain ⟨k89,qk89⟩ : ∃ k,k=Z2t p1 k57 n90:=⟨_,rfl⟩
   try rw [← qk89] at h
   refine Z0<|Z2<|Z6 _ (Z9 rfl rfl rfl)<|Z1<|Z0<|Z07 h rfl (fun h=>?_) (fun h=>?_)
   ·refine Zk<|Z0<|Za<|Z0<|Z2<|Z7 rfl<|Z7 rfl<|Z1<|cH h fun c95 h=>cH h fun c96 h=>bH h fun z97 ez97 h=>bH h fun z98 ez98 h=>cH h fun c99 h=>bH h fun z100 ez100 h=>bH h fun z101 ez101 h=>cH h fun c102 h=>bH h fun l103 el103 h=>Zu<|Z8 _ (Z0u rfl)<|Z8 _ (Z0u rfl)<|Z8 _ (Z0v rfl rfl (Z09 c95))<|Z8 _ (Z0u rfl)<|Z8 _ (Z0v rfl rfl (Z09 c96))<|Z8 _ (Z0u rfl)<|Zq _ (iz ez97 (Z2e (base:=0) rfl (.there (.there .here)) rfl (Z01 c95)))<|Zq _ (iz ez98 (Z2e (base:=0) rfl (.there .here) rfl (Z01 c96)))<|Z8 _ (Ze7 rfl Zfk (xadd ez100 ez101 c99))<|Z8 _ (Z0u rfl)<|Z8 _ (Z37 rfl rfl)<|Z8 _ (Z37 rfl rfl)<|Z8 _ (Z0v rfl rfl (Z09 c102))<|Z1b rfl (Z1e (q:=[.ints .u64 4 (l103)]) (base:=0) el103 rfl rfl rfl (Z01 c102) rfl (.there (.there .here))<|Z8 _ (Z0u rfl)<|Z03<|bH h fun z105 ez105 h=>Z2<|Z6 _ (iz ez105 (Z9 rfl rfl rfl))<|Z7 rfl<|Z1 ?_)
    rw [qk89] at h
    exact ⟨n90,Nat.lt_succ_self _,z101,z105,l103,h,⟨⟨rfl,rfl,rfl,rfl,rfl,trivial⟩,(.one .here (.one .here (.one .here .nil)))⟩⟩
   ·exact Zv _ rfl<|⟨i86,a88,h,⟨⟨rfl,rfl,rfl,trivial⟩,(.one .here (.one .here (.one .here .nil)))⟩⟩
 ·rintro t m ⟨i55,a56,h,hF⟩
  refine Zg hF ?_
  clear hF
  subst qk57
  refine Z0<|Z2<|Z6 _ (Z00 (p:=[.ints .u64 4 (a56)]) rfl (.there (.there .here)) rfl)<|Z7 rfl<|Zd (Zp (q:=[.ints .u64 4 (a56)]) rfl rfl rfl rfl rfl .here<|Z7 rfl<|Z1<|Zm ?_)
  revert h; refine Zw fun h=>?_
  subst h
  exact ⟨_,(.cons (.agg rfl .here rfl) (.cons (.tmp rfl) .nil)),rfl⟩
def Z5v (k297:(List Int)→OL) (a491:List Int) (k541:Unit→OL) (k570:(Int)→OL) (i569:Int):OL :=
 br ((decide (i569≥0))) (
 chk (inB i569 4) <|
 chk (inB i569 4) <|
 bnd (a491.getD (i569).toNat 0) fun z577 =>
 bnd (G_order.getD (i569).toNat 0) fun z578 =>
 br ((decide (z577<z578))) (
 k297 a491
 ) (
 chk (inB i569 4) <|
 chk (inB i569 4) <|
 bnd (a491.getD (i569).toNat 0) fun z583 =>
 bnd (G_order.getD (i569).toNat 0) fun z584 =>
 br ((decide (z583>z584))) (
 k541 ()
 ) (
 bnd (IntKind.wrap .i64 (i569-1)) fun z587 =>
 k570 z587
 )
 )
 ) (
 k541 ()
 )
def Z0i (k297:(List Int)→OL) (a491:List Int) (k541:Unit→OL):Nat→(Int)→OL
  | 0,_=>none
  | n+1,i569=>Z5v k297 a491 k541 (Z0i k297 a491 k541 n) i569
def Z5u (k297:(List Int)→OL) (k492:(List Int)→OL) (a491:List Int):OL :=
 jn (fun (_:Unit)=>opt (Z79 a491 G_order) fun y589 =>
 k492 y589.1) fun k541=>Z0i k297 a491 k541 big 3
def Z34 (k297:(List Int)→OL):Nat→(List Int)→OL
  | 0,_=>none
  | n+1,a491=>Z5u k297 (Z34 k297 n) a491
def Z78 (p0:List Int):OL :=
 jn (fun (a296:List Int)=>some a296) fun k297=>Z34 k297 big p0
theorem Zc5 {W:World} {r:(List Int)} {p0:List Int} (h:Z78 p0=some r) (hG:Globs W) :
    Calls Tryz.prog 167 [agg [.ints .u64 4 (p0)]].toArray W (Z2s W (agg [.ints .u64 4 (r)])):=by
 unfold Z78 at h
 refine Zc mo Z0z5 rfl ?_
 refine Z0<|Z2<|Zd (Z0e (s:=[.ints .u64 4 (p0)]) rfl fun b2 hb2=>Zd (Zr fun b3 hb3=>Z1<|Zzr<|Z0<|Z0ux<|Z0<|jH h fun k297 qk297 h=>Zh (G:=fun t m=>∃ (a296:List Int),k297 a296=some r∧Fit [(1,.pointer (some ⟨b2,0,none⟩)),(2,.pointer (some ⟨b3,0,none⟩))] (ck b3 162 [.ints .u64 4 ((List.replicate 4 0))]::(ck b2 162 [.ints .u64 4 (a296)] :: [])) t m) ?_ ?_))
 ·refine Za<|Zo (fun n493 t m=>∃ (a491:List Int),Z34 k297 n493 a491=some r∧Fit [(1,.pointer (some ⟨b2,0,none⟩)),(2,.pointer (some ⟨b3,0,none⟩))] (ck b3 162 [.ints .u64 4 ((List.replicate 4 0))]::(ck b2 162 [.ints .u64 4 (a491)] :: [])) t m) big ?_ ?_
  ·exact ⟨p0,h,⟨⟨rfl,rfl,trivial⟩,(.one .here (.one .here .nil))⟩⟩
  ·rintro n493 t m ⟨a491,h,hF⟩
   refine Zg hF ?_
   clear hF
   rcases n493 with _ | n493
   · exact Z05 h
   have h:Z5u k297 (Z34 k297 n493) a491=some r:=h
   unfold Z5u at h
   obtain ⟨k492,qk492⟩ : ∃ k,k=Z34 k297 n493:=⟨_,rfl⟩
   try rw [← qk492] at h
   refine Za<|Z0<|Z0<|Z2<|Z7 rfl<|Z1<|jH h fun k541 qk541 h=>Zh (G:=fun t m=>k541 ()=some r∧Fit [(1,.pointer (some ⟨b2,0,none⟩)),(2,.pointer (some ⟨b3,0,none⟩))] (ck b3 162 [.ints .u64 4 ((List.replicate 4 0))]::(ck b2 162 [.ints .u64 4 (a491)] :: [])) t m) ?_ ?_
   ·refine Za<|Zo (fun n571 t m=>∃ (i569:Int),Z0i k297 a491 k541 n571 i569=some r∧Fit [(1,.pointer (some ⟨b2,0,none⟩)),(2,.pointer (some ⟨b3,0,none⟩)),(3,.int .i64 (i569))] (ck b3 162 [.ints .u64 4 ((List.replicate 4 0))]::(ck b2 162 [.ints .u64 4 (a491)] :: [])) t m) big ?_ ?_
    ·exact ⟨3,h,⟨⟨rfl,rfl,rfl,trivial⟩,(.one .here (.one .here .nil))⟩⟩
    ·rintro n571 t m ⟨i569,h,hF⟩
     refine Zg hF ?_
     clear hF
     rcases n571 with _ | n571
     · exact Z05 h
     have h:Z5v k297 a491 k541 (Z0i k297 a491 k541 n571) i569=some r:=h
     unfold Z5v at h
     obtain ⟨k570,qk570⟩ : ∃ k,k=Z0i k297 a491 k541 n571:=⟨_,rfl⟩
     try rw [← qk570] at h
     refine Z0<|Z0<|Z2<|Z7 rfl<|Z6 _ (Z9 rfl rfl rfl)<|Z1<|Z07 h rfl (fun h=>?_) (fun h=>?_)
     ·refine Zk<|Z0<|Za<|Z0<|Z0<|cH h fun c575 h=>cH h fun c576 h=>bH h fun z577 ez577 h=>bH h fun z578 ez578 h=>Zu<|Z8 _ (Z0u rfl)<|Z8 _ (Z0v rfl rfl (Z09 c575))<|Z8 _ (Z0u rfl)<|Z8 _ (Z0v rfl rfl (Z09 c576))<|Zq _ (iz ez577 (Z2e (base:=0) rfl (.there .here) rfl (Z01 c575)))<|Zq _ (iz ez578 (Zw0 rfl (hG.g1) (by simp) (Z01 c576)))<|Z8 _ (Z9 rfl rfl rfl)<|Z03<|Z07 h rfl (fun h=>?_) (fun h=>?_)
      ·exact Zv _ rfl<|⟨a491,h,⟨⟨rfl,rfl,trivial⟩,(.one .here (.one .here .nil))⟩⟩
      ·refine Zk<|Z0<|cH h fun c581 h=>cH h fun c582 h=>bH h fun z583 ez583 h=>bH h fun z584 ez584 h=>Zu<|Z8 _ (Z0u rfl)<|Z8 _ (Z0v rfl rfl (Z09 c581))<|Z8 _ (Z0u rfl)<|Z8 _ (Z0v rfl rfl (Z09 c582))<|Zq _ (iz ez583 (Z2e (base:=0) rfl (.there .here) rfl (Z01 c581)))<|Zq _ (iz ez584 (Zw0 rfl (hG.g1) (by simp) (Z01 c582)))<|Z8 _ (Z9 rfl rfl rfl)<|Z03<|Z07 h rfl (fun h=>?_) (fun h=>?_)
       ·exact Zv _ rfl<|⟨h,⟨⟨rfl,rfl,trivial⟩,(.one .here (.one .here .nil))⟩⟩
       ·refine Zk<|bH h fun z587 ez587 h=>Z2<|Z7 rfl<|Z6 _ (iz ez587 (Z9 rfl rfl rfl))<|Z7 rfl<|Z1 ?_
        rw [qk570] at h
        exact ⟨n571,Nat.lt_succ_self _,z587,h,⟨⟨rfl,rfl,rfl,trivial⟩,(.one .here (.one .here .nil))⟩⟩
     ·exact Zv _ rfl<|⟨h,⟨⟨rfl,rfl,trivial⟩,(.one .here (.one .here .nil))⟩⟩
   ·rintro t m ⟨h,hF⟩
    refine Zg hF ?_
    clear hF
    subst qk541
    refine oH h fun y589 ey589 h=>Z2<|Z6 _ (Z00 (p:=[.ints .u64 4 (a491)]) rfl (.there .here) rfl)<|Z6 _ (Zti (o0:=0) (off:=0) rfl (hG.g1) (by simp) rfl)<|Z6 _ (Z0g rfl (Zc6 ey589))<|Z7 rfl<|Z6 _ (Z37 rfl rfl)<|Z6 _ (Z37 rfl rfl)<|Zd (Zp (q:=[.ints .u64 4 (y589.1)]) rfl rfl rfl rfl rfl (.there .here)<|Z1 ?_)
    rw [qk492] at h
    exact ⟨n493,Nat.lt_succ_self _,y589.1,h,⟨⟨rfl,rfl,trivial⟩,(.one .here (.one .here .nil))⟩⟩
 ·rintro t m ⟨a296,h,hF⟩
  refine Zg hF ?_
  clear hF
  subst qk297
  refine Z0<|Z2<|Z6 _ (Z00 (p:=[.ints .u64 4 (a296)]) rfl (.there .here) rfl)<|Zd (Zp (q:=[.ints .u64 4 (a296)]) rfl rfl rfl rfl rfl .here<|Z1<|Zm ?_)
  revert h; refine Zw fun h=>?_
  subst h
  exact ⟨_,(.cons (.agg rfl .here rfl) .nil),rfl⟩
def Z61 (p1:List Int) (i1130:Int) (z1137:Int) (k1245:(List (Int))→(Int)→OL) (k1315:(List (Int))→(Int)→(Int)→OL) (l1311:List (Int)) (i1313:Int) (i1314:Int):OL :=
 br ((decide (i1314<(p1.length:Int)))) (
 chk (inB i1314 p1.length) <|
 bnd (p1.getD (i1314).toNat 0) fun z1321 =>
 opt (Z4f z1137 z1321) fun y1323 =>
 bnd (IntKind.wrap .i64 (i1130+i1314)) fun z1325 =>
 chk (inB z1325 l1311.length) <|
 bnd (l1311.getD (z1325).toNat 0) fun z1327 =>
 chk (Zd1 y1323.2 z1327 0) <|
 bnd (Z9w y1323.2 z1327 0) fun z1329 =>
 bnd (Zfi y1323.2 z1327 0) fun z1330 =>
 bnd (IntKind.wrap .u64 (y1323.1+z1330)) fun z1332 =>
 chk (Zd1 z1329 i1313 0) <|
 bnd (Z9w z1329 i1313 0) fun z1335 =>
 bnd (Zfi z1329 i1313 0) fun z1336 =>
 bnd (IntKind.wrap .i64 (i1130+i1314)) fun z1338 =>
 bnd (IntKind.wrap .u64 (z1332+z1336)) fun z1339 =>
 chk (inB z1338 l1311.length) <|
 bnd (Zcp 0 l1311 (z1338).toNat z1335) fun l1341 =>
 bnd (IntKind.wrap .i64 (i1314+1)) fun z1345 =>
 k1315 l1341 z1339 z1345
 ) (
 k1245 l1311 i1313
 )
def Z36 (p1:List Int) (i1130:Int) (z1137:Int) (k1245:(List (Int))→(Int)→OL):Nat→(List (Int))→(Int)→(Int)→OL
  | 0,_,_,_=>none
  | n+1,l1311,i1313,i1314=>Z61 p1 i1130 z1137 k1245 (Z36 p1 i1130 z1137 k1245 n) l1311 i1313 i1314
def Z60 (p0:List Int) (p1:List Int) (k683:(List (Int))→OL) (k1131:(List (Int))→(Int)→OL) (l1128:List (Int)) (i1130:Int):OL :=
 br ((decide (i1130<(p0.length:Int)))) (
 chk (inB i1130 p0.length) <|
 bnd (p0.getD (i1130).toNat 0) fun z1137 =>
 jn (fun (l1242:List (Int)) (i1244:Int)=>bnd (IntKind.wrap .i64 (i1130+(p1.length:Int))) fun z1347 =>
 chk (inB z1347 l1242.length) <|
 bnd (Zcp 0 l1242 (z1347).toNat i1244) fun l1349 =>
 bnd (IntKind.wrap .i64 (i1130+1)) fun z1353 =>
 k1131 l1349 z1353) fun k1245=>Z36 p1 i1130 z1137 k1245 big l1128 0 0
 ) (
 k683 l1128
 )
def Z35 (p0:List Int) (p1:List Int) (k683:(List (Int))→OL):Nat→(List (Int))→(Int)→OL
  | 0,_,_=>none
  | n+1,l1128,i1130=>Z60 p0 p1 k683 (Z35 p0 p1 k683 n) l1128 i1130
def Z7b (p0:List Int) (p1:List Int):OL :=
 bnd (IntKind.wrap .i64 ((p0.length:Int)+(p1.length:Int))) fun z3 =>
 chk (mkB 8 z3 z3) <|
 jn (fun (l681:List (Int))=>some l681) fun k683=>Z35 p0 p1 k683 big (List.replicate (z3).toNat 0:List (Int)) 0
theorem Zc7 {W:World} {r:(List Int)} {p0:List Int} {p1:List Int} {v0:Value} {v1:Value} (h:Z7b p0 p1=some r) (A0:Z4y (El.int .u64) W v0 p0) (A1:Z4y (El.int .u64) W v1 p1) :
    Calls Tryz.prog 168 [v0,v1].toArray W (Zc0 W [] (fun v Ms=>∃ (u0:Value) (M0:List Zf),v=u0∧Ms = [.all M0]∧Z0b (El.int .u64) u0 M0 r)):=by
 unfold Z7b at h
 refine Z02 mo Z0z6 rfl (Zgo _) ?_
 refine Z0<|Z2<|Z7 rfl<|Z1<|Z0<|bH h fun z3 ez3 h=>cH h fun c4 h=>Z2<|Z7 rfl<|Z6 _ (Z25 rfl (Shp.rd A0))<|Z7 rfl<|Z6 _ (Z25 rfl (Shp.rd A1))<|Z6 _ (iz ez3 (Z9 rfl rfl rfl))<|Zd (Zfj (E:=(El.int .u64)) rfl rfl rfl c4 fun v5 ms6 O7=>Z7 rfl<|Z1<|Z0<|Z0<|Z2<|Z7 rfl<|Z6 _ (Z25 rfl (Shp.rd A0))<|Z7 rfl<|Z1<|jH h fun k683 qk683 h=>Zh (G:=fun t m=>∃ (l681:List (Int)) (v679:Value) (ms680:List Zf),k683 l681=some r∧Z0b (El.int .u64) v679 ms680 l681∧Fit [(5,v679)] (ms680 ++ []) t m) ?_ ?_)
 ·refine Za<|Zo (fun n1132 t m=>∃ (l1128:List (Int)) (i1130:Int) (v1126:Value) (ms1127:List Zf),Z35 p0 p1 k683 n1132 l1128 i1130=some r∧Z0b (El.int .u64) v1126 ms1127 l1128∧Fit [(1,v1),(5,v1126),(20,v0),(21,.int .i64 ((p0.length:Int))),(22,.int .i64 (i1130))] (ms1127 ++ []) t m) big ?_ ?_
  ·exact ⟨(List.replicate (z3).toNat 0:List (Int)),0,v5,ms6,h,O7,⟨⟨rfl,rfl,rfl,rfl,rfl,trivial⟩,(.all .here .nil)⟩⟩
  ·rintro n1132 t m ⟨l1128,i1130,v1126,ms1127,h,O1129,hF⟩
   refine Zg hF ?_
   clear hF
   rcases n1132 with _ | n1132
   · exact Z05 h
   have h:Z60 p0 p1 k683 (Z35 p0 p1 k683 n1132) l1128 i1130=some r:=h
   unfold Z60 at h
   obtain ⟨k1131,qk1131⟩ : ∃ k,k=Z35 p0 p1 k683 n1132:=⟨_,rfl⟩
   try rw [← qk1131] at h
   refine Z0<|Z2<|Z6 _ (Z9 rfl rfl rfl)<|Z1<|Z0<|Z07 h rfl (fun h=>?_) (fun h=>?_)
   ·refine Zk<|Z0<|Za<|Z0<|cH h fun c1136 h=>bH h fun z1137 ez1137 h=>Z2<|Z7 rfl<|Z6 _ (Z32 rfl rfl (Shp.rd A0) c1136)<|Z6 _ (iz ez1137 (Z33 (E:=(El.int .u64)) (s:=[.one (.int .u64 (p0.getD (i1130).toNat 0))]) rfl (Z16 A0 Z1f) (Z01 c1136) rfl rfl))<|Z7 rfl<|Z7 rfl<|Z1<|Z0<|Z2<|Z7 rfl<|Z1<|Z0<|Z0<|Z2<|Z7 rfl<|Z6 _ (Z25 rfl (Shp.rd A1))<|Z7 rfl<|Z1<|jH h fun k1245 qk1245 h=>Zh (G:=fun t m=>∃ (l1242:List (Int)) (i1244:Int) (v1240:Value) (ms1241:List Zf),k1245 l1242 i1244=some r∧Z0b (El.int .u64) v1240 ms1241 l1242∧Fit [(1,v1),(5,v1240),(6,.int .i64 (i1130)),(8,.int .u64 (i1244)),(20,v0),(21,.int .i64 ((p0.length:Int))),(22,.int .i64 (i1130))] (ms1241 ++ []) t m) ?_ ?_
    ·refine Za<|Zo (fun n1316 t m=>∃ (l1311:List (Int)) (i1313:Int) (i1314:Int) (v1309:Value) (ms1310:List Zf),Z36 p1 i1130 z1137 k1245 n1316 l1311 i1313 i1314=some r∧Z0b (El.int .u64) v1309 ms1310 l1311∧Fit [(1,v1),(5,v1309),(6,.int .i64 (i1130)),(7,.int .u64 (z1137)),(8,.int .u64 (i1313)),(20,v0),(21,.int .i64 ((p0.length:Int))),(22,.int .i64 (i1130)),(27,v1),(28,.int .i64 ((p1.length:Int))),(29,.int .i64 (i1314))] (ms1310 ++ []) t m) big ?_ ?_
     ·exact ⟨l1128,0,0,v1126,ms1127,h,O1129,⟨⟨rfl,rfl,rfl,rfl,rfl,rfl,rfl,rfl,rfl,rfl,rfl,trivial⟩,(.all .here .nil)⟩⟩
     ·rintro n1316 t m ⟨l1311,i1313,i1314,v1309,ms1310,h,O1312,hF⟩
      refine Zg hF ?_
      clear hF
      rcases n1316 with _ | n1316
      · exact Z05 h
      have h:Z61 p1 i1130 z1137 k1245 (Z36 p1 i1130 z1137 k1245 n1316) l1311 i1313 i1314=some r:=h
      unfold Z61 at h
      obtain ⟨k1315,qk1315⟩ : ∃ k,k=Z36 p1 i1130 z1137 k1245 n1316:=⟨_,rfl⟩
      try rw [← qk1315] at h
      refine Z0<|Z2<|Z6 _ (Z9 rfl rfl rfl)<|Z1<|Z0<|Z07 h rfl (fun h=>?_) (fun h=>?_)
      ·refine Zk<|Z0<|Za<|Z0<|cH h fun c1320 h=>bH h fun z1321 ez1321 h=>Z2<|Z7 rfl<|Z6 _ (Z32 rfl rfl (Shp.rd A1) c1320)<|Z6 _ (iz ez1321 (Z33 (E:=(El.int .u64)) (s:=[.one (.int .u64 (p1.getD (i1314).toNat 0))]) rfl (Z16 A1 Z1f) (Z01 c1320) rfl rfl))<|Z7 rfl<|Z7 rfl<|Z1<|Z0<|oH h fun y1323 ey1323 h=>Z2<|Z7 rfl<|Z7 rfl<|Z6 _ (Z0g rfl (Z9c ey1323))<|Z7 rfl<|Z6 _ (Z37 rfl rfl)<|Z6 _ (Z37 rfl rfl)<|Z7 rfl<|Z7 rfl<|Z1<|Z0<|bH h fun z1325 ez1325 h=>cH h fun c1326 h=>bH h fun z1327 ez1327 h=>cH h fun c1328 h=>bH h fun z1329 ez1329 h=>bH h fun z1330 ez1330 h=>Z2<|Z7 rfl<|Z7 rfl<|Z7 rfl<|Z7 rfl<|Z6 _ (iz ez1325 (Z9 rfl rfl rfl))<|Z6 _ (Z32 rfl rfl (Shp.own O1312) c1326)<|Z6 _ (iz ez1327 (Z33 (E:=(El.int .u64)) (s:=[.one (.int .u64 (l1311.getD (z1325).toNat 0))]) rfl (Z0a O1312 .here) (Z01 c1326) rfl rfl))<|Z6 _ (Ze7 rfl Zfk (xadd ez1329 ez1330 c1328))<|Z7 rfl<|Z6 _ (Z37 rfl rfl)<|Z6 _ (Z37 rfl rfl)<|Z7 rfl<|Z7 rfl<|Z1<|Z0<|bH h fun z1332 ez1332 h=>Z2<|Z7 rfl<|Z7 rfl<|Z6 _ (iz ez1332 (Z9 rfl rfl rfl))<|Z7 rfl<|Z1<|Z0<|cH h fun c1334 h=>bH h fun z1335 ez1335 h=>bH h fun z1336 ez1336 h=>Z2<|Z7 rfl<|Z7 rfl<|Z6 _ (Ze7 rfl Zfk (xadd ez1335 ez1336 c1334))<|Z7 rfl<|Z6 _ (Z37 rfl rfl)<|Z6 _ (Z37 rfl rfl)<|Z7 rfl<|Z7 rfl<|Z1<|bH h fun z1338 ez1338 h=>bH h fun z1339 ez1339 h=>cH h fun c1340 h=>bH h fun l1341 el1341 h=>Z2<|Z7 rfl<|Z7 rfl<|Z7 rfl<|Z6 _ (iz ez1338 (Z9 rfl rfl rfl))<|Z7 rfl<|Z7 rfl<|Z7 rfl<|Z6 _ (iz ez1339 (Z9 rfl rfl rfl))<|Z6 _ (Z32 rfl rfl (Shp.own O1312) c1340)<|Zd (Zg1 (E:=(El.int .u64)) el1341 O1312 .here rfl rfl rfl (Z01 c1340) fun ms1342 O1343=>Z7 rfl<|Z1<|bH h fun z1345 ez1345 h=>Z2<|Z6 _ (iz ez1345 (Z9 rfl rfl rfl))<|Z7 rfl<|Z1 ?_)
       rw [qk1315] at h
       exact ⟨n1316,Nat.lt_succ_self _,l1341,z1339,z1345,v1309,ms1342,h,O1343,⟨⟨rfl,rfl,rfl,rfl,rfl,rfl,rfl,rfl,rfl,rfl,rfl,trivial⟩,(.all .here .nil)⟩⟩
      ·exact Zv _ rfl<|⟨l1311,i1313,v1309,ms1310,h,O1312,⟨⟨rfl,rfl,rfl,rfl,rfl,rfl,rfl,trivial⟩,(.all .here .nil)⟩⟩
    ·rintro t m ⟨l1242,i1244,v1240,ms1241,h,O1243,hF⟩
     refine Zg hF ?_
     clear hF
     subst qk1245
     refine bH h fun z1347 ez1347 h=>cH h fun c1348 h=>bH h fun l1349 el1349 h=>Z2<|Z7 rfl<|Z7 rfl<|Z7 rfl<|Z6 _ (Z25 rfl (Shp.rd A1))<|Z6 _ (iz ez1347 (Z9 rfl rfl rfl))<|Z7 rfl<|Z6 _ (Z32 rfl rfl (Shp.own O1243) c1348)<|Zd (Zg1 (E:=(El.int .u64)) el1349 O1243 .here rfl rfl rfl (Z01 c1348) fun ms1350 O1351=>Z1<|bH h fun z1353 ez1353 h=>Z2<|Z6 _ (iz ez1353 (Z9 rfl rfl rfl))<|Z7 rfl<|Z1 ?_)
     rw [qk1131] at h
     exact ⟨n1132,Nat.lt_succ_self _,l1349,z1353,v1240,ms1350,h,O1351,⟨⟨rfl,rfl,rfl,rfl,rfl,trivial⟩,(.all .here .nil)⟩⟩
   ·exact Zv _ rfl<|⟨l1128,v1126,ms1127,h,O1129,⟨⟨rfl,trivial⟩,(.all .here .nil)⟩⟩
 ·rintro t m ⟨l681,v679,ms680,h,O682,hF⟩
  refine Zg hF ?_
  clear hF
  subst qk683
  refine Z0<|Z2<|Z7 rfl<|Z7 rfl<|Z1<|Zm ?_
  revert h; refine Zw fun h=>?_
  subst h
  exact ⟨_,_,(.cons (.tmp rfl) .nil),(.all .here .nil),⟨_,rfl,⟨v679,ms680,rfl,rfl,O682⟩⟩⟩
def Z3r (p0:List Int) (k130:(List (Int))→Option ((List Int)×(List Int))) (k207:(List (Int))→(Int)→Option ((List Int)×(List Int))) (l204:List (Int)) (i206:Int):Option ((List Int)×(List Int)) :=
 br ((decide (i206<(p0.length:Int)))) (
 chk (inB i206 p0.length) <|
 bnd (p0.getD (i206).toNat 0) fun z213 =>
 bnd (Zn .u64 z213 60) fun z214 =>
 bnd (IntKind.wrap .i64 (i206+1)) fun z216 =>
 jn (fun (i224:Int)=>chk (decide ((l204.length+([i224]:List (Int)).length)*8≤140737488355328)) <|
 bnd (l204++([i224]:List (Int))) fun l238 =>
 bnd (IntKind.wrap .i64 (i206+1)) fun z243 =>
 k207 l238 z243) fun k225=>br ((decide (z216<(p0.length:Int)))) (
 bnd (IntKind.wrap .i64 (i206+1)) fun z228 =>
 chk (inB z228 p0.length) <|
 bnd (p0.getD (z228).toNat 0) fun z230 =>
 bnd (Zj .u64 z230 4) fun z231 =>
 bnd (Z4 .or .u64 z214 z231) fun z232 =>
 k225 z232
 ) (
 k225 z214
 )
 ) (
 k130 l204
 )
def Z20 (p0:List Int) (k130:(List (Int))→Option ((List Int)×(List Int))):Nat→(List (Int))→(Int)→Option ((List Int)×(List Int))
  | 0,_,_=>none
  | n+1,l204,i206=>Z3r p0 k130 (Z20 p0 k130 n) l204 i206
def Z7a (p0:List Int):Option ((List Int)×(List Int)) :=
 bnd (wr (List.replicate 4 0) 0 (p0.take 4)) fun l6 =>
 bnd (l6.getD 3 0) fun z8 =>
 bnd (Z4 .and .u64 z8 1152921504606846975) fun z9 =>
 bnd (Z21 l6 3 z9) fun l10 =>
 jn (fun (l128:List (Int))=>some (l10,l128)) fun k130=>Z20 p0 k130 big [] 3
theorem Zho {W:World} {r:(List Int)×(List Int)} {p0:List Int} {v0:Value} (h:Z7a p0=some r) (A0:Z4y (El.int .u64) W v0 p0) :
    Calls Tryz.prog 205 [v0].toArray W (Zc0 W [] (fun v Ms=>∃ (u1:Value) (M1:List Zf),v = .tuple #[agg [.ints .u64 4 (r.1)],u1]∧Ms = [.all M1]∧Z0b (El.int .u64) u1 M1 r.2)):=by
 unfold Z7a at h
 refine Z02 mo Z101 rfl (Zgo _) ?_
 refine Z0<|Z2<|Zd (Zr fun b2 hb2=>Z7 rfl<|Z1<|Z0<|Z2<|Zd (Zr fun b4 hb4=>Z1<|Z0<|bH h fun l6 el6 h=>Z2<|Z6 _ (Z7c rfl .no .no .no (by simp) (by decide))<|Z7 rfl<|Zd (Zh0 (q:=[.ints .u64 4 (l6)]) (lo:=0) (hi:=4) (mz:=4) (base:=0) (cpy0 el6) rfl rfl (Z16 A0 Z1f) rfl (by decide) rfl .here<|Z1<|Z0<|bH h fun z8 ez8 h=>bH h fun z9 ez9 h=>bH h fun l10 el10 h=>Z2<|Z6 _ (Z0v rfl rfl (by decide))<|Z6 _ (iz ez8 (Z1a rfl .here rfl))<|Z6 _ (iz ez9 (Z9 rfl rfl rfl))<|Z6 _ (Z0v rfl rfl (by decide))<|Zd (Z5i (q:=[.ints .u64 4 (l10)]) (congrArg (fun z=>([.ints .u64 4 (z)]:List Seg)) el10.symm) rfl rfl rfl rfl .here<|Z1<|Z0<|Z2<|Z7 rfl<|Z1<|Z0<|Z0<|Z2<|Z7 rfl<|Z1<|jH h fun k130 qk130 h=>Zh (G:=fun t m=>∃ (l128:List (Int)) (v126:Value) (ms127:List Zf),k130 l128=some r∧Z0b (El.int .u64) v126 ms127 l128∧Fit [(2,.pointer (some ⟨b2,0,none⟩)),(4,.pointer (some ⟨b4,0,none⟩)),(5,v126)] (ck b4 162 [.ints .u64 4 (l10)]::(ck b2 162 [.ints .u64 4 ((List.replicate 4 0))]::(ms127 ++ []))) t m) ?_ ?_))))
 ·refine Za<|Zo (fun n208 t m=>∃ (l204:List (Int)) (i206:Int) (v202:Value) (ms203:List Zf),Z20 p0 k130 n208 l204 i206=some r∧Z0b (El.int .u64) v202 ms203 l204∧Fit [(0,v0),(2,.pointer (some ⟨b2,0,none⟩)),(4,.pointer (some ⟨b4,0,none⟩)),(5,v202),(6,.int .i64 (i206))] (ck b4 162 [.ints .u64 4 (l10)]::(ck b2 162 [.ints .u64 4 ((List.replicate 4 0))]::(ms203 ++ []))) t m) big ?_ ?_
  ·exact ⟨[],3,(.slice none 0 0),[],h,Z59,⟨⟨rfl,rfl,rfl,rfl,rfl,trivial⟩,(.one .here (.one .here (.no .nil)))⟩⟩
  ·rintro n208 t m ⟨l204,i206,v202,ms203,h,O205,hF⟩
   refine Zg hF ?_
   clear hF
   rcases n208 with _ | n208
   · exact Z05 h
   have h:Z3r p0 k130 (Z20 p0 k130 n208) l204 i206=some r:=h
   unfold Z3r at h
   obtain ⟨k207,qk207⟩ : ∃ k,k=Z20 p0 k130 n208:=⟨_,rfl⟩
   try rw [← qk207] at h
   refine Z0<|Z0<|Z2<|Z7 rfl<|Z7 rfl<|Z6 _ (Z25 rfl (Shp.rd A0))<|Z6 _ (Z9 rfl rfl rfl)<|Z1<|Z07 h rfl (fun h=>?_) (fun h=>?_)
   ·refine Zk<|Z0<|Za<|Z0<|cH h fun c212 h=>bH h fun z213 ez213 h=>bH h fun z214 ez214 h=>Z2<|Z7 rfl<|Z7 rfl<|Z6 _ (Z32 rfl rfl (Shp.rd A0) c212)<|Z6 _ (iz ez213 (Z33 (E:=(El.int .u64)) (s:=[.one (.int .u64 (p0.getD (i206).toNat 0))]) rfl (Z16 A0 Z1f) (Z01 c212) rfl rfl))<|Z6 _ (iz ez214 (Z4i rfl rfl (by decide)))<|Z7 rfl<|Z1<|Z0<|Z0<|bH h fun z216 ez216 h=>Z2<|Z7 rfl<|Z6 _ (iz ez216 (Z9 rfl rfl rfl))<|Z7 rfl<|Z6 _ (Z25 rfl (Shp.rd A0))<|Z6 _ (Z9 rfl rfl rfl)<|Z1<|jH h fun k225 qk225 h=>Zh (G:=fun t m=>∃ (i224:Int),k225 i224=some r∧Fit [(0,v0),(2,.pointer (some ⟨b2,0,none⟩)),(4,.pointer (some ⟨b4,0,none⟩)),(5,v202),(6,.int .i64 (i206)),(7,.int .u64 (i224))] (ck b4 162 [.ints .u64 4 (l10)]::(ck b2 162 [.ints .u64 4 ((List.replicate 4 0))]::(ms203 ++ []))) t m) ?_ ?_
    ·refine Z07 h rfl (fun h=>?_) (fun h=>?_)
     ·exact bH h fun z228 ez228 h=>cH h fun c229 h=>bH h fun z230 ez230 h=>bH h fun z231 ez231 h=>bH h fun z232 ez232 h=>Z2<|Z7 rfl<|Z7 rfl<|Z7 rfl<|Z6 _ (iz ez228 (Z9 rfl rfl rfl))<|Z6 _ (Z32 rfl rfl (Shp.rd A0) c229)<|Z6 _ (iz ez230 (Z33 (E:=(El.int .u64)) (s:=[.one (.int .u64 (p0.getD (z228).toNat 0))]) rfl (Z16 A0 Z1f) (Z01 c229) rfl rfl))<|Z6 _ (iz ez231 (Zid rfl rfl (by decide)))<|Z6 _ (iz ez232 (Z9 rfl rfl rfl))<|Z7 rfl<|Z1<|⟨z232,h,⟨⟨rfl,rfl,rfl,rfl,rfl,rfl,trivial⟩,(.one .here (.one .here (.all .here .nil)))⟩⟩
     ·exact Zk<|⟨z214,h,⟨⟨rfl,rfl,rfl,rfl,rfl,rfl,trivial⟩,(.one .here (.one .here (.all .here .nil)))⟩⟩
    ·rintro t m ⟨i224,h,hF⟩
     refine Zg hF ?_
     clear hF
     subst qk225
     refine cH h fun c237 h=>bH h fun l238 el238 h=>Z2<|Z7 rfl<|Z7 rfl<|Zd (Z5h (E:=(El.int .u64)) (xs:=[i224]) (.one rfl rfl rfl BdR.nil) (.cons (p:=[.one (.int .u64 (i224))]) rfl .nil) rfl fun v234 ms235 O236=>Zd (Z3f (E:=(El.int .u64)) el238 rfl O205 (.app (.there (.there .here))) rfl (Z0a O236 .here) c237 fun v239 ms240 O241=>Z7 rfl<|Z1<|bH h fun z243 ez243 h=>Z2<|Z7 rfl<|Z6 _ (iz ez243 (Z9 rfl rfl rfl))<|Z7 rfl<|Z1 ?_))
     rw [qk207] at h
     exact ⟨n208,Nat.lt_succ_self _,l238,z243,v239,ms240,h,O241,⟨⟨rfl,rfl,rfl,rfl,rfl,trivial⟩,(.one (.app (.app .here)) (.one (.app (.app .here)) (.all .here .nil)))⟩⟩
   ·exact Zv _ rfl<|⟨l204,v202,ms203,h,O205,⟨⟨rfl,rfl,rfl,trivial⟩,(.one .here (.one .here (.all .here .nil)))⟩⟩
 ·rintro t m ⟨l128,v126,ms127,h,O129,hF⟩
  refine Zg hF ?_
  clear hF
  subst qk130
  refine Z0<|Z2<|Z6 _ (Z00 (p:=[.ints .u64 4 (l10)]) rfl .here rfl)<|Z7 rfl<|Zd (Zp (q:=[.ints .u64 4 (l10)]) rfl rfl rfl rfl rfl (.there .here)<|Z7 rfl<|Z1<|Zm ?_)
  revert h; refine Zw fun h=>?_
  subst h
  exact ⟨_,_,(.cons (.agg rfl (.there .here) rfl) (.cons (.tmp rfl) .nil)),(.all (.there (.there .here)) .nil),⟨_,rfl,⟨v126,ms127,rfl,rfl,O129⟩⟩⟩
def Zcm:OL :=
 some ([6346243789798364141,1503914060200516822]:List (Int))
theorem Zih {W:World} {r:(List Int)} (h:Zcm=some r)  :
    Calls Tryz.prog 206 [].toArray W (Zc0 W [] (fun v Ms=>∃ (u0:Value) (M0:List Zf),v=u0∧Ms = [.all M0]∧Z0b (El.int .u64) u0 M0 r)):=by
 unfold Zcm at h
 refine Z02 mo Z102 rfl (Zgo _) ?_
 refine Z0<|Z2<|Z7 rfl<|Z1<|Z0<|Z2<|Zd (Z5h (E:=(El.int .u64)) (xs:=[6346243789798364141,1503914060200516822]) (.one rfl rfl rfl (.one rfl rfl rfl BdR.nil)) (.cons (p:=[.one (.int .u64 (6346243789798364141))]) rfl (.cons (p:=[.one (.int .u64 (1503914060200516822))]) rfl .nil)) rfl fun v3 ms4 O5=>Z7 rfl<|Z1<|Zm ?_)
 revert h; refine Zw fun h=>?_
 subst h
 exact ⟨_,_,(.cons (.tmp rfl) .nil),(.all .here .nil),⟨_,rfl,⟨v3,ms4,rfl,rfl,O5⟩⟩⟩
abbrev Z47:El (List Int):=⟨4,fun x=>cells [.ints .u64 4 (x)],fun x=>by rw [cells_length]; rfl,fun x=>(Z4z Z8o Zci),by decide,(List.replicate 4 0)⟩
def Z51 (k122:(List (List Int))→OL) (k201:(List (Int))→(Int)→(List (List Int))→OL) (l196:List (Int)) (i199:Int) (a200:List (List Int)):OL :=
 br ((decide (i199<4))) (
 opt (Z7a l196) fun y209 =>
 bnd (Int.tmod i199 2) fun z216 =>
 bnd (Int.tmod i199 2) fun z217 =>
 chk (inB z217 2) <|
 bnd (a200.getD (z217).toNat (List.replicate 4 0)) fun x219 =>
 opt (Z5x x219 y209.1) fun y220 =>
 chk (inB z216 2) <|
 bnd (Zcp (List.replicate 4 0) a200 (z216).toNat y220.1) fun l222 =>
 opt (Zcm ) fun y224 =>
 opt (Z7b y209.2 y224) fun y230 =>
 bnd (IntKind.wrap .i64 (i199+1)) fun z237 =>
 k201 y230 z237 l222
 ) (
 k122 a200
 )
def Z23 (k122:(List (List Int))→OL):Nat→(List (Int))→(Int)→(List (List Int))→OL
  | 0,_,_,_=>none
  | n+1,l196,i199,a200=>Z51 k122 (Z23 k122 n) l196 i199 a200
def Z4w (p0:List Int):OL :=
 jn (fun (a121:List (List Int))=>opt (Z5x G_order G_order) fun y239 =>
 bnd (a121.getD 0 (List.replicate 4 0)) fun x242 =>
 opt (Z5x x242 y239.1) fun y243 =>
 bnd (a121.getD 1 (List.replicate 4 0)) fun x246 =>
 opt (Z79 y243.1 x246) fun y247 =>
 opt (Z78 y247.1) fun y249 =>
 some y249) fun k122=>Z23 k122 big p0 0 (List.replicate 2 (List.replicate 4 0))
theorem Z7s {W:World} {r:(List Int)} {p0:List Int} {v0:Value} (h:Z4w p0=some r) (hG:Globs W) (A0:Z4y (El.int .u64) W v0 p0) :
    Calls Tryz.prog 162 [v0].toArray W (Z2s W (agg [.ints .u64 4 (r)])):=by
 unfold Z4w at h
 refine Zc mo Z0z0 rfl ?_
 refine Z0<|Z2<|Zd (Zr fun b2 hb2=>Z1<|Z0<|Z2<|Zd (Zja (z':=[.rows 4 2 (Z9j Z47 ((List.replicate 2 (List.replicate 4 0))))]) (Zcd (E:=Z47) rfl rfl) fun b4 hb4=>Z1<|Z0<|Z0<|Z2<|Z7 rfl<|Z1<|jH h fun k122 qk122 h=>Zh (G:=fun t m=>∃ (a121:List (List Int)),k122 a121=some r∧Fit [(2,.pointer (some ⟨b2,0,none⟩)),(3,.pointer (some ⟨b4,0,none⟩))] (ck b4 229 [.rows 4 2 (Z9j Z47 (a121))]::(ck b2 162 [.ints .u64 4 ((List.replicate 4 0))] :: [])) t m) ?_ ?_))
 ·refine Za<|Zo (fun n202 t m=>∃ (l196:List (Int)) (i199:Int) (a200:List (List Int)) (v194:Value) (ms195:List Zf),Z23 k122 n202 l196 i199 a200=some r∧Zkq (⟨Tryz.prog,d162.n,W,[]⟩:Cfg) ms195 (El.int .u64) v194 l196∧Shp v194 l196.length∧Fit [(0,v194),(2,.pointer (some ⟨b2,0,none⟩)),(3,.pointer (some ⟨b4,0,none⟩)),(10,.int .i64 (i199))] (ck b4 229 [.rows 4 2 (Z9j Z47 (a200))]::(ck b2 162 [.ints .u64 4 ((List.replicate 4 0))]::(ms195 ++ []))) t m) big ?_ ?_
  ·exact ⟨p0,0,(List.replicate 2 (List.replicate 4 0)),v0,[],h,(Z16 A0 Z1f),(Shp.rd A0),⟨⟨rfl,rfl,rfl,rfl,trivial⟩,(.one .here (.one .here (.no .nil)))⟩⟩
  ·rintro n202 t m ⟨l196,i199,a200,v194,ms195,h,H197,Z198,hF⟩
   refine Zg hF ?_
   clear hF
   rcases n202 with _ | n202
   · exact Z05 h
   have h:Z51 k122 (Z23 k122 n202) l196 i199 a200=some r:=h
   unfold Z51 at h
   obtain ⟨k201,qk201⟩ : ∃ k,k=Z23 k122 n202:=⟨_,rfl⟩
   try rw [← qk201] at h
   refine Z0<|Z2<|Z6 _ (Z9 rfl rfl rfl)<|Z1<|Z0<|Z07 h rfl (fun h=>?_) (fun h=>?_)
   ·refine Zk<|Z0<|Za<|Z0<|Z2<|Z7 rfl<|Z7 rfl<|Z1<|Z0<|Z2<|Zd (Zr fun b207 hb207=>Z1<|Z0<|oH h fun y209 ey209 h=>Z2<|Z7 rfl<|Zd (Zz rfl (fun w hw=>Zho (r:=y209) (p0:=l196) ey209 ((Z17e H197 (.there (.there (.there .here)))) w hw)) fun v210 Msv210 R211=>?_))
    obtain ⟨v212,ms213,rfl,rfl,O214⟩:=R211
    refine Z7 rfl<|Z6 _ (Z37 rfl rfl)<|Z6 _ (Z37 rfl rfl)<|Zd (Zp (q:=[.ints .u64 4 (y209.1)]) rfl rfl rfl rfl rfl (.app .here)<|Z7 rfl<|Z1<|Z0<|bH h fun z216 ez216 h=>bH h fun z217 ez217 h=>cH h fun c218 h=>bH h fun x219 ex219 h=>oH h fun y220 ey220 h=>cH h fun c221 h=>bH h fun l222 el222 h=>Zu<|Z8 _ (Z0u rfl)<|Z8 _ (iz ez216 (Zah rfl rfl (by decide)))<|Z8 _ (Z0u rfl)<|Z8 _ (iz ez217 (Zah rfl rfl (by decide)))<|Z8 _ (Z0v rfl rfl (Z09 c218))<|Zq _ (az (fun x219=>agg [.ints .u64 4 (x219)]) ex219 (Zlq (base:=0) (w:=4) rfl (.app (.there .here)) rfl (Z01 c218) rfl rfl rfl))<|Zq _ (Z00 (p:=[.ints .u64 4 (y209.1)]) rfl (.app .here) rfl)<|Z8 _ (Z08 (vs:=[agg [.ints .u64 4 (x219)],agg [.ints .u64 4 (y209.1)]]) (v:=.tuple #[agg [.ints .u64 4 (y220.1)],.int .u64 (y220.2)]) rfl (fun w hw=>Z6n (r:=y220) (p0:=x219) (p1:=y209.1) ey220 ))<|Z8 _ (Z0u rfl)<|Z8 _ (Z37 rfl rfl)<|Z8 _ (Z37 rfl rfl)<|Z8 _ (Z0v rfl rfl (Z09 c221))<|Z1b rfl (Zjb (q:=[.rows 4 2 (Z9j Z47 (l222))]) (E:=Z47) (base:=0) el222 rfl rfl rfl rfl (Z01 c221) rfl (.app (.there .here))<|Z03<|oH h fun y224 ey224 h=>oH h fun y230 ey230 h=>Z2<|Z7 rfl<|Zd (Zz rfl (fun w hw=>Zih (r:=y224) ey224 ) fun v225 Msv225 R226=>?_)))
    obtain ⟨_,ms228,rfl,rfl,O229⟩:=R226
    refine Zd (Zz rfl (fun w hw=>Zc7 (r:=y230) (p0:=y209.2) (p1:=y224) ey230 ((Z0a O214 (.app .here)) w hw) ((Z0a O229 .here) w hw)) fun v231 Msv231 R232=>?_)
    obtain ⟨_,ms234,rfl,rfl,O235⟩:=R232
    refine Z7 rfl<|Z1<|bH h fun z237 ez237 h=>Z2<|Z6 _ (iz ez237 (Z9 rfl rfl rfl))<|Z7 rfl<|Z1 ?_
    rw [qk201] at h
    exact ⟨n202,Nat.lt_succ_self _,y230,z237,l222,v231,ms234,h,(Z04t O235),(Shp.own O235),⟨⟨rfl,rfl,rfl,rfl,trivial⟩,(.one (.app (.app (.app (.there .here)))) (.one (.app (.app (.app (.there .here)))) (.all .here .nil)))⟩⟩
   ·exact Zv _ rfl<|⟨a200,h,⟨⟨rfl,rfl,trivial⟩,(.one .here (.one .here .nil))⟩⟩
 ·rintro t m ⟨a121,h,hF⟩
  refine Zg hF ?_
  clear hF
  subst qk122
  refine Z0<|oH h fun y239 ey239 h=>Z2<|Z6 _ (Zti (o0:=0) (off:=0) rfl (hG.g1) (by simp) rfl)<|Z6 _ (Zti (o0:=0) (off:=0) rfl (hG.g1) (by simp) rfl)<|Z6 _ (Z08 (vs:=[agg [.ints .u64 4 (G_order)],agg [.ints .u64 4 (G_order)]]) (v:=.tuple #[agg [.ints .u64 4 (y239.1)],.int .u64 (y239.2)]) rfl (fun w hw=>Z6n (r:=y239) (p0:=G_order) (p1:=G_order) ey239 ))<|Z7 rfl<|Z6 _ (Z37 rfl rfl)<|Z6 _ (Z37 rfl rfl)<|Zd (Zr fun b240 hb240=>Zd (Zp (q:=[.ints .u64 4 (y239.1)]) rfl rfl rfl rfl rfl .here<|Z7 rfl<|Z1<|Z0<|bH h fun x242 ex242 h=>oH h fun y243 ey243 h=>Z2<|Z6 _ (Z0v rfl rfl (by decide))<|Z6 _ (az (fun x242=>agg [.ints .u64 4 (x242)]) ex242 (Z02u (base:=0) (i:=0) (c:=0) (w:=4) (len:=2) rfl (.there .here) rfl (by decide) rfl rfl rfl))<|Z6 _ (Z00 (p:=[.ints .u64 4 (y239.1)]) rfl .here rfl)<|Z6 _ (Z08 (vs:=[agg [.ints .u64 4 (x242)],agg [.ints .u64 4 (y239.1)]]) (v:=.tuple #[agg [.ints .u64 4 (y243.1)],.int .u64 (y243.2)]) rfl (fun w hw=>Z6n (r:=y243) (p0:=x242) (p1:=y239.1) ey243 ))<|Z7 rfl<|Z6 _ (Z37 rfl rfl)<|Z6 _ (Z37 rfl rfl)<|Zd (Zr fun b244 hb244=>Zd (Zp (q:=[.ints .u64 4 (y243.1)]) rfl rfl rfl rfl rfl .here<|Z7 rfl<|Z1<|Z0<|bH h fun x246 ex246 h=>oH h fun y247 ey247 h=>Z2<|Z6 _ (Z00 (p:=[.ints .u64 4 (y243.1)]) rfl .here rfl)<|Z6 _ (Z0v rfl rfl (by decide))<|Z6 _ (az (fun x246=>agg [.ints .u64 4 (x246)]) ex246 (Z02u (base:=0) (i:=1) (c:=0) (w:=4) (len:=2) rfl (.there (.there .here)) rfl (by decide) rfl rfl rfl))<|Z6 _ (Z08 (vs:=[agg [.ints .u64 4 (y243.1)],agg [.ints .u64 4 (x246)]]) (v:=.tuple #[agg [.ints .u64 4 (y247.1)],.int .u64 (y247.2)]) rfl (fun w hw=>Zc6 (r:=y247) (p0:=y243.1) (p1:=x246) ey247 ))<|Z7 rfl<|Z6 _ (Z37 rfl rfl)<|Z6 _ (Z37 rfl rfl)<|Zd (Zp (q:=[.ints .u64 4 (y247.1)]) rfl rfl rfl rfl rfl .here<|Z1<|Z0<|oH h fun y249 ey249 h=>Z2<|Z6 _ (Z00 (p:=[.ints .u64 4 (y247.1)]) rfl .here rfl)<|Z6 _ (Z08 (vs:=[agg [.ints .u64 4 (y247.1)]]) (v:=agg [.ints .u64 4 (y249)]) rfl (fun w hw=>Zc5 (r:=y249) (p0:=y247.1) ey249 (hG.at hw (by simp))))<|Zd (Zp (q:=[.ints .u64 4 (y249)]) rfl rfl rfl rfl rfl (.there (.there (.there .here)))<|Z1<|Zm ?_))))))
  revert h; refine Zw fun h=>?_
  subst h
  exact ⟨_,(.cons (.agg rfl (.there (.there (.there .here))) rfl) .nil),rfl⟩
def Z99 (p0:List Int) (k40:(List Int)→OL) (k61:(Int)→(List Int)→OL) (i59:Int) (a60:List Int):OL :=
 br ((decide (i59<8))) (
 bnd (IntKind.wrap .i64 (8*i59)) fun z67 =>
 opt (Z5a (tk p0 0 64) z67) fun y68 =>
 chk (inB i59 8) <|
 bnd (Z21 a60 (i59).toNat y68.1) fun l70 =>
 bnd (IntKind.wrap .i64 (i59+1)) fun z72 =>
 k61 z72 l70
 ) (
 k40 a60
 )
def Z3w (p0:List Int) (k40:(List Int)→OL):Nat→(Int)→(List Int)→OL
  | 0,_,_=>none
  | n+1,i59,a60=>Z99 p0 k40 (Z3w p0 k40 n) i59 a60
def Z4v (p0:List Int):OL :=
 jn (fun (a39:List Int)=>opt (Z4w (tk a39 0 8)) fun y74 =>
 opt (Z5y y74) fun y75 =>
 some y75) fun k40=>Z3w p0 k40 big 0 (List.replicate 8 0)
theorem Zgr {W:World} {r:(List Int)} {p0:List Int} (h:Z4v p0=some r) (hG:Globs W) :
    Calls Tryz.prog 98 [agg [.ints .u8 64 (p0)]].toArray W (Z2s W (agg [.ints .u8 32 (r)])):=by
 unfold Z4v at h
 refine Zc mo ok98 rfl ?_
 refine Z0<|Z2<|Zd (Z0e (s:=[.ints .u8 64 (p0)]) rfl fun b2 hb2=>Zd (Zr fun b3 hb3=>Z1<|Z0<|Z2<|Zd (Zr fun b5 hb5=>Z1<|Z0<|Z0<|Z2<|Z7 rfl<|Z1<|jH h fun k40 qk40 h=>Zh (G:=fun t m=>∃ (a39:List Int),k40 a39=some r∧Fit [(2,.pointer (some ⟨b3,0,none⟩)),(3,.pointer (some ⟨b5,0,none⟩))] (ck b5 144 [.ints .u64 8 (a39)]::(ck b3 74 [.ints .u8 32 ((List.replicate 32 0))]::(ck b2 94 [.ints .u8 64 (p0)] :: []))) t m) ?_ ?_)))
 ·refine Za<|Zo (fun n62 t m=>∃ (i59:Int) (a60:List Int),Z3w p0 k40 n62 i59 a60=some r∧Fit [(1,.pointer (some ⟨b2,0,none⟩)),(2,.pointer (some ⟨b3,0,none⟩)),(3,.pointer (some ⟨b5,0,none⟩)),(5,.int .i64 (i59))] (ck b5 144 [.ints .u64 8 (a60)]::(ck b3 74 [.ints .u8 32 ((List.replicate 32 0))]::(ck b2 94 [.ints .u8 64 (p0)] :: []))) t m) big ?_ ?_
  ·exact ⟨0,(List.replicate 8 0),h,⟨⟨rfl,rfl,rfl,rfl,trivial⟩,(.one .here (.one .here (.one .here .nil)))⟩⟩
  ·rintro n62 t m ⟨i59,a60,h,hF⟩
   refine Zg hF ?_
   clear hF
   rcases n62 with _ | n62
   · exact Z05 h
   have h:Z99 p0 k40 (Z3w p0 k40 n62) i59 a60=some r:=h
   unfold Z99 at h
   obtain ⟨k61,qk61⟩ : ∃ k,k=Z3w p0 k40 n62:=⟨_,rfl⟩
   try rw [← qk61] at h
   refine Z0<|Z2<|Z6 _ (Z9 rfl rfl rfl)<|Z1<|Z0<|Z07 h rfl (fun h=>?_) (fun h=>?_)
   ·refine Zk<|Z0<|Za<|Z0<|Z2<|Z7 rfl<|Z7 rfl<|Z1<|bH h fun z67 ez67 h=>oH h fun y68 ey68 h=>cH h fun c69 h=>bH h fun l70 el70 h=>Z2<|Z7 rfl<|Z6 _ (Z7c rfl .no .no .no (by simp) (by decide))<|Z7 rfl<|Z6 _ (iz ez67 (Z9 rfl rfl rfl))<|Z6 _ (Z08 rfl (fun w hw=>Z7d ey68 ((Z1g (s:=[.ints .u8 64 (p0)]) (N:=64) (k:=.u8) (base:=0) (lo:=0) (hi:=64) (mz:=64) (.there (.there .here)) rfl (by decide)) w hw)))<|Z7 rfl<|Z6 _ (Z37 rfl rfl)<|Z6 _ (Z37 rfl rfl)<|Z6 _ (Z0v rfl rfl (Z09 c69))<|Zd (Z1e (q:=[.ints .u64 8 (l70)]) (base:=0) el70 rfl rfl rfl (Z01 c69) rfl .here<|Z1<|bH h fun z72 ez72 h=>Z2<|Z6 _ (iz ez72 (Z9 rfl rfl rfl))<|Z7 rfl<|Z1 ?_)
    rw [qk61] at h
    exact ⟨n62,Nat.lt_succ_self _,z72,l70,h,⟨⟨rfl,rfl,rfl,rfl,trivial⟩,(.one .here (.one .here (.one .here .nil)))⟩⟩
   ·exact Zv _ rfl<|⟨a60,h,⟨⟨rfl,rfl,trivial⟩,(.one .here (.one .here (.one .here .nil)))⟩⟩
 ·rintro t m ⟨a39,h,hF⟩
  refine Zg hF ?_
  clear hF
  subst qk40
  refine Z0<|oH h fun y74 ey74 h=>oH h fun y75 ey75 h=>Z2<|Z6 _ (Z7c rfl .no .no .no (by simp) (by decide))<|Z6 _ (Z08 rfl (fun w hw=>Z7s ey74 (hG.at hw (by simp)) ((Z1g (s:=[.ints .u64 8 (a39)]) (N:=8) (k:=.u64) (base:=0) (lo:=0) (hi:=8) (mz:=8) .here rfl (by decide)) w hw)))<|Z6 _ (Z0g rfl (Z86 ey75))<|Zd (Zp (q:=[.ints .u8 32 (y75)]) rfl rfl rfl rfl rfl (.there .here)<|Z1<|Zm ?_)
  revert h; refine Zw fun h=>?_
  subst h
  exact ⟨_,(.cons (.agg rfl (.there .here) rfl) .nil),rfl⟩
def Z94 (p0:List (List Int)) (k55:(List Int)→(List Int)→(Int)→(Int)→OL) (k85:(Int)→(List Int)→(List Int)→(Int)→(Int)→OL) (i80:Int) (a81:List Int) (a82:List Int) (i83:Int) (i84:Int):OL :=
 br ((decide (i80<(p0.length:Int)))) (
 chk (inB i80 p0.length) <|
 opt (Z18 (⟨a81,a82,i83,i84⟩:Zs) (p0.getD (i80).toNat [])) fun y92 =>
 bnd (IntKind.wrap .i64 (i80+1)) fun z96 =>
 k85 z96 y92.gstate y92.gheld y92.ghave y92.glength
 ) (
 k55 a81 a82 i83 i84
 )
def Z4q (p0:List (List Int)) (k55:(List Int)→(List Int)→(Int)→(Int)→OL):Nat→(Int)→(List Int)→(List Int)→(Int)→(Int)→OL
  | 0,_,_,_,_,_=>none
  | n+1,i80,a81,a82,i83,i84=>Z94 p0 k55 (Z4q p0 k55 n) i80 a81 a82 i83 i84
def Z7t (p0:List (List Int)):OL :=
 opt (Z9s ) fun y4 =>
 jn (fun (a51:List Int) (a52:List Int) (i53:Int) (i54:Int)=>opt (Z2q (⟨a51,a52,i53,i54⟩:Zs)) fun y98 =>
 opt (Z4v y98.1) fun y101 =>
 some y101) fun k55=>Z4q p0 k55 big 0 y4.gstate y4.gheld y4.ghave y4.glength
theorem Z8d {W:World} {r:(List Int)} {p0:List (List Int)} {v0:Value} {us0:List SlT} (h:Z7t p0=some r) (hG:Globs W) (A0:Z4y El.sl W v0 us0) (B0:Zi7 (El.int .u8) W us0 p0) :
    Calls Tryz.prog 52 [v0].toArray W (Z2s W (agg [.ints .u8 32 (r)])):=by
 unfold Z7t at h
 refine Zc mo ok52 rfl ?_
 refine Z0<|Z2<|Zd (Zr fun b2 hb2=>Z1<|Z0<|oH h fun y4 ey4 h=>Z2<|Zd (Zz rfl (fun w hw=>Zee  ey4 (hG.at hw (by simp))) fun v5 Msv5 R6=>?_))
 obtain ⟨b7,T8,rfl,rfl⟩:=R6
 refine Z7 rfl<|Z1<|Z0<|Z0<|Z2<|Z7 rfl<|Z6 _ ((Z028 (Z25 rfl (Shp.rd A0)) (Zi7.len B0)))<|Z7 rfl<|Z1<|jH h fun k55 qk55 h=>Zh (G:=fun t m=>∃ (a51:List Int) (a52:List Int) (i53:Int) (i54:Int),k55 a51 a52 i53 i54=some r∧Fit [(2,.pointer (some ⟨b2,0,none⟩)),(3,.pointer (some ⟨b7,0,none⟩))] (ck b7 T8 [.ints .u64 8 (a51),.ints .u8 128 (a52),.one (.int .i64 (i53)),.one (.int .u64 (i54))]::(ck b2 74 [.ints .u8 32 ((List.replicate 32 0))] :: [])) t m) ?_ ?_
 ·refine Za<|Zo (fun n86 t m=>∃ (i80:Int) (a81:List Int) (a82:List Int) (i83:Int) (i84:Int),Z4q p0 k55 n86 i80 a81 a82 i83 i84=some r∧Fit [(2,.pointer (some ⟨b2,0,none⟩)),(3,.pointer (some ⟨b7,0,none⟩)),(7,v0),(8,.int .i64 ((p0.length:Int))),(9,.int .i64 (i80))] (ck b7 T8 [.ints .u64 8 (a81),.ints .u8 128 (a82),.one (.int .i64 (i83)),.one (.int .u64 (i84))]::(ck b2 74 [.ints .u8 32 ((List.replicate 32 0))] :: [])) t m) big ?_ ?_
  ·exact ⟨0,y4.gstate,y4.gheld,y4.ghave,y4.glength,h,⟨⟨rfl,rfl,rfl,rfl,rfl,trivial⟩,(.one .here (.one .here .nil))⟩⟩
  ·rintro n86 t m ⟨i80,a81,a82,i83,i84,h,hF⟩
   refine Zg hF ?_
   clear hF
   rcases n86 with _ | n86
   · exact Z05 h
   have h:Z94 p0 k55 (Z4q p0 k55 n86) i80 a81 a82 i83 i84=some r:=h
   unfold Z94 at h
   obtain ⟨k85,qk85⟩ : ∃ k,k=Z4q p0 k55 n86:=⟨_,rfl⟩
   try rw [← qk85] at h
   refine Z0<|Z2<|Z6 _ (Z9 rfl rfl rfl)<|Z1<|Z0<|Z07 h rfl (fun h=>?_) (fun h=>?_)
   ·refine Zk<|Z0<|Za<|Z0<|cH h fun c90 h=>Z2<|Z6 _ (Z32 rfl rfl (Shp.rd A0) (Zu9 B0 c90))<|Z6 _ (Z33 (E:=El.sl) (s:=[.one (slV (us0.getD (i80).toNat (none,0,0)))]) rfl (Z16 A0 Z1f) (Z01 (Zu9 B0 c90)) rfl rfl)<|Z7 rfl<|Z1<|oH h fun y92 ey92 h=>Z2<|Z7 rfl<|Z7 rfl<|Zd (Z2i (mS:=[_]) rfl (Z6p.perm .here) (fun w hw=>Z4k (p0:=(⟨a81,a82,i83,i84⟩:Zs)) ey92 (Zaj hw (mS:=[_]) (Z6p.perm .here)) (hG.at hw (by simp)) (hG.ap (by simp) .here hw) ⟨(Z16 (Zi7.get B0 _ (Z01 c90)) Z1f) w hw,(Znn (E:=(El.int .u8)) (Zi7.get B0 _ (Z01 c90)) .here hw)⟩) fun v93 Msv93 R94=>?_)
    obtain ⟨rfl,rfl⟩:=R94
    refine Z1<|bH h fun z96 ez96 h=>Z2<|Z6 _ (iz ez96 (Z9 rfl rfl rfl))<|Z7 rfl<|Z1 ?_
    rw [qk85] at h
    exact ⟨n86,Nat.lt_succ_self _,z96,y92.gstate,y92.gheld,y92.ghave,y92.glength,h,⟨⟨rfl,rfl,rfl,rfl,rfl,trivial⟩,(.one .here (.one .here .nil))⟩⟩
   ·exact Zv _ rfl<|⟨a81,a82,i83,i84,h,⟨⟨rfl,rfl,trivial⟩,(.one .here (.one .here .nil))⟩⟩
 ·rintro t m ⟨a51,a52,i53,i54,h,hF⟩
  refine Zg hF ?_
  clear hF
  subst qk55
  refine Z0<|oH h fun y98 ey98 h=>oH h fun y101 ey101 h=>Z2<|Z7 rfl<|Zd (Z2i (mS:=[_]) rfl (Z6p.perm .here) (fun w hw=>Z7w (p0:=(⟨a51,a52,i53,i54⟩:Zs)) ey98 (Zaj hw (mS:=[_]) (Z6p.perm .here)) (hG.at hw (by simp)) (hG.ap (by simp) .here hw)) fun v99 Msv99 R100=>?_)
  obtain ⟨rfl,rfl⟩:=R100
  refine Z6 _ (Z08 rfl (fun w hw=>Zgr ey101 (hG.at hw (by simp))))<|Zd (Zp (q:=[.ints .u8 32 (y101)]) rfl rfl rfl rfl rfl (.there .here)<|Z1<|Zm ?_)
  revert h; refine Zw fun h=>?_
  subst h
  exact ⟨_,(.cons (.agg rfl (.there .here) rfl) .nil),rfl⟩
def Zb7 (p0:List Int) (k40:(List Int)→OL) (k61:(Int)→(List Int)→OL) (i59:Int) (a60:List Int):OL :=
 br ((decide (i59<4))) (
 bnd (IntKind.wrap .i64 (8*i59)) fun z67 =>
 opt (Z5a (tk p0 0 32) z67) fun y68 =>
 chk (inB i59 4) <|
 bnd (Z21 a60 (i59).toNat y68.1) fun l70 =>
 bnd (IntKind.wrap .i64 (i59+1)) fun z72 =>
 k61 z72 l70
 ) (
 k40 a60
 )
def Z6l (p0:List Int) (k40:(List Int)→OL):Nat→(Int)→(List Int)→OL
  | 0,_,_=>none
  | n+1,i59,a60=>Zb7 p0 k40 (Z6l p0 k40 n) i59 a60
def Zak (p0:List Int):OL :=
 jn (fun (a39:List Int)=>some a39) fun k40=>Z6l p0 k40 big 0 (List.replicate 4 0)
theorem Zig {W:World} {r:(List Int)} {p0:List Int} (h:Zak p0=some r)  :
    Calls Tryz.prog 132 [agg [.ints .u8 32 (p0)]].toArray W (Z2s W (agg [.ints .u64 4 (r)])):=by
 unfold Zak at h
 refine Zc mo Z0ya rfl ?_
 refine Z0<|Z2<|Zd (Z0e (s:=[.ints .u8 32 (p0)]) rfl fun b2 hb2=>Zd (Zr fun b3 hb3=>Z1<|Z0<|Z2<|Zd (Zr fun b5 hb5=>Z1<|Z0<|Z0<|Z2<|Z7 rfl<|Z1<|jH h fun k40 qk40 h=>Zh (G:=fun t m=>∃ (a39:List Int),k40 a39=some r∧Fit [(2,.pointer (some ⟨b3,0,none⟩)),(3,.pointer (some ⟨b5,0,none⟩))] (ck b5 162 [.ints .u64 4 (a39)]::(ck b3 162 [.ints .u64 4 ((List.replicate 4 0))]::(ck b2 74 [.ints .u8 32 (p0)] :: []))) t m) ?_ ?_)))
 ·refine Za<|Zo (fun n62 t m=>∃ (i59:Int) (a60:List Int),Z6l p0 k40 n62 i59 a60=some r∧Fit [(1,.pointer (some ⟨b2,0,none⟩)),(2,.pointer (some ⟨b3,0,none⟩)),(3,.pointer (some ⟨b5,0,none⟩)),(5,.int .i64 (i59))] (ck b5 162 [.ints .u64 4 (a60)]::(ck b3 162 [.ints .u64 4 ((List.replicate 4 0))]::(ck b2 74 [.ints .u8 32 (p0)] :: []))) t m) big ?_ ?_
  ·exact ⟨0,(List.replicate 4 0),h,⟨⟨rfl,rfl,rfl,rfl,trivial⟩,(.one .here (.one .here (.one .here .nil)))⟩⟩
  ·rintro n62 t m ⟨i59,a60,h,hF⟩
   refine Zg hF ?_
   clear hF
   rcases n62 with _ | n62
   · exact Z05 h
   have h:Zb7 p0 k40 (Z6l p0 k40 n62) i59 a60=some r:=h
   unfold Zb7 at h
   obtain ⟨k61,qk61⟩ : ∃ k,k=Z6l p0 k40 n62:=⟨_,rfl⟩
   try rw [← qk61] at h
   refine Z0<|Z2<|Z6 _ (Z9 rfl rfl rfl)<|Z1<|Z0<|Z07 h rfl (fun h=>?_) (fun h=>?_)
   ·refine Zk<|Z0<|Za<|Z0<|Z2<|Z7 rfl<|Z7 rfl<|Z1<|bH h fun z67 ez67 h=>oH h fun y68 ey68 h=>cH h fun c69 h=>bH h fun l70 el70 h=>Z2<|Z7 rfl<|Z6 _ (Z7c rfl .no .no .no (by simp) (by decide))<|Z7 rfl<|Z6 _ (iz ez67 (Z9 rfl rfl rfl))<|Z6 _ (Z08 rfl (fun w hw=>Z7d ey68 ((Z1g (s:=[.ints .u8 32 (p0)]) (N:=32) (k:=.u8) (base:=0) (lo:=0) (hi:=32) (mz:=32) (.there (.there .here)) rfl (by decide)) w hw)))<|Z7 rfl<|Z6 _ (Z37 rfl rfl)<|Z6 _ (Z37 rfl rfl)<|Z6 _ (Z0v rfl rfl (Z09 c69))<|Zd (Z1e (q:=[.ints .u64 4 (l70)]) (base:=0) el70 rfl rfl rfl (Z01 c69) rfl .here<|Z1<|bH h fun z72 ez72 h=>Z2<|Z6 _ (iz ez72 (Z9 rfl rfl rfl))<|Z7 rfl<|Z1 ?_)
    rw [qk61] at h
    exact ⟨n62,Nat.lt_succ_self _,z72,l70,h,⟨⟨rfl,rfl,rfl,rfl,trivial⟩,(.one .here (.one .here (.one .here .nil)))⟩⟩
   ·exact Zv _ rfl<|⟨a60,h,⟨⟨rfl,rfl,trivial⟩,(.one .here (.one .here (.one .here .nil)))⟩⟩
 ·rintro t m ⟨a39,h,hF⟩
  refine Zg hF ?_
  clear hF
  subst qk40
  refine Z0<|Z2<|Z6 _ (Z00 (p:=[.ints .u64 4 (a39)]) rfl .here rfl)<|Zd (Zp (q:=[.ints .u64 4 (a39)]) rfl rfl rfl rfl rfl (.there .here)<|Z1<|Zm ?_)
  revert h; refine Zw fun h=>?_
  subst h
  exact ⟨_,(.cons (.agg rfl (.there .here) rfl) .nil),rfl⟩
def Z62 (p0:List Int):OL :=
 opt (Zak p0) fun y4 =>
 some (tk y4 0 4)
theorem Z87 {W:World} {r:(List Int)} {p0:List Int} (h:Z62 p0=some r)  :
    Calls Tryz.prog 169 [agg [.ints .u8 32 (p0)]].toArray W (Zc0 W [] (fun v Ms=>∃ (u0:Value) (M0:List Zf),v=u0∧Ms = [.all M0]∧Z0b (El.int .u64) u0 M0 r)):=by
 unfold Z62 at h
 refine Z02 mo Z0z7 rfl (Zgo _) ?_
 refine Z0<|Z2<|Zd (Z0e (s:=[.ints .u8 32 (p0)]) rfl fun b2 hb2=>Z7 rfl<|Z1<|Z0<|oH h fun y4 ey4 h=>Z2<|Z6 _ (Z00 (p:=[.ints .u8 32 (p0)]) rfl .here rfl)<|Z6 _ (Z0g rfl (Zig ey4))<|Zd (Zr fun b5 hb5=>Zd (Zp (q:=[.ints .u64 4 (y4)]) rfl rfl rfl rfl rfl .here<|Z1<|Z0<|Z2<|Z6 _ (Z7c rfl .no .no .no (by simp) (by decide))<|Z7 rfl<|Z1<|Zm ?_)))
 revert h; refine Zw fun h=>?_
 subst h
 exact ⟨_,_,(.cons (.tmp rfl) .nil),(.one .here .nil),⟨_,rfl,⟨(.slice (some (Z3l b5 0 0 4 1)) (4-0) (4-0)),[ck b5 162 [.ints .u64 4 (y4)]],rfl,rfl,(Zoa (s:=[.ints .u64 4 (y4)]) (N:=4) (k:=.u64) (base:=0) (lo:=0) (hi:=4) (mz:=4) rfl (by decide))⟩⟩⟩
def Z9r (p0:List Int):OL :=
 opt (Z62 p0) fun y5 =>
 opt (Z4w y5) fun y11 =>
 some y11
theorem Zec {W:World} {r:(List Int)} {p0:List Int} (h:Z9r p0=some r) (hG:Globs W) :
    Calls Tryz.prog 166 [agg [.ints .u8 32 (p0)]].toArray W (Z2s W (agg [.ints .u64 4 (r)])):=by
 unfold Z9r at h
 refine Zc mo Z0z4 rfl ?_
 refine Z0<|Z2<|Zd (Z0e (s:=[.ints .u8 32 (p0)]) rfl fun b2 hb2=>Zd (Zr fun b3 hb3=>Z1<|Z0<|oH h fun y5 ey5 h=>oH h fun y11 ey11 h=>Z2<|Z6 _ (Z00 (p:=[.ints .u8 32 (p0)]) rfl (.there .here) rfl)<|Zd (Zz rfl (fun w hw=>Z87  ey5 ) fun v6 Msv6 R7=>?_)))
 obtain ⟨_,ms9,rfl,rfl,O10⟩:=R7
 refine Z6 _ (Z08 rfl (fun w hw=>Z7s ey11 (hG.at hw (by simp)) ((Z0a O10 .here) w hw)))<|Zd (Zp (q:=[.ints .u64 4 (y11)]) rfl rfl rfl rfl rfl (.app .here)<|Z1<|Zm ?_)
 revert h; refine Zw fun h=>?_
 subst h
 exact ⟨_,(.cons (.agg rfl (.app .here) rfl) .nil),rfl⟩
def Zc3 (p0:List Int) (p1:List Int):OL :=
 opt (Z9r p0) fun y6 =>
 opt (Z9r p1) fun y7 =>
 opt (Z5x y6 y7) fun y8 =>
 opt (Z78 y8.1) fun y11 =>
 opt (Z5y y11) fun y12 =>
 some y12
theorem Zkd {W:World} {r:(List Int)} {p0:List Int} {p1:List Int} (h:Zc3 p0 p1=some r) (hG:Globs W) :
    Calls Tryz.prog 100 [agg [.ints .u8 32 (p0)],agg [.ints .u8 32 (p1)]].toArray W (Z2s W (agg [.ints .u8 32 (r)])):=by
 unfold Zc3 at h
 refine Zc mo Z0xl rfl ?_
 refine Z0<|Z2<|Zd (Z0e (s:=[.ints .u8 32 (p0)]) rfl fun b2 hb2=>Zd (Z0e (s:=[.ints .u8 32 (p1)]) rfl fun b3 hb3=>Zd (Zr fun b4 hb4=>Z1<|Z0<|oH h fun y6 ey6 h=>oH h fun y7 ey7 h=>oH h fun y8 ey8 h=>Zu<|Zq _ (Z00 (p:=[.ints .u8 32 (p0)]) rfl (.there (.there .here)) rfl)<|Z8 _ (Z08 rfl (fun w hw=>Zec ey6 (hG.at hw (by simp))))<|Zq _ (Z00 (p:=[.ints .u8 32 (p1)]) rfl (.there .here) rfl)<|Z8 _ (Z08 rfl (fun w hw=>Zec ey7 (hG.at hw (by simp))))<|Z8 _ (Z0g rfl (Z6n ey8))<|Z8 _ (Z0u rfl)<|Z8 _ (Z37 rfl rfl)<|Z8 _ (Z37 rfl rfl)<|Z5d (Zr fun b9 hb9=>⟨(by repeat (first | exact Sup.refl _ | apply Sup.cons | apply Sup.app)),Z1b rfl (Zp (q:=[.ints .u64 4 (y8.1)]) rfl rfl rfl rfl rfl .here (Z8 _ (Z0u rfl) (Z03 (Z0 (oH h fun y11 ey11 h=>oH h fun y12 ey12 h=>Z2 (Z6 _ (Z00 (p:=[.ints .u64 4 (y8.1)]) rfl .here rfl) (Z6 _ (Z08 rfl (fun w hw=>Zc5 ey11 (hG.at hw (by simp)))) (Z6 _ (Z0g rfl (Z86 ey12)) (Zd (Zp (q:=[.ints .u8 32 (y12)]) rfl rfl rfl rfl rfl (.there .here) (Z1 (Zm ?_))))))))))))⟩))))
 revert h; refine Zw fun h=>?_
 subst h
 exact ⟨_,(.cons (.agg rfl (.there .here) rfl) .nil),rfl⟩
def Zc4 (p0:List Int) (p1:List Int):OL :=
 opt (Z62 p0) fun y6 =>
 opt (Z62 p1) fun y12 =>
 opt (Z7b y6 y12) fun y18 =>
 opt (Z4w y18) fun y24 =>
 opt (Z5y y24) fun y25 =>
 some y25
theorem Zke {W:World} {r:(List Int)} {p0:List Int} {p1:List Int} (h:Zc4 p0 p1=some r) (hG:Globs W) :
    Calls Tryz.prog 101 [agg [.ints .u8 32 (p0)],agg [.ints .u8 32 (p1)]].toArray W (Z2s W (agg [.ints .u8 32 (r)])):=by
 unfold Zc4 at h
 refine Zc mo Z0xm rfl ?_
 refine Z0<|Z2<|Zd (Z0e (s:=[.ints .u8 32 (p0)]) rfl fun b2 hb2=>Zd (Z0e (s:=[.ints .u8 32 (p1)]) rfl fun b3 hb3=>Zd (Zr fun b4 hb4=>Z1<|Z0<|oH h fun y6 ey6 h=>oH h fun y12 ey12 h=>oH h fun y18 ey18 h=>oH h fun y24 ey24 h=>oH h fun y25 ey25 h=>Zu<|Zq _ (Z00 (p:=[.ints .u8 32 (p0)]) rfl (.there (.there .here)) rfl)<|Zq _ (Z00 (p:=[.ints .u8 32 (p1)]) rfl (.there .here) rfl)<|Z5d (Zz rfl (fun w hw=>Z87  ey6 ) fun v7 Msv7 R8=>?_))))
 obtain ⟨_,ms10,rfl,rfl,O11⟩:=R8
 refine ⟨(by repeat (first | exact Sup.refl _ | apply Sup.cons | apply Sup.app)),Z5d (Zz rfl (fun w hw=>Z87  ey12 ) fun v13 Msv13 R14=>?_)⟩
 obtain ⟨_,ms16,rfl,rfl,O17⟩:=R14
 refine ⟨(by repeat (first | exact Sup.refl _ | apply Sup.cons | apply Sup.app)),Z5d (Zz rfl (fun w hw=>Zc7  ey18 ((Z0a O11 (.app .here)) w hw) ((Z0a O17 .here) w hw)) fun v19 Msv19 R20=>?_)⟩
 obtain ⟨_,ms22,rfl,rfl,O23⟩:=R20
 refine ⟨(by repeat (first | exact Sup.refl _ | apply Sup.cons | apply Sup.app)),Zqp _ (Z08 rfl (fun w hw=>Z7s ey24 (hG.at hw (by simp)) ((Z0a O23 .here) w hw))) (Z8 _ (Z0g rfl (Z86 ey25)) (Z1b rfl (Zp (q:=[.ints .u8 32 (y25)]) rfl rfl rfl rfl rfl (.app (.app (.app .here))) (Z03 (Zm ?_))))) (by repeat (first | exact Sup.refl _ | apply Sup.cons | apply Sup.app))⟩
 revert h; refine Zw fun h=>?_
 subst h
 exact ⟨_,(.cons (.agg rfl (.app (.app (.app .here))) rfl) .nil),rfl⟩
def Z69 (p0:List Int) (p1:List Int) (p2:List Int):OL :=
 opt (Zc4 p0 p1) fun y7 =>
 opt (Zc3 y7 p2) fun y8 =>
 some y8
theorem Zgq {W:World} {r:(List Int)} {p0:List Int} {p1:List Int} {p2:List Int} (h:Z69 p0 p1 p2=some r) (hG:Globs W) :
    Calls Tryz.prog 53 [agg [.ints .u8 32 (p0)],agg [.ints .u8 32 (p1)],agg [.ints .u8 32 (p2)]].toArray W (Z2s W (agg [.ints .u8 32 (r)])):=by
 unfold Z69 at h
 refine Zc mo ok53 rfl ?_
 refine Z0<|Z2<|Zd (Z0e (s:=[.ints .u8 32 (p0)]) rfl fun b2 hb2=>Zd (Z0e (s:=[.ints .u8 32 (p1)]) rfl fun b3 hb3=>Zd (Z0e (s:=[.ints .u8 32 (p2)]) rfl fun b4 hb4=>Zd (Zr fun b5 hb5=>Z1<|Z0<|oH h fun y7 ey7 h=>oH h fun y8 ey8 h=>Zu<|Zq _ (Z00 (p:=[.ints .u8 32 (p0)]) rfl (.there (.there (.there .here))) rfl)<|Zq _ (Z00 (p:=[.ints .u8 32 (p1)]) rfl (.there (.there .here)) rfl)<|Z8 _ (Z08 rfl (fun w hw=>Zke ey7 (hG.at hw (by simp))))<|Zq _ (Z00 (p:=[.ints .u8 32 (p2)]) rfl (.there .here) rfl)<|Z8 _ (Z08 rfl (fun w hw=>Zkd ey8 (hG.at hw (by simp))))<|Z1b rfl (Zp (q:=[.ints .u8 32 (y8)]) rfl rfl rfl rfl rfl .here<|Z03<|Zm ?_)))))
 revert h; refine Zw fun h=>?_
 subst h
 exact ⟨_,(.cons (.agg rfl .here rfl) .nil),rfl⟩
def Zeh (p0:List Int) (p1:List Int):OL :=
 opt (Zan p0) fun y5 =>
 opt (Z4r y5.1) fun y13 =>
 opt (Z5f y13) fun y14 =>
 opt (Z7t [y5.2,p1]) fun y20 =>
 opt (Z4r y20) fun y23 =>
 opt (Z5f y23) fun y24 =>
 jn (fun (a33:List Int)=>opt (Z69 a33 y5.1 y20) fun y42 =>
 bnd (wr (List.replicate 64 0) 0 ((tk y24 0 32).take 32)) fun l47 =>
 bnd (wr l47 32 ((tk y42 0 32).take (64-32))) fun l49 =>
 some l49) fun k34=>opt (Z7t [(tk y24 0 32),(tk y14 0 32),p1]) fun y39 =>
 k34 y39
theorem Zl3 {W:World} {r:(List Int)} {p0:List Int} {p1:List Int} {v1:Value} (h:Zeh p0 p1=some r) (hG:Globs W) (A1:Z4y (El.int .u8) W v1 p1) :
    Calls Tryz.prog 11 [agg [.ints .u8 32 (p0)],v1].toArray W (Z2s W (agg [.ints .u8 64 (r)])):=by
 unfold Zeh at h
 refine Zc mo ok11 rfl ?_
 refine Z0<|Z2<|Zd (Z0e (s:=[.ints .u8 32 (p0)]) rfl fun b2 hb2=>Zd (Zr fun b3 hb3=>Z1<|Z0<|oH h fun y5 ey5 h=>Z2<|Z6 _ (Z00 (p:=[.ints .u8 32 (p0)]) rfl (.there .here) rfl)<|Zd (Zz rfl (fun w hw=>Zii  ey5 (hG.at hw (by simp))) fun v6 Msv6 R7=>?_)))
 obtain ⟨v8,ms9,rfl,rfl,O10⟩:=R7
 refine Z7 rfl<|Z6 _ (Z37 rfl rfl)<|Z6 _ (Z37 rfl rfl)<|Zd (Zr fun b11 hb11=>Zd (Zp (q:=[.ints .u8 32 (y5.1)]) rfl rfl rfl rfl rfl .here<|Z7 rfl<|Z1<|Z0<|oH h fun y13 ey13 h=>oH h fun y14 ey14 h=>Z2<|Z6 _ (Z00 (p:=[.ints .u8 32 (y5.1)]) rfl .here rfl)<|Z6 _ (Z0g rfl (Zas ey13))<|Z6 _ (Z0g rfl (Zbd ey14))<|Zd (Zr fun b15 hb15=>Zd (Zp (q:=[.ints .u8 32 (y14)]) rfl rfl rfl rfl rfl .here<|Z1<|Z0<|oH h fun y20 ey20 h=>Z2<|Z7 rfl<|Z7 rfl<|Zd (Z5h (E:=El.sl) (xs:=[unS v8,unS v1]) (.one rfl (Zmf.cells (Z0b.isSl O10)) rfl (.one rfl (Zmf.cells (Shp.isSl (Shp.rd A1))) rfl BdR.nil)) (.cons (p:=[.one v8]) (Zei (Z0b.isSl O10)) (.cons (p:=[.one v1]) (Zei (Shp.isSl (Shp.rd A1))) .nil)) rfl fun v17 ms18 O19=>Z6 _ (Z08 rfl (fun w hw=>Z8d ey20 (hG.at hw (by simp)) (Z0a O19 .here w hw) (.cons (Zea ((Z0a O10 (.app (.there (.there .here)))) w hw)) (.cons (Zea ((Z16 A1 Z1f) w hw)) .nil))))<|Zd (Zr fun b21 hb21=>Zd (Zp (q:=[.ints .u8 32 (y20)]) rfl rfl rfl rfl rfl .here<|Z1<|Z0<|oH h fun y23 ey23 h=>oH h fun y24 ey24 h=>Z2<|Z6 _ (Z00 (p:=[.ints .u8 32 (y20)]) rfl .here rfl)<|Z6 _ (Z0g rfl (Zas ey23))<|Z6 _ (Z0g rfl (Zbd ey24))<|Zd (Zr fun b25 hb25=>Zd (Zp (q:=[.ints .u8 32 (y24)]) rfl rfl rfl rfl rfl .here<|Z1<|Z0<|jH h fun k34 qk34 h=>Zh (G:=fun t m=>∃ (a33:List Int) (b32:Nat),k34 a33=some r∧Fit [(4,.pointer (some ⟨b3,0,none⟩)),(5,.pointer (some ⟨b11,0,none⟩)),(8,.pointer (some ⟨b21,0,none⟩)),(9,.pointer (some ⟨b25,0,none⟩)),(10,.pointer (some ⟨b32,0,none⟩))] (ck b32 74 [.ints .u8 32 (a33)]::(ck b25 29 [.ints .u8 32 (y24)]::(ck b21 74 [.ints .u8 32 (y20)]::(ck b15 29 [.ints .u8 32 (y14)]::(ck b11 74 [.ints .u8 32 (y5.1)]::(ck b3 27 [.ints .u8 64 ((List.replicate 64 0))]::(ck b2 23 [.ints .u8 32 (p0)] :: []))))))) t m) ?_ ?_)))))))))
 ·refine oH h fun y39 ey39 h=>Zu<|Z8 _ (Z7c rfl .no .no .no (by simp) (by decide))<|Z8 _ (Z7c rfl .no .no .no (by simp) (by decide))<|Z8 _ (Z0u rfl)<|Zsp (Z5h (E:=El.sl) (xs:=[unS (.slice (some (Z3l b25 0 0 32 1)) (32-0) (32-0)),unS (.slice (some (Z3l b15 0 0 32 1)) (32-0) (32-0)),unS v1]) (.one rfl (Zmf.cells ⟨_,_,_,rfl⟩) rfl (.one rfl (Zmf.cells ⟨_,_,_,rfl⟩) rfl (.one rfl (Zmf.cells (Shp.isSl (Shp.rd A1))) rfl BdR.nil))) (.cons (p:=[.one (.slice (some (Z3l b25 0 0 32 1)) (32-0) (32-0))]) (Zei ⟨_,_,_,rfl⟩) (.cons (p:=[.one (.slice (some (Z3l b15 0 0 32 1)) (32-0) (32-0))]) (Zei ⟨_,_,_,rfl⟩) (.cons (p:=[.one v1]) (Zei (Shp.isSl (Shp.rd A1))) .nil))) rfl fun v36 ms37 O38=>⟨(by repeat (first | exact Sup.refl _ | apply Sup.cons | apply Sup.app)),?_⟩) (Zr fun b40 hb40=>⟨(by repeat (first | exact Sup.refl _ | apply Sup.cons | apply Sup.app)),?_⟩)
  ·refine Zsp (ef_q _ (Z08 rfl (fun w hw=>Z8d ey39 (hG.at hw (by simp)) (Z0a O38 .here w hw) (.cons (Zea ((Z1g (s:=[.ints .u8 32 (y24)]) (N:=32) (k:=.u8) (base:=0) (lo:=0) (hi:=32) (mz:=32) (.app .here) rfl (by decide)) w hw)) (.cons (Zea ((Z1g (s:=[.ints .u8 32 (y14)]) (N:=32) (k:=.u8) (base:=0) (lo:=0) (hi:=32) (mz:=32) (.app (.there (.there (.app .here)))) rfl (by decide)) w hw)) (.cons (Zea ((Z16 A1 Z1f) w hw)) .nil))))) ⟨(by repeat (first | exact Sup.refl _ | apply Sup.cons | apply Sup.app)),?_⟩) (Zr fun b40 hb40=>⟨(by repeat (first | exact Sup.refl _ | apply Sup.cons | apply Sup.app)),?_⟩)
   ·exact Z5d (Zr fun b40 hb40=>⟨(by repeat (first | exact Sup.refl _ | apply Sup.cons | apply Sup.app)),Z1b rfl (Zp (q:=[.ints .u8 32 (y39)]) rfl rfl rfl rfl rfl .here (Z03 (⟨y39,b40,h,⟨⟨rfl,rfl,rfl,rfl,rfl,trivial⟩,(.one .here (.one (.app .here) (.one (.app .here) (.one (.app (.app .here)) (.one (.app (.app .here)) (.one (.app (.app (.app .here))) (.one (.app (.app (.app .here))) .nil)))))))⟩⟩)))⟩)
   ·exact Zqp _ (Z08 rfl (fun w hw=>Z8d ey39 (hG.at hw (by simp)) (Z0a O38 (.there .here) w hw) (.cons (Zea ((Z1g (s:=[.ints .u8 32 (y24)]) (N:=32) (k:=.u8) (base:=0) (lo:=0) (hi:=32) (mz:=32) (.there (.app .here)) rfl (by decide)) w hw)) (.cons (Zea ((Z1g (s:=[.ints .u8 32 (y14)]) (N:=32) (k:=.u8) (base:=0) (lo:=0) (hi:=32) (mz:=32) (.there (.app (.there (.there (.app .here))))) rfl (by decide)) w hw)) (.cons (Zea ((Z16 A1 Z1f) w hw)) .nil))))) (Z1b rfl (Zp (q:=[.ints .u8 32 (y39)]) rfl rfl rfl rfl rfl .here (Z03 (⟨y39,b40,h,⟨⟨rfl,rfl,rfl,rfl,rfl,trivial⟩,(.one .here (.one (.app .here) (.one (.app .here) (.one (.app (.app .here)) (.one (.app (.app .here)) (.one (.app (.app (.app .here))) (.one (.app (.app (.app .here))) .nil)))))))⟩⟩)))) (by repeat (first | exact Sup.refl _ | apply Sup.cons | apply Sup.app))
  ·exact Z5d (Z5h (E:=El.sl) (xs:=[unS (.slice (some (Z3l b25 0 0 32 1)) (32-0) (32-0)),unS (.slice (some (Z3l b15 0 0 32 1)) (32-0) (32-0)),unS v1]) (.one rfl (Zmf.cells ⟨_,_,_,rfl⟩) rfl (.one rfl (Zmf.cells ⟨_,_,_,rfl⟩) rfl (.one rfl (Zmf.cells (Shp.isSl (Shp.rd A1))) rfl BdR.nil))) (.cons (p:=[.one (.slice (some (Z3l b25 0 0 32 1)) (32-0) (32-0))]) (Zei ⟨_,_,_,rfl⟩) (.cons (p:=[.one (.slice (some (Z3l b15 0 0 32 1)) (32-0) (32-0))]) (Zei ⟨_,_,_,rfl⟩) (.cons (p:=[.one v1]) (Zei (Shp.isSl (Shp.rd A1))) .nil))) rfl fun v36 ms37 O38=>⟨(by repeat (first | exact Sup.refl _ | apply Sup.cons | apply Sup.app)),Zqp _ (Z08 rfl (fun w hw=>Z8d ey39 (hG.at hw (by simp)) (Z0a O38 .here w hw) (.cons (Zea ((Z1g (s:=[.ints .u8 32 (y24)]) (N:=32) (k:=.u8) (base:=0) (lo:=0) (hi:=32) (mz:=32) (.app (.there .here)) rfl (by decide)) w hw)) (.cons (Zea ((Z1g (s:=[.ints .u8 32 (y14)]) (N:=32) (k:=.u8) (base:=0) (lo:=0) (hi:=32) (mz:=32) (.app (.there (.there (.there (.app .here))))) rfl (by decide)) w hw)) (.cons (Zea ((Z16 A1 Z1f) w hw)) .nil))))) (Z1b rfl (Zp (q:=[.ints .u8 32 (y39)]) rfl rfl rfl rfl rfl (.app .here) (Z03 (⟨y39,b40,h,⟨⟨rfl,rfl,rfl,rfl,rfl,trivial⟩,(.one (.app .here) (.one (.app .here) (.one (.app .here) (.one (.app (.app .here)) (.one (.app (.app .here)) (.one (.app (.app (.app .here))) (.one (.app (.app (.app .here))) .nil)))))))⟩⟩)))) (by repeat (first | exact Sup.refl _ | apply Sup.cons | apply Sup.app))⟩)
 ·rintro t m ⟨a33,b32,h,hF⟩
  refine Zg hF ?_
  clear hF
  subst qk34
  refine Z0<|oH h fun y42 ey42 h=>Z2<|Z6 _ (Z00 (p:=[.ints .u8 32 (a33)]) rfl .here rfl)<|Z6 _ (Z00 (p:=[.ints .u8 32 (y5.1)]) rfl (.there (.there (.there (.there .here)))) rfl)<|Z6 _ (Z00 (p:=[.ints .u8 32 (y20)]) rfl (.there (.there .here)) rfl)<|Z6 _ (Z08 rfl (fun w hw=>Zgq ey42 (hG.at hw (by simp))))<|Zd (Zr fun b43 hb43=>Zd (Zp (q:=[.ints .u8 32 (y42)]) rfl rfl rfl rfl rfl .here<|Z1<|Z0<|Z2<|Zd (Zr fun b45 hb45=>Z1<|Z0<|bH h fun l47 el47 h=>Zu<|Z8 _ (Z7c rfl .no (.yes rfl) .no (by simp) (by decide))<|Z8 _ (Z7c rfl .no .no .no (by simp) (by decide))<|Z1b rfl (Zh0 (q:=[.ints .u8 64 (l47)]) (lo:=0) (hi:=32) (mz:=64) (base:=0) (cpy0 el47) rfl rfl (Z1g (s:=[.ints .u8 32 (y24)]) (N:=32) (k:=.u8) (base:=0) (lo:=0) (hi:=32) (mz:=32) (.there (.there (.there .here))) rfl (by decide)) rfl (by decide) rfl .here<|Z03<|Z0<|bH h fun l49 el49 h=>Zu<|Z8 _ (Z7c rfl (.yes rfl) .no .no (by simp) (by decide))<|Z8 _ (Z7c rfl .no .no .no (by simp) (by decide))<|Z1b rfl (Zh0 (q:=[.ints .u8 64 (l49)]) (lo:=32) (hi:=64) (mz:=64) (base:=0) el49 rfl rfl (Z1g (s:=[.ints .u8 32 (y42)]) (N:=32) (k:=.u8) (base:=0) (lo:=0) (hi:=32) (mz:=32) (.there .here) rfl (by decide)) rfl (by decide) rfl .here<|Z03<|Z0<|Z2<|Z6 _ (Z00 (p:=[.ints .u8 64 (l49)]) rfl .here rfl)<|Zd (Zp (q:=[.ints .u8 64 (l49)]) rfl rfl rfl rfl rfl (.there (.there (.there (.there (.there (.there (.there .here)))))))<|Z1<|Zm ?_))))))
  revert h; refine Zw fun h=>?_
  subst h
  exact ⟨_,(.cons (.agg rfl (.there (.there (.there (.there (.there (.there (.there .here))))))) rfl) .nil),rfl⟩
def Z6h (p1:List Int) (k71:(List Int)→OL) (k113:(Int)→(Int)→(List Int)→OL) (i110:Int) (i111:Int) (a112:List Int):OL :=
 br ((decide (i111<10))) (
 chk (inB i111 10) <|
 chk (inB i111 10) <|
 bnd (a112.getD (i111).toNat 0) fun z120 =>
 bnd (IntKind.wrap .u64 (z120+67108863)) fun z121 =>
 bnd (IntKind.wrap .u64 (z121+1)) fun z122 =>
 bnd (p1.getD (i111).toNat 0) fun z123 =>
 bnd (IntKind.wrap .u64 (z122-z123)) fun z124 =>
 bnd (IntKind.wrap .u64 (z124-i110)) fun z125 =>
 bnd (Zn .u64 z125 26) fun z127 =>
 bnd (IntKind.wrap .u64 (1-z127)) fun z128 =>
 bnd (Z4 .and .u64 z125 67108863) fun z130 =>
 chk (inB i111 10) <|
 bnd (Z21 a112 (i111).toNat z130) fun l132 =>
 bnd (IntKind.wrap .i64 (i111+1)) fun z134 =>
 k113 z128 z134 l132
 ) (
 k71 a112
 )
def Z3i (p1:List Int) (k71:(List Int)→OL):Nat→(Int)→(Int)→(List Int)→OL
  | 0,_,_,_=>none
  | n+1,i110,i111,a112=>Z6h p1 k71 (Z3i p1 k71 n) i110 i111 a112
def Z6t (p0:List Int) (p1:List Int):OL :=
 jn (fun (a70:List Int)=>some a70) fun k71=>Z3i p1 k71 big 0 0 p0
theorem Zcy {W:World} {r:(List Int)} {p0:List Int} {p1:List Int} (h:Z6t p0 p1=some r)  :
    Calls Tryz.prog 197 [agg [.ints .u64 10 (p0)],agg [.ints .u64 10 (p1)]].toArray W (Z2s W (agg [.ints .u64 10 (r)])):=by
 unfold Z6t at h
 refine Zc mo Z0zt rfl ?_
 refine Z0<|Z2<|Zd (Z0e (s:=[.ints .u64 10 (p0)]) rfl fun b2 hb2=>Zd (Z0e (s:=[.ints .u64 10 (p1)]) rfl fun b3 hb3=>Zd (Zr fun b4 hb4=>Z1<|Z0<|Z2<|Z7 rfl<|Z1<|Z0<|Z0<|Z2<|Z7 rfl<|Z1<|jH h fun k71 qk71 h=>Zh (G:=fun t m=>∃ (a70:List Int),k71 a70=some r∧Fit [(2,.pointer (some ⟨b2,0,none⟩)),(4,.pointer (some ⟨b4,0,none⟩))] (ck b4 88 [.ints .u64 10 ((List.replicate 10 0))]::(ck b3 88 [.ints .u64 10 (p1)]::(ck b2 88 [.ints .u64 10 (a70)] :: []))) t m) ?_ ?_)))
 ·refine Za<|Zo (fun n114 t m=>∃ (i110:Int) (i111:Int) (a112:List Int),Z3i p1 k71 n114 i110 i111 a112=some r∧Fit [(2,.pointer (some ⟨b2,0,none⟩)),(3,.pointer (some ⟨b3,0,none⟩)),(4,.pointer (some ⟨b4,0,none⟩)),(5,.int .u64 (i110)),(6,.int .i64 (i111))] (ck b4 88 [.ints .u64 10 ((List.replicate 10 0))]::(ck b3 88 [.ints .u64 10 (p1)]::(ck b2 88 [.ints .u64 10 (a112)] :: []))) t m) big ?_ ?_
  ·exact ⟨0,0,p0,h,⟨⟨rfl,rfl,rfl,rfl,rfl,trivial⟩,(.one .here (.one .here (.one .here .nil)))⟩⟩
  ·rintro n114 t m ⟨i110,i111,a112,h,hF⟩
   refine Zg hF ?_
   clear hF
   rcases n114 with _ | n114
   · exact Z05 h
   have h:Z6h p1 k71 (Z3i p1 k71 n114) i110 i111 a112=some r:=h
   unfold Z6h at h
   obtain ⟨k113,qk113⟩ : ∃ k,k=Z3i p1 k71 n114:=⟨_,rfl⟩
   try rw [← qk113] at h
   refine Z0<|Z0<|Z2<|Z7 rfl<|Z6 _ (Z9 rfl rfl rfl)<|Z1<|Z07 h rfl (fun h=>?_) (fun h=>?_)
   ·refine Zk<|Z0<|Za<|Z0<|cH h fun c118 h=>cH h fun c119 h=>bH h fun z120 ez120 h=>bH h fun z121 ez121 h=>bH h fun z122 ez122 h=>bH h fun z123 ez123 h=>bH h fun z124 ez124 h=>bH h fun z125 ez125 h=>Zu<|Z8 _ (Z0u rfl)<|Z8 _ (Z0v rfl rfl (Z09 c118))<|Z8 _ (Z0u rfl)<|Z8 _ (Z0v rfl rfl (Z09 c119))<|Z8 _ (Z0u rfl)<|Zq _ (iz ez120 (Z2e (base:=0) rfl (.there (.there .here)) rfl (Z01 c118)))<|Z8 _ (iz ez121 (Z9 rfl rfl rfl))<|Z8 _ (iz ez122 (Z9 rfl rfl rfl))<|Zq _ (iz ez123 (Z2e (base:=0) rfl (.there .here) rfl (Z01 c119)))<|Z8 _ (iz ez124 (Z9 rfl rfl rfl))<|Z8 _ (iz ez125 (Z9 rfl rfl rfl))<|Z8 _ (Z0u rfl)<|Z03<|Z0<|bH h fun z127 ez127 h=>bH h fun z128 ez128 h=>Z2<|Z7 rfl<|Z6 _ (iz ez127 (Z4i rfl rfl (by decide)))<|Z6 _ (iz ez128 (Z9 rfl rfl rfl))<|Z7 rfl<|Z1<|bH h fun z130 ez130 h=>cH h fun c131 h=>bH h fun l132 el132 h=>Z2<|Z7 rfl<|Z7 rfl<|Z6 _ (iz ez130 (Z9 rfl rfl rfl))<|Z6 _ (Z0v rfl rfl (Z09 c131))<|Zd (Z1e (q:=[.ints .u64 10 (l132)]) (base:=0) el132 rfl rfl rfl (Z01 c131) rfl (.there (.there .here))<|Z1<|bH h fun z134 ez134 h=>Z2<|Z7 rfl<|Z6 _ (iz ez134 (Z9 rfl rfl rfl))<|Z7 rfl<|Z1 ?_)
    rw [qk113] at h
    exact ⟨n114,Nat.lt_succ_self _,z128,z134,l132,h,⟨⟨rfl,rfl,rfl,rfl,rfl,trivial⟩,(.one .here (.one .here (.one .here .nil)))⟩⟩
   ·exact Zv _ rfl<|⟨a112,h,⟨⟨rfl,rfl,trivial⟩,(.one .here (.one .here (.one .here .nil)))⟩⟩
 ·rintro t m ⟨a70,h,hF⟩
  refine Zg hF ?_
  clear hF
  subst qk71
  refine Z0<|Z2<|Z6 _ (Z00 (p:=[.ints .u64 10 (a70)]) rfl (.there (.there .here)) rfl)<|Zd (Zp (q:=[.ints .u64 10 (a70)]) rfl rfl rfl rfl rfl .here<|Z1<|Zm ?_)
  revert h; refine Zw fun h=>?_
  subst h
  exact ⟨_,(.cons (.agg rfl .here rfl) .nil),rfl⟩
def Zcl:OL :=
 bnd (([67108845,67108863,67108863,67108863,67108863,67108863,67108863,67108863,67108863,2097151]:List Int)) fun z4 =>
 some z4
theorem Zgh {W:World} {r:(List Int)} (h:Zcl=some r)  :
    Calls Tryz.prog 198 [].toArray W (Z2s W (agg [.ints .u64 10 (r)])):=by
 unfold Zcl at h
 refine Zc mo Z0zu rfl ?_
 refine Z0<|Z2<|Zd (Zr fun b2 hb2=>Z1<|Z0<|bH h fun z4 ez4 h=>Z2<|Z6 _ (az (fun z=>agg [.ints .u64 10 z]) ez4 (Zgu (.one rfl rfl rfl (.one rfl rfl rfl (.one rfl rfl rfl (.one rfl rfl rfl (.one rfl rfl rfl (.one rfl rfl rfl (.one rfl rfl rfl (.one rfl rfl rfl (.one rfl rfl rfl (.one rfl rfl rfl BdR.nil))))))))))))<|Zd (Zp (q:=[.ints .u64 10 (z4)]) rfl rfl rfl rfl rfl .here<|Z1<|Zm ?_))
 revert h; refine Zw fun h=>?_
 subst h
 exact ⟨_,(.cons (.agg rfl .here rfl) .nil),rfl⟩
def Z7l (k66:(List Int)→OL) (k104:(Int)→(List Int)→OL) (i102:Int) (a103:List Int):OL :=
 br ((decide (i102<9))) (
 bnd (IntKind.wrap .i64 (i102+1)) fun z109 =>
 bnd (IntKind.wrap .i64 (i102+1)) fun z110 =>
 chk (inB z110 10) <|
 chk (inB i102 10) <|
 bnd (a103.getD (z110).toNat 0) fun z113 =>
 bnd (a103.getD (i102).toNat 0) fun z114 =>
 bnd (Zn .u64 z114 26) fun z115 =>
 bnd (IntKind.wrap .u64 (z113+z115)) fun z116 =>
 chk (inB z109 10) <|
 bnd (Z21 a103 (z109).toNat z116) fun l118 =>
 chk (inB i102 10) <|
 bnd (l118.getD (i102).toNat 0) fun z121 =>
 bnd (Z4 .and .u64 z121 67108863) fun z122 =>
 chk (inB i102 10) <|
 bnd (Z21 l118 (i102).toNat z122) fun l124 =>
 bnd (IntKind.wrap .i64 (i102+1)) fun z126 =>
 k104 z126 l124
 ) (
 k66 a103
 )
def Z3z (k66:(List Int)→OL):Nat→(Int)→(List Int)→OL
  | 0,_,_=>none
  | n+1,i102,a103=>Z7l k66 (Z3z k66 n) i102 a103
def Z9n (p0:List Int):OL :=
 jn (fun (a65:List Int)=>some a65) fun k66=>Z3z k66 big 0 p0
theorem Zdw {W:World} {r:(List Int)} {p0:List Int} (h:Z9n p0=some r)  :
    Calls Tryz.prog 207 [agg [.ints .u64 10 (p0)]].toArray W (Z2s W (agg [.ints .u64 10 (r)])):=by
 unfold Z9n at h
 refine Zc mo Z103 rfl ?_
 refine Z0<|Z2<|Zd (Z0e (s:=[.ints .u64 10 (p0)]) rfl fun b2 hb2=>Zd (Zr fun b3 hb3=>Z1<|Z0<|Z0<|Z2<|Z7 rfl<|Z1<|jH h fun k66 qk66 h=>Zh (G:=fun t m=>∃ (a65:List Int),k66 a65=some r∧Fit [(1,.pointer (some ⟨b2,0,none⟩)),(2,.pointer (some ⟨b3,0,none⟩))] (ck b3 88 [.ints .u64 10 ((List.replicate 10 0))]::(ck b2 88 [.ints .u64 10 (a65)] :: [])) t m) ?_ ?_))
 ·refine Za<|Zo (fun n105 t m=>∃ (i102:Int) (a103:List Int),Z3z k66 n105 i102 a103=some r∧Fit [(1,.pointer (some ⟨b2,0,none⟩)),(2,.pointer (some ⟨b3,0,none⟩)),(3,.int .i64 (i102))] (ck b3 88 [.ints .u64 10 ((List.replicate 10 0))]::(ck b2 88 [.ints .u64 10 (a103)] :: [])) t m) big ?_ ?_
  ·exact ⟨0,p0,h,⟨⟨rfl,rfl,rfl,trivial⟩,(.one .here (.one .here .nil))⟩⟩
  ·rintro n105 t m ⟨i102,a103,h,hF⟩
   refine Zg hF ?_
   clear hF
   rcases n105 with _ | n105
   · exact Z05 h
   have h:Z7l k66 (Z3z k66 n105) i102 a103=some r:=h
   unfold Z7l at h
   obtain ⟨k104,qk104⟩ : ∃ k,k=Z3z k66 n105:=⟨_,rfl⟩
   try rw [← qk104] at h
   refine Z0<|Z0<|Z2<|Z7 rfl<|Z6 _ (Z9 rfl rfl rfl)<|Z1<|Z07 h rfl (fun h=>?_) (fun h=>?_)
   ·refine Zk<|Z0<|Za<|Z0<|bH h fun z109 ez109 h=>bH h fun z110 ez110 h=>cH h fun c111 h=>cH h fun c112 h=>bH h fun z113 ez113 h=>bH h fun z114 ez114 h=>bH h fun z115 ez115 h=>bH h fun z116 ez116 h=>cH h fun c117 h=>bH h fun l118 el118 h=>Zu<|Z8 _ (Z0u rfl)<|Z8 _ (iz ez109 (Z9 rfl rfl rfl))<|Z8 _ (Z0u rfl)<|Z8 _ (iz ez110 (Z9 rfl rfl rfl))<|Z8 _ (Z0v rfl rfl (Z09 c111))<|Z8 _ (Z0u rfl)<|Z8 _ (Z0v rfl rfl (Z09 c112))<|Zq _ (iz ez113 (Z2e (base:=0) rfl (.there .here) rfl (Z01 c111)))<|Zq _ (iz ez114 (Z2e (base:=0) rfl (.there .here) rfl (Z01 c112)))<|Z8 _ (iz ez115 (Z4i rfl rfl (by decide)))<|Z8 _ (iz ez116 (Z9 rfl rfl rfl))<|Z8 _ (Z0v rfl rfl (Z09 c117))<|Z1b rfl (Z1e (q:=[.ints .u64 10 (l118)]) (base:=0) el118 rfl rfl rfl (Z01 c117) rfl (.there .here)<|Z03<|cH h fun c120 h=>bH h fun z121 ez121 h=>bH h fun z122 ez122 h=>cH h fun c123 h=>bH h fun l124 el124 h=>Z2<|Z7 rfl<|Z7 rfl<|Z6 _ (Z0v rfl rfl (Z09 c120))<|Z6 _ (iz ez121 (Z2e (base:=0) rfl (.there .here) rfl (Z01 c120)))<|Z6 _ (iz ez122 (Z9 rfl rfl rfl))<|Z6 _ (Z0v rfl rfl (Z09 c123))<|Zd (Z1e (q:=[.ints .u64 10 (l124)]) (base:=0) el124 rfl rfl rfl (Z01 c123) rfl (.there .here)<|Z1<|bH h fun z126 ez126 h=>Z2<|Z7 rfl<|Z6 _ (iz ez126 (Z9 rfl rfl rfl))<|Z7 rfl<|Z1 ?_))
    rw [qk104] at h
    exact ⟨n105,Nat.lt_succ_self _,z126,l124,h,⟨⟨rfl,rfl,rfl,trivial⟩,(.one .here (.one .here .nil))⟩⟩
   ·exact Zv _ rfl<|⟨a103,h,⟨⟨rfl,rfl,trivial⟩,(.one .here (.one .here .nil))⟩⟩
 ·rintro t m ⟨a65,h,hF⟩
  refine Zg hF ?_
  clear hF
  subst qk66
  refine Z0<|Z2<|Z6 _ (Z00 (p:=[.ints .u64 10 (a65)]) rfl (.there .here) rfl)<|Zd (Zp (q:=[.ints .u64 10 (a65)]) rfl rfl rfl rfl rfl .here<|Z1<|Zm ?_)
  revert h; refine Zw fun h=>?_
  subst h
  exact ⟨_,(.cons (.agg rfl .here rfl) .nil),rfl⟩
def Zac (p0:List Int) (p1:List Int) (k48:Unit→Option (Bool)) (k75:(Int)→Option (Bool)) (i74:Int):Option (Bool) :=
 br ((decide (i74≥0))) (
 chk (inB i74 10) <|
 chk (inB i74 10) <|
 bnd (p0.getD (i74).toNat 0) fun z82 =>
 bnd (p1.getD (i74).toNat 0) fun z83 =>
 br ((z82 != z83)) (
 chk (inB i74 10) <|
 chk (inB i74 10) <|
 bnd (p0.getD (i74).toNat 0) fun z88 =>
 bnd (p1.getD (i74).toNat 0) fun z89 =>
 some (decide (z88<z89))
 ) (
 bnd (IntKind.wrap .i64 (i74-1)) fun z91 =>
 k75 z91
 )
 ) (
 k48 ()
 )
def Z5q (p0:List Int) (p1:List Int) (k48:Unit→Option (Bool)):Nat→(Int)→Option (Bool)
  | 0,_=>none
  | n+1,i74=>Zac p0 p1 k48 (Z5q p0 p1 k48 n) i74
def Zes (p0:List Int) (p1:List Int):Option (Bool) :=
 jn (fun (_:Unit)=>some false) fun k48=>Z5q p0 p1 k48 big 9
theorem Zn2 {W:World} {r:Bool} {p0:List Int} {p1:List Int} (h:Zes p0 p1=some r)  :
    Calls Tryz.prog 208 [agg [.ints .u64 10 (p0)],agg [.ints .u64 10 (p1)]].toArray W (Z2s W (.bool (r))):=by
 unfold Zes at h
 refine Zc mo Z104 rfl ?_
 refine Z0<|Z2<|Zd (Z0e (s:=[.ints .u64 10 (p0)]) rfl fun b2 hb2=>Zd (Z0e (s:=[.ints .u64 10 (p1)]) rfl fun b3 hb3=>Z7 rfl<|Z1<|Z0<|Z0<|Z2<|Z7 rfl<|Z1<|jH h fun k48 qk48 h=>Zh (G:=fun t m=>k48 ()=some r∧Fit [] (ck b3 88 [.ints .u64 10 (p1)]::(ck b2 88 [.ints .u64 10 (p0)] :: [])) t m) ?_ ?_))
 ·refine Za<|Zo (fun n76 t m=>∃ (i74:Int),Z5q p0 p1 k48 n76 i74=some r∧Fit [(2,.pointer (some ⟨b2,0,none⟩)),(3,.pointer (some ⟨b3,0,none⟩)),(5,.int .i64 (i74))] (ck b3 88 [.ints .u64 10 (p1)]::(ck b2 88 [.ints .u64 10 (p0)] :: [])) t m) big ?_ ?_
  ·exact ⟨9,h,⟨⟨rfl,rfl,rfl,trivial⟩,(.one .here (.one .here .nil))⟩⟩
  ·rintro n76 t m ⟨i74,h,hF⟩
   refine Zg hF ?_
   clear hF
   rcases n76 with _ | n76
   · exact Z05 h
   have h:Zac p0 p1 k48 (Z5q p0 p1 k48 n76) i74=some r:=h
   unfold Zac at h
   obtain ⟨k75,qk75⟩ : ∃ k,k=Z5q p0 p1 k48 n76:=⟨_,rfl⟩
   try rw [← qk75] at h
   refine Z0<|Z0<|Z2<|Z7 rfl<|Z6 _ (Z9 rfl rfl rfl)<|Z1<|Z07 h rfl (fun h=>?_) (fun h=>?_)
   ·refine Zk<|Z0<|Za<|Z0<|cH h fun c80 h=>cH h fun c81 h=>bH h fun z82 ez82 h=>bH h fun z83 ez83 h=>Zu<|Z8 _ (Z0u rfl)<|Z8 _ (Z0v rfl rfl (Z09 c80))<|Z8 _ (Z0u rfl)<|Z8 _ (Z0v rfl rfl (Z09 c81))<|Zq _ (iz ez82 (Z2e (base:=0) rfl (.there .here) rfl (Z01 c80)))<|Zq _ (iz ez83 (Z2e (base:=0) rfl .here rfl (Z01 c81)))<|Z8 _ (Z9 rfl rfl rfl)<|Z03<|Z07 h rfl (fun h=>?_) (fun h=>?_)
    ·refine Z0<|cH h fun c86 h=>cH h fun c87 h=>bH h fun z88 ez88 h=>bH h fun z89 ez89 h=>Zu<|Z8 _ (Z0u rfl)<|Z8 _ (Z0v rfl rfl (Z09 c86))<|Z8 _ (Z0u rfl)<|Z8 _ (Z0v rfl rfl (Z09 c87))<|Zq _ (iz ez88 (Z2e (base:=0) rfl (.there .here) rfl (Z01 c86)))<|Zq _ (iz ez89 (Z2e (base:=0) rfl .here rfl (Z01 c87)))<|Z8 _ (Z9 rfl rfl rfl)<|Z8 _ (Z0u rfl)<|Z03<|Zm ?_
     revert h; refine Zw fun h=>?_
     subst h
     exact ⟨_,(.cons (.tmp rfl) .nil),rfl⟩
    ·refine Zk<|bH h fun z91 ez91 h=>Z2<|Z7 rfl<|Z6 _ (iz ez91 (Z9 rfl rfl rfl))<|Z7 rfl<|Z1 ?_
     rw [qk75] at h
     exact ⟨n76,Nat.lt_succ_self _,z91,h,⟨⟨rfl,rfl,rfl,trivial⟩,(.one .here (.one .here .nil))⟩⟩
   ·exact Zv _ rfl<|⟨h,⟨trivial,(.one .here (.one .here .nil))⟩⟩
 ·rintro t m ⟨h,hF⟩
  refine Zg hF ?_
  clear hF
  subst qk48
  refine Z0<|Z2<|Z7 rfl<|Z1<|Zm ?_
  revert h; refine Zw fun h=>?_
  subst h
  exact ⟨_,(.cons (.tmp rfl) .nil),rfl⟩
def Zaa (k59:(List Int)→OL) (k94:(List Int)→OL) (a93:List Int):OL :=
 bnd (a93.getD 9 0) fun z97 =>
 br ((decide (z97>2097151))) (
 bnd (a93.getD 0 0) fun z100 =>
 bnd (a93.getD 9 0) fun z101 =>
 bnd (Zn .u64 z101 21) fun z102 =>
 bnd (IntKind.wrap .u64 (19*z102)) fun z103 =>
 bnd (IntKind.wrap .u64 (z100+z103)) fun z104 =>
 bnd (Z21 a93 0 z104) fun l105 =>
 bnd (l105.getD 9 0) fun z107 =>
 bnd (Z4 .and .u64 z107 2097151) fun z108 =>
 bnd (Z21 l105 9 z108) fun l109 =>
 opt (Z9n l109) fun y111 =>
 k94 y111
 ) (
 k59 a93
 )
def Z3q (k59:(List Int)→OL):Nat→(List Int)→OL
  | 0,_=>none
  | n+1,a93=>Zaa k59 (Z3q k59 n) a93
def Z7i (p0:List Int):OL :=
 opt (Z9n p0) fun y5 =>
 jn (fun (a58:List Int)=>opt (Zcl) fun y113 =>
 opt (Zes a58 y113) fun y116 =>
 jn (fun (a120:List Int)=>some a120) fun k121=>br ((!y116)) (
 opt (Z6t a58 y113) fun y124 =>
 k121 y124
 ) (
 k121 a58
 )) fun k59=>Z3q k59 big y5
theorem Z9h {W:World} {r:(List Int)} {p0:List Int} (h:Z7i p0=some r)  :
    Calls Tryz.prog 172 [agg [.ints .u64 10 (p0)]].toArray W (Z2s W (agg [.ints .u64 10 (r)])):=by
 unfold Z7i at h
 refine Zc mo Z0za rfl ?_
 refine Z0<|Z2<|Zd (Z0e (s:=[.ints .u64 10 (p0)]) rfl fun b2 hb2=>Zd (Zr fun b3 hb3=>Z1<|Z0<|oH h fun y5 ey5 h=>Z2<|Z6 _ (Z00 (p:=[.ints .u64 10 (p0)]) rfl (.there .here) rfl)<|Z6 _ (Z0g rfl (Zdw ey5))<|Zd (Zp (q:=[.ints .u64 10 (y5)]) rfl rfl rfl rfl rfl (.there .here)<|Z1<|Z0<|jH h fun k59 qk59 h=>Zh (G:=fun t m=>∃ (a58:List Int),k59 a58=some r∧Fit [(1,.pointer (some ⟨b2,0,none⟩)),(2,.pointer (some ⟨b3,0,none⟩))] (ck b3 88 [.ints .u64 10 ((List.replicate 10 0))]::(ck b2 88 [.ints .u64 10 (a58)] :: [])) t m) ?_ ?_)))
 ·refine Za<|Zo (fun n95 t m=>∃ (a93:List Int),Z3q k59 n95 a93=some r∧Fit [(1,.pointer (some ⟨b2,0,none⟩)),(2,.pointer (some ⟨b3,0,none⟩))] (ck b3 88 [.ints .u64 10 ((List.replicate 10 0))]::(ck b2 88 [.ints .u64 10 (a93)] :: [])) t m) big ?_ ?_
  ·exact ⟨y5,h,⟨⟨rfl,rfl,trivial⟩,(.one .here (.one .here .nil))⟩⟩
  ·rintro n95 t m ⟨a93,h,hF⟩
   refine Zg hF ?_
   clear hF
   rcases n95 with _ | n95
   · exact Z05 h
   have h:Zaa k59 (Z3q k59 n95) a93=some r:=h
   unfold Zaa at h
   obtain ⟨k94,qk94⟩ : ∃ k,k=Z3q k59 n95:=⟨_,rfl⟩
   try rw [← qk94] at h
   refine Z0<|Z0<|bH h fun z97 ez97 h=>Z2<|Z6 _ (Z0v rfl rfl (by decide))<|Z6 _ (iz ez97 (Z1a rfl (.there .here) rfl))<|Z6 _ (Z9 rfl rfl rfl)<|Z1<|Z07 h rfl (fun h=>?_) (fun h=>?_)
   ·refine Zk<|Za<|Z0<|bH h fun z100 ez100 h=>bH h fun z101 ez101 h=>bH h fun z102 ez102 h=>bH h fun z103 ez103 h=>bH h fun z104 ez104 h=>bH h fun l105 el105 h=>Z2<|Z6 _ (Z0v rfl rfl (by decide))<|Z6 _ (iz ez100 (Z1a rfl (.there .here) rfl))<|Z6 _ (Z0v rfl rfl (by decide))<|Z6 _ (iz ez101 (Z1a rfl (.there .here) rfl))<|Z6 _ (iz ez102 (Z4i rfl rfl (by decide)))<|Z6 _ (iz ez103 (Z9 rfl rfl rfl))<|Z6 _ (iz ez104 (Z9 rfl rfl rfl))<|Z6 _ (Z0v rfl rfl (by decide))<|Zd (Z5i (q:=[.ints .u64 10 (l105)]) (congrArg (fun z=>([.ints .u64 10 (z)]:List Seg)) el105.symm) rfl rfl rfl rfl (.there .here)<|Z1<|Z0<|bH h fun z107 ez107 h=>bH h fun z108 ez108 h=>bH h fun l109 el109 h=>Z2<|Z6 _ (Z0v rfl rfl (by decide))<|Z6 _ (iz ez107 (Z1a rfl (.there .here) rfl))<|Z6 _ (iz ez108 (Z9 rfl rfl rfl))<|Z6 _ (Z0v rfl rfl (by decide))<|Zd (Z5i (q:=[.ints .u64 10 (l109)]) (congrArg (fun z=>([.ints .u64 10 (z)]:List Seg)) el109.symm) rfl rfl rfl rfl (.there .here)<|Z1<|oH h fun y111 ey111 h=>Z2<|Z6 _ (Z00 (p:=[.ints .u64 10 (l109)]) rfl (.there .here) rfl)<|Z6 _ (Z0g rfl (Zdw ey111))<|Zd (Zp (q:=[.ints .u64 10 (y111)]) rfl rfl rfl rfl rfl (.there .here)<|Z1 ?_)))
    rw [qk94] at h
    exact ⟨n95,Nat.lt_succ_self _,y111,h,⟨⟨rfl,rfl,trivial⟩,(.one .here (.one .here .nil))⟩⟩
   ·exact Zv _ rfl<|⟨a93,h,⟨⟨rfl,rfl,trivial⟩,(.one .here (.one .here .nil))⟩⟩
 ·rintro t m ⟨a58,h,hF⟩
  refine Zg hF ?_
  clear hF
  subst qk59
  refine Z0<|oH h fun y113 ey113 h=>Z2<|Z6 _ (Z0g rfl (Zgh ey113))<|Zd (Zr fun b114 hb114=>Zd (Zp (q:=[.ints .u64 10 (y113)]) rfl rfl rfl rfl rfl .here<|Z1<|Z0<|Z0<|oH h fun y116 ey116 h=>Z2<|Z6 _ (Z00 (p:=[.ints .u64 10 (a58)]) rfl (.there (.there .here)) rfl)<|Z6 _ (Z00 (p:=[.ints .u64 10 (y113)]) rfl .here rfl)<|Z6 _ (Z0g rfl (Zn2 ey116))<|Z6 _ (Zyr rfl rfl)<|Z1<|jH h fun k121 qk121 h=>Zh (G:=fun t m=>∃ (a120:List Int),k121 a120=some r∧Fit [(1,.pointer (some ⟨b2,0,none⟩)),(2,.pointer (some ⟨b3,0,none⟩))] (ck b114 88 [.ints .u64 10 (y113)]::(ck b3 88 [.ints .u64 10 ((List.replicate 10 0))]::(ck b2 88 [.ints .u64 10 (a120)] :: []))) t m) ?_ ?_))
  ·refine Z07 h rfl (fun h=>?_) (fun h=>?_)
   ·exact oH h fun y124 ey124 h=>Z2<|Z6 _ (Z00 (p:=[.ints .u64 10 (a58)]) rfl (.there (.there .here)) rfl)<|Z6 _ (Z00 (p:=[.ints .u64 10 (y113)]) rfl .here rfl)<|Z6 _ (Z0g rfl (Zcy ey124))<|Zd (Zp (q:=[.ints .u64 10 (y124)]) rfl rfl rfl rfl rfl (.there (.there .here))<|Z1<|⟨y124,h,⟨⟨rfl,rfl,trivial⟩,(.one .here (.one .here (.one .here .nil)))⟩⟩)
   ·exact Zk<|⟨a58,h,⟨⟨rfl,rfl,trivial⟩,(.one .here (.one .here (.one .here .nil)))⟩⟩
  ·rintro t m ⟨a120,h,hF⟩
   refine Zg hF ?_
   clear hF
   subst qk121
   refine Z0<|Z2<|Z6 _ (Z00 (p:=[.ints .u64 10 (a120)]) rfl (.there (.there .here)) rfl)<|Zd (Zp (q:=[.ints .u64 10 (a120)]) rfl rfl rfl rfl rfl (.there .here)<|Z1<|Zm ?_)
   revert h; refine Zw fun h=>?_
   subst h
   exact ⟨_,(.cons (.agg rfl (.there .here) rfl) .nil),rfl⟩
end Go.Proofs.YtiflckckekjbnaaGreatDoor
