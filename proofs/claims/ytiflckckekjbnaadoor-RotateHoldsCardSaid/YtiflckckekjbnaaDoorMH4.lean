/- Texts of a proof, one behind the other: L7 L8 L9 L10 LZ F0 F1 F2 F3 F4 F5. -/
import Derived.Test.YtiflckckekjbnaaDoorMH3
namespace Go.Proofs.YtiflckckekjbnaaDoor
open Go Go.Sx Go.RowKit
set_option linter.all false
set_option maxHeartbeats 400000
set_option maxRecDepth 100000
def Z8w (p0:List Int) (k40:(List Int)→OL) (k61:(Int)→(List Int)→OL) (i59:Int) (a60:List Int):OL :=
 br ((decide (i59<8))) (
 bnd (IntKind.wrap .i64 (8*i59)) fun z67 =>
 opt (Z57 (tk p0 0 64) z67) fun y68 =>
 chk (inB i59 8) <|
 bnd (Z4h a60 (i59).toNat y68.1) fun l70 =>
 bnd (IntKind.wrap .i64 (i59+1)) fun z72 =>
 k61 z72 l70
 ) (
 k40 a60
 )
def Z3n (p0:List Int) (k40:(List Int)→OL):Nat→(Int)→(List Int)→OL
  | 0,_,_=>none
  | n+1,i59,a60=>Z8w p0 k40 (Z3n p0 k40 n) i59 a60
def Z79 (p0:List Int):OL :=
 jn (fun (a39:List Int)=>opt (Z35 (tk a39 0 8)) fun y74 =>
 opt (Z4p y74) fun y75 =>
 some y75) fun k40=>Z3n p0 k40 big 0 (List.replicate 8 0)
theorem Ze4 {W:World} {r:(List Int)} {p0:List Int} (h:Z79 p0=some r) (hG:Globs W) :
    Calls Tryd.prog 47 [agg [.ints .u8 64 (p0)]].toArray W (Z56 W (agg [.ints .u8 32 (r)])):=by
 unfold Z79 at h
 refine Zd mo ok47 rfl ?_
 refine Z0<|Z2<|Zg (Z14 (s:=[.ints .u8 64 (p0)]) rfl fun b2 hb2=>Zg (Zw fun b3 hb3=>Z1<|Z0<|Z2<|Zg (Zw fun b5 hb5=>Z1<|Z0<|Z0<|Z2<|Z8 rfl<|Z1<|jH h fun k40 qk40 h=>Zo (G:=fun t m=>∃ (a39:List Int),k40 a39=some r∧Fit [(2,.pointer (some ⟨b3,0,none⟩)),(3,.pointer (some ⟨b5,0,none⟩))] (ck b5 135 [.ints .u64 8 (a39)]::(ck b3 63 [.ints .u8 32 ((List.replicate 32 0))]::(ck b2 101 [.ints .u8 64 (p0)] :: []))) t m) ?_ ?_)))
 ·refine Zb<|Z01 (fun n62 t m=>∃ (i59:Int) (a60:List Int),Z3n p0 k40 n62 i59 a60=some r∧Fit [(1,.pointer (some ⟨b2,0,none⟩)),(2,.pointer (some ⟨b3,0,none⟩)),(3,.pointer (some ⟨b5,0,none⟩)),(5,.int .i64 (i59))] (ck b5 135 [.ints .u64 8 (a60)]::(ck b3 63 [.ints .u8 32 ((List.replicate 32 0))]::(ck b2 101 [.ints .u8 64 (p0)] :: []))) t m) big ?_ ?_
  ·exact ⟨0,(List.replicate 8 0),h,⟨⟨rfl,rfl,rfl,rfl,trivial⟩,(.one .here (.one .here (.one .here .nil)))⟩⟩
  ·rintro n62 t m ⟨i59,a60,h,hF⟩
   refine Zm hF ?_
   clear hF
   rcases n62 with _ | n62
   · exact Z1c h
   have h:Z8w p0 k40 (Z3n p0 k40 n62) i59 a60=some r:=h
   unfold Z8w at h
   obtain ⟨k61,qk61⟩ : ∃ k,k=Z3n p0 k40 n62:=⟨_,rfl⟩
   try rw [← qk61] at h
   refine Z0<|Z2<|Z6 _ (Za rfl rfl rfl)<|Z1<|Z0<|Z0l h rfl (fun h=>?_) (fun h=>?_)
   ·refine Zl<|Z0<|Zb<|Z0<|Z2<|Z8 rfl<|Z8 rfl<|Z1<|bH h fun z67 ez67 h=>oH h fun y68 ey68 h=>cH h fun c69 h=>bH h fun l70 el70 h=>Z2<|Z8 rfl<|Z6 _ (Z90 rfl .no .no .no (by simp) (by decide))<|Z8 rfl<|Z6 _ (iz ez67 (Za rfl rfl rfl))<|Z6 _ (Z0m rfl (fun w hw=>Z6y ey68 ((Z1z (s:=[.ints .u8 64 (p0)]) (N:=64) (k:=.u8) (base:=0) (lo:=0) (hi:=64) (mz:=64) (.there (.there .here)) rfl (by decide)) w hw)))<|Z8 rfl<|Z6 _ (Z1j rfl rfl)<|Z6 _ (Z1j rfl rfl)<|Z6 _ (Z3b rfl rfl (Z1w c69))<|Zg (Z5h (q:=[.ints .u64 8 (l70)]) (base:=0) el70 rfl rfl rfl (Z18 c69) rfl .here<|Z1<|bH h fun z72 ez72 h=>Z2<|Z6 _ (iz ez72 (Za rfl rfl rfl))<|Z8 rfl<|Z1 ?_)
    rw [qk61] at h
    exact ⟨n62,Nat.lt_succ_self _,z72,l70,h,⟨⟨rfl,rfl,rfl,rfl,trivial⟩,(.one .here (.one .here (.one .here .nil)))⟩⟩
   ·exact Z0b _ rfl<|⟨a60,h,⟨⟨rfl,rfl,trivial⟩,(.one .here (.one .here (.one .here .nil)))⟩⟩
 ·rintro t m ⟨a39,h,hF⟩
  refine Zm hF ?_
  clear hF
  subst qk40
  refine Z0<|oH h fun y74 ey74 h=>oH h fun y75 ey75 h=>Z2<|Z6 _ (Z90 rfl .no .no .no (by simp) (by decide))<|Z6 _ (Z0m rfl (fun w hw=>Z7a ey74 (hG.at hw (by simp)) ((Z1z (s:=[.ints .u64 8 (a39)]) (N:=8) (k:=.u64) (base:=0) (lo:=0) (hi:=8) (mz:=8) .here rfl (by decide)) w hw)))<|Z6 _ (Z1a rfl (Z7z ey75))<|Zg (Zs (q:=[.ints .u8 32 (y75)]) rfl rfl rfl rfl rfl (.there .here)<|Z1<|Zk ?_)
  revert h; refine Zz fun h=>?_
  subst h
  exact ⟨_,(.cons (.agg rfl (.there .here) rfl) .nil),rfl⟩
def Z8q (p0:List (List Int)) (k55:(List Int)→(List Int)→(Int)→(Int)→OL) (k85:(Int)→(List Int)→(List Int)→(Int)→(Int)→OL) (i80:Int) (a81:List Int) (a82:List Int) (i83:Int) (i84:Int):OL :=
 br ((decide (i80<(p0.length:Int)))) (
 chk (inB i80 p0.length) <|
 opt (Z0s (⟨a81,a82,i83,i84⟩:Zi) (p0.getD (i80).toNat [])) fun y92 =>
 bnd (IntKind.wrap .i64 (i80+1)) fun z96 =>
 k85 z96 y92.gstate y92.gheld y92.ghave y92.glength
 ) (
 k55 a81 a82 i83 i84
 )
def Z4r (p0:List (List Int)) (k55:(List Int)→(List Int)→(Int)→(Int)→OL):Nat→(Int)→(List Int)→(List Int)→(Int)→(Int)→OL
  | 0,_,_,_,_,_=>none
  | n+1,i80,a81,a82,i83,i84=>Z8q p0 k55 (Z4r p0 k55 n) i80 a81 a82 i83 i84
def Z7c (p0:List (List Int)):OL :=
 opt (Z93 ) fun y4 =>
 jn (fun (a51:List Int) (a52:List Int) (i53:Int) (i54:Int)=>opt (Z1y (⟨a51,a52,i53,i54⟩:Zi)) fun y98 =>
 opt (Z79 y98.1) fun y101 =>
 some y101) fun k55=>Z4r p0 k55 big 0 y4.gstate y4.gheld y4.ghave y4.glength
theorem Z43 {W:World} {r:(List Int)} {p0:List (List Int)} {v0:Value} {us0:List SlT} (h:Z7c p0=some r) (hG:Globs W) (A0:RdSl El.sl W v0 us0) (B0:Zf0 (El.int .u8) W us0 p0) :
    Calls Tryd.prog 20 [v0].toArray W (Z56 W (agg [.ints .u8 32 (r)])):=by
 unfold Z7c at h
 refine Zd mo ok20 rfl ?_
 refine Z0<|Z2<|Zg (Zw fun b2 hb2=>Z1<|Z0<|oH h fun y4 ey4 h=>Z2<|Zg (Z0j rfl (fun w hw=>Zc6  ey4 (hG.at hw (by simp))) fun v5 Msv5 R6=>?_))
 obtain ⟨b7,T8,rfl,rfl⟩:=R6
 refine Z8 rfl<|Z1<|Z0<|Z0<|Z2<|Z8 rfl<|Z6 _ ((Zuy (Z2i rfl (Shp.rd A0)) (Zf0.len B0)))<|Z8 rfl<|Z1<|jH h fun k55 qk55 h=>Zo (G:=fun t m=>∃ (a51:List Int) (a52:List Int) (i53:Int) (i54:Int),k55 a51 a52 i53 i54=some r∧Fit [(2,.pointer (some ⟨b2,0,none⟩)),(3,.pointer (some ⟨b7,0,none⟩))] (ck b7 T8 [.ints .u64 8 (a51),.ints .u8 128 (a52),.one (.int .i64 (i53)),.one (.int .u64 (i54))]::(ck b2 63 [.ints .u8 32 ((List.replicate 32 0))] :: [])) t m) ?_ ?_
 ·refine Zb<|Z01 (fun n86 t m=>∃ (i80:Int) (a81:List Int) (a82:List Int) (i83:Int) (i84:Int),Z4r p0 k55 n86 i80 a81 a82 i83 i84=some r∧Fit [(2,.pointer (some ⟨b2,0,none⟩)),(3,.pointer (some ⟨b7,0,none⟩)),(7,v0),(8,.int .i64 ((p0.length:Int))),(9,.int .i64 (i80))] (ck b7 T8 [.ints .u64 8 (a81),.ints .u8 128 (a82),.one (.int .i64 (i83)),.one (.int .u64 (i84))]::(ck b2 63 [.ints .u8 32 ((List.replicate 32 0))] :: [])) t m) big ?_ ?_
  ·exact ⟨0,y4.gstate,y4.gheld,y4.ghave,y4.glength,h,⟨⟨rfl,rfl,rfl,rfl,rfl,trivial⟩,(.one .here (.one .here .nil))⟩⟩
  ·rintro n86 t m ⟨i80,a81,a82,i83,i84,h,hF⟩
   refine Zm hF ?_
   clear hF
   rcases n86 with _ | n86
   · exact Z1c h
   have h:Z8q p0 k55 (Z4r p0 k55 n86) i80 a81 a82 i83 i84=some r:=h
   unfold Z8q at h
   obtain ⟨k85,qk85⟩ : ∃ k,k=Z4r p0 k55 n86:=⟨_,rfl⟩
   try rw [← qk85] at h
   refine Z0<|Z2<|Z6 _ (Za rfl rfl rfl)<|Z1<|Z0<|Z0l h rfl (fun h=>?_) (fun h=>?_)
   ·refine Zl<|Z0<|Zb<|Z0<|cH h fun c90 h=>Z2<|Z6 _ (Z4m rfl rfl (Shp.rd A0) (Znr B0 c90))<|Z6 _ (Zau (E:=El.sl) (s:=[.one (slV (us0.getD (i80).toNat (none,0,0)))]) rfl (Z2a A0 Z2m) (Z18 (Znr B0 c90)) rfl rfl)<|Z8 rfl<|Z1<|oH h fun y92 ey92 h=>Z2<|Z8 rfl<|Z8 rfl<|Zg (Z4s (mS:=[_]) rfl (Z3y.perm .here) (fun w hw=>Z4f (p0:=(⟨a81,a82,i83,i84⟩:Zi)) ey92 (Za3 hw (mS:=[_]) (Z3y.perm .here)) (hG.at hw (by simp)) (hG.ap (by simp) .here hw) ⟨(Z2a (Zf0.get B0 _ (Z18 c90)) Z2m) w hw,(Zir (E:=(El.int .u8)) (Zf0.get B0 _ (Z18 c90)) .here hw)⟩) fun v93 Msv93 R94=>?_)
    obtain ⟨rfl,rfl⟩:=R94
    refine Z1<|bH h fun z96 ez96 h=>Z2<|Z6 _ (iz ez96 (Za rfl rfl rfl))<|Z8 rfl<|Z1 ?_
    rw [qk85] at h
    exact ⟨n86,Nat.lt_succ_self _,z96,y92.gstate,y92.gheld,y92.ghave,y92.glength,h,⟨⟨rfl,rfl,rfl,rfl,rfl,trivial⟩,(.one .here (.one .here .nil))⟩⟩
   ·exact Z0b _ rfl<|⟨a81,a82,i83,i84,h,⟨⟨rfl,rfl,trivial⟩,(.one .here (.one .here .nil))⟩⟩
 ·rintro t m ⟨a51,a52,i53,i54,h,hF⟩
  refine Zm hF ?_
  clear hF
  subst qk55
  refine Z0<|oH h fun y98 ey98 h=>oH h fun y101 ey101 h=>Z2<|Z8 rfl<|Zg (Z4s (mS:=[_]) rfl (Z3y.perm .here) (fun w hw=>Z7k (p0:=(⟨a51,a52,i53,i54⟩:Zi)) ey98 (Za3 hw (mS:=[_]) (Z3y.perm .here)) (hG.at hw (by simp)) (hG.ap (by simp) .here hw)) fun v99 Msv99 R100=>?_)
  obtain ⟨rfl,rfl⟩:=R100
  refine Z6 _ (Z0m rfl (fun w hw=>Ze4 ey101 (hG.at hw (by simp))))<|Zg (Zs (q:=[.ints .u8 32 (y101)]) rfl rfl rfl rfl rfl (.there .here)<|Z1<|Zk ?_)
  revert h; refine Zz fun h=>?_
  subst h
  exact ⟨_,(.cons (.agg rfl (.there .here) rfl) .nil),rfl⟩
def Za4 (p0:List Int) (k40:(List Int)→OL) (k61:(Int)→(List Int)→OL) (i59:Int) (a60:List Int):OL :=
 br ((decide (i59<4))) (
 bnd (IntKind.wrap .i64 (8*i59)) fun z67 =>
 opt (Z57 (tk p0 0 32) z67) fun y68 =>
 chk (inB i59 4) <|
 bnd (Z4h a60 (i59).toNat y68.1) fun l70 =>
 bnd (IntKind.wrap .i64 (i59+1)) fun z72 =>
 k61 z72 l70
 ) (
 k40 a60
 )
def Z69 (p0:List Int) (k40:(List Int)→OL):Nat→(Int)→(List Int)→OL
  | 0,_,_=>none
  | n+1,i59,a60=>Za4 p0 k40 (Z69 p0 k40 n) i59 a60
def Z6j (p0:List Int):OL :=
 jn (fun (a39:List Int)=>some a39) fun k40=>Z69 p0 k40 big 0 (List.replicate 4 0)
theorem Zbc {W:World} {r:(List Int)} {p0:List Int} (h:Z6j p0=some r)  :
    Calls Tryd.prog 44 [agg [.ints .u8 32 (p0)]].toArray W (Z56 W (agg [.ints .u64 4 (r)])):=by
 unfold Z6j at h
 refine Zd mo ok44 rfl ?_
 refine Z0<|Z2<|Zg (Z14 (s:=[.ints .u8 32 (p0)]) rfl fun b2 hb2=>Zg (Zw fun b3 hb3=>Z1<|Z0<|Z2<|Zg (Zw fun b5 hb5=>Z1<|Z0<|Z0<|Z2<|Z8 rfl<|Z1<|jH h fun k40 qk40 h=>Zo (G:=fun t m=>∃ (a39:List Int),k40 a39=some r∧Fit [(2,.pointer (some ⟨b3,0,none⟩)),(3,.pointer (some ⟨b5,0,none⟩))] (ck b5 93 [.ints .u64 4 (a39)]::(ck b3 93 [.ints .u64 4 ((List.replicate 4 0))]::(ck b2 63 [.ints .u8 32 (p0)] :: []))) t m) ?_ ?_)))
 ·refine Zb<|Z01 (fun n62 t m=>∃ (i59:Int) (a60:List Int),Z69 p0 k40 n62 i59 a60=some r∧Fit [(1,.pointer (some ⟨b2,0,none⟩)),(2,.pointer (some ⟨b3,0,none⟩)),(3,.pointer (some ⟨b5,0,none⟩)),(5,.int .i64 (i59))] (ck b5 93 [.ints .u64 4 (a60)]::(ck b3 93 [.ints .u64 4 ((List.replicate 4 0))]::(ck b2 63 [.ints .u8 32 (p0)] :: []))) t m) big ?_ ?_
  ·exact ⟨0,(List.replicate 4 0),h,⟨⟨rfl,rfl,rfl,rfl,trivial⟩,(.one .here (.one .here (.one .here .nil)))⟩⟩
  ·rintro n62 t m ⟨i59,a60,h,hF⟩
   refine Zm hF ?_
   clear hF
   rcases n62 with _ | n62
   · exact Z1c h
   have h:Za4 p0 k40 (Z69 p0 k40 n62) i59 a60=some r:=h
   unfold Za4 at h
   obtain ⟨k61,qk61⟩ : ∃ k,k=Z69 p0 k40 n62:=⟨_,rfl⟩
   try rw [← qk61] at h
   refine Z0<|Z2<|Z6 _ (Za rfl rfl rfl)<|Z1<|Z0<|Z0l h rfl (fun h=>?_) (fun h=>?_)
   ·refine Zl<|Z0<|Zb<|Z0<|Z2<|Z8 rfl<|Z8 rfl<|Z1<|bH h fun z67 ez67 h=>oH h fun y68 ey68 h=>cH h fun c69 h=>bH h fun l70 el70 h=>Z2<|Z8 rfl<|Z6 _ (Z90 rfl .no .no .no (by simp) (by decide))<|Z8 rfl<|Z6 _ (iz ez67 (Za rfl rfl rfl))<|Z6 _ (Z0m rfl (fun w hw=>Z6y ey68 ((Z1z (s:=[.ints .u8 32 (p0)]) (N:=32) (k:=.u8) (base:=0) (lo:=0) (hi:=32) (mz:=32) (.there (.there .here)) rfl (by decide)) w hw)))<|Z8 rfl<|Z6 _ (Z1j rfl rfl)<|Z6 _ (Z1j rfl rfl)<|Z6 _ (Z3b rfl rfl (Z1w c69))<|Zg (Z5h (q:=[.ints .u64 4 (l70)]) (base:=0) el70 rfl rfl rfl (Z18 c69) rfl .here<|Z1<|bH h fun z72 ez72 h=>Z2<|Z6 _ (iz ez72 (Za rfl rfl rfl))<|Z8 rfl<|Z1 ?_)
    rw [qk61] at h
    exact ⟨n62,Nat.lt_succ_self _,z72,l70,h,⟨⟨rfl,rfl,rfl,rfl,trivial⟩,(.one .here (.one .here (.one .here .nil)))⟩⟩
   ·exact Z0b _ rfl<|⟨a60,h,⟨⟨rfl,rfl,trivial⟩,(.one .here (.one .here (.one .here .nil)))⟩⟩
 ·rintro t m ⟨a39,h,hF⟩
  refine Zm hF ?_
  clear hF
  subst qk40
  refine Z0<|Z2<|Z6 _ (Z02 (p:=[.ints .u64 4 (a39)]) rfl .here rfl)<|Zg (Zs (q:=[.ints .u64 4 (a39)]) rfl rfl rfl rfl rfl (.there .here)<|Z1<|Zk ?_)
  revert h; refine Zz fun h=>?_
  subst h
  exact ⟨_,(.cons (.agg rfl (.there .here) rfl) .nil),rfl⟩
def Z5t (p0:List Int):OL :=
 opt (Z6j p0) fun y4 =>
 some (tk y4 0 4)
theorem Z80 {W:World} {r:(List Int)} {p0:List Int} (h:Z5t p0=some r)  :
    Calls Tryd.prog 93 [agg [.ints .u8 32 (p0)]].toArray W (Zek W [] (fun v Ms=>∃ (u0:Value) (M0:List Zc),v=u0∧Ms = [.all M0]∧Z1n (El.int .u64) u0 M0 r)):=by
 unfold Z5t at h
 refine Z0t mo ok93 rfl (Zih _) ?_
 refine Z0<|Z2<|Zg (Z14 (s:=[.ints .u8 32 (p0)]) rfl fun b2 hb2=>Z8 rfl<|Z1<|Z0<|oH h fun y4 ey4 h=>Z2<|Z6 _ (Z02 (p:=[.ints .u8 32 (p0)]) rfl .here rfl)<|Z6 _ (Z1a rfl (Zbc ey4))<|Zg (Zw fun b5 hb5=>Zg (Zs (q:=[.ints .u64 4 (y4)]) rfl rfl rfl rfl rfl .here<|Z1<|Z0<|Z2<|Z6 _ (Z90 rfl .no .no .no (by simp) (by decide))<|Z8 rfl<|Z1<|Zk ?_)))
 revert h; refine Zz fun h=>?_
 subst h
 exact ⟨_,_,(.cons (.tmp rfl) .nil),(.one .here .nil),⟨_,rfl,⟨(.slice (some (Z22 b5 0 0 4 1)) (4-0) (4-0)),[ck b5 93 [.ints .u64 4 (y4)]],rfl,rfl,(Zjh (s:=[.ints .u64 4 (y4)]) (N:=4) (k:=.u64) (base:=0) (lo:=0) (hi:=4) (mz:=4) rfl (by decide))⟩⟩⟩
def Z92 (p0:List Int):OL :=
 opt (Z5t p0) fun y5 =>
 opt (Z35 y5) fun y11 =>
 some y11
theorem Zc4 {W:World} {r:(List Int)} {p0:List Int} (h:Z92 p0=some r) (hG:Globs W) :
    Calls Tryd.prog 90 [agg [.ints .u8 32 (p0)]].toArray W (Z56 W (agg [.ints .u64 4 (r)])):=by
 unfold Z92 at h
 refine Zd mo ok90 rfl ?_
 refine Z0<|Z2<|Zg (Z14 (s:=[.ints .u8 32 (p0)]) rfl fun b2 hb2=>Zg (Zw fun b3 hb3=>Z1<|Z0<|oH h fun y5 ey5 h=>oH h fun y11 ey11 h=>Z2<|Z6 _ (Z02 (p:=[.ints .u8 32 (p0)]) rfl (.there .here) rfl)<|Zg (Z0j rfl (fun w hw=>Z80  ey5 ) fun v6 Msv6 R7=>?_)))
 obtain ⟨_,ms9,rfl,rfl,O10⟩:=R7
 refine Z6 _ (Z0m rfl (fun w hw=>Z7a ey11 (hG.at hw (by simp)) ((Z1x O10 .here) w hw)))<|Zg (Zs (q:=[.ints .u64 4 (y11)]) rfl rfl rfl rfl rfl (.app .here)<|Z1<|Zk ?_)
 revert h; refine Zz fun h=>?_
 subst h
 exact ⟨_,(.cons (.agg rfl (.app .here) rfl) .nil),rfl⟩
def Zai (p0:List Int) (p1:List Int):OL :=
 opt (Z92 p0) fun y6 =>
 opt (Z92 p1) fun y7 =>
 opt (Z42 y6 y7) fun y8 =>
 opt (Z5o y8.1) fun y11 =>
 opt (Z4p y11) fun y12 =>
 some y12
theorem Zg1 {W:World} {r:(List Int)} {p0:List Int} {p1:List Int} (h:Zai p0 p1=some r) (hG:Globs W) :
    Calls Tryd.prog 61 [agg [.ints .u8 32 (p0)],agg [.ints .u8 32 (p1)]].toArray W (Z56 W (agg [.ints .u8 32 (r)])):=by
 unfold Zai at h
 refine Zd mo ok61 rfl ?_
 refine Z0<|Z2<|Zg (Z14 (s:=[.ints .u8 32 (p0)]) rfl fun b2 hb2=>Zg (Z14 (s:=[.ints .u8 32 (p1)]) rfl fun b3 hb3=>Zg (Zw fun b4 hb4=>Z1<|Z0<|oH h fun y6 ey6 h=>oH h fun y7 ey7 h=>oH h fun y8 ey8 h=>Zu<|Zn _ (Z02 (p:=[.ints .u8 32 (p0)]) rfl (.there (.there .here)) rfl)<|Z7 _ (Z0m rfl (fun w hw=>Zc4 ey6 (hG.at hw (by simp))))<|Zn _ (Z02 (p:=[.ints .u8 32 (p1)]) rfl (.there .here) rfl)<|Z7 _ (Z0m rfl (fun w hw=>Zc4 ey7 (hG.at hw (by simp))))<|Z7 _ (Z1a rfl (Z6d ey8))<|Z7 _ (Z19 rfl)<|Z7 _ (Z1j rfl rfl)<|Z7 _ (Z1j rfl rfl)<|Z7h (Zw fun b9 hb9=>⟨(by repeat (first | exact Sup.refl _ | apply Sup.cons | apply Sup.app)),Z2h rfl (Zs (q:=[.ints .u64 4 (y8.1)]) rfl rfl rfl rfl rfl .here (Z7 _ (Z19 rfl) (Z03 (Z0 (oH h fun y11 ey11 h=>oH h fun y12 ey12 h=>Z2 (Z6 _ (Z02 (p:=[.ints .u64 4 (y8.1)]) rfl .here rfl) (Z6 _ (Z0m rfl (fun w hw=>Zak ey11 (hG.at hw (by simp)))) (Z6 _ (Z1a rfl (Z7z ey12)) (Zg (Zs (q:=[.ints .u8 32 (y12)]) rfl rfl rfl rfl rfl (.there .here) (Z1 (Zk ?_))))))))))))⟩))))
 revert h; refine Zz fun h=>?_
 subst h
 exact ⟨_,(.cons (.agg rfl (.there .here) rfl) .nil),rfl⟩
def Zaj (p0:List Int) (p1:List Int):OL :=
 opt (Z5t p0) fun y6 =>
 opt (Z5t p1) fun y12 =>
 opt (Z4q y6 y12) fun y18 =>
 opt (Z35 y18) fun y24 =>
 opt (Z4p y24) fun y25 =>
 some y25
theorem Zg2 {W:World} {r:(List Int)} {p0:List Int} {p1:List Int} (h:Zaj p0 p1=some r) (hG:Globs W) :
    Calls Tryd.prog 62 [agg [.ints .u8 32 (p0)],agg [.ints .u8 32 (p1)]].toArray W (Z56 W (agg [.ints .u8 32 (r)])):=by
 unfold Zaj at h
 refine Zd mo ok62 rfl ?_
 refine Z0<|Z2<|Zg (Z14 (s:=[.ints .u8 32 (p0)]) rfl fun b2 hb2=>Zg (Z14 (s:=[.ints .u8 32 (p1)]) rfl fun b3 hb3=>Zg (Zw fun b4 hb4=>Z1<|Z0<|oH h fun y6 ey6 h=>oH h fun y12 ey12 h=>oH h fun y18 ey18 h=>oH h fun y24 ey24 h=>oH h fun y25 ey25 h=>Zu<|Zn _ (Z02 (p:=[.ints .u8 32 (p0)]) rfl (.there (.there .here)) rfl)<|Zn _ (Z02 (p:=[.ints .u8 32 (p1)]) rfl (.there .here) rfl)<|Z7h (Z0j rfl (fun w hw=>Z80  ey6 ) fun v7 Msv7 R8=>?_))))
 obtain ⟨_,ms10,rfl,rfl,O11⟩:=R8
 refine ⟨(by repeat (first | exact Sup.refl _ | apply Sup.cons | apply Sup.app)),Z7h (Z0j rfl (fun w hw=>Z80  ey12 ) fun v13 Msv13 R14=>?_)⟩
 obtain ⟨_,ms16,rfl,rfl,O17⟩:=R14
 refine ⟨(by repeat (first | exact Sup.refl _ | apply Sup.cons | apply Sup.app)),Z7h (Z0j rfl (fun w hw=>Zal  ey18 ((Z1x O11 (.app .here)) w hw) ((Z1x O17 .here) w hw)) fun v19 Msv19 R20=>?_)⟩
 obtain ⟨_,ms22,rfl,rfl,O23⟩:=R20
 refine ⟨(by repeat (first | exact Sup.refl _ | apply Sup.cons | apply Sup.app)),Znk _ (Z0m rfl (fun w hw=>Z7a ey24 (hG.at hw (by simp)) ((Z1x O23 .here) w hw))) (Z7 _ (Z1a rfl (Z7z ey25)) (Z2h rfl (Zs (q:=[.ints .u8 32 (y25)]) rfl rfl rfl rfl rfl (.app (.app (.app .here))) (Z03 (Zk ?_))))) (by repeat (first | exact Sup.refl _ | apply Sup.cons | apply Sup.app))⟩
 revert h; refine Zz fun h=>?_
 subst h
 exact ⟨_,(.cons (.agg rfl (.app (.app (.app .here))) rfl) .nil),rfl⟩
def Z78 (p0:List Int) (p1:List Int) (p2:List Int):OL :=
 opt (Zaj p0 p1) fun y7 =>
 opt (Zai y7 p2) fun y8 =>
 some y8
theorem Ze3 {W:World} {r:(List Int)} {p0:List Int} {p1:List Int} {p2:List Int} (h:Z78 p0 p1 p2=some r) (hG:Globs W) :
    Calls Tryd.prog 26 [agg [.ints .u8 32 (p0)],agg [.ints .u8 32 (p1)],agg [.ints .u8 32 (p2)]].toArray W (Z56 W (agg [.ints .u8 32 (r)])):=by
 unfold Z78 at h
 refine Zd mo ok26 rfl ?_
 refine Z0<|Z2<|Zg (Z14 (s:=[.ints .u8 32 (p0)]) rfl fun b2 hb2=>Zg (Z14 (s:=[.ints .u8 32 (p1)]) rfl fun b3 hb3=>Zg (Z14 (s:=[.ints .u8 32 (p2)]) rfl fun b4 hb4=>Zg (Zw fun b5 hb5=>Z1<|Z0<|oH h fun y7 ey7 h=>oH h fun y8 ey8 h=>Zu<|Zn _ (Z02 (p:=[.ints .u8 32 (p0)]) rfl (.there (.there (.there .here))) rfl)<|Zn _ (Z02 (p:=[.ints .u8 32 (p1)]) rfl (.there (.there .here)) rfl)<|Z7 _ (Z0m rfl (fun w hw=>Zg2 ey7 (hG.at hw (by simp))))<|Zn _ (Z02 (p:=[.ints .u8 32 (p2)]) rfl (.there .here) rfl)<|Z7 _ (Z0m rfl (fun w hw=>Zg1 ey8 (hG.at hw (by simp))))<|Z2h rfl (Zs (q:=[.ints .u8 32 (y8)]) rfl rfl rfl rfl rfl .here<|Z03<|Zk ?_)))))
 revert h; refine Zz fun h=>?_
 subst h
 exact ⟨_,(.cons (.agg rfl .here rfl) .nil),rfl⟩
def Z8p (p0:List Int) (p1:List Int):OL :=
 opt (Z83 p0) fun y5 =>
 opt (Z3q y5.1) fun y13 =>
 opt (Z3p y13) fun y14 =>
 opt (Z7c [y5.2,p1]) fun y20 =>
 opt (Z3q y20) fun y23 =>
 opt (Z3p y23) fun y24 =>
 jn (fun (a33:List Int)=>opt (Z78 a33 y5.1 y20) fun y42 =>
 bnd (wr (List.replicate 64 0) 0 ((tk y24 0 32).take 32)) fun l47 =>
 bnd (wr l47 32 ((tk y42 0 32).take (64-32))) fun l49 =>
 some l49) fun k34=>opt (Z7c [(tk y24 0 32),(tk y14 0 32),p1]) fun y39 =>
 k34 y39
theorem Zd5 {W:World} {r:(List Int)} {p0:List Int} {p1:List Int} {v1:Value} (h:Z8p p0 p1=some r) (hG:Globs W) (A1:RdSl (El.int .u8) W v1 p1) :
    Calls Tryd.prog 11 [agg [.ints .u8 32 (p0)],v1].toArray W (Z56 W (agg [.ints .u8 64 (r)])):=by
 unfold Z8p at h
 refine Zd mo ok11 rfl ?_
 refine Z0<|Z2<|Zg (Z14 (s:=[.ints .u8 32 (p0)]) rfl fun b2 hb2=>Zg (Zw fun b3 hb3=>Z1<|Z0<|oH h fun y5 ey5 h=>Z2<|Z6 _ (Z02 (p:=[.ints .u8 32 (p0)]) rfl (.there .here) rfl)<|Zg (Z0j rfl (fun w hw=>Zbh  ey5 (hG.at hw (by simp))) fun v6 Msv6 R7=>?_)))
 obtain ⟨v8,ms9,rfl,rfl,O10⟩:=R7
 refine Z8 rfl<|Z6 _ (Z1j rfl rfl)<|Z6 _ (Z1j rfl rfl)<|Zg (Zw fun b11 hb11=>Zg (Zs (q:=[.ints .u8 32 (y5.1)]) rfl rfl rfl rfl rfl .here<|Z8 rfl<|Z1<|Z0<|oH h fun y13 ey13 h=>oH h fun y14 ey14 h=>Z2<|Z6 _ (Z02 (p:=[.ints .u8 32 (y5.1)]) rfl .here rfl)<|Z6 _ (Z1a rfl (Z71 ey13))<|Z6 _ (Z1a rfl (Z5z ey14))<|Zg (Zw fun b15 hb15=>Zg (Zs (q:=[.ints .u8 32 (y14)]) rfl rfl rfl rfl rfl .here<|Z1<|Z0<|oH h fun y20 ey20 h=>Z2<|Z8 rfl<|Z8 rfl<|Zg (Z9r (E:=El.sl) (xs:=[unS v8,unS v1]) (.one rfl (Zdg.cells (Z1n.isSl O10)) rfl (.one rfl (Zdg.cells (Shp.isSl (Shp.rd A1))) rfl BdR.nil)) (.cons (p:=[.one v8]) (Z7d (Z1n.isSl O10)) (.cons (p:=[.one v1]) (Z7d (Shp.isSl (Shp.rd A1))) .nil)) rfl fun v17 ms18 O19=>Z6 _ (Z0m rfl (fun w hw=>Z43 ey20 (hG.at hw (by simp)) (Z1x O19 .here w hw) (.cons (Z6t ((Z1x O10 (.app (.there (.there .here)))) w hw)) (.cons (Z6t ((Z2a A1 Z2m) w hw)) .nil))))<|Zg (Zw fun b21 hb21=>Zg (Zs (q:=[.ints .u8 32 (y20)]) rfl rfl rfl rfl rfl .here<|Z1<|Z0<|oH h fun y23 ey23 h=>oH h fun y24 ey24 h=>Z2<|Z6 _ (Z02 (p:=[.ints .u8 32 (y20)]) rfl .here rfl)<|Z6 _ (Z1a rfl (Z71 ey23))<|Z6 _ (Z1a rfl (Z5z ey24))<|Zg (Zw fun b25 hb25=>Zg (Zs (q:=[.ints .u8 32 (y24)]) rfl rfl rfl rfl rfl .here<|Z1<|Z0<|jH h fun k34 qk34 h=>Zo (G:=fun t m=>∃ (a33:List Int) (b32:Nat),k34 a33=some r∧Fit [(4,.pointer (some ⟨b3,0,none⟩)),(5,.pointer (some ⟨b11,0,none⟩)),(8,.pointer (some ⟨b21,0,none⟩)),(9,.pointer (some ⟨b25,0,none⟩)),(10,.pointer (some ⟨b32,0,none⟩))] (ck b32 63 [.ints .u8 32 (a33)]::(ck b25 27 [.ints .u8 32 (y24)]::(ck b21 63 [.ints .u8 32 (y20)]::(ck b15 27 [.ints .u8 32 (y14)]::(ck b11 63 [.ints .u8 32 (y5.1)]::(ck b3 30 [.ints .u8 64 ((List.replicate 64 0))]::(ck b2 38 [.ints .u8 32 (p0)] :: []))))))) t m) ?_ ?_)))))))))
 ·refine oH h fun y39 ey39 h=>Zu<|Z7 _ (Z90 rfl .no .no .no (by simp) (by decide))<|Z7 _ (Z90 rfl .no .no .no (by simp) (by decide))<|Z7 _ (Z19 rfl)<|Zk8 (Z9r (E:=El.sl) (xs:=[unS (.slice (some (Z22 b25 0 0 32 1)) (32-0) (32-0)),unS (.slice (some (Z22 b15 0 0 32 1)) (32-0) (32-0)),unS v1]) (.one rfl (Zdg.cells ⟨_,_,_,rfl⟩) rfl (.one rfl (Zdg.cells ⟨_,_,_,rfl⟩) rfl (.one rfl (Zdg.cells (Shp.isSl (Shp.rd A1))) rfl BdR.nil))) (.cons (p:=[.one (.slice (some (Z22 b25 0 0 32 1)) (32-0) (32-0))]) (Z7d ⟨_,_,_,rfl⟩) (.cons (p:=[.one (.slice (some (Z22 b15 0 0 32 1)) (32-0) (32-0))]) (Z7d ⟨_,_,_,rfl⟩) (.cons (p:=[.one v1]) (Z7d (Shp.isSl (Shp.rd A1))) .nil))) rfl fun v36 ms37 O38=>⟨(by repeat (first | exact Sup.refl _ | apply Sup.cons | apply Sup.app)),?_⟩) (Zw fun b40 hb40=>⟨(by repeat (first | exact Sup.refl _ | apply Sup.cons | apply Sup.app)),?_⟩)
  ·refine Zk8 (ef_q _ (Z0m rfl (fun w hw=>Z43 ey39 (hG.at hw (by simp)) (Z1x O38 .here w hw) (.cons (Z6t ((Z1z (s:=[.ints .u8 32 (y24)]) (N:=32) (k:=.u8) (base:=0) (lo:=0) (hi:=32) (mz:=32) (.app .here) rfl (by decide)) w hw)) (.cons (Z6t ((Z1z (s:=[.ints .u8 32 (y14)]) (N:=32) (k:=.u8) (base:=0) (lo:=0) (hi:=32) (mz:=32) (.app (.there (.there (.app .here)))) rfl (by decide)) w hw)) (.cons (Z6t ((Z2a A1 Z2m) w hw)) .nil))))) ⟨(by repeat (first | exact Sup.refl _ | apply Sup.cons | apply Sup.app)),?_⟩) (Zw fun b40 hb40=>⟨(by repeat (first | exact Sup.refl _ | apply Sup.cons | apply Sup.app)),?_⟩)
   ·exact Z7h (Zw fun b40 hb40=>⟨(by repeat (first | exact Sup.refl _ | apply Sup.cons | apply Sup.app)),Z2h rfl (Zs (q:=[.ints .u8 32 (y39)]) rfl rfl rfl rfl rfl .here (Z03 (⟨y39,b40,h,⟨⟨rfl,rfl,rfl,rfl,rfl,trivial⟩,(.one .here (.one (.app .here) (.one (.app .here) (.one (.app (.app .here)) (.one (.app (.app .here)) (.one (.app (.app (.app .here))) (.one (.app (.app (.app .here))) .nil)))))))⟩⟩)))⟩)
   ·exact Znk _ (Z0m rfl (fun w hw=>Z43 ey39 (hG.at hw (by simp)) (Z1x O38 (.there .here) w hw) (.cons (Z6t ((Z1z (s:=[.ints .u8 32 (y24)]) (N:=32) (k:=.u8) (base:=0) (lo:=0) (hi:=32) (mz:=32) (.there (.app .here)) rfl (by decide)) w hw)) (.cons (Z6t ((Z1z (s:=[.ints .u8 32 (y14)]) (N:=32) (k:=.u8) (base:=0) (lo:=0) (hi:=32) (mz:=32) (.there (.app (.there (.there (.app .here))))) rfl (by decide)) w hw)) (.cons (Z6t ((Z2a A1 Z2m) w hw)) .nil))))) (Z2h rfl (Zs (q:=[.ints .u8 32 (y39)]) rfl rfl rfl rfl rfl .here (Z03 (⟨y39,b40,h,⟨⟨rfl,rfl,rfl,rfl,rfl,trivial⟩,(.one .here (.one (.app .here) (.one (.app .here) (.one (.app (.app .here)) (.one (.app (.app .here)) (.one (.app (.app (.app .here))) (.one (.app (.app (.app .here))) .nil)))))))⟩⟩)))) (by repeat (first | exact Sup.refl _ | apply Sup.cons | apply Sup.app))
  ·exact Z7h (Z9r (E:=El.sl) (xs:=[unS (.slice (some (Z22 b25 0 0 32 1)) (32-0) (32-0)),unS (.slice (some (Z22 b15 0 0 32 1)) (32-0) (32-0)),unS v1]) (.one rfl (Zdg.cells ⟨_,_,_,rfl⟩) rfl (.one rfl (Zdg.cells ⟨_,_,_,rfl⟩) rfl (.one rfl (Zdg.cells (Shp.isSl (Shp.rd A1))) rfl BdR.nil))) (.cons (p:=[.one (.slice (some (Z22 b25 0 0 32 1)) (32-0) (32-0))]) (Z7d ⟨_,_,_,rfl⟩) (.cons (p:=[.one (.slice (some (Z22 b15 0 0 32 1)) (32-0) (32-0))]) (Z7d ⟨_,_,_,rfl⟩) (.cons (p:=[.one v1]) (Z7d (Shp.isSl (Shp.rd A1))) .nil))) rfl fun v36 ms37 O38=>⟨(by repeat (first | exact Sup.refl _ | apply Sup.cons | apply Sup.app)),Znk _ (Z0m rfl (fun w hw=>Z43 ey39 (hG.at hw (by simp)) (Z1x O38 .here w hw) (.cons (Z6t ((Z1z (s:=[.ints .u8 32 (y24)]) (N:=32) (k:=.u8) (base:=0) (lo:=0) (hi:=32) (mz:=32) (.app (.there .here)) rfl (by decide)) w hw)) (.cons (Z6t ((Z1z (s:=[.ints .u8 32 (y14)]) (N:=32) (k:=.u8) (base:=0) (lo:=0) (hi:=32) (mz:=32) (.app (.there (.there (.there (.app .here))))) rfl (by decide)) w hw)) (.cons (Z6t ((Z2a A1 Z2m) w hw)) .nil))))) (Z2h rfl (Zs (q:=[.ints .u8 32 (y39)]) rfl rfl rfl rfl rfl (.app .here) (Z03 (⟨y39,b40,h,⟨⟨rfl,rfl,rfl,rfl,rfl,trivial⟩,(.one (.app .here) (.one (.app .here) (.one (.app .here) (.one (.app (.app .here)) (.one (.app (.app .here)) (.one (.app (.app (.app .here))) (.one (.app (.app (.app .here))) .nil)))))))⟩⟩)))) (by repeat (first | exact Sup.refl _ | apply Sup.cons | apply Sup.app))⟩)
 ·rintro t m ⟨a33,b32,h,hF⟩
  refine Zm hF ?_
  clear hF
  subst qk34
  refine Z0<|oH h fun y42 ey42 h=>Z2<|Z6 _ (Z02 (p:=[.ints .u8 32 (a33)]) rfl .here rfl)<|Z6 _ (Z02 (p:=[.ints .u8 32 (y5.1)]) rfl (.there (.there (.there (.there .here)))) rfl)<|Z6 _ (Z02 (p:=[.ints .u8 32 (y20)]) rfl (.there (.there .here)) rfl)<|Z6 _ (Z0m rfl (fun w hw=>Ze3 ey42 (hG.at hw (by simp))))<|Zg (Zw fun b43 hb43=>Zg (Zs (q:=[.ints .u8 32 (y42)]) rfl rfl rfl rfl rfl .here<|Z1<|Z0<|Z2<|Zg (Zw fun b45 hb45=>Z1<|Z0<|bH h fun l47 el47 h=>Zu<|Z7 _ (Z90 rfl .no (.yes rfl) .no (by simp) (by decide))<|Z7 _ (Z90 rfl .no .no .no (by simp) (by decide))<|Z2h rfl (Zea (q:=[.ints .u8 64 (l47)]) (lo:=0) (hi:=32) (mz:=64) (base:=0) (cpy0 el47) rfl rfl (Z1z (s:=[.ints .u8 32 (y24)]) (N:=32) (k:=.u8) (base:=0) (lo:=0) (hi:=32) (mz:=32) (.there (.there (.there .here))) rfl (by decide)) rfl (by decide) rfl .here<|Z03<|Z0<|bH h fun l49 el49 h=>Zu<|Z7 _ (Z90 rfl (.yes rfl) .no .no (by simp) (by decide))<|Z7 _ (Z90 rfl .no .no .no (by simp) (by decide))<|Z2h rfl (Zea (q:=[.ints .u8 64 (l49)]) (lo:=32) (hi:=64) (mz:=64) (base:=0) el49 rfl rfl (Z1z (s:=[.ints .u8 32 (y42)]) (N:=32) (k:=.u8) (base:=0) (lo:=0) (hi:=32) (mz:=32) (.there .here) rfl (by decide)) rfl (by decide) rfl .here<|Z03<|Z0<|Z2<|Z6 _ (Z02 (p:=[.ints .u8 64 (l49)]) rfl .here rfl)<|Zg (Zs (q:=[.ints .u8 64 (l49)]) rfl rfl rfl rfl rfl (.there (.there (.there (.there (.there (.there (.there .here)))))))<|Z1<|Zk ?_))))))
  revert h; refine Zz fun h=>?_
  subst h
  exact ⟨_,(.cons (.agg rfl (.there (.there (.there (.there (.there (.there (.there .here))))))) rfl) .nil),rfl⟩
structure Z11 where
  gbytes:List Int
  gfault:Int
def Z8a:Option (Z11) :=
 some (⟨[],0⟩:Z11)
theorem Zdf {W:World} {r:Z11} (h:Z8a=some r)  :
    Calls Tryd.prog 63 [].toArray W (Zek W [] (fun v Ms=>∃ (b0:Nat) (T0:TypeId) (u0:Value) (M0:List Zc),v = .pointer (some ⟨b0,0,none⟩)∧Ms = [.one (ck b0 T0 [.one (u0),.one (.int .i64 (r.gfault))]),.all M0]∧Z1n (El.int .u8) u0 M0 r.gbytes)):=by
 unfold Z8a at h
 refine Z0t mo ok63 rfl (Zih _) ?_
 refine Z0<|Z2<|Z8 rfl<|Z1<|Z0<|Z2<|Z6 _ (Zdx (q:=[.one (.slice none 0 0),.one (.int .i64 (0))]) BdR.nil)<|Zg (Z14 (s:=[.one (.slice none 0 0),.one (.int .i64 (0))]) rfl fun b3 hb3=>Z8 rfl<|Z1<|Zk ?_)
 revert h; refine Zz fun h=>?_
 subst h
 exact ⟨_,_,(.cons (.tmp rfl) .nil),(.one .here (.no .nil)),⟨_,rfl,⟨b3,149,(.slice none 0 0),[],rfl,rfl,Z8u⟩⟩⟩
def Z4g (p0:Z11) (p1:List Int):Option (Z11) :=
 br ((p0.gfault==0)) (
 chk (decide ((p0.gbytes.length+p1.length)*1≤140737488355328)) <|
 bnd (p0.gbytes++p1) fun l5 =>
 some (⟨l5,p0.gfault⟩:Z11)
 ) (
 some p0
 )
theorem Z8y {W:World} {r:Z11} {p0:Z11} {p1:List Int} {v0:Value} {M0:List Zc} {v1:Value} {b:Nat} {T:TypeId} (h:Z4g p0 p1=some r) (h0:Sat W (b::M0.map (·.b)) (ck b T [.one (v0),.one (.int .i64 (p0.gfault))]::(M0 ++ [])) W) (O0:Z1n (El.int .u8) v0 M0 p0.gbytes) (A1:RdSl (El.int .u8) W v1 p1∧Z95 v1 p1 (b::M0.map (·.b))) :
    Calls Tryd.prog 94 [.pointer (some ⟨b,0,none⟩),v1].toArray W (Zek W (b::M0.map (·.b)) (fun v Ms=>∃ (uw:Value) (Mw:List Zc),v = .tuple #[]∧Ms = [.one (ck b T [.one (uw),.one (.int .i64 (r.gfault))]),.all Mw]∧Z1n (El.int .u8) uw Mw r.gbytes)):=by
 unfold Z4g at h
 refine Z0t mo ok94 rfl h0 ?_
 refine Z0<|Z2<|Z8 rfl<|Z6 _ (Z5a rfl)<|Z6 _ (Z6c rfl)<|Z6 _ (Z2k rfl .here rfl)<|Z6 _ (Za rfl rfl rfl)<|Z1<|Z0l h rfl (fun h=>?_) (fun h=>?_)
 ·refine cH h fun c4 h=>bH h fun l5 el5 h=>Z2<|Z8 rfl<|Z8 rfl<|Z6 _ (Z5a rfl)<|Z6 _ (Z6c rfl)<|Z6 _ (Z2k rfl .here rfl)<|Z8 rfl<|Zg (Zar (E:=(El.int .u8)) el5 rfl O0 (.there .here) rfl (Z2a A1.1 A1.2) c4 fun v6 ms7 O8=>Z6 _ (Z5a rfl)<|Z6 _ (Z6c rfl)<|Zg (Z9c (q:=[.one (v6),.one (.int .i64 (p0.gfault))]) rfl rfl (Zdg.one1 (Z1n.isSl O8)) rfl (.app .here)<|Z1 ?_))
  revert h; refine Zz fun h=>?_
  subst h
  exact ⟨_,_,.nil,(.one (.app .here) (.all .here .nil)),⟨_,rfl,⟨v6,ms7,rfl,rfl,O8⟩⟩⟩
 ·refine Zl ?_
  revert h; refine Zz fun h=>?_
  subst h
  exact ⟨_,_,.nil,(.one .here (.all .here .nil)),⟨_,rfl,⟨v0,M0,rfl,rfl,O0⟩⟩⟩
def Z3a (p0:Z11) (p1:List Int):Option (Z11) :=
 opt (Z4g p0 p1) fun y2 =>
 some y2
theorem Z7m {W:World} {r:Z11} {p0:Z11} {p1:List Int} {v0:Value} {M0:List Zc} {v1:Value} {b:Nat} {T:TypeId} (h:Z3a p0 p1=some r) (h0:Sat W (b::M0.map (·.b)) (ck b T [.one (v0),.one (.int .i64 (p0.gfault))]::(M0 ++ [])) W) (O0:Z1n (El.int .u8) v0 M0 p0.gbytes) (A1:RdSl (El.int .u8) W v1 p1∧Z95 v1 p1 (b::M0.map (·.b))) :
    Calls Tryd.prog 64 [.pointer (some ⟨b,0,none⟩),v1].toArray W (Zek W (b::M0.map (·.b)) (fun v Ms=>∃ (uw:Value) (Mw:List Zc),v = .tuple #[]∧Ms = [.one (ck b T [.one (uw),.one (.int .i64 (r.gfault))]),.all Mw]∧Z1n (El.int .u8) uw Mw r.gbytes)):=by
 unfold Z3a at h
 refine Z0t mo ok64 rfl h0 ?_
 refine oH h fun y2 ey2 h=>Z2<|Z8 rfl<|Z8 rfl<|Zg (Z4s (mS:=_::M0) rfl (Zf3 .here .here) (fun w hw=>Z8y  ey2 (Zco hw (Zf3 .here .here)) O0 ⟨(Z2a A1.1 A1.2) w hw,(Zla (Zmk (E:=(El.int .u8)) A1.1 A1.2 .here hw) (Zml (E:=(El.int .u8)) A1.1 A1.2 (.there .here) hw))⟩) fun v3 Msv3 R4=>?_)
 obtain ⟨v5,ms6,rfl,rfl,O7⟩:=R4
 refine Z1 ?_
 revert h; refine Zz fun h=>?_
 subst h
 exact ⟨_,_,.nil,(.one .here (.all .here .nil)),⟨_,rfl,⟨v5,ms6,rfl,rfl,O7⟩⟩⟩
def Ze5 (p0:Int):Option ((Bool×List Int)) :=
 br (((decide (p0<1))||(decide (p0>255)))) (
 some (true,[])
 ) (
 bnd (IntKind.wrap .u8 p0) fun z6 =>
 chk (decide (0<([70,66,1,z6]:List (Int)).length)) <|
 some (false,([70,66,1,z6]:List (Int)))
 )
theorem Zgq {W:World} {r:(Bool×List Int)} {p0:Int} (h:Ze5 p0=some r)  :
    Calls Tryd.prog 65 [.int .i64 (p0)].toArray W (Zek W [] (fun v Ms=>∃ (u0:Value) (M0:List Zc),v=u0∧Ms = [.all M0]∧Z1n (El.int .u8) u0 M0 r.2∧Zj9 u0=r.1)):=by
 unfold Ze5 at h
 refine Z0t mo ok65 rfl (Zih _) ?_
 refine Z0<|Z2<|Z8 rfl<|Z1<|Z0<|Z0<|Z2<|Z8 rfl<|Z6 _ (Za rfl rfl rfl)<|Z8 rfl<|Zf8 rfl rfl rfl (fun hg1=>Z45 rfl _ (Z19 rfl) (Z45 rfl _ (Za rfl rfl rfl) (Z3k))) (fun hg1=>rfl) rfl<|Z1<|Z0l h rfl (fun h=>?_) (fun h=>?_)
 ·refine Z0<|Z2<|Z8 rfl<|Z1<|Zk ?_
  revert h; refine Zz fun h=>?_
  subst h
  exact ⟨_,_,(.cons (.tmp rfl) .nil),(.no .nil),⟨_,rfl,⟨(.slice none 0 0),[],rfl,rfl,Z8u,rfl⟩⟩⟩
 ·refine Zl<|Z0<|bH h fun z6 ez6 h=>Z2<|Z8 rfl<|Z6 _ (iz ez6 (Z8n rfl))<|Zg (Z9r (E:=(El.int .u8)) (xs:=[70,66,1,z6]) (.one rfl rfl rfl (.one rfl rfl rfl (.one rfl rfl rfl (.one rfl rfl rfl BdR.nil)))) (.cons (p:=[.one (.int .u8 (70))]) rfl (.cons (p:=[.one (.int .u8 (66))]) rfl (.cons (p:=[.one (.int .u8 (1))]) rfl (.cons (p:=[.one (.int .u8 (z6))]) rfl .nil)))) rfl fun v7 ms8 O9=>Z8 rfl<|Z1<|Zk<|cH h fun c10 h=>?_)
  revert h; refine Zz fun h=>?_
  subst h
  exact ⟨_,_,(.cons (.tmp rfl) .nil),(.all .here .nil),⟨_,rfl,⟨v7,ms8,rfl,rfl,O9,(Shp.notnil (Shp.own O9) c10)⟩⟩⟩
def Z62 (k29:(Int)→Option (Int)) (k45:(Int)→(Int)→Option (Int)) (i43:Int) (i44:Int):Option (Int) :=
 br ((i44 != 0)) (
 bnd (IntKind.wrap .i64 (i43+1)) fun z50 =>
 bnd (Zh .u32 i44 1) fun z52 =>
 k45 z50 z52
 ) (
 k29 i43
 )
def Z32 (k29:(Int)→Option (Int)):Nat→(Int)→(Int)→Option (Int)
  | 0,_,_=>none
  | n+1,i43,i44=>Z62 k29 (Z32 k29 n) i43 i44
def Z7o:Option (Int) :=
 bnd (Z4 .xor .u32 4294967295 0) fun z4 =>
 jn (fun (i28:Int)=>some i28) fun k29=>Z32 k29 big 0 z4
theorem Zbj {W:World} {r:Int} (h:Z7o=some r)  :
    Calls Tryd.prog 104 [].toArray W (Z56 W (.int .i64 (r))):=by
 unfold Z7o at h
 refine Zd mo Z06w rfl ?_
 refine Z0<|Z2<|Z8 rfl<|Z1<|Z0<|Z2<|Z8 rfl<|Z1<|Z0<|Z0<|bH h fun z4 ez4 h=>Z2<|Z6 _ (Z8n rfl)<|Z6 _ (iz ez4 (Zm1 rfl rfl))<|Z8 rfl<|Z1<|jH h fun k29 qk29 h=>Zo (G:=fun t m=>∃ (i28:Int),k29 i28=some r∧Fit [(1,.int .i64 (i28))] [] t m) ?_ ?_
 ·refine Zb<|Z01 (fun n46 t m=>∃ (i43:Int) (i44:Int),Z32 k29 n46 i43 i44=some r∧Fit [(1,.int .i64 (i43)),(2,.int .u32 (i44))] [] t m) big ?_ ?_
  ·exact ⟨0,z4,h,⟨⟨rfl,rfl,trivial⟩,.nil⟩⟩
  ·rintro n46 t m ⟨i43,i44,h,hF⟩
   refine Zm hF ?_
   clear hF
   rcases n46 with _ | n46
   · exact Z1c h
   have h:Z62 k29 (Z32 k29 n46) i43 i44=some r:=h
   unfold Z62 at h
   obtain ⟨k45,qk45⟩ : ∃ k,k=Z32 k29 n46:=⟨_,rfl⟩
   try rw [← qk45] at h
   refine Z0<|Z0<|Z2<|Z8 rfl<|Z6 _ (Za rfl rfl rfl)<|Z1<|Z0l h rfl (fun h=>?_) (fun h=>?_)
   ·refine Zl<|Z0<|Zb<|bH h fun z50 ez50 h=>Z2<|Z8 rfl<|Z6 _ (iz ez50 (Za rfl rfl rfl))<|Z8 rfl<|Z1<|bH h fun z52 ez52 h=>Z2<|Z8 rfl<|Z6 _ (iz ez52 (Z76 rfl rfl (by decide)))<|Z8 rfl<|Z1 ?_
    rw [qk45] at h
    exact ⟨n46,Nat.lt_succ_self _,z50,z52,h,⟨⟨rfl,rfl,trivial⟩,.nil⟩⟩
   ·exact Z0b _ rfl<|⟨i43,h,⟨⟨rfl,trivial⟩,.nil⟩⟩
 ·rintro t m ⟨i28,h,hF⟩
  refine Zm hF ?_
  clear hF
  subst qk29
  refine Z0<|Z2<|Z8 rfl<|Z8 rfl<|Z1<|Zk ?_
  revert h; refine Zz fun h=>?_
  subst h
  exact ⟨_,(.cons (.tmp rfl) .nil),rfl⟩
def Z53 (k65:(List (Int))→OL) (k102:(Int)→(List (Int))→(Int)→OL) (i96:Int) (l99:List (Int)) (i101:Int):OL :=
 br ((decide (i101≥0))) (
 bnd (IntKind.wrap .u8 i96) fun z107 =>
 chk (inB i101 l99.length) <|
 bnd (Zf7 0 l99 (i101).toNat z107) fun l109 =>
 bnd (Zh .u32 i96 8) fun z113 =>
 bnd (IntKind.wrap .i64 (i101-1)) fun z115 =>
 k102 z113 l109 z115
 ) (
 k65 l99
 )
def Z2c (k65:(List (Int))→OL):Nat→(Int)→(List (Int))→(Int)→OL
  | 0,_,_,_=>none
  | n+1,i96,l99,i101=>Z53 k65 (Z2c k65 n) i96 l99 i101
def Z3c (p0:Int):OL :=
 opt (Z7o) fun y3 =>
 bnd (IntKind.wrap .i64 (Int.tdiv y3 8)) fun z4 =>
 chk (mkB 1 z4 z4) <|
 bnd (IntKind.wrap .i64 (((List.replicate (z4).toNat 0:List (Int)).length:Int)-1)) fun z10 =>
 jn (fun (l63:List (Int))=>some l63) fun k65=>Z2c k65 big p0 (List.replicate (z4).toNat 0:List (Int)) z10
theorem Za6 {W:World} {r:(List Int)} {p0:Int} (h:Z3c p0=some r)  :
    Calls Tryd.prog 95 [.int .u32 (p0)].toArray W (Zek W [] (fun v Ms=>∃ (u0:Value) (M0:List Zc),v=u0∧Ms = [.all M0]∧Z1n (El.int .u8) u0 M0 r)):=by
 unfold Z3c at h
 refine Z0t mo ok95 rfl (Zih _) ?_
 refine Z0<|Z2<|Z8 rfl<|Z1<|Z0<|oH h fun y3 ey3 h=>bH h fun z4 ez4 h=>cH h fun c5 h=>Z2<|Z6 _ (Z1a rfl (Zbj ey3))<|Z6 _ (iz ez4 (Zjn rfl rfl (by decide)))<|Zg (Zfs (E:=(El.int .u8)) rfl rfl rfl c5 fun v6 ms7 O8=>Z8 rfl<|Z1<|Z0<|Z0<|bH h fun z10 ez10 h=>Z2<|Z8 rfl<|Z6 _ (Z2i rfl (Shp.own O8))<|Z6 _ (iz ez10 (Za rfl rfl rfl))<|Z8 rfl<|Z1<|jH h fun k65 qk65 h=>Zo (G:=fun t m=>∃ (l63:List (Int)) (v61:Value) (ms62:List Zc),k65 l63=some r∧Z1n (El.int .u8) v61 ms62 l63∧Fit [(3,v61)] (ms62 ++ []) t m) ?_ ?_)
 ·refine Zb<|Z01 (fun n103 t m=>∃ (i96:Int) (l99:List (Int)) (i101:Int) (v97:Value) (ms98:List Zc),Z2c k65 n103 i96 l99 i101=some r∧Z1n (El.int .u8) v97 ms98 l99∧Fit [(0,.int .u32 (i96)),(3,v97),(4,.int .i64 (i101))] (ms98 ++ []) t m) big ?_ ?_
  ·exact ⟨p0,(List.replicate (z4).toNat 0:List (Int)),z10,v6,ms7,h,O8,⟨⟨rfl,rfl,rfl,trivial⟩,(.all .here .nil)⟩⟩
  ·rintro n103 t m ⟨i96,l99,i101,v97,ms98,h,O100,hF⟩
   refine Zm hF ?_
   clear hF
   rcases n103 with _ | n103
   · exact Z1c h
   have h:Z53 k65 (Z2c k65 n103) i96 l99 i101=some r:=h
   unfold Z53 at h
   obtain ⟨k102,qk102⟩ : ∃ k,k=Z2c k65 n103:=⟨_,rfl⟩
   try rw [← qk102] at h
   refine Z0<|Z0<|Z2<|Z8 rfl<|Z6 _ (Za rfl rfl rfl)<|Z1<|Z0l h rfl (fun h=>?_) (fun h=>?_)
   ·refine Zl<|Z0<|Zb<|Z0<|bH h fun z107 ez107 h=>cH h fun c108 h=>bH h fun l109 el109 h=>Z2<|Z8 rfl<|Z8 rfl<|Z8 rfl<|Z6 _ (iz ez107 (Z8n rfl))<|Z6 _ (Z4m rfl rfl (Shp.own O100) c108)<|Zg (Zj0 (E:=(El.int .u8)) el109 O100 .here rfl rfl rfl (Z18 c108) fun ms110 O111=>Z1<|bH h fun z113 ez113 h=>Z2<|Z8 rfl<|Z6 _ (iz ez113 (Z76 rfl rfl (by decide)))<|Z8 rfl<|Z1<|bH h fun z115 ez115 h=>Z2<|Z8 rfl<|Z6 _ (iz ez115 (Za rfl rfl rfl))<|Z8 rfl<|Z1 ?_)
    rw [qk102] at h
    exact ⟨n103,Nat.lt_succ_self _,z113,l109,z115,v97,ms110,h,O111,⟨⟨rfl,rfl,rfl,trivial⟩,(.all .here .nil)⟩⟩
   ·exact Z0b _ rfl<|⟨l99,v97,ms98,h,O100,⟨⟨rfl,trivial⟩,(.all .here .nil)⟩⟩
 ·rintro t m ⟨l63,v61,ms62,h,O64,hF⟩
  refine Zm hF ?_
  clear hF
  subst qk65
  refine Z0<|Z2<|Z8 rfl<|Z8 rfl<|Z1<|Zk ?_
  revert h; refine Zz fun h=>?_
  subst h
  exact ⟨_,_,(.cons (.tmp rfl) .nil),(.all .here .nil),⟨_,rfl,⟨v61,ms62,rfl,rfl,O64⟩⟩⟩
def Z7g (p0:Z11) (p1:Int):Option (Z11) :=
 opt (Z3c p1) fun y2 =>
 opt (Z4g p0 y2) fun y8 =>
 some y8
theorem Zcz {W:World} {r:Z11} {p0:Z11} {p1:Int} {v0:Value} {M0:List Zc} {b:Nat} {T:TypeId} (h:Z7g p0 p1=some r) (h0:Sat W (b::M0.map (·.b)) (ck b T [.one (v0),.one (.int .i64 (p0.gfault))]::(M0 ++ [])) W) (O0:Z1n (El.int .u8) v0 M0 p0.gbytes) :
    Calls Tryd.prog 66 [.pointer (some ⟨b,0,none⟩),.int .u32 (p1)].toArray W (Zek W (b::M0.map (·.b)) (fun v Ms=>∃ (uw:Value) (Mw:List Zc),v = .tuple #[]∧Ms = [.one (ck b T [.one (uw),.one (.int .i64 (r.gfault))]),.all Mw]∧Z1n (El.int .u8) uw Mw r.gbytes)):=by
 unfold Z7g at h
 refine Z0t mo ok66 rfl h0 ?_
 refine oH h fun y2 ey2 h=>oH h fun y8 ey8 h=>Z2<|Z8 rfl<|Z8 rfl<|Zg (Z0j rfl (fun w hw=>Za6  ey2 ) fun v3 Msv3 R4=>?_)
 obtain ⟨_,ms6,rfl,rfl,O7⟩:=R4
 refine Zg (Z4s (mS:=_::M0) rfl (Zf3 (.app .here) (.app .here)) (fun w hw=>Z8y  ey8 (Zco hw (Zf3 (.app .here) (.app .here))) O0 ⟨(Z1x O7 .here) w hw,(Zla (Zfn (E:=(El.int .u8)) O7 .here .here hw) (Zgv (E:=(El.int .u8)) O7 .here (.there .here) hw))⟩) fun v9 Msv9 R10=>?_)
 obtain ⟨v11,ms12,rfl,rfl,O13⟩:=R10
 refine Z1 ?_
 revert h; refine Zz fun h=>?_
 subst h
 exact ⟨_,_,.nil,(.one .here (.all .here .nil)),⟨_,rfl,⟨v11,ms12,rfl,rfl,O13⟩⟩⟩
def Z6e (p0:Z11):Option ((List Int)×Int×Z11) :=
 br ((p0.gfault != 0)) (
 some ([],p0.gfault,p0)
 ) (
 chk (decide ((([]:List (Int)).length+p0.gbytes.length)*1≤140737488355328)) <|
 bnd (([]:List (Int))++p0.gbytes) fun l10 =>
 some (l10,0,p0)
 )
theorem Zcb {W:World} {r:(List Int)×Int×Z11} {p0:Z11} {v0:Value} {M0:List Zc} {b:Nat} {T:TypeId} (h:Z6e p0=some r) (h0:Sat W (b::M0.map (·.b)) (ck b T [.one (v0),.one (.int .i64 (p0.gfault))]::(M0 ++ [])) W) (O0:Z1n (El.int .u8) v0 M0 p0.gbytes) :
    Calls Tryd.prog 67 [.pointer (some ⟨b,0,none⟩)].toArray W (Zek W (b::M0.map (·.b)) (fun v Ms=>∃ (u0:Value) (M0:List Zc) (uw:Value) (Mw:List Zc),v = .tuple #[u0,.int .i64 (r.2.1)]∧Ms = [.all M0,.one (ck b T [.one (uw),.one (.int .i64 (r.2.2.gfault))]),.all Mw]∧Z1n (El.int .u8) u0 M0 r.1∧Z1n (El.int .u8) uw Mw r.2.2.gbytes)):=by
 unfold Z6e at h
 refine Z0t mo ok67 rfl h0 ?_
 refine Z0<|Z2<|Z8 rfl<|Z8 rfl<|Z1<|Z0<|Z0<|Z2<|Z8 rfl<|Z6 _ (Z5a rfl)<|Z6 _ (Z6c rfl)<|Z6 _ (Z2k rfl .here rfl)<|Z6 _ (Za rfl rfl rfl)<|Z1<|Z0l h rfl (fun h=>?_) (fun h=>?_)
 ·refine Z0<|Zu<|Z7 _ (Z19 rfl)<|Z7 _ (Z5a rfl)<|Z7 _ (Z6c rfl)<|Z7 _ (Z19 rfl)<|Zn _ (Z2k rfl .here rfl)<|Z7 _ (Z19 rfl)<|Z03<|Zk ?_
  revert h; refine Zz fun h=>?_
  subst h
  exact ⟨_,_,(.cons (.tmp rfl) (.cons (.tmp rfl) .nil)),(.no (.one .here (.all .here .nil))),⟨_,rfl,⟨(.slice none 0 0),[],v0,M0,rfl,rfl,Z8u,O0⟩⟩⟩
 ·refine Zl<|Z0<|cH h fun c9 h=>bH h fun l10 el10 h=>Z2<|Zg (Z9r (E:=(El.int .u8)) (xs:=[]) BdR.nil .nil rfl fun v6 ms7 O8=>Z8 rfl<|Z6 _ (Z5a rfl)<|Z6 _ (Z6c rfl)<|Z6 _ (Z2k rfl (.app .here) rfl)<|Zg (Zar (E:=(El.int .u8)) el10 rfl O8 .here rfl (Z1x O0 (.app (.there .here))) c9 fun v11 ms12 O13=>Z8 rfl<|Z8 rfl<|Z1<|Zk ?_))
  revert h; refine Zz fun h=>?_
  subst h
  exact ⟨_,_,(.cons (.tmp rfl) (.cons (.tmp rfl) .nil)),(.all .here (.one .here (.all .here .nil))),⟨_,rfl,⟨v11,ms12,v0,M0,rfl,rfl,O13,O0⟩⟩⟩
structure Zp where
  gEpoch:Int
  gKey:List Int
  gSig:List Int
def Z38:Zp:=⟨0,(List.replicate 32 0),(List.replicate 64 0)⟩
def Z7x (p0:Zp):Option ((Bool×List Int)) :=
 br (((decide (p0.gEpoch<1))||(decide (p0.gEpoch>64)))) (
 some (true,[])
 ) (
 opt (Z8a ) fun y7 =>
 opt (Ze5 11) fun y16 =>
 opt (Z3a y7 y16.2) fun y23 =>
 bnd (IntKind.wrap .u32 p0.gEpoch) fun z30 =>
 opt (Z7g y23 z30) fun y31 =>
 opt (Z3a y31 (tk p0.gKey 0 32)) fun y38 =>
 opt (Z6e y38) fun y45 =>
 chk (decide (0<y45.1.length)) <|
 some (false,y45.1)
 )
theorem Z9h {W:World} {r:(Bool×List Int)} {p0:Zp} (h:Z7x p0=some r)  :
    Calls Tryd.prog 29 [agg [.one (.int .i64 (p0.gEpoch)),.ints .u8 32 (p0.gKey),.ints .u8 64 (p0.gSig)]].toArray W (Zek W [] (fun v Ms=>∃ (u0:Value) (M0:List Zc),v=u0∧Ms = [.all M0]∧Z1n (El.int .u8) u0 M0 r.2∧Zj9 u0=r.1)):=by
 unfold Z7x at h
 refine Z0t mo ok29 rfl (Zih _) ?_
 refine Z0<|Z2<|Zg (Z14 (s:=[.one (.int .i64 (p0.gEpoch)),.ints .u8 32 (p0.gKey),.ints .u8 64 (p0.gSig)]) rfl fun b2 hb2=>Z8 rfl<|Z1<|Z0<|Z0<|Z2<|Z6 _ (Z6c rfl)<|Z6 _ (Z2k rfl .here rfl)<|Z6 _ (Za rfl rfl rfl)<|Z8 rfl<|Zf8 rfl rfl rfl (fun hg1=>Z45 rfl _ (Z6c rfl) (Z45 rfl _ (Z2k rfl .here rfl) (Z45 rfl _ (Za rfl rfl rfl) (Z3k)))) (fun hg1=>rfl) rfl<|Z1<|Z0l h rfl (fun h=>?_) (fun h=>?_))
 ·refine Z0<|Z2<|Z8 rfl<|Z1<|Zk ?_
  revert h; refine Zz fun h=>?_
  subst h
  exact ⟨_,_,(.cons (.tmp rfl) .nil),(.no .nil),⟨_,rfl,⟨(.slice none 0 0),[],rfl,rfl,Z8u,rfl⟩⟩⟩
 ·refine Zl<|Z0<|oH h fun y7 ey7 h=>Z2<|Zg (Z0j rfl (fun w hw=>Zdf  ey7 ) fun v8 Msv8 R9=>?_)
  obtain ⟨b10,T11,v12,ms13,rfl,rfl,O14⟩:=R9
  refine Z8 rfl<|Z1<|Z0<|oH h fun y16 ey16 h=>oH h fun y23 ey23 h=>Z2<|Z8 rfl<|Zg (Z0j rfl (fun w hw=>Zgq  ey16 ) fun v17 Msv17 R18=>?_)
  obtain ⟨_,ms20,rfl,rfl,O21,N22⟩:=R18
  refine Zg (Z4s (mS:=_::ms13) rfl (Zf3 (.app .here) (.app .here)) (fun w hw=>Z7m  ey23 (Zco hw (Zf3 (.app .here) (.app .here))) O14 ⟨(Z1x O21 .here) w hw,(Zla (Zfn (E:=(El.int .u8)) O21 .here .here hw) (Zgv (E:=(El.int .u8)) O21 .here (.there .here) hw))⟩) fun v24 Msv24 R25=>?_)
  obtain ⟨v26,ms27,rfl,rfl,O28⟩:=R25
  refine Z1<|Z0<|bH h fun z30 ez30 h=>oH h fun y31 ey31 h=>Z2<|Z8 rfl<|Z6 _ (Z6c rfl)<|Z6 _ (Z2k rfl (.there (.app (.app .here))) rfl)<|Z6 _ (iz ez30 (Z8n rfl))<|Zg (Z4s (mS:=_::ms27) rfl (Zf3 .here .here) (fun w hw=>Zcz  ey31 (Zco hw (Zf3 .here .here)) O28) fun v32 Msv32 R33=>?_)
  obtain ⟨v34,ms35,rfl,rfl,O36⟩:=R33
  refine Z1<|Z0<|oH h fun y38 ey38 h=>Z2<|Z8 rfl<|Z6 _ (Z6c rfl)<|Z6 _ (Z90 rfl .no .no .no (by simp) (by decide))<|Zg (Z4s (mS:=_::ms35) rfl (Zf3 .here .here) (fun w hw=>Z7m  ey38 (Zco hw (Zf3 .here .here)) O36 ⟨(Z1z (s:=[.one (.int .i64 (p0.gEpoch)),.ints .u8 32 (p0.gKey),.ints .u8 64 (p0.gSig)]) (N:=32) (k:=.u8) (base:=1) (lo:=0) (hi:=32) (mz:=32) (.there (.app (.app .here))) rfl (by decide)) w hw,(Zla (Zmm (.there (.app (.app .here))) .here hw Zc9) (Zmn (.there (.app (.app .here))) (.there .here) hw Zc9))⟩) fun v39 Msv39 R40=>?_)
  obtain ⟨v41,ms42,rfl,rfl,O43⟩:=R40
  refine Z1<|Z0<|oH h fun y45 ey45 h=>Z2<|Z8 rfl<|Zg (Z4s (mS:=_::ms42) rfl (Zf3 .here .here) (fun w hw=>Zcb  ey45 (Zco hw (Zf3 .here .here)) O43) fun v46 Msv46 R47=>?_)
  obtain ⟨v48,ms49,v51,ms52,rfl,rfl,O50,O53⟩:=R47
  refine Z8 rfl<|Z6 _ (Z1j rfl rfl)<|Z6 _ (Z1j rfl rfl)<|Z8 rfl<|Z8 rfl<|Z1<|Z0<|Z2<|Z8 rfl<|Z8 rfl<|Z1<|Zk<|cH h fun c55 h=>?_
  revert h; refine Zz fun h=>?_
  subst h
  exact ⟨_,_,(.cons (.tmp rfl) .nil),(.all .here .nil),⟨_,rfl,⟨v48,ms49,rfl,rfl,O50,(Shp.notnil (Shp.own O50) c55)⟩⟩⟩
def Z4t (p0:List Int) (p1:Int) (p2:List Int):Option (Zp×Bool) :=
 opt (Z7x (⟨p1,p2,(List.replicate 64 0)⟩:Zp)) fun y8 =>
 br (y8.1) (
 some ((⟨0,(List.replicate 32 0),(List.replicate 64 0)⟩:Zp),false)
 ) (
 opt (Z8p p0 y8.2) fun y19 =>
 some ((⟨p1,p2,y19⟩:Zp),true)
 )
theorem Zbb {W:World} {r:Zp×Bool} {p0:List Int} {p1:Int} {p2:List Int} (h:Z4t p0 p1 p2=some r) (hG:Globs W) :
    Calls Tryd.prog 28 [agg [.ints .u8 32 (p0)],.int .i64 (p1),agg [.ints .u8 32 (p2)]].toArray W (Z56 W (.tuple #[agg [.one (.int .i64 (r.1.gEpoch)),.ints .u8 32 (r.1.gKey),.ints .u8 64 (r.1.gSig)],.bool (r.2)])):=by
 unfold Z4t at h
 refine Zd mo ok28 rfl ?_
 refine Z0<|Z2<|Zg (Z14 (s:=[.ints .u8 32 (p0)]) rfl fun b2 hb2=>Zg (Z14 (s:=[.ints .u8 32 (p2)]) rfl fun b3 hb3=>Zg (Zw fun b4 hb4=>Z8 rfl<|Z1<|Z0<|Z2<|Z8 rfl<|Z6 _ (Z02 (p:=[.ints .u8 32 (p2)]) rfl (.there .here) rfl)<|Z6 _ (Zdx (q:=[.one (.int .i64 (p1)),.ints .u8 32 (p2),.ints .u8 64 ((List.replicate 64 0))]) (.one rfl rfl rfl (.agg rfl rfl rfl BdR.nil)))<|Zg (Zw fun b6 hb6=>Zg (Zs (q:=[.one (.int .i64 (p1)),.ints .u8 32 (p2),.ints .u8 64 ((List.replicate 64 0))]) rfl rfl rfl rfl rfl .here<|Z1<|Z0<|oH h fun y8 ey8 h=>Z2<|Z6 _ (Z02 (p:=[.one (.int .i64 (p1)),.ints .u8 32 (p2),.ints .u8 64 ((List.replicate 64 0))]) rfl .here rfl)<|Zg (Z0j rfl (fun w hw=>Z9h (p0:=(⟨p1,p2,(List.replicate 64 0)⟩:Zp)) ey8 ) fun v9 Msv9 R10=>?_))))))
 obtain ⟨_,ms12,rfl,rfl,O13,N14⟩:=R10
 refine Z8 rfl<|Z1<|Z0<|Z0<|Z2<|Z8 rfl<|Z6 _ (Zpf rfl (Shp.own O13) N14)<|Z1<|Z0l h rfl (fun h=>?_) (fun h=>?_)
 ·refine Z0<|Z2<|Z6 _ (Zdx (q:=[.one (.int .i64 (0)),.ints .u8 32 ((List.replicate 32 0)),.ints .u8 64 ((List.replicate 64 0))]) BdR.nil)<|Zg (Zs (q:=[.one (.int .i64 (0)),.ints .u8 32 ((List.replicate 32 0)),.ints .u8 64 ((List.replicate 64 0))]) rfl rfl rfl rfl rfl (.app (.there .here))<|Z8 rfl<|Z1<|Zk ?_)
  revert h; refine Zz fun h=>?_
  subst h
  exact ⟨_,(.cons (.agg rfl (.app (.there .here)) rfl) (.cons (.tmp rfl) .nil)),rfl⟩
 ·refine Zl<|Z0<|oH h fun y19 ey19 h=>Z2<|Z6 _ (Z02 (p:=[.ints .u8 32 (p0)]) rfl (.app (.there (.there (.there .here)))) rfl)<|Z8 rfl<|Z6 _ (Z0m rfl (fun w hw=>Zd5 ey19 (hG.at hw (by simp)) ((Z1x O13 .here) w hw)))<|Z6 _ (Z6c rfl)<|Zg (Zs (q:=[.one (.int .i64 (p1)),.ints .u8 32 (p2),.ints .u8 64 (y19)]) rfl rfl rfl rfl rfl (.app .here)<|Z1<|Z0<|Z2<|Z6 _ (Z02 (p:=[.one (.int .i64 (p1)),.ints .u8 32 (p2),.ints .u8 64 (y19)]) rfl (.app .here) rfl)<|Zg (Zs (q:=[.one (.int .i64 (p1)),.ints .u8 32 (p2),.ints .u8 64 (y19)]) rfl rfl rfl rfl rfl (.app (.there .here))<|Z8 rfl<|Z1<|Zk ?_))
  revert h; refine Zz fun h=>?_
  subst h
  exact ⟨_,(.cons (.agg rfl (.app (.there .here)) rfl) (.cons (.tmp rfl) .nil)),rfl⟩
abbrev E_a32_El_int_u8:El (List Int):=⟨32,fun x=>cells [.ints .u8 32 (x)],fun x=>by rw [cells_length]; rfl,fun x=>(Z3e Z8l Z89),by decide,(List.replicate 32 0)⟩
abbrev Z5x:El (Zp):=⟨97,fun x=>cells [.one (.int .i64 (x.gEpoch)),.ints .u8 32 (x.gKey),.ints .u8 64 (x.gSig)],fun x=>by rw [cells_length]; rfl,fun x=>(Z3e (Zrn rfl) (Z3e Z8l (Z3e Z8l Z89))),by decide,Z38⟩
def Z16 (l1083:List (List Int)) (y1191:(List Int)) (k1218:(Bool)→Option ((List Int)×(List (Zp))×Bool)) (k1234:(Bool)→(Int)→Option ((List Int)×(List (Zp))×Bool)) (i1232:Bool) (i1233:Int):Option ((List Int)×(List (Zp))×Bool) :=
 br ((decide (i1233<(l1083.length:Int)))) (
 chk (imp i1232 (inB i1233 l1083.length)) <|
 bnd (IntKind.wrap .i64 (i1233+1)) fun z1241 =>
 k1234 (i1232&&(!(ieq 32 (l1083.getD (i1233).toNat (List.replicate 32 0)) y1191))) z1241
 ) (
 k1218 i1232
 )
def Z17 (l1083:List (List Int)) (y1191:(List Int)) (k1218:(Bool)→Option ((List Int)×(List (Zp))×Bool)):Nat→(Bool)→(Int)→Option ((List Int)×(List (Zp))×Bool)
  | 0,_,_=>none
  | n+1,i1232,i1233=>Z16 l1083 y1191 k1218 (Z17 l1083 y1191 k1218 n) i1232 i1233
def Z15 (l8:List (List Int)) (k648:(List (Zp))→(Bool)→(List Int)→Option ((List Int)×(List (Zp))×Bool)) (k1092:(List (List Int))→(Int)→(List Int)→(List (Zp))→(Bool)→Option ((List Int)×(List (Zp))×Bool)) (l1083:List (List Int)) (i1085:Int) (a1086:List Int) (l1089:List (Zp)) (i1091:Bool):Option ((List Int)×(List (Zp))×Bool) :=
 br ((decide (i1085<(l8.length:Int)))) (
 jn (fun (l1179:List (Zp)) (l1183:List (List Int)) (i1185:Bool) (a1186:List Int)=>bnd (IntKind.wrap .i64 (i1085+1)) fun z1270 =>
 k1092 l1183 z1270 a1186 l1179 i1185) fun k1187=>chk (inB i1085 l8.length) <|
 bnd (l8.getD (i1085).toNat (List.replicate 32 0)) fun x1190 =>
 opt (Z4w x1190) fun y1191 =>
 jn (fun (i1217:Bool)=>chk (decide ((l1083.length+([y1191]:List (List Int)).length)*32≤140737488355328)) <|
 bnd (l1083++([y1191]:List (List Int))) fun l1247 =>
 br ((i1085==0)) (
 k1187 l1089 l1247 i1217 y1191
 ) (
 bnd (IntKind.wrap .i64 (i1085-1)) fun z1255 =>
 chk (inB z1255 l8.length) <|
 bnd (l8.getD (z1255).toNat (List.replicate 32 0)) fun x1257 =>
 opt (Z4t x1257 i1085 y1191) fun y1258 =>
 chk (decide ((l1089.length+([y1258.1]:List (Zp)).length)*104≤140737488355328)) <|
 bnd (l1089++([y1258.1]:List (Zp))) fun l1265 =>
 k1187 l1265 l1247 i1217 a1086
 )) fun k1218=>Z17 l1083 y1191 k1218 big i1091 0
 ) (
 k648 l1089 i1091 a1086
 )
def Z0p (l8:List (List Int)) (k648:(List (Zp))→(Bool)→(List Int)→Option ((List Int)×(List (Zp))×Bool)):Nat→(List (List Int))→(Int)→(List Int)→(List (Zp))→(Bool)→Option ((List Int)×(List (Zp))×Bool)
  | 0,_,_,_,_,_=>none
  | n+1,l1083,i1085,a1086,l1089,i1091=>Z15 l8 k648 (Z0p l8 k648 n) l1083 i1085 a1086 l1089 i1091
def Z34 (p0:List (List Int)):Option ((List Int)×(List (Zp))×Bool) :=
 jn (fun (l8:List (List Int))=>jn (fun (l644:List (Zp)) (i646:Bool) (a647:List Int)=>some (a647,l644,i646)) fun k648=>Z0p l8 k648 big [] 0 (List.replicate 32 0) [] true) fun k10=>br ((decide ((p0.length:Int)>9))) (
 chk (Zge 0 9 p0.length) <|
 k10 ((p0.drop 0).take (9-0))
 ) (
 k10 p0
 )
theorem Z9y {W:World} {r:(List Int)×(List (Zp))×Bool} {p0:List (List Int)} {v0:Value} (h:Z34 p0=some r) (hG:Globs W) (A0:RdSl E_a32_El_int_u8 W v0 p0) :
    Calls Tryd.prog 13 [v0].toArray W (Zek W [] (fun v Ms=>∃ (u1:Value) (M1:List Zc),v = .tuple #[agg [.ints .u8 32 (r.1)],u1,.bool (r.2.2)]∧Ms = [.all M1]∧Z1n Z5x u1 M1 r.2.1)):=by
 unfold Z34 at h
 refine Z0t mo ok13 rfl (Zih _) ?_
 refine Z0<|Z2<|Zg (Zw fun b2 hb2=>Z8 rfl<|Z8 rfl<|Z1<|Z0<|Z0<|Z2<|Z8 rfl<|Z6 _ (Z2i rfl (Shp.rd A0))<|Z6 _ (Za rfl rfl rfl)<|Z1<|jH h fun k10 qk10 h=>Zo (G:=fun t m=>∃ (l8:List (List Int)) (v7:Value),k10 l8=some r∧RdSl E_a32_El_int_u8 W v7 l8∧Fit [(0,v7),(2,.pointer (some ⟨b2,0,none⟩))] (ck b2 27 [.ints .u8 32 ((List.replicate 32 0))] :: []) t m) ?_ ?_)
 ·refine Z0l h rfl (fun h=>?_) (fun h=>?_)
  ·exact cH h fun c13 h=>Z2<|Z8 rfl<|Z6 _ (Zjp (lz:=0) (hz:=9) rfl (Shp.rd A0) .no (.yes rfl) c13)<|Z8 rfl<|Z1<|⟨((p0.drop 0).take (9-0)),(Zbk 32 v0 0 9),h,(Zvq A0 (lz:=0) (hz:=9) c13),⟨⟨rfl,rfl,trivial⟩,(.one .here .nil)⟩⟩
  ·exact Zl<|⟨p0,v0,h,A0,⟨⟨rfl,rfl,trivial⟩,(.one .here .nil)⟩⟩
 ·rintro t m ⟨l8,v7,h,A9,hF⟩
  refine Zm hF ?_
  clear hF
  subst qk10
  refine Z0<|Z2<|Zg (Zw fun b15 hb15=>Z1<|Z0<|Z2<|Z8 rfl<|Z1<|Z0<|Z2<|Z8 rfl<|Z1<|Z0<|Z2<|Z8 rfl<|Z1<|Z0<|Z0<|Z2<|Z8 rfl<|Z1<|jH h fun k648 qk648 h=>Zo (G:=fun t m=>∃ (l644:List (Zp)) (i646:Bool) (a647:List Int) (v642:Value) (ms643:List Zc),k648 l644 i646 a647=some r∧Z1n Z5x v642 ms643 l644∧Fit [(2,.pointer (some ⟨b2,0,none⟩)),(5,.pointer (some ⟨b15,0,none⟩)),(6,v642),(8,.bool (i646))] (ck b15 27 [.ints .u8 32 (a647)]::(ck b2 27 [.ints .u8 32 ((List.replicate 32 0))]::(ms643 ++ []))) t m) ?_ ?_)
  ·refine Zb<|Z01 (fun n1093 t m=>∃ (l1083:List (List Int)) (i1085:Int) (a1086:List Int) (l1089:List (Zp)) (i1091:Bool) (v1081:Value) (ms1082:List Zc) (v1087:Value) (ms1088:List Zc),Z0p l8 k648 n1093 l1083 i1085 a1086 l1089 i1091=some r∧Z1n E_a32_El_int_u8 v1081 ms1082 l1083∧Z1n Z5x v1087 ms1088 l1089∧Fit [(0,v7),(2,.pointer (some ⟨b2,0,none⟩)),(5,.pointer (some ⟨b15,0,none⟩)),(6,v1087),(7,v1081),(8,.bool (i1091)),(9,.int .i64 (i1085))] (ck b15 27 [.ints .u8 32 (a1086)]::(ck b2 27 [.ints .u8 32 ((List.replicate 32 0))]::(ms1088++(ms1082 ++ [])))) t m) big ?_ ?_
   ·exact ⟨[],0,(List.replicate 32 0),[],true,(.slice none 0 0),[],(.slice none 0 0),[],h,Z8u,Z8u,⟨⟨rfl,rfl,rfl,rfl,rfl,rfl,rfl,trivial⟩,(.one .here (.one .here (.no (.no .nil))))⟩⟩
   ·rintro n1093 t m ⟨l1083,i1085,a1086,l1089,i1091,v1081,ms1082,v1087,ms1088,h,O1084,O1090,hF⟩
    refine Zm hF ?_
    clear hF
    rcases n1093 with _ | n1093
    · exact Z1c h
    have h:Z15 l8 k648 (Z0p l8 k648 n1093) l1083 i1085 a1086 l1089 i1091=some r:=h
    unfold Z15 at h
    obtain ⟨k1092,qk1092⟩ : ∃ k,k=Z0p l8 k648 n1093:=⟨_,rfl⟩
    try rw [← qk1092] at h
    refine Z0<|Z0<|Z2<|Z8 rfl<|Z8 rfl<|Z6 _ (Z2i rfl (Shp.rd A9))<|Z6 _ (Za rfl rfl rfl)<|Z1<|Z0l h rfl (fun h=>?_) (fun h=>?_)
    ·refine Zl<|Z0<|jH h fun k1187 qk1187 h=>Zo (G:=fun t m=>∃ (l1179:List (Zp)) (l1183:List (List Int)) (i1185:Bool) (a1186:List Int) (v1177:Value) (ms1178:List Zc) (v1181:Value) (ms1182:List Zc),k1187 l1179 l1183 i1185 a1186=some r∧Z1n Z5x v1177 ms1178 l1179∧Z1n E_a32_El_int_u8 v1181 ms1182 l1183∧Fit [(0,v7),(2,.pointer (some ⟨b2,0,none⟩)),(5,.pointer (some ⟨b15,0,none⟩)),(6,v1177),(7,v1181),(8,.bool (i1185)),(9,.int .i64 (i1085))] (ck b15 27 [.ints .u8 32 (a1186)]::(ck b2 27 [.ints .u8 32 ((List.replicate 32 0))]::(ms1178++(ms1182 ++ [])))) t m) ?_ ?_
     ·refine Zb<|Z0<|cH h fun c1189 h=>bH h fun x1190 ex1190 h=>oH h fun y1191 ey1191 h=>Z2<|Z8 rfl<|Z8 rfl<|Z6 _ (Z4m rfl rfl (Shp.rd A9) c1189)<|Z6 _ (az (fun (x1190:List Int)=>agg [.ints .u8 32 (x1190)]) ex1190 (Zba (E:=E_a32_El_int_u8) (s:=[.ints .u8 32 ((l8.getD (i1085).toNat (List.replicate 32 0)))]) rfl (Z2a A9 Z2m) (Z18 c1189) rfl rfl))<|Z6 _ (Z0m rfl (fun w hw=>Zbf ey1191 (hG.at hw (by simp))))<|Zg (Zw fun b1192 hb1192=>Zg (Zs (q:=[.ints .u8 32 (y1191)]) rfl rfl rfl rfl rfl .here<|Z1<|Z0<|Z0<|Z2<|Z8 rfl<|Z1<|jH h fun k1218 qk1218 h=>Zo (G:=fun t m=>∃ (i1217:Bool),k1218 i1217=some r∧Fit [(0,v7),(2,.pointer (some ⟨b2,0,none⟩)),(5,.pointer (some ⟨b15,0,none⟩)),(6,v1087),(7,v1081),(8,.bool (i1217)),(9,.int .i64 (i1085)),(10,.pointer (some ⟨b1192,0,none⟩))] (ck b1192 27 [.ints .u8 32 (y1191)]::(ck b15 27 [.ints .u8 32 (a1086)]::(ck b2 27 [.ints .u8 32 ((List.replicate 32 0))]::(ms1088++(ms1082 ++ []))))) t m) ?_ ?_))
      ·refine Zb<|Z01 (fun n1235 t m=>∃ (i1232:Bool) (i1233:Int),Z17 l1083 y1191 k1218 n1235 i1232 i1233=some r∧Fit [(0,v7),(2,.pointer (some ⟨b2,0,none⟩)),(5,.pointer (some ⟨b15,0,none⟩)),(6,v1087),(7,v1081),(8,.bool (i1232)),(9,.int .i64 (i1085)),(10,.pointer (some ⟨b1192,0,none⟩)),(11,.int .i64 (i1233))] (ck b1192 27 [.ints .u8 32 (y1191)]::(ck b15 27 [.ints .u8 32 (a1086)]::(ck b2 27 [.ints .u8 32 ((List.replicate 32 0))]::(ms1088++(ms1082 ++ []))))) t m) big ?_ ?_
       ·exact ⟨i1091,0,h,⟨⟨rfl,rfl,rfl,rfl,rfl,rfl,rfl,rfl,rfl,trivial⟩,(.one .here (.one .here (.one .here (.all .here (.all .here .nil)))))⟩⟩
       ·rintro n1235 t m ⟨i1232,i1233,h,hF⟩
        refine Zm hF ?_
        clear hF
        rcases n1235 with _ | n1235
        · exact Z1c h
        have h:Z16 l1083 y1191 k1218 (Z17 l1083 y1191 k1218 n1235) i1232 i1233=some r:=h
        unfold Z16 at h
        obtain ⟨k1234,qk1234⟩ : ∃ k,k=Z17 l1083 y1191 k1218 n1235:=⟨_,rfl⟩
        try rw [← qk1234] at h
        refine Z0<|Z0<|Z2<|Z8 rfl<|Z8 rfl<|Z6 _ (Z2i rfl (Shp.own O1084))<|Z6 _ (Za rfl rfl rfl)<|Z1<|Z0l h rfl (fun h=>?_) (fun h=>?_)
        ·refine Zl<|Z0<|Zb<|cH h fun c1239 h=>Zu<|Z7 _ (Z19 rfl)<|Z7 _ (Z19 rfl)<|Z02e rfl rfl rfl (fun hg1=>Z45 rfl _ (Z19 rfl) (Z45 rfl _ (Z19 rfl) (Z45 rfl _ (Z4m rfl rfl (Shp.own O1084) (Zhy c1239 hg1)) (Z45 rfl _ (az (fun (zz:List Int)=>agg [.ints .u8 32 (zz)]) rfl (Zba (E:=E_a32_El_int_u8) (s:=[.ints .u8 32 ((l1083.getD (i1233).toNat (List.replicate 32 0)))]) rfl (Z1x O1084 (.there (.there (.there (.app .here))))) (Z18 (Zhy c1239 hg1)) rfl rfl)) (Z45 rfl _ (Z02 (p:=[.ints .u8 32 (y1191)]) rfl .here rfl) (Z45 rfl _ (Zgo rfl rfl rfl rfl _ (Z88 Z87)) (Z3k))))))) (fun hg1=>rfl) rfl<|Z7 _ (Z19 rfl)<|Z03<|bH h fun z1241 ez1241 h=>Z2<|Z8 rfl<|Z6 _ (iz ez1241 (Za rfl rfl rfl))<|Z8 rfl<|Z1 ?_
         rw [qk1234] at h
         exact ⟨n1235,Nat.lt_succ_self _,(i1232&&(!(ieq 32 (l1083.getD (i1233).toNat (List.replicate 32 0)) y1191))),z1241,h,⟨⟨rfl,rfl,rfl,rfl,rfl,rfl,rfl,rfl,rfl,trivial⟩,(.one .here (.one .here (.one .here (.all .here (.all .here .nil)))))⟩⟩
        ·exact Z0b _ rfl<|⟨i1232,h,⟨⟨rfl,rfl,rfl,rfl,rfl,rfl,rfl,rfl,trivial⟩,(.one .here (.one .here (.one .here (.all .here (.all .here .nil)))))⟩⟩
      ·rintro t m ⟨i1217,h,hF⟩
       refine Zm hF ?_
       clear hF
       subst qk1218
       refine Z0<|cH h fun c1246 h=>bH h fun l1247 el1247 h=>Z2<|Z8 rfl<|Z6 _ (Z02 (p:=[.ints .u8 32 (y1191)]) rfl .here rfl)<|Zg (Z9r (E:=E_a32_El_int_u8) (xs:=[y1191]) (.agg rfl rfl rfl BdR.nil) (.cons (p:=[.ints .u8 32 (y1191)]) rfl .nil) rfl fun v1243 ms1244 O1245=>Zg (Zar (E:=E_a32_El_int_u8) el1247 rfl O1084 (.app (.there (.there (.there (.app .here))))) rfl (Z1x O1245 .here) c1246 fun v1248 ms1249 O1250=>Z8 rfl<|Z1<|Z0<|Z0<|Z2<|Z8 rfl<|Z6 _ (Za rfl rfl rfl)<|Z1<|Z0l h rfl (fun h=>?_) (fun h=>?_)))
       ·exact Z0<|Z2<|Z6 _ (Z02 (p:=[.ints .u8 32 (y1191)]) rfl (.app (.app .here)) rfl)<|Zg (Zs (q:=[.ints .u8 32 (y1191)]) rfl rfl rfl rfl rfl (.app (.app (.there .here)))<|Z1<|Z0b _ rfl<|⟨l1089,l1247,i1217,y1191,v1087,ms1088,v1248,ms1249,h,O1090,O1250,⟨⟨rfl,rfl,rfl,rfl,rfl,rfl,rfl,trivial⟩,(.one (.app (.app (.there .here))) (.one (.app (.app (.there .here))) (.all (.app (.app (.there .here))) (.all .here .nil))))⟩⟩)
       ·exact Zl<|Z0<|bH h fun z1255 ez1255 h=>cH h fun c1256 h=>bH h fun x1257 ex1257 h=>oH h fun y1258 ey1258 h=>Zu<|Z7 _ (Z19 rfl)<|Z7 _ (Z19 rfl)<|Z7 _ (iz ez1255 (Za rfl rfl rfl))<|Z7 _ (Z4m rfl rfl (Shp.rd A9) c1256)<|Z7 _ (Z19 rfl)<|Zn _ (az (fun (x1257:List Int)=>agg [.ints .u8 32 (x1257)]) ex1257 (Zba (E:=E_a32_El_int_u8) (s:=[.ints .u8 32 ((l8.getD (z1255).toNat (List.replicate 32 0)))]) rfl (Z2a A9 Z2m) (Z18 c1256) rfl rfl))<|Zn _ (Z02 (p:=[.ints .u8 32 (y1191)]) rfl (.app (.app .here)) rfl)<|Z7 _ (Z0m rfl (fun w hw=>Zbb ey1258 (hG.at hw (by simp))))<|Z7 _ (Z19 rfl)<|Z7 _ (Z1j rfl rfl)<|Z7 _ (Z1j rfl rfl)<|Z7h (Zw fun b1259 hb1259=>⟨(by repeat (first | exact Sup.refl _ | apply Sup.cons | apply Sup.app)),Z2h rfl (Zs (q:=[.one (.int .i64 (y1258.1.gEpoch)),.ints .u8 32 (y1258.1.gKey),.ints .u8 64 (y1258.1.gSig)]) rfl rfl rfl rfl rfl .here (Z7 _ (Z19 rfl) (Z03 (cH h fun c1264 h=>bH h fun l1265 el1265 h=>Z2 (Z8 rfl (Z6 _ (Z02 (p:=[.one (.int .i64 (y1258.1.gEpoch)),.ints .u8 32 (y1258.1.gKey),.ints .u8 64 (y1258.1.gSig)]) rfl .here rfl) (Zg (Z9r (E:=Z5x) (xs:=[y1258.1]) (.agg rfl rfl rfl BdR.nil) (.cons (p:=[.one (.int .i64 (y1258.1.gEpoch)),.ints .u8 32 (y1258.1.gKey),.ints .u8 64 (y1258.1.gSig)]) rfl .nil) rfl fun v1261 ms1262 O1263=>Zg (Zar (E:=Z5x) el1265 rfl O1090 (.app (.there (.app (.app (.there (.there (.there .here))))))) rfl (Z1x O1263 .here) c1264 fun v1266 ms1267 O1268=>Z8 rfl (Z1 (⟨l1265,l1247,i1217,a1086,v1266,ms1267,v1248,ms1249,h,O1268,O1250,⟨⟨rfl,rfl,rfl,rfl,rfl,rfl,rfl,trivial⟩,(.one (.app (.app (.there (.app (.app (.there .here)))))) (.one (.app (.app (.there (.app (.app (.there .here)))))) (.all .here (.all (.app (.there .here)) .nil))))⟩⟩)))))))))))⟩)
     ·rintro t m ⟨l1179,l1183,i1185,a1186,v1177,ms1178,v1181,ms1182,h,O1180,O1184,hF⟩
      refine Zm hF ?_
      clear hF
      subst qk1187
      refine bH h fun z1270 ez1270 h=>Z2<|Z8 rfl<|Z6 _ (iz ez1270 (Za rfl rfl rfl))<|Z8 rfl<|Z1 ?_
      rw [qk1092] at h
      exact ⟨n1093,Nat.lt_succ_self _,l1183,z1270,a1186,l1179,i1185,v1181,ms1182,v1177,ms1178,h,O1184,O1180,⟨⟨rfl,rfl,rfl,rfl,rfl,rfl,rfl,trivial⟩,(.one .here (.one .here (.all .here (.all .here .nil))))⟩⟩
    ·exact Z0b _ rfl<|⟨l1089,i1091,a1086,v1087,ms1088,h,O1090,⟨⟨rfl,rfl,rfl,rfl,trivial⟩,(.one .here (.one .here (.all .here .nil)))⟩⟩
  ·rintro t m ⟨l644,i646,a647,v642,ms643,h,O645,hF⟩
   refine Zm hF ?_
   clear hF
   subst qk648
   refine Z0<|Z2<|Z6 _ (Z02 (p:=[.ints .u8 32 (a647)]) rfl .here rfl)<|Z8 rfl<|Z8 rfl<|Zg (Zs (q:=[.ints .u8 32 (a647)]) rfl rfl rfl rfl rfl (.there .here)<|Z8 rfl<|Z8 rfl<|Z1<|Zk ?_)
   revert h; refine Zz fun h=>?_
   subst h
   exact ⟨_,_,(.cons (.agg rfl (.there .here) rfl) (.cons (.tmp rfl) (.cons (.tmp rfl) .nil))),(.all (.there (.there .here)) .nil),⟨_,rfl,⟨v642,ms643,rfl,rfl,O645⟩⟩⟩
def Z49 (p0:List Int):Option (Bool) :=
 opt (Z26 p0) fun y4 =>
 opt (Z7s y4) fun y5 =>
 some (ieq 32 y5 p0)
theorem Zcv {W:World} {r:Bool} {p0:List Int} (h:Z49 p0=some r)  :
    Calls Tryd.prog 32 [agg [.ints .u8 32 (p0)]].toArray W (Z56 W (.bool (r))):=by
 unfold Z49 at h
 refine Zd mo ok32 rfl ?_
 refine Z0<|Z2<|Zg (Z14 (s:=[.ints .u8 32 (p0)]) rfl fun b2 hb2=>Z8 rfl<|Z1<|Z0<|oH h fun y4 ey4 h=>oH h fun y5 ey5 h=>Zu<|Zn _ (Z02 (p:=[.ints .u8 32 (p0)]) rfl .here rfl)<|Z7 _ (Z1a rfl (Z44 ey4))<|Z7 _ (Z1a rfl (Zb5 ey5))<|Zn _ (Z02 (p:=[.ints .u8 32 (p0)]) rfl .here rfl)<|Z7 _ (Zgo rfl rfl rfl rfl _ (Z88 Z87))<|Z7 _ (Z19 rfl)<|Z03<|Zk ?_)
 revert h; refine Zz fun h=>?_
 subst h
 exact ⟨_,(.cons (.tmp rfl) .nil),rfl⟩
def Z3r (p0:List Int):Option (Bool) :=
 opt (Z0v p0) fun y4 =>
 bnd (([0,0,0,0,0]:List Int)) fun z5 =>
 some (ieq 5 y4 z5)
theorem Z7t {W:World} {r:Bool} {p0:List Int} (h:Z3r p0=some r)  :
    Calls Tryd.prog 41 [agg [.ints .u64 5 (p0)]].toArray W (Z56 W (.bool (r))):=by
 unfold Z3r at h
 refine Zd mo ok41 rfl ?_
 refine Z0<|Z2<|Zg (Z14 (s:=[.ints .u64 5 (p0)]) rfl fun b2 hb2=>Z8 rfl<|Z1<|Z0<|oH h fun y4 ey4 h=>bH h fun z5 ez5 h=>Z2<|Z6 _ (Z02 (p:=[.ints .u64 5 (p0)]) rfl .here rfl)<|Z6 _ (Z1a rfl (Z0e ey4))<|Z6 _ (az (fun z=>agg [.ints .u64 5 z]) ez5 (Zdx BdR.nil))<|Z6 _ (Zgo rfl rfl rfl rfl _ (Z88 Z87))<|Z8 rfl<|Z1<|Zk ?_)
 revert h; refine Zz fun h=>?_
 subst h
 exact ⟨_,(.cons (.tmp rfl) .nil),rfl⟩
def Z6g (p0:List Int) (p1:List Int):Option (Bool) :=
 opt (Z0v p0) fun y5 =>
 opt (Z0v p1) fun y6 =>
 some (ieq 5 y5 y6)
theorem Zb6 {W:World} {r:Bool} {p0:List Int} {p1:List Int} (h:Z6g p0 p1=some r)  :
    Calls Tryd.prog 73 [agg [.ints .u64 5 (p0)],agg [.ints .u64 5 (p1)]].toArray W (Z56 W (.bool (r))):=by
 unfold Z6g at h
 refine Zd mo ok73 rfl ?_
 refine Z0<|Z2<|Zg (Z14 (s:=[.ints .u64 5 (p0)]) rfl fun b2 hb2=>Zg (Z14 (s:=[.ints .u64 5 (p1)]) rfl fun b3 hb3=>Z8 rfl<|Z1<|Z0<|oH h fun y5 ey5 h=>oH h fun y6 ey6 h=>Zu<|Zn _ (Z02 (p:=[.ints .u64 5 (p0)]) rfl (.there .here) rfl)<|Z7 _ (Z1a rfl (Z0e ey5))<|Zn _ (Z02 (p:=[.ints .u64 5 (p1)]) rfl .here rfl)<|Z7 _ (Z1a rfl (Z0e ey6))<|Z7 _ (Zgo rfl rfl rfl rfl _ (Z88 Z87))<|Z7 _ (Z19 rfl)<|Z03<|Zk ?_))
 revert h; refine Zz fun h=>?_
 subst h
 exact ⟨_,(.cons (.tmp rfl) .nil),rfl⟩
def Z6s (p0:Bool) (p1:List Int) (p2:List Int):OL :=
 br (p0) (
 opt (Z0v p1) fun y8 =>
 some y8
 ) (
 opt (Z0v p2) fun y10 =>
 some y10
 )
theorem Zee {W:World} {r:(List Int)} {p0:Bool} {p1:List Int} {p2:List Int} (h:Z6s p0 p1 p2=some r)  :
    Calls Tryd.prog 75 [.bool (p0),agg [.ints .u64 5 (p1)],agg [.ints .u64 5 (p2)]].toArray W (Z56 W (agg [.ints .u64 5 (r)])):=by
 unfold Z6s at h
 refine Zd mo ok75 rfl ?_
 refine Z0<|Z2<|Zg (Z14 (s:=[.ints .u64 5 (p1)]) rfl fun b2 hb2=>Zg (Z14 (s:=[.ints .u64 5 (p2)]) rfl fun b3 hb3=>Zg (Zw fun b4 hb4=>Z1<|Z0<|Z0<|Z2<|Z8 rfl<|Z1<|Z0l h rfl (fun h=>?_) (fun h=>?_))))
 ·refine Z0<|oH h fun y8 ey8 h=>Z2<|Z6 _ (Z02 (p:=[.ints .u64 5 (p1)]) rfl (.there (.there .here)) rfl)<|Z6 _ (Z1a rfl (Z0e ey8))<|Zg (Zs (q:=[.ints .u64 5 (y8)]) rfl rfl rfl rfl rfl .here<|Z1<|Zk ?_)
  revert h; refine Zz fun h=>?_
  subst h
  exact ⟨_,(.cons (.agg rfl .here rfl) .nil),rfl⟩
 ·refine Zl<|Z0<|oH h fun y10 ey10 h=>Z2<|Z6 _ (Z02 (p:=[.ints .u64 5 (p2)]) rfl (.there .here) rfl)<|Z6 _ (Z1a rfl (Z0e ey10))<|Zg (Zs (q:=[.ints .u64 5 (y10)]) rfl rfl rfl rfl rfl .here<|Z1<|Zk ?_)
  revert h; refine Zz fun h=>?_
  subst h
  exact ⟨_,(.cons (.agg rfl .here rfl) .nil),rfl⟩
def Z5j (p0:List Int) (p1:List Int):Option ((List Int)×Bool) :=
 opt (Z3r p1) fun y6 =>
 br (y6) (
 bnd (([0,0,0,0,0]:List Int)) fun z9 =>
 opt (Z3r p0) fun y10 =>
 some (z9,y10)
 ) (
 opt (Z0u p1) fun y12 =>
 opt (Z09 y12 p1) fun y13 =>
 opt (Z0u y13) fun y16 =>
 opt (Z09 p0 y16) fun y17 =>
 opt (Z09 y17 p1) fun y18 =>
 opt (Z09 p0 y13) fun y21 =>
 opt (Z5k 253 15) fun y22 =>
 opt (Z8h y18 y22) fun y23 =>
 opt (Z09 y21 y23) fun y24 =>
 opt (Z0u y24) fun y27 =>
 opt (Z09 p1 y27) fun y28 =>
 jn (fun (a44:List Int)=>opt (Z6h a44) fun y61 =>
 opt (Z4a a44) fun y62 =>
 opt (Z6s y61 y62 a44) fun y63 =>
 some (y63,true)) fun k45=>opt (Z6g y28 p0) fun y47 =>
 br (y47) (
 k45 y24
 ) (
 opt (Z4a p0) fun y50 =>
 opt (Z6g y28 y50) fun y51 =>
 br (y51) (
 opt (Z7u 2) fun y54 =>
 opt (Z5k 251 31) fun y55 =>
 opt (Z8h y54 y55) fun y56 =>
 opt (Z09 y24 y56) fun y57 =>
 k45 y57
 ) (
 bnd (([0,0,0,0,0]:List Int)) fun z59 =>
 some (z59,false)
 )
 )
 )
theorem Zcw {W:World} {r:(List Int)×Bool} {p0:List Int} {p1:List Int} (h:Z5j p0 p1=some r)  :
    Calls Tryd.prog 36 [agg [.ints .u64 5 (p0)],agg [.ints .u64 5 (p1)]].toArray W (Z56 W (.tuple #[agg [.ints .u64 5 (r.1)],.bool (r.2)])):=by
 unfold Z5j at h
 refine Zd mo ok36 rfl ?_
 refine Z0<|Z2<|Zg (Z14 (s:=[.ints .u64 5 (p0)]) rfl fun b2 hb2=>Zg (Z14 (s:=[.ints .u64 5 (p1)]) rfl fun b3 hb3=>Zg (Zw fun b4 hb4=>Z8 rfl<|Z1<|Z0<|Z0<|oH h fun y6 ey6 h=>Z2<|Z6 _ (Z02 (p:=[.ints .u64 5 (p1)]) rfl (.there .here) rfl)<|Z6 _ (Z1a rfl (Z7t ey6))<|Z1<|Z0l h rfl (fun h=>?_) (fun h=>?_))))
 ·refine Z0<|bH h fun z9 ez9 h=>oH h fun y10 ey10 h=>Z2<|Z6 _ (az (fun z=>agg [.ints .u64 5 z]) ez9 (Zdx BdR.nil))<|Z6 _ (Z02 (p:=[.ints .u64 5 (p0)]) rfl (.there (.there .here)) rfl)<|Z6 _ (Z1a rfl (Z7t ey10))<|Zg (Zs (q:=[.ints .u64 5 (z9)]) rfl rfl rfl rfl rfl .here<|Z8 rfl<|Z1<|Zk ?_)
  revert h; refine Zz fun h=>?_
  subst h
  exact ⟨_,(.cons (.agg rfl .here rfl) (.cons (.tmp rfl) .nil)),rfl⟩
 ·refine Zl<|Z0<|oH h fun y12 ey12 h=>oH h fun y13 ey13 h=>Zu<|Zn _ (Z02 (p:=[.ints .u64 5 (p1)]) rfl (.there .here) rfl)<|Z7 _ (Z1a rfl (Z1i ey12))<|Zn _ (Z02 (p:=[.ints .u64 5 (p1)]) rfl (.there .here) rfl)<|Z7 _ (Z1a rfl (Zx ey13))<|Z7h (Zw fun b14 hb14=>⟨(by repeat (first | exact Sup.refl _ | apply Sup.cons | apply Sup.app)),Z2h rfl (Zs (q:=[.ints .u64 5 (y13)]) rfl rfl rfl rfl rfl .here (Z03 (Z0 (oH h fun y16 ey16 h=>oH h fun y17 ey17 h=>oH h fun y18 ey18 h=>Zu (Zn _ (Z02 (p:=[.ints .u64 5 (p0)]) rfl (.there (.there (.there .here))) rfl) (Zn _ (Z02 (p:=[.ints .u64 5 (y13)]) rfl .here rfl) (Z7 _ (Z1a rfl (Z1i ey16)) (Z7 _ (Z1a rfl (Zx ey17)) (Zn _ (Z02 (p:=[.ints .u64 5 (p1)]) rfl (.there (.there .here)) rfl) (Z7 _ (Z1a rfl (Zx ey18)) (Z7h (Zw fun b19 hb19=>⟨(by repeat (first | exact Sup.refl _ | apply Sup.cons | apply Sup.app)),Z2h rfl (Zs (q:=[.ints .u64 5 (y18)]) rfl rfl rfl rfl rfl .here (Z03 (Z0 (oH h fun y21 ey21 h=>oH h fun y22 ey22 h=>oH h fun y23 ey23 h=>oH h fun y24 ey24 h=>Zu (Zn _ (Z02 (p:=[.ints .u64 5 (p0)]) rfl (.there (.there (.there (.there .here)))) rfl) (Zn _ (Z02 (p:=[.ints .u64 5 (y13)]) rfl (.there .here) rfl) (Z7 _ (Z1a rfl (Zx ey21)) (Z7 _ (Z1a rfl (Z8t ey22)) (Zn _ (Z02 (p:=[.ints .u64 5 (y18)]) rfl .here rfl) (Z7 _ (Z1a rfl (Za0 ey23)) (Z7 _ (Z1a rfl (Zx ey24)) (Z7h (Zw fun b25 hb25=>⟨(by repeat (first | exact Sup.refl _ | apply Sup.cons | apply Sup.app)),Z2h rfl (Zs (q:=[.ints .u64 5 (y24)]) rfl rfl rfl rfl rfl .here (Z03 (Z0 (Z0 (oH h fun y27 ey27 h=>oH h fun y28 ey28 h=>Zu (Zn _ (Z02 (p:=[.ints .u64 5 (p1)]) rfl (.there (.there (.there (.there .here)))) rfl) (Zn _ (Z02 (p:=[.ints .u64 5 (y24)]) rfl .here rfl) (Z7 _ (Z1a rfl (Z1i ey27)) (Z7 _ (Z1a rfl (Zx ey28)) (Z7h (Zw fun b29 hb29=>⟨(by repeat (first | exact Sup.refl _ | apply Sup.cons | apply Sup.app)),Z2h rfl (Zs (q:=[.ints .u64 5 (y28)]) rfl rfl rfl rfl rfl .here (Z03 (jH h fun k45 qk45 h=>Zo (G:=fun t m=>∃ (a44:List Int),k45 a44=some r∧Fit [(4,.pointer (some ⟨b4,0,none⟩)),(8,.pointer (some ⟨b25,0,none⟩))] (ck b29 58 [.ints .u64 5 (y28)]::(ck b25 58 [.ints .u64 5 (a44)]::(ck b19 58 [.ints .u64 5 (y18)]::(ck b14 58 [.ints .u64 5 (y13)]::(ck b4 58 [.ints .u64 5 ((List.replicate 5 0))]::(ck b3 58 [.ints .u64 5 (p1)]::(ck b2 58 [.ints .u64 5 (p0)] :: []))))))) t m) ?_ ?_)))⟩)))))))))))⟩)))))))))))))⟩))))))))))))⟩)
  ·refine Zb<|Z0<|oH h fun y47 ey47 h=>Z2<|Z6 _ (Z02 (p:=[.ints .u64 5 (y28)]) rfl .here rfl)<|Z6 _ (Z02 (p:=[.ints .u64 5 (p0)]) rfl (.there (.there (.there (.there (.there (.there .here)))))) rfl)<|Z6 _ (Z1a rfl (Zb6 ey47))<|Z8 rfl<|Z1<|Z0l h rfl (fun h=>?_) (fun h=>?_)
   ·exact Zl<|⟨y24,h,⟨⟨rfl,rfl,trivial⟩,(.one .here (.one .here (.one .here (.one .here (.one .here (.one .here (.one .here .nil)))))))⟩⟩
   ·refine Z0<|oH h fun y50 ey50 h=>oH h fun y51 ey51 h=>Zu<|Zn _ (Z02 (p:=[.ints .u64 5 (y28)]) rfl .here rfl)<|Zn _ (Z02 (p:=[.ints .u64 5 (p0)]) rfl (.there (.there (.there (.there (.there (.there .here)))))) rfl)<|Z7 _ (Z1a rfl (Z51 ey50))<|Z7 _ (Z1a rfl (Zb6 ey51))<|Z7 _ (Z19 rfl)<|Z03<|Z0l h rfl (fun h=>?_) (fun h=>?_)
    ·exact oH h fun y54 ey54 h=>oH h fun y55 ey55 h=>oH h fun y56 ey56 h=>oH h fun y57 ey57 h=>Zu<|Z7 _ (Z1a rfl (Zb8 ey54))<|Z7 _ (Z1a rfl (Z8t ey55))<|Z7 _ (Z1a rfl (Za0 ey56))<|Zn _ (Z02 (p:=[.ints .u64 5 (y24)]) rfl (.there .here) rfl)<|Z7 _ (Z1a rfl (Zx ey57))<|Z2h rfl (Zs (q:=[.ints .u64 5 (y57)]) rfl rfl rfl rfl rfl (.there .here)<|Z03<|⟨y57,h,⟨⟨rfl,rfl,trivial⟩,(.one .here (.one .here (.one .here (.one .here (.one .here (.one .here (.one .here .nil)))))))⟩⟩)
    ·refine Z0<|bH h fun z59 ez59 h=>Z2<|Z6 _ (az (fun z=>agg [.ints .u64 5 z]) ez59 (Zdx BdR.nil))<|Zg (Zs (q:=[.ints .u64 5 (z59)]) rfl rfl rfl rfl rfl (.there (.there (.there (.there .here))))<|Z8 rfl<|Z1<|Zk ?_)
     revert h; refine Zz fun h=>?_
     subst h
     exact ⟨_,(.cons (.agg rfl (.there (.there (.there (.there .here)))) rfl) (.cons (.tmp rfl) .nil)),rfl⟩
  ·rintro t m ⟨a44,h,hF⟩
   refine Zm hF ?_
   clear hF
   subst qk45
   refine Z0<|oH h fun y61 ey61 h=>oH h fun y62 ey62 h=>oH h fun y63 ey63 h=>Zu<|Zn _ (Z02 (p:=[.ints .u64 5 (a44)]) rfl (.there .here) rfl)<|Z7 _ (Z1a rfl (Zb7 ey61))<|Zn _ (Z02 (p:=[.ints .u64 5 (a44)]) rfl (.there .here) rfl)<|Z7 _ (Z1a rfl (Z51 ey62))<|Zn _ (Z02 (p:=[.ints .u64 5 (a44)]) rfl (.there .here) rfl)<|Z7 _ (Z1a rfl (Zee ey63))<|Z2h rfl (Zs (q:=[.ints .u64 5 (y63)]) rfl rfl rfl rfl rfl (.there (.there (.there (.there .here))))<|Z7 _ (Z19 rfl)<|Z03<|Zk ?_)
   revert h; refine Zz fun h=>?_
   subst h
   exact ⟨_,(.cons (.agg rfl (.there (.there (.there (.there .here)))) rfl) (.cons (.tmp rfl) .nil)),rfl⟩
def Z9b:OL :=
 bnd (([929955233495203,466365720129213,1662059464998953,2033849074728123,1442794654840575]:List Int)) fun z4 =>
 some z4
theorem Zf1 {W:World} {r:(List Int)} (h:Z9b=some r)  :
    Calls Tryd.prog 40 [].toArray W (Z56 W (agg [.ints .u64 5 (r)])):=by
 unfold Z9b at h
 refine Zd mo ok40 rfl ?_
 refine Z0<|Z2<|Zg (Zw fun b2 hb2=>Z1<|Z0<|bH h fun z4 ez4 h=>Z2<|Z6 _ (az (fun z=>agg [.ints .u64 5 z]) ez4 (Zdx (.one rfl rfl rfl (.one rfl rfl rfl (.one rfl rfl rfl (.one rfl rfl rfl (.one rfl rfl rfl BdR.nil)))))))<|Zg (Zs (q:=[.ints .u64 5 (z4)]) rfl rfl rfl rfl rfl .here<|Z1<|Zk ?_))
 revert h; refine Zz fun h=>?_
 subst h
 exact ⟨_,(.cons (.agg rfl .here rfl) .nil),rfl⟩
def Z8c (p0:List Int):Option (Z9×Bool) :=
 bnd (p0.getD 31 0) fun z5 =>
 bnd (Zh .u8 z5 7) fun z6 =>
 bnd (p0.getD 31 0) fun z8 =>
 bnd (Z4 .and .u8 z8 127) fun z9 =>
 bnd (Z4h p0 31 z9) fun l10 =>
 opt (Z49 l10) fun y12 =>
 br ((!y12)) (
 some ((⟨(List.replicate 5 0),(List.replicate 5 0),(List.replicate 5 0),(List.replicate 5 0)⟩:Z9),false)
 ) (
 opt (Z26 l10) fun y16 =>
 opt (Z0u y16) fun y19 =>
 opt (Z6m) fun y22 =>
 opt (Z3t y19 y22) fun y25 =>
 opt (Z9b) fun y26 =>
 opt (Z09 y26 y19) fun y27 =>
 opt (Z1v y27 y22) fun y28 =>
 opt (Z5j y25 y28) fun y29 =>
 chk (imp (!(!y29.2)) (imp (z6==1) ((Z3r y29.1).isSome))) <|
 br (((!y29.2)||((z6==1)&&((Z3r y29.1).getD false)))) (
 some ((⟨(List.replicate 5 0),(List.replicate 5 0),(List.replicate 5 0),(List.replicate 5 0)⟩:Z9),false)
 ) (
 jn (fun (a39:List Int)=>opt (Z09 a39 y16) fun y45 =>
 some ((⟨a39,y16,y22,y45⟩:Z9),true)) fun k40=>br ((z6==1)) (
 opt (Z4a y29.1) fun y43 =>
 k40 y43
 ) (
 k40 y29.1
 )
 )
 )
theorem Ze9 {W:World} {r:Z9×Bool} {p0:List Int} (h:Z8c p0=some r)  :
    Calls Tryd.prog 18 [agg [.ints .u8 32 (p0)]].toArray W (Z56 W (.tuple #[agg [.ints .u64 5 (r.1.gX),.ints .u64 5 (r.1.gY),.ints .u64 5 (r.1.gZ),.ints .u64 5 (r.1.gT)],.bool (r.2)])):=by
 unfold Z8c at h
 refine Zd mo ok18 rfl ?_
 refine Z0<|Z2<|Zg (Z14 (s:=[.ints .u8 32 (p0)]) rfl fun b2 hb2=>Zg (Zw fun b3 hb3=>Z8 rfl<|Z1<|Z0<|bH h fun z5 ez5 h=>bH h fun z6 ez6 h=>Z2<|Z6 _ (Z3b rfl rfl (by decide))<|Z6 _ (iz ez5 (Z2k rfl (.there .here) rfl))<|Z6 _ (iz ez6 (Z76 rfl rfl (by decide)))<|Z6 _ (Za rfl rfl rfl)<|Z8 rfl<|Z1<|Z0<|bH h fun z8 ez8 h=>bH h fun z9 ez9 h=>bH h fun l10 el10 h=>Z2<|Z6 _ (Z3b rfl rfl (by decide))<|Z6 _ (iz ez8 (Z2k rfl (.there .here) rfl))<|Z6 _ (iz ez9 (Za rfl rfl rfl))<|Z6 _ (Z3b rfl rfl (by decide))<|Zg (Z9d (q:=[.ints .u8 32 (l10)]) (congrArg (fun z=>([.ints .u8 32 (z)]:List Seg)) el10.symm) rfl rfl rfl rfl (.there .here)<|Z1<|Z0<|Z0<|oH h fun y12 ey12 h=>Z2<|Z6 _ (Z02 (p:=[.ints .u8 32 (l10)]) rfl (.there .here) rfl)<|Z6 _ (Z1a rfl (Zcv ey12))<|Z6 _ (Zm1 rfl rfl)<|Z1<|Z0l h rfl (fun h=>?_) (fun h=>?_))))
 ·refine Z0<|Z2<|Z6 _ (Zdx (q:=[.ints .u64 5 ((List.replicate 5 0)),.ints .u64 5 ((List.replicate 5 0)),.ints .u64 5 ((List.replicate 5 0)),.ints .u64 5 ((List.replicate 5 0))]) BdR.nil)<|Zg (Zs (q:=[.ints .u64 5 ((List.replicate 5 0)),.ints .u64 5 ((List.replicate 5 0)),.ints .u64 5 ((List.replicate 5 0)),.ints .u64 5 ((List.replicate 5 0))]) rfl rfl rfl rfl rfl .here<|Z8 rfl<|Z1<|Zk ?_)
  revert h; refine Zz fun h=>?_
  subst h
  exact ⟨_,(.cons (.agg rfl .here rfl) (.cons (.tmp rfl) .nil)),rfl⟩
 ·refine Zl<|Z0<|oH h fun y16 ey16 h=>Z2<|Z6 _ (Z02 (p:=[.ints .u8 32 (l10)]) rfl (.there .here) rfl)<|Z6 _ (Z1a rfl (Z44 ey16))<|Zg (Zw fun b17 hb17=>Zg (Zs (q:=[.ints .u64 5 (y16)]) rfl rfl rfl rfl rfl .here<|Z1<|Z0<|oH h fun y19 ey19 h=>Z2<|Z6 _ (Z02 (p:=[.ints .u64 5 (y16)]) rfl .here rfl)<|Z6 _ (Z1a rfl (Z1i ey19))<|Zg (Zw fun b20 hb20=>Zg (Zs (q:=[.ints .u64 5 (y19)]) rfl rfl rfl rfl rfl .here<|Z1<|Z0<|oH h fun y22 ey22 h=>Z2<|Z6 _ (Z1a rfl (Z73 ey22))<|Zg (Zw fun b23 hb23=>Zg (Zs (q:=[.ints .u64 5 (y22)]) rfl rfl rfl rfl rfl .here<|Z1<|Z0<|oH h fun y25 ey25 h=>oH h fun y26 ey26 h=>oH h fun y27 ey27 h=>oH h fun y28 ey28 h=>oH h fun y29 ey29 h=>Zu<|Zn _ (Z02 (p:=[.ints .u64 5 (y19)]) rfl (.there .here) rfl)<|Zn _ (Z02 (p:=[.ints .u64 5 (y22)]) rfl .here rfl)<|Z7 _ (Z1a rfl (Z3z ey25))<|Z7 _ (Z1a rfl (Zf1 ey26))<|Zn _ (Z02 (p:=[.ints .u64 5 (y19)]) rfl (.there .here) rfl)<|Z7 _ (Z1a rfl (Zx ey27))<|Zn _ (Z02 (p:=[.ints .u64 5 (y22)]) rfl .here rfl)<|Z7 _ (Z1a rfl (Z1o ey28))<|Z7 _ (Z1a rfl (Zcw ey29))<|Z7 _ (Z19 rfl)<|Z7 _ (Z1j rfl rfl)<|Z7 _ (Z1j rfl rfl)<|Z7h (Zw fun b30 hb30=>⟨(by repeat (first | exact Sup.refl _ | apply Sup.cons | apply Sup.app)),Z2h rfl (Zs (q:=[.ints .u64 5 (y29.1)]) rfl rfl rfl rfl rfl .here (Z7 _ (Z19 rfl) (Z03 (Z0 (Z0 (cH h fun c32 h=>Z2 (Z8 rfl (Z6 _ (Zm1 rfl rfl) (Z8 rfl (Zf8 rfl rfl rfl (fun hg1=>Z45 rfl _ (Z19 rfl) (Z45 rfl _ (Z19 rfl) (Zta rfl (fun _ h=>by cases h; rfl) rfl rfl (fun hg2=>Z45 rfl _ (Z02 (p:=[.ints .u64 5 (y29.1)]) rfl .here rfl) (Z45 rfl _ (Z0m rfl (fun _ _=>Z7t (getD_some (z:=false) (Zhy (Zmy c32 hg1) hg2)))) (Z3k))) (fun hg2=>rfl) rfl (Z3k)))) (fun hg1=>rfl) rfl (Z1 (Z0l h rfl (fun h=>?_) (fun h=>?_)))))))))))))⟩)))))))
  ·refine Z0<|Z2<|Z6 _ (Zdx (q:=[.ints .u64 5 ((List.replicate 5 0)),.ints .u64 5 ((List.replicate 5 0)),.ints .u64 5 ((List.replicate 5 0)),.ints .u64 5 ((List.replicate 5 0))]) BdR.nil)<|Zg (Zs (q:=[.ints .u64 5 ((List.replicate 5 0)),.ints .u64 5 ((List.replicate 5 0)),.ints .u64 5 ((List.replicate 5 0)),.ints .u64 5 ((List.replicate 5 0))]) rfl rfl rfl rfl rfl (.there (.there (.there (.there .here))))<|Z8 rfl<|Z1<|Zk ?_)
   revert h; refine Zz fun h=>?_
   subst h
   exact ⟨_,(.cons (.agg rfl (.there (.there (.there (.there .here)))) rfl) (.cons (.tmp rfl) .nil)),rfl⟩
  ·refine Zl<|Z0<|Z0<|Z2<|Z8 rfl<|Z1<|jH h fun k40 qk40 h=>Zo (G:=fun t m=>∃ (a39:List Int),k40 a39=some r∧Fit [(2,.pointer (some ⟨b3,0,none⟩)),(5,.pointer (some ⟨b17,0,none⟩)),(7,.pointer (some ⟨b23,0,none⟩)),(8,.pointer (some ⟨b30,0,none⟩))] (ck b30 58 [.ints .u64 5 (a39)]::(ck b23 58 [.ints .u64 5 (y22)]::(ck b20 58 [.ints .u64 5 (y19)]::(ck b17 58 [.ints .u64 5 (y16)]::(ck b3 60 [.ints .u64 5 ((List.replicate 5 0)),.ints .u64 5 ((List.replicate 5 0)),.ints .u64 5 ((List.replicate 5 0)),.ints .u64 5 ((List.replicate 5 0))]::(ck b2 27 [.ints .u8 32 (l10)] :: [])))))) t m) ?_ ?_
   ·refine Z0l h rfl (fun h=>?_) (fun h=>?_)
    ·exact oH h fun y43 ey43 h=>Z2<|Z6 _ (Z02 (p:=[.ints .u64 5 (y29.1)]) rfl .here rfl)<|Z6 _ (Z1a rfl (Z51 ey43))<|Zg (Zs (q:=[.ints .u64 5 (y43)]) rfl rfl rfl rfl rfl .here<|Z1<|⟨y43,h,⟨⟨rfl,rfl,rfl,rfl,trivial⟩,(.one .here (.one .here (.one .here (.one .here (.one .here (.one .here .nil))))))⟩⟩)
    ·exact Zl<|⟨y29.1,h,⟨⟨rfl,rfl,rfl,rfl,trivial⟩,(.one .here (.one .here (.one .here (.one .here (.one .here (.one .here .nil))))))⟩⟩
   ·rintro t m ⟨a39,h,hF⟩
    refine Zm hF ?_
    clear hF
    subst qk40
    refine Z0<|oH h fun y45 ey45 h=>Zu<|Zn _ (Z02 (p:=[.ints .u64 5 (a39)]) rfl .here rfl)<|Zn _ (Z02 (p:=[.ints .u64 5 (y16)]) rfl (.there (.there (.there .here))) rfl)<|Zn _ (Z02 (p:=[.ints .u64 5 (y22)]) rfl (.there .here) rfl)<|Zn _ (Z02 (p:=[.ints .u64 5 (a39)]) rfl .here rfl)<|Zn _ (Z02 (p:=[.ints .u64 5 (y16)]) rfl (.there (.there (.there .here))) rfl)<|Z7 _ (Z1a rfl (Zx ey45))<|Z7 _ (Zdx (q:=[.ints .u64 5 (a39),.ints .u64 5 (y16),.ints .u64 5 (y22),.ints .u64 5 (y45)]) (.agg rfl rfl rfl (.agg rfl rfl rfl (.agg rfl rfl rfl (.agg rfl rfl rfl BdR.nil)))))<|Z2h rfl (Zs (q:=[.ints .u64 5 (a39),.ints .u64 5 (y16),.ints .u64 5 (y22),.ints .u64 5 (y45)]) rfl rfl rfl rfl rfl (.there (.there (.there (.there .here))))<|Z7 _ (Z19 rfl)<|Z03<|Zk ?_)
    revert h; refine Zz fun h=>?_
    subst h
    exact ⟨_,(.cons (.agg rfl (.there (.there (.there (.there .here)))) rfl) (.cons (.tmp rfl) .nil)),rfl⟩
def Z2b (p0:List Int):Option (Bool) :=
 opt (Z6j p0) fun y4 =>
 opt (Z4n y4 G_order) fun y5 =>
 some (y5.2==1)
theorem Zc3 {W:World} {r:Bool} {p0:List Int} (h:Z2b p0=some r) (hG:Globs W) :
    Calls Tryd.prog 19 [agg [.ints .u8 32 (p0)]].toArray W (Z56 W (.bool (r))):=by
 unfold Z2b at h
 refine Zd mo ok19 rfl ?_
 refine Z0<|Z2<|Zg (Z14 (s:=[.ints .u8 32 (p0)]) rfl fun b2 hb2=>Z8 rfl<|Z1<|Z0<|oH h fun y4 ey4 h=>oH h fun y5 ey5 h=>Zu<|Zn _ (Z02 (p:=[.ints .u8 32 (p0)]) rfl .here rfl)<|Z7 _ (Z1a rfl (Zbc ey4))<|Zn _ (Zn6 (o0:=0) (off:=0) rfl (hG.g0) (by simp) rfl)<|Z7 _ (Z1a rfl (Z7y ey5))<|Z7 _ (Z19 rfl)<|Z7 _ (Z1j rfl rfl)<|Z7 _ (Z1j rfl rfl)<|Z7h (Zw fun b6 hb6=>⟨(by repeat (first | exact Sup.refl _ | apply Sup.cons | apply Sup.app)),Z2h rfl (Zs (q:=[.ints .u64 4 (y5.1)]) rfl rfl rfl rfl rfl .here (Z7 _ (Z19 rfl) (Z03 (Z0 (Z2 (Z8 rfl (Z6 _ (Za rfl rfl rfl) (Z8 rfl (Z1 (Zk ?_))))))))))⟩))
 revert h; refine Zz fun h=>?_
 subst h
 exact ⟨_,(.cons (.tmp rfl) .nil),rfl⟩
def Z4y (k469:(List Int)→(List Int)→(List Int)→(List Int)→Option (Z9)) (k490:(Int)→(List Int)→(List Int)→(List Int)→(List Int)→Option (Z9)) (i485:Int) (a486:List Int) (a487:List Int) (a488:List Int) (a489:List Int):Option (Z9) :=
 br ((decide (i485<4))) (
 opt (Z5f (⟨a486,a487,a488,a489⟩:Z9)) fun y495 =>
 bnd (IntKind.wrap .i64 (i485+1)) fun z497 =>
 k490 z497 y495.gX y495.gY y495.gZ y495.gT
 ) (
 k469 a486 a487 a488 a489
 )
def Z1g (k469:(List Int)→(List Int)→(List Int)→(List Int)→Option (Z9)):Nat→(Int)→(List Int)→(List Int)→(List Int)→(List Int)→Option (Z9)
  | 0,_,_,_,_,_=>none
  | n+1,i485,a486,a487,a488,a489=>Z4y k469 (Z1g k469 n) i485 a486 a487 a488 a489
def Z4x (p0:List Int) (p2:List Int) (a15:List (Z9)) (a17:List (Z9)) (k270:(List Int)→(List Int)→(List Int)→(List Int)→Option (Z9)) (k431:(Int)→(List Int)→(List Int)→(List Int)→(List Int)→Option (Z9)) (i426:Int) (a427:List Int) (a428:List Int) (a429:List Int) (a430:List Int):Option (Z9) :=
 br ((decide (i426<64))) (
 jn (fun (a465:List Int) (a466:List Int) (a467:List Int) (a468:List Int)=>opt (Z5g p0 i426) fun y499 =>
 chk (inB y499 16) <|
 bnd (a15.getD (y499).toNat Z0g) fun x501 =>
 opt (Z6z (⟨a465,a466,a467,a468⟩:Z9) x501) fun y502 =>
 opt (Z5g p2 i426) fun y503 =>
 chk (inB y503 16) <|
 bnd (a17.getD (y503).toNat Z0g) fun x505 =>
 opt (Z6z y502 x505) fun y506 =>
 bnd (IntKind.wrap .i64 (i426+1)) fun z508 =>
 k431 z508 y506.gX y506.gY y506.gZ y506.gT) fun k469=>Z1g k469 big 0 a427 a428 a429 a430
 ) (
 k270 a427 a428 a429 a430
 )
def Z29 (p0:List Int) (p2:List Int) (a15:List (Z9)) (a17:List (Z9)) (k270:(List Int)→(List Int)→(List Int)→(List Int)→Option (Z9)):Nat→(Int)→(List Int)→(List Int)→(List Int)→(List Int)→Option (Z9)
  | 0,_,_,_,_,_=>none
  | n+1,i426,a427,a428,a429,a430=>Z4x p0 p2 a15 a17 k270 (Z29 p0 p2 a15 a17 k270 n) i426 a427 a428 a429 a430
def Z70 (p0:List Int) (p1:Z9) (p2:List Int):Option (Z9) :=
 opt (Z7r) fun y7 =>
 jn (fun (a15:List (Z9)) (a17:List (Z9))=>opt (Z7p) fun y25 =>
 jn (fun (a266:List Int) (a267:List Int) (a268:List Int) (a269:List Int)=>some (⟨a266,a267,a268,a269⟩:Z9)) fun k270=>Z29 p0 p2 a15 a17 k270 big 0 y25.gX y25.gY y25.gZ y25.gT) fun k18=>opt (Z3d p1) fun y20 =>
 opt (Z3d y7) fun y21 =>
 k18 y20 y21
theorem Zdn {W:World} {r:Z9} {p0:List Int} {p1:Z9} {p2:List Int} (h:Z70 p0 p1 p2=some r)  :
    Calls Tryd.prog 22 [agg [.ints .u8 32 (p0)],agg [.ints .u64 5 (p1.gX),.ints .u64 5 (p1.gY),.ints .u64 5 (p1.gZ),.ints .u64 5 (p1.gT)],agg [.ints .u8 32 (p2)]].toArray W (Z56 W (agg [.ints .u64 5 (r.gX),.ints .u64 5 (r.gY),.ints .u64 5 (r.gZ),.ints .u64 5 (r.gT)])):=by
 unfold Z70 at h
 refine Zd mo ok22 rfl ?_
 refine Z0<|Z2<|Zg (Z14 (s:=[.ints .u8 32 (p0)]) rfl fun b2 hb2=>Zg (Z14 (s:=[.ints .u64 5 (p1.gX),.ints .u64 5 (p1.gY),.ints .u64 5 (p1.gZ),.ints .u64 5 (p1.gT)]) rfl fun b3 hb3=>Zg (Z14 (s:=[.ints .u8 32 (p2)]) rfl fun b4 hb4=>Zg (Zw fun b5 hb5=>Z1<|Z0<|oH h fun y7 ey7 h=>Z2<|Z6 _ (Z1a rfl (Zb2 ey7))<|Zg (Zw fun b8 hb8=>Zg (Zs (q:=[.ints .u64 5 (y7.gX),.ints .u64 5 (y7.gY),.ints .u64 5 (y7.gZ),.ints .u64 5 (y7.gT)]) rfl rfl rfl rfl rfl .here<|Z1<|Z0<|jH h fun k18 qk18 h=>Zo (G:=fun t m=>∃ (a15:List (Z9)) (a17:List (Z9)) (b14:Nat) (b16:Nat),k18 a15 a17=some r∧Fit [(3,.pointer (some ⟨b2,0,none⟩)),(5,.pointer (some ⟨b4,0,none⟩)),(6,.pointer (some ⟨b5,0,none⟩)),(8,.pointer (some ⟨b14,0,none⟩)),(9,.pointer (some ⟨b16,0,none⟩))] (ck b16 105 [.rows 20 16 (Z8r Zf (a17))]::(ck b14 105 [.rows 20 16 (Z8r Zf (a15))]::(ck b8 60 [.ints .u64 5 (y7.gX),.ints .u64 5 (y7.gY),.ints .u64 5 (y7.gZ),.ints .u64 5 (y7.gT)]::(ck b5 60 [.ints .u64 5 ((List.replicate 5 0)),.ints .u64 5 ((List.replicate 5 0)),.ints .u64 5 ((List.replicate 5 0)),.ints .u64 5 ((List.replicate 5 0))]::(ck b4 63 [.ints .u8 32 (p2)]::(ck b3 60 [.ints .u64 5 (p1.gX),.ints .u64 5 (p1.gY),.ints .u64 5 (p1.gZ),.ints .u64 5 (p1.gT)]::(ck b2 63 [.ints .u8 32 (p0)] :: []))))))) t m) ?_ ?_))))))
 ·refine oH h fun y20 ey20 h=>oH h fun y21 ey21 h=>Zu<|Zn _ (Z02 (p:=[.ints .u64 5 (p1.gX),.ints .u64 5 (p1.gY),.ints .u64 5 (p1.gZ),.ints .u64 5 (p1.gT)]) rfl (.there (.there (.there .here))) rfl)<|Z7 _ (Z1a rfl (Z64 ey20))<|Zn _ (Z02 (p:=[.ints .u64 5 (y7.gX),.ints .u64 5 (y7.gY),.ints .u64 5 (y7.gZ),.ints .u64 5 (y7.gT)]) rfl .here rfl)<|Z7 _ (Z1a rfl (Z64 ey21))<|Zk8 (Zep (z':=[.rows 20 16 (Z8r Zf ((List.replicate 16 Z0g)))]) (Z9q (E:=Zf) rfl rfl) fun b22 hb22=>⟨(by repeat (first | exact Sup.refl _ | apply Sup.cons | apply Sup.app)),?_⟩) (Zep (z':=[.rows 20 16 (Z8r Zf ((List.replicate 16 Z0g)))]) (Z9q (E:=Zf) rfl rfl) fun b23 hb23=>⟨(by repeat (first | exact Sup.refl _ | apply Sup.cons | apply Sup.app)),?_⟩)
  ·exact Z7h (Zep (z':=[.rows 20 16 (Z8r Zf ((List.replicate 16 Z0g)))]) (Z9q (E:=Zf) rfl rfl) fun b23 hb23=>⟨(by repeat (first | exact Sup.refl _ | apply Sup.cons | apply Sup.app)),Z2h rfl (Zgy (q:=[.rows 20 16 (Z8r Zf (y20))]) rfl rfl rfl rfl (Z3e (Zaf (E:=Zf)) Z89) (.there .here) (Zsl rfl (Zgy (q:=[.rows 20 16 (Z8r Zf (y21))]) rfl rfl rfl rfl (Z3e (Zaf (E:=Zf)) Z89) .here (Z03 (⟨y20,y21,b22,b23,h,⟨⟨rfl,rfl,rfl,rfl,rfl,trivial⟩,(.one .here (.one .here (.one .here (.one .here (.one .here (.one .here (.one .here .nil)))))))⟩⟩)))))⟩)
  ·exact Z7h (Zep (z':=[.rows 20 16 (Z8r Zf ((List.replicate 16 Z0g)))]) (Z9q (E:=Zf) rfl rfl) fun b22 hb22=>⟨(by repeat (first | exact Sup.refl _ | apply Sup.cons | apply Sup.app)),Z2h rfl (Zgy (q:=[.rows 20 16 (Z8r Zf (y20))]) rfl rfl rfl rfl (Z3e (Zaf (E:=Zf)) Z89) .here (Zsl rfl (Zgy (q:=[.rows 20 16 (Z8r Zf (y21))]) rfl rfl rfl rfl (Z3e (Zaf (E:=Zf)) Z89) (.there .here) (Z03 (⟨y20,y21,b22,b23,h,⟨⟨rfl,rfl,rfl,rfl,rfl,trivial⟩,(.one (.there .here) (.one .here (.one .here (.one .here (.one .here (.one .here (.one .here .nil)))))))⟩⟩)))))⟩)
 ·rintro t m ⟨a15,a17,b14,b16,h,hF⟩
  refine Zm hF ?_
  clear hF
  subst qk18
  refine Z0<|oH h fun y25 ey25 h=>Z2<|Z6 _ (Z0m (vs:=[]) (v:=agg [.ints .u64 5 (y25.gX),.ints .u64 5 (y25.gY),.ints .u64 5 (y25.gZ),.ints .u64 5 (y25.gT)]) rfl (fun w hw=>Z9a (r:=y25) ey25 ))<|Zg (Zw fun b26 hb26=>Zg (Zs (q:=[.ints .u64 5 (y25.gX),.ints .u64 5 (y25.gY),.ints .u64 5 (y25.gZ),.ints .u64 5 (y25.gT)]) rfl rfl rfl rfl rfl .here<|Z1<|Z0<|Z0<|Z2<|Z8 rfl<|Z1<|jH h fun k270 qk270 h=>Zo (G:=fun t m=>∃ (a266:List Int) (a267:List Int) (a268:List Int) (a269:List Int),k270 a266 a267 a268 a269=some r∧Fit [(6,.pointer (some ⟨b5,0,none⟩)),(10,.pointer (some ⟨b26,0,none⟩))] (ck b26 60 [.ints .u64 5 (a266),.ints .u64 5 (a267),.ints .u64 5 (a268),.ints .u64 5 (a269)]::(ck b16 105 [.rows 20 16 (Z8r Zf (a17))]::(ck b14 105 [.rows 20 16 (Z8r Zf (a15))]::(ck b8 60 [.ints .u64 5 (y7.gX),.ints .u64 5 (y7.gY),.ints .u64 5 (y7.gZ),.ints .u64 5 (y7.gT)]::(ck b5 60 [.ints .u64 5 ((List.replicate 5 0)),.ints .u64 5 ((List.replicate 5 0)),.ints .u64 5 ((List.replicate 5 0)),.ints .u64 5 ((List.replicate 5 0))]::(ck b4 63 [.ints .u8 32 (p2)]::(ck b3 60 [.ints .u64 5 (p1.gX),.ints .u64 5 (p1.gY),.ints .u64 5 (p1.gZ),.ints .u64 5 (p1.gT)]::(ck b2 63 [.ints .u8 32 (p0)] :: [])))))))) t m) ?_ ?_))
  ·refine Zb<|Z01 (fun n432 t m=>∃ (i426:Int) (a427:List Int) (a428:List Int) (a429:List Int) (a430:List Int),Z29 p0 p2 a15 a17 k270 n432 i426 a427 a428 a429 a430=some r∧Fit [(3,.pointer (some ⟨b2,0,none⟩)),(5,.pointer (some ⟨b4,0,none⟩)),(6,.pointer (some ⟨b5,0,none⟩)),(8,.pointer (some ⟨b14,0,none⟩)),(9,.pointer (some ⟨b16,0,none⟩)),(10,.pointer (some ⟨b26,0,none⟩)),(18,.int .i64 (i426))] (ck b26 60 [.ints .u64 5 (a427),.ints .u64 5 (a428),.ints .u64 5 (a429),.ints .u64 5 (a430)]::(ck b16 105 [.rows 20 16 (Z8r Zf (a17))]::(ck b14 105 [.rows 20 16 (Z8r Zf (a15))]::(ck b8 60 [.ints .u64 5 (y7.gX),.ints .u64 5 (y7.gY),.ints .u64 5 (y7.gZ),.ints .u64 5 (y7.gT)]::(ck b5 60 [.ints .u64 5 ((List.replicate 5 0)),.ints .u64 5 ((List.replicate 5 0)),.ints .u64 5 ((List.replicate 5 0)),.ints .u64 5 ((List.replicate 5 0))]::(ck b4 63 [.ints .u8 32 (p2)]::(ck b3 60 [.ints .u64 5 (p1.gX),.ints .u64 5 (p1.gY),.ints .u64 5 (p1.gZ),.ints .u64 5 (p1.gT)]::(ck b2 63 [.ints .u8 32 (p0)] :: [])))))))) t m) big ?_ ?_
   ·exact ⟨0,y25.gX,y25.gY,y25.gZ,y25.gT,h,⟨⟨rfl,rfl,rfl,rfl,rfl,rfl,rfl,trivial⟩,(.one .here (.one .here (.one .here (.one .here (.one .here (.one .here (.one .here (.one .here .nil))))))))⟩⟩
   ·rintro n432 t m ⟨i426,a427,a428,a429,a430,h,hF⟩
    refine Zm hF ?_
    clear hF
    rcases n432 with _ | n432
    · exact Z1c h
    have h:Z4x p0 p2 a15 a17 k270 (Z29 p0 p2 a15 a17 k270 n432) i426 a427 a428 a429 a430=some r:=h
    unfold Z4x at h
    obtain ⟨k431,qk431⟩ : ∃ k,k=Z29 p0 p2 a15 a17 k270 n432:=⟨_,rfl⟩
    try rw [← qk431] at h
    refine Z0<|Z2<|Z6 _ (Za rfl rfl rfl)<|Z1<|Z0<|Z0l h rfl (fun h=>?_) (fun h=>?_)
    ·refine Zl<|Z0<|Zb<|Z0<|Z2<|Z8 rfl<|Z8 rfl<|Z1<|Z0<|Z0<|Z2<|Z8 rfl<|Z1<|jH h fun k469 qk469 h=>Zo (G:=fun t m=>∃ (a465:List Int) (a466:List Int) (a467:List Int) (a468:List Int),k469 a465 a466 a467 a468=some r∧Fit [(3,.pointer (some ⟨b2,0,none⟩)),(5,.pointer (some ⟨b4,0,none⟩)),(6,.pointer (some ⟨b5,0,none⟩)),(8,.pointer (some ⟨b14,0,none⟩)),(9,.pointer (some ⟨b16,0,none⟩)),(10,.pointer (some ⟨b26,0,none⟩)),(11,.int .i64 (i426)),(18,.int .i64 (i426))] (ck b26 60 [.ints .u64 5 (a465),.ints .u64 5 (a466),.ints .u64 5 (a467),.ints .u64 5 (a468)]::(ck b16 105 [.rows 20 16 (Z8r Zf (a17))]::(ck b14 105 [.rows 20 16 (Z8r Zf (a15))]::(ck b8 60 [.ints .u64 5 (y7.gX),.ints .u64 5 (y7.gY),.ints .u64 5 (y7.gZ),.ints .u64 5 (y7.gT)]::(ck b5 60 [.ints .u64 5 ((List.replicate 5 0)),.ints .u64 5 ((List.replicate 5 0)),.ints .u64 5 ((List.replicate 5 0)),.ints .u64 5 ((List.replicate 5 0))]::(ck b4 63 [.ints .u8 32 (p2)]::(ck b3 60 [.ints .u64 5 (p1.gX),.ints .u64 5 (p1.gY),.ints .u64 5 (p1.gZ),.ints .u64 5 (p1.gT)]::(ck b2 63 [.ints .u8 32 (p0)] :: [])))))))) t m) ?_ ?_
     ·refine Zb<|Z01 (fun n491 t m=>∃ (i485:Int) (a486:List Int) (a487:List Int) (a488:List Int) (a489:List Int),Z1g k469 n491 i485 a486 a487 a488 a489=some r∧Fit [(3,.pointer (some ⟨b2,0,none⟩)),(5,.pointer (some ⟨b4,0,none⟩)),(6,.pointer (some ⟨b5,0,none⟩)),(8,.pointer (some ⟨b14,0,none⟩)),(9,.pointer (some ⟨b16,0,none⟩)),(10,.pointer (some ⟨b26,0,none⟩)),(11,.int .i64 (i426)),(18,.int .i64 (i426)),(21,.int .i64 (i485))] (ck b26 60 [.ints .u64 5 (a486),.ints .u64 5 (a487),.ints .u64 5 (a488),.ints .u64 5 (a489)]::(ck b16 105 [.rows 20 16 (Z8r Zf (a17))]::(ck b14 105 [.rows 20 16 (Z8r Zf (a15))]::(ck b8 60 [.ints .u64 5 (y7.gX),.ints .u64 5 (y7.gY),.ints .u64 5 (y7.gZ),.ints .u64 5 (y7.gT)]::(ck b5 60 [.ints .u64 5 ((List.replicate 5 0)),.ints .u64 5 ((List.replicate 5 0)),.ints .u64 5 ((List.replicate 5 0)),.ints .u64 5 ((List.replicate 5 0))]::(ck b4 63 [.ints .u8 32 (p2)]::(ck b3 60 [.ints .u64 5 (p1.gX),.ints .u64 5 (p1.gY),.ints .u64 5 (p1.gZ),.ints .u64 5 (p1.gT)]::(ck b2 63 [.ints .u8 32 (p0)] :: [])))))))) t m) big ?_ ?_
      ·exact ⟨0,a427,a428,a429,a430,h,⟨⟨rfl,rfl,rfl,rfl,rfl,rfl,rfl,rfl,rfl,trivial⟩,(.one .here (.one .here (.one .here (.one .here (.one .here (.one .here (.one .here (.one .here .nil))))))))⟩⟩
      ·rintro n491 t m ⟨i485,a486,a487,a488,a489,h,hF⟩
       refine Zm hF ?_
       clear hF
       rcases n491 with _ | n491
       · exact Z1c h
       have h:Z4y k469 (Z1g k469 n491) i485 a486 a487 a488 a489=some r:=h
       unfold Z4y at h
       obtain ⟨k490,qk490⟩ : ∃ k,k=Z1g k469 n491:=⟨_,rfl⟩
       try rw [← qk490] at h
       refine Z0<|Z2<|Z6 _ (Za rfl rfl rfl)<|Z1<|Z0<|Z0l h rfl (fun h=>?_) (fun h=>?_)
       ·refine Zl<|Z0<|Zb<|oH h fun y495 ey495 h=>Z2<|Z6 _ (Z02 (p:=[.ints .u64 5 (a486),.ints .u64 5 (a487),.ints .u64 5 (a488),.ints .u64 5 (a489)]) rfl .here rfl)<|Z6 _ (Z0m (vs:=[agg [.ints .u64 5 (a486),.ints .u64 5 (a487),.ints .u64 5 (a488),.ints .u64 5 (a489)]]) (v:=agg [.ints .u64 5 (y495.gX),.ints .u64 5 (y495.gY),.ints .u64 5 (y495.gZ),.ints .u64 5 (y495.gT)]) rfl (fun w hw=>Zaa (r:=y495) (p0:=(⟨a486,a487,a488,a489⟩:Z9)) ey495 ))<|Zg (Zs (q:=[.ints .u64 5 (y495.gX),.ints .u64 5 (y495.gY),.ints .u64 5 (y495.gZ),.ints .u64 5 (y495.gT)]) rfl rfl rfl rfl rfl .here<|Z1<|bH h fun z497 ez497 h=>Z2<|Z6 _ (iz ez497 (Za rfl rfl rfl))<|Z8 rfl<|Z1 ?_)
        rw [qk490] at h
        exact ⟨n491,Nat.lt_succ_self _,z497,y495.gX,y495.gY,y495.gZ,y495.gT,h,⟨⟨rfl,rfl,rfl,rfl,rfl,rfl,rfl,rfl,rfl,trivial⟩,(.one .here (.one .here (.one .here (.one .here (.one .here (.one .here (.one .here (.one .here .nil))))))))⟩⟩
       ·exact Z0b _ rfl<|⟨a486,a487,a488,a489,h,⟨⟨rfl,rfl,rfl,rfl,rfl,rfl,rfl,rfl,trivial⟩,(.one .here (.one .here (.one .here (.one .here (.one .here (.one .here (.one .here (.one .here .nil))))))))⟩⟩
     ·rintro t m ⟨a465,a466,a467,a468,h,hF⟩
      refine Zm hF ?_
      clear hF
      subst qk469
      refine oH h fun y499 ey499 h=>cH h fun c500 h=>bH h fun x501 ex501 h=>oH h fun y502 ey502 h=>oH h fun y503 ey503 h=>cH h fun c504 h=>bH h fun x505 ex505 h=>oH h fun y506 ey506 h=>Zu<|Z7 _ (Z19 rfl)<|Z7 _ (Z19 rfl)<|Zn _ (Z02 (p:=[.ints .u64 5 (a465),.ints .u64 5 (a466),.ints .u64 5 (a467),.ints .u64 5 (a468)]) rfl .here rfl)<|Zn _ (Z02 (p:=[.ints .u8 32 (p0)]) rfl (.there (.there (.there (.there (.there (.there (.there .here))))))) rfl)<|Z7 _ (Z0m (vs:=[agg [.ints .u8 32 (p0)],.int .i64 (i426)]) (v:=.int .u8 (y499)) rfl (fun w hw=>Z7q (r:=y499) (p0:=p0) (p1:=i426) ey499 ))<|Z7 _ (Z3b rfl rfl (Z1w c500))<|Zn _ (az (fun x501=>agg [.ints .u64 5 (x501.gX),.ints .u64 5 (x501.gY),.ints .u64 5 (x501.gZ),.ints .u64 5 (x501.gT)]) ex501 (Zjm (base:=0) (w:=20) rfl (.there (.there .here)) rfl (Z18 c500) rfl rfl rfl))<|Z7 _ (Z0m (vs:=[agg [.ints .u64 5 (a465),.ints .u64 5 (a466),.ints .u64 5 (a467),.ints .u64 5 (a468)],agg [.ints .u64 5 (x501.gX),.ints .u64 5 (x501.gY),.ints .u64 5 (x501.gZ),.ints .u64 5 (x501.gT)]]) (v:=agg [.ints .u64 5 (y502.gX),.ints .u64 5 (y502.gY),.ints .u64 5 (y502.gZ),.ints .u64 5 (y502.gT)]) rfl (fun w hw=>Z86 (r:=y502) (p0:=(⟨a465,a466,a467,a468⟩:Z9)) (p1:=x501) ey502 ))<|Zn _ (Z02 (p:=[.ints .u8 32 (p2)]) rfl (.there (.there (.there (.there (.there .here))))) rfl)<|Z7 _ (Z0m (vs:=[agg [.ints .u8 32 (p2)],.int .i64 (i426)]) (v:=.int .u8 (y503)) rfl (fun w hw=>Z7q (r:=y503) (p0:=p2) (p1:=i426) ey503 ))<|Z7 _ (Z3b rfl rfl (Z1w c504))<|Zn _ (az (fun x505=>agg [.ints .u64 5 (x505.gX),.ints .u64 5 (x505.gY),.ints .u64 5 (x505.gZ),.ints .u64 5 (x505.gT)]) ex505 (Zjm (base:=0) (w:=20) rfl (.there .here) rfl (Z18 c504) rfl rfl rfl))<|Z7 _ (Z0m (vs:=[agg [.ints .u64 5 (y502.gX),.ints .u64 5 (y502.gY),.ints .u64 5 (y502.gZ),.ints .u64 5 (y502.gT)],agg [.ints .u64 5 (x505.gX),.ints .u64 5 (x505.gY),.ints .u64 5 (x505.gZ),.ints .u64 5 (x505.gT)]]) (v:=agg [.ints .u64 5 (y506.gX),.ints .u64 5 (y506.gY),.ints .u64 5 (y506.gZ),.ints .u64 5 (y506.gT)]) rfl (fun w hw=>Z86 (r:=y506) (p0:=y502) (p1:=x505) ey506 ))<|Z2h rfl (Zs (q:=[.ints .u64 5 (y506.gX),.ints .u64 5 (y506.gY),.ints .u64 5 (y506.gZ),.ints .u64 5 (y506.gT)]) rfl rfl rfl rfl rfl .here<|Z03<|bH h fun z508 ez508 h=>Z2<|Z6 _ (iz ez508 (Za rfl rfl rfl))<|Z8 rfl<|Z1 ?_)
      rw [qk431] at h
      exact ⟨n432,Nat.lt_succ_self _,z508,y506.gX,y506.gY,y506.gZ,y506.gT,h,⟨⟨rfl,rfl,rfl,rfl,rfl,rfl,rfl,trivial⟩,(.one .here (.one .here (.one .here (.one .here (.one .here (.one .here (.one .here (.one .here .nil))))))))⟩⟩
    ·exact Z0b _ rfl<|⟨a427,a428,a429,a430,h,⟨⟨rfl,rfl,trivial⟩,(.one .here (.one .here (.one .here (.one .here (.one .here (.one .here (.one .here (.one .here .nil))))))))⟩⟩
  ·rintro t m ⟨a266,a267,a268,a269,h,hF⟩
   refine Zm hF ?_
   clear hF
   subst qk270
   refine Z0<|Z2<|Z6 _ (Z02 (p:=[.ints .u64 5 (a266),.ints .u64 5 (a267),.ints .u64 5 (a268),.ints .u64 5 (a269)]) rfl .here rfl)<|Zg (Zs (q:=[.ints .u64 5 (a266),.ints .u64 5 (a267),.ints .u64 5 (a268),.ints .u64 5 (a269)]) rfl rfl rfl rfl rfl (.there (.there (.there (.there .here))))<|Z1<|Zk ?_)
   revert h; refine Zz fun h=>?_
   subst h
   exact ⟨_,(.cons (.agg rfl (.there (.there (.there (.there .here)))) rfl) .nil),rfl⟩
def Z99 (p0:Z9):Option (Z9) :=
 opt (Z4a p0.gX) fun y5 =>
 opt (Z4a p0.gT) fun y6 =>
 some (⟨y5,p0.gY,p0.gZ,y6⟩:Z9)
theorem Zgk {W:World} {r:Z9} {p0:Z9} (h:Z99 p0=some r)  :
    Calls Tryd.prog 23 [agg [.ints .u64 5 (p0.gX),.ints .u64 5 (p0.gY),.ints .u64 5 (p0.gZ),.ints .u64 5 (p0.gT)]].toArray W (Z56 W (agg [.ints .u64 5 (r.gX),.ints .u64 5 (r.gY),.ints .u64 5 (r.gZ),.ints .u64 5 (r.gT)])):=by
 unfold Z99 at h
 refine Zd mo ok23 rfl ?_
 refine Z0<|Z2<|Zg (Z14 (s:=[.ints .u64 5 (p0.gX),.ints .u64 5 (p0.gY),.ints .u64 5 (p0.gZ),.ints .u64 5 (p0.gT)]) rfl fun b2 hb2=>Zg (Zw fun b3 hb3=>Z1<|Z0<|oH h fun y5 ey5 h=>oH h fun y6 ey6 h=>Zu<|Z7 _ (Z6c rfl)<|Z7 _ (Z6c rfl)<|Z7 _ (Z6c rfl)<|Z7 _ (Z6c rfl)<|Zn _ (Z02 (p:=[.ints .u64 5 (p0.gX)]) rfl (.there .here) rfl)<|Z7 _ (Z1a rfl (Z51 ey5))<|Zn _ (Z02 (p:=[.ints .u64 5 (p0.gY)]) rfl (.there .here) rfl)<|Zn _ (Z02 (p:=[.ints .u64 5 (p0.gZ)]) rfl (.there .here) rfl)<|Zn _ (Z02 (p:=[.ints .u64 5 (p0.gT)]) rfl (.there .here) rfl)<|Z7 _ (Z1a rfl (Z51 ey6))<|Z7 _ (Zdx (q:=[.ints .u64 5 (y5),.ints .u64 5 (p0.gY),.ints .u64 5 (p0.gZ),.ints .u64 5 (y6)]) (.agg rfl rfl rfl (.agg rfl rfl rfl (.agg rfl rfl rfl (.agg rfl rfl rfl BdR.nil)))))<|Z2h rfl (Zs (q:=[.ints .u64 5 (y5),.ints .u64 5 (p0.gY),.ints .u64 5 (p0.gZ),.ints .u64 5 (y6)]) rfl rfl rfl rfl rfl .here<|Z03<|Zk ?_)))
 revert h; refine Zz fun h=>?_
 subst h
 exact ⟨_,(.cons (.agg rfl .here rfl) .nil),rfl⟩
def Z28 (p0:List Int) (p1:List Int) (p2:List Int):Option (Bool) :=
 opt (Z8c p0) fun y5 =>
 chk (decide (32≤(tk p2 32 (64-32)).length)) <|
 bnd (tk (tk p2 32 (64-32)) 0 32) fun z9 =>
 chk (imp (!(!y5.2)) ((Z2b z9).isSome)) <|
 br (((!y5.2)||(!((Z2b z9).getD false)))) (
 some false
 ) (
 jn (fun (a22:List Int)=>opt (Z99 y5.1) fun y31 =>
 opt (Z70 a22 y31 z9) fun y32 =>
 opt (Z3p y32) fun y33 =>
 chk (decide (32≤(tk p2 0 32).length)) <|
 bnd (tk (tk p2 0 32) 0 32) fun z37 =>
 some (ieq 32 y33 z37)) fun k23=>opt (Z7c [(tk p2 0 32),(tk p0 0 32),p1]) fun y28 =>
 k23 y28
 )
theorem Zbg {W:World} {r:Bool} {p0:List Int} {p1:List Int} {p2:List Int} {v1:Value} (h:Z28 p0 p1 p2=some r) (hG:Globs W) (A1:RdSl (El.int .u8) W v1 p1) :
    Calls Tryd.prog 7 [agg [.ints .u8 32 (p0)],v1,agg [.ints .u8 64 (p2)]].toArray W (Z56 W (.bool (r))):=by
 unfold Z28 at h
 refine Zd mo ok7 rfl ?_
 refine Z0<|Z2<|Zg (Z14 (s:=[.ints .u8 32 (p0)]) rfl fun b2 hb2=>Zg (Z14 (s:=[.ints .u8 64 (p2)]) rfl fun b3 hb3=>Z8 rfl<|Z1<|Z0<|oH h fun y5 ey5 h=>Z2<|Z6 _ (Z02 (p:=[.ints .u8 32 (p0)]) rfl (.there .here) rfl)<|Z6 _ (Z1a rfl (Ze9 ey5))<|Z8 rfl<|Z6 _ (Z1j rfl rfl)<|Z6 _ (Z1j rfl rfl)<|Zg (Zw fun b6 hb6=>Zg (Zs (q:=[.ints .u64 5 (y5.1.gX),.ints .u64 5 (y5.1.gY),.ints .u64 5 (y5.1.gZ),.ints .u64 5 (y5.1.gT)]) rfl rfl rfl rfl rfl .here<|Z8 rfl<|Z1<|Z0<|cH h fun c8 h=>bH h fun z9 ez9 h=>Z2<|Z6 _ (Z90 rfl (.yes rfl) .no .no (by simp) (by decide))<|Z6 _ (Zpg rfl (Shp.blk (lo:=32) (hi:=64) (mz:=64) (by decide) (by simp [Zy])) (by decide) c8)<|Z6 _ (az (fun z=>agg [.ints .u8 32 z]) ez9 (Zvh rfl (Z1z (s:=[.ints .u8 64 (p2)]) (N:=64) (k:=.u8) (base:=0) (lo:=32) (hi:=64) (mz:=64) (.there .here) rfl (by decide)) (by decide) c8))<|Zg (Zw fun b10 hb10=>Zg (Zs (q:=[.ints .u8 32 (z9)]) rfl rfl rfl rfl rfl .here<|Z1<|Z0<|Z0<|cH h fun c12 h=>Z2<|Z8 rfl<|Z6 _ (Zm1 rfl rfl)<|Z8 rfl<|Zf8 rfl rfl rfl (fun hg1=>Z45 rfl _ (Z02 (p:=[.ints .u8 32 (z9)]) rfl .here rfl) (Z45 rfl _ (Z0m rfl (fun w hw=>Zc3 (getD_some (z:=false) (Zmy c12 hg1)) (hG.at hw (by simp)))) (Z45 rfl _ (Zm1 rfl rfl) (Z3k)))) (fun hg1=>rfl) rfl<|Z1<|Z0l h rfl (fun h=>?_) (fun h=>?_)))))))
 ·refine Z0<|Z2<|Z8 rfl<|Z1<|Zk ?_
  revert h; refine Zz fun h=>?_
  subst h
  exact ⟨_,(.cons (.tmp rfl) .nil),rfl⟩
 ·refine Zl<|Z0<|jH h fun k23 qk23 h=>Zo (G:=fun t m=>∃ (a22:List Int) (b21:Nat),k23 a22=some r∧Fit [(5,.pointer (some ⟨b3,0,none⟩)),(7,.pointer (some ⟨b6,0,none⟩)),(9,.pointer (some ⟨b10,0,none⟩)),(10,.pointer (some ⟨b21,0,none⟩))] (ck b21 63 [.ints .u8 32 (a22)]::(ck b10 63 [.ints .u8 32 (z9)]::(ck b6 60 [.ints .u64 5 (y5.1.gX),.ints .u64 5 (y5.1.gY),.ints .u64 5 (y5.1.gZ),.ints .u64 5 (y5.1.gT)]::(ck b3 30 [.ints .u8 64 (p2)]::(ck b2 27 [.ints .u8 32 (p0)] :: []))))) t m) ?_ ?_
  ·refine oH h fun y28 ey28 h=>Zu<|Z7 _ (Z90 rfl .no (.yes rfl) .no (by simp) (by decide))<|Z7 _ (Z90 rfl .no .no .no (by simp) (by decide))<|Z7 _ (Z19 rfl)<|Zk8 (Z9r (E:=El.sl) (xs:=[unS (.slice (some (Z22 b3 0 0 64 1)) (32-0) (64-0)),unS (.slice (some (Z22 b2 0 0 32 1)) (32-0) (32-0)),unS v1]) (.one rfl (Zdg.cells ⟨_,_,_,rfl⟩) rfl (.one rfl (Zdg.cells ⟨_,_,_,rfl⟩) rfl (.one rfl (Zdg.cells (Shp.isSl (Shp.rd A1))) rfl BdR.nil))) (.cons (p:=[.one (.slice (some (Z22 b3 0 0 64 1)) (32-0) (64-0))]) (Z7d ⟨_,_,_,rfl⟩) (.cons (p:=[.one (.slice (some (Z22 b2 0 0 32 1)) (32-0) (32-0))]) (Z7d ⟨_,_,_,rfl⟩) (.cons (p:=[.one v1]) (Z7d (Shp.isSl (Shp.rd A1))) .nil))) rfl fun v25 ms26 O27=>⟨(by repeat (first | exact Sup.refl _ | apply Sup.cons | apply Sup.app)),?_⟩) (Zw fun b29 hb29=>⟨(by repeat (first | exact Sup.refl _ | apply Sup.cons | apply Sup.app)),?_⟩)
   ·refine Zk8 (ef_q _ (Z0m rfl (fun w hw=>Z43 ey28 (hG.at hw (by simp)) (Z1x O27 .here w hw) (.cons (Z6t ((Z1z (s:=[.ints .u8 64 (p2)]) (N:=64) (k:=.u8) (base:=0) (lo:=0) (hi:=32) (mz:=64) (.app (.there (.there .here))) rfl (by decide)) w hw)) (.cons (Z6t ((Z1z (s:=[.ints .u8 32 (p0)]) (N:=32) (k:=.u8) (base:=0) (lo:=0) (hi:=32) (mz:=32) (.app (.there (.there (.there .here)))) rfl (by decide)) w hw)) (.cons (Z6t ((Z2a A1 Z2m) w hw)) .nil))))) ⟨(by repeat (first | exact Sup.refl _ | apply Sup.cons | apply Sup.app)),?_⟩) (Zw fun b29 hb29=>⟨(by repeat (first | exact Sup.refl _ | apply Sup.cons | apply Sup.app)),?_⟩)
    ·exact Z7h (Zw fun b29 hb29=>⟨(by repeat (first | exact Sup.refl _ | apply Sup.cons | apply Sup.app)),Z2h rfl (Zs (q:=[.ints .u8 32 (y28)]) rfl rfl rfl rfl rfl .here (Z03 (⟨y28,b29,h,⟨⟨rfl,rfl,rfl,rfl,trivial⟩,(.one .here (.one (.app .here) (.one (.app .here) (.one (.app .here) (.one (.app .here) .nil)))))⟩⟩)))⟩)
    ·exact Znk _ (Z0m rfl (fun w hw=>Z43 ey28 (hG.at hw (by simp)) (Z1x O27 (.there .here) w hw) (.cons (Z6t ((Z1z (s:=[.ints .u8 64 (p2)]) (N:=64) (k:=.u8) (base:=0) (lo:=0) (hi:=32) (mz:=64) (.there (.app (.there (.there .here)))) rfl (by decide)) w hw)) (.cons (Z6t ((Z1z (s:=[.ints .u8 32 (p0)]) (N:=32) (k:=.u8) (base:=0) (lo:=0) (hi:=32) (mz:=32) (.there (.app (.there (.there (.there .here))))) rfl (by decide)) w hw)) (.cons (Z6t ((Z2a A1 Z2m) w hw)) .nil))))) (Z2h rfl (Zs (q:=[.ints .u8 32 (y28)]) rfl rfl rfl rfl rfl .here (Z03 (⟨y28,b29,h,⟨⟨rfl,rfl,rfl,rfl,trivial⟩,(.one .here (.one (.app .here) (.one (.app .here) (.one (.app .here) (.one (.app .here) .nil)))))⟩⟩)))) (by repeat (first | exact Sup.refl _ | apply Sup.cons | apply Sup.app))
   ·exact Z7h (Z9r (E:=El.sl) (xs:=[unS (.slice (some (Z22 b3 0 0 64 1)) (32-0) (64-0)),unS (.slice (some (Z22 b2 0 0 32 1)) (32-0) (32-0)),unS v1]) (.one rfl (Zdg.cells ⟨_,_,_,rfl⟩) rfl (.one rfl (Zdg.cells ⟨_,_,_,rfl⟩) rfl (.one rfl (Zdg.cells (Shp.isSl (Shp.rd A1))) rfl BdR.nil))) (.cons (p:=[.one (.slice (some (Z22 b3 0 0 64 1)) (32-0) (64-0))]) (Z7d ⟨_,_,_,rfl⟩) (.cons (p:=[.one (.slice (some (Z22 b2 0 0 32 1)) (32-0) (32-0))]) (Z7d ⟨_,_,_,rfl⟩) (.cons (p:=[.one v1]) (Z7d (Shp.isSl (Shp.rd A1))) .nil))) rfl fun v25 ms26 O27=>⟨(by repeat (first | exact Sup.refl _ | apply Sup.cons | apply Sup.app)),Znk _ (Z0m rfl (fun w hw=>Z43 ey28 (hG.at hw (by simp)) (Z1x O27 .here w hw) (.cons (Z6t ((Z1z (s:=[.ints .u8 64 (p2)]) (N:=64) (k:=.u8) (base:=0) (lo:=0) (hi:=32) (mz:=64) (.app (.there (.there (.there .here)))) rfl (by decide)) w hw)) (.cons (Z6t ((Z1z (s:=[.ints .u8 32 (p0)]) (N:=32) (k:=.u8) (base:=0) (lo:=0) (hi:=32) (mz:=32) (.app (.there (.there (.there (.there .here))))) rfl (by decide)) w hw)) (.cons (Z6t ((Z2a A1 Z2m) w hw)) .nil))))) (Z2h rfl (Zs (q:=[.ints .u8 32 (y28)]) rfl rfl rfl rfl rfl (.app .here) (Z03 (⟨y28,b29,h,⟨⟨rfl,rfl,rfl,rfl,trivial⟩,(.one (.app .here) (.one (.app .here) (.one (.app .here) (.one (.app .here) (.one (.app .here) .nil)))))⟩⟩)))) (by repeat (first | exact Sup.refl _ | apply Sup.cons | apply Sup.app))⟩)
  ·rintro t m ⟨a22,b21,h,hF⟩
   refine Zm hF ?_
   clear hF
   subst qk23
   refine Z0<|oH h fun y31 ey31 h=>oH h fun y32 ey32 h=>oH h fun y33 ey33 h=>Zu<|Zn _ (Z02 (p:=[.ints .u8 32 (a22)]) rfl .here rfl)<|Zn _ (Z02 (p:=[.ints .u64 5 (y5.1.gX),.ints .u64 5 (y5.1.gY),.ints .u64 5 (y5.1.gZ),.ints .u64 5 (y5.1.gT)]) rfl (.there (.there .here)) rfl)<|Z7 _ (Z1a rfl (Zgk ey31))<|Zn _ (Z02 (p:=[.ints .u8 32 (z9)]) rfl (.there .here) rfl)<|Z7 _ (Z1a rfl (Zdn ey32))<|Z7 _ (Z1a rfl (Z5z ey33))<|Z7h (Zw fun b34 hb34=>⟨(by repeat (first | exact Sup.refl _ | apply Sup.cons | apply Sup.app)),Z2h rfl (Zs (q:=[.ints .u8 32 (y33)]) rfl rfl rfl rfl rfl .here (Z03 (Z0 (cH h fun c36 h=>bH h fun z37 ez37 h=>Zu (Z7 _ (Z90 rfl .no (.yes rfl) .no (by simp) (by decide)) (Z7 _ (Zpg rfl (Shp.blk (lo:=0) (hi:=32) (mz:=64) (by decide) (by simp [Zy])) (by decide) c36) (Zn _ (Z02 (p:=[.ints .u8 32 (y33)]) rfl .here rfl) (Zn _ (az (fun z=>agg [.ints .u8 32 z]) ez37 (Zvh rfl (Z1z (s:=[.ints .u8 64 (p2)]) (N:=64) (k:=.u8) (base:=0) (lo:=0) (hi:=32) (mz:=64) (.there (.there (.there (.there .here)))) rfl (by decide)) (by decide) c36)) (Z7 _ (Zgo rfl rfl rfl rfl _ (Z88 Z87)) (Z7 _ (Z19 rfl) (Z03 (Zk ?_))))))))))))⟩)
   revert h; refine Zz fun h=>?_
   subst h
   exact ⟨_,(.cons (.tmp rfl) .nil),rfl⟩
def Z04 (p0:List (List Int)) (p1:List Int) (k37:Unit→Option (Int)) (k59:(Int)→Option (Int)) (i58:Int):Option (Int) :=
 br ((decide (i58<(p0.length:Int)))) (
 chk (inB i58 p0.length) <|
 bnd (p0.getD (i58).toNat (List.replicate 32 0)) fun x66 =>
 br ((ieq 32 p1 x66)) (
 some i58
 ) (
 bnd (IntKind.wrap .i64 (i58+1)) fun z70 =>
 k59 z70
 )
 ) (
 k37 ()
 )
def Zt (p0:List (List Int)) (p1:List Int) (k37:Unit→Option (Int)):Nat→(Int)→Option (Int)
  | 0,_=>none
  | n+1,i58=>Z04 p0 p1 k37 (Zt p0 p1 k37 n) i58
def Z20 (p0:List (List Int)) (p1:List Int):Option (Int) :=
 jn (fun (_:Unit)=>some (-1)) fun k37=>Zt p0 p1 k37 big 0
theorem Z7e {W:World} {r:Int} {p0:List (List Int)} {p1:List Int} {v0:Value} (h:Z20 p0 p1=some r) (A0:RdSl E_a32_El_int_u8 W v0 p0) :
    Calls Tryd.prog 69 [v0,agg [.ints .u8 32 (p1)]].toArray W (Z56 W (.int .i64 (r))):=by
 unfold Z20 at h
 refine Zd mo ok69 rfl ?_
 refine Z0<|Z2<|Zg (Z14 (s:=[.ints .u8 32 (p1)]) rfl fun b2 hb2=>Z8 rfl<|Z1<|Z0<|Z0<|Z2<|Z8 rfl<|Z6 _ (Z2i rfl (Shp.rd A0))<|Z8 rfl<|Z1<|jH h fun k37 qk37 h=>Zo (G:=fun t m=>k37 ()=some r∧Fit [] (ck b2 27 [.ints .u8 32 (p1)] :: []) t m) ?_ ?_)
 ·refine Zb<|Z01 (fun n60 t m=>∃ (i58:Int),Zt p0 p1 k37 n60 i58=some r∧Fit [(0,v0),(3,.pointer (some ⟨b2,0,none⟩)),(7,.int .i64 ((p0.length:Int))),(8,.int .i64 (i58))] (ck b2 27 [.ints .u8 32 (p1)] :: []) t m) big ?_ ?_
  ·exact ⟨0,h,⟨⟨rfl,rfl,rfl,rfl,trivial⟩,(.one .here .nil)⟩⟩
  ·rintro n60 t m ⟨i58,h,hF⟩
   refine Zm hF ?_
   clear hF
   rcases n60 with _ | n60
   · exact Z1c h
   have h:Z04 p0 p1 k37 (Zt p0 p1 k37 n60) i58=some r:=h
   unfold Z04 at h
   obtain ⟨k59,qk59⟩ : ∃ k,k=Zt p0 p1 k37 n60:=⟨_,rfl⟩
   try rw [← qk59] at h
   refine Z0<|Z2<|Z6 _ (Za rfl rfl rfl)<|Z1<|Z0<|Z0l h rfl (fun h=>?_) (fun h=>?_)
   ·refine Zl<|Z0<|Zb<|Z0<|Z2<|Z8 rfl<|Z8 rfl<|Z1<|Z0<|cH h fun c65 h=>bH h fun x66 ex66 h=>Zu<|Z7 _ (Z19 rfl)<|Z7 _ (Z19 rfl)<|Z7 _ (Z4m rfl rfl (Shp.rd A0) c65)<|Zn _ (Z02 (p:=[.ints .u8 32 (p1)]) rfl .here rfl)<|Zn _ (az (fun (x66:List Int)=>agg [.ints .u8 32 (x66)]) ex66 (Zba (E:=E_a32_El_int_u8) (s:=[.ints .u8 32 ((p0.getD (i58).toNat (List.replicate 32 0)))]) rfl (Z2a A0 Z2m) (Z18 c65) rfl rfl))<|Z7 _ (Zgo rfl rfl rfl rfl _ (Z88 Z87))<|Z03<|Z0l h rfl (fun h=>?_) (fun h=>?_)
    ·refine Z0<|Z2<|Z8 rfl<|Z8 rfl<|Z1<|Zk ?_
     revert h; refine Zz fun h=>?_
     subst h
     exact ⟨_,(.cons (.tmp rfl) .nil),rfl⟩
    ·refine Zl<|bH h fun z70 ez70 h=>Z2<|Z6 _ (iz ez70 (Za rfl rfl rfl))<|Z8 rfl<|Z1 ?_
     rw [qk59] at h
     exact ⟨n60,Nat.lt_succ_self _,z70,h,⟨⟨rfl,rfl,rfl,rfl,trivial⟩,(.one .here .nil)⟩⟩
   ·exact Z0b _ rfl<|⟨h,⟨trivial,(.one .here .nil)⟩⟩
 ·rintro t m ⟨h,hF⟩
  refine Zm hF ?_
  clear hF
  subst qk37
  refine Z0<|Z2<|Z8 rfl<|Z1<|Zk ?_
  revert h; refine Zz fun h=>?_
  subst h
  exact ⟨_,(.cons (.tmp rfl) .nil),rfl⟩
def Z0f (p0:List (List Int)) (p1:List Int):Option (Bool) :=
 opt (Z20 p0 p1) fun y4 =>
 some (decide (y4≥0))
theorem Z6b {W:World} {r:Bool} {p0:List (List Int)} {p1:List Int} {v0:Value} (h:Z0f p0 p1=some r) (A0:RdSl E_a32_El_int_u8 W v0 p0) :
    Calls Tryd.prog 31 [v0,agg [.ints .u8 32 (p1)]].toArray W (Z56 W (.bool (r))):=by
 unfold Z0f at h
 refine Zd mo ok31 rfl ?_
 refine Z0<|Z2<|Zg (Z14 (s:=[.ints .u8 32 (p1)]) rfl fun b2 hb2=>Z8 rfl<|Z1<|Z0<|oH h fun y4 ey4 h=>Z2<|Z8 rfl<|Z6 _ (Z02 (p:=[.ints .u8 32 (p1)]) rfl .here rfl)<|Z6 _ (Z0m rfl (fun w hw=>Z7e ey4 ((Z2a A0 Z2m) w hw)))<|Z6 _ (Za rfl rfl rfl)<|Z8 rfl<|Z1<|Zk ?_)
 revert h; refine Zz fun h=>?_
 subst h
 exact ⟨_,(.cons (.tmp rfl) .nil),rfl⟩
def Z2z (p1:List (Zp)) (k119:(Int)→(List Int)→(List (List Int))→Option ((List (List Int))×Int)) (i113:Int) (a114:List Int) (l117:List (List Int)):Option ((List (List Int))×Int) :=
 br ((decide (i113<(p1.length:Int)))) (
 chk (inB i113 p1.length) <|
 bnd (p1.getD (i113).toNat Z38) fun x125 =>
 chk (imp (!(x125.gEpoch != (l117.length:Int))) ((Z0f l117 x125.gKey).isSome)) <|
 br (((x125.gEpoch != (l117.length:Int))||((Z0f l117 x125.gKey).getD false))) (
 some ([],171)
 ) (
 opt (Z7x x125) fun y137 =>
 opt (Z28 a114 y137.2 x125.gSig) fun y144 =>
 br ((!y144)) (
 some ([],110)
 ) (
 chk (decide ((l117.length+([x125.gKey]:List (List Int)).length)*32≤140737488355328)) <|
 bnd (l117++([x125.gKey]:List (List Int))) fun l152 =>
 bnd (IntKind.wrap .i64 (i113+1)) fun z158 =>
 k119 z158 x125.gKey l152
 )
 )
 ) (
 some (l117,0)
 )
def Z30 (p1:List (Zp)):Nat→(Int)→(List Int)→(List (List Int))→Option ((List (List Int))×Int)
  | 0,_,_,_=>none
  | n+1,i113,a114,l117=>Z2z p1 (Z30 p1 n) i113 a114 l117
def Z3v (p0:List Int) (p1:List (Zp)):Option ((List (List Int))×Int) :=
 br ((decide ((p1.length:Int)>64))) (
 some ([],1)
 ) (
 Z30 p1 big 0 p0 ([p0]:List (List Int))
 )
theorem Z5b {W:World} {r:(List (List Int))×Int} {p0:List Int} {p1:List (Zp)} {v1:Value} (h:Z3v p0 p1=some r) (hG:Globs W) (A1:RdSl Z5x W v1 p1) :
    Calls Tryd.prog 15 [agg [.ints .u8 32 (p0)],v1].toArray W (Zek W [] (fun v Ms=>∃ (u0:Value) (M0:List Zc),v = .tuple #[u0,.int .i64 (r.2)]∧Ms = [.all M0]∧Z1n E_a32_El_int_u8 u0 M0 r.1)):=by
 unfold Z3v at h
 refine Zkf mo ok15 rfl (Zih _) ?_
 refine Zl4<|Z2<|Zg (Z14 (s:=[.ints .u8 32 (p0)]) rfl fun b2 hb2=>Zg (Zw fun b3 hb3=>Zg (Zw fun b4 hb4=>Z1<|Zl4<|Z0<|Z2<|Z8 rfl<|Z6 _ (Z2i rfl (Shp.rd A1))<|Z6 _ (Za rfl rfl rfl)<|Z1<|Z0l h rfl (fun h=>?_) (fun h=>?_))))
 ·refine Z0<|Z2<|Zg (Z9c (q:=[.one (.slice none 0 0)]) rfl rfl rfl rfl (.there .here)<|Zg (Z9c (q:=[.one (.int .i64 (1))]) rfl rfl rfl rfl .here<|Z1<|Zk<|Zrz ?_))
  revert h; refine Zz fun h=>?_
  subst h
  exact ⟨_,_,(.cons (.one rfl (.there .here) rfl) (.cons (.one rfl .here rfl) .nil)),(.no .nil),⟨_,rfl,⟨(.slice none 0 0),[],rfl,rfl,Z8u⟩⟩⟩
 ·refine Zl<|Zl4<|Z2<|Z6 _ (Z02 (p:=[.ints .u8 32 (p0)]) rfl (.there (.there .here)) rfl)<|Zg (Z9r (E:=E_a32_El_int_u8) (xs:=[p0]) (.agg rfl rfl rfl BdR.nil) (.cons (p:=[.ints .u8 32 (p0)]) rfl .nil) rfl fun v9 ms10 O11=>Zg (Zw fun b12 hb12=>Zg (Z9c (q:=[.one (v9)]) rfl rfl (Zdg.one1 (Z1n.isSl O11)) rfl .here<|Z1<|Zw8 (dg:=d68) ok68 rfl (by kernel_rfl)<|Z2<|Z6 _ (Z02 (p:=[.ints .u8 32 (p0)]) rfl (.there (.app (.there (.there .here)))) rfl)<|Z8 rfl<|Zg (Z0j rfl (fun w hw=>Ze1 (p0:=p0) (Shp.isSl (Shp.rd A1))) fun v14 Msv14 R15=>?_))))
  obtain ⟨b16,U17,bb18,UU19,rfl,rfl⟩:=R15
  refine Z1<|⟨[.pointer (some ⟨b16,0,none⟩),.pointer (some ⟨bb18,0,none⟩)],rfl,rfl,fun L20 D21 R22 hp23 ha24 hb25 hr26=>Z0 (Z2 (Z6 _ (Z02 (p:=[.ints .u8 32 (p0)]) rfl (.there (.there .here)) rfl) (Zg (Zw fun b28 hb28=>Zg (Zs (q:=[.ints .u8 32 (p0)]) rfl rfl rfl rfl rfl .here (Z1 (Z0 (Z2 (Z6 _ (Z2k rfl (.there (.there (.there (.there .here)))) rfl) (Z6 _ (Z2i rfl (Shp.rd A1)) (Z8 rfl (Z1 (Zb (Z01 (fun n120 t m=>∃ (i113:Int) (a114:List Int) (l117:List (List Int)) (v115:Value) (ms116:List Zc),Z30 p1 n120 i113 a114 l117=some r∧Z1n E_a32_El_int_u8 v115 ms116 l117∧Fit [(0,.func (.yield L20) #[] #[]),(4,.pointer (some ⟨b28,0,none⟩)),(8,v1),(9,.int .i64 ((p1.length:Int))),(10,.int .i64 (i113))] (ck b28 27 [.ints .u8 32 (a114)]::(lpc L20 (ra R22 .ready none)::(dfc D21::(ck b16 U17 [.ints .u8 32 (p0)]::(ck bb18 UU19 [.one (v1)]::(ck b12 23 [.one (v115)]::(ck b4 50 [.one (.int .i64 (0))]::(ck b3 23 [.one (.slice none 0 0)]::(ck b2 27 [.ints .u8 32 (p0)]::(ms116 ++ [])))))))))) t m) big ?_ ?_))))))))))))))⟩
  ·exact ⟨0,p0,([p0]:List (List Int)),v9,ms10,h,O11,⟨⟨rfl,rfl,rfl,rfl,rfl,trivial⟩,(.one .here (.one .here (.one .here (.one .here (.one .here (.one .here (.one (.app .here) (.one (.app .here) (.one (.app .here) (.all .here .nil))))))))))⟩⟩
  ·rintro n120 t m ⟨i113,a114,l117,v115,ms116,h,O118,hF⟩
   refine Zm hF ?_
   clear hF
   rcases n120 with _ | n120
   · exact Z1c h
   have h:Z2z p1 (Z30 p1 n120) i113 a114 l117=some r:=h
   unfold Z2z at h
   obtain ⟨k119,qk119⟩ : ∃ k,k=Z30 p1 n120:=⟨_,rfl⟩
   try rw [← qk119] at h
   refine Z0<|Z2<|Z6 _ (Za rfl rfl rfl)<|Z1<|Z0<|Z0l h rfl (fun h=>?_) (fun h=>?_)
   ·refine Zl<|Z0<|Zb<|Z0<|cH h fun c124 h=>bH h fun x125 ex125 h=>Z2<|Z6 _ (Z4m rfl rfl (Shp.rd A1) c124)<|Z6 _ (az (fun (x125:Zp)=>agg [.one (.int .i64 (x125.gEpoch)),.ints .u8 32 (x125.gKey),.ints .u8 64 (x125.gSig)]) ex125 (Zba (E:=Z5x) (s:=[.one (.int .i64 (((p1.getD (i113).toNat Z38)).gEpoch)),.ints .u8 32 (((p1.getD (i113).toNat Z38)).gKey),.ints .u8 64 (((p1.getD (i113).toNat Z38)).gSig)]) rfl (Z2a A1 Z2m) (Z18 c124) rfl rfl))<|Zg (Zw fun b126 hb126=>Zg (Zs (q:=[.one (.int .i64 (x125.gEpoch)),.ints .u8 32 (x125.gKey),.ints .u8 64 (x125.gSig)]) rfl rfl rfl rfl rfl .here<|Z1<|Z0<|Z0<|Z2<|Z8 rfl<|Z6 _ (Z02 (p:=[.ints .u8 32 (a114)]) rfl (.there .here) rfl)<|Z6 _ (Z02 (p:=[.one (.int .i64 (x125.gEpoch)),.ints .u8 32 (x125.gKey),.ints .u8 64 (x125.gSig)]) rfl .here rfl)<|Zsh rfl rfl (.there (.there .here)) (by rw [← Array.length_toList,hp23]; rfl) (Zqb hr26 hp23 rfl rfl) mo ha24 hb25<|Z0<|Z2<|Zg (Zw fun b129 hb129=>Zg (Zs (q:=[.ints .u8 32 (a114)]) rfl rfl rfl rfl rfl .here<|Z1<|Z2<|Zg (Zw fun b131 hb131=>Zg (Zs (q:=[.one (.int .i64 (x125.gEpoch)),.ints .u8 32 (x125.gKey),.ints .u8 64 (x125.gSig)]) rfl rfl rfl rfl rfl .here<|Z1<|⟨_,(.there (.there .here)),Zb (Z0 (Z0 (cH h fun c133 h=>Z2 (Z6 _ (Z6c rfl) (Z6 _ (Z2k rfl (.there .here) rfl) (Z6 _ (Z2k rfl (.there (.there (.there (.there (.there (.there (.there (.there .here)))))))) rfl) (Z6 _ (Z2i rfl (Shp.own O118)) (Z6 _ (Za rfl rfl rfl) (Z8 rfl (Zf8 rfl rfl rfl (fun hg1=>Z45 rfl _ (Z2k rfl (.there (.there (.there (.there (.there (.there (.there (.there .here)))))))) rfl) (Z45 rfl _ (Z6c rfl) (Z45 rfl _ (Z02 (p:=[.ints .u8 32 (x125.gKey)]) rfl (.there .here) rfl) (Z45 rfl _ (Z0m rfl (fun w hw=>Z6b (getD_some (z:=false) (Zmy c133 hg1)) ((Z1x O118 (.there (.there (.there (.there (.there (.there (.there (.there (.there (.there (.there (.there .here))))))))))))) w hw))) (Z3k))))) (fun hg1=>rfl) rfl (Z1 (Z0l h rfl (fun h=>?_) (fun h=>?_)))))))))))))⟩))))))
    ·refine Z0<|Z2<|Zg (Z9c (q:=[.one (.slice none 0 0)]) rfl rfl rfl rfl (.there (.there (.there (.there (.there (.there (.there (.there (.there (.there .here))))))))))<|Zg (Z9c (q:=[.one (.int .i64 (171))]) rfl rfl rfl rfl (.there (.there (.there (.there (.there (.there (.there (.there (.there .here)))))))))<|Z1<|Zk<|⟨_,.here,Z6 _ (Zm1 rfl rfl) (Z1 (Zse rfl (fun _=>Zk (.inr ⟨_,_,.here,(.there (.there (.there (.there .here)))),Zrz ?_⟩)) (fun h=>absurd h (by decide))))⟩))
     revert h; refine Zz fun h=>?_
     subst h
     exact ⟨_,_,(.cons (.one rfl (.there (.there (.there (.there (.there (.there (.there (.there .here)))))))) rfl) (.cons (.one rfl (.there (.there (.there (.there (.there (.there (.there .here))))))) rfl) .nil)),(.no .nil),⟨_,rfl,⟨(.slice none 0 0),[],rfl,rfl,Z8u⟩⟩⟩
    ·refine Zl<|Z0<|Z0<|oH h fun y137 ey137 h=>oH h fun y144 ey144 h=>Zu<|Z7 _ (Z6c rfl)<|Zn _ (Z02 (p:=[.ints .u8 32 (a114)]) rfl (.there (.there .here)) rfl)<|Zn _ (Z02 (p:=[.one (.int .i64 (x125.gEpoch)),.ints .u8 32 (x125.gKey),.ints .u8 64 (x125.gSig)]) rfl (.there .here) rfl)<|Zn _ (Z02 (p:=[.ints .u8 64 (x125.gSig)]) rfl (.there .here) rfl)<|Z7h (Z0j rfl (fun w hw=>Z9h  ey137 ) fun v138 Msv138 R139=>?_)
     obtain ⟨_,ms141,rfl,rfl,O142,N143⟩:=R139
     refine ⟨(by repeat (first | exact Sup.refl _ | apply Sup.cons | apply Sup.app)),Znk _ (Z0m rfl (fun w hw=>Zbg ey144 (hG.at hw (by simp)) ((Z1x O142 .here) w hw))) (Z7 _ (Zm1 rfl rfl) (Z03 (Z0l h rfl (fun h=>?_) (fun h=>?_)))) (by repeat (first | exact Sup.refl _ | apply Sup.cons | apply Sup.app))⟩
     ·refine Z0<|Z2<|Zg (Z9c (q:=[.one (.slice none 0 0)]) rfl rfl rfl rfl (.app (.there (.there (.there (.there (.there (.there (.there (.there (.there (.there .here)))))))))))<|Zg (Z9c (q:=[.one (.int .i64 (110))]) rfl rfl rfl rfl (.app (.there (.there (.there (.there (.there (.there (.there (.there (.there .here))))))))))<|Z1<|Zk<|⟨_,(.app .here),Z6 _ (Zm1 rfl rfl) (Z1 (Zse rfl (fun _=>Zk (.inr ⟨_,_,.here,(.app (.there (.there (.there (.there .here))))),Zrz ?_⟩)) (fun h=>absurd h (by decide))))⟩))
      revert h; refine Zz fun h=>?_
      subst h
      exact ⟨_,_,(.cons (.one rfl (.app (.there (.there (.there (.there (.there (.there (.there (.there .here))))))))) rfl) (.cons (.one rfl (.app (.there (.there (.there (.there (.there (.there (.there .here)))))))) rfl) .nil)),(.no .nil),⟨_,rfl,⟨(.slice none 0 0),[],rfl,rfl,Z8u⟩⟩⟩
     ·refine Zl<|cH h fun c151 h=>bH h fun l152 el152 h=>Z2<|Z6 _ (Z2k rfl (.app (.there (.there (.there (.there (.there (.there (.there (.there .here))))))))) rfl)<|Z6 _ (Z6c rfl)<|Z6 _ (Z02 (p:=[.ints .u8 32 (x125.gKey)]) rfl (.app (.there .here)) rfl)<|Zg (Z9r (E:=E_a32_El_int_u8) (xs:=[x125.gKey]) (.agg rfl rfl rfl BdR.nil) (.cons (p:=[.ints .u8 32 (x125.gKey)]) rfl .nil) rfl fun v148 ms149 O150=>Zg (Zar (E:=E_a32_El_int_u8) el152 rfl O118 (.app (.app (.there (.there (.there (.there (.there (.there (.there (.there (.there (.there (.there (.there .here)))))))))))))) rfl (Z1x O150 .here) c151 fun v153 ms154 O155=>Zg (Z9c (q:=[.one (v153)]) rfl rfl (Zdg.one1 (Z1n.isSl O155)) rfl (.app (.app (.app (.there (.there (.there (.there (.there (.there (.there (.there .here)))))))))))<|Z1<|⟨_,(.app (.app (.app .here))),Z6 _ (Zm1 rfl rfl) (Z1 (Zse rfl (fun h=>absurd h (by decide)) (fun _=>Zl (Z2 (Z6 _ (Z6c rfl) (Z6 _ (Z02 (p:=[.ints .u8 32 (x125.gKey)]) rfl (.there (.app (.app (.app (.there (.there .here)))))) rfl) (Zg (Zs (q:=[.ints .u8 32 (x125.gKey)]) rfl rfl rfl rfl rfl (.there (.app (.app (.app (.there (.there (.there .here))))))) (Z1 (bH h fun z158 ez158 h=>Z2 (Z6 _ (iz ez158 (Za rfl rfl rfl)) (Z8 rfl (Z1 ?_)))))))))))))⟩)))
      rw [qk119] at h
      exact ⟨n120,Nat.lt_succ_self _,z158,x125.gKey,l152,v153,ms154,h,O155,⟨⟨rfl,rfl,rfl,rfl,rfl,trivial⟩,(.one (.there (.app (.app (.app (.there (.there (.there .here))))))) (.one .here (.one (.app (.app (.app (.there (.there (.there .here)))))) (.one (.app (.app (.app (.there (.there (.there .here)))))) (.one (.app (.app (.app (.there (.there (.there .here)))))) (.one (.app (.app (.app (.there (.there (.there .here)))))) (.one (.app (.app (.app (.there (.there (.there .here)))))) (.one (.app (.app (.app (.there (.there (.there .here)))))) (.one (.app (.app (.app (.there (.there (.there .here)))))) (.all .here .nil))))))))))⟩⟩
   ·refine Z0b _ rfl<|.inl ⟨_,(.there .here),Z6 _ (Z2k rfl (.there (.there (.there (.there .here)))) rfl) (Zg (Z9c (q:=[.one (v115)]) rfl rfl (Zdg.one1 (Z1n.isSl O118)) rfl (.there (.there (.there (.there (.there (.there .here)))))) (Zg (Z9c (q:=[.one (.int .i64 (0))]) rfl rfl rfl rfl (.there (.there (.there (.there (.there .here))))) (Z1 (⟨_,(.there .here),Zrz ?_⟩))))))⟩
    revert h; refine Zz fun h=>?_
    subst h
    exact ⟨_,_,(.cons (.one rfl (.there (.there (.there (.there (.there .here))))) rfl) (.cons (.one rfl (.there (.there (.there (.there .here)))) rfl) .nil)),(.all (.there (.there (.there (.there (.there (.there (.there .here))))))) .nil),⟨_,rfl,⟨v115,ms116,rfl,rfl,O118⟩⟩⟩
def Z08:Option (Bool) :=
 bnd (([5,0,0,0,0,0,0,0,0,0,0,0,0,0,0,0,0,0,0,0,0,0,0,0,0,0,0,0,0,0,0,0]:List Int)) fun z3 =>
 opt (Z3v z3 []) fun y4 =>
 bnd (([1,0,0,0,0,0,0,0,0,0,0,0,0,0,0,0,0,0,0,0,0,0,0,0,0,0,0,0,0,0,0,0]:List Int)) fun z11 =>
 bnd (([6,0,0,0,0,0,0,0,0,0,0,0,0,0,0,0,0,0,0,0,0,0,0,0,0,0,0,0,0,0,0,0]:List Int)) fun z12 =>
 opt (Z4t z11 1 z12) fun y13 =>
 jn (fun (i24:Bool)=>some i24) fun k25=>chk (imp ((y4.2==0)&&((y4.1.length:Int)==1)) (inB 0 y4.1.length)) <|
 br (((((((y4.2==0)&&((y4.1.length:Int)==1))&&(ieq 32 (y4.1.getD (0:Int).toNat (List.replicate 32 0)) ([5,0,0,0,0,0,0,0,0,0,0,0,0,0,0,0,0,0,0,0,0,0,0,0,0,0,0,0,0,0,0,0]:List Int)))&&y13.2)&&(y13.1.gEpoch==1))&&(ieq 32 y13.1.gKey ([6,0,0,0,0,0,0,0,0,0,0,0,0,0,0,0,0,0,0,0,0,0,0,0,0,0,0,0,0,0,0,0]:List Int)))) (
 opt (Z7x y13.1) fun y28 =>
 k25 ((y28.2.length:Int)==40)
 ) (
 k25 false
 )
theorem Z24 {W:World} {r:Bool} (h:Z08=some r) (hG:Globs W) :
    Calls Tryd.prog 14 [].toArray W (Z56 W (.bool (r))):=by
 unfold Z08 at h
 refine Zd mo ok14 rfl ?_
 refine Z0<|Z2<|Z8 rfl<|Z1<|Z0<|bH h fun z3 ez3 h=>oH h fun y4 ey4 h=>Z2<|Z6 _ (az (fun z=>agg [.ints .u8 32 z]) ez3 (Zdx (.one rfl rfl rfl BdR.nil)))<|Zg (Z0j rfl (fun w hw=>Z5b  ey4 (hG.at hw (by simp)) (Zvo w hw)) fun v5 Msv5 R6=>?_)
 obtain ⟨v7,ms8,rfl,rfl,O9⟩:=R6
 refine Z8 rfl<|Z6 _ (Z1j rfl rfl)<|Z6 _ (Z1j rfl rfl)<|Z8 rfl<|Z8 rfl<|Z1<|Z0<|bH h fun z11 ez11 h=>bH h fun z12 ez12 h=>oH h fun y13 ey13 h=>Z2<|Z6 _ (az (fun z=>agg [.ints .u8 32 z]) ez11 (Zdx (.one rfl rfl rfl BdR.nil)))<|Z6 _ (az (fun z=>agg [.ints .u8 32 z]) ez12 (Zdx (.one rfl rfl rfl BdR.nil)))<|Z6 _ (Z0m rfl (fun w hw=>Zbb ey13 (hG.at hw (by simp))))<|Z8 rfl<|Z6 _ (Z1j rfl rfl)<|Z6 _ (Z1j rfl rfl)<|Zg (Zw fun b14 hb14=>Zg (Zs (q:=[.one (.int .i64 (y13.1.gEpoch)),.ints .u8 32 (y13.1.gKey),.ints .u8 64 (y13.1.gSig)]) rfl rfl rfl rfl rfl .here<|Z8 rfl<|Z1<|Z0<|jH h fun k25 qk25 h=>Zo (G:=fun t m=>∃ (i24:Bool),k25 i24=some r∧Fit [(0,.bool (i24))] (ck b14 75 [.one (.int .i64 (y13.1.gEpoch)),.ints .u8 32 (y13.1.gKey),.ints .u8 64 (y13.1.gSig)] :: []) t m) ?_ ?_))
 ·refine Z2<|cH h fun c27 h=>Z8 rfl<|Z6 _ (Za rfl rfl rfl)<|Z8 rfl<|Zao rfl rfl rfl (fun hg1=>Z45 rfl _ (Z19 rfl) (Z45 rfl _ (Z2i rfl (Shp.own O9)) (Z45 rfl _ (Za rfl rfl rfl) (Z3k)))) (fun hg1=>rfl) rfl<|Z8 rfl<|Zao rfl rfl rfl (fun hg1=>Z45 rfl _ (Z19 rfl) (Z45 rfl _ (Z4m rfl rfl (Shp.own O9) (Zhy c27 hg1)) (Z45 rfl _ (az (fun (zz:List Int)=>agg [.ints .u8 32 (zz)]) rfl (Zba (E:=E_a32_El_int_u8) (s:=[.ints .u8 32 ((y4.1.getD (0:Int).toNat (List.replicate 32 0)))]) rfl (Z1x O9 (.there .here)) (Z18 (Zhy c27 hg1)) rfl rfl)) (Z45 rfl _ (az (fun z=>agg [.ints .u8 32 z]) rfl (Zdx (.one rfl rfl rfl BdR.nil))) (Z45 rfl _ (Zgo rfl rfl rfl rfl _ (Z88 Z87)) (Z3k)))))) (fun hg1=>rfl) rfl<|Z8 rfl<|Zao rfl rfl rfl (fun hg1=>Z45 rfl _ (Z19 rfl) (Z3k)) (fun hg1=>rfl) rfl<|Z8 rfl<|Zao rfl rfl rfl (fun hg1=>Z45 rfl _ (Z6c rfl) (Z45 rfl _ (Z2k rfl .here rfl) (Z45 rfl _ (Za rfl rfl rfl) (Z3k)))) (fun hg1=>rfl) rfl<|Z8 rfl<|Zao rfl rfl rfl (fun hg1=>Z45 rfl _ (Z6c rfl) (Z45 rfl _ (Z02 (p:=[.ints .u8 32 (y13.1.gKey)]) rfl .here rfl) (Z45 rfl _ (az (fun z=>agg [.ints .u8 32 z]) rfl (Zdx (.one rfl rfl rfl BdR.nil))) (Z45 rfl _ (Zgo rfl rfl rfl rfl _ (Z88 Z87)) (Z3k))))) (fun hg1=>rfl) rfl<|Z8 rfl<|Z0m9 (tc:=44) h rfl (fun h=>?_) (fun h=>?_)
  ·refine oH h fun y28 ey28 h=>Zw9 rfl _ (Z02 (p:=[.one (.int .i64 (y13.1.gEpoch)),.ints .u8 32 (y13.1.gKey),.ints .u8 64 (y13.1.gSig)]) rfl .here rfl)<|Z0ma rfl (Z0j rfl (fun w hw=>Z9h  ey28 ) fun v29 Msv29 R30=>?_)
   obtain ⟨_,ms32,rfl,rfl,O33,N34⟩:=R30
   exact Zw9 rfl _ (Z2i rfl (Shp.own O33))<|Zw9 rfl _ (Za rfl rfl rfl)<|Z6 _ (Zy2 rfl rfl)<|Z8 rfl<|Z1<|⟨((y28.2.length:Int)==40),h,⟨⟨rfl,trivial⟩,(.one (.app .here) .nil)⟩⟩
  ·exact Zsg rfl rfl<|Zsg rfl rfl<|Zsg rfl rfl<|Zsg rfl rfl<|Z6 _ (Zy1 rfl rfl)<|Z8 rfl<|Z1<|⟨false,h,⟨⟨rfl,trivial⟩,(.one .here .nil)⟩⟩
 ·rintro t m ⟨i24,h,hF⟩
  refine Zm hF ?_
  clear hF
  subst qk25
  refine Zk ?_
  revert h; refine Zz fun h=>?_
  subst h
  exact ⟨_,(.cons (.tmp rfl) .nil),rfl⟩
def Z0x (p0:List (List Int)) (p1:List (List Int)) (k42:Unit→Option (Bool)) (k66:(Int)→Option (Bool)) (i65:Int):Option (Bool) :=
 br ((decide (i65<(p0.length:Int)))) (
 chk (inB i65 p0.length) <|
 bnd (p0.getD (i65).toNat (List.replicate 32 0)) fun x72 =>
 chk (inB i65 p1.length) <|
 bnd (p1.getD (i65).toNat (List.replicate 32 0)) fun x74 =>
 br ((!(ieq 32 x72 x74))) (
 some false
 ) (
 bnd (IntKind.wrap .i64 (i65+1)) fun z78 =>
 k66 z78
 )
 ) (
 k42 ()
 )
def Z0y (p0:List (List Int)) (p1:List (List Int)) (k42:Unit→Option (Bool)):Nat→(Int)→Option (Bool)
  | 0,_=>none
  | n+1,i65=>Z0x p0 p1 k42 (Z0y p0 p1 k42 n) i65
def Z1u (p0:List (List Int)) (p1:List (List Int)):Option (Bool) :=
 br (((p0.length:Int) != (p1.length:Int))) (
 some false
 ) (
 jn (fun (_:Unit)=>some true) fun k42=>Z0y p0 p1 k42 big 0
 )
theorem Z9p {W:World} {r:Bool} {p0:List (List Int)} {p1:List (List Int)} {v0:Value} {v1:Value} (h:Z1u p0 p1=some r) (A0:RdSl E_a32_El_int_u8 W v0 p0) (A1:RdSl E_a32_El_int_u8 W v1 p1) :
    Calls Tryd.prog 16 [v0,v1].toArray W (Z56 W (.bool (r))):=by
 unfold Z1u at h
 refine Zd mo ok16 rfl ?_
 refine Z0<|Z2<|Z8 rfl<|Z1<|Z0<|Z0<|Z2<|Z8 rfl<|Z6 _ (Z2i rfl (Shp.rd A0))<|Z8 rfl<|Z6 _ (Z2i rfl (Shp.rd A1))<|Z6 _ (Za rfl rfl rfl)<|Z1<|Z0l h rfl (fun h=>?_) (fun h=>?_)
 ·refine Z0<|Z2<|Z8 rfl<|Z1<|Zk ?_
  revert h; refine Zz fun h=>?_
  subst h
  exact ⟨_,(.cons (.tmp rfl) .nil),rfl⟩
 ·refine Zl<|Z0<|Z0<|Z2<|Z8 rfl<|Z1<|jH h fun k42 qk42 h=>Zo (G:=fun t m=>k42 ()=some r∧Fit [] [] t m) ?_ ?_
  ·refine Zb<|Z01 (fun n67 t m=>∃ (i65:Int),Z0y p0 p1 k42 n67 i65=some r∧Fit [(0,v0),(1,v1),(5,.int .i64 (i65))] [] t m) big ?_ ?_
   ·exact ⟨0,h,⟨⟨rfl,rfl,rfl,trivial⟩,.nil⟩⟩
   ·rintro n67 t m ⟨i65,h,hF⟩
    refine Zm hF ?_
    clear hF
    rcases n67 with _ | n67
    · exact Z1c h
    have h:Z0x p0 p1 k42 (Z0y p0 p1 k42 n67) i65=some r:=h
    unfold Z0x at h
    obtain ⟨k66,qk66⟩ : ∃ k,k=Z0y p0 p1 k42 n67:=⟨_,rfl⟩
    try rw [← qk66] at h
    refine Z0<|Z0<|Z2<|Z8 rfl<|Z8 rfl<|Z6 _ (Z2i rfl (Shp.rd A0))<|Z6 _ (Za rfl rfl rfl)<|Z1<|Z0l h rfl (fun h=>?_) (fun h=>?_)
    ·refine Zl<|Z0<|Zb<|Z0<|cH h fun c71 h=>bH h fun x72 ex72 h=>cH h fun c73 h=>bH h fun x74 ex74 h=>Zu<|Z7 _ (Z19 rfl)<|Z7 _ (Z19 rfl)<|Z7 _ (Z4m rfl rfl (Shp.rd A0) c71)<|Z7 _ (Z19 rfl)<|Z7 _ (Z19 rfl)<|Z7 _ (Z4m rfl rfl (Shp.rd A1) c73)<|Zn _ (az (fun (x72:List Int)=>agg [.ints .u8 32 (x72)]) ex72 (Zba (E:=E_a32_El_int_u8) (s:=[.ints .u8 32 ((p0.getD (i65).toNat (List.replicate 32 0)))]) rfl (Z2a A0 Z2m) (Z18 c71) rfl rfl))<|Zn _ (az (fun (x74:List Int)=>agg [.ints .u8 32 (x74)]) ex74 (Zba (E:=E_a32_El_int_u8) (s:=[.ints .u8 32 ((p1.getD (i65).toNat (List.replicate 32 0)))]) rfl (Z2a A1 Z2m) (Z18 c73) rfl rfl))<|Z7 _ (Zgo rfl rfl rfl rfl _ (Z88 Z87))<|Z03<|Z0l h rfl (fun h=>?_) (fun h=>?_)
     ·refine Z0<|Z2<|Z8 rfl<|Z1<|Zk ?_
      revert h; refine Zz fun h=>?_
      subst h
      exact ⟨_,(.cons (.tmp rfl) .nil),rfl⟩
     ·refine Zl<|bH h fun z78 ez78 h=>Z2<|Z8 rfl<|Z6 _ (iz ez78 (Za rfl rfl rfl))<|Z8 rfl<|Z1 ?_
      rw [qk66] at h
      exact ⟨n67,Nat.lt_succ_self _,z78,h,⟨⟨rfl,rfl,rfl,trivial⟩,.nil⟩⟩
    ·exact Z0b _ rfl<|⟨h,⟨trivial,.nil⟩⟩
  ·rintro t m ⟨h,hF⟩
   refine Zm hF ?_
   clear hF
   subst qk42
   refine Z0<|Z2<|Z8 rfl<|Z1<|Zk ?_
   revert h; refine Zz fun h=>?_
   subst h
   exact ⟨_,(.cons (.tmp rfl) .nil),rfl⟩
def Z3w (p0:List Int) (p1:List (Zp)) (p2:Int) (p3:Int) (p4:List Int) (p5:List Int):Option (Int) :=
 opt (Z3v p0 p1) fun y5 =>
 br ((y5.2 != 0)) (
 some y5.2
 ) (
 br ((((decide (p2<0))||(decide (p3<0)))||(decide (p3≥(y5.1.length:Int))))) (
 some 2
 ) (
 br ((decide (p3<p2))) (
 some 192
 ) (
 chk (inB p3 y5.1.length) <|
 bnd (y5.1.getD (p3).toNat (List.replicate 32 0)) fun x22 =>
 opt (Z28 x22 p4 p5) fun y23 =>
 br ((!y23)) (
 some 110
 ) (
 some 0
 )
 )
 )
 )
theorem Z9v {W:World} {r:Int} {p0:List Int} {p1:List (Zp)} {p2:Int} {p3:Int} {p4:List Int} {p5:List Int} {v1:Value} {v4:Value} (h:Z3w p0 p1 p2 p3 p4 p5=some r) (hG:Globs W) (A1:RdSl Z5x W v1 p1) (A4:RdSl (El.int .u8) W v4 p4) :
    Calls Tryd.prog 17 [agg [.ints .u8 32 (p0)],v1,.int .i64 (p2),.int .i64 (p3),v4,agg [.ints .u8 64 (p5)]].toArray W (Z56 W (.int .i64 (r))):=by
 unfold Z3w at h
 refine Zd mo ok17 rfl ?_
 refine Z0<|Z2<|Zg (Z14 (s:=[.ints .u8 32 (p0)]) rfl fun b2 hb2=>Zg (Z14 (s:=[.ints .u8 64 (p5)]) rfl fun b3 hb3=>Z8 rfl<|Z1<|Z0<|oH h fun y5 ey5 h=>Z2<|Z6 _ (Z02 (p:=[.ints .u8 32 (p0)]) rfl (.there .here) rfl)<|Z8 rfl<|Zg (Z0j rfl (fun w hw=>Z5b  ey5 (hG.at hw (by simp)) ((Z2a A1 Z2m) w hw)) fun v6 Msv6 R7=>?_)))
 obtain ⟨v8,ms9,rfl,rfl,O10⟩:=R7
 refine Z8 rfl<|Z6 _ (Z1j rfl rfl)<|Z6 _ (Z1j rfl rfl)<|Z8 rfl<|Z8 rfl<|Z1<|Z0<|Zb<|Z0<|Z2<|Z8 rfl<|Z6 _ (Za rfl rfl rfl)<|Z8 rfl<|Z1<|Z0l h rfl (fun h=>?_) (fun h=>?_)
 ·refine Z0<|Z2<|Z8 rfl<|Z8 rfl<|Z1<|Zk ?_
  revert h; refine Zz fun h=>?_
  subst h
  exact ⟨_,(.cons (.tmp rfl) .nil),rfl⟩
 ·refine Z0<|Z2<|Z8 rfl<|Z6 _ (Za rfl rfl rfl)<|Z8 rfl<|Zf8 rfl rfl rfl (fun hg1=>Z45 rfl _ (Z19 rfl) (Z45 rfl _ (Za rfl rfl rfl) (Z3k))) (fun hg1=>rfl) rfl<|Z8 rfl<|Zf8 rfl rfl rfl (fun hg1=>Z45 rfl _ (Z19 rfl) (Z45 rfl _ (Z19 rfl) (Z45 rfl _ (Z2i rfl (Shp.own O10)) (Z45 rfl _ (Za rfl rfl rfl) (Z3k))))) (fun hg1=>rfl) rfl<|Z8 rfl<|Z1<|Z0l h rfl (fun h=>?_) (fun h=>?_)
  ·refine Z0<|Z2<|Z8 rfl<|Z1<|Zk ?_
   revert h; refine Zz fun h=>?_
   subst h
   exact ⟨_,(.cons (.tmp rfl) .nil),rfl⟩
  ·refine Z0<|Z2<|Z8 rfl<|Z8 rfl<|Z6 _ (Za rfl rfl rfl)<|Z8 rfl<|Z1<|Z0l h rfl (fun h=>?_) (fun h=>?_)
   ·refine Z0<|Z2<|Z8 rfl<|Z1<|Zk ?_
    revert h; refine Zz fun h=>?_
    subst h
    exact ⟨_,(.cons (.tmp rfl) .nil),rfl⟩
   ·refine Z0<|cH h fun c21 h=>bH h fun x22 ex22 h=>oH h fun y23 ey23 h=>Zu<|Z7 _ (Z19 rfl)<|Z7 _ (Z19 rfl)<|Z7 _ (Z4m rfl rfl (Shp.own O10) c21)<|Z7 _ (Z19 rfl)<|Zn _ (az (fun (x22:List Int)=>agg [.ints .u8 32 (x22)]) ex22 (Zba (E:=E_a32_El_int_u8) (s:=[.ints .u8 32 ((y5.1.getD (p3).toNat (List.replicate 32 0)))]) rfl (Z1x O10 .here) (Z18 c21) rfl rfl))<|Zn _ (Z02 (p:=[.ints .u8 64 (p5)]) rfl (.app .here) rfl)<|Zn _ (Z0m rfl (fun w hw=>Zbg ey23 (hG.at hw (by simp)) ((Z2a A4 Z2m) w hw)))<|Z7 _ (Zm1 rfl rfl)<|Z7 _ (Z19 rfl)<|Z03<|Z0l h rfl (fun h=>?_) (fun h=>?_)
    ·refine Z0<|Z2<|Z8 rfl<|Z1<|Zk ?_
     revert h; refine Zz fun h=>?_
     subst h
     exact ⟨_,(.cons (.tmp rfl) .nil),rfl⟩
    ·refine Zl<|Z0<|Z2<|Z8 rfl<|Z1<|Zk ?_
     revert h; refine Zz fun h=>?_
     subst h
     exact ⟨_,(.cons (.tmp rfl) .nil),rfl⟩
def Z0h (p0:List (List Int)) (y15:(List (List Int))×Int) (k68:Unit→Option (Bool)) (k94:(Int)→Option (Bool)) (i93:Int):Option (Bool) :=
 br ((decide (i93<(y15.1.length:Int)))) (
 chk (inB i93 y15.1.length) <|
 bnd (y15.1.getD (i93).toNat (List.replicate 32 0)) fun x100 =>
 chk (inB i93 p0.length) <|
 bnd (p0.getD (i93).toNat (List.replicate 32 0)) fun x102 =>
 opt (Z4w x102) fun y103 =>
 br ((!(ieq 32 x100 y103))) (
 some false
 ) (
 bnd (IntKind.wrap .i64 (i93+1)) fun z107 =>
 k94 z107
 )
 ) (
 k68 ()
 )
def Z06 (p0:List (List Int)) (y15:(List (List Int))×Int) (k68:Unit→Option (Bool)):Nat→(Int)→Option (Bool)
  | 0,_=>none
  | n+1,i93=>Z0h p0 y15 k68 (Z06 p0 y15 k68 n) i93
def Z2v (p0:List (List Int)) (p1:Int) (p2:Int) (p3:Int) (p4:List Int):Option (Bool) :=
 opt (Z34 p0) fun y3 =>
 br (((p0.length:Int)==0)) (
 opt (Z08) fun y13 =>
 some y13
 ) (
 opt (Z3v y3.1 y3.2.1) fun y15 =>
 br ((!y3.2.2)) (
 chk (imp ((y15.2==171)&&((y15.1.length:Int)==0)) ((Z08).isSome)) <|
 some (((y15.2==171)&&((y15.1.length:Int)==0))&&((Z08).getD false))
 ) (
 br (((y15.2 != 0)||((y15.1.length:Int) != IntKind.wrap .i64 ((y3.2.1.length:Int)+1)))) (
 some false
 ) (
 jn (fun (_:Unit)=>jn (fun (_:Unit)=>br ((((decide (p2<0))||(decide (p3<0)))||(decide (p3≥(y15.1.length:Int))))) (
 bnd (([0,0,0,0,0,0,0,0,0,0,0,0,0,0,0,0,0,0,0,0,0,0,0,0,0,0,0,0,0,0,0,0,0,0,0,0,0,0,0,0,0,0,0,0,0,0,0,0,0,0,0,0,0,0,0,0,0,0,0,0,0,0,0,0]:List Int)) fun z139 =>
 opt (Z3w y3.1 y3.2.1 p2 p3 p4 z139) fun y140 =>
 chk (imp (y140==2) ((Z08).isSome)) <|
 some ((y140==2)&&((Z08).getD false))
 ) (
 chk (inB p3 p0.length) <|
 bnd (p0.getD (p3).toNat (List.replicate 32 0)) fun x144 =>
 opt (Z8p x144 p4) fun y145 =>
 opt (Z3w y3.1 y3.2.1 p2 p3 p4 y145) fun y146 =>
 br ((decide (p3<p2))) (
 chk (imp (y146==192) ((Z08).isSome)) <|
 some ((y146==192)&&((Z08).getD false))
 ) (
 chk (imp (y146==0) ((Z08).isSome)) <|
 some ((y146==0)&&((Z08).getD false))
 )
 )) fun k122=>br (((decide (p1≥0))&&(decide (p1≤(y3.2.1.length:Int))))) (
 chk (Zge 0 p1 y3.2.1.length) <|
 opt (Z3v y3.1 ((y3.2.1.drop 0).take ((p1).toNat-0))) fun y126 =>
 chk (imp (!(y126.2 != 0)) ((Zge 0 (IntKind.wrap .i64 (p1+1)) y15.1.length&&(Z1u y126.1 ((y15.1.drop 0).take ((IntKind.wrap .i64 (p1+1)).toNat-0))).isSome))) <|
 br (((y126.2 != 0)||(!((Z1u y126.1 ((y15.1.drop 0).take ((IntKind.wrap .i64 (p1+1)).toNat-0))).getD false)))) (
 some false
 ) (
 k122 ()
 )
 ) (
 k122 ()
 )) fun k68=>Z06 p0 y15 k68 big 0
 )
 )
 )
theorem fareboxlaw30_RotateHolds_spec {W:World} {r:Bool} {p0:List (List Int)} {p1:Int} {p2:Int} {p3:Int} {p4:List Int} {v0:Value} {v4:Value} (h:Z2v p0 p1 p2 p3 p4=some r) (hG:Globs W) (A0:RdSl E_a32_El_int_u8 W v0 p0) (A4:RdSl (El.int .u8) W v4 p4) :
    Calls Tryd.prog 6 [v0,.int .i64 (p1),.int .i64 (p2),.int .i64 (p3),v4].toArray W (Z56 W (.bool (r))):=by
 unfold Z2v at h
 refine Zd mo ok6 rfl ?_
 refine Z0<|Z2<|Z8 rfl<|Z1<|Z0<|oH h fun y3 ey3 h=>Z2<|Z8 rfl<|Zg (Z0j rfl (fun w hw=>Z9y  ey3 (hG.at hw (by simp)) ((Z2a A0 Z2m) w hw)) fun v4 Msv4 R5=>?_)
 obtain ⟨v6,ms7,rfl,rfl,O8⟩:=R5
 refine Z8 rfl<|Z6 _ (Z1j rfl rfl)<|Z6 _ (Z1j rfl rfl)<|Z6 _ (Z1j rfl rfl)<|Zg (Zw fun b9 hb9=>Zg (Zs (q:=[.ints .u8 32 (y3.1)]) rfl rfl rfl rfl rfl .here<|Z8 rfl<|Z8 rfl<|Z1<|Z0<|Z0<|Z2<|Z8 rfl<|Z6 _ (Z2i rfl (Shp.rd A0))<|Z6 _ (Za rfl rfl rfl)<|Z1<|Z0l h rfl (fun h=>?_) (fun h=>?_)))
 ·refine Z0<|oH h fun y13 ey13 h=>Z2<|Z6 _ (Z0m rfl (fun w hw=>Z24 ey13 (hG.at hw (by simp))))<|Z8 rfl<|Z1<|Zk ?_
  revert h; refine Zz fun h=>?_
  subst h
  exact ⟨_,(.cons (.tmp rfl) .nil),rfl⟩
 ·refine Zl<|Z0<|oH h fun y15 ey15 h=>Z2<|Z6 _ (Z02 (p:=[.ints .u8 32 (y3.1)]) rfl .here rfl)<|Z8 rfl<|Zg (Z0j rfl (fun w hw=>Z5b  ey15 (hG.at hw (by simp)) ((Z1x O8 (.there .here)) w hw)) fun v16 Msv16 R17=>?_)
  obtain ⟨v18,ms19,rfl,rfl,O20⟩:=R17
  refine Z8 rfl<|Z6 _ (Z1j rfl rfl)<|Z6 _ (Z1j rfl rfl)<|Z8 rfl<|Z8 rfl<|Z1<|Z0<|Z0<|Z2<|Z8 rfl<|Z6 _ (Zm1 rfl rfl)<|Z1<|Z0l h rfl (fun h=>?_) (fun h=>?_)
  ·refine Z0<|cH h fun c24 h=>Z2<|Z8 rfl<|Z6 _ (Za rfl rfl rfl)<|Z8 rfl<|Zao rfl rfl rfl (fun hg1=>Z45 rfl _ (Z19 rfl) (Z45 rfl _ (Z2i rfl (Shp.own O20)) (Z45 rfl _ (Za rfl rfl rfl) (Z3k)))) (fun hg1=>rfl) rfl<|Z8 rfl<|Zao rfl rfl rfl (fun hg1=>Z45 rfl _ (Z0m rfl (fun w hw=>Z24 (getD_some (z:=false) (Zhy c24 hg1)) (hG.at hw (by simp)))) (Z3k)) (fun hg1=>rfl) rfl<|Z8 rfl<|Z1<|Zk ?_
   revert h; refine Zz fun h=>?_
   subst h
   exact ⟨_,(.cons (.tmp rfl) .nil),rfl⟩
  ·refine Zl<|Z0<|Z0<|Z2<|Z8 rfl<|Z6 _ (Za rfl rfl rfl)<|Z8 rfl<|Zf8 rfl rfl rfl (fun hg1=>Z45 rfl _ (Z19 rfl) (Z45 rfl _ (Z2i rfl (Shp.own O20)) (Z45 rfl _ (Z19 rfl) (Z45 rfl _ (Z2i rfl (Shp.own O8)) (Z45 rfl _ (iz rfl (Za rfl rfl rfl)) (Z45 rfl _ (Za rfl rfl rfl) (Z3k))))))) (fun hg1=>rfl) rfl<|Z1<|Z0l h rfl (fun h=>?_) (fun h=>?_)
   ·refine Z0<|Z2<|Z8 rfl<|Z1<|Zk ?_
    revert h; refine Zz fun h=>?_
    subst h
    exact ⟨_,(.cons (.tmp rfl) .nil),rfl⟩
   ·refine Zl<|Z0<|Z0<|Z2<|Z8 rfl<|Z1<|jH h fun k68 qk68 h=>Zo (G:=fun t m=>k68 ()=some r∧Fit [(0,v0),(1,.int .i64 (p1)),(2,.int .i64 (p2)),(3,.int .i64 (p3)),(4,v4),(11,.pointer (some ⟨b9,0,none⟩)),(12,v6),(14,v18)] (ms19++(ck b9 27 [.ints .u8 32 (y3.1)]::(ms7 ++ []))) t m) ?_ ?_
    ·refine Zb<|Z01 (fun n95 t m=>∃ (i93:Int),Z06 p0 y15 k68 n95 i93=some r∧Fit [(0,v0),(1,.int .i64 (p1)),(2,.int .i64 (p2)),(3,.int .i64 (p3)),(4,v4),(11,.pointer (some ⟨b9,0,none⟩)),(12,v6),(14,v18),(16,.int .i64 (i93))] (ms19++(ck b9 27 [.ints .u8 32 (y3.1)]::(ms7 ++ []))) t m) big ?_ ?_
     ·exact ⟨0,h,⟨⟨rfl,rfl,rfl,rfl,rfl,rfl,rfl,rfl,rfl,trivial⟩,(.all .here (.one .here (.all .here .nil)))⟩⟩
     ·rintro n95 t m ⟨i93,h,hF⟩
      refine Zm hF ?_
      clear hF
      rcases n95 with _ | n95
      · exact Z1c h
      have h:Z0h p0 y15 k68 (Z06 p0 y15 k68 n95) i93=some r:=h
      unfold Z0h at h
      obtain ⟨k94,qk94⟩ : ∃ k,k=Z06 p0 y15 k68 n95:=⟨_,rfl⟩
      try rw [← qk94] at h
      refine Z0<|Z0<|Z2<|Z8 rfl<|Z8 rfl<|Z6 _ (Z2i rfl (Shp.own O20))<|Z6 _ (Za rfl rfl rfl)<|Z1<|Z0l h rfl (fun h=>?_) (fun h=>?_)
      ·refine Zl<|Z0<|Zb<|Z0<|cH h fun c99 h=>bH h fun x100 ex100 h=>cH h fun c101 h=>bH h fun x102 ex102 h=>oH h fun y103 ey103 h=>Zu<|Z7 _ (Z19 rfl)<|Z7 _ (Z19 rfl)<|Z7 _ (Z4m rfl rfl (Shp.own O20) c99)<|Z7 _ (Z19 rfl)<|Z7 _ (Z19 rfl)<|Z7 _ (Z4m rfl rfl (Shp.rd A0) c101)<|Zn _ (az (fun (x100:List Int)=>agg [.ints .u8 32 (x100)]) ex100 (Zba (E:=E_a32_El_int_u8) (s:=[.ints .u8 32 ((y15.1.getD (i93).toNat (List.replicate 32 0)))]) rfl (Z1x O20 .here) (Z18 c99) rfl rfl))<|Zn _ (az (fun (x102:List Int)=>agg [.ints .u8 32 (x102)]) ex102 (Zba (E:=E_a32_El_int_u8) (s:=[.ints .u8 32 ((p0.getD (i93).toNat (List.replicate 32 0)))]) rfl (Z2a A0 Z2m) (Z18 c101) rfl rfl))<|Z7 _ (Z0m rfl (fun w hw=>Zbf ey103 (hG.at hw (by simp))))<|Z7 _ (Zgo rfl rfl rfl rfl _ (Z88 Z87))<|Z03<|Z0l h rfl (fun h=>?_) (fun h=>?_)
       ·refine Z0<|Z2<|Z8 rfl<|Z1<|Zk ?_
        revert h; refine Zz fun h=>?_
        subst h
        exact ⟨_,(.cons (.tmp rfl) .nil),rfl⟩
       ·refine Zl<|bH h fun z107 ez107 h=>Z2<|Z8 rfl<|Z6 _ (iz ez107 (Za rfl rfl rfl))<|Z8 rfl<|Z1 ?_
        rw [qk94] at h
        exact ⟨n95,Nat.lt_succ_self _,z107,h,⟨⟨rfl,rfl,rfl,rfl,rfl,rfl,rfl,rfl,rfl,trivial⟩,(.all .here (.one .here (.all .here .nil)))⟩⟩
      ·exact Z0b _ rfl<|⟨h,⟨⟨rfl,rfl,rfl,rfl,rfl,rfl,rfl,rfl,trivial⟩,(.all .here (.one .here (.all .here .nil)))⟩⟩
    ·rintro t m ⟨h,hF⟩
     refine Zm hF ?_
     clear hF
     subst qk68
     refine Z0<|Z0<|Z2<|Z8 rfl<|Z6 _ (Za rfl rfl rfl)<|Z8 rfl<|Zao rfl rfl rfl (fun hg1=>Z45 rfl _ (Z19 rfl) (Z45 rfl _ (Z19 rfl) (Z45 rfl _ (Z2i rfl (Shp.own O8)) (Z45 rfl _ (Za rfl rfl rfl) (Z3k))))) (fun hg1=>rfl) rfl<|Z1<|jH h fun k122 qk122 h=>Zo (G:=fun t m=>k122 ()=some r∧Fit [(0,v0),(2,.int .i64 (p2)),(3,.int .i64 (p3)),(4,v4),(11,.pointer (some ⟨b9,0,none⟩)),(12,v6),(14,v18)] (ms19++(ck b9 27 [.ints .u8 32 (y3.1)]::(ms7 ++ []))) t m) ?_ ?_
     ·refine Z0l h rfl (fun h=>?_) (fun h=>?_)
      ·refine Z0<|cH h fun c125 h=>oH h fun y126 ey126 h=>Zu<|Z7 _ (Z19 rfl)<|Z7 _ (Z19 rfl)<|Z7 _ (Zjp (lz:=0) (hz:=p1) rfl (Shp.own O8) .no (.yes rfl) c125)<|Zn _ (Z02 (p:=[.ints .u8 32 (y3.1)]) rfl (.app .here) rfl)<|Z7h (Z0j rfl (fun w hw=>Z5b  ey126 (hG.at hw (by simp)) ((Zpi (Z1x O8 (.app (.there .here))) (lz:=0) (hz:=p1) c125) w hw)) fun v127 Msv127 R128=>?_)
       obtain ⟨v129,ms130,rfl,rfl,O131⟩:=R128
       refine ⟨(by repeat (first | exact Sup.refl _ | apply Sup.cons | apply Sup.app)),Z7 _ (Z19 rfl) (Z7 _ (Z1j rfl rfl) (Z7 _ (Z1j rfl rfl) (Z7 _ (Z19 rfl) (Z7 _ (Z19 rfl) (Z03 (Z0 (cH h fun c133 h=>Z2 (Z8 rfl (Z6 _ (Za rfl rfl rfl) (Z8 rfl (Zf8 rfl rfl rfl (fun hg1=>Z45 rfl _ (Z19 rfl) (Z45 rfl _ (Z19 rfl) (Z45 rfl _ (Z19 rfl) (Z45 rfl _ (iz rfl (Za rfl rfl rfl)) (Z45 rfl _ (Zjp (lz:=0) (hz:=IntKind.wrap .i64 (p1+1)) rfl (Shp.own O20) .no (.yes rfl) (Zwm (Zmy c133 hg1))) (Z45 rfl _ (Z0m rfl (fun w hw=>Z9p (getD_some (z:=false) (Z02t (Zmy c133 hg1))) ((Z1x O131 .here) w hw) ((Zpi (Z1x O20 (.app .here)) (lz:=0) (hz:=IntKind.wrap .i64 (p1+1)) (Zwm (Zmy c133 hg1))) w hw))) (Z45 rfl _ (Zm1 rfl rfl) (Z3k)))))))) (fun hg1=>rfl) rfl (Z1 (Z0l h rfl (fun h=>?_) (fun h=>?_))))))))))))))⟩
       ·refine Z0<|Z2<|Z8 rfl<|Z1<|Zk ?_
        revert h; refine Zz fun h=>?_
        subst h
        exact ⟨_,(.cons (.tmp rfl) .nil),rfl⟩
       ·exact Zl<|⟨h,⟨⟨rfl,rfl,rfl,rfl,rfl,rfl,rfl,trivial⟩,(.all (.app .here) (.one (.app .here) (.all (.app .here) .nil)))⟩⟩
      ·exact Zl<|⟨h,⟨⟨rfl,rfl,rfl,rfl,rfl,rfl,rfl,trivial⟩,(.all .here (.one .here (.all .here .nil)))⟩⟩
     ·rintro t m ⟨h,hF⟩
      refine Zm hF ?_
      clear hF
      subst qk122
      refine Z0<|Z0<|Z2<|Z8 rfl<|Z6 _ (Za rfl rfl rfl)<|Z8 rfl<|Zf8 rfl rfl rfl (fun hg1=>Z45 rfl _ (Z19 rfl) (Z45 rfl _ (Za rfl rfl rfl) (Z3k))) (fun hg1=>rfl) rfl<|Z8 rfl<|Zf8 rfl rfl rfl (fun hg1=>Z45 rfl _ (Z19 rfl) (Z45 rfl _ (Z19 rfl) (Z45 rfl _ (Z2i rfl (Shp.own O20)) (Z45 rfl _ (Za rfl rfl rfl) (Z3k))))) (fun hg1=>rfl) rfl<|Z1<|Z0l h rfl (fun h=>?_) (fun h=>?_)
      ·refine Z0<|bH h fun z139 ez139 h=>oH h fun y140 ey140 h=>cH h fun c141 h=>Z2<|Z6 _ (Z02 (p:=[.ints .u8 32 (y3.1)]) rfl (.app .here) rfl)<|Z8 rfl<|Z8 rfl<|Z8 rfl<|Z8 rfl<|Z6 _ (az (fun z=>agg [.ints .u8 64 z]) ez139 (Zdx BdR.nil))<|Z6 _ (Z0m rfl (fun w hw=>Z9v ey140 (hG.at hw (by simp)) ((Z1x O8 (.app (.there .here))) w hw) ((Z2a A4 Z2m) w hw)))<|Z6 _ (Za rfl rfl rfl)<|Z8 rfl<|Zao rfl rfl rfl (fun hg1=>Z45 rfl _ (Z0m rfl (fun w hw=>Z24 (getD_some (z:=false) (Zhy c141 hg1)) (hG.at hw (by simp)))) (Z3k)) (fun hg1=>rfl) rfl<|Z8 rfl<|Z1<|Zk ?_
       revert h; refine Zz fun h=>?_
       subst h
       exact ⟨_,(.cons (.tmp rfl) .nil),rfl⟩
      ·refine Zl<|Z0<|cH h fun c143 h=>bH h fun x144 ex144 h=>oH h fun y145 ey145 h=>oH h fun y146 ey146 h=>Zu<|Z7 _ (Z19 rfl)<|Z7 _ (Z19 rfl)<|Z7 _ (Z19 rfl)<|Z7 _ (Z19 rfl)<|Z7 _ (Z19 rfl)<|Z7 _ (Z19 rfl)<|Z7 _ (Z4m rfl rfl (Shp.rd A0) c143)<|Z7 _ (Z19 rfl)<|Zn _ (Z02 (p:=[.ints .u8 32 (y3.1)]) rfl (.app .here) rfl)<|Zn _ (az (fun (x144:List Int)=>agg [.ints .u8 32 (x144)]) ex144 (Zba (E:=E_a32_El_int_u8) (s:=[.ints .u8 32 ((p0.getD (p3).toNat (List.replicate 32 0)))]) rfl (Z2a A0 Z2m) (Z18 c143) rfl rfl))<|Zn _ (Z0m rfl (fun w hw=>Zd5 ey145 (hG.at hw (by simp)) ((Z2a A4 Z2m) w hw)))<|Zn _ (Z0m rfl (fun w hw=>Z9v ey146 (hG.at hw (by simp)) ((Z1x O8 (.app (.there .here))) w hw) ((Z2a A4 Z2m) w hw)))<|Z7 _ (Z19 rfl)<|Z03<|Z0<|Z0<|Z2<|Z8 rfl<|Z8 rfl<|Z6 _ (Za rfl rfl rfl)<|Z1<|Z0l h rfl (fun h=>?_) (fun h=>?_)
       ·refine Z0<|cH h fun c150 h=>Z2<|Z8 rfl<|Z6 _ (Za rfl rfl rfl)<|Z8 rfl<|Zao rfl rfl rfl (fun hg1=>Z45 rfl _ (Z0m rfl (fun w hw=>Z24 (getD_some (z:=false) (Zhy c150 hg1)) (hG.at hw (by simp)))) (Z3k)) (fun hg1=>rfl) rfl<|Z8 rfl<|Z1<|Zk ?_
        revert h; refine Zz fun h=>?_
        subst h
        exact ⟨_,(.cons (.tmp rfl) .nil),rfl⟩
       ·refine Zl<|Z0<|cH h fun c152 h=>Z2<|Z8 rfl<|Z6 _ (Za rfl rfl rfl)<|Z8 rfl<|Zao rfl rfl rfl (fun hg1=>Z45 rfl _ (Z0m rfl (fun w hw=>Z24 (getD_some (z:=false) (Zhy c152 hg1)) (hG.at hw (by simp)))) (Z3k)) (fun hg1=>rfl) rfl<|Z8 rfl<|Z1<|Zk ?_
        revert h; refine Zz fun h=>?_
        subst h
        exact ⟨_,(.cons (.tmp rfl) .nil),rfl⟩
end Go.Proofs.YtiflckckekjbnaaDoor

namespace Go.Proofs.YtiflckckekjbnaaDoor
open Go Go.Sx Go.RowKit
set_option linter.all false
theorem Zcc (x:Int):IntKind.u64.wrap x=x%18446744073709551616:=by simp [IntKind.wrap,IntKind.bits,IntKind.signed]
theorem Z0c (x:Int):IntKind.u8.wrap x=x%256:=by simp [IntKind.wrap,IntKind.bits,IntKind.signed]
theorem Zv {x:Int} (h0:0≤x) (h1:x<18446744073709551616):IntKind.u64.wrap x=x:=by rw [Zcc]; omega
theorem Zr {x:Int} (h0 : -9223372036854775808≤x) (h1:x≤9223372036854775807):IntKind.i64.wrap x=x:=by rw [IntKind.wrap_i64]; omega
theorem bv64 (m:Nat) (h:m<18446744073709551616):(BitVec.ofInt 64 (m:Int)).toNat=m:=by
  rw [BitVec.toNat_ofInt]; simp; omega
theorem bv8 (m:Nat) (h:m<256):(BitVec.ofInt 8 (m:Int)).toNat=m:=by
  rw [BitVec.toNat_ofInt]; simp; omega
theorem Z02s {x y:Int} (m n:Nat) (hx:x=m) (hy:y=n) (h1:m<18446744073709551616) (h2:n<18446744073709551616):Z4 .and .u64 x y=((m &&& n:Nat):Int):=by
  subst hx; subst hy
  show IntKind.u64.wrap (((BitVec.ofInt 64 (m:Int) &&& BitVec.ofInt 64 (n:Int)).toNat:Nat):Int)=_
  rw [BitVec.toNat_and,bv64 m h1,bv64 n h2,Zv (by omega)]
  have:m &&& n≤m:=Nat.and_le_left
  omega
theorem or64 {x y:Int} (m n:Nat) (hx:x=m) (hy:y=n) (h1:m<18446744073709551616) (h2:n<18446744073709551616):Z4 .or .u64 x y=((m ||| n:Nat):Int):=by
  subst hx; subst hy
  show IntKind.u64.wrap (((BitVec.ofInt 64 (m:Int) ||| BitVec.ofInt 64 (n:Int)).toNat:Nat):Int)=_
  rw [BitVec.toNat_or,bv64 m h1,bv64 n h2,Zv (by omega)]
  have:m ||| n<2^64:=Nat.or_lt_two_pow (by simpa using h1) (by simpa using h2)
  simp at this; omega
theorem Zhp (k:Nat) {x y:Int} (hy:y=((2^k-1:Nat):Int)) (hk:2^k≤18446744073709551616) (h0:0≤x) (h1:x<18446744073709551616):Z4 .and .u64 x y=x%((2^k:Nat):Int):=by
  have hp:0<2^k:=Nat.pow_pos (by decide)
  rw [Z02s x.toNat (2^k-1) (by omega) hy (by omega) (by omega),Nat.and_two_pow_sub_one_eq_mod]
  rw [Int.natCast_emod]
  congr 1; omega
theorem Zho {x:Int} (h0:0≤x) (h1:x<18446744073709551616):Z4 .and .u64 x 2251799813685247=x%2251799813685248:=Zhp 51 (by decide) (by decide) h0 h1
theorem Ztn {x:Int} (h0:0≤x) (h1:x<18446744073709551616):Z4 .and .u64 x 4294967295=x%4294967296:=Zhp 32 (by decide) (by decide) h0 h1
theorem Zp3 (k:Nat) {x y a:Int} (hx:x=a*((2^k:Nat):Int)) (ha:0≤a) (h0:0≤y) (hy:y<((2^k:Nat):Int)) (h1:x+y<18446744073709551616):Z4 .or .u64 x y=x+y:=by
  have hp:(0:Int)≤((2^k:Nat):Int):=Int.natCast_nonneg _
  have hx0:0≤x:=by rw [hx]; exact Int.mul_nonneg ha hp
  rw [or64 x.toNat y.toNat (by omega) (by omega) (by omega) (by omega)]
  have e:x.toNat=a.toNat <<< k:=by
    rw [Nat.shiftLeft_eq]
    have:(x.toNat:Int)=((a.toNat*2^k:Nat):Int):=by
      rw [Int.natCast_mul,Int.toNat_of_nonneg hx0,Int.toNat_of_nonneg ha,hx]
    exact Int.ofNat_inj.1 this
  rw [e,← Nat.shiftLeft_add_eq_or_of_lt (by omega:y.toNat<2^k),← e]
  omega
theorem Zc8 (k:IntKind) {x:Int} {n:Nat} (h:n≤k.bits):Zh k x (n:Int)=x / ((2^n:Nat):Int):=by
  simp only [Zh,Int.toNat_natCast,Nat.min_eq_left h]
  rw [Int.fdiv_eq_ediv_of_nonneg]
  · simp
  · exact Int.le_of_lt (Int.pow_pos (by decide))
theorem Znc (x:Int):Zh .u64 x 51=x / 2251799813685248:=by have:=Zc8 .u64 (x:=x) (n:=51) (by decide); simpa using this
theorem Z0m5 (x:Int):Zh .u64 x 32=x / 4294967296:=by have:=Zc8 .u64 (x:=x) (n:=32) (by decide); simpa using this
theorem Zew (k:IntKind) {x:Int} {n:Nat} (h:n≤k.bits):Zq k x (n:Int)=k.wrap (x*((2^n:Nat):Int)):=by
  simp only [Zq,Int.toNat_natCast,Nat.min_eq_left h]
  simp
theorem Z025 (x:Int):Zq .u64 x 13=(x*8192)%18446744073709551616:=by have:=Zew .u64 (x:=x) (n:=13) (by decide); rw [Zcc] at this; simpa using this
section
variable {α β:Type}
theorem Ze (x:α) (f:α→Option β):bnd x f=f x:=by
  have h : ∀ y,y=bnd x f→y=f x:=fun y e=>e
  exact h _ rfl
theorem Z05 {c:Bool} {o:Option β} (h:c=true):chk c o=o:=by subst h; rfl
theorem Z3 {o:Option α} {f:α→Option β} {y:α} (h:o=some y):opt o f=f y:=by subst h; rfl
theorem Z21 {c:Bool} {a b:Option β} (h:c=true):br c a b=a:=by subst h; rfl
theorem Z1h {c:Bool} {a b:Option β} (h:c=false):br c a b=b:=by subst h; rfl
theorem Z2f {K:Type} (k:K) (g:K→Option β):jn k g=g k:=by
  have h : ∀ y,y=jn k g→y=g k:=fun y e=>e
  exact h _ rfl
end
theorem Z2j {z:Int} {n:Nat} (h0:0≤z) (h1:z<n):inB z n=true:=by simp [inB,h0,h1]
abbrev PP:Int:=57896044618658097711785492504343953926634992332820282019728792003956564819949
abbrev M51:Int:=2251799813685248
def Z58 (x:List Int):Int:=x.getD 0 0+x.getD 1 0*2251799813685248+x.getD 2 0*5070602400912917605986812821504+x.getD 3 0*11417981541647679048466287755595961091061972992+x.getD 4 0*25711008708143844408671393477458601640355247900524685364822016
structure U5 (x:List Int):Prop where
  a0:0≤x.getD 0 0
  a1:0≤x.getD 1 0
  a2:0≤x.getD 2 0
  a3:0≤x.getD 3 0
  a4:0≤x.getD 4 0
  b0:x.getD 0 0<18446744073709551616
  b1:x.getD 1 0<18446744073709551616
  b2:x.getD 2 0<18446744073709551616
  b3:x.getD 3 0<18446744073709551616
  b4:x.getD 4 0<18446744073709551616
def Zec (n:Int):List Int:=[n%M51,n / M51%M51,n / (M51*M51)%M51,n / (M51*M51*M51)%M51,n / (M51*M51*M51*M51)%M51]
theorem Zkm {n d0 d1 d2 d3 d4:Int} (h:n=d0+d1*2251799813685248+d2*5070602400912917605986812821504+d3*11417981541647679048466287755595961091061972992+d4*25711008708143844408671393477458601640355247900524685364822016)
    (h0:0≤d0∧d0<2251799813685248) (h1:0≤d1∧d1<2251799813685248) (h2:0≤d2∧d2<2251799813685248) (h3:0≤d3∧d3<2251799813685248) (h4:0≤d4∧d4<2251799813685248) : [d0,d1,d2,d3,d4]=Zec n:=by
  unfold Zec
  simp only [M51,List.cons.injEq,and_true]
  refine ⟨?_,?_,?_,?_,?_⟩ <;> omega
theorem Zbv {n:Int} (h0:0≤n) (h1:n<PP):Z58 (Zec n)=n:=by
  simp only [Z58,Zec,M51,PP,List.getD_cons_zero,List.getD_cons_succ] at *
  omega
theorem Zkl (n:Int):U5 (Zec n):=by
  constructor <;> simp only [Zec,M51,List.getD_cons_zero,List.getD_cons_succ] <;> omega
set_option maxRecDepth 100000
def Z98 (x:List Int):List Int :=
  [x.getD 0 0%2251799813685248+x.getD 4 0 / 2251799813685248*19,x.getD 1 0%2251799813685248+x.getD 0 0 / 2251799813685248,x.getD 2 0%2251799813685248+x.getD 1 0 / 2251799813685248,
   x.getD 3 0%2251799813685248+x.getD 2 0 / 2251799813685248,x.getD 4 0%2251799813685248+x.getD 3 0 / 2251799813685248]
theorem Zce {x:List Int} (h:U5 x):Z40 x=some (Z98 x):=by
  have ⟨a0,a1,a2,a3,a4,b0,b1,b2,b3,b4⟩:=h
  simp only [Z40,Ze,Znc,Zcc,Zho a0 b0,Zho a1 b1,Zho a2 b2,Zho a3 b3,Zho a4 b4,Z98]
  simp only [Option.some.injEq,List.cons.injEq,and_true]
  refine ⟨?_,?_,?_,?_,?_⟩ <;> omega
structure C5 (x:List Int) (e:Int):Prop where
  a0:0≤x.getD 0 0
  a1:0≤x.getD 1 0
  a2:0≤x.getD 2 0
  a3:0≤x.getD 3 0
  a4:0≤x.getD 4 0
  b0:x.getD 0 0<2251799813685248+e
  b1:x.getD 1 0<2251799813685248+e
  b2:x.getD 2 0<2251799813685248+e
  b3:x.getD 3 0<2251799813685248+e
  b4:x.getD 4 0<2251799813685248+e
theorem C5.u {x:List Int} {e:Int} (h:C5 x e) (he:e≤1125899906842624):U5 x:=by
  have ⟨a0,a1,a2,a3,a4,b0,b1,b2,b3,b4⟩:=h
  constructor <;> omega
theorem Zo0 {x:List Int} (h:U5 x):C5 (Z98 x) 262144:=by
  have ⟨a0,a1,a2,a3,a4,b0,b1,b2,b3,b4⟩:=h
  constructor <;> simp only [Z98,List.getD_cons_zero,List.getD_cons_succ] <;> omega
theorem Zwx {x:List Int} (h:C5 x 262144):C5 (Z98 x) 20:=by
  have ⟨a0,a1,a2,a3,a4,b0,b1,b2,b3,b4⟩:=h
  constructor <;> simp only [Z98,List.getD_cons_zero,List.getD_cons_succ] <;> omega
theorem Zud {x:List Int} : ∃ q,Z58 x=Z58 (Z98 x)+q*PP:=by
  refine ⟨x.getD 4 0 / 2251799813685248,?_⟩
  simp only [Z58,Z98,PP,List.getD_cons_zero,List.getD_cons_succ]
  omega
theorem Ze8 {x:List Int}:Z58 (Z98 x)%PP=Z58 x%PP:=by
  obtain ⟨q,hq⟩:=Zud (x:=x)
  rw [hq,Int.add_mul_emod_self_right]
def Zgm (x:List Int):List Int:=Zec (Z58 x%PP)
abbrev shw (x:Int):Int:=Zh .u64 x 51
abbrev wuu (x:Int):Int:=IntKind.wrap .u64 x
abbrev low (x:Int):Int:=Z4 .and .u64 x 2251799813685247
def rQ (y1 y2 y3 y4 q:Int):Int:=shw (wuu (y4+shw (wuu (y3+shw (wuu (y2+shw (wuu (y1+q))))))))
def rr0 (y0 Q:Int):Int:=wuu (y0+wuu (19*Q))
theorem Zvr (y0 y1 y2 y3 y4 q:Int):Z4b [y0,y1,y2,y3,y4] (fun i46=>Z4c (fun a149=>some (Z4h a149 4 (Z4 .and .u64 (a149.getD 4 0) 2251799813685247))) big 0 (Z4h [y0,y1,y2,y3,y4] 0 (IntKind.wrap .u64 (y0+IntKind.wrap .u64 (19*i46))))) big q 0 =
    some [low (rr0 y0 (rQ y1 y2 y3 y4 q)),low (wuu (y1+shw (rr0 y0 (rQ y1 y2 y3 y4 q)))),low (wuu (y2+shw (wuu (y1+shw (rr0 y0 (rQ y1 y2 y3 y4 q)))))),
      low (wuu (y3+shw (wuu (y2+shw (wuu (y1+shw (rr0 y0 (rQ y1 y2 y3 y4 q)))))))),low (wuu (y4+shw (wuu (y3+shw (wuu (y2+shw (wuu (y1+shw (rr0 y0 (rQ y1 y2 y3 y4 q)))))))))) ]:=by kernel_rfl
theorem Zm0 {y q:Int} (hy:0≤y∧y<2251799813685268) (hq:0≤q∧q≤1) : ∃ q' s,shw (wuu (y+q))=q'∧y+q=2251799813685248*q'+s∧(0≤s∧s<2251799813685248)∧(0≤q'∧q'≤1):=by
  refine ⟨(y+q) / 2251799813685248,(y+q)%2251799813685248,?_,by omega,by omega,by omega⟩
  rw [shw,Znc,wuu,Zv (by omega) (by omega)]
theorem Zjq {y r:Int} (hy:0≤y∧y<2251799813685268) (hr:0≤r∧r<4503599627370496) : ∃ c d r',shw r=c∧low r=d∧r=2251799813685248*c+d∧(0≤d∧d<2251799813685248)∧wuu (y+c)=r'∧r'=y+c∧(0≤r'∧r'<4503599627370496):=by
  refine ⟨r / 2251799813685248,r%2251799813685248,y+r / 2251799813685248,Znc _,Zho hr.1 (by omega),by omega,by omega,Zv (by omega) (by omega),rfl,by omega⟩
theorem Zrw {y0 y1 y2 y3 y4 q0 q1 q2 q3 q4 s0 s1 s2 s3 s4 c0 c1 c2 c3 c4 d0 d1 d2 d3 d4:Int}
    (h0:y0+19=2251799813685248*q0+s0) (h1:y1+q0=2251799813685248*q1+s1) (h2:y2+q1=2251799813685248*q2+s2) (h3:y3+q2=2251799813685248*q3+s3) (h4:y4+q3=2251799813685248*q4+s4)
    (k0:y0+19*q4=2251799813685248*c0+d0) (k1:y1+c0=2251799813685248*c1+d1) (k2:y2+c1=2251799813685248*c2+d2) (k3:y3+c2=2251799813685248*c3+d3) (k4:y4+c3=2251799813685248*c4+d4)
    (t0:0≤s0∧s0<2251799813685248) (t1:0≤s1∧s1<2251799813685248) (t2:0≤s2∧s2<2251799813685248) (t3:0≤s3∧s3<2251799813685248) (t4:0≤s4∧s4<2251799813685248)
    (u0:0≤d0∧d0<2251799813685248) (u1:0≤d1∧d1<2251799813685248) (u2:0≤d2∧d2<2251799813685248) (u3:0≤d3∧d3<2251799813685248) (u4:0≤d4∧d4<2251799813685248) (hq:0≤q4∧q4≤1) (hy:0≤(y0+y1*2251799813685248+y2*5070602400912917605986812821504+y3*11417981541647679048466287755595961091061972992+y4*25711008708143844408671393477458601640355247900524685364822016)∧(y0+y1*2251799813685248+y2*5070602400912917605986812821504+y3*11417981541647679048466287755595961091061972992+y4*25711008708143844408671393477458601640355247900524685364822016)<115792089237316195423570985008687907853269984665640564039457584007913129639836) :
    (y0+y1*2251799813685248+y2*5070602400912917605986812821504+y3*11417981541647679048466287755595961091061972992+y4*25711008708143844408671393477458601640355247900524685364822016)-q4*PP=(d0+d1*2251799813685248+d2*5070602400912917605986812821504+d3*11417981541647679048466287755595961091061972992+d4*25711008708143844408671393477458601640355247900524685364822016)∧0≤(d0+d1*2251799813685248+d2*5070602400912917605986812821504+d3*11417981541647679048466287755595961091061972992+d4*25711008708143844408671393477458601640355247900524685364822016)∧(d0+d1*2251799813685248+d2*5070602400912917605986812821504+d3*11417981541647679048466287755595961091061972992+d4*25711008708143844408671393477458601640355247900524685364822016)<PP:=by
  have e1:(y0+y1*2251799813685248+y2*5070602400912917605986812821504+y3*11417981541647679048466287755595961091061972992+y4*25711008708143844408671393477458601640355247900524685364822016)+19=q4*57896044618658097711785492504343953926634992332820282019728792003956564819968+(s0+s1*2251799813685248+s2*5070602400912917605986812821504+s3*11417981541647679048466287755595961091061972992+s4*25711008708143844408671393477458601640355247900524685364822016):=by omega
  have e2:(y0+y1*2251799813685248+y2*5070602400912917605986812821504+y3*11417981541647679048466287755595961091061972992+y4*25711008708143844408671393477458601640355247900524685364822016)+19*q4=c4*57896044618658097711785492504343953926634992332820282019728792003956564819968+(d0+d1*2251799813685248+d2*5070602400912917605986812821504+d3*11417981541647679048466287755595961091061972992+d4*25711008708143844408671393477458601640355247900524685364822016):=by omega
  have b1:0≤(s0+s1*2251799813685248+s2*5070602400912917605986812821504+s3*11417981541647679048466287755595961091061972992+s4*25711008708143844408671393477458601640355247900524685364822016)∧(s0+s1*2251799813685248+s2*5070602400912917605986812821504+s3*11417981541647679048466287755595961091061972992+s4*25711008708143844408671393477458601640355247900524685364822016)<57896044618658097711785492504343953926634992332820282019728792003956564819968:=by omega
  have b2:0≤(d0+d1*2251799813685248+d2*5070602400912917605986812821504+d3*11417981541647679048466287755595961091061972992+d4*25711008708143844408671393477458601640355247900524685364822016)∧(d0+d1*2251799813685248+d2*5070602400912917605986812821504+d3*11417981541647679048466287755595961091061972992+d4*25711008708143844408671393477458601640355247900524685364822016)<57896044618658097711785492504343953926634992332820282019728792003956564819968:=by omega
  generalize (y0+y1*2251799813685248+y2*5070602400912917605986812821504+y3*11417981541647679048466287755595961091061972992+y4*25711008708143844408671393477458601640355247900524685364822016)=V at *
  generalize (d0+d1*2251799813685248+d2*5070602400912917605986812821504+d3*11417981541647679048466287755595961091061972992+d4*25711008708143844408671393477458601640355247900524685364822016)=D at *
  generalize (s0+s1*2251799813685248+s2*5070602400912917605986812821504+s3*11417981541647679048466287755595961091061972992+s4*25711008708143844408671393477458601640355247900524685364822016)=S at *
  clear h0 h1 h2 h3 h4 k0 k1 k2 k3 k4 t0 t1 t2 t3 t4 u0 u1 u2 u3 u4
  simp only [PP]
  have hc:q4=0∨q4=1:=by omega
  rcases hc with rfl | rfl
  · obtain rfl:c4=0:=by omega
    omega
  · obtain rfl:c4=1:=by omega
    omega
theorem Z4e {x:List Int} (h:U5 x):Z0v x=some (Zgm x):=by
  have h1:=Zo0 h
  have h2:=Zwx h1
  have hm:Z58 (Z98 (Z98 x))%PP=Z58 x%PP:=by rw [Ze8,Ze8]
  rw [Z0v,Z3 (Zce h),Z3 (Zce (h1.u (by decide)))]
  unfold Zgm
  rw [← hm]
  have hl:Z98 (Z98 x) = [(Z98 (Z98 x)).getD 0 0,(Z98 (Z98 x)).getD 1 0,(Z98 (Z98 x)).getD 2 0,(Z98 (Z98 x)).getD 3 0,(Z98 (Z98 x)).getD 4 0]:=rfl
  generalize Z98 (Z98 x)=y at *
  have ⟨a0,a1,a2,a3,a4,b0,b1,b2,b3,b4⟩:=h2
  simp only [Ze,Z2f,Z58]
  generalize y.getD 0 0=y0 at *
  generalize y.getD 1 0=y1 at *
  generalize y.getD 2 0=y2 at *
  generalize y.getD 3 0=y3 at *
  generalize y.getD 4 0=y4 at *
  rw [hl,Zvr]
  congr 1
  clear hl h1 h2 hm h
  have e0:Zh .u64 (IntKind.wrap .u64 (y0+19)) 51=(y0+19) / 2251799813685248:=by rw [Znc,Zv (by omega) (by omega)]
  obtain ⟨q0,s0,hq0,hs0,hs0',hq0'⟩ : ∃ q s,(y0+19) / 2251799813685248=q∧y0+19=2251799813685248*q+s∧(0≤s∧s<2251799813685248)∧(0≤q∧q≤1):=⟨_,(y0+19)%2251799813685248,rfl,by omega,by omega,by omega⟩
  rw [e0,hq0]
  obtain ⟨q1,s1,e1,hs1,hs1',hq1'⟩:=Zm0 (y:=y1) (q:=q0) (by omega) hq0'
  obtain ⟨q2,s2,e2,hs2,hs2',hq2'⟩:=Zm0 (y:=y2) (q:=q1) (by omega) hq1'
  obtain ⟨q3,s3,e3,hs3,hs3',hq3'⟩:=Zm0 (y:=y3) (q:=q2) (by omega) hq2'
  obtain ⟨q4,s4,e4,hs4,hs4',hq4'⟩:=Zm0 (y:=y4) (q:=q3) (by omega) hq3'
  have f0:rr0 y0 q4=y0+19*q4:=by rw [rr0,wuu,wuu,Zv (x:=19*q4) (by omega) (by omega),Zv (by omega) (by omega)]
  have hy:0≤(y0+y1*2251799813685248+y2*5070602400912917605986812821504+y3*11417981541647679048466287755595961091061972992+y4*25711008708143844408671393477458601640355247900524685364822016)∧(y0+y1*2251799813685248+y2*5070602400912917605986812821504+y3*11417981541647679048466287755595961091061972992+y4*25711008708143844408671393477458601640355247900524685364822016)<115792089237316195423570985008687907853269984665640564039457584007913129639836:=by omega
  unfold rQ
  rw [e1,e2,e3,e4,f0]
  obtain ⟨c0,d0,r1,g0,l0,k0,u0,w1,v1,z1⟩:=Zjq (y:=y1) (r:=y0+19*q4) (by omega) (by omega)
  rw [g0,l0,w1]
  obtain ⟨c1,d1,r2,g1,l1,k1,u1,w2,v2,z2⟩:=Zjq (y:=y2) (r:=r1) (by omega) z1
  rw [g1,l1,w2]
  obtain ⟨c2,d2,r3,g2,l2,k2,u2,w3,v3,z3⟩:=Zjq (y:=y3) (r:=r2) (by omega) z2
  rw [g2,l2,w3]
  obtain ⟨c3,d3,r4,g3,l3,k3,u3,w4,v4,z4⟩:=Zjq (y:=y4) (r:=r3) (by omega) z3
  rw [g3,l3,w4]
  obtain ⟨c4,d4,r5,g4,l4,k4,u4,w5,v5,z5⟩:=Zjq (y:=y4) (r:=r4) (by omega) z4
  rw [l4]
  subst v1 v2 v3 v4
  obtain ⟨hv,hlo⟩:=Zrw hs0 hs1 hs2 hs3 hs4 k0 k1 k2 k3 k4 hs0' hs1' hs2' hs3' hs4' u0 u1 u2 u3 u4 hq4' hy
  refine Zkm ?_ u0 u1 u2 u3 u4
  rw [← hv] at hlo ⊢
  rw [← Int.emod_eq_of_lt hlo.1 hlo.2,Int.sub_mul_emod_self_right]
theorem Zbz {a b:Int} {A B:Int} (ha:0≤a∧a≤A) (hb:0≤b∧b≤B):0≤a*b∧a*b≤A*B :=
  ⟨Int.mul_nonneg ha.1 hb.1,Int.mul_le_mul ha.2 hb.2 hb.1 (Int.le_trans ha.1 ha.2)⟩
theorem Zi0 {x y:Int} (hx:0≤x∧x<18446744073709551616) (hy:0≤y∧y<18446744073709551616) :
    Z4d x y=some (x*y / 18446744073709551616,x*y%18446744073709551616):=by
  simp only [Z4d,Ze,Ztn hx.1 hx.2,Ztn hy.1 hy.2,Z0m5]
  have ex:x=x / 4294967296*4294967296+x%4294967296:=by omega
  have ey:y=y / 4294967296*4294967296+y%4294967296:=by omega
  have bxl:0≤x%4294967296∧x%4294967296≤4294967295:=by omega
  have byl:0≤y%4294967296∧y%4294967296≤4294967295:=by omega
  have bxh:0≤x / 4294967296∧x / 4294967296≤4294967295:=by omega
  have byh:0≤y / 4294967296∧y / 4294967296≤4294967295:=by omega
  have hxy:x*y=x / 4294967296*(y / 4294967296)*18446744073709551616+(x / 4294967296*(y%4294967296)+x%4294967296*(y / 4294967296))*4294967296+x%4294967296*(y%4294967296):=by
    conv=>lhs; rw [ex,ey]
    generalize x / 4294967296=a
    generalize x%4294967296=b
    generalize y / 4294967296=c
    generalize y%4294967296=d
    grind
  have p00:=Zbz bxl byl
  have p10:=Zbz bxh byl
  have p01:=Zbz bxl byh
  have p11:=Zbz bxh byh
  rw [hxy]
  generalize x%4294967296*(y%4294967296)=A at *
  generalize x / 4294967296*(y%4294967296)=B at *
  generalize x%4294967296*(y / 4294967296)=D at *
  generalize x / 4294967296*(y / 4294967296)=F at *
  clear hxy ex ey bxl byl bxh byh
  rw [Zv (x:=A) (by omega) (by omega),Zv (x:=B) (by omega) (by omega),Zv (x:=D) (by omega) (by omega),Zv (x:=F) (by omega) (by omega)]
  rw [Zv (x:=B+A / 4294967296) (by omega) (by omega),Ztn (by omega) (by omega)]
  rw [Zv (x:=(B+A / 4294967296)%4294967296+D) (by omega) (by omega),Zv (x:=F+(B+A / 4294967296) / 4294967296) (by omega) (by omega)]
  rw [Zv (by omega) (by omega),Zcc]
  congr 1
  refine Prod.ext ?_ rfl
  show F+(B+A / 4294967296) / 4294967296+((B+A / 4294967296)%4294967296+D) / 4294967296=_
  omega
def Zer (s:Int):Int:=s / 18446744073709551616
def Zch (s:Int):Int:=s%18446744073709551616
theorem Zhm (a b c:Int):Z8b a b c=(a+b+c)%18446744073709551616:=rfl
theorem Zfa (a b c:Int):Zbp a b c=(a+b+c) / 18446744073709551616:=rfl
theorem Zq8 {xs:List Int} {o L:Nat} {s a c:Int} (hs:0≤s) (h1:xs.getD o 0=Zer s) (h2:xs.getD (o+1) 0=Zch s) (hL:o+1<L) (ha:0≤a∧a<18446744073709551616) (hc:0≤c∧c<18446744073709551616)
    (hb:s+a*c<340282366920938463463374607431768211456) :
    Z23 xs o L a c=some (Z4h (Z4h xs (o+1) (Zch (s+a*c))) o (Zer (s+a*c))):=by
  have hp:=Zbz (A:=18446744073709551615) (B:=18446744073709551615) (a:=a) (b:=c) (by omega) (by omega)
  rw [Z23,Z3 (Zi0 ha hc)]
  rw [Z05 (by simpa using hL)]
  simp only [Ze,h2]
  have e1:Zch s+a*c%18446744073709551616=Zch s+a*c%18446744073709551616:=rfl
  generalize a*c=p at *
  have hlo:0≤Zch s∧Zch s<18446744073709551616:=by unfold Zch; omega
  have hhi:0≤Zer s∧Zer s<18446744073709551616:=by unfold Zer; omega
  rw [Z05 (by simp [Zbi]; omega),Z05 (by simpa using hL),Z05 (by simp; omega)]
  simp only [Nat.add_zero,Z8j]
  rw [if_neg (by omega),h1,Z05 (by simp [Zbi,Zfa]; omega),Z05 (by simp; omega)]
  simp only [Zhm,Zfa]
  congr 2
  · congr 1
    unfold Zch; omega
  · unfold Zer Zch; omega
def Zg7 (S:Nat→Int):List Int:=[Zer (S 0),Zch (S 0),Zer (S 1),Zch (S 1),Zer (S 2),Zch (S 2),Zer (S 3),Zch (S 3),Zer (S 4),Zch (S 4)]
theorem Znf {S T:Nat→Int} (h : ∀ k,k<5→S k=T k):Zg7 S=Zg7 T:=by
  simp only [Zg7,h 0 (by decide),h 1 (by decide),h 2 (by decide),h 3 (by decide),h 4 (by decide)]
def Ztf (S:Nat→Int) (k:Nat) (v:Int):Nat→Int:=fun j=>if j=k then v else S j
theorem Zmg {S:Nat→Int} {k:Nat} {a c:Int} (hk:k<5) (hs:0≤S k) (ha:0≤a∧a<18446744073709551616) (hc:0≤c∧c<18446744073709551616) (hb:S k+a*c<340282366920938463463374607431768211456) :
    Z23 (Zg7 S) (0+k*2) 10 a c=some (Zg7 (Ztf S k (S k+a*c))):=by
  have h1:(Zg7 S).getD (0+k*2) 0=Zer (S k):=by
    match k,hk with
    | 0,_=>rfl
    | 1,_=>rfl
    | 2,_=>rfl
    | 3,_=>rfl
    | 4,_=>rfl
  have h2:(Zg7 S).getD (0+k*2+1) 0=Zch (S k):=by
    match k,hk with
    | 0,_=>rfl
    | 1,_=>rfl
    | 2,_=>rfl
    | 3,_=>rfl
    | 4,_=>rfl
  rw [Zq8 hs h1 h2 (by omega) ha hc hb]
  congr 1
  match k,hk with
  | 0,_=>rfl
  | 1,_=>rfl
  | 2,_=>rfl
  | 3,_=>rfl
  | 4,_=>rfl
def Zhz (x:Int) (y:List Int) (i j:Nat):Int:=x*(if i+j<5 then y.getD j 0 else 19*y.getD j 0)
theorem Zox {y:List Int} {i j:Nat} {kk:List Int→Option (List Int)} {k':Int→List Int→Option (List Int)} {x:Int} {S:Nat→Int} {T:Int} (hi:i<5) (hj:j<5) (hx:0≤x∧x≤2251799813947392) (hy : ∀ j,j<5→0≤y.getD j 0∧y.getD j 0≤2251799813947392)
    (hS : ∀ k,k<5→0≤S k∧S k≤T) (hT:T≤100000000000000000000000000000000000) :
    Z5i y (i:Int) x kk k' (j:Int) (Zg7 S)=k' ((j+1:Nat):Int) (Zg7 (Ztf S ((i+j)%5) (S ((i+j)%5)+Zhz x y i j))):=by
  have hyj:=hy j hj
  rw [Z5i,Z21 (by simp; omega),Z2f,Z05 (Z2j (by omega) (by omega))]
  simp only [Ze,Int.toNat_natCast]
  have hij:IntKind.wrap .i64 ((i:Int)+(j:Int))=((i+j:Nat):Int):=by rw [Zr (by omega) (by omega)]; omega
  have hj1:IntKind.wrap .i64 ((j:Int)+1)=((j+1:Nat):Int):=by rw [Zr (by omega) (by omega)]; omega
  rw [hij,hj1]
  have hSk:=hS ((i+j)%5) (Nat.mod_lt _ (by decide))
  by_cases h:i+j<5
  · have hm:(i+j)%5=i+j:=Nat.mod_eq_of_lt h
    rw [hm] at hSk ⊢
    have hp:=Zbz hx hyj
    rw [Z21 (by simp; omega),Z05 (Z2j (by omega) (by omega)),Z3 (Zmg (S:=S) (k:=((i+j:Nat):Int).toNat) (by omega) (by rw [Int.toNat_natCast]; exact hSk.1) (by omega) (by omega) (by rw [Int.toNat_natCast]; omega))]
    simp only [Int.toNat_natCast,Zhz,if_pos h]
  · have hm:(i+j)%5=i+j-5:=by omega
    rw [hm] at hSk ⊢
    have h5:IntKind.wrap .i64 (((i+j:Nat):Int)-5)=((i+j-5:Nat):Int):=by rw [Zr (by omega) (by omega)]; omega
    have h19:IntKind.wrap .u64 (19*y.getD j 0)=19*y.getD j 0:=Zv (by omega) (by omega)
    rw [h5,h19]
    have hp:=Zbz (b:=19*y.getD j 0) (B:=42784196465000448) hx (by omega)
    rw [Z1h (by simp; omega),Z05 (Z2j (by omega) (by omega)),Z3 (Zmg (S:=S) (k:=((i+j-5:Nat):Int).toNat) (by omega) (by rw [Int.toNat_natCast]; exact hSk.1) (by omega) (by omega) (by rw [Int.toNat_natCast]; omega))]
    simp only [Int.toNat_natCast,Zhz,if_neg h]
theorem Zrd {y:List Int} {i:Nat} {kk:List Int→Option (List Int)} {k':Int→List Int→Option (List Int)} {x:Int} {a:List Int} (hi:i<5):Z5i y (i:Int) x kk k' 5 a=kk a:=by
  rw [Z5i,Z1h (by decide)]
theorem Zra {x:Int} {y:List Int} {i j:Nat} (hj:j<5) (hx:0≤x∧x≤2251799813947392) (hy : ∀ j,j<5→0≤y.getD j 0∧y.getD j 0≤2251799813947392):0≤Zhz x y i j∧Zhz x y i j≤96341445639776675308685928431616:=by
  have hyj:=hy j hj
  unfold Zhz
  split
  · have:=Zbz hx hyj; omega
  · have:=Zbz (b:=19*y.getD j 0) (B:=42784196465000448) hx (by omega); omega
theorem Z02a {S:Nat→Int} {T v:Int} {k:Nat} (hS : ∀ k,k<5→0≤S k∧S k≤T) (hv:0≤v∧v≤T+96341445639776675308685928431616) : ∀ j,j<5→0≤Ztf S k v j∧Ztf S k v j≤T+96341445639776675308685928431616:=by
  intro j hj
  have:=hS j hj
  unfold Ztf
  split <;> omega
def inn (S:Nat→Int) (x:Int) (y:List Int) (i:Nat):Nat→Int:=fun k=>S k+x*(if i≤k then y.getD (k-i) 0 else 19*y.getD (k+5-i) 0)
theorem Zov {y:List Int} {i:Nat} {kk:List Int→Option (List Int)} {x:Int} {S:Nat→Int} {T:Int} (hi:i<5) (hx:0≤x∧x≤2251799813947392) (hy : ∀ j,j<5→0≤y.getD j 0∧y.getD j 0≤2251799813947392)
    (hS : ∀ k,k<5→0≤S k∧S k≤T) (hT:T≤10000000000000000000000000000000000) :
    Z4k y (i:Int) x kk big 0 (Zg7 S)=kk (Zg7 (inn S x y i)):=by
  obtain ⟨n,hn⟩ : ∃ n,big=n+6:=⟨18446744073709551610,Z47⟩
  rw [hn]
  have step : ∀ (n j:Nat) (S:Nat→Int) (T:Int),j<5→(∀ k,k<5→0≤S k∧S k≤T)→T≤100000000000000000000000000000000000 →
      Z4k y (i:Int) x kk (n+1) (j:Int) (Zg7 S)=Z4k y (i:Int) x kk n ((j+1:Nat):Int) (Zg7 (Ztf S ((i+j)%5) (S ((i+j)%5)+Zhz x y i j))) :=
    fun n j S T hj hS hT=>Zox hi hj hx hy hS hT
  have bd : ∀ (j:Nat) (S:Nat→Int) (T:Int),j<5→(∀ k,k<5→0≤S k∧S k≤T)→∀ k,k<5→0≤Ztf S ((i+j)%5) (S ((i+j)%5)+Zhz x y i j) k∧Ztf S ((i+j)%5) (S ((i+j)%5)+Zhz x y i j) k≤T+96341445639776675308685928431616 :=
    fun j S T hj hS=>Z02a hS (by have:=Zra (i:=i) hj hx hy; have:=hS ((i+j)%5) (Nat.mod_lt _ (by decide)); omega)
  have s0:=step (n+5) 0 S T (by decide) hS (by omega)
  have b0:=bd 0 S T (by decide) hS
  have s1:=step (n+4) 1 _ _ (by decide) b0 (by omega)
  have b1:=bd 1 _ _ (by decide) b0
  have s2:=step (n+3) 2 _ _ (by decide) b1 (by omega)
  have b2:=bd 2 _ _ (by decide) b1
  have s3:=step (n+2) 3 _ _ (by decide) b2 (by omega)
  have b3:=bd 3 _ _ (by decide) b2
  have s4:=step (n+1) 4 _ _ (by decide) b3 (by omega)
  refine (s0.trans (s1.trans (s2.trans (s3.trans (s4.trans ((Zrd hi).trans ?_))))))
  congr 1
  apply Znf
  intro k hk
  clear s0 s1 s2 s3 s4 b0 b1 b2 b3 bd step hS hy hx hn
  match i,hi,k,hk with
  | 0,_,0,_ | 0,_,1,_ | 0,_,2,_ | 0,_,3,_ | 0,_,4,_ | 1,_,0,_ | 1,_,1,_ | 1,_,2,_ | 1,_,3,_ | 1,_,4,_ | 2,_,0,_ | 2,_,1,_ | 2,_,2,_ | 2,_,3,_ | 2,_,4,_
  | 3,_,0,_ | 3,_,1,_ | 3,_,2,_ | 3,_,3,_ | 3,_,4,_ | 4,_,0,_ | 4,_,1,_ | 4,_,2,_ | 4,_,3,_ | 4,_,4,_=>rfl
theorem Zds {S:Nat→Int} {x T:Int} {y:List Int} {i:Nat} (hi:i<5) (hx:0≤x∧x≤2251799813947392) (hy : ∀ j,j<5→0≤y.getD j 0∧y.getD j 0≤2251799813947392) (hS : ∀ k,k<5→0≤S k∧S k≤T) :
    ∀ k,k<5→0≤inn S x y i k∧inn S x y i k≤T+96341445639776675308685928431616:=by
  intro k hk
  have h1:=hS k hk
  unfold inn
  split
  · have:=Zbz hx (hy (k-i) (by omega)); omega
  · have:=Zbz (b:=19*y.getD (k+5-i) 0) (B:=42784196465000448) hx (by have:=hy (k+5-i) (by omega); omega); omega
def Zgg (x y:List Int):Nat→Int:=inn (inn (inn (inn (inn (fun _=>0) (x.getD 0 0) y 0) (x.getD 1 0) y 1) (x.getD 2 0) y 2) (x.getD 3 0) y 3) (x.getD 4 0) y 4
theorem Zv0 {x y:List Int} (hx : ∀ j,j<5→0≤x.getD j 0∧x.getD j 0≤2251799813947392) (hy : ∀ j,j<5→0≤y.getD j 0∧y.getD j 0≤2251799813947392) : ∀ k,k<5→0≤Zgg x y k∧Zgg x y k≤481707228198883376543429642158080:=by
  have b0:=Zds (S:=fun _=>0) (T:=0) (i:=0) (by decide) (hx 0 (by decide)) hy (fun _ _=>by simp)
  have b1:=Zds (i:=1) (by decide) (hx 1 (by decide)) hy b0
  have b2:=Zds (i:=2) (by decide) (hx 2 (by decide)) hy b1
  have b3:=Zds (i:=3) (by decide) (hx 3 (by decide)) hy b2
  have b4:=Zds (i:=4) (by decide) (hx 4 (by decide)) hy b3
  intro k hk
  have:=b4 k hk
  unfold Zgg
  omega
theorem Zag {x y : List Int} (hx : ∀ j, j < 5 → 0 ≤ x.getD j 0 ∧ x.getD j 0 ≤ 2251799813947392) (hy : ∀ j, j < 5 → 0 ≤ y.getD j 0 ∧ y.getD j 0 ≤ 2251799813947392) (n i : Nat) (S : Nat → Int) (T : Int) (hi : i < 5) (hS : ∀ k, k < 5 → 0 ≤ S k ∧ S k ≤ T) (hT : T ≤ 10000000000000000000000000000000000) (kk : List Int → Option (List Int)) :
      Z2q x y kk (n+1) (i:Int) (Zg7 S)=Z2q x y kk n ((i+1:Nat):Int) (Zg7 (inn S (x.getD i 0) y i)):=by
  rw [Z2q,Z8g,Z21 (by simp; omega),Z05 (Z2j (by omega) (by omega))]
  simp only [Ze,Z2f,Int.toNat_natCast]
  rw [Zov hi (hx i hi) hy hS hT,Zr (by omega) (by omega)]
  rfl
theorem Zn4 {x y:List Int} (n:Nat) (a:List Int) (kk:List Int→Option (List Int)):Z2q x y kk (n+1) ((5:Nat):Int) a=kk a:=by
  rw [Z2q,Z8g,Z1h (by decide)]
theorem Z0m6:(List.replicate 10 0:List Int)=Zg7 (fun _=>0):=by decide
theorem Zow {x y:List Int} (hx : ∀ j,j<5→0≤x.getD j 0∧x.getD j 0≤2251799813947392) (hy : ∀ j,j<5→0≤y.getD j 0∧y.getD j 0≤2251799813947392) (kk:List Int→Option (List Int)) :
    Z2q x y kk big 0 (List.replicate 10 0)=kk (Zg7 (Zgg x y)):=by
  obtain ⟨n,hn⟩ : ∃ n,big=n+1+1+1+1+1+1:=⟨18446744073709551610,Z47⟩
  have b0:=Zds (S:=fun _=>0) (T:=0) (i:=0) (by decide) (hx 0 (by decide)) hy (fun _ _=>by simp)
  have b1:=Zds (i:=1) (by decide) (hx 1 (by decide)) hy b0
  have b2:=Zds (i:=2) (by decide) (hx 2 (by decide)) hy b1
  have b3:=Zds (i:=3) (by decide) (hx 3 (by decide)) hy b2
  have s0:=Zag (kk:=kk) hx hy (n+1+1+1+1+1) 0 (fun _=>0) 0 (by decide) (fun _ _=>by simp) (by omega)
  have s1:=Zag (kk:=kk) hx hy (n+1+1+1+1) 1 _ _ (by decide) b0 (by omega)
  have s2:=Zag (kk:=kk) hx hy (n+1+1+1) 2 _ _ (by decide) b1 (by omega)
  have s3:=Zag (kk:=kk) hx hy (n+1+1) 3 _ _ (by decide) b2 (by omega)
  have s4:=Zag (kk:=kk) hx hy (n+1) 4 _ _ (by decide) b3 (by omega)
  have s5:=Zn4 (x:=x) (y:=y) n (Zg7 (Zgg x y)) kk
  unfold Zgg at s5 ⊢
  rw [← hn] at s0
  rw [Z0m6]
  exact s0.trans (s1.trans (s2.trans (s3.trans (s4.trans s5))))
theorem Zot {S:Nat→Int} {kk:Int→List Int→Option (List Int)} {k':Int→Int→List Int→Option (List Int)} {i:Nat} {c:Int} {out:List Int} (hi:i<5) (hS:0≤S i∧S i≤481707228198883376543429642158080) (hc:0≤c∧c<18446744073709551616) :
    Z6p (Zg7 S) kk k' c (i:Int) out=k' ((S i+c) / 2251799813685248) ((i+1:Nat):Int) (Z4h out i ((S i+c)%2251799813685248)):=by
  have ht:tk (Zg7 S) (i*2) 2 = [Zer (S i),Zch (S i)]:=by
    match i,hi with
    | 0,_=>rfl
    | 1,_=>rfl
    | 2,_=>rfl
    | 3,_=>rfl
    | 4,_=>rfl
  rw [Z6p,Z21 (by simp; omega),Z05 (Z2j (by omega) (by omega))]
  simp only [Ze,Int.toNat_natCast,ht,List.getD_cons_zero,List.getD_cons_succ]
  generalize S i=s at *
  have hl:0≤Zch s∧Zch s<18446744073709551616:=by unfold Zch; omega
  rw [Z05 (by simp [Zbi]; omega),Z05 (Z2j (by omega) (by omega))]
  simp only [Zhm,Zfa,Int.add_zero]
  rw [Zr (by omega) (by omega),Znc,Z025,Zho (by omega) (by omega)]
  have hh:0≤Zer s∧Zer s<1000000000000000:=by unfold Zer; omega
  have hcar:0≤(Zch s+c) / 18446744073709551616∧(Zch s+c) / 18446744073709551616≤1:=by omega
  rw [Zv (x:=Zer s+(Zch s+c) / 18446744073709551616) (by omega) (by omega)]
  have hm:(Zer s+(Zch s+c) / 18446744073709551616)*8192%18446744073709551616=(Zer s+(Zch s+c) / 18446744073709551616)*8192:=by omega
  rw [hm,Zp3 13 (x:=(Zer s+(Zch s+c) / 18446744073709551616)*8192) (a:=Zer s+(Zch s+c) / 18446744073709551616) rfl (by omega) (by omega) (by omega) (by omega)]
  have e1:(Zch s+c)%18446744073709551616%2251799813685248=(s+c)%2251799813685248:=by unfold Zch; omega
  have e2:(Zer s+(Zch s+c) / 18446744073709551616)*8192+(Zch s+c)%18446744073709551616 / 2251799813685248=(s+c) / 2251799813685248:=by unfold Zer Zch; omega
  rw [e1,e2]
  rfl
theorem alg5 (x0 x1 x2 x3 x4 y0 y1 y2 y3 y4 m:Int):(x0+x1*m+x2*(m*m)+x3*(m*m*m)+x4*(m*m*m*m))*(y0+y1*m+y2*(m*m)+y3*(m*m*m)+y4*(m*m*m*m)) =
    x0*y0+(x0*y1+x1*y0)*m+(x0*y2+x1*y1+x2*y0)*(m*m)+(x0*y3+x1*y2+x2*y1+x3*y0)*(m*m*m)+(x0*y4+x1*y3+x2*y2+x3*y1+x4*y0)*(m*m*m*m)
     + ((x1*y4+x2*y3+x3*y2+x4*y1)+(x2*y4+x3*y3+x4*y2)*m+(x3*y4+x4*y3)*(m*m)+x4*y4*(m*m*m))*(m*m*m*m*m):=by grind
theorem Zr9 (x y:List Int) : ∃ q,Z58 x*Z58 y=Zgg x y 0+Zgg x y 1*2251799813685248+Zgg x y 2*5070602400912917605986812821504+Zgg x y 3*11417981541647679048466287755595961091061972992+Zgg x y 4*25711008708143844408671393477458601640355247900524685364822016+q*PP:=by
  have h:=alg5 (x.getD 0 0) (x.getD 1 0) (x.getD 2 0) (x.getD 3 0) (x.getD 4 0) (y.getD 0 0) (y.getD 1 0) (y.getD 2 0) (y.getD 3 0) (y.getD 4 0) 2251799813685248
  have e0:Zgg x y 0=x.getD 0 0*y.getD 0 0+19*(x.getD 1 0*y.getD 4 0+x.getD 2 0*y.getD 3 0+x.getD 3 0*y.getD 2 0+x.getD 4 0*y.getD 1 0):=by simp [Zgg,inn] <;> grind
  have e1:Zgg x y 1=x.getD 0 0*y.getD 1 0+x.getD 1 0*y.getD 0 0+19*(x.getD 2 0*y.getD 4 0+x.getD 3 0*y.getD 3 0+x.getD 4 0*y.getD 2 0):=by simp [Zgg,inn] <;> grind
  have e2:Zgg x y 2=x.getD 0 0*y.getD 2 0+x.getD 1 0*y.getD 1 0+x.getD 2 0*y.getD 0 0+19*(x.getD 3 0*y.getD 4 0+x.getD 4 0*y.getD 3 0):=by simp [Zgg,inn] <;> grind
  have e3:Zgg x y 3=x.getD 0 0*y.getD 3 0+x.getD 1 0*y.getD 2 0+x.getD 2 0*y.getD 1 0+x.getD 3 0*y.getD 0 0+19*(x.getD 4 0*y.getD 4 0):=by simp [Zgg,inn] <;> grind
  have e4:Zgg x y 4=x.getD 0 0*y.getD 4 0+x.getD 1 0*y.getD 3 0+x.getD 2 0*y.getD 2 0+x.getD 3 0*y.getD 1 0+x.getD 4 0*y.getD 0 0:=by simp [Zgg,inn] <;> grind
  refine ⟨(x.getD 1 0*y.getD 4 0+x.getD 2 0*y.getD 3 0+x.getD 3 0*y.getD 2 0+x.getD 4 0*y.getD 1 0)+(x.getD 2 0*y.getD 4 0+x.getD 3 0*y.getD 3 0+x.getD 4 0*y.getD 2 0)*2251799813685248+(x.getD 3 0*y.getD 4 0+x.getD 4 0*y.getD 3 0)*5070602400912917605986812821504+x.getD 4 0*y.getD 4 0*11417981541647679048466287755595961091061972992,?_⟩
  rw [e0,e1,e2,e3,e4]
  simp only [Z58,PP]
  simp only [Int.reduceMul] at h
  rw [h]
  omega
theorem U5.mk5 {d0 d1 d2 d3 d4:Int} (h0:0≤d0∧d0<18446744073709551616) (h1:0≤d1∧d1<18446744073709551616) (h2:0≤d2∧d2<18446744073709551616) (h3:0≤d3∧d3<18446744073709551616) (h4:0≤d4∧d4<18446744073709551616):U5 [d0,d1,d2,d3,d4] :=
  ⟨h0.1,h1.1,h2.1,h3.1,h4.1,h0.2,h1.2,h2.2,h3.2,h4.2⟩
theorem Zre {c d0 d1 d2 d3 d4:Int} (hc:0≤c∧c<900000000000000000)
    (h0:0≤d0∧d0<2251799813685248) (h1:0≤d1∧d1<2251799813685248) (h2:0≤d2∧d2<2251799813685248) (h3:0≤d3∧d3<2251799813685248) (h4:0≤d4∧d4<2251799813685248) :
    (opt (Z23 (List.replicate 2 0) 0 2 c 19) fun y1819 =>
      bnd (y1819.getD 1 0) fun z1823 =>
      bnd ([d0,d1,d2,d3,d4].getD 0 0) fun z1824 =>
      chk (Zbi z1823 z1824 0) <|
      bnd (Z8b z1823 z1824 0) fun z1826 =>
      bnd (Zbp z1823 z1824 0) fun z1827 =>
      bnd (Z4 .and .u64 z1826 2251799813685247) fun z1829 =>
      bnd (Z4h [d0,d1,d2,d3,d4] 0 z1829) fun l1830 =>
      bnd (l1830.getD 1 0) fun z1832 =>
      bnd (y1819.getD 0 0) fun z1833 =>
      bnd (IntKind.wrap .u64 (z1833+z1827)) fun z1834 =>
      bnd (Zq .u64 z1834 13) fun z1835 =>
      bnd (Zh .u64 z1826 51) fun z1836 =>
      bnd (Z4 .or .u64 z1835 z1836) fun z1837 =>
      bnd (IntKind.wrap .u64 (z1832+z1837)) fun z1838 =>
      bnd (Z4h l1830 1 z1838) fun l1839 =>
      opt (Z0v l1839) fun y1841 =>
      some y1841)=some (Zec ((d0+d1*2251799813685248+d2*5070602400912917605986812821504+d3*11417981541647679048466287755595961091061972992+d4*25711008708143844408671393477458601640355247900524685364822016+19*c)%PP)):=by
  have hw:Z23 (List.replicate 2 0) 0 2 c 19=some [Zer (0+c*19),Zch (0+c*19)]:=Zq8 (s:=0) (by decide) rfl rfl (by decide) (by omega) (by omega) (by omega)
  rw [Z3 hw]
  simp only [Ze,List.getD_cons_zero,List.getD_cons_succ]
  have hl:Zch (0+c*19)=c*19%18446744073709551616:=by unfold Zch; rw [Int.zero_add]
  have hh:Zer (0+c*19)=c*19 / 18446744073709551616:=by unfold Zer; rw [Int.zero_add]
  rw [hl,hh]
  have hlt:c*19<18446744073709551616:=by omega
  rw [Int.emod_eq_of_lt (by omega) hlt,Int.ediv_eq_zero_of_lt (by omega) hlt]
  rw [Z05 (by simp [Zbi]; omega)]
  simp only [Zhm,Zfa,Int.add_zero,Int.zero_add]
  rw [Int.emod_eq_of_lt (a:=c*19+d0) (by omega) (by omega),Int.ediv_eq_zero_of_lt (a:=c*19+d0) (by omega) (by omega)]
  have ew:IntKind.wrap .u64 0=0:=by decide
  rw [ew,Znc,Z025,Zho (by omega) (by omega)]
  have e0:(0:Int)*8192%18446744073709551616=0:=by decide
  rw [e0,Zp3 13 (x:=0) (a:=0) (by simp) (by omega) (by omega) (by omega) (by omega),Int.zero_add]
  have hs1:Z4h [d0,d1,d2,d3,d4] 0 ((c*19+d0)%2251799813685248) = [(c*19+d0)%2251799813685248,d1,d2,d3,d4]:=rfl
  rw [hs1]
  simp only [List.getD_cons_zero,List.getD_cons_succ]
  rw [Zv (by omega) (by omega)]
  have hs2:Z4h [(c*19+d0)%2251799813685248,d1,d2,d3,d4] 1 (d1+(c*19+d0) / 2251799813685248) = [(c*19+d0)%2251799813685248,d1+(c*19+d0) / 2251799813685248,d2,d3,d4]:=rfl
  rw [hs2,Z3 (Z4e (U5.mk5 (by omega) (by omega) (by omega) (by omega) (by omega)))]
  unfold Zgm
  congr 3
  simp only [Z58,List.getD_cons_zero,List.getD_cons_succ]
  omega
theorem C5.le {x:List Int} (h:C5 x 262144) : ∀ j,j<5→0≤x.getD j 0∧x.getD j 0≤2251799813947392:=by
  have ⟨a0,a1,a2,a3,a4,b0,b1,b2,b3,b4⟩:=h
  intro j hj
  match j,hj with
  | 0,_=>omega
  | 1,_=>omega
  | 2,_=>omega
  | 3,_=>omega
  | 4,_=>omega
theorem Zou {x y:List Int} (hx:U5 x) (hy:U5 y):Z09 x y=some (Zec (Z58 x*Z58 y%PP)):=by
  have cx:=(Zo0 hx).le
  have cy:=(Zo0 hy).le
  rw [Z09,Z3 (Zce hx),Z3 (Zce hy),Z2f,Zow cx cy,Z2f]
  have hb:=Zv0 cx cy
  obtain ⟨q,hq⟩:=Zr9 (Z98 x) (Z98 y)
  have hm:Z58 x*Z58 y%PP=Z58 (Z98 x)*Z58 (Z98 y)%PP:=by
    rw [Int.mul_emod,← Ze8 (x:=x),← Ze8 (x:=y),← Int.mul_emod]
  rw [hm,hq,Int.add_mul_emod_self_right]
  generalize Zgg (Z98 x) (Z98 y)=S at *
  obtain ⟨n,hn⟩ : ∃ n,big=n+1+1+1+1+1+1:=⟨18446744073709551610,Z47⟩
  generalize hkk:(fun (i1740:Int) (a1741:List Int)=>_)=kk
  have step : ∀ (n i:Nat) (c:Int) (out:List Int),i<5→(0≤c∧c<18446744073709551616)→Z37 (Zg7 S) kk (n+1) c (i:Int) out=Z37 (Zg7 S) kk n ((S i+c) / 2251799813685248) ((i+1:Nat):Int) (Z4h out i ((S i+c)%2251799813685248)):=by
    intro n i c out hi hc
    rw [Z37,Zot hi (hb i hi) hc]
  have c0:=hb 0 (by decide)
  have c1:=hb 1 (by decide)
  have c2:=hb 2 (by decide)
  have c3:=hb 3 (by decide)
  have c4:=hb 4 (by decide)
  have k1 : ∃ d,(S 0+0)%2251799813685248=d∧(0≤d∧d<2251799813685248):=⟨_,rfl,by omega⟩
  have s0:=step (n+1+1+1+1+1) 0 0 (List.replicate 5 0) (by decide) (by decide)
  generalize hd0:(S 0+0)%2251799813685248=d0 at s0
  generalize hv0:(S 0+0) / 2251799813685248=v0 at s0
  have s1:=step (n+1+1+1+1) 1 v0 (Z4h (List.replicate 5 0) 0 d0) (by decide) (by omega)
  generalize hd1:(S 1+v0)%2251799813685248=d1 at s1
  generalize hv1:(S 1+v0) / 2251799813685248=v1 at s1
  have s2:=step (n+1+1+1) 2 v1 (Z4h (Z4h (List.replicate 5 0) 0 d0) 1 d1) (by decide) (by omega)
  generalize hd2:(S 2+v1)%2251799813685248=d2 at s2
  generalize hv2:(S 2+v1) / 2251799813685248=v2 at s2
  have s3:=step (n+1+1) 3 v2 (Z4h (Z4h (Z4h (List.replicate 5 0) 0 d0) 1 d1) 2 d2) (by decide) (by omega)
  generalize hd3:(S 3+v2)%2251799813685248=d3 at s3
  generalize hv3:(S 3+v2) / 2251799813685248=v3 at s3
  have s4:=step (n+1) 4 v3 (Z4h (Z4h (Z4h (Z4h (List.replicate 5 0) 0 d0) 1 d1) 2 d2) 3 d3) (by decide) (by omega)
  generalize hd4:(S 4+v3)%2251799813685248=d4 at s4
  generalize hv4:(S 4+v3) / 2251799813685248=v4 at s4
  have hout:Z4h (Z4h (Z4h (Z4h (Z4h (List.replicate 5 0) 0 d0) 1 d1) 2 d2) 3 d3) 4 d4 = [d0,d1,d2,d3,d4]:=rfl
  rw [hout] at s4
  have s5:Z37 (Zg7 S) kk (n+1) v4 ((4+1:Nat):Int) [d0,d1,d2,d3,d4]=kk v4 [d0,d1,d2,d3,d4]:=by rw [Z37,Z6p,Z1h (by decide)]
  subst hkk
  have s5:=s5.trans (Zre (c:=v4) (d0:=d0) (d1:=d1) (d2:=d2) (d3:=d3) (d4:=d4) (by omega) (by omega) (by omega) (by omega) (by omega) (by omega))
  rw [← hn] at s0
  refine s0.trans (s1.trans (s2.trans (s3.trans (s4.trans (s5.trans ?_)))))
  congr 2
  clear s0 s1 s2 s3 s4 s5 step hout hb hn k1 cx cy
  have e0:S 0=v0*2251799813685248+d0:=by omega
  have e1:S 1+v0=v1*2251799813685248+d1:=by omega
  have e2:S 2+v1=v2*2251799813685248+d2:=by omega
  have e3:S 3+v2=v3*2251799813685248+d3:=by omega
  have e4:S 4+v3=v4*2251799813685248+d4:=by omega
  clear hd0 hd1 hd2 hd3 hd4 hv0 hv1 hv2 hv3 hv4
  have key:S 0+S 1*2251799813685248+S 2*5070602400912917605986812821504+S 3*11417981541647679048466287755595961091061972992+S 4*25711008708143844408671393477458601640355247900524685364822016 =
      d0+d1*2251799813685248+d2*5070602400912917605986812821504+d3*11417981541647679048466287755595961091061972992+d4*25711008708143844408671393477458601640355247900524685364822016+19*v4+v4*PP:=by
    simp only [PP]; omega
  rw [key,Int.add_mul_emod_self_right]
theorem Zjy {x:List Int} (hx:U5 x):Z0u x=some (Zec (Z58 x*Z58 x%PP)):=by
  rw [Z0u,Z3 (Zou hx hx)]
def fe (n:Int):List Int:=Zec (n%PP)
theorem Zad (n:Int):U5 (fe n):=Zkl _
theorem Zdh:(0:Int)<PP:=by decide
theorem Z41 (n:Int):Z58 (fe n)=n%PP:=Zbv (Int.emod_nonneg _ (by decide)) (Int.emod_lt_of_pos _ Zdh)
theorem Zst (n:Int):fe (n%PP)=fe n:=by unfold fe; rw [Int.emod_emod_of_dvd _ (Int.dvd_refl _)]
theorem Zcg {a b:Int} (h:a%PP=b%PP):fe a=fe b:=by unfold fe; rw [h]
theorem Ztk (k:List Int→Option (List Int)) (x0 x1 x2 x3 x4 y0 y1 y2 y3 y4:Int):Z6n [y0,y1,y2,y3,y4] k big 0 [x0,x1,x2,x3,x4] =
    k ([IntKind.wrap .u64 (x0+y0),IntKind.wrap .u64 (x1+y1),IntKind.wrap .u64 (x2+y2),IntKind.wrap .u64 (x3+y3),IntKind.wrap .u64 (x4+y4)]):=by kernel_rfl
theorem Zsm {x y:List Int} (hx:U5 x) (hy:U5 y):Z1v x y=some (fe (Z58 x+Z58 y)):=by
  have cx:=Zo0 hx
  have cy:=Zo0 hy
  have ex:=Ze8 (x:=x)
  have ey:=Ze8 (x:=y)
  rw [Z1v,Z3 (Zce hx),Z3 (Zce hy),Z2f]
  have hlx:Z98 x = [(Z98 x).getD 0 0,(Z98 x).getD 1 0,(Z98 x).getD 2 0,(Z98 x).getD 3 0,(Z98 x).getD 4 0]:=rfl
  have hly:Z98 y = [(Z98 y).getD 0 0,(Z98 y).getD 1 0,(Z98 y).getD 2 0,(Z98 y).getD 3 0,(Z98 y).getD 4 0]:=rfl
  have hm:(Z58 x+Z58 y)%PP=(Z58 (Z98 x)+Z58 (Z98 y))%PP:=by rw [Int.add_emod,← ex,← ey,← Int.add_emod]
  rw [Zcg hm]
  generalize Z98 x=a at *
  generalize Z98 y=b at *
  have ⟨p0,p1,p2,p3,p4,q0,q1,q2,q3,q4⟩:=cx
  have ⟨r0,r1,r2,r3,r4,s0,s1,s2,s3,s4⟩:=cy
  rw [hlx,hly,Ztk]
  rw [Zv (by omega) (by omega),Zv (by omega) (by omega),Zv (by omega) (by omega),Zv (by omega) (by omega),Zv (by omega) (by omega)]
  rw [Z3 (Z4e (U5.mk5 (by omega) (by omega) (by omega) (by omega) (by omega)))]
  unfold Zgm fe
  congr 3
  simp only [Z58,List.getD_cons_zero,List.getD_cons_succ]
  omega
theorem Zv1 (k:List Int→Option (List Int)) (y0 y1 y2 y3 y4 z:Int):Z6q [y0,y1,y2,y3,y4] k big 1 [z,0,0,0,0] =
    k ([z,IntKind.wrap .u64 (4503599627370494-y1),IntKind.wrap .u64 (4503599627370494-y2),IntKind.wrap .u64 (4503599627370494-y3),IntKind.wrap .u64 (4503599627370494-y4)]):=by kernel_rfl
theorem Zsz {x:List Int} (hx:U5 x):Z4a x=some (fe (- Z58 x)):=by
  rw [Z4a,Z3 (Z4e hx)]
  simp only [Ze,Z2f]
  have hv:Z58 (Zgm x)=Z58 x%PP:=Z41 (Z58 x)
  have hl:Zgm x = [(Zgm x).getD 0 0,(Zgm x).getD 1 0,(Zgm x).getD 2 0,(Zgm x).getD 3 0,(Zgm x).getD 4 0]:=rfl
  have hb : ∀ j,j<5→0≤(Zgm x).getD j 0∧(Zgm x).getD j 0<2251799813685248:=by
    intro j hj
    unfold Zgm Zec
    match j,hj with
    | 0,_=>simp only [M51,List.getD_cons_zero,List.getD_cons_succ]; omega
    | 1,_=>simp only [M51,List.getD_cons_zero,List.getD_cons_succ]; omega
    | 2,_=>simp only [M51,List.getD_cons_zero,List.getD_cons_succ]; omega
    | 3,_=>simp only [M51,List.getD_cons_zero,List.getD_cons_succ]; omega
    | 4,_=>simp only [M51,List.getD_cons_zero,List.getD_cons_succ]; omega
  have hm:(- Z58 x)%PP=(2*PP-Z58 (Zgm x))%PP:=by
    rw [hv]
    have e : - Z58 x=2*PP-Z58 x%PP+(-2-Z58 x / PP)*PP:=by
      have:=Int.emod_add_mul_ediv (Z58 x) PP
      rw [Int.mul_comm] at this
      have h2:(-2-Z58 x / PP)*PP = -2*PP-Z58 x / PP*PP:=by rw [Int.sub_mul]
      omega
    rw [e,Int.add_mul_emod_self_right]
  rw [Zcg hm]
  generalize Zgm x=a at *
  have b0:=hb 0 (by decide)
  have b1:=hb 1 (by decide)
  have b2:=hb 2 (by decide)
  have b3:=hb 3 (by decide)
  have b4:=hb 4 (by decide)
  rw [hl]
  simp only [List.getD_cons_zero]
  rw [Zv1]
  rw [Zv (by omega) (by omega),Zv (by omega) (by omega),Zv (by omega) (by omega),Zv (by omega) (by omega),Zv (by omega) (by omega)]
  rw [Z3 (Z4e (U5.mk5 (by omega) (by omega) (by omega) (by omega) (by omega)))]
  unfold Zgm fe
  congr 3
  simp only [Z58,PP,List.getD_cons_zero,List.getD_cons_succ]
  omega
theorem Z027 {x y:List Int} (hx:U5 x) (hy:U5 y):Z3t x y=some (fe (Z58 x-Z58 y)):=by
  rw [Z3t,Z3 (Zsz hy),Z3 (Zsm hx (Zad _)),Z41]
  rw [Zcg (a:=Z58 x + -Z58 y%PP) (b:=Z58 x-Z58 y)]
  rw [Int.sub_eq_add_neg,Int.add_emod,Int.emod_emod_of_dvd _ (Int.dvd_refl _),← Int.add_emod]
theorem Zm8 {n:Int} (h:0≤n∧n<18446744073709551616):Z7u n=some (fe n):=by
  rw [Z7u]
  simp only [Ze]
  rw [Z3 (Z4e (U5.mk5 h (by omega) (by omega) (by omega) (by omega)))]
  unfold Zgm fe
  congr 3
  simp only [Z58,List.getD_cons_zero,List.getD_cons_succ]
  omega
theorem Zqy {a b:Int} (ha:0≤a∧a<PP) (hb:0≤b∧b<PP) (h:Zec a=Zec b):a=b:=by
  rw [← Zbv ha.1 ha.2,← Zbv hb.1 hb.2,h]
theorem Zq3 (n:Int):tk (Zec n) 0 5=Zec n:=rfl
theorem Zsx (a b:Int):ieq 5 (fe a) (fe b)=decide (a%PP=b%PP):=by
  unfold ieq fe
  rw [Zq3,Zq3]
  rw [decide_eq_decide]
  constructor
  · exact Zqy ⟨Int.emod_nonneg _ (by decide),Int.emod_lt_of_pos _ Zdh⟩ ⟨Int.emod_nonneg _ (by decide),Int.emod_lt_of_pos _ Zdh⟩
  · intro h; rw [h]
theorem Zqx {x y:List Int} (hx:U5 x) (hy:U5 y):Z6g x y=some (decide (Z58 x%PP=Z58 y%PP)):=by
  rw [Z6g,Z3 (Z4e hx),Z3 (Z4e hy)]
  show some (ieq 5 (fe (Z58 x)) (fe (Z58 y)))=_
  rw [Zsx]
theorem Zoo {x:List Int} (hx:U5 x):Z3r x=some (decide (Z58 x%PP=0)):=by
  rw [Z3r,Z3 (Z4e hx)]
  simp only [Ze]
  have e:([0,0,0,0,0]:List Int)=fe 0:=by decide
  rw [e]
  show some (ieq 5 (fe (Z58 x)) (fe 0))=_
  rw [Zsx]
  rfl
theorem Ztm {x:Int} (h0:0≤x) (h1:x<18446744073709551616):Z4 .and .u64 x 1=x%2:=Zhp 1 (by decide) (by decide) h0 h1
theorem Zln {x:List Int} (hx:U5 x):Z6h x=some (Z58 x%PP%2==1):=by
  rw [Z6h,Z3 (Z4e hx)]
  simp only [Ze]
  have e:(Zgm x).getD 0 0=Z58 x%PP%2251799813685248:=rfl
  rw [e,Ztm (by omega) (by omega)]
  congr 2
  omega
theorem Zpr {b:Bool} {x y:List Int} (hx:U5 x) (hy:U5 y):Z6s b x y=some (fe (bif b then Z58 x else Z58 y)):=by
  rw [Z6s]
  cases b
  · rw [Z1h rfl,Z3 (Z4e hy)]; rfl
  · rw [Z21 rfl,Z3 (Z4e hx)]; rfl
theorem and8 {x y:Int} (m n:Nat) (hx:x=m) (hy:y=n) (h1:m<256) (h2:n<256):Z4 .and .u8 x y=((m &&& n:Nat):Int):=by
  subst hx; subst hy
  show IntKind.u8.wrap (((BitVec.ofInt 8 (m:Int) &&& BitVec.ofInt 8 (n:Int)).toNat:Nat):Int)=_
  rw [BitVec.toNat_and,bv8 m h1,bv8 n h2,Z0c]
  have:m &&& n≤m:=Nat.and_le_left
  omega
theorem Zdj (k:Nat) {x y:Int} (hy:y=((2^k-1:Nat):Int)) (hk:2^k≤256) (h0:0≤x) (h1:x<256):Z4 .and .u8 x y=x%((2^k:Nat):Int):=by
  have hp:0<2^k:=Nat.pow_pos (by decide)
  rw [and8 x.toNat (2^k-1) (by omega) hy (by omega) (by omega),Nat.and_two_pow_sub_one_eq_mod]
  rw [Int.natCast_emod]
  congr 1; omega
theorem Zwl {x:Int} (h0:0≤x) (h1:x<256):Z4 .and .u8 x 1=x%2:=Zdj 1 (by decide) (by decide) h0 h1
def Byt (e:List Int):Prop:=∀ i,0≤e.getD i 0∧e.getD i 0<256
def ebit (e:List Int) (i:Nat):Bool:=(e.getD (i / 8) 0 / ((2^(i%8):Nat):Int))%2==1
def pw (x:Int) (e:List Int):Nat→Int
  | 0=>1
  | k+1=>if ebit e (255-k) then pw x e k*pw x e k%PP*x%PP else pw x e k*pw x e k%PP
theorem Zpe (x:Int) (e:List Int) (k:Nat):0≤pw x e k∧pw x e k<PP:=by
  cases k with
  | zero=>exact ⟨by show (0:Int)≤1; decide,by show (1:Int)<PP; decide⟩
  | succ k =>
    unfold pw
    split
    · exact ⟨Int.emod_nonneg _ (by decide),Int.emod_lt_of_pos _ Zdh⟩
    · exact ⟨Int.emod_nonneg _ (by decide),Int.emod_lt_of_pos _ Zdh⟩
theorem Zqz {n:Int} (h0:0≤n) (h1:n<PP):fe n=Zec n:=by unfold fe; rw [Int.emod_eq_of_lt h0 h1]
theorem Zp9 {x e:List Int} (hx:U5 x) (he:Byt e) {kk:List Int→Option (List Int)} {k':Int→List Int→Option (List Int)} {i:Nat} (hi:i<256) (a:Int) (ha:0≤a∧a<PP) :
    Z6r x e kk k' (i:Int) (Zec a)=k' ((i:Int)-1) (Zec (if ebit e i then a*a%PP*Z58 x%PP else a*a%PP)):=by
  have hsq:Z0u (Zec a)=some (Zec (a*a%PP)):=by rw [Zjy (Zkl _),Zbv ha.1 ha.2]
  rw [Z6r,Z21 (by simp),Z2f,Z3 hsq]
  simp only [Ze]
  have hd:IntKind.wrap .i64 (Int.tdiv (i:Int) 8)=((i / 8:Nat):Int):=by
    rw [Int.tdiv_eq_ediv_of_nonneg (by omega),Zr (by omega) (by omega)]; omega
  have hm:Int.tmod (i:Int) 8=((i%8:Nat):Int):=by
    rw [Int.tmod_eq_emod_of_nonneg (by omega)]; omega
  rw [hd,hm,Z05 (Z2j (by omega) (by omega)),Z05 (by simp; omega)]
  have hb:=he (i / 8)
  simp only [Int.toNat_natCast]
  rw [Zc8 .u8 (n:=i%8) (by show i%8≤8; omega)]
  have hp:(0:Int)<((2^(i%8):Nat):Int):=by have:=Nat.pow_pos (n:=i%8) (show 0<2 by decide); omega
  have hq0:=Int.ediv_nonneg hb.1 (Int.le_of_lt hp)
  have hq1:e.getD (i / 8) 0 / ((2^(i%8):Nat):Int)<256:=Int.lt_of_le_of_lt (Int.ediv_le_self _ hb.1) hb.2
  rw [Zwl hq0 hq1]
  have hw:IntKind.wrap .i64 ((i:Int)-1)=(i:Int)-1:=Zr (by omega) (by omega)
  by_cases hbit:ebit e i=true
  · have hb':(e.getD (i / 8) 0 / ((2^(i%8):Nat):Int)%2==1)=true:=hbit
    rw [Z21 hb',if_pos hbit,Z3 (Zou (Zkl _) hx),Zbv (Int.emod_nonneg _ (by decide)) (Int.emod_lt_of_pos _ Zdh),hw]
  · rw [Bool.not_eq_true] at hbit
    have hb':(e.getD (i / 8) 0 / ((2^(i%8):Nat):Int)%2==1)=false:=hbit
    rw [Z1h hb',if_neg (by rw [hbit]; decide),hw]
theorem Zly {x e:List Int} (hx:U5 x) (he:Byt e) : ∀ (k n:Nat),k≤256→Z3s x e some (n+1+k) ((k:Int)-1) (Zec (pw (Z58 x) e (256-k)))=some (Zec (pw (Z58 x) e 256))
  | 0,n,_=>by
    show Z3s x e some (n+1) _ _=_
    rw [Z3s,Z6r,Z1h (by decide)]
  | k+1,n,hk=>by
    have ih:=Zly hx he k n (by omega)
    rw [← Nat.add_assoc,Z3s]
    have hi:((k+1:Nat):Int)-1=(k:Int):=by omega
    rw [hi,Zp9 hx he (by omega) _ (Zpe _ _ _)]
    have e1:256-k=(256-(k+1))+1:=by omega
    have e2:255-(256-(k+1))=k:=by omega
    rw [e1,pw,e2] at ih
    exact ih
theorem Zt5 {x e:List Int} (hx:U5 x) (he:Byt e):Z8h x e=some (Zec (pw (Z58 x) e 256)):=by
  rw [Z8h,Z3 (Zm8 (by decide)),Z2f]
  obtain ⟨n,hn⟩ : ∃ n,big=n+1+256:=⟨18446744073709551359,Z47⟩
  have:=Zly hx he 256 n (Nat.le_refl _)
  rw [← hn] at this
  have e1:fe 1=Zec (pw (Z58 x) e (256-256)):=rfl
  rw [e1]
  exact this
end Go.Proofs.YtiflckckekjbnaaDoor
