/- Texts of a proof, one behind the other: L1 L2 L3 L4 L5 L6. -/
import Derived.Test.YtiflckckekjbnaaDoorMH2
namespace Go.Proofs.YtiflckckekjbnaaDoor
open Go Go.Sx Go.RowKit
set_option linter.all false
set_option maxHeartbeats 400000
set_option maxRecDepth 100000
def ng:Nat:=3
def G_order:List Int:=[6346243789798364141,1503914060200516822,0,1152921504606846976]
def G_first:List Int:=[7640891576956012808,13503953896175478587,4354685564936845355,11912009170470909681,5840696475078001361,11170449401992604703,2270897969802886507,6620516959819538809]
def G_table:List Int:=[4794697086780616226,8158064640168781261,13096744586834688815,16840607885511220156,4131703408338449720,6480981068601479193,10538285296894168987,12329834152419229976,15566598209576043074,1334009975649890238,2608012711638119052,6128411473006802146,8268148722764581231,9286055187155687089,11230858885718282805,13951009754708518548,16472876342353939154,17275323862435702243,1135362057144423861,2597628984639134821,3308224258029322869,5365058923640841347,6679025012923562964,8573033837759648693,10970295158949994411,12119686244451234320,12683024718118986047,13788192230050041572,14330467153632333762,15395433587784984357,489312712824947311,1452737877330783856,2861767655752347644,3322285676063803686,5560940570517711597,5996557281743188959,7280758554555802590,8532644243296465576,9350256976987008742,10552545826968843579,11727347734174303076,12113106623233404929,14000437183269869457,14369950271660146224,15101387698204529176,15463397548674623760,17586052441742319658,1182934255886127544,1847814050463011016,2177327727835720531,2830643537854262169,3796741975233480872,4115178125766777443,5681478168544905931,6601373596472566643,7507060721942968483,8399075790359081724,8693463985226723168,9568029438360202098,10144078919501101548,10430055236837252648,11840083180663258601,13761210420658862357,14299343276471374635,14566680578165727644,15097957966210449927,16922976911328602910,17689382322260857208,500013540394364858,748580250866718886,1242879168328830382,1977374033974150939,2944078676154940804,3659926193048069267,4368137639120453308,4836135668995329356,5532061633213252278,6448918945643986474,6902733635092675308,7801388544844847127]
structure Globs (W:World):Prop where
  g0:Mem W 0 0 [.ints .u64 4 G_order]
  g1:Mem W 1 0 [.ints .u64 8 G_first]
  g2:Mem W 2 0 [.ints .u64 80 G_table]
theorem Globs.at {C:Cfg} {m:List Zc} {w:World} (h:Globs C.W0) (hw:Sat C.W0 C.S m w) (hS : ∀ g,g<ng→g∉C.S):Globs w:=⟨Zft h.g0 (hS 0 (by decide)) hw,Zft h.g1 (hS 1 (by decide)) hw,Zft h.g2 (hS 2 (by decide)) hw⟩
theorem Globs.ap {C:Cfg} {m:List Zc} {w:World} {b:Nat} {o:Obj} (h:Globs C.W0) (hS : ∀ g,g<ng→g∉C.S) (hb:Has b o m) (hw:Sat C.W0 C.S m w) : ∀ g,g<ng→g ∉ [b]:=by
  intro g hg hm
  simp only [List.mem_singleton] at hm
  subst hm
  rcases hw.base _ hb.mem with h1 | h1
  · have h2:=h.g2.lt
    have h3:ng=3:=rfl
    simp only at h1
    omega
  · exact hS _ hg h1
def Z40 (p0:List Int):OL :=
 bnd (p0.getD 0 0) fun z5 =>
 bnd (Z4 .and .u64 z5 2251799813685247) fun z6 =>
 bnd (p0.getD 4 0) fun z7 =>
 bnd (Zh .u64 z7 51) fun z8 =>
 bnd (IntKind.wrap .u64 (z8*19)) fun z9 =>
 bnd (IntKind.wrap .u64 (z6+z9)) fun z10 =>
 bnd (p0.getD 1 0) fun z11 =>
 bnd (Z4 .and .u64 z11 2251799813685247) fun z12 =>
 bnd (p0.getD 0 0) fun z13 =>
 bnd (Zh .u64 z13 51) fun z14 =>
 bnd (IntKind.wrap .u64 (z12+z14)) fun z15 =>
 bnd (p0.getD 2 0) fun z16 =>
 bnd (Z4 .and .u64 z16 2251799813685247) fun z17 =>
 bnd (p0.getD 1 0) fun z18 =>
 bnd (Zh .u64 z18 51) fun z19 =>
 bnd (IntKind.wrap .u64 (z17+z19)) fun z20 =>
 bnd (p0.getD 3 0) fun z21 =>
 bnd (Z4 .and .u64 z21 2251799813685247) fun z22 =>
 bnd (p0.getD 2 0) fun z23 =>
 bnd (Zh .u64 z23 51) fun z24 =>
 bnd (IntKind.wrap .u64 (z22+z24)) fun z25 =>
 bnd (p0.getD 4 0) fun z26 =>
 bnd (Z4 .and .u64 z26 2251799813685247) fun z27 =>
 bnd (p0.getD 3 0) fun z28 =>
 bnd (Zh .u64 z28 51) fun z29 =>
 bnd (IntKind.wrap .u64 (z27+z29)) fun z30 =>
 bnd (([z10,z15,z20,z25,z30]:List Int)) fun z31 =>
 some z31
theorem Z3l {W:World} {r:(List Int)} {p0:List Int} (h:Z40 p0=some r)  :
    Calls Tryd.prog 76 [agg [.ints .u64 5 (p0)]].toArray W (Z56 W (agg [.ints .u64 5 (r)])):=by
 unfold Z40 at h
 refine Zd mo ok76 rfl ?_
 refine Z0<|Z2<|Zg (Z14 (s:=[.ints .u64 5 (p0)]) rfl fun b2 hb2=>Zg (Zw fun b3 hb3=>Z1<|Z0<|bH h fun z5 ez5 h=>bH h fun z6 ez6 h=>bH h fun z7 ez7 h=>bH h fun z8 ez8 h=>bH h fun z9 ez9 h=>bH h fun z10 ez10 h=>bH h fun z11 ez11 h=>bH h fun z12 ez12 h=>bH h fun z13 ez13 h=>bH h fun z14 ez14 h=>bH h fun z15 ez15 h=>bH h fun z16 ez16 h=>bH h fun z17 ez17 h=>bH h fun z18 ez18 h=>bH h fun z19 ez19 h=>bH h fun z20 ez20 h=>bH h fun z21 ez21 h=>bH h fun z22 ez22 h=>bH h fun z23 ez23 h=>bH h fun z24 ez24 h=>bH h fun z25 ez25 h=>bH h fun z26 ez26 h=>bH h fun z27 ez27 h=>bH h fun z28 ez28 h=>bH h fun z29 ez29 h=>bH h fun z30 ez30 h=>bH h fun z31 ez31 h=>Z2<|Z6 _ (Z3b rfl rfl (by decide))<|Z6 _ (iz ez5 (Z2k rfl (.there .here) rfl))<|Z6 _ (iz ez6 (Za rfl rfl rfl))<|Z6 _ (Z3b rfl rfl (by decide))<|Z6 _ (iz ez7 (Z2k rfl (.there .here) rfl))<|Z6 _ (iz ez8 (Z76 rfl rfl (by decide)))<|Z6 _ (iz ez9 (Za rfl rfl rfl))<|Z6 _ (iz ez10 (Za rfl rfl rfl))<|Z6 _ (Z3b rfl rfl (by decide))<|Z6 _ (iz ez11 (Z2k rfl (.there .here) rfl))<|Z6 _ (iz ez12 (Za rfl rfl rfl))<|Z6 _ (Z3b rfl rfl (by decide))<|Z6 _ (iz ez13 (Z2k rfl (.there .here) rfl))<|Z6 _ (iz ez14 (Z76 rfl rfl (by decide)))<|Z6 _ (iz ez15 (Za rfl rfl rfl))<|Z6 _ (Z3b rfl rfl (by decide))<|Z6 _ (iz ez16 (Z2k rfl (.there .here) rfl))<|Z6 _ (iz ez17 (Za rfl rfl rfl))<|Z6 _ (Z3b rfl rfl (by decide))<|Z6 _ (iz ez18 (Z2k rfl (.there .here) rfl))<|Z6 _ (iz ez19 (Z76 rfl rfl (by decide)))<|Z6 _ (iz ez20 (Za rfl rfl rfl))<|Z6 _ (Z3b rfl rfl (by decide))<|Z6 _ (iz ez21 (Z2k rfl (.there .here) rfl))<|Z6 _ (iz ez22 (Za rfl rfl rfl))<|Z6 _ (Z3b rfl rfl (by decide))<|Z6 _ (iz ez23 (Z2k rfl (.there .here) rfl))<|Z6 _ (iz ez24 (Z76 rfl rfl (by decide)))<|Z6 _ (iz ez25 (Za rfl rfl rfl))<|Z6 _ (Z3b rfl rfl (by decide))<|Z6 _ (iz ez26 (Z2k rfl (.there .here) rfl))<|Z6 _ (iz ez27 (Za rfl rfl rfl))<|Z6 _ (Z3b rfl rfl (by decide))<|Z6 _ (iz ez28 (Z2k rfl (.there .here) rfl))<|Z6 _ (iz ez29 (Z76 rfl rfl (by decide)))<|Z6 _ (iz ez30 (Za rfl rfl rfl))<|Z6 _ (az (fun z=>agg [.ints .u64 5 z]) ez31 (Zdx (.one rfl rfl rfl (.one rfl rfl rfl (.one rfl rfl rfl (.one rfl rfl rfl (.one rfl rfl rfl BdR.nil)))))))<|Zg (Zs (q:=[.ints .u64 5 (z31)]) rfl rfl rfl rfl rfl .here<|Z1<|Zk ?_)))
 revert h; refine Zz fun h=>?_
 subst h
 exact ⟨_,(.cons (.agg rfl .here rfl) .nil),rfl⟩
def Z9e (y6:(List Int)) (k47:(Int)→OL) (k70:(Int)→(Int)→OL) (i68:Int) (i69:Int):OL :=
 br ((decide (i69<4))) (
 chk (inB i69 (tk y6 1 (5-1)).length) <|
 bnd ((tk y6 1 (5-1)).getD (i69).toNat 0) fun z76 =>
 bnd (IntKind.wrap .u64 (z76+i68)) fun z78 =>
 bnd (Zh .u64 z78 51) fun z79 =>
 bnd (IntKind.wrap .i64 (i69+1)) fun z81 =>
 k70 z79 z81
 ) (
 k47 i68
 )
def Z4b (y6:(List Int)) (k47:(Int)→OL):Nat→(Int)→(Int)→OL
  | 0,_,_=>none
  | n+1,i68,i69=>Z9e y6 k47 (Z4b y6 k47 n) i68 i69
def Z9f (k150:(List Int)→OL) (k189:(Int)→(List Int)→OL) (i187:Int) (a188:List Int):OL :=
 br ((decide (i187<4))) (
 bnd (IntKind.wrap .i64 (i187+1)) fun z195 =>
 chk (inB z195 5) <|
 chk (inB i187 5) <|
 bnd (a188.getD (z195).toNat 0) fun z198 =>
 bnd (a188.getD (i187).toNat 0) fun z199 =>
 bnd (Zh .u64 z199 51) fun z200 =>
 bnd (IntKind.wrap .u64 (z198+z200)) fun z201 =>
 chk (inB z195 5) <|
 bnd (Z4h a188 (z195).toNat z201) fun l203 =>
 chk (inB i187 5) <|
 bnd (l203.getD (i187).toNat 0) fun z206 =>
 bnd (Z4 .and .u64 z206 2251799813685247) fun z207 =>
 chk (inB i187 5) <|
 bnd (Z4h l203 (i187).toNat z207) fun l209 =>
 bnd (IntKind.wrap .i64 (i187+1)) fun z211 =>
 k189 z211 l209
 ) (
 k150 a188
 )
def Z4c (k150:(List Int)→OL):Nat→(Int)→(List Int)→OL
  | 0,_,_=>none
  | n+1,i187,a188=>Z9f k150 (Z4c k150 n) i187 a188
def Z0v (p0:List Int):OL :=
 opt (Z40 p0) fun y5 =>
 opt (Z40 y5) fun y6 =>
 bnd (y6.getD 0 0) fun z8 =>
 bnd (IntKind.wrap .u64 (z8+19)) fun z9 =>
 bnd (Zh .u64 z9 51) fun z10 =>
 jn (fun (i46:Int)=>bnd (y6.getD 0 0) fun z83 =>
 bnd (IntKind.wrap .u64 (19*i46)) fun z84 =>
 bnd (IntKind.wrap .u64 (z83+z84)) fun z85 =>
 bnd (Z4h y6 0 z85) fun l86 =>
 jn (fun (a149:List Int)=>bnd (a149.getD 4 0) fun z213 =>
 bnd (Z4 .and .u64 z213 2251799813685247) fun z214 =>
 bnd (Z4h a149 4 z214) fun l215 =>
 some l215) fun k150=>Z4c k150 big 0 l86) fun k47=>Z4b y6 k47 big z10 0
theorem Z0e {W:World} {r:(List Int)} {p0:List Int} (h:Z0v p0=some r)  :
    Calls Tryd.prog 70 [agg [.ints .u64 5 (p0)]].toArray W (Z56 W (agg [.ints .u64 5 (r)])):=by
 unfold Z0v at h
 refine Zd mo ok70 rfl ?_
 refine Z0<|Z2<|Zg (Z14 (s:=[.ints .u64 5 (p0)]) rfl fun b2 hb2=>Zg (Zw fun b3 hb3=>Z1<|Z0<|oH h fun y5 ey5 h=>oH h fun y6 ey6 h=>Z2<|Z6 _ (Z02 (p:=[.ints .u64 5 (p0)]) rfl (.there .here) rfl)<|Z6 _ (Z1a rfl (Z3l ey5))<|Z6 _ (Z1a rfl (Z3l ey6))<|Zg (Zs (q:=[.ints .u64 5 (y6)]) rfl rfl rfl rfl rfl (.there .here)<|Z1<|Z0<|bH h fun z8 ez8 h=>bH h fun z9 ez9 h=>bH h fun z10 ez10 h=>Z2<|Z6 _ (Z3b rfl rfl (by decide))<|Z6 _ (iz ez8 (Z2k rfl (.there .here) rfl))<|Z6 _ (iz ez9 (Za rfl rfl rfl))<|Z6 _ (iz ez10 (Z76 rfl rfl (by decide)))<|Z8 rfl<|Z1<|Z0<|Z0<|Z2<|Z6 _ (Z90 rfl (.yes rfl) .no .no (by simp) (by decide))<|Z6 _ (Zrt rfl)<|Z8 rfl<|Z1<|jH h fun k47 qk47 h=>Zo (G:=fun t m=>∃ (i46:Int),k47 i46=some r∧Fit [(1,.pointer (some ⟨b2,0,none⟩)),(2,.pointer (some ⟨b3,0,none⟩)),(3,.int .u64 (i46))] (ck b3 58 [.ints .u64 5 ((List.replicate 5 0))]::(ck b2 58 [.ints .u64 5 (y6)] :: [])) t m) ?_ ?_)))
 ·refine Zb<|Z01 (fun n71 t m=>∃ (i68:Int) (i69:Int),Z4b y6 k47 n71 i68 i69=some r∧Fit [(1,.pointer (some ⟨b2,0,none⟩)),(2,.pointer (some ⟨b3,0,none⟩)),(3,.int .u64 (i68)),(14,(.slice (some (Z22 b2 0 1 5 1)) (5-1) (5-1))),(15,.int .i64 4),(16,.int .i64 (i69))] (ck b3 58 [.ints .u64 5 ((List.replicate 5 0))]::(ck b2 58 [.ints .u64 5 (y6)] :: [])) t m) big ?_ ?_
  ·exact ⟨z10,0,h,⟨⟨rfl,rfl,rfl,rfl,rfl,rfl,trivial⟩,(.one .here (.one .here .nil))⟩⟩
  ·rintro n71 t m ⟨i68,i69,h,hF⟩
   refine Zm hF ?_
   clear hF
   rcases n71 with _ | n71
   · exact Z1c h
   have h:Z9e y6 k47 (Z4b y6 k47 n71) i68 i69=some r:=h
   unfold Z9e at h
   obtain ⟨k70,qk70⟩ : ∃ k,k=Z4b y6 k47 n71:=⟨_,rfl⟩
   try rw [← qk70] at h
   refine Z0<|Z2<|Z6 _ (Za rfl rfl rfl)<|Z1<|Z0<|Z0l h rfl (fun h=>?_) (fun h=>?_)
   ·refine Zl<|Z0<|Zb<|Z0<|cH h fun c75 h=>bH h fun z76 ez76 h=>Z2<|Z6 _ (Z4m rfl rfl (Shp.blk (lo:=1) (hi:=5) (mz:=5) (by decide) (by simp [Zy])) c75)<|Z6 _ (iz ez76 (Zau (E:=(El.int .u64)) (s:=[.one (.int .u64 ((tk y6 1 (5-1)).getD (i69).toNat 0))]) rfl (Z1z (s:=[.ints .u64 5 (y6)]) (N:=5) (k:=.u64) (base:=0) (lo:=1) (hi:=5) (mz:=5) (.there .here) rfl (by decide)) (Z18 c75) rfl rfl))<|Z8 rfl<|Z1<|bH h fun z78 ez78 h=>bH h fun z79 ez79 h=>Z2<|Z8 rfl<|Z8 rfl<|Z6 _ (iz ez78 (Za rfl rfl rfl))<|Z6 _ (iz ez79 (Z76 rfl rfl (by decide)))<|Z8 rfl<|Z1<|bH h fun z81 ez81 h=>Z2<|Z6 _ (iz ez81 (Za rfl rfl rfl))<|Z8 rfl<|Z1 ?_
    rw [qk70] at h
    exact ⟨n71,Nat.lt_succ_self _,z79,z81,h,⟨⟨rfl,rfl,rfl,rfl,rfl,rfl,trivial⟩,(.one .here (.one .here .nil))⟩⟩
   ·exact Z0b _ rfl<|⟨i68,h,⟨⟨rfl,rfl,rfl,trivial⟩,(.one .here (.one .here .nil))⟩⟩
 ·rintro t m ⟨i46,h,hF⟩
  refine Zm hF ?_
  clear hF
  subst qk47
  refine Z0<|bH h fun z83 ez83 h=>bH h fun z84 ez84 h=>bH h fun z85 ez85 h=>bH h fun l86 el86 h=>Z2<|Z6 _ (Z3b rfl rfl (by decide))<|Z6 _ (iz ez83 (Z2k rfl (.there .here) rfl))<|Z8 rfl<|Z6 _ (iz ez84 (Za rfl rfl rfl))<|Z6 _ (iz ez85 (Za rfl rfl rfl))<|Z6 _ (Z3b rfl rfl (by decide))<|Zg (Z9d (q:=[.ints .u64 5 (l86)]) (congrArg (fun z=>([.ints .u64 5 (z)]:List Seg)) el86.symm) rfl rfl rfl rfl (.there .here)<|Z1<|Z0<|Z0<|Z2<|Z8 rfl<|Z1<|jH h fun k150 qk150 h=>Zo (G:=fun t m=>∃ (a149:List Int),k150 a149=some r∧Fit [(1,.pointer (some ⟨b2,0,none⟩)),(2,.pointer (some ⟨b3,0,none⟩))] (ck b3 58 [.ints .u64 5 ((List.replicate 5 0))]::(ck b2 58 [.ints .u64 5 (a149)] :: [])) t m) ?_ ?_)
  ·refine Zb<|Z01 (fun n190 t m=>∃ (i187:Int) (a188:List Int),Z4c k150 n190 i187 a188=some r∧Fit [(1,.pointer (some ⟨b2,0,none⟩)),(2,.pointer (some ⟨b3,0,none⟩)),(31,.int .i64 (i187))] (ck b3 58 [.ints .u64 5 ((List.replicate 5 0))]::(ck b2 58 [.ints .u64 5 (a188)] :: [])) t m) big ?_ ?_
   ·exact ⟨0,l86,h,⟨⟨rfl,rfl,rfl,trivial⟩,(.one .here (.one .here .nil))⟩⟩
   ·rintro n190 t m ⟨i187,a188,h,hF⟩
    refine Zm hF ?_
    clear hF
    rcases n190 with _ | n190
    · exact Z1c h
    have h:Z9f k150 (Z4c k150 n190) i187 a188=some r:=h
    unfold Z9f at h
    obtain ⟨k189,qk189⟩ : ∃ k,k=Z4c k150 n190:=⟨_,rfl⟩
    try rw [← qk189] at h
    refine Z0<|Z2<|Z6 _ (Za rfl rfl rfl)<|Z1<|Z0<|Z0l h rfl (fun h=>?_) (fun h=>?_)
    ·refine Zl<|Z0<|Zb<|Z0<|Z2<|Z8 rfl<|Z8 rfl<|Z1<|Z0<|bH h fun z195 ez195 h=>cH h fun c196 h=>cH h fun c197 h=>bH h fun z198 ez198 h=>bH h fun z199 ez199 h=>bH h fun z200 ez200 h=>bH h fun z201 ez201 h=>cH h fun c202 h=>bH h fun l203 el203 h=>Zu<|Z7 _ (Z19 rfl)<|Z7 _ (iz ez195 (Za rfl rfl rfl))<|Z7 _ (Z3b rfl rfl (Z1w c196))<|Z7 _ (Z19 rfl)<|Z7 _ (Z3b rfl rfl (Z1w c197))<|Zn _ (iz ez198 (Z8v (base:=0) rfl (.there .here) rfl (Z18 c196)))<|Zn _ (iz ez199 (Z8v (base:=0) rfl (.there .here) rfl (Z18 c197)))<|Z7 _ (iz ez200 (Z76 rfl rfl (by decide)))<|Z7 _ (iz ez201 (Za rfl rfl rfl))<|Z7 _ (Z3b rfl rfl (Z1w c202))<|Z2h rfl (Z5h (q:=[.ints .u64 5 (l203)]) (base:=0) el203 rfl rfl rfl (Z18 c202) rfl (.there .here)<|Z03<|cH h fun c205 h=>bH h fun z206 ez206 h=>bH h fun z207 ez207 h=>cH h fun c208 h=>bH h fun l209 el209 h=>Z2<|Z8 rfl<|Z6 _ (Z3b rfl rfl (Z1w c205))<|Z6 _ (iz ez206 (Z8v (base:=0) rfl (.there .here) rfl (Z18 c205)))<|Z6 _ (iz ez207 (Za rfl rfl rfl))<|Z6 _ (Z3b rfl rfl (Z1w c208))<|Zg (Z5h (q:=[.ints .u64 5 (l209)]) (base:=0) el209 rfl rfl rfl (Z18 c208) rfl (.there .here)<|Z1<|bH h fun z211 ez211 h=>Z2<|Z6 _ (iz ez211 (Za rfl rfl rfl))<|Z8 rfl<|Z1 ?_))
     rw [qk189] at h
     exact ⟨n190,Nat.lt_succ_self _,z211,l209,h,⟨⟨rfl,rfl,rfl,trivial⟩,(.one .here (.one .here .nil))⟩⟩
    ·exact Z0b _ rfl<|⟨a188,h,⟨⟨rfl,rfl,trivial⟩,(.one .here (.one .here .nil))⟩⟩
  ·rintro t m ⟨a149,h,hF⟩
   refine Zm hF ?_
   clear hF
   subst qk150
   refine Z0<|bH h fun z213 ez213 h=>bH h fun z214 ez214 h=>bH h fun l215 el215 h=>Z2<|Z6 _ (Z3b rfl rfl (by decide))<|Z6 _ (iz ez213 (Z2k rfl (.there .here) rfl))<|Z6 _ (iz ez214 (Za rfl rfl rfl))<|Z6 _ (Z3b rfl rfl (by decide))<|Zg (Z9d (q:=[.ints .u64 5 (l215)]) (congrArg (fun z=>([.ints .u64 5 (z)]:List Seg)) el215.symm) rfl rfl rfl rfl (.there .here)<|Z1<|Z0<|Z2<|Z6 _ (Z02 (p:=[.ints .u64 5 (l215)]) rfl (.there .here) rfl)<|Zg (Zs (q:=[.ints .u64 5 (l215)]) rfl rfl rfl rfl rfl .here<|Z1<|Zk ?_))
   revert h; refine Zz fun h=>?_
   subst h
   exact ⟨_,(.cons (.agg rfl .here rfl) .nil),rfl⟩
def Z4d (p0:Int) (p1:Int):Option (Int×Int) :=
 bnd (Z4 .and .u64 p0 4294967295) fun z3 =>
 bnd (Zh .u64 p0 32) fun z5 =>
 bnd (Z4 .and .u64 p1 4294967295) fun z7 =>
 bnd (Zh .u64 p1 32) fun z9 =>
 bnd (IntKind.wrap .u64 (z3*z7)) fun z11 =>
 bnd (IntKind.wrap .u64 (z5*z7)) fun z13 =>
 bnd (Zh .u64 z11 32) fun z14 =>
 bnd (IntKind.wrap .u64 (z13+z14)) fun z15 =>
 bnd (Z4 .and .u64 z15 4294967295) fun z17 =>
 bnd (Zh .u64 z15 32) fun z19 =>
 bnd (IntKind.wrap .u64 (z3*z9)) fun z21 =>
 bnd (IntKind.wrap .u64 (z17+z21)) fun z22 =>
 bnd (IntKind.wrap .u64 (z5*z9)) fun z24 =>
 bnd (IntKind.wrap .u64 (z24+z19)) fun z25 =>
 bnd (Zh .u64 z22 32) fun z26 =>
 bnd (IntKind.wrap .u64 (z25+z26)) fun z27 =>
 bnd (IntKind.wrap .u64 (p0*p1)) fun z29 =>
 some (z27,z29)
theorem Z8x {W:World} {r:Int×Int} {p0:Int} {p1:Int} (h:Z4d p0 p1=some r)  :
    Calls Tryd.prog 96 [.int .u64 (p0),.int .u64 (p1)].toArray W (Z56 W (.tuple #[.int .u64 (r.1),.int .u64 (r.2)])):=by
 unfold Z4d at h
 refine Zd mo ok96 rfl ?_
 refine Z0<|Z2<|Z8 rfl<|Z8 rfl<|Z1<|Z0<|bH h fun z3 ez3 h=>Z2<|Z8 rfl<|Z6 _ (iz ez3 (Za rfl rfl rfl))<|Z8 rfl<|Z1<|Z0<|bH h fun z5 ez5 h=>Z2<|Z8 rfl<|Z6 _ (iz ez5 (Z76 rfl rfl (by decide)))<|Z8 rfl<|Z1<|Z0<|bH h fun z7 ez7 h=>Z2<|Z8 rfl<|Z6 _ (iz ez7 (Za rfl rfl rfl))<|Z8 rfl<|Z1<|Z0<|bH h fun z9 ez9 h=>Z2<|Z8 rfl<|Z6 _ (iz ez9 (Z76 rfl rfl (by decide)))<|Z8 rfl<|Z1<|Z0<|bH h fun z11 ez11 h=>Z2<|Z8 rfl<|Z8 rfl<|Z6 _ (iz ez11 (Za rfl rfl rfl))<|Z8 rfl<|Z1<|Z0<|bH h fun z13 ez13 h=>bH h fun z14 ez14 h=>bH h fun z15 ez15 h=>Z2<|Z8 rfl<|Z8 rfl<|Z6 _ (iz ez13 (Za rfl rfl rfl))<|Z8 rfl<|Z6 _ (iz ez14 (Z76 rfl rfl (by decide)))<|Z6 _ (iz ez15 (Za rfl rfl rfl))<|Z8 rfl<|Z1<|Z0<|bH h fun z17 ez17 h=>Z2<|Z8 rfl<|Z6 _ (iz ez17 (Za rfl rfl rfl))<|Z8 rfl<|Z1<|Z0<|bH h fun z19 ez19 h=>Z2<|Z8 rfl<|Z6 _ (iz ez19 (Z76 rfl rfl (by decide)))<|Z8 rfl<|Z1<|Z0<|bH h fun z21 ez21 h=>bH h fun z22 ez22 h=>Z2<|Z8 rfl<|Z8 rfl<|Z8 rfl<|Z6 _ (iz ez21 (Za rfl rfl rfl))<|Z6 _ (iz ez22 (Za rfl rfl rfl))<|Z8 rfl<|Z1<|Z0<|bH h fun z24 ez24 h=>bH h fun z25 ez25 h=>bH h fun z26 ez26 h=>bH h fun z27 ez27 h=>Z2<|Z8 rfl<|Z8 rfl<|Z6 _ (iz ez24 (Za rfl rfl rfl))<|Z8 rfl<|Z6 _ (iz ez25 (Za rfl rfl rfl))<|Z8 rfl<|Z6 _ (iz ez26 (Z76 rfl rfl (by decide)))<|Z6 _ (iz ez27 (Za rfl rfl rfl))<|Z8 rfl<|Z1<|Z0<|bH h fun z29 ez29 h=>Z2<|Z8 rfl<|Z8 rfl<|Z6 _ (iz ez29 (Za rfl rfl rfl))<|Z8 rfl<|Z1<|Zk ?_
 revert h; refine Zz fun h=>?_
 subst h
 exact ⟨_,(.cons (.tmp rfl) (.cons (.tmp rfl) .nil)),rfl⟩
def Z23 (p0:List Int) (o:Nat) (L:Nat) (p1:Int) (p2:Int):OL :=
 opt (Z4d p1 p2) fun y2 =>
 chk (decide (o+1<L)) <|
 bnd (p0.getD (o+1) 0) fun z6 =>
 chk (Zbi z6 y2.2 0) <|
 bnd (Z8b z6 y2.2 0) fun z8 =>
 bnd (Zbp z6 y2.2 0) fun z9 =>
 chk (decide (o+1<L)) <|
 bnd (Z4h p0 (o+1) z8) fun l11 =>
 chk (decide (o+0<L)) <|
 bnd (l11.getD (o+0) 0) fun z14 =>
 chk (Zbi z14 y2.1 z9) <|
 bnd (Z8b z14 y2.1 z9) fun z16 =>
 bnd (Zbp z14 y2.1 z9) fun z17 =>
 chk (decide (o+0<L)) <|
 bnd (Z4h l11 (o+0) z16) fun l19 =>
 some l19
theorem Z6i {W:World} {r:(List Int)} {p0:List Int} {o:Nat} {L:Nat} {p1:Int} {p2:Int} {b:Nat} {T:TypeId} (h:Z23 p0 o L p1 p2=some r) (h0:Sat W [b] (ck b T [.ints .u64 L (p0)] :: []) W) :
    Calls Tryd.prog 77 [.pointer (some ⟨b,o,none⟩),.int .u64 (p1),.int .u64 (p2)].toArray W (Zek W [b] (fun v Ms=>v = .tuple #[]∧Ms = [.one (ck b T [.ints .u64 L (r)])])):=by
 unfold Z23 at h
 refine Z0t mo ok77 rfl h0 ?_
 refine Z0<|oH h fun y2 ey2 h=>Z2<|Z8 rfl<|Z8 rfl<|Z6 _ (Z1a rfl (Z8x ey2))<|Z8 rfl<|Z6 _ (Z1j rfl rfl)<|Z6 _ (Z1j rfl rfl)<|Z8 rfl<|Z8 rfl<|Z1<|Z0<|Z2<|Z8 rfl<|Z1<|Z0<|cH h fun c5 h=>bH h fun z6 ez6 h=>cH h fun c7 h=>bH h fun z8 ez8 h=>bH h fun z9 ez9 h=>cH h fun c10 h=>bH h fun l11 el11 h=>Z2<|Z8 rfl<|Z8 rfl<|Z6 _ (Z5a rfl)<|Z6 _ (Z6c rfl)<|Z6 _ (Zt8 (base:=0) (i:=o+1) ez6 rfl .here rfl (by omega) c5)<|Z8 rfl<|Z6 _ (Zc2 rfl Zd8 (Zwa ez8 ez9 c7))<|Z8 rfl<|Z6 _ (Z1j rfl rfl)<|Z6 _ (Z1j rfl rfl)<|Z6 _ (Z5a rfl)<|Z6 _ (Z6c rfl)<|Zg (Zoa (base:=0) (i:=o+1) (q:=[.ints .u64 L l11]) el11 rfl rfl rfl (by omega) c10 (by simp [Zbd,Seg.width]) .here<|Z8 rfl<|Z1<|cH h fun c13 h=>bH h fun z14 ez14 h=>cH h fun c15 h=>bH h fun z16 ez16 h=>bH h fun z17 ez17 h=>cH h fun c18 h=>bH h fun l19 el19 h=>Z2<|Z8 rfl<|Z8 rfl<|Z6 _ (Z5a rfl)<|Z6 _ (Z6c rfl)<|Z6 _ (Zt8 (base:=0) (i:=o+0) ez14 rfl .here rfl (by omega) c13)<|Z8 rfl<|Z8 rfl<|Z6 _ (Zc2 rfl Zd8 (Zwa ez16 ez17 c15))<|Z8 rfl<|Z6 _ (Z1j rfl rfl)<|Z6 _ (Z1j rfl rfl)<|Z6 _ (Z5a rfl)<|Z6 _ (Z6c rfl)<|Zg (Zoa (base:=0) (i:=o+0) (q:=[.ints .u64 L l19]) el19 rfl rfl rfl (by omega) c18 (by simp [Zbd,Seg.width]) .here<|Z1 ?_))
 revert h; refine Zz fun h=>?_
 subst h
 exact ⟨_,_,.nil,(.one .here .nil),⟨_,rfl,⟨rfl,rfl⟩⟩⟩
def Z5i (y7:(List Int)) (i1369:Int) (z1377:Int) (k1520:(List Int)→OL) (k1613:(Int)→(List Int)→OL) (i1611:Int) (a1612:List Int):OL :=
 br ((decide (i1611<5))) (
 jn (fun (a1637:List Int)=>bnd (IntKind.wrap .i64 (i1611+1)) fun z1660 =>
 k1613 z1660 a1637) fun k1638=>chk (inB i1611 5) <|
 bnd (y7.getD (i1611).toNat 0) fun z1641 =>
 bnd (IntKind.wrap .i64 (i1369+i1611)) fun z1643 =>
 br ((decide (z1643<5))) (
 bnd (IntKind.wrap .i64 (i1369+i1611)) fun z1646 =>
 chk (inB z1646 5) <|
 opt (Z23 a1612 (0+(z1646).toNat*2) 10 z1377 z1641) fun y1648 =>
 k1638 y1648
 ) (
 bnd (IntKind.wrap .i64 (i1369+i1611)) fun z1652 =>
 bnd (IntKind.wrap .i64 (z1652-5)) fun z1653 =>
 chk (inB z1653 5) <|
 bnd (IntKind.wrap .u64 (19*z1641)) fun z1655 =>
 opt (Z23 a1612 (0+(z1653).toNat*2) 10 z1377 z1655) fun y1656 =>
 k1638 y1656
 )
 ) (
 k1520 a1612
 )
def Z4k (y7:(List Int)) (i1369:Int) (z1377:Int) (k1520:(List Int)→OL):Nat→(Int)→(List Int)→OL
  | 0,_,_=>none
  | n+1,i1611,a1612=>Z5i y7 i1369 z1377 k1520 (Z4k y7 i1369 z1377 k1520 n) i1611 a1612
def Z8g (y6:(List Int)) (y7:(List Int)) (k837:(List Int)→OL) (k1371:(Int)→(List Int)→OL) (i1369:Int) (a1370:List Int):OL :=
 br ((decide (i1369<5))) (
 chk (inB i1369 5) <|
 bnd (y6.getD (i1369).toNat 0) fun z1377 =>
 jn (fun (a1519:List Int)=>bnd (IntKind.wrap .i64 (i1369+1)) fun z1662 =>
 k1371 z1662 a1519) fun k1520=>Z4k y7 i1369 z1377 k1520 big 0 a1370
 ) (
 k837 a1370
 )
def Z2q (y6:(List Int)) (y7:(List Int)) (k837:(List Int)→OL):Nat→(Int)→(List Int)→OL
  | 0,_,_=>none
  | n+1,i1369,a1370=>Z8g y6 y7 k837 (Z2q y6 y7 k837 n) i1369 a1370
def Z6p (a836:List Int) (k1742:(Int)→(List Int)→OL) (k1791:(Int)→(Int)→(List Int)→OL) (i1788:Int) (i1789:Int) (a1790:List Int):OL :=
 br ((decide (i1789<5))) (
 chk (inB i1789 5) <|
 bnd (tk a836 ((i1789).toNat*2) 2) fun l1797 =>
 bnd (l1797.getD 1 0) fun z1800 =>
 chk (Zbi z1800 i1788 0) <|
 bnd (Z8b z1800 i1788 0) fun z1802 =>
 bnd (Zbp z1800 i1788 0) fun z1803 =>
 bnd (Z4 .and .u64 z1802 2251799813685247) fun z1805 =>
 chk (inB i1789 5) <|
 bnd (Z4h a1790 (i1789).toNat z1805) fun l1807 =>
 bnd (l1797.getD 0 0) fun z1809 =>
 bnd (IntKind.wrap .u64 (z1809+z1803)) fun z1810 =>
 bnd (Zq .u64 z1810 13) fun z1811 =>
 bnd (Zh .u64 z1802 51) fun z1812 =>
 bnd (Z4 .or .u64 z1811 z1812) fun z1813 =>
 bnd (IntKind.wrap .i64 (i1789+1)) fun z1815 =>
 k1791 z1813 z1815 l1807
 ) (
 k1742 i1788 a1790
 )
def Z37 (a836:List Int) (k1742:(Int)→(List Int)→OL):Nat→(Int)→(Int)→(List Int)→OL
  | 0,_,_,_=>none
  | n+1,i1788,i1789,a1790=>Z6p a836 k1742 (Z37 a836 k1742 n) i1788 i1789 a1790
def Z09 (p0:List Int) (p1:List Int):OL :=
 opt (Z40 p0) fun y6 =>
 opt (Z40 p1) fun y7 =>
 jn (fun (a836:List Int)=>jn (fun (i1740:Int) (a1741:List Int)=>opt (Z23 (List.replicate 2 0) 0 2 i1740 19) fun y1819 =>
 bnd (y1819.getD 1 0) fun z1823 =>
 bnd (a1741.getD 0 0) fun z1824 =>
 chk (Zbi z1823 z1824 0) <|
 bnd (Z8b z1823 z1824 0) fun z1826 =>
 bnd (Zbp z1823 z1824 0) fun z1827 =>
 bnd (Z4 .and .u64 z1826 2251799813685247) fun z1829 =>
 bnd (Z4h a1741 0 z1829) fun l1830 =>
 bnd (l1830.getD 1 0) fun z1832 =>
 bnd (y1819.getD 0 0) fun z1833 =>
 bnd (IntKind.wrap .u64 (z1833+z1827)) fun z1834 =>
 bnd (Zq .u64 z1834 13) fun z1835 =>
 bnd (Zh .u64 z1826 51) fun z1836 =>
 bnd (Z4 .or .u64 z1835 z1836) fun z1837 =>
 bnd (IntKind.wrap .u64 (z1832+z1837)) fun z1838 =>
 bnd (Z4h l1830 1 z1838) fun l1839 =>
 opt (Z0v l1839) fun y1841 =>
 some y1841) fun k1742=>Z37 a836 k1742 big 0 0 (List.replicate 5 0)) fun k837=>Z2q y6 y7 k837 big 0 (List.replicate 10 0)
theorem Zx {W:World} {r:(List Int)} {p0:List Int} {p1:List Int} (h:Z09 p0 p1=some r)  :
    Calls Tryd.prog 39 [agg [.ints .u64 5 (p0)],agg [.ints .u64 5 (p1)]].toArray W (Z56 W (agg [.ints .u64 5 (r)])):=by
 unfold Z09 at h
 refine Zd mo ok39 rfl ?_
 refine Z0<|Z2<|Zg (Z14 (s:=[.ints .u64 5 (p0)]) rfl fun b2 hb2=>Zg (Z14 (s:=[.ints .u64 5 (p1)]) rfl fun b3 hb3=>Zg (Zw fun b4 hb4=>Z1<|Z0<|oH h fun y6 ey6 h=>oH h fun y7 ey7 h=>Zu<|Zn _ (Z02 (p:=[.ints .u64 5 (p0)]) rfl (.there (.there .here)) rfl)<|Z7 _ (Z1a rfl (Z3l ey6))<|Zn _ (Z02 (p:=[.ints .u64 5 (p1)]) rfl (.there .here) rfl)<|Z7 _ (Z1a rfl (Z3l ey7))<|Z2h rfl (Zs (q:=[.ints .u64 5 (y6)]) rfl rfl rfl rfl rfl (.there (.there .here))<|Zsl rfl (Zs (q:=[.ints .u64 5 (y7)]) rfl rfl rfl rfl rfl (.there .here)<|Z03<|Z0<|Z2<|Zg (Zw fun b9 hb9=>Z1<|Z0<|Z0<|Z2<|Z6 _ (Z02 (p:=[.ints .u64 5 (y6)]) rfl (.there (.there (.there .here))) rfl)<|Z8 rfl<|Z1<|jH h fun k837 qk837 h=>Zo (G:=fun t m=>∃ (a836:List Int),k837 a836=some r∧Fit [(4,.pointer (some ⟨b4,0,none⟩)),(5,.pointer (some ⟨b9,0,none⟩))] (ck b9 129 [.ints .u64 10 (a836)]::(ck b4 58 [.ints .u64 5 ((List.replicate 5 0))]::(ck b3 58 [.ints .u64 5 (y7)]::(ck b2 58 [.ints .u64 5 (y6)] :: [])))) t m) ?_ ?_))))))
 ·refine Zb<|Z01 (fun n1372 t m=>∃ (i1369:Int) (a1370:List Int),Z2q y6 y7 k837 n1372 i1369 a1370=some r∧Fit [(3,.pointer (some ⟨b3,0,none⟩)),(4,.pointer (some ⟨b4,0,none⟩)),(5,.pointer (some ⟨b9,0,none⟩)),(23,agg [.ints .u64 5 (y6)]),(24,.int .i64 (i1369))] (ck b9 129 [.ints .u64 10 (a1370)]::(ck b4 58 [.ints .u64 5 ((List.replicate 5 0))]::(ck b3 58 [.ints .u64 5 (y7)]::(ck b2 58 [.ints .u64 5 (y6)] :: [])))) t m) big ?_ ?_
  ·exact ⟨0,(List.replicate 10 0),h,⟨⟨rfl,rfl,rfl,rfl,rfl,trivial⟩,(.one .here (.one .here (.one .here (.one .here .nil))))⟩⟩
  ·rintro n1372 t m ⟨i1369,a1370,h,hF⟩
   refine Zm hF ?_
   clear hF
   rcases n1372 with _ | n1372
   · exact Z1c h
   have h:Z8g y6 y7 k837 (Z2q y6 y7 k837 n1372) i1369 a1370=some r:=h
   unfold Z8g at h
   obtain ⟨k1371,qk1371⟩ : ∃ k,k=Z2q y6 y7 k837 n1372:=⟨_,rfl⟩
   try rw [← qk1371] at h
   refine Z0<|Z2<|Z6 _ (Za rfl rfl rfl)<|Z1<|Z0<|Z0l h rfl (fun h=>?_) (fun h=>?_)
   ·refine Zl<|Z0<|Zb<|Z0<|cH h fun c1376 h=>bH h fun z1377 ez1377 h=>Z2<|Z8 rfl<|Z6 _ (iz ez1377 (Zet (len:=5) rfl rfl (Z1w c1376)))<|Z8 rfl<|Z8 rfl<|Z1<|Z0<|Z2<|Z6 _ (Z02 (p:=[.ints .u64 5 (y7)]) rfl (.there (.there .here)) rfl)<|Z8 rfl<|Z1<|jH h fun k1520 qk1520 h=>Zo (G:=fun t m=>∃ (a1519:List Int),k1520 a1519=some r∧Fit [(3,.pointer (some ⟨b3,0,none⟩)),(4,.pointer (some ⟨b4,0,none⟩)),(5,.pointer (some ⟨b9,0,none⟩)),(23,agg [.ints .u64 5 (y6)]),(24,.int .i64 (i1369))] (ck b9 129 [.ints .u64 10 (a1519)]::(ck b4 58 [.ints .u64 5 ((List.replicate 5 0))]::(ck b3 58 [.ints .u64 5 (y7)]::(ck b2 58 [.ints .u64 5 (y6)] :: [])))) t m) ?_ ?_
    ·refine Zb<|Z01 (fun n1614 t m=>∃ (i1611:Int) (a1612:List Int),Z4k y7 i1369 z1377 k1520 n1614 i1611 a1612=some r∧Fit [(3,.pointer (some ⟨b3,0,none⟩)),(4,.pointer (some ⟨b4,0,none⟩)),(5,.pointer (some ⟨b9,0,none⟩)),(6,.int .i64 (i1369)),(7,.int .u64 (z1377)),(23,agg [.ints .u64 5 (y6)]),(24,.int .i64 (i1369)),(28,agg [.ints .u64 5 (y7)]),(29,.int .i64 (i1611))] (ck b9 129 [.ints .u64 10 (a1612)]::(ck b4 58 [.ints .u64 5 ((List.replicate 5 0))]::(ck b3 58 [.ints .u64 5 (y7)]::(ck b2 58 [.ints .u64 5 (y6)] :: [])))) t m) big ?_ ?_
     ·exact ⟨0,a1370,h,⟨⟨rfl,rfl,rfl,rfl,rfl,rfl,rfl,rfl,rfl,trivial⟩,(.one .here (.one .here (.one .here (.one .here .nil))))⟩⟩
     ·rintro n1614 t m ⟨i1611,a1612,h,hF⟩
      refine Zm hF ?_
      clear hF
      rcases n1614 with _ | n1614
      · exact Z1c h
      have h:Z5i y7 i1369 z1377 k1520 (Z4k y7 i1369 z1377 k1520 n1614) i1611 a1612=some r:=h
      unfold Z5i at h
      obtain ⟨k1613,qk1613⟩ : ∃ k,k=Z4k y7 i1369 z1377 k1520 n1614:=⟨_,rfl⟩
      try rw [← qk1613] at h
      refine Z0<|Z2<|Z6 _ (Za rfl rfl rfl)<|Z1<|Z0<|Z0l h rfl (fun h=>?_) (fun h=>?_)
      ·refine Zl<|Z0<|jH h fun k1638 qk1638 h=>Zo (G:=fun t m=>∃ (a1637:List Int),k1638 a1637=some r∧Fit [(3,.pointer (some ⟨b3,0,none⟩)),(4,.pointer (some ⟨b4,0,none⟩)),(5,.pointer (some ⟨b9,0,none⟩)),(6,.int .i64 (i1369)),(7,.int .u64 (z1377)),(23,agg [.ints .u64 5 (y6)]),(24,.int .i64 (i1369)),(28,agg [.ints .u64 5 (y7)]),(29,.int .i64 (i1611))] (ck b9 129 [.ints .u64 10 (a1637)]::(ck b4 58 [.ints .u64 5 ((List.replicate 5 0))]::(ck b3 58 [.ints .u64 5 (y7)]::(ck b2 58 [.ints .u64 5 (y6)] :: [])))) t m) ?_ ?_
       ·refine Zb<|Z0<|cH h fun c1640 h=>bH h fun z1641 ez1641 h=>Z2<|Z8 rfl<|Z6 _ (iz ez1641 (Zet (len:=5) rfl rfl (Z1w c1640)))<|Z8 rfl<|Z8 rfl<|Z1<|Z0<|bH h fun z1643 ez1643 h=>Z2<|Z8 rfl<|Z8 rfl<|Z6 _ (iz ez1643 (Za rfl rfl rfl))<|Z6 _ (Za rfl rfl rfl)<|Z1<|Z0l h rfl (fun h=>?_) (fun h=>?_)
        ·refine bH h fun z1646 ez1646 h=>cH h fun c1647 h=>oH h fun y1648 ey1648 h=>Z2<|Z8 rfl<|Z8 rfl<|Z6 _ (iz ez1646 (Za rfl rfl rfl))<|Z6 _ (Z3b rfl rfl (Z1w c1647))<|Z8 rfl<|Z8 rfl<|Zg (Z4s (mS:=[_]) rfl (Z3y.perm .here) (fun w hw=>Z6i  ey1648 (Za3 hw (mS:=[_]) (Z3y.perm .here)) ) fun v1649 Msv1649 R1650=>?_)
         obtain ⟨rfl,rfl⟩:=R1650
         exact Z1<|⟨y1648,h,⟨⟨rfl,rfl,rfl,rfl,rfl,rfl,rfl,rfl,rfl,trivial⟩,(.one .here (.one .here (.one .here (.one .here .nil))))⟩⟩
        ·refine bH h fun z1652 ez1652 h=>bH h fun z1653 ez1653 h=>cH h fun c1654 h=>bH h fun z1655 ez1655 h=>oH h fun y1656 ey1656 h=>Z2<|Z8 rfl<|Z8 rfl<|Z6 _ (iz ez1652 (Za rfl rfl rfl))<|Z6 _ (iz ez1653 (Za rfl rfl rfl))<|Z6 _ (Z3b rfl rfl (Z1w c1654))<|Z8 rfl<|Z8 rfl<|Z6 _ (iz ez1655 (Za rfl rfl rfl))<|Zg (Z4s (mS:=[_]) rfl (Z3y.perm .here) (fun w hw=>Z6i  ey1656 (Za3 hw (mS:=[_]) (Z3y.perm .here)) ) fun v1657 Msv1657 R1658=>?_)
         obtain ⟨rfl,rfl⟩:=R1658
         exact Z1<|⟨y1656,h,⟨⟨rfl,rfl,rfl,rfl,rfl,rfl,rfl,rfl,rfl,trivial⟩,(.one .here (.one .here (.one .here (.one .here .nil))))⟩⟩
       ·rintro t m ⟨a1637,h,hF⟩
        refine Zm hF ?_
        clear hF
        subst qk1638
        refine bH h fun z1660 ez1660 h=>Z2<|Z6 _ (iz ez1660 (Za rfl rfl rfl))<|Z8 rfl<|Z1 ?_
        rw [qk1613] at h
        exact ⟨n1614,Nat.lt_succ_self _,z1660,a1637,h,⟨⟨rfl,rfl,rfl,rfl,rfl,rfl,rfl,rfl,rfl,trivial⟩,(.one .here (.one .here (.one .here (.one .here .nil))))⟩⟩
      ·exact Z0b _ rfl<|⟨a1612,h,⟨⟨rfl,rfl,rfl,rfl,rfl,trivial⟩,(.one .here (.one .here (.one .here (.one .here .nil))))⟩⟩
    ·rintro t m ⟨a1519,h,hF⟩
     refine Zm hF ?_
     clear hF
     subst qk1520
     refine bH h fun z1662 ez1662 h=>Z2<|Z6 _ (iz ez1662 (Za rfl rfl rfl))<|Z8 rfl<|Z1 ?_
     rw [qk1371] at h
     exact ⟨n1372,Nat.lt_succ_self _,z1662,a1519,h,⟨⟨rfl,rfl,rfl,rfl,rfl,trivial⟩,(.one .here (.one .here (.one .here (.one .here .nil))))⟩⟩
   ·exact Z0b _ rfl<|⟨a1370,h,⟨⟨rfl,rfl,trivial⟩,(.one .here (.one .here (.one .here (.one .here .nil))))⟩⟩
 ·rintro t m ⟨a836,h,hF⟩
  refine Zm hF ?_
  clear hF
  subst qk837
  refine Z0<|Z2<|Zg (Zw fun b1664 hb1664=>Z1<|Z0<|Z2<|Z8 rfl<|Z1<|Z0<|Z0<|Z2<|Z6 _ (Z02 (p:=[.ints .u64 10 (a836)]) rfl (.there .here) rfl)<|Z8 rfl<|Z1<|jH h fun k1742 qk1742 h=>Zo (G:=fun t m=>∃ (i1740:Int) (a1741:List Int),k1742 i1740 a1741=some r∧Fit [(4,.pointer (some ⟨b4,0,none⟩)),(10,.pointer (some ⟨b1664,0,none⟩)),(11,.int .u64 (i1740))] (ck b1664 58 [.ints .u64 5 (a1741)]::(ck b9 129 [.ints .u64 10 (a836)]::(ck b4 58 [.ints .u64 5 ((List.replicate 5 0))]::(ck b3 58 [.ints .u64 5 (y7)]::(ck b2 58 [.ints .u64 5 (y6)] :: []))))) t m) ?_ ?_)
  ·refine Zb<|Z01 (fun n1792 t m=>∃ (i1788:Int) (i1789:Int) (a1790:List Int),Z37 a836 k1742 n1792 i1788 i1789 a1790=some r∧Fit [(4,.pointer (some ⟨b4,0,none⟩)),(10,.pointer (some ⟨b1664,0,none⟩)),(11,.int .u64 (i1788)),(55,agg [.ints .u64 10 (a836)]),(56,.int .i64 (i1789))] (ck b1664 58 [.ints .u64 5 (a1790)]::(ck b9 129 [.ints .u64 10 (a836)]::(ck b4 58 [.ints .u64 5 ((List.replicate 5 0))]::(ck b3 58 [.ints .u64 5 (y7)]::(ck b2 58 [.ints .u64 5 (y6)] :: []))))) t m) big ?_ ?_
   ·exact ⟨0,0,(List.replicate 5 0),h,⟨⟨rfl,rfl,rfl,rfl,rfl,trivial⟩,(.one .here (.one .here (.one .here (.one .here (.one .here .nil)))))⟩⟩
   ·rintro n1792 t m ⟨i1788,i1789,a1790,h,hF⟩
    refine Zm hF ?_
    clear hF
    rcases n1792 with _ | n1792
    · exact Z1c h
    have h:Z6p a836 k1742 (Z37 a836 k1742 n1792) i1788 i1789 a1790=some r:=h
    unfold Z6p at h
    obtain ⟨k1791,qk1791⟩ : ∃ k,k=Z37 a836 k1742 n1792:=⟨_,rfl⟩
    try rw [← qk1791] at h
    refine Z0<|Z2<|Z6 _ (Za rfl rfl rfl)<|Z1<|Z0<|Z0l h rfl (fun h=>?_) (fun h=>?_)
    ·refine Zl<|Z0<|Zb<|Z0<|cH h fun c1796 h=>bH h fun l1797 el1797 h=>Z2<|Z8 rfl<|Z6 _ (az (fun z=>agg [.ints .u64 2 z]) el1797 (Zy6 (len:=5) (w:=2) rfl rfl (Z1w c1796)))<|Zg (Zw fun b1798 hb1798=>Z8 rfl<|Zg (Zs (q:=[.ints .u64 2 (l1797)]) rfl rfl rfl rfl rfl .here<|Z1<|Z0<|bH h fun z1800 ez1800 h=>cH h fun c1801 h=>bH h fun z1802 ez1802 h=>bH h fun z1803 ez1803 h=>Z2<|Z6 _ (Z6c rfl)<|Z6 _ (iz ez1800 (Z2k rfl .here rfl))<|Z8 rfl<|Z6 _ (Zc2 rfl Zd8 (Zwa ez1802 ez1803 c1801))<|Z8 rfl<|Z6 _ (Z1j rfl rfl)<|Z6 _ (Z1j rfl rfl)<|Z8 rfl<|Z8 rfl<|Z1<|Z0<|bH h fun z1805 ez1805 h=>cH h fun c1806 h=>bH h fun l1807 el1807 h=>Z2<|Z8 rfl<|Z8 rfl<|Z6 _ (iz ez1805 (Za rfl rfl rfl))<|Z6 _ (Z3b rfl rfl (Z1w c1806))<|Zg (Z5h (q:=[.ints .u64 5 (l1807)]) (base:=0) el1807 rfl rfl rfl (Z18 c1806) rfl (.there .here)<|Z1<|bH h fun z1809 ez1809 h=>bH h fun z1810 ez1810 h=>bH h fun z1811 ez1811 h=>bH h fun z1812 ez1812 h=>bH h fun z1813 ez1813 h=>Z2<|Z6 _ (Z6c rfl)<|Z6 _ (iz ez1809 (Z2k rfl .here rfl))<|Z8 rfl<|Z6 _ (iz ez1810 (Za rfl rfl rfl))<|Z6 _ (iz ez1811 (Zi7 rfl rfl (by decide)))<|Z8 rfl<|Z6 _ (iz ez1812 (Z76 rfl rfl (by decide)))<|Z6 _ (iz ez1813 (Za rfl rfl rfl))<|Z8 rfl<|Z1<|bH h fun z1815 ez1815 h=>Z2<|Z6 _ (iz ez1815 (Za rfl rfl rfl))<|Z8 rfl<|Z1 ?_)))
     rw [qk1791] at h
     exact ⟨n1792,Nat.lt_succ_self _,z1813,z1815,l1807,h,⟨⟨rfl,rfl,rfl,rfl,rfl,trivial⟩,(.one (.there .here) (.one (.there .here) (.one (.there .here) (.one (.there .here) (.one (.there .here) .nil)))))⟩⟩
    ·exact Z0b _ rfl<|⟨i1788,a1790,h,⟨⟨rfl,rfl,rfl,trivial⟩,(.one .here (.one .here (.one .here (.one .here (.one .here .nil)))))⟩⟩
  ·rintro t m ⟨i1740,a1741,h,hF⟩
   refine Zm hF ?_
   clear hF
   subst qk1742
   refine Z0<|Z2<|Zg (Zw fun b1817 hb1817=>Z1<|Z0<|oH h fun y1819 ey1819 h=>Z2<|Z8 rfl<|Zg (Z4s (mS:=[_]) rfl (Z3y.perm .here) (fun w hw=>Z6i  ey1819 (Za3 hw (mS:=[_]) (Z3y.perm .here)) ) fun v1820 Msv1820 R1821=>?_))
   obtain ⟨rfl,rfl⟩:=R1821
   refine Z1<|Z0<|bH h fun z1823 ez1823 h=>bH h fun z1824 ez1824 h=>cH h fun c1825 h=>bH h fun z1826 ez1826 h=>bH h fun z1827 ez1827 h=>Z2<|Z6 _ (Z6c rfl)<|Z6 _ (iz ez1823 (Z2k rfl .here rfl))<|Z6 _ (Z3b rfl rfl (by decide))<|Z6 _ (iz ez1824 (Z2k rfl (.there .here) rfl))<|Z6 _ (Zc2 rfl Zd8 (Zwa ez1826 ez1827 c1825))<|Z8 rfl<|Z6 _ (Z1j rfl rfl)<|Z6 _ (Z1j rfl rfl)<|Z8 rfl<|Z8 rfl<|Z1<|Z0<|bH h fun z1829 ez1829 h=>bH h fun l1830 el1830 h=>Z2<|Z8 rfl<|Z6 _ (iz ez1829 (Za rfl rfl rfl))<|Z6 _ (Z3b rfl rfl (by decide))<|Zg (Z9d (q:=[.ints .u64 5 (l1830)]) (congrArg (fun z=>([.ints .u64 5 (z)]:List Seg)) el1830.symm) rfl rfl rfl rfl (.there .here)<|Z1<|Z0<|bH h fun z1832 ez1832 h=>bH h fun z1833 ez1833 h=>bH h fun z1834 ez1834 h=>bH h fun z1835 ez1835 h=>bH h fun z1836 ez1836 h=>bH h fun z1837 ez1837 h=>bH h fun z1838 ez1838 h=>bH h fun l1839 el1839 h=>Z2<|Z6 _ (Z3b rfl rfl (by decide))<|Z6 _ (iz ez1832 (Z2k rfl (.there .here) rfl))<|Z6 _ (Z6c rfl)<|Z6 _ (iz ez1833 (Z2k rfl .here rfl))<|Z8 rfl<|Z6 _ (iz ez1834 (Za rfl rfl rfl))<|Z6 _ (iz ez1835 (Zi7 rfl rfl (by decide)))<|Z8 rfl<|Z6 _ (iz ez1836 (Z76 rfl rfl (by decide)))<|Z6 _ (iz ez1837 (Za rfl rfl rfl))<|Z6 _ (iz ez1838 (Za rfl rfl rfl))<|Z6 _ (Z3b rfl rfl (by decide))<|Zg (Z9d (q:=[.ints .u64 5 (l1839)]) (congrArg (fun z=>([.ints .u64 5 (z)]:List Seg)) el1839.symm) rfl rfl rfl rfl (.there .here)<|Z1<|Z0<|oH h fun y1841 ey1841 h=>Z2<|Z6 _ (Z02 (p:=[.ints .u64 5 (l1839)]) rfl (.there .here) rfl)<|Z6 _ (Z1a rfl (Z0e ey1841))<|Zg (Zs (q:=[.ints .u64 5 (y1841)]) rfl rfl rfl rfl rfl (.there (.there (.there .here)))<|Z1<|Zk ?_)))
   revert h; refine Zz fun h=>?_
   subst h
   exact ⟨_,(.cons (.agg rfl (.there (.there (.there .here))) rfl) .nil),rfl⟩
def Z0u (p0:List Int):OL :=
 opt (Z09 p0 p0) fun y5 =>
 some y5
theorem Z1i {W:World} {r:(List Int)} {p0:List Int} (h:Z0u p0=some r)  :
    Calls Tryd.prog 34 [agg [.ints .u64 5 (p0)]].toArray W (Z56 W (agg [.ints .u64 5 (r)])):=by
 unfold Z0u at h
 refine Zd mo ok34 rfl ?_
 refine Z0<|Z2<|Zg (Z14 (s:=[.ints .u64 5 (p0)]) rfl fun b2 hb2=>Zg (Zw fun b3 hb3=>Z1<|Z0<|oH h fun y5 ey5 h=>Z2<|Z6 _ (Z02 (p:=[.ints .u64 5 (p0)]) rfl (.there .here) rfl)<|Z6 _ (Z02 (p:=[.ints .u64 5 (p0)]) rfl (.there .here) rfl)<|Z6 _ (Z1a rfl (Zx ey5))<|Zg (Zs (q:=[.ints .u64 5 (y5)]) rfl rfl rfl rfl rfl .here<|Z1<|Zk ?_)))
 revert h; refine Zz fun h=>?_
 subst h
 exact ⟨_,(.cons (.agg rfl .here rfl) .nil),rfl⟩
def Z7u (p0:Int):OL :=
 bnd (([p0,0,0,0,0]:List Int)) fun z4 =>
 opt (Z0v z4) fun y5 =>
 some y5
theorem Zb8 {W:World} {r:(List Int)} {p0:Int} (h:Z7u p0=some r)  :
    Calls Tryd.prog 74 [.int .u64 (p0)].toArray W (Z56 W (agg [.ints .u64 5 (r)])):=by
 unfold Z7u at h
 refine Zd mo ok74 rfl ?_
 refine Z0<|Z2<|Zg (Zw fun b2 hb2=>Z1<|Z0<|bH h fun z4 ez4 h=>oH h fun y5 ey5 h=>Z2<|Z8 rfl<|Z6 _ (az (fun z=>agg [.ints .u64 5 z]) ez4 (Zdx (.one rfl rfl rfl BdR.nil)))<|Z6 _ (Z1a rfl (Z0e ey5))<|Zg (Zs (q:=[.ints .u64 5 (y5)]) rfl rfl rfl rfl rfl .here<|Z1<|Zk ?_))
 revert h; refine Zz fun h=>?_
 subst h
 exact ⟨_,(.cons (.agg rfl .here rfl) .nil),rfl⟩
def Z6r (p0:List Int) (p1:List Int) (k102:(List Int)→OL) (k161:(Int)→(List Int)→OL) (i159:Int) (a160:List Int):OL :=
 br ((decide (i159≥0))) (
 jn (fun (a178:List Int)=>bnd (IntKind.wrap .i64 (i159-1)) fun z194 =>
 k161 z194 a178) fun k179=>opt (Z0u a160) fun y181 =>
 bnd (IntKind.wrap .i64 (Int.tdiv i159 8)) fun z183 =>
 chk (inB z183 32) <|
 bnd (p1.getD (z183).toNat 0) fun z185 =>
 bnd (Int.tmod i159 8) fun z186 =>
 chk (decide (0≤z186)) <|
 bnd (Zh .u8 z185 z186) fun z188 =>
 bnd (Z4 .and .u8 z188 1) fun z189 =>
 br ((z189==1)) (
 opt (Z09 y181 p0) fun y192 =>
 k179 y192
 ) (
 k179 y181
 )
 ) (
 k102 a160
 )
def Z3s (p0:List Int) (p1:List Int) (k102:(List Int)→OL):Nat→(Int)→(List Int)→OL
  | 0,_,_=>none
  | n+1,i159,a160=>Z6r p0 p1 k102 (Z3s p0 p1 k102 n) i159 a160
def Z8h (p0:List Int) (p1:List Int):OL :=
 opt (Z7u 1) fun y6 =>
 jn (fun (a101:List Int)=>some a101) fun k102=>Z3s p0 p1 k102 big 255 y6
theorem Za0 {W:World} {r:(List Int)} {p0:List Int} {p1:List Int} (h:Z8h p0 p1=some r)  :
    Calls Tryd.prog 71 [agg [.ints .u64 5 (p0)],agg [.ints .u8 32 (p1)]].toArray W (Z56 W (agg [.ints .u64 5 (r)])):=by
 unfold Z8h at h
 refine Zd mo ok71 rfl ?_
 refine Z0<|Z2<|Zg (Z14 (s:=[.ints .u64 5 (p0)]) rfl fun b2 hb2=>Zg (Z14 (s:=[.ints .u8 32 (p1)]) rfl fun b3 hb3=>Zg (Zw fun b4 hb4=>Z1<|Z0<|oH h fun y6 ey6 h=>Z2<|Z6 _ (Z1a rfl (Zb8 ey6))<|Zg (Zw fun b7 hb7=>Zg (Zs (q:=[.ints .u64 5 (y6)]) rfl rfl rfl rfl rfl .here<|Z1<|Z0<|Z0<|Z2<|Z8 rfl<|Z1<|jH h fun k102 qk102 h=>Zo (G:=fun t m=>∃ (a101:List Int),k102 a101=some r∧Fit [(4,.pointer (some ⟨b4,0,none⟩)),(5,.pointer (some ⟨b7,0,none⟩))] (ck b7 58 [.ints .u64 5 (a101)]::(ck b4 58 [.ints .u64 5 ((List.replicate 5 0))]::(ck b3 26 [.ints .u8 32 (p1)]::(ck b2 58 [.ints .u64 5 (p0)] :: [])))) t m) ?_ ?_)))))
 ·refine Zb<|Z01 (fun n162 t m=>∃ (i159:Int) (a160:List Int),Z3s p0 p1 k102 n162 i159 a160=some r∧Fit [(2,.pointer (some ⟨b2,0,none⟩)),(3,.pointer (some ⟨b3,0,none⟩)),(4,.pointer (some ⟨b4,0,none⟩)),(5,.pointer (some ⟨b7,0,none⟩)),(6,.int .i64 (i159))] (ck b7 58 [.ints .u64 5 (a160)]::(ck b4 58 [.ints .u64 5 ((List.replicate 5 0))]::(ck b3 26 [.ints .u8 32 (p1)]::(ck b2 58 [.ints .u64 5 (p0)] :: [])))) t m) big ?_ ?_
  ·exact ⟨255,y6,h,⟨⟨rfl,rfl,rfl,rfl,rfl,trivial⟩,(.one .here (.one .here (.one .here (.one .here .nil))))⟩⟩
  ·rintro n162 t m ⟨i159,a160,h,hF⟩
   refine Zm hF ?_
   clear hF
   rcases n162 with _ | n162
   · exact Z1c h
   have h:Z6r p0 p1 k102 (Z3s p0 p1 k102 n162) i159 a160=some r:=h
   unfold Z6r at h
   obtain ⟨k161,qk161⟩ : ∃ k,k=Z3s p0 p1 k102 n162:=⟨_,rfl⟩
   try rw [← qk161] at h
   refine Z0<|Z0<|Z2<|Z8 rfl<|Z6 _ (Za rfl rfl rfl)<|Z1<|Z0l h rfl (fun h=>?_) (fun h=>?_)
   ·refine Zl<|Z0<|jH h fun k179 qk179 h=>Zo (G:=fun t m=>∃ (a178:List Int),k179 a178=some r∧Fit [(2,.pointer (some ⟨b2,0,none⟩)),(3,.pointer (some ⟨b3,0,none⟩)),(4,.pointer (some ⟨b4,0,none⟩)),(5,.pointer (some ⟨b7,0,none⟩)),(6,.int .i64 (i159))] (ck b7 58 [.ints .u64 5 (a178)]::(ck b4 58 [.ints .u64 5 ((List.replicate 5 0))]::(ck b3 26 [.ints .u8 32 (p1)]::(ck b2 58 [.ints .u64 5 (p0)] :: [])))) t m) ?_ ?_
    ·refine Zb<|Z0<|oH h fun y181 ey181 h=>Z2<|Z6 _ (Z02 (p:=[.ints .u64 5 (a160)]) rfl .here rfl)<|Z6 _ (Z1a rfl (Z1i ey181))<|Zg (Zs (q:=[.ints .u64 5 (y181)]) rfl rfl rfl rfl rfl .here<|Z1<|Z0<|bH h fun z183 ez183 h=>cH h fun c184 h=>bH h fun z185 ez185 h=>bH h fun z186 ez186 h=>cH h fun c187 h=>bH h fun z188 ez188 h=>bH h fun z189 ez189 h=>Z2<|Z8 rfl<|Z6 _ (iz ez183 (Zjn rfl rfl (by decide)))<|Z6 _ (Z3b rfl rfl (Z1w c184))<|Z6 _ (iz ez185 (Z8v (base:=0) rfl (.there (.there .here)) rfl (Z18 c184)))<|Z8 rfl<|Z6 _ (iz ez186 (Zjo rfl rfl (by decide)))<|Z6 _ (iz ez188 (Z76 rfl rfl (of_decide_eq_true c187)))<|Z6 _ (iz ez189 (Za rfl rfl rfl))<|Z6 _ (Za rfl rfl rfl)<|Z1<|Z0l h rfl (fun h=>?_) (fun h=>?_))
     ·exact oH h fun y192 ey192 h=>Z2<|Z6 _ (Z02 (p:=[.ints .u64 5 (y181)]) rfl .here rfl)<|Z6 _ (Z02 (p:=[.ints .u64 5 (p0)]) rfl (.there (.there (.there .here))) rfl)<|Z6 _ (Z1a rfl (Zx ey192))<|Zg (Zs (q:=[.ints .u64 5 (y192)]) rfl rfl rfl rfl rfl .here<|Z1<|⟨y192,h,⟨⟨rfl,rfl,rfl,rfl,rfl,trivial⟩,(.one .here (.one .here (.one .here (.one .here .nil))))⟩⟩)
     ·exact Zl<|⟨y181,h,⟨⟨rfl,rfl,rfl,rfl,rfl,trivial⟩,(.one .here (.one .here (.one .here (.one .here .nil))))⟩⟩
    ·rintro t m ⟨a178,h,hF⟩
     refine Zm hF ?_
     clear hF
     subst qk179
     refine bH h fun z194 ez194 h=>Z2<|Z8 rfl<|Z6 _ (iz ez194 (Za rfl rfl rfl))<|Z8 rfl<|Z1 ?_
     rw [qk161] at h
     exact ⟨n162,Nat.lt_succ_self _,z194,a178,h,⟨⟨rfl,rfl,rfl,rfl,rfl,trivial⟩,(.one .here (.one .here (.one .here (.one .here .nil))))⟩⟩
   ·exact Z0b _ rfl<|⟨a160,h,⟨⟨rfl,rfl,trivial⟩,(.one .here (.one .here (.one .here (.one .here .nil))))⟩⟩
 ·rintro t m ⟨a101,h,hF⟩
  refine Zm hF ?_
  clear hF
  subst qk102
  refine Z0<|Z2<|Z6 _ (Z02 (p:=[.ints .u64 5 (a101)]) rfl .here rfl)<|Zg (Zs (q:=[.ints .u64 5 (a101)]) rfl rfl rfl rfl rfl (.there .here)<|Z1<|Zk ?_)
  revert h; refine Zz fun h=>?_
  subst h
  exact ⟨_,(.cons (.agg rfl (.there .here) rfl) .nil),rfl⟩
def Za1 (k34:(List Int)→OL) (k52:(Int)→(List Int)→OL) (i50:Int) (a51:List Int):OL :=
 br ((decide (i50<32))) (
 chk (inB i50 32) <|
 bnd (Z4h a51 (i50).toNat 255) fun l59 =>
 bnd (IntKind.wrap .i64 (i50+1)) fun z61 =>
 k52 z61 l59
 ) (
 k34 a51
 )
def Z67 (k34:(List Int)→OL):Nat→(Int)→(List Int)→OL
  | 0,_,_=>none
  | n+1,i50,a51=>Za1 k34 (Z67 k34 n) i50 a51
def Z5k (p0:Int) (p1:Int):OL :=
 jn (fun (a33:List Int)=>bnd (Z4h a33 0 p0) fun l63 =>
 bnd (Z4h l63 31 p1) fun l64 =>
 some l64) fun k34=>Z67 k34 big 0 (List.replicate 32 0)
theorem Z8t {W:World} {r:(List Int)} {p0:Int} {p1:Int} (h:Z5k p0 p1=some r)  :
    Calls Tryd.prog 72 [.int .u8 (p0),.int .u8 (p1)].toArray W (Z56 W (agg [.ints .u8 32 (r)])):=by
 unfold Z5k at h
 refine Zd mo ok72 rfl ?_
 refine Z0<|Z2<|Zg (Zw fun b2 hb2=>Z1<|Z0<|Z2<|Zg (Zw fun b4 hb4=>Z1<|Z0<|Z0<|Z2<|Z8 rfl<|Z1<|jH h fun k34 qk34 h=>Zo (G:=fun t m=>∃ (a33:List Int),k34 a33=some r∧Fit [(0,.int .u8 (p0)),(1,.int .u8 (p1)),(4,.pointer (some ⟨b2,0,none⟩)),(5,.pointer (some ⟨b4,0,none⟩))] (ck b4 26 [.ints .u8 32 (a33)]::(ck b2 26 [.ints .u8 32 ((List.replicate 32 0))] :: [])) t m) ?_ ?_))
 ·refine Zb<|Z01 (fun n53 t m=>∃ (i50:Int) (a51:List Int),Z67 k34 n53 i50 a51=some r∧Fit [(0,.int .u8 (p0)),(1,.int .u8 (p1)),(4,.pointer (some ⟨b2,0,none⟩)),(5,.pointer (some ⟨b4,0,none⟩)),(7,.int .i64 (i50))] (ck b4 26 [.ints .u8 32 (a51)]::(ck b2 26 [.ints .u8 32 ((List.replicate 32 0))] :: [])) t m) big ?_ ?_
  ·exact ⟨0,(List.replicate 32 0),h,⟨⟨rfl,rfl,rfl,rfl,rfl,trivial⟩,(.one .here (.one .here .nil))⟩⟩
  ·rintro n53 t m ⟨i50,a51,h,hF⟩
   refine Zm hF ?_
   clear hF
   rcases n53 with _ | n53
   · exact Z1c h
   have h:Za1 k34 (Z67 k34 n53) i50 a51=some r:=h
   unfold Za1 at h
   obtain ⟨k52,qk52⟩ : ∃ k,k=Z67 k34 n53:=⟨_,rfl⟩
   try rw [← qk52] at h
   refine Z0<|Z2<|Z6 _ (Za rfl rfl rfl)<|Z1<|Z0<|Z0l h rfl (fun h=>?_) (fun h=>?_)
   ·refine Zl<|Z0<|Zb<|Z0<|Z2<|Z8 rfl<|Z8 rfl<|Z1<|cH h fun c58 h=>bH h fun l59 el59 h=>Z2<|Z8 rfl<|Z6 _ (Z3b rfl rfl (Z1w c58))<|Zg (Z5h (q:=[.ints .u8 32 (l59)]) (base:=0) el59 rfl rfl rfl (Z18 c58) rfl .here<|Z1<|bH h fun z61 ez61 h=>Z2<|Z6 _ (iz ez61 (Za rfl rfl rfl))<|Z8 rfl<|Z1 ?_)
    rw [qk52] at h
    exact ⟨n53,Nat.lt_succ_self _,z61,l59,h,⟨⟨rfl,rfl,rfl,rfl,rfl,trivial⟩,(.one .here (.one .here .nil))⟩⟩
   ·exact Z0b _ rfl<|⟨a51,h,⟨⟨rfl,rfl,rfl,rfl,trivial⟩,(.one .here (.one .here .nil))⟩⟩
 ·rintro t m ⟨a33,h,hF⟩
  refine Zm hF ?_
  clear hF
  subst qk34
  refine Z0<|bH h fun l63 el63 h=>bH h fun l64 el64 h=>Z2<|Z8 rfl<|Z8 rfl<|Z6 _ (Z3b rfl rfl (by decide))<|Zg (Z9d (q:=[.ints .u8 32 (l63)]) (congrArg (fun z=>([.ints .u8 32 (z)]:List Seg)) el63.symm) rfl rfl rfl rfl .here<|Z6 _ (Z3b rfl rfl (by decide))<|Zg (Z9d (q:=[.ints .u8 32 (l64)]) (congrArg (fun z=>([.ints .u8 32 (z)]:List Seg)) el64.symm) rfl rfl rfl rfl .here<|Z1<|Z0<|Z2<|Z6 _ (Z02 (p:=[.ints .u8 32 (l64)]) rfl .here rfl)<|Zg (Zs (q:=[.ints .u8 32 (l64)]) rfl rfl rfl rfl rfl (.there .here)<|Z1<|Zk ?_)))
  revert h; refine Zz fun h=>?_
  subst h
  exact ⟨_,(.cons (.agg rfl (.there .here) rfl) .nil),rfl⟩
def Z6o (p0:List Int):OL :=
 opt (Z5k 235 127) fun y5 =>
 opt (Z8h p0 y5) fun y6 =>
 some y6
theorem Zed {W:World} {r:(List Int)} {p0:List Int} (h:Z6o p0=some r)  :
    Calls Tryd.prog 49 [agg [.ints .u64 5 (p0)]].toArray W (Z56 W (agg [.ints .u64 5 (r)])):=by
 unfold Z6o at h
 refine Zd mo ok49 rfl ?_
 refine Z0<|Z2<|Zg (Z14 (s:=[.ints .u64 5 (p0)]) rfl fun b2 hb2=>Zg (Zw fun b3 hb3=>Z1<|Z0<|oH h fun y5 ey5 h=>oH h fun y6 ey6 h=>Zu<|Z7 _ (Z1a rfl (Z8t ey5))<|Zn _ (Z02 (p:=[.ints .u64 5 (p0)]) rfl (.there .here) rfl)<|Z7 _ (Z1a rfl (Za0 ey6))<|Z2h rfl (Zs (q:=[.ints .u64 5 (y6)]) rfl rfl rfl rfl rfl .here<|Z03<|Zk ?_)))
 revert h; refine Zz fun h=>?_
 subst h
 exact ⟨_,(.cons (.agg rfl .here rfl) .nil),rfl⟩
def Z9z (y5:(List Int)) (k107:(List Int)→OL) (k163:(Int)→(List Int)→OL) (i161:Int) (a162:List Int):OL :=
 br ((decide (i161<32))) (
 bnd (IntKind.wrap .i64 (8*i161)) fun z169 =>
 bnd (IntKind.wrap .i64 (Int.tdiv z169 51)) fun z170 =>
 bnd (IntKind.wrap .i64 (8*i161)) fun z171 =>
 bnd (Int.tmod z171 51) fun z172 =>
 chk (inB z170 5) <|
 bnd (y5.getD (z170).toNat 0) fun z175 =>
 chk (decide (0≤z172)) <|
 bnd (Zh .u64 z175 z172) fun z177 =>
 jn (fun (i188:Int)=>bnd (IntKind.wrap .u8 i188) fun z200 =>
 chk (inB i161 32) <|
 bnd (Z4h a162 (i161).toNat z200) fun l202 =>
 bnd (IntKind.wrap .i64 (i161+1)) fun z204 =>
 k163 z204 l202) fun k189=>br (((decide (z172>43))&&(decide (z170<4)))) (
 bnd (IntKind.wrap .i64 (z170+1)) fun z192 =>
 chk (inB z192 5) <|
 bnd (y5.getD (z192).toNat 0) fun z194 =>
 bnd (IntKind.wrap .i64 (51-z172)) fun z195 =>
 chk (decide (0≤z195)) <|
 bnd (Zq .u64 z194 z195) fun z197 =>
 bnd (Z4 .or .u64 z177 z197) fun z198 =>
 k189 z198
 ) (
 k189 z177
 )
 ) (
 k107 a162
 )
def Z50 (y5:(List Int)) (k107:(List Int)→OL):Nat→(Int)→(List Int)→OL
  | 0,_,_=>none
  | n+1,i161,a162=>Z9z y5 k107 (Z50 y5 k107 n) i161 a162
def Z7s (p0:List Int):OL :=
 opt (Z0v p0) fun y5 =>
 jn (fun (a106:List Int)=>some a106) fun k107=>Z50 y5 k107 big 0 (List.replicate 32 0)
theorem Zb5 {W:World} {r:(List Int)} {p0:List Int} (h:Z7s p0=some r)  :
    Calls Tryd.prog 50 [agg [.ints .u64 5 (p0)]].toArray W (Z56 W (agg [.ints .u8 32 (r)])):=by
 unfold Z7s at h
 refine Zd mo ok50 rfl ?_
 refine Z0<|Z2<|Zg (Z14 (s:=[.ints .u64 5 (p0)]) rfl fun b2 hb2=>Zg (Zw fun b3 hb3=>Z1<|Z0<|oH h fun y5 ey5 h=>Z2<|Z6 _ (Z02 (p:=[.ints .u64 5 (p0)]) rfl (.there .here) rfl)<|Z6 _ (Z1a rfl (Z0e ey5))<|Zg (Zs (q:=[.ints .u64 5 (y5)]) rfl rfl rfl rfl rfl (.there .here)<|Z1<|Z0<|Z2<|Zg (Zw fun b7 hb7=>Z1<|Z0<|Z0<|Z2<|Z8 rfl<|Z1<|jH h fun k107 qk107 h=>Zo (G:=fun t m=>∃ (a106:List Int),k107 a106=some r∧Fit [(2,.pointer (some ⟨b3,0,none⟩)),(3,.pointer (some ⟨b7,0,none⟩))] (ck b7 26 [.ints .u8 32 (a106)]::(ck b3 26 [.ints .u8 32 ((List.replicate 32 0))]::(ck b2 58 [.ints .u64 5 (y5)] :: []))) t m) ?_ ?_))))
 ·refine Zb<|Z01 (fun n164 t m=>∃ (i161:Int) (a162:List Int),Z50 y5 k107 n164 i161 a162=some r∧Fit [(1,.pointer (some ⟨b2,0,none⟩)),(2,.pointer (some ⟨b3,0,none⟩)),(3,.pointer (some ⟨b7,0,none⟩)),(10,.int .i64 (i161))] (ck b7 26 [.ints .u8 32 (a162)]::(ck b3 26 [.ints .u8 32 ((List.replicate 32 0))]::(ck b2 58 [.ints .u64 5 (y5)] :: []))) t m) big ?_ ?_
  ·exact ⟨0,(List.replicate 32 0),h,⟨⟨rfl,rfl,rfl,rfl,trivial⟩,(.one .here (.one .here (.one .here .nil)))⟩⟩
  ·rintro n164 t m ⟨i161,a162,h,hF⟩
   refine Zm hF ?_
   clear hF
   rcases n164 with _ | n164
   · exact Z1c h
   have h:Z9z y5 k107 (Z50 y5 k107 n164) i161 a162=some r:=h
   unfold Z9z at h
   obtain ⟨k163,qk163⟩ : ∃ k,k=Z50 y5 k107 n164:=⟨_,rfl⟩
   try rw [← qk163] at h
   refine Z0<|Z2<|Z6 _ (Za rfl rfl rfl)<|Z1<|Z0<|Z0l h rfl (fun h=>?_) (fun h=>?_)
   ·refine Zl<|Z0<|Zb<|Z0<|Z2<|Z8 rfl<|Z8 rfl<|Z1<|Z0<|bH h fun z169 ez169 h=>bH h fun z170 ez170 h=>bH h fun z171 ez171 h=>bH h fun z172 ez172 h=>Z2<|Z8 rfl<|Z6 _ (iz ez169 (Za rfl rfl rfl))<|Z6 _ (iz ez170 (Zjn rfl rfl (by decide)))<|Z8 rfl<|Z6 _ (iz ez171 (Za rfl rfl rfl))<|Z6 _ (iz ez172 (Zjo rfl rfl (by decide)))<|Z8 rfl<|Z8 rfl<|Z1<|Z0<|cH h fun c174 h=>bH h fun z175 ez175 h=>cH h fun c176 h=>bH h fun z177 ez177 h=>Z2<|Z8 rfl<|Z6 _ (Z3b rfl rfl (Z1w c174))<|Z6 _ (iz ez175 (Z8v (base:=0) rfl (.there (.there .here)) rfl (Z18 c174)))<|Z8 rfl<|Z6 _ (iz ez177 (Z76 rfl rfl (of_decide_eq_true c176)))<|Z8 rfl<|Z1<|Z0<|Z0<|Z2<|Z8 rfl<|Z6 _ (Za rfl rfl rfl)<|Z8 rfl<|Zao rfl rfl rfl (fun hg1=>Z45 rfl _ (Z19 rfl) (Z45 rfl _ (Za rfl rfl rfl) (Z3k))) (fun hg1=>rfl) rfl<|Z1<|jH h fun k189 qk189 h=>Zo (G:=fun t m=>∃ (i188:Int),k189 i188=some r∧Fit [(1,.pointer (some ⟨b2,0,none⟩)),(2,.pointer (some ⟨b3,0,none⟩)),(3,.pointer (some ⟨b7,0,none⟩)),(4,.int .i64 (i161)),(7,.int .u64 (i188)),(10,.int .i64 (i161))] (ck b7 26 [.ints .u8 32 (a162)]::(ck b3 26 [.ints .u8 32 ((List.replicate 32 0))]::(ck b2 58 [.ints .u64 5 (y5)] :: []))) t m) ?_ ?_
    ·refine Z0l h rfl (fun h=>?_) (fun h=>?_)
     ·exact bH h fun z192 ez192 h=>cH h fun c193 h=>bH h fun z194 ez194 h=>bH h fun z195 ez195 h=>cH h fun c196 h=>bH h fun z197 ez197 h=>bH h fun z198 ez198 h=>Z2<|Z8 rfl<|Z8 rfl<|Z6 _ (iz ez192 (Za rfl rfl rfl))<|Z6 _ (Z3b rfl rfl (Z1w c193))<|Z6 _ (iz ez194 (Z8v (base:=0) rfl (.there (.there .here)) rfl (Z18 c193)))<|Z8 rfl<|Z6 _ (iz ez195 (Za rfl rfl rfl))<|Z6 _ (iz ez197 (Zi7 rfl rfl (of_decide_eq_true c196)))<|Z6 _ (iz ez198 (Za rfl rfl rfl))<|Z8 rfl<|Z1<|⟨z198,h,⟨⟨rfl,rfl,rfl,rfl,rfl,rfl,trivial⟩,(.one .here (.one .here (.one .here .nil)))⟩⟩
     ·exact Zl<|⟨z177,h,⟨⟨rfl,rfl,rfl,rfl,rfl,rfl,trivial⟩,(.one .here (.one .here (.one .here .nil)))⟩⟩
    ·rintro t m ⟨i188,h,hF⟩
     refine Zm hF ?_
     clear hF
     subst qk189
     refine bH h fun z200 ez200 h=>cH h fun c201 h=>bH h fun l202 el202 h=>Z2<|Z8 rfl<|Z8 rfl<|Z6 _ (iz ez200 (Z8n rfl))<|Z6 _ (Z3b rfl rfl (Z1w c201))<|Zg (Z5h (q:=[.ints .u8 32 (l202)]) (base:=0) el202 rfl rfl rfl (Z18 c201) rfl .here<|Z1<|bH h fun z204 ez204 h=>Z2<|Z6 _ (iz ez204 (Za rfl rfl rfl))<|Z8 rfl<|Z1 ?_)
     rw [qk163] at h
     exact ⟨n164,Nat.lt_succ_self _,z204,l202,h,⟨⟨rfl,rfl,rfl,rfl,trivial⟩,(.one .here (.one .here (.one .here .nil)))⟩⟩
   ·exact Z0b _ rfl<|⟨a162,h,⟨⟨rfl,rfl,trivial⟩,(.one .here (.one .here (.one .here .nil)))⟩⟩
 ·rintro t m ⟨a106,h,hF⟩
  refine Zm hF ?_
  clear hF
  subst qk107
  refine Z0<|Z2<|Z6 _ (Z02 (p:=[.ints .u8 32 (a106)]) rfl .here rfl)<|Zg (Zs (q:=[.ints .u8 32 (a106)]) rfl rfl rfl rfl rfl (.there .here)<|Z1<|Zk ?_)
  revert h; refine Zz fun h=>?_
  subst h
  exact ⟨_,(.cons (.agg rfl (.there .here) rfl) .nil),rfl⟩
def Z6h (p0:List Int):Option (Bool) :=
 opt (Z0v p0) fun y4 =>
 bnd (y4.getD 0 0) fun z5 =>
 bnd (Z4 .and .u64 z5 1) fun z6 =>
 some (z6==1)
theorem Zb7 {W:World} {r:Bool} {p0:List Int} (h:Z6h p0=some r)  :
    Calls Tryd.prog 51 [agg [.ints .u64 5 (p0)]].toArray W (Z56 W (.bool (r))):=by
 unfold Z6h at h
 refine Zd mo ok51 rfl ?_
 refine Z0<|Z2<|Zg (Z14 (s:=[.ints .u64 5 (p0)]) rfl fun b2 hb2=>Z8 rfl<|Z1<|Z0<|oH h fun y4 ey4 h=>bH h fun z5 ez5 h=>bH h fun z6 ez6 h=>Z2<|Z6 _ (Z02 (p:=[.ints .u64 5 (p0)]) rfl .here rfl)<|Z6 _ (Z1a rfl (Z0e ey4))<|Z6 _ (iz ez5 (Zet (len:=5) (z:=0) rfl rfl (by decide)))<|Z6 _ (iz ez6 (Za rfl rfl rfl))<|Z6 _ (Za rfl rfl rfl)<|Z8 rfl<|Z1<|Zk ?_)
 revert h; refine Zz fun h=>?_
 subst h
 exact ⟨_,(.cons (.tmp rfl) .nil),rfl⟩
structure Z9 where
  gX:List Int
  gY:List Int
  gZ:List Int
  gT:List Int
def Z0g:Z9:=⟨(List.replicate 5 0),(List.replicate 5 0),(List.replicate 5 0),(List.replicate 5 0)⟩
def Z3p (p0:Z9):OL :=
 opt (Z6o p0.gZ) fun y5 =>
 opt (Z09 p0.gY y5) fun y8 =>
 opt (Z7s y8) fun y9 =>
 opt (Z09 p0.gX y5) fun y12 =>
 opt (Z6h y12) fun y13 =>
 jn (fun (a19:List Int)=>some a19) fun k20=>br (y13) (
 bnd (y9.getD 31 0) fun z23 =>
 bnd (Z4 .or .u8 z23 128) fun z24 =>
 bnd (Z4h y9 31 z24) fun l25 =>
 k20 l25
 ) (
 k20 y9
 )
theorem Z5z {W:World} {r:(List Int)} {p0:Z9} (h:Z3p p0=some r)  :
    Calls Tryd.prog 21 [agg [.ints .u64 5 (p0.gX),.ints .u64 5 (p0.gY),.ints .u64 5 (p0.gZ),.ints .u64 5 (p0.gT)]].toArray W (Z56 W (agg [.ints .u8 32 (r)])):=by
 unfold Z3p at h
 refine Zd mo ok21 rfl ?_
 refine Z0<|Z2<|Zg (Z14 (s:=[.ints .u64 5 (p0.gX),.ints .u64 5 (p0.gY),.ints .u64 5 (p0.gZ),.ints .u64 5 (p0.gT)]) rfl fun b2 hb2=>Zg (Zw fun b3 hb3=>Z1<|Z0<|oH h fun y5 ey5 h=>Z2<|Z6 _ (Z6c rfl)<|Z6 _ (Z02 (p:=[.ints .u64 5 (p0.gZ)]) rfl (.there .here) rfl)<|Z6 _ (Z1a rfl (Zed ey5))<|Zg (Zw fun b6 hb6=>Zg (Zs (q:=[.ints .u64 5 (y5)]) rfl rfl rfl rfl rfl .here<|Z1<|Z0<|oH h fun y8 ey8 h=>oH h fun y9 ey9 h=>Z2<|Z6 _ (Z6c rfl)<|Z6 _ (Z02 (p:=[.ints .u64 5 (p0.gY)]) rfl (.there (.there .here)) rfl)<|Z6 _ (Z02 (p:=[.ints .u64 5 (y5)]) rfl .here rfl)<|Z6 _ (Z1a rfl (Zx ey8))<|Z6 _ (Z1a rfl (Zb5 ey9))<|Zg (Zw fun b10 hb10=>Zg (Zs (q:=[.ints .u8 32 (y9)]) rfl rfl rfl rfl rfl .here<|Z1<|Z0<|Z0<|oH h fun y12 ey12 h=>oH h fun y13 ey13 h=>Z2<|Z6 _ (Z6c rfl)<|Z6 _ (Z02 (p:=[.ints .u64 5 (p0.gX)]) rfl (.there (.there (.there .here))) rfl)<|Z6 _ (Z02 (p:=[.ints .u64 5 (y5)]) rfl (.there .here) rfl)<|Z6 _ (Z1a rfl (Zx ey12))<|Z6 _ (Z1a rfl (Zb7 ey13))<|Z1<|jH h fun k20 qk20 h=>Zo (G:=fun t m=>∃ (a19:List Int),k20 a19=some r∧Fit [(2,.pointer (some ⟨b3,0,none⟩)),(4,.pointer (some ⟨b10,0,none⟩))] (ck b10 27 [.ints .u8 32 (a19)]::(ck b6 58 [.ints .u64 5 (y5)]::(ck b3 27 [.ints .u8 32 ((List.replicate 32 0))]::(ck b2 60 [.ints .u64 5 (p0.gX),.ints .u64 5 (p0.gY),.ints .u64 5 (p0.gZ),.ints .u64 5 (p0.gT)] :: [])))) t m) ?_ ?_))))))
 ·refine Z0l h rfl (fun h=>?_) (fun h=>?_)
  ·exact bH h fun z23 ez23 h=>bH h fun z24 ez24 h=>bH h fun l25 el25 h=>Z2<|Z6 _ (Z3b rfl rfl (by decide))<|Z6 _ (iz ez23 (Z2k rfl .here rfl))<|Z6 _ (iz ez24 (Za rfl rfl rfl))<|Z6 _ (Z3b rfl rfl (by decide))<|Zg (Z9d (q:=[.ints .u8 32 (l25)]) (congrArg (fun z=>([.ints .u8 32 (z)]:List Seg)) el25.symm) rfl rfl rfl rfl .here<|Z1<|⟨l25,h,⟨⟨rfl,rfl,trivial⟩,(.one .here (.one .here (.one .here (.one .here .nil))))⟩⟩)
  ·exact Zl<|⟨y9,h,⟨⟨rfl,rfl,trivial⟩,(.one .here (.one .here (.one .here (.one .here .nil))))⟩⟩
 ·rintro t m ⟨a19,h,hF⟩
  refine Zm hF ?_
  clear hF
  subst qk20
  refine Z0<|Z2<|Z6 _ (Z02 (p:=[.ints .u8 32 (a19)]) rfl .here rfl)<|Zg (Zs (q:=[.ints .u8 32 (a19)]) rfl rfl rfl rfl rfl (.there (.there .here))<|Z1<|Zk ?_)
  revert h; refine Zz fun h=>?_
  subst h
  exact ⟨_,(.cons (.agg rfl (.there (.there .here)) rfl) .nil),rfl⟩
structure Zi where
  gstate:List Int
  gheld:List Int
  ghave:Int
  glength:Int
def Z93:Option (Zi) :=
 some (⟨G_first,(List.replicate 128 0),0,0⟩:Zi)
theorem Zc6 {W:World} {r:Zi} (h:Z93=some r) (hG:Globs W) :
    Calls Tryd.prog 45 [].toArray W (Zek W [] (fun v Ms=>∃ (b0:Nat) (T0:TypeId),v = .pointer (some ⟨b0,0,none⟩)∧Ms = [.one (ck b0 T0 [.ints .u64 8 (r.gstate),.ints .u8 128 (r.gheld),.one (.int .i64 (r.ghave)),.one (.int .u64 (r.glength))])])):=by
 unfold Z93 at h
 refine Z0t mo ok45 rfl (Zih _) ?_
 refine Z0<|Z2<|Z8 rfl<|Z1<|Z0<|Z2<|Z6 _ (Zn6 (o0:=0) (off:=0) rfl (hG.g1) (by simp) rfl)<|Z6 _ (Zdx (q:=[.ints .u64 8 (G_first),.ints .u8 128 ((List.replicate 128 0)),.one (.int .i64 (0)),.one (.int .u64 (0))]) (.agg rfl rfl rfl BdR.nil))<|Zg (Z14 (s:=[.ints .u64 8 (G_first),.ints .u8 128 ((List.replicate 128 0)),.one (.int .i64 (0)),.one (.int .u64 (0))]) rfl fun b3 hb3=>Z8 rfl<|Z1<|Zk ?_)
 revert h; refine Zz fun h=>?_
 subst h
 exact ⟨_,_,(.cons (.tmp rfl) .nil),(.one .here .nil),⟨_,rfl,⟨b3,138,rfl,rfl⟩⟩⟩
def Z63 (k29:(Int)→Option (Int)) (k45:(Int)→(Int)→Option (Int)) (i43:Int) (i44:Int):Option (Int) :=
 br ((i44 != 0)) (
 bnd (IntKind.wrap .i64 (i43+1)) fun z50 =>
 bnd (Zh .u64 i44 1) fun z52 =>
 k45 z50 z52
 ) (
 k29 i43
 )
def Z33 (k29:(Int)→Option (Int)):Nat→(Int)→(Int)→Option (Int)
  | 0,_,_=>none
  | n+1,i43,i44=>Z63 k29 (Z33 k29 n) i43 i44
def Z39:Option (Int) :=
 bnd (Z4 .xor .u64 18446744073709551615 0) fun z4 =>
 jn (fun (i28:Int)=>some i28) fun k29=>Z33 k29 big 0 z4
theorem Z3j {W:World} {r:Int} (h:Z39=some r)  :
    Calls Tryd.prog 103 [].toArray W (Z56 W (.int .i64 (r))):=by
 unfold Z39 at h
 refine Zd mo Z06v rfl ?_
 refine Z0<|Z2<|Z8 rfl<|Z1<|Z0<|Z2<|Z8 rfl<|Z1<|Z0<|Z0<|bH h fun z4 ez4 h=>Z2<|Z6 _ (Z8n rfl)<|Z6 _ (iz ez4 (Zm1 rfl rfl))<|Z8 rfl<|Z1<|jH h fun k29 qk29 h=>Zo (G:=fun t m=>∃ (i28:Int),k29 i28=some r∧Fit [(1,.int .i64 (i28))] [] t m) ?_ ?_
 ·refine Zb<|Z01 (fun n46 t m=>∃ (i43:Int) (i44:Int),Z33 k29 n46 i43 i44=some r∧Fit [(1,.int .i64 (i43)),(2,.int .u64 (i44))] [] t m) big ?_ ?_
  ·exact ⟨0,z4,h,⟨⟨rfl,rfl,trivial⟩,.nil⟩⟩
  ·rintro n46 t m ⟨i43,i44,h,hF⟩
   refine Zm hF ?_
   clear hF
   rcases n46 with _ | n46
   · exact Z1c h
   have h:Z63 k29 (Z33 k29 n46) i43 i44=some r:=h
   unfold Z63 at h
   obtain ⟨k45,qk45⟩ : ∃ k,k=Z33 k29 n46:=⟨_,rfl⟩
   try rw [← qk45] at h
   refine Z0<|Z0<|Z2<|Z8 rfl<|Z6 _ (Za rfl rfl rfl)<|Z1<|Z0l h rfl (fun h=>?_) (fun h=>?_)
   ·refine Zl<|Z0<|Zb<|bH h fun z50 ez50 h=>Z2<|Z8 rfl<|Z6 _ (iz ez50 (Za rfl rfl rfl))<|Z8 rfl<|Z1<|bH h fun z52 ez52 h=>Z2<|Z8 rfl<|Z6 _ (iz ez52 (Z76 rfl rfl (by decide)))<|Z8 rfl<|Z1 ?_
    rw [qk45] at h
    exact ⟨n46,Nat.lt_succ_self _,z50,z52,h,⟨⟨rfl,rfl,trivial⟩,.nil⟩⟩
   ·exact Z0b _ rfl<|⟨i43,h,⟨⟨rfl,trivial⟩,.nil⟩⟩
 ·rintro t m ⟨i28,h,hF⟩
  refine Zm hF ?_
  clear hF
  subst qk29
  refine Z0<|Z2<|Z8 rfl<|Z8 rfl<|Z1<|Zk ?_
  revert h; refine Zz fun h=>?_
  subst h
  exact ⟨_,(.cons (.tmp rfl) .nil),rfl⟩
def Z5y (p0:List Int) (p1:Int):Option ((Bool×List Int)) :=
 opt (Z39) fun y3 =>
 bnd (IntKind.wrap .i64 (Int.tdiv y3 8)) fun z4 =>
 br (((decide (p1<0))||(decide (p1>IntKind.wrap .i64 ((p0.length:Int)-z4))))) (
 some (true,[])
 ) (
 bnd (IntKind.wrap .i64 (p1+z4)) fun z9 =>
 chk (Zge p1 z9 p0.length) <|
 chk (decide (0<((p0.drop (p1).toNat).take ((z9).toNat-(p1).toNat)).length)) <|
 some (false,((p0.drop (p1).toNat).take ((z9).toNat-(p1).toNat)))
 )
theorem Z7j {W:World} {r:(Bool×List Int)} {p0:List Int} {p1:Int} {v0:Value} (h:Z5y p0 p1=some r) (A0:RdSl (El.int .u8) W v0 p0) :
    Calls Tryd.prog 97 [v0,.int .i64 (p1)].toArray W (Zek W [] (fun v Ms=>∃ (u0:Value),v=u0∧Ms = []∧Shp u0 (r.2).length∧Zj9 u0=r.1∧(∀ W,RdSl (El.int .u8) W v0 p0→RdSl (El.int .u8) W u0 r.2))):=by
 unfold Z5y at h
 refine Z0t mo ok97 rfl (Zih _) ?_
 refine Z0<|Z2<|Z8 rfl<|Z1<|Z0<|oH h fun y3 ey3 h=>bH h fun z4 ez4 h=>Z2<|Z6 _ (Z1a rfl (Z3j ey3))<|Z6 _ (iz ez4 (Zjn rfl rfl (by decide)))<|Z8 rfl<|Z1<|Z0<|Z0<|Z2<|Z8 rfl<|Z6 _ (Za rfl rfl rfl)<|Z8 rfl<|Zf8 rfl rfl rfl (fun hg1=>Z45 rfl _ (Z19 rfl) (Z45 rfl _ (Z19 rfl) (Z45 rfl _ (Z2i rfl (Shp.rd A0)) (Z45 rfl _ (Z19 rfl) (Z45 rfl _ (iz rfl (Za rfl rfl rfl)) (Z45 rfl _ (Za rfl rfl rfl) (Z3k))))))) (fun hg1=>rfl) rfl<|Z1<|Z0l h rfl (fun h=>?_) (fun h=>?_)
 ·refine Z0<|Z2<|Z8 rfl<|Z1<|Zk ?_
  revert h; refine Zz fun h=>?_
  subst h
  exact ⟨_,_,(.cons (.tmp rfl) .nil),.nil,⟨_,rfl,⟨(.slice none 0 0),rfl,rfl,Shp.nil,rfl,Zsd⟩⟩⟩
 ·refine Zl<|Z0<|bH h fun z9 ez9 h=>cH h fun c10 h=>Z2<|Z8 rfl<|Z8 rfl<|Z8 rfl<|Z8 rfl<|Z6 _ (iz ez9 (Za rfl rfl rfl))<|Z6 _ (Zjp (lz:=p1) (hz:=z9) rfl (Shp.rd A0) (.yes rfl) (.yes rfl) c10)<|Z8 rfl<|Z1<|Zk<|cH h fun c11 h=>?_
  revert h; refine Zz fun h=>?_
  subst h
  exact ⟨_,_,(.cons (.tmp rfl) .nil),.nil,⟨_,rfl,⟨(Zbk 1 v0 (p1).toNat (z9).toNat),rfl,rfl,(Shp.cut (Shp.rd A0) (lz:=p1) (hz:=z9) c10),(Shp.notnil (Shp.cut (Shp.rd A0) (lz:=p1) (hz:=z9) c10) c11),(fun W A0=>(Zvq A0 (lz:=p1) (hz:=z9) c10))⟩⟩⟩
def Z5c (y4:(Bool×List Int)) (k50:(Int)→Option (Int×Bool)) (k75:(Int)→(Int)→Option (Int×Bool)) (i73:Int) (i74:Int):Option (Int×Bool) :=
 br ((decide (i74<(y4.2.length:Int)))) (
 chk (inB i74 y4.2.length) <|
 bnd (y4.2.getD (i74).toNat 0) fun z81 =>
 bnd (Zq .u64 i73 8) fun z83 =>
 bnd (IntKind.wrap .u64 z81) fun z84 =>
 bnd (Z4 .or .u64 z83 z84) fun z85 =>
 bnd (IntKind.wrap .i64 (i74+1)) fun z87 =>
 k75 z85 z87
 ) (
 k50 i73
 )
def Z2n (y4:(Bool×List Int)) (k50:(Int)→Option (Int×Bool)):Nat→(Int)→(Int)→Option (Int×Bool)
  | 0,_,_=>none
  | n+1,i73,i74=>Z5c y4 k50 (Z2n y4 k50 n) i73 i74
def Z6x (p0:List Int) (p1:Int):Option (Int×Bool) :=
 opt (Z5y p0 p1) fun y4 =>
 jn (fun (i49:Int)=>some (i49,(!y4.1))) fun k50=>Z2n y4 k50 big 0 0
theorem Zaq {W:World} {r:Int×Bool} {p0:List Int} {p1:Int} {v0:Value} (h:Z6x p0 p1=some r) (A0:RdSl (El.int .u8) W v0 p0) :
    Calls Tryd.prog 105 [v0,.int .i64 (p1)].toArray W (Z56 W (.tuple #[.int .u64 (r.1),.bool (r.2)])):=by
 unfold Z6x at h
 refine Zd mo Z06x rfl ?_
 refine Z0<|Z2<|Z8 rfl<|Z8 rfl<|Z1<|Z0<|Z2<|Z8 rfl<|Z1<|Z0<|oH h fun y4 ey4 h=>Z2<|Z8 rfl<|Z8 rfl<|Zg (Z0j rfl (fun w hw=>Z7j  ey4 ((Z2a A0 Z2m) w hw)) fun v5 Msv5 R6=>?_)
 obtain ⟨_,rfl,rfl,P10,N8,H9⟩:=R6
 refine Z8 rfl<|Z1<|Z0<|Z0<|Z2<|Z8 rfl<|Z6 _ (Z2i rfl P10)<|Z8 rfl<|Z1<|jH h fun k50 qk50 h=>Zo (G:=fun t m=>∃ (i49:Int),k50 i49=some r∧Fit [(6,.int .u64 (i49)),(7,v5)] [] t m) ?_ ?_
 ·refine Zb<|Z01 (fun n76 t m=>∃ (i73:Int) (i74:Int),Z2n y4 k50 n76 i73 i74=some r∧Fit [(6,.int .u64 (i73)),(7,v5),(13,v5),(14,.int .i64 ((y4.2.length:Int))),(15,.int .i64 (i74))] [] t m) big ?_ ?_
  ·exact ⟨0,0,h,⟨⟨rfl,rfl,rfl,rfl,rfl,trivial⟩,.nil⟩⟩
  ·rintro n76 t m ⟨i73,i74,h,hF⟩
   refine Zm hF ?_
   clear hF
   rcases n76 with _ | n76
   · exact Z1c h
   have h:Z5c y4 k50 (Z2n y4 k50 n76) i73 i74=some r:=h
   unfold Z5c at h
   obtain ⟨k75,qk75⟩ : ∃ k,k=Z2n y4 k50 n76:=⟨_,rfl⟩
   try rw [← qk75] at h
   refine Z0<|Z2<|Z6 _ (Za rfl rfl rfl)<|Z1<|Z0<|Z0l h rfl (fun h=>?_) (fun h=>?_)
   ·refine Zl<|Z0<|Zb<|Z0<|cH h fun c80 h=>bH h fun z81 ez81 h=>Z2<|Z6 _ (Z4m rfl rfl P10 c80)<|Z6 _ (iz ez81 (Zau (E:=(El.int .u8)) (s:=[.one (.int .u8 (y4.2.getD (i74).toNat 0))]) rfl (Zpj H9 (Z2a A0 Z2m)) (Z18 c80) rfl rfl))<|Z8 rfl<|Z1<|bH h fun z83 ez83 h=>bH h fun z84 ez84 h=>bH h fun z85 ez85 h=>Z2<|Z8 rfl<|Z6 _ (iz ez83 (Zi7 rfl rfl (by decide)))<|Z8 rfl<|Z6 _ (iz ez84 (Z8n rfl))<|Z6 _ (iz ez85 (Za rfl rfl rfl))<|Z8 rfl<|Z1<|bH h fun z87 ez87 h=>Z2<|Z6 _ (iz ez87 (Za rfl rfl rfl))<|Z8 rfl<|Z1 ?_
    rw [qk75] at h
    exact ⟨n76,Nat.lt_succ_self _,z85,z87,h,⟨⟨rfl,rfl,rfl,rfl,rfl,trivial⟩,.nil⟩⟩
   ·exact Z0b _ rfl<|⟨i73,h,⟨⟨rfl,rfl,trivial⟩,.nil⟩⟩
 ·rintro t m ⟨i49,h,hF⟩
  refine Zm hF ?_
  clear hF
  subst qk50
  refine Z0<|Z2<|Z8 rfl<|Z8 rfl<|Z6 _ (Zpf rfl P10 N8)<|Z8 rfl<|Z8 rfl<|Z1<|Zk ?_
  revert h; refine Zz fun h=>?_
  subst h
  exact ⟨_,(.cons (.tmp rfl) (.cons (.tmp rfl) .nil)),rfl⟩
def Z2x (p0:Int) (p1:Int):Option (Int) :=
 opt (Z39) fun y3 =>
 bnd (IntKind.wrap .u64 p1) fun z5 =>
 bnd (IntKind.wrap .i64 (y3-1)) fun z6 =>
 bnd (IntKind.wrap .u64 z6) fun z7 =>
 bnd (Z4 .and .u64 z5 z7) fun z8 =>
 chk (decide (0≤z8)) <|
 bnd (Zh .u64 p0 z8) fun z11 =>
 bnd (IntKind.wrap .u64 y3) fun z12 =>
 bnd (IntKind.wrap .u64 (z12-z8)) fun z13 =>
 chk (decide (0≤z13)) <|
 bnd (Zq .u64 p0 z13) fun z15 =>
 bnd (Z4 .or .u64 z11 z15) fun z16 =>
 some z16
theorem Z2p {W:World} {r:Int} {p0:Int} {p1:Int} (h:Z2x p0 p1=some r)  :
    Calls Tryd.prog 107 [.int .u64 (p0),.int .i64 (p1)].toArray W (Z56 W (.int .u64 (r))):=by
 unfold Z2x at h
 refine Zd mo Z06z rfl ?_
 refine Z0<|Z2<|Z8 rfl<|Z1<|Z0<|oH h fun y3 ey3 h=>Z2<|Z6 _ (Z1a rfl (Z3j ey3))<|Z8 rfl<|Z1<|Z0<|bH h fun z5 ez5 h=>bH h fun z6 ez6 h=>bH h fun z7 ez7 h=>bH h fun z8 ez8 h=>Z2<|Z8 rfl<|Z6 _ (iz ez5 (Z8n rfl))<|Z8 rfl<|Z6 _ (iz ez6 (Za rfl rfl rfl))<|Z6 _ (iz ez7 (Z8n rfl))<|Z6 _ (iz ez8 (Za rfl rfl rfl))<|Z8 rfl<|Z1<|Z0<|cH h fun c10 h=>bH h fun z11 ez11 h=>bH h fun z12 ez12 h=>bH h fun z13 ez13 h=>cH h fun c14 h=>bH h fun z15 ez15 h=>bH h fun z16 ez16 h=>Z2<|Z8 rfl<|Z8 rfl<|Z6 _ (iz ez11 (Z76 rfl rfl (of_decide_eq_true c10)))<|Z8 rfl<|Z8 rfl<|Z6 _ (iz ez12 (Z8n rfl))<|Z8 rfl<|Z6 _ (iz ez13 (Za rfl rfl rfl))<|Z6 _ (iz ez15 (Zi7 rfl rfl (of_decide_eq_true c14)))<|Z6 _ (iz ez16 (Za rfl rfl rfl))<|Z8 rfl<|Z1<|Zk ?_
 revert h; refine Zz fun h=>?_
 subst h
 exact ⟨_,(.cons (.tmp rfl) .nil),rfl⟩
def Zay (p0:Int) (p1:Int) (p2:Int) (p3:Int):Option (Int) :=
 opt (Z2x p0 p1) fun y3 =>
 opt (Z2x p0 p2) fun y4 =>
 bnd (Z4 .xor .u64 y3 y4) fun z5 =>
 chk (decide (0≤p3)) <|
 bnd (Zh .u64 p0 p3) fun z7 =>
 bnd (Z4 .xor .u64 z5 z7) fun z8 =>
 some z8
theorem Zbe {W:World} {r:Int} {p0:Int} {p1:Int} {p2:Int} {p3:Int} (h:Zay p0 p1 p2 p3=some r)  :
    Calls Tryd.prog 106 [.int .u64 (p0),.int .i64 (p1),.int .i64 (p2),.int .i64 (p3)].toArray W (Z56 W (.int .u64 (r))):=by
 unfold Zay at h
 refine Zd mo Z06y rfl ?_
 refine Z0<|Z2<|Z8 rfl<|Z1<|Z0<|oH h fun y3 ey3 h=>oH h fun y4 ey4 h=>bH h fun z5 ez5 h=>cH h fun c6 h=>bH h fun z7 ez7 h=>bH h fun z8 ez8 h=>Zu<|Z7 _ (Z19 rfl)<|Z7 _ (Z19 rfl)<|Z7 _ (Z1a rfl (Z2p ey3))<|Z7 _ (Z19 rfl)<|Z7 _ (Z19 rfl)<|Z7 _ (Z1a rfl (Z2p ey4))<|Z7 _ (iz ez5 (Za rfl rfl rfl))<|Z7 _ (Z19 rfl)<|Z7 _ (Z19 rfl)<|Z7 _ (iz ez7 (Z76 rfl rfl (of_decide_eq_true c6)))<|Z7 _ (iz ez8 (Za rfl rfl rfl))<|Z7 _ (Z19 rfl)<|Z03<|Zk ?_
 revert h; refine Zz fun h=>?_
 subst h
 exact ⟨_,(.cons (.tmp rfl) .nil),rfl⟩
def Z7b (p0:List Int) (k152:(List Int)→OL) (k233:(Int)→(List Int)→OL) (i231:Int) (a232:List Int):OL :=
 br ((decide (i231<80))) (
 jn (fun (a265:List Int)=>bnd (IntKind.wrap .i64 (i231+1)) fun z296 =>
 k233 z296 a265) fun k266=>br ((decide (i231<16))) (
 bnd (IntKind.wrap .i64 (8*i231)) fun z271 =>
 opt (Z6x (tk p0 0 128) z271) fun y272 =>
 chk (inB i231 80) <|
 bnd (Z4h a232 (i231).toNat y272.1) fun l274 =>
 k266 l274
 ) (
 bnd (IntKind.wrap .i64 (i231-2)) fun z276 =>
 chk (inB z276 80) <|
 bnd (IntKind.wrap .i64 (i231-7)) fun z278 =>
 chk (inB z278 80) <|
 bnd (IntKind.wrap .i64 (i231-15)) fun z280 =>
 chk (inB z280 80) <|
 bnd (IntKind.wrap .i64 (i231-16)) fun z282 =>
 chk (inB z282 80) <|
 bnd (a232.getD (z276).toNat 0) fun z284 =>
 opt (Zay z284 19 61 6) fun y285 =>
 bnd (a232.getD (z278).toNat 0) fun z286 =>
 bnd (IntKind.wrap .u64 (y285+z286)) fun z287 =>
 bnd (a232.getD (z280).toNat 0) fun z288 =>
 opt (Zay z288 1 8 7) fun y289 =>
 bnd (IntKind.wrap .u64 (z287+y289)) fun z290 =>
 bnd (a232.getD (z282).toNat 0) fun z291 =>
 bnd (IntKind.wrap .u64 (z290+z291)) fun z292 =>
 chk (inB i231 80) <|
 bnd (Z4h a232 (i231).toNat z292) fun l294 =>
 k266 l294
 )
 ) (
 k152 a232
 )
def Z3x (p0:List Int) (k152:(List Int)→OL):Nat→(Int)→(List Int)→OL
  | 0,_,_=>none
  | n+1,i231,a232=>Z7b p0 k152 (Z3x p0 k152 n) i231 a232
def Z9m (p0:List Int):OL :=
 jn (fun (a151:List Int)=>some a151) fun k152=>Z3x p0 k152 big 0 (List.replicate 80 0)
theorem Zcy {W:World} {r:(List Int)} {p0:List Int} (h:Z9m p0=some r)  :
    Calls Tryd.prog 98 [agg [.ints .u8 128 (p0)]].toArray W (Z56 W (agg [.ints .u64 80 (r)])):=by
 unfold Z9m at h
 refine Zd mo ok98 rfl ?_
 refine Z0<|Z2<|Zg (Z14 (s:=[.ints .u8 128 (p0)]) rfl fun b2 hb2=>Zg (Zw fun b3 hb3=>Z1<|Z0<|Z2<|Zg (Zw fun b5 hb5=>Z1<|Z0<|Z0<|Z2<|Z8 rfl<|Z1<|jH h fun k152 qk152 h=>Zo (G:=fun t m=>∃ (a151:List Int),k152 a151=some r∧Fit [(2,.pointer (some ⟨b3,0,none⟩)),(3,.pointer (some ⟨b5,0,none⟩))] (ck b5 155 [.ints .u64 80 (a151)]::(ck b3 155 [.ints .u64 80 ((List.replicate 80 0))]::(ck b2 136 [.ints .u8 128 (p0)] :: []))) t m) ?_ ?_)))
 ·refine Zb<|Z01 (fun n234 t m=>∃ (i231:Int) (a232:List Int),Z3x p0 k152 n234 i231 a232=some r∧Fit [(1,.pointer (some ⟨b2,0,none⟩)),(2,.pointer (some ⟨b3,0,none⟩)),(3,.pointer (some ⟨b5,0,none⟩)),(5,.int .i64 (i231))] (ck b5 155 [.ints .u64 80 (a232)]::(ck b3 155 [.ints .u64 80 ((List.replicate 80 0))]::(ck b2 136 [.ints .u8 128 (p0)] :: []))) t m) big ?_ ?_
  ·exact ⟨0,(List.replicate 80 0),h,⟨⟨rfl,rfl,rfl,rfl,trivial⟩,(.one .here (.one .here (.one .here .nil)))⟩⟩
  ·rintro n234 t m ⟨i231,a232,h,hF⟩
   refine Zm hF ?_
   clear hF
   rcases n234 with _ | n234
   · exact Z1c h
   have h:Z7b p0 k152 (Z3x p0 k152 n234) i231 a232=some r:=h
   unfold Z7b at h
   obtain ⟨k233,qk233⟩ : ∃ k,k=Z3x p0 k152 n234:=⟨_,rfl⟩
   try rw [← qk233] at h
   refine Z0<|Z2<|Z6 _ (Za rfl rfl rfl)<|Z1<|Z0<|Z0l h rfl (fun h=>?_) (fun h=>?_)
   ·refine Zl<|Z0<|jH h fun k266 qk266 h=>Zo (G:=fun t m=>∃ (a265:List Int),k266 a265=some r∧Fit [(1,.pointer (some ⟨b2,0,none⟩)),(2,.pointer (some ⟨b3,0,none⟩)),(3,.pointer (some ⟨b5,0,none⟩)),(5,.int .i64 (i231))] (ck b5 155 [.ints .u64 80 (a265)]::(ck b3 155 [.ints .u64 80 ((List.replicate 80 0))]::(ck b2 136 [.ints .u8 128 (p0)] :: []))) t m) ?_ ?_
    ·refine Zb<|Z0<|Z2<|Z8 rfl<|Z8 rfl<|Z1<|Z0<|Z0<|Z2<|Z8 rfl<|Z6 _ (Za rfl rfl rfl)<|Z1<|Z0l h rfl (fun h=>?_) (fun h=>?_)
     ·exact Z0<|bH h fun z271 ez271 h=>oH h fun y272 ey272 h=>cH h fun c273 h=>bH h fun l274 el274 h=>Z2<|Z8 rfl<|Z6 _ (Z90 rfl .no .no .no (by simp) (by decide))<|Z8 rfl<|Z6 _ (iz ez271 (Za rfl rfl rfl))<|Z6 _ (Z0m rfl (fun w hw=>Zaq ey272 ((Z1z (s:=[.ints .u8 128 (p0)]) (N:=128) (k:=.u8) (base:=0) (lo:=0) (hi:=128) (mz:=128) (.there (.there .here)) rfl (by decide)) w hw)))<|Z8 rfl<|Z6 _ (Z1j rfl rfl)<|Z6 _ (Z1j rfl rfl)<|Z6 _ (Z3b rfl rfl (Z1w c273))<|Zg (Z5h (q:=[.ints .u64 80 (l274)]) (base:=0) el274 rfl rfl rfl (Z18 c273) rfl .here<|Z1<|Z0b _ rfl<|⟨l274,h,⟨⟨rfl,rfl,rfl,rfl,trivial⟩,(.one .here (.one .here (.one .here .nil)))⟩⟩)
     ·exact Zl<|bH h fun z276 ez276 h=>cH h fun c277 h=>bH h fun z278 ez278 h=>cH h fun c279 h=>bH h fun z280 ez280 h=>cH h fun c281 h=>bH h fun z282 ez282 h=>cH h fun c283 h=>bH h fun z284 ez284 h=>oH h fun y285 ey285 h=>bH h fun z286 ez286 h=>bH h fun z287 ez287 h=>bH h fun z288 ez288 h=>oH h fun y289 ey289 h=>bH h fun z290 ez290 h=>bH h fun z291 ez291 h=>bH h fun z292 ez292 h=>cH h fun c293 h=>bH h fun l294 el294 h=>Zu<|Z7 _ (Z19 rfl)<|Z7 _ (Z19 rfl)<|Z7 _ (iz ez276 (Za rfl rfl rfl))<|Z7 _ (Z3b rfl rfl (Z1w c277))<|Z7 _ (Z19 rfl)<|Z7 _ (iz ez278 (Za rfl rfl rfl))<|Z7 _ (Z3b rfl rfl (Z1w c279))<|Z7 _ (Z19 rfl)<|Z7 _ (iz ez280 (Za rfl rfl rfl))<|Z7 _ (Z3b rfl rfl (Z1w c281))<|Z7 _ (Z19 rfl)<|Z7 _ (iz ez282 (Za rfl rfl rfl))<|Z7 _ (Z3b rfl rfl (Z1w c283))<|Zn _ (iz ez284 (Z8v (base:=0) rfl .here rfl (Z18 c277)))<|Z7 _ (Z1a rfl (Zbe ey285))<|Zn _ (iz ez286 (Z8v (base:=0) rfl .here rfl (Z18 c279)))<|Z7 _ (iz ez287 (Za rfl rfl rfl))<|Zn _ (iz ez288 (Z8v (base:=0) rfl .here rfl (Z18 c281)))<|Z7 _ (Z1a rfl (Zbe ey289))<|Z7 _ (iz ez290 (Za rfl rfl rfl))<|Zn _ (iz ez291 (Z8v (base:=0) rfl .here rfl (Z18 c283)))<|Z7 _ (iz ez292 (Za rfl rfl rfl))<|Z7 _ (Z3b rfl rfl (Z1w c293))<|Z2h rfl (Z5h (q:=[.ints .u64 80 (l294)]) (base:=0) el294 rfl rfl rfl (Z18 c293) rfl .here<|Z03<|⟨l294,h,⟨⟨rfl,rfl,rfl,rfl,trivial⟩,(.one .here (.one .here (.one .here .nil)))⟩⟩)
    ·rintro t m ⟨a265,h,hF⟩
     refine Zm hF ?_
     clear hF
     subst qk266
     refine bH h fun z296 ez296 h=>Z2<|Z6 _ (iz ez296 (Za rfl rfl rfl))<|Z8 rfl<|Z1 ?_
     rw [qk233] at h
     exact ⟨n234,Nat.lt_succ_self _,z296,a265,h,⟨⟨rfl,rfl,rfl,rfl,trivial⟩,(.one .here (.one .here (.one .here .nil)))⟩⟩
   ·exact Z0b _ rfl<|⟨a232,h,⟨⟨rfl,rfl,trivial⟩,(.one .here (.one .here (.one .here .nil)))⟩⟩
 ·rintro t m ⟨a151,h,hF⟩
  refine Zm hF ?_
  clear hF
  subst qk152
  refine Z0<|Z2<|Z6 _ (Z02 (p:=[.ints .u64 80 (a151)]) rfl .here rfl)<|Zg (Zs (q:=[.ints .u64 80 (a151)]) rfl rfl rfl rfl rfl (.there .here)<|Z1<|Zk ?_)
  revert h; refine Zz fun h=>?_
  subst h
  exact ⟨_,(.cons (.agg rfl (.there .here) rfl) .nil),rfl⟩
def Zcq (p0:Int) (p1:Int) (p2:Int) (p3:Int):Option (Int) :=
 opt (Z2x p0 p1) fun y3 =>
 opt (Z2x p0 p2) fun y4 =>
 bnd (Z4 .xor .u64 y3 y4) fun z5 =>
 opt (Z2x p0 p3) fun y6 =>
 bnd (Z4 .xor .u64 z5 y6) fun z7 =>
 some z7
theorem Zc7 {W:World} {r:Int} {p0:Int} {p1:Int} {p2:Int} {p3:Int} (h:Zcq p0 p1 p2 p3=some r)  :
    Calls Tryd.prog 99 [.int .u64 (p0),.int .i64 (p1),.int .i64 (p2),.int .i64 (p3)].toArray W (Z56 W (.int .u64 (r))):=by
 unfold Zcq at h
 refine Zd mo ok99 rfl ?_
 refine Z0<|Z2<|Z8 rfl<|Z1<|Z0<|oH h fun y3 ey3 h=>oH h fun y4 ey4 h=>bH h fun z5 ez5 h=>oH h fun y6 ey6 h=>bH h fun z7 ez7 h=>Z2<|Z8 rfl<|Z8 rfl<|Z6 _ (Z1a rfl (Z2p ey3))<|Z8 rfl<|Z8 rfl<|Z6 _ (Z1a rfl (Z2p ey4))<|Z6 _ (iz ez5 (Za rfl rfl rfl))<|Z8 rfl<|Z8 rfl<|Z6 _ (Z1a rfl (Z2p ey6))<|Z6 _ (iz ez7 (Za rfl rfl rfl))<|Z8 rfl<|Z1<|Zk ?_
 revert h; refine Zz fun h=>?_
 subst h
 exact ⟨_,(.cons (.tmp rfl) .nil),rfl⟩
def Z9k (y6:(List Int)) (k133:(Int)→(Int)→(Int)→(Int)→(Int)→(Int)→(Int)→(Int)→OL) (k208:(Int)→(Int)→(Int)→(Int)→(Int)→(Int)→(Int)→(Int)→(Int)→OL) (i199:Int) (i200:Int) (i201:Int) (i202:Int) (i203:Int) (i204:Int) (i205:Int) (i206:Int) (i207:Int):OL :=
 br ((decide (i207<80))) (
 chk (inB i207 80) <|
 bnd (G_table.getD (i207).toNat 0) fun z214 =>
 opt (Zcq i203 14 18 41) fun y216 =>
 bnd (IntKind.wrap .u64 (i206+y216)) fun z217 =>
 bnd (Z4 .and .u64 i203 i204) fun z218 =>
 bnd (Z4 .xor .u64 18446744073709551615 i203) fun z219 =>
 bnd (Z4 .and .u64 z219 i205) fun z220 =>
 bnd (Z4 .xor .u64 z218 z220) fun z221 =>
 bnd (IntKind.wrap .u64 (z217+z221)) fun z222 =>
 bnd (IntKind.wrap .u64 (z222+z214)) fun z223 =>
 chk (inB i207 80) <|
 bnd (y6.getD (i207).toNat 0) fun z225 =>
 bnd (IntKind.wrap .u64 (z223+z225)) fun z226 =>
 opt (Zcq i199 28 34 39) fun y228 =>
 bnd (Z4 .and .u64 i199 i200) fun z229 =>
 bnd (Z4 .and .u64 i199 i201) fun z230 =>
 bnd (Z4 .xor .u64 z229 z230) fun z231 =>
 bnd (Z4 .and .u64 i200 i201) fun z232 =>
 bnd (Z4 .xor .u64 z231 z232) fun z233 =>
 bnd (IntKind.wrap .u64 (y228+z233)) fun z234 =>
 bnd (IntKind.wrap .u64 (i202+z226)) fun z236 =>
 bnd (IntKind.wrap .u64 (z226+z234)) fun z237 =>
 bnd (IntKind.wrap .i64 (i207+1)) fun z239 =>
 k208 z237 i199 i200 i201 z236 i203 i204 i205 z239
 ) (
 k133 i199 i200 i201 i202 i203 i204 i205 i206
 )
def Z5u (y6:(List Int)) (k133:(Int)→(Int)→(Int)→(Int)→(Int)→(Int)→(Int)→(Int)→OL):Nat→(Int)→(Int)→(Int)→(Int)→(Int)→(Int)→(Int)→(Int)→(Int)→OL
  | 0,_,_,_,_,_,_,_,_,_=>none
  | n+1,i199,i200,i201,i202,i203,i204,i205,i206,i207=>Z9k y6 k133 (Z5u y6 k133 n) i199 i200 i201 i202 i203 i204 i205 i206 i207
def Z9l (z241:List Int) (k283:(List Int)→OL) (k309:(Int)→(List Int)→OL) (i307:Int) (a308:List Int):OL :=
 br ((decide (i307<8))) (
 chk (inB i307 8) <|
 bnd (z241.getD (i307).toNat 0) fun z315 =>
 chk (inB i307 8) <|
 bnd (a308.getD (i307).toNat 0) fun z318 =>
 bnd (IntKind.wrap .u64 (z318+z315)) fun z319 =>
 chk (inB i307 8) <|
 bnd (Z4h a308 (i307).toNat z319) fun l321 =>
 bnd (IntKind.wrap .i64 (i307+1)) fun z323 =>
 k309 z323 l321
 ) (
 k283 a308
 )
def Z5v (z241:List Int) (k283:(List Int)→OL):Nat→(Int)→(List Int)→OL
  | 0,_,_=>none
  | n+1,i307,a308=>Z9l z241 k283 (Z5v z241 k283 n) i307 a308
def Z9w (p0:List Int) (p1:List Int):OL :=
 opt (Z9m p1) fun y6 =>
 bnd (p0.getD 0 0) fun z9 =>
 bnd (p0.getD 1 0) fun z10 =>
 bnd (p0.getD 2 0) fun z11 =>
 bnd (p0.getD 3 0) fun z12 =>
 bnd (p0.getD 4 0) fun z14 =>
 bnd (p0.getD 5 0) fun z15 =>
 bnd (p0.getD 6 0) fun z16 =>
 bnd (p0.getD 7 0) fun z17 =>
 jn (fun (i125:Int) (i126:Int) (i127:Int) (i128:Int) (i129:Int) (i130:Int) (i131:Int) (i132:Int)=>bnd (([i125,i126,i127,i128,i129,i130,i131,i132]:List Int)) fun z241 =>
 jn (fun (a282:List Int)=>some a282) fun k283=>Z5v z241 k283 big 0 p0) fun k133=>Z5u y6 k133 big z9 z10 z11 z12 z14 z15 z16 z17 0
theorem Zeo {W:World} {r:(List Int)} {p0:List Int} {p1:List Int} (h:Z9w p0 p1=some r) (hG:Globs W) :
    Calls Tryd.prog 81 [agg [.ints .u64 8 (p0)],agg [.ints .u8 128 (p1)]].toArray W (Z56 W (agg [.ints .u64 8 (r)])):=by
 unfold Z9w at h
 refine Zd mo ok81 rfl ?_
 refine Z0<|Z2<|Zg (Z14 (s:=[.ints .u64 8 (p0)]) rfl fun b2 hb2=>Zg (Z14 (s:=[.ints .u8 128 (p1)]) rfl fun b3 hb3=>Zg (Zw fun b4 hb4=>Z1<|Z0<|oH h fun y6 ey6 h=>Z2<|Z6 _ (Z02 (p:=[.ints .u8 128 (p1)]) rfl (.there .here) rfl)<|Z6 _ (Z1a rfl (Zcy ey6))<|Zg (Zw fun b7 hb7=>Zg (Zs (q:=[.ints .u64 80 (y6)]) rfl rfl rfl rfl rfl .here<|Z1<|Z0<|bH h fun z9 ez9 h=>bH h fun z10 ez10 h=>bH h fun z11 ez11 h=>bH h fun z12 ez12 h=>Zu<|Z7 _ (Z3b rfl rfl (by decide))<|Z7 _ (Z3b rfl rfl (by decide))<|Z7 _ (Z3b rfl rfl (by decide))<|Z7 _ (Z3b rfl rfl (by decide))<|Zn _ (iz ez9 (Z2k rfl (.there (.there (.there .here))) rfl))<|Z7 _ (Z19 rfl)<|Zn _ (iz ez10 (Z2k rfl (.there (.there (.there .here))) rfl))<|Z7 _ (Z19 rfl)<|Zn _ (iz ez11 (Z2k rfl (.there (.there (.there .here))) rfl))<|Z7 _ (Z19 rfl)<|Zn _ (iz ez12 (Z2k rfl (.there (.there (.there .here))) rfl))<|Z7 _ (Z19 rfl)<|Z03<|Z0<|bH h fun z14 ez14 h=>bH h fun z15 ez15 h=>bH h fun z16 ez16 h=>bH h fun z17 ez17 h=>Zu<|Z7 _ (Z3b rfl rfl (by decide))<|Z7 _ (Z3b rfl rfl (by decide))<|Z7 _ (Z3b rfl rfl (by decide))<|Z7 _ (Z3b rfl rfl (by decide))<|Zn _ (iz ez14 (Z2k rfl (.there (.there (.there .here))) rfl))<|Z7 _ (Z19 rfl)<|Zn _ (iz ez15 (Z2k rfl (.there (.there (.there .here))) rfl))<|Z7 _ (Z19 rfl)<|Zn _ (iz ez16 (Z2k rfl (.there (.there (.there .here))) rfl))<|Z7 _ (Z19 rfl)<|Zn _ (iz ez17 (Z2k rfl (.there (.there (.there .here))) rfl))<|Z7 _ (Z19 rfl)<|Z03<|Z0<|Z0<|Z2<|Z6 _ (Zn6 (o0:=0) (off:=0) rfl (hG.g2) (by simp) rfl)<|Z8 rfl<|Z1<|jH h fun k133 qk133 h=>Zo (G:=fun t m=>∃ (i125:Int) (i126:Int) (i127:Int) (i128:Int) (i129:Int) (i130:Int) (i131:Int) (i132:Int),k133 i125 i126 i127 i128 i129 i130 i131 i132=some r∧Fit [(2,.pointer (some ⟨b2,0,none⟩)),(4,.pointer (some ⟨b4,0,none⟩)),(6,.int .u64 (i125)),(7,.int .u64 (i126)),(8,.int .u64 (i127)),(9,.int .u64 (i128)),(10,.int .u64 (i129)),(11,.int .u64 (i130)),(12,.int .u64 (i131)),(13,.int .u64 (i132))] (ck b7 155 [.ints .u64 80 (y6)]::(ck b4 135 [.ints .u64 8 ((List.replicate 8 0))]::(ck b3 136 [.ints .u8 128 (p1)]::(ck b2 135 [.ints .u64 8 (p0)] :: [])))) t m) ?_ ?_)))))
 ·refine Zb<|Z01 (fun n209 t m=>∃ (i199:Int) (i200:Int) (i201:Int) (i202:Int) (i203:Int) (i204:Int) (i205:Int) (i206:Int) (i207:Int),Z5u y6 k133 n209 i199 i200 i201 i202 i203 i204 i205 i206 i207=some r∧Fit [(2,.pointer (some ⟨b2,0,none⟩)),(4,.pointer (some ⟨b4,0,none⟩)),(5,.pointer (some ⟨b7,0,none⟩)),(6,.int .u64 (i199)),(7,.int .u64 (i200)),(8,.int .u64 (i201)),(9,.int .u64 (i202)),(10,.int .u64 (i203)),(11,.int .u64 (i204)),(12,.int .u64 (i205)),(13,.int .u64 (i206)),(38,agg [.ints .u64 80 (G_table)]),(39,.int .i64 (i207))] (ck b7 155 [.ints .u64 80 (y6)]::(ck b4 135 [.ints .u64 8 ((List.replicate 8 0))]::(ck b3 136 [.ints .u8 128 (p1)]::(ck b2 135 [.ints .u64 8 (p0)] :: [])))) t m) big ?_ ?_
  ·exact ⟨z9,z10,z11,z12,z14,z15,z16,z17,0,h,⟨⟨rfl,rfl,rfl,rfl,rfl,rfl,rfl,rfl,rfl,rfl,rfl,rfl,rfl,trivial⟩,(.one .here (.one .here (.one .here (.one .here .nil))))⟩⟩
  ·rintro n209 t m ⟨i199,i200,i201,i202,i203,i204,i205,i206,i207,h,hF⟩
   refine Zm hF ?_
   clear hF
   rcases n209 with _ | n209
   · exact Z1c h
   have h:Z9k y6 k133 (Z5u y6 k133 n209) i199 i200 i201 i202 i203 i204 i205 i206 i207=some r:=h
   unfold Z9k at h
   obtain ⟨k208,qk208⟩ : ∃ k,k=Z5u y6 k133 n209:=⟨_,rfl⟩
   try rw [← qk208] at h
   refine Z0<|Z2<|Z6 _ (Za rfl rfl rfl)<|Z1<|Z0<|Z0l h rfl (fun h=>?_) (fun h=>?_)
   ·refine Zl<|Z0<|Zb<|Z0<|cH h fun c213 h=>bH h fun z214 ez214 h=>Z2<|Z8 rfl<|Z6 _ (iz ez214 (Zet (len:=80) rfl rfl (Z1w c213)))<|Z8 rfl<|Z8 rfl<|Z1<|Z0<|oH h fun y216 ey216 h=>bH h fun z217 ez217 h=>bH h fun z218 ez218 h=>bH h fun z219 ez219 h=>bH h fun z220 ez220 h=>bH h fun z221 ez221 h=>bH h fun z222 ez222 h=>bH h fun z223 ez223 h=>cH h fun c224 h=>bH h fun z225 ez225 h=>bH h fun z226 ez226 h=>Zu<|Z7 _ (Z19 rfl)<|Z7 _ (Z19 rfl)<|Z7 _ (Z1a rfl (Zc7 ey216))<|Z7 _ (iz ez217 (Za rfl rfl rfl))<|Z7 _ (Z19 rfl)<|Z7 _ (Z19 rfl)<|Z7 _ (iz ez218 (Za rfl rfl rfl))<|Z7 _ (Z19 rfl)<|Z7 _ (iz ez219 (Zm1 rfl rfl))<|Z7 _ (Z19 rfl)<|Z7 _ (iz ez220 (Za rfl rfl rfl))<|Z7 _ (iz ez221 (Za rfl rfl rfl))<|Z7 _ (iz ez222 (Za rfl rfl rfl))<|Z7 _ (Z19 rfl)<|Z7 _ (iz ez223 (Za rfl rfl rfl))<|Z7 _ (Z19 rfl)<|Z7 _ (Z3b rfl rfl (Z1w c224))<|Zn _ (iz ez225 (Z8v (base:=0) rfl .here rfl (Z18 c224)))<|Z7 _ (iz ez226 (Za rfl rfl rfl))<|Z7 _ (Z19 rfl)<|Z03<|Z0<|oH h fun y228 ey228 h=>bH h fun z229 ez229 h=>bH h fun z230 ez230 h=>bH h fun z231 ez231 h=>bH h fun z232 ez232 h=>bH h fun z233 ez233 h=>bH h fun z234 ez234 h=>Z2<|Z8 rfl<|Z6 _ (Z1a rfl (Zc7 ey228))<|Z8 rfl<|Z8 rfl<|Z6 _ (iz ez229 (Za rfl rfl rfl))<|Z8 rfl<|Z8 rfl<|Z6 _ (iz ez230 (Za rfl rfl rfl))<|Z6 _ (iz ez231 (Za rfl rfl rfl))<|Z8 rfl<|Z8 rfl<|Z6 _ (iz ez232 (Za rfl rfl rfl))<|Z6 _ (iz ez233 (Za rfl rfl rfl))<|Z6 _ (iz ez234 (Za rfl rfl rfl))<|Z8 rfl<|Z1<|bH h fun z236 ez236 h=>bH h fun z237 ez237 h=>Z2<|Z8 rfl<|Z8 rfl<|Z8 rfl<|Z8 rfl<|Z8 rfl<|Z6 _ (iz ez236 (Za rfl rfl rfl))<|Z8 rfl<|Z8 rfl<|Z8 rfl<|Z8 rfl<|Z8 rfl<|Z6 _ (iz ez237 (Za rfl rfl rfl))<|Z8 rfl<|Z8 rfl<|Z8 rfl<|Z8 rfl<|Z8 rfl<|Z8 rfl<|Z8 rfl<|Z8 rfl<|Z1<|bH h fun z239 ez239 h=>Z2<|Z6 _ (iz ez239 (Za rfl rfl rfl))<|Z8 rfl<|Z1 ?_
    rw [qk208] at h
    exact ⟨n209,Nat.lt_succ_self _,z237,i199,i200,i201,z236,i203,i204,i205,z239,h,⟨⟨rfl,rfl,rfl,rfl,rfl,rfl,rfl,rfl,rfl,rfl,rfl,rfl,rfl,trivial⟩,(.one .here (.one .here (.one .here (.one .here .nil))))⟩⟩
   ·exact Z0b _ rfl<|⟨i199,i200,i201,i202,i203,i204,i205,i206,h,⟨⟨rfl,rfl,rfl,rfl,rfl,rfl,rfl,rfl,rfl,rfl,trivial⟩,(.one .here (.one .here (.one .here (.one .here .nil))))⟩⟩
 ·rintro t m ⟨i125,i126,i127,i128,i129,i130,i131,i132,h,hF⟩
  refine Zm hF ?_
  clear hF
  subst qk133
  refine Z0<|Z0<|bH h fun z241 ez241 h=>Z2<|Z8 rfl<|Z8 rfl<|Z8 rfl<|Z8 rfl<|Z8 rfl<|Z8 rfl<|Z8 rfl<|Z8 rfl<|Z6 _ (az (fun z=>agg [.ints .u64 8 z]) ez241 (Zdx (.one rfl rfl rfl (.one rfl rfl rfl (.one rfl rfl rfl (.one rfl rfl rfl (.one rfl rfl rfl (.one rfl rfl rfl (.one rfl rfl rfl (.one rfl rfl rfl BdR.nil))))))))))<|Z8 rfl<|Z1<|jH h fun k283 qk283 h=>Zo (G:=fun t m=>∃ (a282:List Int),k283 a282=some r∧Fit [(2,.pointer (some ⟨b2,0,none⟩)),(4,.pointer (some ⟨b4,0,none⟩))] (ck b7 155 [.ints .u64 80 (y6)]::(ck b4 135 [.ints .u64 8 ((List.replicate 8 0))]::(ck b3 136 [.ints .u8 128 (p1)]::(ck b2 135 [.ints .u64 8 (a282)] :: [])))) t m) ?_ ?_
  ·refine Zb<|Z01 (fun n310 t m=>∃ (i307:Int) (a308:List Int),Z5v z241 k283 n310 i307 a308=some r∧Fit [(2,.pointer (some ⟨b2,0,none⟩)),(4,.pointer (some ⟨b4,0,none⟩)),(97,agg [.ints .u64 8 (z241)]),(98,.int .i64 (i307))] (ck b7 155 [.ints .u64 80 (y6)]::(ck b4 135 [.ints .u64 8 ((List.replicate 8 0))]::(ck b3 136 [.ints .u8 128 (p1)]::(ck b2 135 [.ints .u64 8 (a308)] :: [])))) t m) big ?_ ?_
   ·exact ⟨0,p0,h,⟨⟨rfl,rfl,rfl,rfl,trivial⟩,(.one .here (.one .here (.one .here (.one .here .nil))))⟩⟩
   ·rintro n310 t m ⟨i307,a308,h,hF⟩
    refine Zm hF ?_
    clear hF
    rcases n310 with _ | n310
    · exact Z1c h
    have h:Z9l z241 k283 (Z5v z241 k283 n310) i307 a308=some r:=h
    unfold Z9l at h
    obtain ⟨k309,qk309⟩ : ∃ k,k=Z5v z241 k283 n310:=⟨_,rfl⟩
    try rw [← qk309] at h
    refine Z0<|Z2<|Z6 _ (Za rfl rfl rfl)<|Z1<|Z0<|Z0l h rfl (fun h=>?_) (fun h=>?_)
    ·refine Zl<|Z0<|Zb<|Z0<|cH h fun c314 h=>bH h fun z315 ez315 h=>Z2<|Z8 rfl<|Z6 _ (iz ez315 (Zet (len:=8) rfl rfl (Z1w c314)))<|Z8 rfl<|Z8 rfl<|Z1<|cH h fun c317 h=>bH h fun z318 ez318 h=>bH h fun z319 ez319 h=>cH h fun c320 h=>bH h fun l321 el321 h=>Z2<|Z8 rfl<|Z6 _ (Z3b rfl rfl (Z1w c317))<|Z6 _ (iz ez318 (Z8v (base:=0) rfl (.there (.there (.there .here))) rfl (Z18 c317)))<|Z8 rfl<|Z6 _ (iz ez319 (Za rfl rfl rfl))<|Z6 _ (Z3b rfl rfl (Z1w c320))<|Zg (Z5h (q:=[.ints .u64 8 (l321)]) (base:=0) el321 rfl rfl rfl (Z18 c320) rfl (.there (.there (.there .here)))<|Z1<|bH h fun z323 ez323 h=>Z2<|Z6 _ (iz ez323 (Za rfl rfl rfl))<|Z8 rfl<|Z1 ?_)
     rw [qk309] at h
     exact ⟨n310,Nat.lt_succ_self _,z323,l321,h,⟨⟨rfl,rfl,rfl,rfl,trivial⟩,(.one .here (.one .here (.one .here (.one .here .nil))))⟩⟩
    ·exact Z0b _ rfl<|⟨a308,h,⟨⟨rfl,rfl,trivial⟩,(.one .here (.one .here (.one .here (.one .here .nil))))⟩⟩
  ·rintro t m ⟨a282,h,hF⟩
   refine Zm hF ?_
   clear hF
   subst qk283
   refine Z0<|Z2<|Z6 _ (Z02 (p:=[.ints .u64 8 (a282)]) rfl (.there (.there (.there .here))) rfl)<|Zg (Zs (q:=[.ints .u64 8 (a282)]) rfl rfl rfl rfl rfl (.there .here)<|Z1<|Zk ?_)
   revert h; refine Zz fun h=>?_
   subst h
   exact ⟨_,(.cons (.agg rfl (.there .here) rfl) .nil),rfl⟩
def Z1m (z3:Int) (k44:(List (Int))→(List Int)→(List Int)→(Int)→Option (Zi)) (l39:List (Int)) (a41:List Int) (a42:List Int) (i43:Int):Option (Zi) :=
 br ((decide ((l39.length:Int)>0))) (
 chk (Zge i43 128 128) <|
 bnd (wr a42 (i43).toNat (l39.take (128-(i43).toNat))) fun l50 =>
 chk (Zge ((Nat.min l39.length (128-(i43).toNat):Nat):Int) (l39.length:Int) l39.length) <|
 bnd (IntKind.wrap .i64 (i43+((Nat.min l39.length (128-(i43).toNat):Nat):Int))) fun z54 =>
 br ((z54==128)) (
 opt (Z9w a41 l50) fun y58 =>
 k44 ((l39.drop (((Nat.min l39.length (128-(i43).toNat):Nat):Int)).toNat).take (((l39.length:Int)).toNat-(((Nat.min l39.length (128-(i43).toNat):Nat):Int)).toNat)) y58 l50 0
 ) (
 k44 ((l39.drop (((Nat.min l39.length (128-(i43).toNat):Nat):Int)).toNat).take (((l39.length:Int)).toNat-(((Nat.min l39.length (128-(i43).toNat):Nat):Int)).toNat)) a41 l50 z54
 )
 ) (
 some (⟨a41,a42,i43,z3⟩:Zi)
 )
def Z0i (z3:Int):Nat→(List (Int))→(List Int)→(List Int)→(Int)→Option (Zi)
  | 0,_,_,_,_=>none
  | n+1,l39,a41,a42,i43=>Z1m z3 (Z0i z3 n) l39 a41 a42 i43
def Z0s (p0:Zi) (p1:List Int):Option (Zi) :=
 bnd (IntKind.wrap .u64 (p1.length:Int)) fun z2 =>
 bnd (IntKind.wrap .u64 (p0.glength+z2)) fun z3 =>
 Z0i z3 big p1 p0.gstate p0.gheld p0.ghave
theorem Z4f {W:World} {r:Zi} {p0:Zi} {p1:List Int} {v1:Value} {b:Nat} {T:TypeId} (h:Z0s p0 p1=some r) (h0:Sat W [b] (ck b T [.ints .u64 8 (p0.gstate),.ints .u8 128 (p0.gheld),.one (.int .i64 (p0.ghave)),.one (.int .u64 (p0.glength))] :: []) W) (hG:Globs W) (hS : ∀ g,g<ng→g ∉ [b]) (A1:RdSl (El.int .u8) W v1 p1∧Z95 v1 p1 [b]) :
    Calls Tryd.prog 46 [.pointer (some ⟨b,0,none⟩),v1].toArray W (Zek W [b] (fun v Ms=>v = .tuple #[]∧Ms = [.one (ck b T [.ints .u64 8 (r.gstate),.ints .u8 128 (r.gheld),.one (.int .i64 (r.ghave)),.one (.int .u64 (r.glength))])])):=by
 unfold Z0s at h
 refine Z0t mo ok46 rfl h0 ?_
 refine Z0<|bH h fun z2 ez2 h=>bH h fun z3 ez3 h=>Z2<|Z8 rfl<|Z6 _ (Z5a rfl)<|Z6 _ (Z6c rfl)<|Z6 _ (Z2k rfl .here rfl)<|Z8 rfl<|Z6 _ (Z2i rfl (Shp.rd A1.1))<|Z6 _ (iz ez2 (Z8n rfl))<|Z6 _ (iz ez3 (Za rfl rfl rfl))<|Z6 _ (Z5a rfl)<|Z6 _ (Z6c rfl)<|Zg (Z9c (q:=[.ints .u64 8 (p0.gstate),.ints .u8 128 (p0.gheld),.one (.int .i64 (p0.ghave)),.one (.int .u64 (z3))]) rfl rfl rfl rfl .here<|Z1<|Zb<|Z01 (fun n45 t m=>∃ (l39:List (Int)) (a41:List Int) (a42:List Int) (i43:Int) (v38:Value),Z0i z3 n45 l39 a41 a42 i43=some r∧(RdSl (El.int .u8) W v38 l39∧Z95 v38 l39 [b])∧Fit [(0,.pointer (some ⟨b,0,none⟩)),(1,v38)] (ck b T [.ints .u64 8 (a41),.ints .u8 128 (a42),.one (.int .i64 (i43)),.one (.int .u64 (z3))] :: []) t m) big ?_ ?_)
 ·exact ⟨p1,p0.gstate,p0.gheld,p0.ghave,v1,h,A1,⟨⟨rfl,rfl,trivial⟩,(.one .here .nil)⟩⟩
 ·rintro n45 t m ⟨l39,a41,a42,i43,v38,h,A40,hF⟩
  refine Zm hF ?_
  clear hF
  rcases n45 with _ | n45
  · exact Z1c h
  have h:Z1m z3 (Z0i z3 n45) l39 a41 a42 i43=some r:=h
  unfold Z1m at h
  obtain ⟨k44,qk44⟩ : ∃ k,k=Z0i z3 n45:=⟨_,rfl⟩
  try rw [← qk44] at h
  refine Z0<|Z0<|Z2<|Z8 rfl<|Z6 _ (Z2i rfl (Shp.rd A40.1))<|Z6 _ (Za rfl rfl rfl)<|Z1<|Z0l h rfl (fun h=>?_) (fun h=>?_)
  ·refine Zl<|Zb<|Z0<|cH h fun c49 h=>bH h fun l50 el50 h=>Zu<|Z7 _ (Z19 rfl)<|Z7 _ (Z5a rfl)<|Z7 _ (Z6c rfl)<|Z7 _ (Z19 rfl)<|Z7 _ (Z5a rfl)<|Z7 _ (Z6c rfl)<|Z7 _ (Z19 rfl)<|Zn _ (Z2k rfl .here rfl)<|Z7 _ (Z90 rfl (.yes rfl) .no .no (by simp) (cut4 c49))<|Z2h rfl (Zea (q:=[.ints .u64 8 (a41),.ints .u8 128 (l50),.one (.int .i64 (i43)),.one (.int .u64 (z3))]) (lo:=(i43).toNat) (hi:=128) (mz:=128) (base:=8) el50 rfl rfl (Z2a A40.1 A40.2) rfl (cutn c49) rfl .here<|Z7 _ (Z19 rfl)<|Z03<|Z0<|cH h fun c52 h=>Z2<|Z8 rfl<|Z8 rfl<|Z6 _ (Zjp (lz:=((Nat.min l39.length (128-(i43).toNat):Nat):Int)) (hz:=(l39.length:Int)) rfl (Shp.rd A40.1) (.yes rfl) .no c52)<|Z8 rfl<|Z1<|Z0<|bH h fun z54 ez54 h=>Z2<|Z8 rfl<|Z6 _ (Z5a rfl)<|Z6 _ (Z6c rfl)<|Z6 _ (Z2k rfl .here rfl)<|Z8 rfl<|Z6 _ (iz ez54 (Za rfl rfl rfl))<|Z6 _ (Z5a rfl)<|Z6 _ (Z6c rfl)<|Zg (Z9c (q:=[.ints .u64 8 (a41),.ints .u8 128 (l50),.one (.int .i64 (z54)),.one (.int .u64 (z3))]) rfl rfl rfl rfl .here<|Z1<|Z0<|Z2<|Z8 rfl<|Z6 _ (Z5a rfl)<|Z6 _ (Z6c rfl)<|Z6 _ (Z2k rfl .here rfl)<|Z6 _ (Za rfl rfl rfl)<|Z1<|Z0l h rfl (fun h=>?_) (fun h=>?_)))
   ·refine Z0<|oH h fun y58 ey58 h=>Zu<|Z7 _ (Z19 rfl)<|Z7 _ (Z19 rfl)<|Z7 _ (Z5a rfl)<|Z7 _ (Z6c rfl)<|Z7 _ (Z19 rfl)<|Z7 _ (Z5a rfl)<|Z7 _ (Z6c rfl)<|Zn _ (Z02 (p:=[.ints .u64 8 (a41)]) rfl .here rfl)<|Zn _ (Z02 (p:=[.ints .u8 128 (l50)]) rfl .here rfl)<|Z7 _ (Z0m rfl (fun w hw=>Zeo ey58 (hG.at hw hS)))<|Z7 _ (Z5a rfl)<|Z7 _ (Z6c rfl)<|Z2h rfl (Zs (q:=[.ints .u64 8 (y58),.ints .u8 128 (l50),.one (.int .i64 (z54)),.one (.int .u64 (z3))]) rfl rfl rfl rfl rfl .here<|Z03<|Z2<|Z8 rfl<|Z6 _ (Z5a rfl)<|Z6 _ (Z6c rfl)<|Zg (Z9c (q:=[.ints .u64 8 (y58),.ints .u8 128 (l50),.one (.int .i64 (0)),.one (.int .u64 (z3))]) rfl rfl rfl rfl .here<|Z1 ?_))
    rw [qk44] at h
    exact ⟨n45,Nat.lt_succ_self _,((l39.drop (((Nat.min l39.length (128-(i43).toNat):Nat):Int)).toNat).take (((l39.length:Int)).toNat-(((Nat.min l39.length (128-(i43).toNat):Nat):Int)).toNat)),y58,l50,0,(Zbk 1 v38 (((Nat.min l39.length (128-(i43).toNat):Nat):Int)).toNat ((l39.length:Int)).toNat),h,(Ztd A40 (lz:=((Nat.min l39.length (128-(i43).toNat):Nat):Int)) (hz:=(l39.length:Int)) c52),⟨⟨rfl,rfl,trivial⟩,(.one .here .nil)⟩⟩
   ·refine Zl ?_
    rw [qk44] at h
    exact ⟨n45,Nat.lt_succ_self _,((l39.drop (((Nat.min l39.length (128-(i43).toNat):Nat):Int)).toNat).take (((l39.length:Int)).toNat-(((Nat.min l39.length (128-(i43).toNat):Nat):Int)).toNat)),a41,l50,z54,(Zbk 1 v38 (((Nat.min l39.length (128-(i43).toNat):Nat):Int)).toNat ((l39.length:Int)).toNat),h,(Ztd A40 (lz:=((Nat.min l39.length (128-(i43).toNat):Nat):Int)) (hz:=(l39.length:Int)) c52),⟨⟨rfl,rfl,trivial⟩,(.one .here .nil)⟩⟩
  ·refine Z0b _ rfl ?_
   revert h; refine Zz fun h=>?_
   subst h
   exact ⟨_,_,.nil,(.one .here .nil),⟨_,rfl,⟨rfl,rfl⟩⟩⟩
def Z3h (p0:Zi):Option (Zi×Zi) :=
 some (p0,p0)
theorem Zam {W:World} {r:Zi×Zi} {p0:Zi} {b:Nat} {T:TypeId} (h:Z3h p0=some r) (h0:Sat W [b] (ck b T [.ints .u64 8 (p0.gstate),.ints .u8 128 (p0.gheld),.one (.int .i64 (p0.ghave)),.one (.int .u64 (p0.glength))] :: []) W) :
    Calls Tryd.prog 84 [.pointer (some ⟨b,0,none⟩)].toArray W (Zek W [b] (fun v Ms=>∃ (b0:Nat) (T0:TypeId),v = .pointer (some ⟨b0,0,none⟩)∧Ms = [.one (ck b0 T0 [.ints .u64 8 (r.1.gstate),.ints .u8 128 (r.1.gheld),.one (.int .i64 (r.1.ghave)),.one (.int .u64 (r.1.glength))]),.one (ck b T [.ints .u64 8 (r.2.gstate),.ints .u8 128 (r.2.gheld),.one (.int .i64 (r.2.ghave)),.one (.int .u64 (r.2.glength))])])):=by
 unfold Z3h at h
 refine Z0t mo ok84 rfl h0 ?_
 refine Z0<|Z2<|Z8 rfl<|Z1<|Z0<|Z2<|Z8 rfl<|Z6 _ (Z5a rfl)<|Z6 _ (Z02 (p:=[.ints .u64 8 (p0.gstate),.ints .u8 128 (p0.gheld),.one (.int .i64 (p0.ghave)),.one (.int .u64 (p0.glength))]) rfl .here rfl)<|Zg (Zw fun b3 hb3=>Zg (Zs (q:=[.ints .u64 8 (p0.gstate),.ints .u8 128 (p0.gheld),.one (.int .i64 (p0.ghave)),.one (.int .u64 (p0.glength))]) rfl rfl rfl rfl rfl .here<|Z1<|Z0<|Z2<|Z8 rfl<|Z1<|Zk ?_))
 revert h; refine Zz fun h=>?_
 subst h
 exact ⟨_,_,(.cons (.tmp rfl) .nil),(.one .here (.one .here .nil)),⟨_,rfl,⟨b3,138,rfl,rfl⟩⟩⟩
def Z54 (k65:(List (Int))→OL) (k102:(Int)→(List (Int))→(Int)→OL) (i96:Int) (l99:List (Int)) (i101:Int):OL :=
 br ((decide (i101≥0))) (
 bnd (IntKind.wrap .u8 i96) fun z107 =>
 chk (inB i101 l99.length) <|
 bnd (Zf7 0 l99 (i101).toNat z107) fun l109 =>
 bnd (Zh .u64 i96 8) fun z113 =>
 bnd (IntKind.wrap .i64 (i101-1)) fun z115 =>
 k102 z113 l109 z115
 ) (
 k65 l99
 )
def Z2d (k65:(List (Int))→OL):Nat→(Int)→(List (Int))→(Int)→OL
  | 0,_,_,_=>none
  | n+1,i96,l99,i101=>Z54 k65 (Z2d k65 n) i96 l99 i101
def Z1b (p0:Int):OL :=
 opt (Z39) fun y3 =>
 bnd (IntKind.wrap .i64 (Int.tdiv y3 8)) fun z4 =>
 chk (mkB 1 z4 z4) <|
 bnd (IntKind.wrap .i64 (((List.replicate (z4).toNat 0:List (Int)).length:Int)-1)) fun z10 =>
 jn (fun (l63:List (Int))=>some l63) fun k65=>Z2d k65 big p0 (List.replicate (z4).toNat 0:List (Int)) z10
theorem Z48 {W:World} {r:(List Int)} {p0:Int} (h:Z1b p0=some r)  :
    Calls Tryd.prog 86 [.int .u64 (p0)].toArray W (Zek W [] (fun v Ms=>∃ (u0:Value) (M0:List Zc),v=u0∧Ms = [.all M0]∧Z1n (El.int .u8) u0 M0 r)):=by
 unfold Z1b at h
 refine Z0t mo ok86 rfl (Zih _) ?_
 refine Z0<|Z2<|Z8 rfl<|Z1<|Z0<|oH h fun y3 ey3 h=>bH h fun z4 ez4 h=>cH h fun c5 h=>Z2<|Z6 _ (Z1a rfl (Z3j ey3))<|Z6 _ (iz ez4 (Zjn rfl rfl (by decide)))<|Zg (Zfs (E:=(El.int .u8)) rfl rfl rfl c5 fun v6 ms7 O8=>Z8 rfl<|Z1<|Z0<|Z0<|bH h fun z10 ez10 h=>Z2<|Z8 rfl<|Z6 _ (Z2i rfl (Shp.own O8))<|Z6 _ (iz ez10 (Za rfl rfl rfl))<|Z8 rfl<|Z1<|jH h fun k65 qk65 h=>Zo (G:=fun t m=>∃ (l63:List (Int)) (v61:Value) (ms62:List Zc),k65 l63=some r∧Z1n (El.int .u8) v61 ms62 l63∧Fit [(3,v61)] (ms62 ++ []) t m) ?_ ?_)
 ·refine Zb<|Z01 (fun n103 t m=>∃ (i96:Int) (l99:List (Int)) (i101:Int) (v97:Value) (ms98:List Zc),Z2d k65 n103 i96 l99 i101=some r∧Z1n (El.int .u8) v97 ms98 l99∧Fit [(0,.int .u64 (i96)),(3,v97),(4,.int .i64 (i101))] (ms98 ++ []) t m) big ?_ ?_
  ·exact ⟨p0,(List.replicate (z4).toNat 0:List (Int)),z10,v6,ms7,h,O8,⟨⟨rfl,rfl,rfl,trivial⟩,(.all .here .nil)⟩⟩
  ·rintro n103 t m ⟨i96,l99,i101,v97,ms98,h,O100,hF⟩
   refine Zm hF ?_
   clear hF
   rcases n103 with _ | n103
   · exact Z1c h
   have h:Z54 k65 (Z2d k65 n103) i96 l99 i101=some r:=h
   unfold Z54 at h
   obtain ⟨k102,qk102⟩ : ∃ k,k=Z2d k65 n103:=⟨_,rfl⟩
   try rw [← qk102] at h
   refine Z0<|Z0<|Z2<|Z8 rfl<|Z6 _ (Za rfl rfl rfl)<|Z1<|Z0l h rfl (fun h=>?_) (fun h=>?_)
   ·refine Zl<|Z0<|Zb<|Z0<|bH h fun z107 ez107 h=>cH h fun c108 h=>bH h fun l109 el109 h=>Z2<|Z8 rfl<|Z8 rfl<|Z8 rfl<|Z6 _ (iz ez107 (Z8n rfl))<|Z6 _ (Z4m rfl rfl (Shp.own O100) c108)<|Zg (Zj0 (E:=(El.int .u8)) el109 O100 .here rfl rfl rfl (Z18 c108) fun ms110 O111=>Z1<|bH h fun z113 ez113 h=>Z2<|Z8 rfl<|Z6 _ (iz ez113 (Z76 rfl rfl (by decide)))<|Z8 rfl<|Z1<|bH h fun z115 ez115 h=>Z2<|Z8 rfl<|Z6 _ (iz ez115 (Za rfl rfl rfl))<|Z8 rfl<|Z1 ?_)
    rw [qk102] at h
    exact ⟨n103,Nat.lt_succ_self _,z113,l109,z115,v97,ms110,h,O111,⟨⟨rfl,rfl,rfl,trivial⟩,(.all .here .nil)⟩⟩
   ·exact Z0b _ rfl<|⟨l99,v97,ms98,h,O100,⟨⟨rfl,trivial⟩,(.all .here .nil)⟩⟩
 ·rintro t m ⟨l63,v61,ms62,h,O64,hF⟩
  refine Zm hF ?_
  clear hF
  subst qk65
  refine Z0<|Z2<|Z8 rfl<|Z8 rfl<|Z1<|Zk ?_
  revert h; refine Zz fun h=>?_
  subst h
  exact ⟨_,_,(.cons (.tmp rfl) .nil),(.all .here .nil),⟨_,rfl,⟨v61,ms62,rfl,rfl,O64⟩⟩⟩
def Z82 (p0:Int):OL :=
 bnd (IntKind.wrap .u64 (p0+17)) fun z3 =>
 bnd (Int.tmod z3 128) fun z4 =>
 bnd (IntKind.wrap .i64 z4) fun z5 =>
 bnd (IntKind.wrap .i64 (128-z5)) fun z6 =>
 bnd (Int.tmod z6 128) fun z7 =>
 bnd (IntKind.wrap .i64 (17+z7)) fun z9 =>
 chk (mkB 1 0 z9) <|
 chk (decide (((List.replicate 0 0:List (Int)).length+([128]:List (Int)).length)*1≤140737488355328)) <|
 bnd ((List.replicate 0 0:List (Int))++([128]:List (Int))) fun l19 =>
 chk (decide (0≤z7)) <|
 chk (decide ((l19.length+(z7).toNat)*1≤140737488355328)) <|
 bnd (l19++List.replicate (z7).toNat 0) fun l26 =>
 bnd (Zh .u64 p0 61) fun z31 =>
 opt (Z1b z31) fun y32 =>
 chk (decide ((l26.length+y32.length)*1≤140737488355328)) <|
 bnd (l26++y32) fun l39 =>
 bnd (Zq .u64 p0 3) fun z44 =>
 opt (Z1b z44) fun y45 =>
 chk (decide ((l39.length+y45.length)*1≤140737488355328)) <|
 bnd (l39++y45) fun l52 =>
 some l52
theorem Zg5 {W:World} {r:(List Int)} {p0:Int} (h:Z82 p0=some r)  :
    Calls Tryd.prog 85 [.int .u64 (p0)].toArray W (Zek W [] (fun v Ms=>∃ (u0:Value) (M0:List Zc),v=u0∧Ms = [.all M0]∧Z1n (El.int .u8) u0 M0 r)):=by
 unfold Z82 at h
 refine Z0t mo ok85 rfl (Zih _) ?_
 refine Z0<|Z2<|Z8 rfl<|Z1<|Z0<|bH h fun z3 ez3 h=>bH h fun z4 ez4 h=>bH h fun z5 ez5 h=>bH h fun z6 ez6 h=>bH h fun z7 ez7 h=>Z2<|Z8 rfl<|Z6 _ (iz ez3 (Za rfl rfl rfl))<|Z6 _ (iz ez4 (Zjo rfl rfl (by decide)))<|Z6 _ (iz ez5 (Z8n rfl))<|Z6 _ (iz ez6 (Za rfl rfl rfl))<|Z6 _ (iz ez7 (Zjo rfl rfl (by decide)))<|Z8 rfl<|Z1<|Z0<|bH h fun z9 ez9 h=>cH h fun c10 h=>Z2<|Z8 rfl<|Z6 _ (iz ez9 (Za rfl rfl rfl))<|Zg (Zfs (E:=(El.int .u8)) rfl rfl rfl c10 fun v11 ms12 O13=>Z8 rfl<|Z1<|Z0<|cH h fun c18 h=>bH h fun l19 el19 h=>Z2<|Z8 rfl<|Zg (Z9r (E:=(El.int .u8)) (xs:=[128]) (.one rfl rfl rfl BdR.nil) (.cons (p:=[.one (.int .u8 (128))]) rfl .nil) rfl fun v15 ms16 O17=>Zg (Zar (E:=(El.int .u8)) el19 rfl O13 (.app .here) rfl (Z1x O17 .here) c18 fun v20 ms21 O22=>Z8 rfl<|Z1<|Z0<|cH h fun c24 h=>cH h fun c25 h=>bH h fun l26 el26 h=>Z2<|Z8 rfl<|Z8 rfl<|Zg (Zui (E:=(El.int .u8)) el26 rfl O22 .here rfl c24 rfl c25 fun v27 ms28 O29=>Z8 rfl<|Z1<|Z0<|bH h fun z31 ez31 h=>oH h fun y32 ey32 h=>cH h fun c38 h=>bH h fun l39 el39 h=>Z2<|Z8 rfl<|Z8 rfl<|Z6 _ (iz ez31 (Z76 rfl rfl (by decide)))<|Zg (Z0j rfl (fun w hw=>Z48  ey32 ) fun v33 Msv33 R34=>?_)))))
 obtain ⟨_,ms36,rfl,rfl,O37⟩:=R34
 refine Zg (Zar (E:=(El.int .u8)) el39 rfl O29 (.app .here) rfl (Z1x O37 .here) c38 fun v40 ms41 O42=>Z8 rfl<|Z1<|Z0<|bH h fun z44 ez44 h=>oH h fun y45 ey45 h=>cH h fun c51 h=>bH h fun l52 el52 h=>Z2<|Z8 rfl<|Z8 rfl<|Z6 _ (iz ez44 (Zi7 rfl rfl (by decide)))<|Zg (Z0j rfl (fun w hw=>Z48  ey45 ) fun v46 Msv46 R47=>?_))
 obtain ⟨_,ms49,rfl,rfl,O50⟩:=R47
 refine Zg (Zar (E:=(El.int .u8)) el52 rfl O42 (.app .here) rfl (Z1x O50 .here) c51 fun v53 ms54 O55=>Z8 rfl<|Z1<|Zk ?_)
 revert h; refine Zz fun h=>?_
 subst h
 exact ⟨_,_,(.cons (.tmp rfl) .nil),(.all .here .nil),⟨_,rfl,⟨v53,ms54,rfl,rfl,O55⟩⟩⟩
def Z66 (y16:Zi) (k75:(List Int)→Option ((List Int)×Zi)) (k109:(Int)→(List Int)→Option ((List Int)×Zi)) (i107:Int) (a108:List Int):Option ((List Int)×Zi) :=
 br ((decide (i107<8))) (
 chk (inB i107 8) <|
 bnd (y16.gstate.getD (i107).toNat 0) fun z115 =>
 bnd (IntKind.wrap .i64 (8*i107)) fun z117 =>
 chk (Zge z117 64 64) <|
 opt (Z1b z115) fun y119 =>
 bnd (wr a108 (z117).toNat (y119.take (64-(z117).toNat))) fun l125 =>
 bnd (IntKind.wrap .i64 (i107+1)) fun z127 =>
 k109 z127 l125
 ) (
 k75 a108
 )
def Z1k (y16:Zi) (k75:(List Int)→Option ((List Int)×Zi)):Nat→(Int)→(List Int)→Option ((List Int)×Zi)
  | 0,_,_=>none
  | n+1,i107,a108=>Z66 y16 k75 (Z1k y16 k75 n) i107 a108
def Z1y (p0:Zi):Option ((List Int)×Zi) :=
 opt (Z3h p0) fun y4 =>
 opt (Z82 y4.2.glength) fun y10 =>
 opt (Z0s y4.1 y10) fun y16 =>
 jn (fun (a74:List Int)=>some (a74,y4.2)) fun k75=>Z1k y16 k75 big 0 (List.replicate 64 0)
theorem Z7k {W:World} {r:(List Int)×Zi} {p0:Zi} {b:Nat} {T:TypeId} (h:Z1y p0=some r) (h0:Sat W [b] (ck b T [.ints .u64 8 (p0.gstate),.ints .u8 128 (p0.gheld),.one (.int .i64 (p0.ghave)),.one (.int .u64 (p0.glength))] :: []) W) (hG:Globs W) (hS : ∀ g,g<ng→g ∉ [b]) :
    Calls Tryd.prog 48 [.pointer (some ⟨b,0,none⟩)].toArray W (Zek W [b] (fun v Ms=>v=agg [.ints .u8 64 (r.1)]∧Ms = [.one (ck b T [.ints .u64 8 (r.2.gstate),.ints .u8 128 (r.2.gheld),.one (.int .i64 (r.2.ghave)),.one (.int .u64 (r.2.glength))])])):=by
 unfold Z1y at h
 refine Z0t mo ok48 rfl h0 ?_
 refine Z0<|Z2<|Zg (Zw fun b2 hb2=>Z1<|Z0<|oH h fun y4 ey4 h=>Z2<|Z8 rfl<|Zg (Z4s (mS:=[_]) rfl (Z3y.perm (.there .here)) (fun w hw=>Zam  ey4 (Za3 hw (mS:=[_]) (Z3y.perm (.there .here))) ) fun v5 Msv5 R6=>?_))
 obtain ⟨b7,T8,rfl,rfl⟩:=R6
 refine Z8 rfl<|Z1<|Z0<|oH h fun y10 ey10 h=>oH h fun y16 ey16 h=>Z2<|Z8 rfl<|Z8 rfl<|Z6 _ (Z5a rfl)<|Z6 _ (Z6c rfl)<|Z6 _ (Z2k rfl (.there .here) rfl)<|Zg (Z0j rfl (fun w hw=>Zg5  ey10 ) fun v11 Msv11 R12=>?_)
 obtain ⟨_,ms14,rfl,rfl,O15⟩:=R12
 refine Zg (Z4s (mS:=[_]) rfl (Z3y.perm (.app .here)) (fun w hw=>Z4f  ey16 (Za3 hw (mS:=[_]) (Z3y.perm (.app .here))) (hG.at hw hS) (hG.ap hS (.app .here) hw) ⟨(Z1x O15 .here) w hw,(Zfn (E:=(El.int .u8)) O15 .here .here hw)⟩) fun v17 Msv17 R18=>?_)
 obtain ⟨rfl,rfl⟩:=R18
 refine Z1<|Z0<|Z2<|Zg (Zw fun b20 hb20=>Z1<|Z0<|Z0<|Z2<|Z8 rfl<|Z6 _ (Z5a rfl)<|Z6 _ (Z6c rfl)<|Z6 _ (Z02 (p:=[.ints .u64 8 (y16.gstate)]) rfl (.there .here) rfl)<|Z8 rfl<|Z1<|jH h fun k75 qk75 h=>Zo (G:=fun t m=>∃ (a74:List Int),k75 a74=some r∧Fit [(2,.pointer (some ⟨b2,0,none⟩)),(4,.pointer (some ⟨b20,0,none⟩))] (ck b20 101 [.ints .u8 64 (a74)]::(ck b7 T8 [.ints .u64 8 (y16.gstate),.ints .u8 128 (y16.gheld),.one (.int .i64 (y16.ghave)),.one (.int .u64 (y16.glength))]::(ck b T [.ints .u64 8 (y4.2.gstate),.ints .u8 128 (y4.2.gheld),.one (.int .i64 (y4.2.ghave)),.one (.int .u64 (y4.2.glength))]::(ck b2 101 [.ints .u8 64 ((List.replicate 64 0))] :: [])))) t m) ?_ ?_)
 ·refine Zb<|Z01 (fun n110 t m=>∃ (i107:Int) (a108:List Int),Z1k y16 k75 n110 i107 a108=some r∧Fit [(2,.pointer (some ⟨b2,0,none⟩)),(4,.pointer (some ⟨b20,0,none⟩)),(19,agg [.ints .u64 8 (y16.gstate)]),(20,.int .i64 (i107))] (ck b20 101 [.ints .u8 64 (a108)]::(ck b7 T8 [.ints .u64 8 (y16.gstate),.ints .u8 128 (y16.gheld),.one (.int .i64 (y16.ghave)),.one (.int .u64 (y16.glength))]::(ck b T [.ints .u64 8 (y4.2.gstate),.ints .u8 128 (y4.2.gheld),.one (.int .i64 (y4.2.ghave)),.one (.int .u64 (y4.2.glength))]::(ck b2 101 [.ints .u8 64 ((List.replicate 64 0))] :: [])))) t m) big ?_ ?_
  ·exact ⟨0,(List.replicate 64 0),h,⟨⟨rfl,rfl,rfl,rfl,trivial⟩,(.one .here (.one .here (.one (.app .here) (.one (.app .here) .nil))))⟩⟩
  ·rintro n110 t m ⟨i107,a108,h,hF⟩
   refine Zm hF ?_
   clear hF
   rcases n110 with _ | n110
   · exact Z1c h
   have h:Z66 y16 k75 (Z1k y16 k75 n110) i107 a108=some r:=h
   unfold Z66 at h
   obtain ⟨k109,qk109⟩ : ∃ k,k=Z1k y16 k75 n110:=⟨_,rfl⟩
   try rw [← qk109] at h
   refine Z0<|Z2<|Z6 _ (Za rfl rfl rfl)<|Z1<|Z0<|Z0l h rfl (fun h=>?_) (fun h=>?_)
   ·refine Zl<|Z0<|Zb<|Z0<|cH h fun c114 h=>bH h fun z115 ez115 h=>Z2<|Z8 rfl<|Z6 _ (iz ez115 (Zet (len:=8) rfl rfl (Z1w c114)))<|Z8 rfl<|Z8 rfl<|Z1<|bH h fun z117 ez117 h=>cH h fun c118 h=>oH h fun y119 ey119 h=>bH h fun l125 el125 h=>Zu<|Z7 _ (Z19 rfl)<|Z7 _ (iz ez117 (Za rfl rfl rfl))<|Z7 _ (Z90 rfl (.yes rfl) .no .no (by simp) (cut4 c118))<|Z7 _ (Z19 rfl)<|Z7h (Z0j rfl (fun w hw=>Z48  ey119 ) fun v120 Msv120 R121=>?_)
    obtain ⟨_,ms123,rfl,rfl,O124⟩:=R121
    refine ⟨(by repeat (first | exact Sup.refl _ | apply Sup.cons | apply Sup.app)),Z2h rfl (Zea (q:=[.ints .u8 64 (l125)]) (lo:=(z117).toNat) (hi:=64) (mz:=64) (base:=0) el125 rfl rfl (Z1x O124 .here) rfl (cutn c118) rfl (.app .here) (Z03 (bH h fun z127 ez127 h=>Z2 (Z6 _ (iz ez127 (Za rfl rfl rfl)) (Z8 rfl (Z1 ?_))))))⟩
    rw [qk109] at h
    exact ⟨n110,Nat.lt_succ_self _,z127,l125,h,⟨⟨rfl,rfl,rfl,rfl,trivial⟩,(.one (.app .here) (.one (.app .here) (.one (.app .here) (.one (.app .here) .nil))))⟩⟩
   ·exact Z0b _ rfl<|⟨a108,h,⟨⟨rfl,rfl,trivial⟩,(.one .here (.one .here (.one .here (.one .here .nil))))⟩⟩
 ·rintro t m ⟨a74,h,hF⟩
  refine Zm hF ?_
  clear hF
  subst qk75
  refine Z0<|Z2<|Z6 _ (Z02 (p:=[.ints .u8 64 (a74)]) rfl .here rfl)<|Zg (Zs (q:=[.ints .u8 64 (a74)]) rfl rfl rfl rfl rfl (.there (.there (.there .here)))<|Z1<|Zk ?_)
  revert h; refine Zz fun h=>?_
  subst h
  exact ⟨_,_,(.cons (.agg rfl (.there (.there (.there .here))) rfl) .nil),(.one (.there (.there .here)) .nil),⟨_,rfl,⟨rfl,rfl⟩⟩⟩
def Z94 (p0:List Int):OL :=
 opt (Z93 ) fun y4 =>
 opt (Z0s y4 p0) fun y10 =>
 opt (Z1y y10) fun y14 =>
 some y14.1
theorem Zg6 {W:World} {r:(List Int)} {p0:List Int} {v0:Value} (h:Z94 p0=some r) (hG:Globs W) (A0:RdSl (El.int .u8) W v0 p0) :
    Calls Tryd.prog 58 [v0].toArray W (Z56 W (agg [.ints .u8 64 (r)])):=by
 unfold Z94 at h
 refine Zd mo ok58 rfl ?_
 refine Z0<|Z2<|Zg (Zw fun b2 hb2=>Z1<|Z0<|oH h fun y4 ey4 h=>Z2<|Zg (Z0j rfl (fun w hw=>Zc6  ey4 (hG.at hw (by simp))) fun v5 Msv5 R6=>?_))
 obtain ⟨b7,T8,rfl,rfl⟩:=R6
 refine Z8 rfl<|Z1<|Z0<|oH h fun y10 ey10 h=>Z2<|Z8 rfl<|Z8 rfl<|Zg (Z4s (mS:=[_]) rfl (Z3y.perm .here) (fun w hw=>Z4f  ey10 (Za3 hw (mS:=[_]) (Z3y.perm .here)) (hG.at hw (by simp)) (hG.ap (by simp) .here hw) ⟨(Z2a A0 Z2m) w hw,(Zir (E:=(El.int .u8)) A0 .here hw)⟩) fun v11 Msv11 R12=>?_)
 obtain ⟨rfl,rfl⟩:=R12
 refine Z1<|Z0<|oH h fun y14 ey14 h=>Z2<|Z8 rfl<|Zg (Z4s (mS:=[_]) rfl (Z3y.perm .here) (fun w hw=>Z7k  ey14 (Za3 hw (mS:=[_]) (Z3y.perm .here)) (hG.at hw (by simp)) (hG.ap (by simp) .here hw)) fun v15 Msv15 R16=>?_)
 obtain ⟨rfl,rfl⟩:=R16
 refine Zg (Zs (q:=[.ints .u8 64 (y14.1)]) rfl rfl rfl rfl rfl (.there .here)<|Z1<|Zk ?_)
 revert h; refine Zz fun h=>?_
 subst h
 exact ⟨_,(.cons (.agg rfl (.there .here) rfl) .nil),rfl⟩
def Z8o (p0:List Int):OL :=
 bnd (p0.getD 0 0) fun z5 =>
 bnd (Z4 .andNot .u8 z5 7) fun z6 =>
 bnd (Z4h p0 0 z6) fun l7 =>
 bnd (l7.getD 31 0) fun z9 =>
 bnd (Z4 .and .u8 z9 127) fun z10 =>
 bnd (Z4 .or .u8 z10 64) fun z11 =>
 bnd (Z4h l7 31 z11) fun l12 =>
 some l12
theorem Zem {W:World} {r:(List Int)} {p0:List Int} (h:Z8o p0=some r)  :
    Calls Tryd.prog 59 [agg [.ints .u8 32 (p0)]].toArray W (Z56 W (agg [.ints .u8 32 (r)])):=by
 unfold Z8o at h
 refine Zd mo ok59 rfl ?_
 refine Z0<|Z2<|Zg (Z14 (s:=[.ints .u8 32 (p0)]) rfl fun b2 hb2=>Zg (Zw fun b3 hb3=>Z1<|Z0<|bH h fun z5 ez5 h=>bH h fun z6 ez6 h=>bH h fun l7 el7 h=>Z2<|Z6 _ (Z3b rfl rfl (by decide))<|Z6 _ (iz ez5 (Z2k rfl (.there .here) rfl))<|Z6 _ (iz ez6 (Za rfl rfl rfl))<|Z6 _ (Z3b rfl rfl (by decide))<|Zg (Z9d (q:=[.ints .u8 32 (l7)]) (congrArg (fun z=>([.ints .u8 32 (z)]:List Seg)) el7.symm) rfl rfl rfl rfl (.there .here)<|Z1<|Z0<|bH h fun z9 ez9 h=>bH h fun z10 ez10 h=>bH h fun z11 ez11 h=>bH h fun l12 el12 h=>Z2<|Z6 _ (Z3b rfl rfl (by decide))<|Z6 _ (iz ez9 (Z2k rfl (.there .here) rfl))<|Z6 _ (iz ez10 (Za rfl rfl rfl))<|Z6 _ (iz ez11 (Za rfl rfl rfl))<|Z6 _ (Z3b rfl rfl (by decide))<|Zg (Z9d (q:=[.ints .u8 32 (l12)]) (congrArg (fun z=>([.ints .u8 32 (z)]:List Seg)) el12.symm) rfl rfl rfl rfl (.there .here)<|Z1<|Z0<|Z2<|Z6 _ (Z02 (p:=[.ints .u8 32 (l12)]) rfl (.there .here) rfl)<|Zg (Zs (q:=[.ints .u8 32 (l12)]) rfl rfl rfl rfl rfl .here<|Z1<|Zk ?_)))))
 revert h; refine Zz fun h=>?_
 subst h
 exact ⟨_,(.cons (.agg rfl .here rfl) .nil),rfl⟩
def Z83 (p0:List Int):Option ((List Int)×(List Int)) :=
 opt (Z94 (tk p0 0 32)) fun y5 =>
 chk (decide (32≤(tk y5 0 32).length)) <|
 bnd (tk (tk y5 0 32) 0 32) fun z9 =>
 opt (Z8o z9) fun y10 =>
 some (y10,(tk y5 32 (64-32)))
theorem Zbh {W:World} {r:(List Int)×(List Int)} {p0:List Int} (h:Z83 p0=some r) (hG:Globs W) :
    Calls Tryd.prog 24 [agg [.ints .u8 32 (p0)]].toArray W (Zek W [] (fun v Ms=>∃ (u1:Value) (M1:List Zc),v = .tuple #[agg [.ints .u8 32 (r.1)],u1]∧Ms = [.all M1]∧Z1n (El.int .u8) u1 M1 r.2)):=by
 unfold Z83 at h
 refine Z0t mo ok24 rfl (Zih _) ?_
 refine Z0<|Z2<|Zg (Z14 (s:=[.ints .u8 32 (p0)]) rfl fun b2 hb2=>Zg (Zw fun b3 hb3=>Z8 rfl<|Z1<|Z0<|oH h fun y5 ey5 h=>Z2<|Z6 _ (Z90 rfl .no .no .no (by simp) (by decide))<|Z6 _ (Z0m rfl (fun w hw=>Zg6 ey5 (hG.at hw (by simp)) ((Z1z (s:=[.ints .u8 32 (p0)]) (N:=32) (k:=.u8) (base:=0) (lo:=0) (hi:=32) (mz:=32) (.there .here) rfl (by decide)) w hw)))<|Zg (Zw fun b6 hb6=>Zg (Zs (q:=[.ints .u8 64 (y5)]) rfl rfl rfl rfl rfl .here<|Z1<|Z0<|cH h fun c8 h=>bH h fun z9 ez9 h=>oH h fun y10 ey10 h=>Zu<|Z7 _ (Z90 rfl .no (.yes rfl) .no (by simp) (by decide))<|Z7 _ (Zpg rfl (Shp.blk (lo:=0) (hi:=32) (mz:=64) (by decide) (by simp [Zy])) (by decide) c8)<|Z7 _ (Z90 rfl (.yes rfl) .no .no (by simp) (by decide))<|Zn _ (az (fun z=>agg [.ints .u8 32 z]) ez9 (Zvh rfl (Z1z (s:=[.ints .u8 64 (y5)]) (N:=64) (k:=.u8) (base:=0) (lo:=0) (hi:=32) (mz:=64) .here rfl (by decide)) (by decide) c8))<|Z7 _ (Z1a rfl (Zem ey10))<|Z2h rfl (Zs (q:=[.ints .u8 32 (y10)]) rfl rfl rfl rfl rfl (.there .here)<|Z7 _ (Z19 rfl)<|Z03<|Zk ?_)))))
 revert h; refine Zz fun h=>?_
 subst h
 exact ⟨_,_,(.cons (.agg rfl (.there .here) rfl) (.cons (.tmp rfl) .nil)),(.one .here .nil),⟨_,rfl,⟨(.slice (some (Z22 b6 0 32 64 1)) (64-32) (64-32)),[ck b6 101 [.ints .u8 64 (y5)]],rfl,rfl,(Zjh (s:=[.ints .u8 64 (y5)]) (N:=64) (k:=.u8) (base:=0) (lo:=32) (hi:=64) (mz:=64) rfl (by decide))⟩⟩⟩
def Z74 (p0:List Int) (k214:(List Int)→OL) (k333:(Int)→(List Int)→OL) (i331:Int) (a332:List Int):OL :=
 br ((decide (i331<32))) (
 jn (fun (a377:List Int)=>bnd (IntKind.wrap .i64 (i331+1)) fun z420 =>
 k333 z420 a377) fun k378=>chk (inB i331 32) <|
 bnd (p0.getD (i331).toNat 0) fun z381 =>
 jn (fun (i386:Int)=>bnd (IntKind.wrap .i64 (8*i331)) fun z392 =>
 bnd (IntKind.wrap .i64 (Int.tdiv z392 51)) fun z393 =>
 bnd (IntKind.wrap .i64 (8*i331)) fun z394 =>
 bnd (Int.tmod z394 51) fun z395 =>
 chk (inB z393 5) <|
 bnd (IntKind.wrap .u64 i386) fun z398 =>
 chk (decide (0≤z395)) <|
 bnd (Zq .u64 z398 z395) fun z400 =>
 bnd (Z4 .and .u64 z400 2251799813685247) fun z401 =>
 bnd (a332.getD (z393).toNat 0) fun z402 =>
 bnd (Z4 .or .u64 z402 z401) fun z403 =>
 chk (inB z393 5) <|
 bnd (Z4h a332 (z393).toNat z403) fun l405 =>
 br (((decide (z395>43))&&(decide (z393<4)))) (
 bnd (IntKind.wrap .i64 (z393+1)) fun z409 =>
 chk (inB z409 5) <|
 bnd (IntKind.wrap .u64 i386) fun z411 =>
 bnd (IntKind.wrap .i64 (51-z395)) fun z412 =>
 chk (decide (0≤z412)) <|
 bnd (Zh .u64 z411 z412) fun z414 =>
 bnd (l405.getD (z409).toNat 0) fun z415 =>
 bnd (Z4 .or .u64 z415 z414) fun z416 =>
 chk (inB z409 5) <|
 bnd (Z4h l405 (z409).toNat z416) fun l418 =>
 k378 l418
 ) (
 k378 l405
 )) fun k387=>br ((i331==31)) (
 bnd (Z4 .and .u8 z381 127) fun z390 =>
 k387 z390
 ) (
 k387 z381
 )
 ) (
 k214 a332
 )
def Z2w (p0:List Int) (k214:(List Int)→OL):Nat→(Int)→(List Int)→OL
  | 0,_,_=>none
  | n+1,i331,a332=>Z74 p0 k214 (Z2w p0 k214 n) i331 a332
def Z26 (p0:List Int):OL :=
 jn (fun (a213:List Int)=>opt (Z0v a213) fun y422 =>
 some y422) fun k214=>Z2w p0 k214 big 0 (List.replicate 5 0)
theorem Z44 {W:World} {r:(List Int)} {p0:List Int} (h:Z26 p0=some r)  :
    Calls Tryd.prog 33 [agg [.ints .u8 32 (p0)]].toArray W (Z56 W (agg [.ints .u64 5 (r)])):=by
 unfold Z26 at h
 refine Zd mo ok33 rfl ?_
 refine Z0<|Z2<|Zg (Z14 (s:=[.ints .u8 32 (p0)]) rfl fun b2 hb2=>Zg (Zw fun b3 hb3=>Z1<|Z0<|Z2<|Zg (Zw fun b5 hb5=>Z1<|Z0<|Z0<|Z2<|Z6 _ (Z02 (p:=[.ints .u8 32 (p0)]) rfl (.there (.there .here)) rfl)<|Z8 rfl<|Z1<|jH h fun k214 qk214 h=>Zo (G:=fun t m=>∃ (a213:List Int),k214 a213=some r∧Fit [(2,.pointer (some ⟨b3,0,none⟩)),(3,.pointer (some ⟨b5,0,none⟩))] (ck b5 58 [.ints .u64 5 (a213)]::(ck b3 58 [.ints .u64 5 ((List.replicate 5 0))]::(ck b2 26 [.ints .u8 32 (p0)] :: []))) t m) ?_ ?_)))
 ·refine Zb<|Z01 (fun n334 t m=>∃ (i331:Int) (a332:List Int),Z2w p0 k214 n334 i331 a332=some r∧Fit [(2,.pointer (some ⟨b3,0,none⟩)),(3,.pointer (some ⟨b5,0,none⟩)),(8,agg [.ints .u8 32 (p0)]),(9,.int .i64 (i331))] (ck b5 58 [.ints .u64 5 (a332)]::(ck b3 58 [.ints .u64 5 ((List.replicate 5 0))]::(ck b2 26 [.ints .u8 32 (p0)] :: []))) t m) big ?_ ?_
  ·exact ⟨0,(List.replicate 5 0),h,⟨⟨rfl,rfl,rfl,rfl,trivial⟩,(.one .here (.one .here (.one .here .nil)))⟩⟩
  ·rintro n334 t m ⟨i331,a332,h,hF⟩
   refine Zm hF ?_
   clear hF
   rcases n334 with _ | n334
   · exact Z1c h
   have h:Z74 p0 k214 (Z2w p0 k214 n334) i331 a332=some r:=h
   unfold Z74 at h
   obtain ⟨k333,qk333⟩ : ∃ k,k=Z2w p0 k214 n334:=⟨_,rfl⟩
   try rw [← qk333] at h
   refine Z0<|Z2<|Z6 _ (Za rfl rfl rfl)<|Z1<|Z0<|Z0l h rfl (fun h=>?_) (fun h=>?_)
   ·refine Zl<|Z0<|jH h fun k378 qk378 h=>Zo (G:=fun t m=>∃ (a377:List Int),k378 a377=some r∧Fit [(2,.pointer (some ⟨b3,0,none⟩)),(3,.pointer (some ⟨b5,0,none⟩)),(8,agg [.ints .u8 32 (p0)]),(9,.int .i64 (i331))] (ck b5 58 [.ints .u64 5 (a377)]::(ck b3 58 [.ints .u64 5 ((List.replicate 5 0))]::(ck b2 26 [.ints .u8 32 (p0)] :: []))) t m) ?_ ?_
    ·refine Zb<|Z0<|cH h fun c380 h=>bH h fun z381 ez381 h=>Z2<|Z8 rfl<|Z6 _ (iz ez381 (Zet (len:=32) rfl rfl (Z1w c380)))<|Z8 rfl<|Z8 rfl<|Z1<|Z0<|Z0<|Z2<|Z8 rfl<|Z6 _ (Za rfl rfl rfl)<|Z1<|jH h fun k387 qk387 h=>Zo (G:=fun t m=>∃ (i386:Int),k387 i386=some r∧Fit [(2,.pointer (some ⟨b3,0,none⟩)),(3,.pointer (some ⟨b5,0,none⟩)),(4,.int .i64 (i331)),(5,.int .u8 (i386)),(8,agg [.ints .u8 32 (p0)]),(9,.int .i64 (i331))] (ck b5 58 [.ints .u64 5 (a332)]::(ck b3 58 [.ints .u64 5 ((List.replicate 5 0))]::(ck b2 26 [.ints .u8 32 (p0)] :: []))) t m) ?_ ?_
     ·refine Z0l h rfl (fun h=>?_) (fun h=>?_)
      ·exact bH h fun z390 ez390 h=>Z2<|Z8 rfl<|Z6 _ (iz ez390 (Za rfl rfl rfl))<|Z8 rfl<|Z1<|⟨z390,h,⟨⟨rfl,rfl,rfl,rfl,rfl,rfl,trivial⟩,(.one .here (.one .here (.one .here .nil)))⟩⟩
      ·exact Zl<|⟨z381,h,⟨⟨rfl,rfl,rfl,rfl,rfl,rfl,trivial⟩,(.one .here (.one .here (.one .here .nil)))⟩⟩
     ·rintro t m ⟨i386,h,hF⟩
      refine Zm hF ?_
      clear hF
      subst qk387
      refine Z0<|bH h fun z392 ez392 h=>bH h fun z393 ez393 h=>bH h fun z394 ez394 h=>bH h fun z395 ez395 h=>Z2<|Z8 rfl<|Z6 _ (iz ez392 (Za rfl rfl rfl))<|Z6 _ (iz ez393 (Zjn rfl rfl (by decide)))<|Z8 rfl<|Z6 _ (iz ez394 (Za rfl rfl rfl))<|Z6 _ (iz ez395 (Zjo rfl rfl (by decide)))<|Z8 rfl<|Z8 rfl<|Z1<|Z0<|cH h fun c397 h=>bH h fun z398 ez398 h=>cH h fun c399 h=>bH h fun z400 ez400 h=>bH h fun z401 ez401 h=>bH h fun z402 ez402 h=>bH h fun z403 ez403 h=>cH h fun c404 h=>bH h fun l405 el405 h=>Zu<|Z7 _ (Z19 rfl)<|Z7 _ (Z3b rfl rfl (Z1w c397))<|Z7 _ (Z19 rfl)<|Z7 _ (iz ez398 (Z8n rfl))<|Z7 _ (Z19 rfl)<|Z7 _ (iz ez400 (Zi7 rfl rfl (of_decide_eq_true c399)))<|Z7 _ (iz ez401 (Za rfl rfl rfl))<|Zn _ (iz ez402 (Z8v (base:=0) rfl .here rfl (Z18 c397)))<|Z7 _ (iz ez403 (Za rfl rfl rfl))<|Z7 _ (Z3b rfl rfl (Z1w c404))<|Z2h rfl (Z5h (q:=[.ints .u64 5 (l405)]) (base:=0) el405 rfl rfl rfl (Z18 c404) rfl .here<|Z03<|Z0<|Z2<|Z8 rfl<|Z6 _ (Za rfl rfl rfl)<|Z8 rfl<|Zao rfl rfl rfl (fun hg1=>Z45 rfl _ (Z19 rfl) (Z45 rfl _ (Za rfl rfl rfl) (Z3k))) (fun hg1=>rfl) rfl<|Z1<|Z0l h rfl (fun h=>?_) (fun h=>?_))
      ·exact bH h fun z409 ez409 h=>cH h fun c410 h=>bH h fun z411 ez411 h=>bH h fun z412 ez412 h=>cH h fun c413 h=>bH h fun z414 ez414 h=>bH h fun z415 ez415 h=>bH h fun z416 ez416 h=>cH h fun c417 h=>bH h fun l418 el418 h=>Zu<|Z7 _ (Z19 rfl)<|Z7 _ (iz ez409 (Za rfl rfl rfl))<|Z7 _ (Z3b rfl rfl (Z1w c410))<|Z7 _ (Z19 rfl)<|Z7 _ (iz ez411 (Z8n rfl))<|Z7 _ (Z19 rfl)<|Z7 _ (iz ez412 (Za rfl rfl rfl))<|Z7 _ (iz ez414 (Z76 rfl rfl (of_decide_eq_true c413)))<|Zn _ (iz ez415 (Z8v (base:=0) rfl .here rfl (Z18 c410)))<|Z7 _ (iz ez416 (Za rfl rfl rfl))<|Z7 _ (Z3b rfl rfl (Z1w c417))<|Z2h rfl (Z5h (q:=[.ints .u64 5 (l418)]) (base:=0) el418 rfl rfl rfl (Z18 c417) rfl .here<|Z03<|⟨l418,h,⟨⟨rfl,rfl,rfl,rfl,trivial⟩,(.one .here (.one .here (.one .here .nil)))⟩⟩)
      ·exact Zl<|⟨l405,h,⟨⟨rfl,rfl,rfl,rfl,trivial⟩,(.one .here (.one .here (.one .here .nil)))⟩⟩
    ·rintro t m ⟨a377,h,hF⟩
     refine Zm hF ?_
     clear hF
     subst qk378
     refine bH h fun z420 ez420 h=>Z2<|Z6 _ (iz ez420 (Za rfl rfl rfl))<|Z8 rfl<|Z1 ?_
     rw [qk333] at h
     exact ⟨n334,Nat.lt_succ_self _,z420,a377,h,⟨⟨rfl,rfl,rfl,rfl,trivial⟩,(.one .here (.one .here (.one .here .nil)))⟩⟩
   ·exact Z0b _ rfl<|⟨a332,h,⟨⟨rfl,rfl,trivial⟩,(.one .here (.one .here (.one .here .nil)))⟩⟩
 ·rintro t m ⟨a213,h,hF⟩
  refine Zm hF ?_
  clear hF
  subst qk214
  refine Z0<|oH h fun y422 ey422 h=>Z2<|Z6 _ (Z02 (p:=[.ints .u64 5 (a213)]) rfl .here rfl)<|Z6 _ (Z1a rfl (Z0e ey422))<|Zg (Zs (q:=[.ints .u64 5 (y422)]) rfl rfl rfl rfl rfl (.there .here)<|Z1<|Zk ?_)
  revert h; refine Zz fun h=>?_
  subst h
  exact ⟨_,(.cons (.agg rfl (.there .here) rfl) .nil),rfl⟩
def Z6m:OL :=
 bnd (([1,0,0,0,0]:List Int)) fun z4 =>
 some z4
theorem Z73 {W:World} {r:(List Int)} (h:Z6m=some r)  :
    Calls Tryd.prog 35 [].toArray W (Z56 W (agg [.ints .u64 5 (r)])):=by
 unfold Z6m at h
 refine Zd mo ok35 rfl ?_
 refine Z0<|Z2<|Zg (Zw fun b2 hb2=>Z1<|Z0<|bH h fun z4 ez4 h=>Z2<|Z6 _ (az (fun z=>agg [.ints .u64 5 z]) ez4 (Zdx (.one rfl rfl rfl BdR.nil)))<|Zg (Zs (q:=[.ints .u64 5 (z4)]) rfl rfl rfl rfl rfl .here<|Z1<|Zk ?_))
 revert h; refine Zz fun h=>?_
 subst h
 exact ⟨_,(.cons (.agg rfl .here rfl) .nil),rfl⟩
def Z9x (k41:(List Int)→Option (Z9)) (k60:(Int)→(List Int)→Option (Z9)) (i58:Int) (a59:List Int):Option (Z9) :=
 br ((decide (i58<31))) (
 bnd (IntKind.wrap .i64 (i58+1)) fun z66 =>
 chk (inB z66 32) <|
 bnd (Z4h a59 (z66).toNat 102) fun l68 =>
 bnd (IntKind.wrap .i64 (i58+1)) fun z70 =>
 k60 z70 l68
 ) (
 k41 a59
 )
def Z4z (k41:(List Int)→Option (Z9)):Nat→(Int)→(List Int)→Option (Z9)
  | 0,_,_=>none
  | n+1,i58,a59=>Z9x k41 (Z4z k41 n) i58 a59
def Z7r:Option (Z9) :=
 bnd (([26,213,37,143,96,45,86,201,178,167,37,149,96,199,44,105,92,220,214,253,49,226,164,192,254,83,110,205,211,54,105,33]:List Int)) fun z4 =>
 opt (Z26 z4) fun y5 =>
 bnd (([88,0,0,0,0,0,0,0,0,0,0,0,0,0,0,0,0,0,0,0,0,0,0,0,0,0,0,0,0,0,0,0]:List Int)) fun z8 =>
 jn (fun (a40:List Int)=>opt (Z26 a40) fun y72 =>
 opt (Z6m) fun y75 =>
 opt (Z09 y5 y72) fun y76 =>
 some (⟨y5,y72,y75,y76⟩:Z9)) fun k41=>Z4z k41 big 0 z8
theorem Zb2 {W:World} {r:Z9} (h:Z7r=some r)  :
    Calls Tryd.prog 52 [].toArray W (Z56 W (agg [.ints .u64 5 (r.gX),.ints .u64 5 (r.gY),.ints .u64 5 (r.gZ),.ints .u64 5 (r.gT)])):=by
 unfold Z7r at h
 refine Zd mo ok52 rfl ?_
 refine Z0<|Z2<|Zg (Zw fun b2 hb2=>Z1<|Z0<|bH h fun z4 ez4 h=>oH h fun y5 ey5 h=>Z2<|Z6 _ (az (fun z=>agg [.ints .u8 32 z]) ez4 (Zdx (.one rfl rfl rfl (.one rfl rfl rfl (.one rfl rfl rfl (.one rfl rfl rfl (.one rfl rfl rfl (.one rfl rfl rfl (.one rfl rfl rfl (.one rfl rfl rfl (.one rfl rfl rfl (.one rfl rfl rfl (.one rfl rfl rfl (.one rfl rfl rfl (.one rfl rfl rfl (.one rfl rfl rfl (.one rfl rfl rfl (.one rfl rfl rfl (.one rfl rfl rfl (.one rfl rfl rfl (.one rfl rfl rfl (.one rfl rfl rfl (.one rfl rfl rfl (.one rfl rfl rfl (.one rfl rfl rfl (.one rfl rfl rfl (.one rfl rfl rfl (.one rfl rfl rfl (.one rfl rfl rfl (.one rfl rfl rfl (.one rfl rfl rfl (.one rfl rfl rfl (.one rfl rfl rfl (.one rfl rfl rfl BdR.nil))))))))))))))))))))))))))))))))))<|Z6 _ (Z1a rfl (Z44 ey5))<|Zg (Zw fun b6 hb6=>Zg (Zs (q:=[.ints .u64 5 (y5)]) rfl rfl rfl rfl rfl .here<|Z1<|Z0<|bH h fun z8 ez8 h=>Z2<|Z6 _ (az (fun z=>agg [.ints .u8 32 z]) ez8 (Zdx (.one rfl rfl rfl BdR.nil)))<|Zg (Zw fun b9 hb9=>Zg (Zs (q:=[.ints .u8 32 (z8)]) rfl rfl rfl rfl rfl .here<|Z1<|Z0<|Z0<|Z2<|Z8 rfl<|Z1<|jH h fun k41 qk41 h=>Zo (G:=fun t m=>∃ (a40:List Int),k41 a40=some r∧Fit [(0,.pointer (some ⟨b2,0,none⟩)),(1,.pointer (some ⟨b6,0,none⟩)),(2,.pointer (some ⟨b9,0,none⟩))] (ck b9 26 [.ints .u8 32 (a40)]::(ck b6 58 [.ints .u64 5 (y5)]::(ck b2 60 [.ints .u64 5 ((List.replicate 5 0)),.ints .u64 5 ((List.replicate 5 0)),.ints .u64 5 ((List.replicate 5 0)),.ints .u64 5 ((List.replicate 5 0))] :: []))) t m) ?_ ?_)))))
 ·refine Zb<|Z01 (fun n61 t m=>∃ (i58:Int) (a59:List Int),Z4z k41 n61 i58 a59=some r∧Fit [(0,.pointer (some ⟨b2,0,none⟩)),(1,.pointer (some ⟨b6,0,none⟩)),(2,.pointer (some ⟨b9,0,none⟩)),(8,.int .i64 (i58))] (ck b9 26 [.ints .u8 32 (a59)]::(ck b6 58 [.ints .u64 5 (y5)]::(ck b2 60 [.ints .u64 5 ((List.replicate 5 0)),.ints .u64 5 ((List.replicate 5 0)),.ints .u64 5 ((List.replicate 5 0)),.ints .u64 5 ((List.replicate 5 0))] :: []))) t m) big ?_ ?_
  ·exact ⟨0,z8,h,⟨⟨rfl,rfl,rfl,rfl,trivial⟩,(.one .here (.one .here (.one .here .nil)))⟩⟩
  ·rintro n61 t m ⟨i58,a59,h,hF⟩
   refine Zm hF ?_
   clear hF
   rcases n61 with _ | n61
   · exact Z1c h
   have h:Z9x k41 (Z4z k41 n61) i58 a59=some r:=h
   unfold Z9x at h
   obtain ⟨k60,qk60⟩ : ∃ k,k=Z4z k41 n61:=⟨_,rfl⟩
   try rw [← qk60] at h
   refine Z0<|Z2<|Z6 _ (Za rfl rfl rfl)<|Z1<|Z0<|Z0l h rfl (fun h=>?_) (fun h=>?_)
   ·refine Zl<|Z0<|Zb<|Z0<|Z2<|Z8 rfl<|Z8 rfl<|Z1<|bH h fun z66 ez66 h=>cH h fun c67 h=>bH h fun l68 el68 h=>Z2<|Z8 rfl<|Z6 _ (iz ez66 (Za rfl rfl rfl))<|Z6 _ (Z3b rfl rfl (Z1w c67))<|Zg (Z5h (q:=[.ints .u8 32 (l68)]) (base:=0) el68 rfl rfl rfl (Z18 c67) rfl .here<|Z1<|bH h fun z70 ez70 h=>Z2<|Z6 _ (iz ez70 (Za rfl rfl rfl))<|Z8 rfl<|Z1 ?_)
    rw [qk60] at h
    exact ⟨n61,Nat.lt_succ_self _,z70,l68,h,⟨⟨rfl,rfl,rfl,rfl,trivial⟩,(.one .here (.one .here (.one .here .nil)))⟩⟩
   ·exact Z0b _ rfl<|⟨a59,h,⟨⟨rfl,rfl,rfl,trivial⟩,(.one .here (.one .here (.one .here .nil)))⟩⟩
 ·rintro t m ⟨a40,h,hF⟩
  refine Zm hF ?_
  clear hF
  subst qk41
  refine Z0<|oH h fun y72 ey72 h=>Z2<|Z6 _ (Z02 (p:=[.ints .u8 32 (a40)]) rfl .here rfl)<|Z6 _ (Z1a rfl (Z44 ey72))<|Zg (Zw fun b73 hb73=>Zg (Zs (q:=[.ints .u64 5 (y72)]) rfl rfl rfl rfl rfl .here<|Z1<|Z0<|oH h fun y75 ey75 h=>oH h fun y76 ey76 h=>Zu<|Z7 _ (Z1a rfl (Z73 ey75))<|Zn _ (Z02 (p:=[.ints .u64 5 (y5)]) rfl (.there (.there .here)) rfl)<|Zn _ (Z02 (p:=[.ints .u64 5 (y72)]) rfl .here rfl)<|Zn _ (Z02 (p:=[.ints .u64 5 (y5)]) rfl (.there (.there .here)) rfl)<|Zn _ (Z02 (p:=[.ints .u64 5 (y72)]) rfl .here rfl)<|Z7 _ (Z1a rfl (Zx ey76))<|Z7 _ (Zdx (q:=[.ints .u64 5 (y5),.ints .u64 5 (y72),.ints .u64 5 (y75),.ints .u64 5 (y76)]) (.agg rfl rfl rfl (.agg rfl rfl rfl (.agg rfl rfl rfl (.agg rfl rfl rfl BdR.nil)))))<|Z2h rfl (Zs (q:=[.ints .u64 5 (y5),.ints .u64 5 (y72),.ints .u64 5 (y75),.ints .u64 5 (y76)]) rfl rfl rfl rfl rfl (.there (.there (.there .here)))<|Z03<|Zk ?_)))
  revert h; refine Zz fun h=>?_
  subst h
  exact ⟨_,(.cons (.agg rfl (.there (.there (.there .here))) rfl) .nil),rfl⟩
def Z7p:Option (Z9) :=
 opt (Z6m) fun y4 =>
 opt (Z6m) fun y5 =>
 some (⟨(List.replicate 5 0),y4,y5,(List.replicate 5 0)⟩:Z9)
theorem Z9a {W:World} {r:Z9} (h:Z7p=some r)  :
    Calls Tryd.prog 54 [].toArray W (Z56 W (agg [.ints .u64 5 (r.gX),.ints .u64 5 (r.gY),.ints .u64 5 (r.gZ),.ints .u64 5 (r.gT)])):=by
 unfold Z7p at h
 refine Zd mo ok54 rfl ?_
 refine Z0<|Z2<|Zg (Zw fun b2 hb2=>Z1<|Z0<|oH h fun y4 ey4 h=>oH h fun y5 ey5 h=>Z2<|Z6 _ (Z1a rfl (Z73 ey4))<|Z6 _ (Z1a rfl (Z73 ey5))<|Z6 _ (Zdx (q:=[.ints .u64 5 ((List.replicate 5 0)),.ints .u64 5 (y4),.ints .u64 5 (y5),.ints .u64 5 ((List.replicate 5 0))]) (.agg rfl rfl rfl (.agg rfl rfl rfl BdR.nil)))<|Zg (Zs (q:=[.ints .u64 5 ((List.replicate 5 0)),.ints .u64 5 (y4),.ints .u64 5 (y5),.ints .u64 5 ((List.replicate 5 0))]) rfl rfl rfl rfl rfl .here<|Z1<|Zk ?_))
 revert h; refine Zz fun h=>?_
 subst h
 exact ⟨_,(.cons (.agg rfl .here rfl) .nil),rfl⟩
def Zbs (y7:(List Int)) (k50:(List Int)→OL) (k76:(Int)→(List Int)→OL) (i74:Int) (a75:List Int):OL :=
 br ((decide (i74<5))) (
 chk (inB i74 5) <|
 chk (inB i74 5) <|
 bnd (a75.getD (i74).toNat 0) fun z84 =>
 bnd (y7.getD (i74).toNat 0) fun z85 =>
 bnd (IntKind.wrap .u64 (z84+z85)) fun z86 =>
 chk (inB i74 5) <|
 bnd (Z4h a75 (i74).toNat z86) fun l88 =>
 bnd (IntKind.wrap .i64 (i74+1)) fun z90 =>
 k76 z90 l88
 ) (
 k50 a75
 )
def Z6n (y7:(List Int)) (k50:(List Int)→OL):Nat→(Int)→(List Int)→OL
  | 0,_,_=>none
  | n+1,i74,a75=>Zbs y7 k50 (Z6n y7 k50 n) i74 a75
def Z1v (p0:List Int) (p1:List Int):OL :=
 opt (Z40 p0) fun y6 =>
 opt (Z40 p1) fun y7 =>
 jn (fun (a49:List Int)=>opt (Z0v a49) fun y92 =>
 some y92) fun k50=>Z6n y7 k50 big 0 y6
theorem Z1o {W:World} {r:(List Int)} {p0:List Int} {p1:List Int} (h:Z1v p0 p1=some r)  :
    Calls Tryd.prog 38 [agg [.ints .u64 5 (p0)],agg [.ints .u64 5 (p1)]].toArray W (Z56 W (agg [.ints .u64 5 (r)])):=by
 unfold Z1v at h
 refine Zd mo ok38 rfl ?_
 refine Z0<|Z2<|Zg (Z14 (s:=[.ints .u64 5 (p0)]) rfl fun b2 hb2=>Zg (Z14 (s:=[.ints .u64 5 (p1)]) rfl fun b3 hb3=>Zg (Zw fun b4 hb4=>Z1<|Z0<|oH h fun y6 ey6 h=>oH h fun y7 ey7 h=>Zu<|Zn _ (Z02 (p:=[.ints .u64 5 (p0)]) rfl (.there (.there .here)) rfl)<|Z7 _ (Z1a rfl (Z3l ey6))<|Zn _ (Z02 (p:=[.ints .u64 5 (p1)]) rfl (.there .here) rfl)<|Z7 _ (Z1a rfl (Z3l ey7))<|Z2h rfl (Zs (q:=[.ints .u64 5 (y6)]) rfl rfl rfl rfl rfl (.there (.there .here))<|Zsl rfl (Zs (q:=[.ints .u64 5 (y7)]) rfl rfl rfl rfl rfl (.there .here)<|Z03<|Z0<|Z0<|Z2<|Z8 rfl<|Z1<|jH h fun k50 qk50 h=>Zo (G:=fun t m=>∃ (a49:List Int),k50 a49=some r∧Fit [(2,.pointer (some ⟨b2,0,none⟩)),(4,.pointer (some ⟨b4,0,none⟩))] (ck b4 58 [.ints .u64 5 ((List.replicate 5 0))]::(ck b3 58 [.ints .u64 5 (y7)]::(ck b2 58 [.ints .u64 5 (a49)] :: []))) t m) ?_ ?_)))))
 ·refine Zb<|Z01 (fun n77 t m=>∃ (i74:Int) (a75:List Int),Z6n y7 k50 n77 i74 a75=some r∧Fit [(2,.pointer (some ⟨b2,0,none⟩)),(3,.pointer (some ⟨b3,0,none⟩)),(4,.pointer (some ⟨b4,0,none⟩)),(10,.int .i64 (i74))] (ck b4 58 [.ints .u64 5 ((List.replicate 5 0))]::(ck b3 58 [.ints .u64 5 (y7)]::(ck b2 58 [.ints .u64 5 (a75)] :: []))) t m) big ?_ ?_
  ·exact ⟨0,y6,h,⟨⟨rfl,rfl,rfl,rfl,trivial⟩,(.one .here (.one .here (.one .here .nil)))⟩⟩
  ·rintro n77 t m ⟨i74,a75,h,hF⟩
   refine Zm hF ?_
   clear hF
   rcases n77 with _ | n77
   · exact Z1c h
   have h:Zbs y7 k50 (Z6n y7 k50 n77) i74 a75=some r:=h
   unfold Zbs at h
   obtain ⟨k76,qk76⟩ : ∃ k,k=Z6n y7 k50 n77:=⟨_,rfl⟩
   try rw [← qk76] at h
   refine Z0<|Z2<|Z6 _ (Za rfl rfl rfl)<|Z1<|Z0<|Z0l h rfl (fun h=>?_) (fun h=>?_)
   ·refine Zl<|Z0<|Zb<|Z0<|Z2<|Z8 rfl<|Z8 rfl<|Z1<|cH h fun c82 h=>cH h fun c83 h=>bH h fun z84 ez84 h=>bH h fun z85 ez85 h=>bH h fun z86 ez86 h=>cH h fun c87 h=>bH h fun l88 el88 h=>Zu<|Z7 _ (Z19 rfl)<|Z7 _ (Z3b rfl rfl (Z1w c82))<|Z7 _ (Z19 rfl)<|Z7 _ (Z3b rfl rfl (Z1w c83))<|Zn _ (iz ez84 (Z8v (base:=0) rfl (.there (.there .here)) rfl (Z18 c82)))<|Zn _ (iz ez85 (Z8v (base:=0) rfl (.there .here) rfl (Z18 c83)))<|Z7 _ (iz ez86 (Za rfl rfl rfl))<|Z7 _ (Z3b rfl rfl (Z1w c87))<|Z2h rfl (Z5h (q:=[.ints .u64 5 (l88)]) (base:=0) el88 rfl rfl rfl (Z18 c87) rfl (.there (.there .here))<|Z03<|bH h fun z90 ez90 h=>Z2<|Z6 _ (iz ez90 (Za rfl rfl rfl))<|Z8 rfl<|Z1 ?_)
    rw [qk76] at h
    exact ⟨n77,Nat.lt_succ_self _,z90,l88,h,⟨⟨rfl,rfl,rfl,rfl,trivial⟩,(.one .here (.one .here (.one .here .nil)))⟩⟩
   ·exact Z0b _ rfl<|⟨a75,h,⟨⟨rfl,rfl,trivial⟩,(.one .here (.one .here (.one .here .nil)))⟩⟩
 ·rintro t m ⟨a49,h,hF⟩
  refine Zm hF ?_
  clear hF
  subst qk50
  refine Z0<|oH h fun y92 ey92 h=>Z2<|Z6 _ (Z02 (p:=[.ints .u64 5 (a49)]) rfl (.there (.there .here)) rfl)<|Z6 _ (Z1a rfl (Z0e ey92))<|Zg (Zs (q:=[.ints .u64 5 (y92)]) rfl rfl rfl rfl rfl .here<|Z1<|Zk ?_)
  revert h; refine Zz fun h=>?_
  subst h
  exact ⟨_,(.cons (.agg rfl .here rfl) .nil),rfl⟩
def Zbt (y5:(List Int)) (k45:(List Int)→OL) (k66:(Int)→(List Int)→OL) (i64:Int) (a65:List Int):OL :=
 br ((decide (i64<5))) (
 chk (inB i64 5) <|
 bnd (y5.getD (i64).toNat 0) fun z72 =>
 bnd (IntKind.wrap .u64 (4503599627370494-z72)) fun z73 =>
 chk (inB i64 5) <|
 bnd (Z4h a65 (i64).toNat z73) fun l75 =>
 bnd (IntKind.wrap .i64 (i64+1)) fun z77 =>
 k66 z77 l75
 ) (
 k45 a65
 )
def Z6q (y5:(List Int)) (k45:(List Int)→OL):Nat→(Int)→(List Int)→OL
  | 0,_,_=>none
  | n+1,i64,a65=>Zbt y5 k45 (Z6q y5 k45 n) i64 a65
def Z4a (p0:List Int):OL :=
 opt (Z0v p0) fun y5 =>
 bnd (y5.getD 0 0) fun z7 =>
 bnd (IntKind.wrap .u64 (4503599627370458-z7)) fun z8 =>
 bnd (([z8,0,0,0,0]:List Int)) fun z9 =>
 jn (fun (a44:List Int)=>opt (Z0v a44) fun y79 =>
 some y79) fun k45=>Z6q y5 k45 big 1 z9
theorem Z51 {W:World} {r:(List Int)} {p0:List Int} (h:Z4a p0=some r)  :
    Calls Tryd.prog 42 [agg [.ints .u64 5 (p0)]].toArray W (Z56 W (agg [.ints .u64 5 (r)])):=by
 unfold Z4a at h
 refine Zd mo ok42 rfl ?_
 refine Z0<|Z2<|Zg (Z14 (s:=[.ints .u64 5 (p0)]) rfl fun b2 hb2=>Zg (Zw fun b3 hb3=>Z1<|Z0<|oH h fun y5 ey5 h=>Z2<|Z6 _ (Z02 (p:=[.ints .u64 5 (p0)]) rfl (.there .here) rfl)<|Z6 _ (Z1a rfl (Z0e ey5))<|Zg (Zs (q:=[.ints .u64 5 (y5)]) rfl rfl rfl rfl rfl (.there .here)<|Z1<|Z0<|bH h fun z7 ez7 h=>bH h fun z8 ez8 h=>bH h fun z9 ez9 h=>Z2<|Z6 _ (Z3b rfl rfl (by decide))<|Z6 _ (iz ez7 (Z2k rfl (.there .here) rfl))<|Z6 _ (iz ez8 (Za rfl rfl rfl))<|Z6 _ (az (fun z=>agg [.ints .u64 5 z]) ez9 (Zdx (.one rfl rfl rfl BdR.nil)))<|Zg (Zw fun b10 hb10=>Zg (Zs (q:=[.ints .u64 5 (z9)]) rfl rfl rfl rfl rfl .here<|Z1<|Z0<|Z0<|Z2<|Z8 rfl<|Z1<|jH h fun k45 qk45 h=>Zo (G:=fun t m=>∃ (a44:List Int),k45 a44=some r∧Fit [(2,.pointer (some ⟨b3,0,none⟩)),(3,.pointer (some ⟨b10,0,none⟩))] (ck b10 58 [.ints .u64 5 (a44)]::(ck b3 58 [.ints .u64 5 ((List.replicate 5 0))]::(ck b2 58 [.ints .u64 5 (y5)] :: []))) t m) ?_ ?_)))))
 ·refine Zb<|Z01 (fun n67 t m=>∃ (i64:Int) (a65:List Int),Z6q y5 k45 n67 i64 a65=some r∧Fit [(1,.pointer (some ⟨b2,0,none⟩)),(2,.pointer (some ⟨b3,0,none⟩)),(3,.pointer (some ⟨b10,0,none⟩)),(4,.int .i64 (i64))] (ck b10 58 [.ints .u64 5 (a65)]::(ck b3 58 [.ints .u64 5 ((List.replicate 5 0))]::(ck b2 58 [.ints .u64 5 (y5)] :: []))) t m) big ?_ ?_
  ·exact ⟨1,z9,h,⟨⟨rfl,rfl,rfl,rfl,trivial⟩,(.one .here (.one .here (.one .here .nil)))⟩⟩
  ·rintro n67 t m ⟨i64,a65,h,hF⟩
   refine Zm hF ?_
   clear hF
   rcases n67 with _ | n67
   · exact Z1c h
   have h:Zbt y5 k45 (Z6q y5 k45 n67) i64 a65=some r:=h
   unfold Zbt at h
   obtain ⟨k66,qk66⟩ : ∃ k,k=Z6q y5 k45 n67:=⟨_,rfl⟩
   try rw [← qk66] at h
   refine Z0<|Z0<|Z2<|Z8 rfl<|Z6 _ (Za rfl rfl rfl)<|Z1<|Z0l h rfl (fun h=>?_) (fun h=>?_)
   ·refine Zl<|Z0<|Zb<|cH h fun c71 h=>bH h fun z72 ez72 h=>bH h fun z73 ez73 h=>cH h fun c74 h=>bH h fun l75 el75 h=>Z2<|Z8 rfl<|Z8 rfl<|Z6 _ (Z3b rfl rfl (Z1w c71))<|Z6 _ (iz ez72 (Z8v (base:=0) rfl (.there (.there .here)) rfl (Z18 c71)))<|Z6 _ (iz ez73 (Za rfl rfl rfl))<|Z6 _ (Z3b rfl rfl (Z1w c74))<|Zg (Z5h (q:=[.ints .u64 5 (l75)]) (base:=0) el75 rfl rfl rfl (Z18 c74) rfl .here<|Z1<|bH h fun z77 ez77 h=>Z2<|Z8 rfl<|Z6 _ (iz ez77 (Za rfl rfl rfl))<|Z8 rfl<|Z1 ?_)
    rw [qk66] at h
    exact ⟨n67,Nat.lt_succ_self _,z77,l75,h,⟨⟨rfl,rfl,rfl,rfl,trivial⟩,(.one .here (.one .here (.one .here .nil)))⟩⟩
   ·exact Z0b _ rfl<|⟨a65,h,⟨⟨rfl,rfl,trivial⟩,(.one .here (.one .here (.one .here .nil)))⟩⟩
 ·rintro t m ⟨a44,h,hF⟩
  refine Zm hF ?_
  clear hF
  subst qk45
  refine Z0<|oH h fun y79 ey79 h=>Z2<|Z6 _ (Z02 (p:=[.ints .u64 5 (a44)]) rfl .here rfl)<|Z6 _ (Z1a rfl (Z0e ey79))<|Zg (Zs (q:=[.ints .u64 5 (y79)]) rfl rfl rfl rfl rfl (.there .here)<|Z1<|Zk ?_)
  revert h; refine Zz fun h=>?_
  subst h
  exact ⟨_,(.cons (.agg rfl (.there .here) rfl) .nil),rfl⟩
def Z3t (p0:List Int) (p1:List Int):OL :=
 opt (Z4a p1) fun y6 =>
 opt (Z1v p0 y6) fun y7 =>
 some y7
theorem Z3z {W:World} {r:(List Int)} {p0:List Int} {p1:List Int} (h:Z3t p0 p1=some r)  :
    Calls Tryd.prog 37 [agg [.ints .u64 5 (p0)],agg [.ints .u64 5 (p1)]].toArray W (Z56 W (agg [.ints .u64 5 (r)])):=by
 unfold Z3t at h
 refine Zd mo ok37 rfl ?_
 refine Z0<|Z2<|Zg (Z14 (s:=[.ints .u64 5 (p0)]) rfl fun b2 hb2=>Zg (Z14 (s:=[.ints .u64 5 (p1)]) rfl fun b3 hb3=>Zg (Zw fun b4 hb4=>Z1<|Z0<|oH h fun y6 ey6 h=>oH h fun y7 ey7 h=>Zu<|Zn _ (Z02 (p:=[.ints .u64 5 (p0)]) rfl (.there (.there .here)) rfl)<|Zn _ (Z02 (p:=[.ints .u64 5 (p1)]) rfl (.there .here) rfl)<|Z7 _ (Z1a rfl (Z51 ey6))<|Z7 _ (Z1a rfl (Z1o ey7))<|Z2h rfl (Zs (q:=[.ints .u64 5 (y7)]) rfl rfl rfl rfl rfl .here<|Z03<|Zk ?_))))
 revert h; refine Zz fun h=>?_
 subst h
 exact ⟨_,(.cons (.agg rfl .here rfl) .nil),rfl⟩
def Z6l (p0:List Int) (p1:List Int) (p2:List Int) (p3:List Int):Option (Z9) :=
 opt (Z09 p0 p1) fun y8 =>
 opt (Z09 p2 p3) fun y9 =>
 opt (Z09 p1 p2) fun y10 =>
 opt (Z09 p0 p3) fun y11 =>
 some (⟨y8,y9,y10,y11⟩:Z9)
theorem Zab {W:World} {r:Z9} {p0:List Int} {p1:List Int} {p2:List Int} {p3:List Int} (h:Z6l p0 p1 p2 p3=some r)  :
    Calls Tryd.prog 87 [agg [.ints .u64 5 (p0)],agg [.ints .u64 5 (p1)],agg [.ints .u64 5 (p2)],agg [.ints .u64 5 (p3)]].toArray W (Z56 W (agg [.ints .u64 5 (r.gX),.ints .u64 5 (r.gY),.ints .u64 5 (r.gZ),.ints .u64 5 (r.gT)])):=by
 unfold Z6l at h
 refine Zd mo ok87 rfl ?_
 refine Z0<|Z2<|Zg (Z14 (s:=[.ints .u64 5 (p0)]) rfl fun b2 hb2=>Zg (Z14 (s:=[.ints .u64 5 (p1)]) rfl fun b3 hb3=>Zg (Z14 (s:=[.ints .u64 5 (p2)]) rfl fun b4 hb4=>Zg (Z14 (s:=[.ints .u64 5 (p3)]) rfl fun b5 hb5=>Zg (Zw fun b6 hb6=>Z1<|Z0<|oH h fun y8 ey8 h=>oH h fun y9 ey9 h=>oH h fun y10 ey10 h=>oH h fun y11 ey11 h=>Zu<|Zn _ (Z02 (p:=[.ints .u64 5 (p0)]) rfl (.there (.there (.there (.there .here)))) rfl)<|Zn _ (Z02 (p:=[.ints .u64 5 (p1)]) rfl (.there (.there (.there .here))) rfl)<|Z7 _ (Z1a rfl (Zx ey8))<|Zn _ (Z02 (p:=[.ints .u64 5 (p2)]) rfl (.there (.there .here)) rfl)<|Zn _ (Z02 (p:=[.ints .u64 5 (p3)]) rfl (.there .here) rfl)<|Z7 _ (Z1a rfl (Zx ey9))<|Zn _ (Z02 (p:=[.ints .u64 5 (p1)]) rfl (.there (.there (.there .here))) rfl)<|Zn _ (Z02 (p:=[.ints .u64 5 (p2)]) rfl (.there (.there .here)) rfl)<|Z7 _ (Z1a rfl (Zx ey10))<|Zn _ (Z02 (p:=[.ints .u64 5 (p0)]) rfl (.there (.there (.there (.there .here)))) rfl)<|Zn _ (Z02 (p:=[.ints .u64 5 (p3)]) rfl (.there .here) rfl)<|Z7 _ (Z1a rfl (Zx ey11))<|Z7 _ (Zdx (q:=[.ints .u64 5 (y8),.ints .u64 5 (y9),.ints .u64 5 (y10),.ints .u64 5 (y11)]) (.agg rfl rfl rfl (.agg rfl rfl rfl (.agg rfl rfl rfl (.agg rfl rfl rfl BdR.nil)))))<|Z2h rfl (Zs (q:=[.ints .u64 5 (y8),.ints .u64 5 (y9),.ints .u64 5 (y10),.ints .u64 5 (y11)]) rfl rfl rfl rfl rfl .here<|Z03<|Zk ?_))))))
 revert h; refine Zz fun h=>?_
 subst h
 exact ⟨_,(.cons (.agg rfl .here rfl) .nil),rfl⟩
def Z72:OL :=
 bnd (([1859910466990425,932731440258426,1072319116312658,1815898335770999,633789495995903]:List Int)) fun z4 =>
 some z4
theorem Zdo {W:World} {r:(List Int)} (h:Z72=some r)  :
    Calls Tryd.prog 88 [].toArray W (Z56 W (agg [.ints .u64 5 (r)])):=by
 unfold Z72 at h
 refine Zd mo ok88 rfl ?_
 refine Z0<|Z2<|Zg (Zw fun b2 hb2=>Z1<|Z0<|bH h fun z4 ez4 h=>Z2<|Z6 _ (az (fun z=>agg [.ints .u64 5 z]) ez4 (Zdx (.one rfl rfl rfl (.one rfl rfl rfl (.one rfl rfl rfl (.one rfl rfl rfl (.one rfl rfl rfl BdR.nil)))))))<|Zg (Zs (q:=[.ints .u64 5 (z4)]) rfl rfl rfl rfl rfl .here<|Z1<|Zk ?_))
 revert h; refine Zz fun h=>?_
 subst h
 exact ⟨_,(.cons (.agg rfl .here rfl) .nil),rfl⟩
def Z6z (p0:Z9) (p1:Z9):Option (Z9) :=
 opt (Z3t p0.gY p0.gX) fun y6 =>
 opt (Z3t p1.gY p1.gX) fun y7 =>
 opt (Z09 y6 y7) fun y8 =>
 opt (Z1v p0.gY p0.gX) fun y11 =>
 opt (Z1v p1.gY p1.gX) fun y12 =>
 opt (Z09 y11 y12) fun y13 =>
 opt (Z72) fun y16 =>
 opt (Z09 p0.gT y16) fun y19 =>
 opt (Z09 y19 p1.gT) fun y20 =>
 opt (Z1v p0.gZ p0.gZ) fun y23 =>
 opt (Z09 y23 p1.gZ) fun y24 =>
 opt (Z3t y13 y8) fun y27 =>
 opt (Z3t y24 y20) fun y28 =>
 opt (Z1v y24 y20) fun y29 =>
 opt (Z1v y13 y8) fun y30 =>
 opt (Z6l y27 y28 y29 y30) fun y31 =>
 some y31
theorem Z86 {W:World} {r:Z9} {p0:Z9} {p1:Z9} (h:Z6z p0 p1=some r)  :
    Calls Tryd.prog 56 [agg [.ints .u64 5 (p0.gX),.ints .u64 5 (p0.gY),.ints .u64 5 (p0.gZ),.ints .u64 5 (p0.gT)],agg [.ints .u64 5 (p1.gX),.ints .u64 5 (p1.gY),.ints .u64 5 (p1.gZ),.ints .u64 5 (p1.gT)]].toArray W (Z56 W (agg [.ints .u64 5 (r.gX),.ints .u64 5 (r.gY),.ints .u64 5 (r.gZ),.ints .u64 5 (r.gT)])):=by
 unfold Z6z at h
 refine Zd mo ok56 rfl ?_
 refine Z0<|Z2<|Zg (Z14 (s:=[.ints .u64 5 (p0.gX),.ints .u64 5 (p0.gY),.ints .u64 5 (p0.gZ),.ints .u64 5 (p0.gT)]) rfl fun b2 hb2=>Zg (Z14 (s:=[.ints .u64 5 (p1.gX),.ints .u64 5 (p1.gY),.ints .u64 5 (p1.gZ),.ints .u64 5 (p1.gT)]) rfl fun b3 hb3=>Zg (Zw fun b4 hb4=>Z1<|Z0<|oH h fun y6 ey6 h=>oH h fun y7 ey7 h=>oH h fun y8 ey8 h=>Zu<|Z7 _ (Z6c rfl)<|Z7 _ (Z6c rfl)<|Z7 _ (Z6c rfl)<|Z7 _ (Z6c rfl)<|Zn _ (Z02 (p:=[.ints .u64 5 (p0.gY)]) rfl (.there (.there .here)) rfl)<|Zn _ (Z02 (p:=[.ints .u64 5 (p0.gX)]) rfl (.there (.there .here)) rfl)<|Z7 _ (Z1a rfl (Z3z ey6))<|Zn _ (Z02 (p:=[.ints .u64 5 (p1.gY)]) rfl (.there .here) rfl)<|Zn _ (Z02 (p:=[.ints .u64 5 (p1.gX)]) rfl (.there .here) rfl)<|Z7 _ (Z1a rfl (Z3z ey7))<|Z7 _ (Z1a rfl (Zx ey8))<|Z7h (Zw fun b9 hb9=>⟨(by repeat (first | exact Sup.refl _ | apply Sup.cons | apply Sup.app)),Z2h rfl (Zs (q:=[.ints .u64 5 (y8)]) rfl rfl rfl rfl rfl .here (Z03 (Z0 (oH h fun y11 ey11 h=>oH h fun y12 ey12 h=>oH h fun y13 ey13 h=>Zu (Z7 _ (Z6c rfl) (Z7 _ (Z6c rfl) (Z7 _ (Z6c rfl) (Z7 _ (Z6c rfl) (Zn _ (Z02 (p:=[.ints .u64 5 (p0.gY)]) rfl (.there (.there (.there .here))) rfl) (Zn _ (Z02 (p:=[.ints .u64 5 (p0.gX)]) rfl (.there (.there (.there .here))) rfl) (Z7 _ (Z1a rfl (Z1o ey11)) (Zn _ (Z02 (p:=[.ints .u64 5 (p1.gY)]) rfl (.there (.there .here)) rfl) (Zn _ (Z02 (p:=[.ints .u64 5 (p1.gX)]) rfl (.there (.there .here)) rfl) (Z7 _ (Z1a rfl (Z1o ey12)) (Z7 _ (Z1a rfl (Zx ey13)) (Z7h (Zw fun b14 hb14=>⟨(by repeat (first | exact Sup.refl _ | apply Sup.cons | apply Sup.app)),Z2h rfl (Zs (q:=[.ints .u64 5 (y13)]) rfl rfl rfl rfl rfl .here (Z03 (Z0 (oH h fun y16 ey16 h=>Z2 (Z6 _ (Z1a rfl (Zdo ey16)) (Zg (Zw fun b17 hb17=>Zg (Zs (q:=[.ints .u64 5 (y16)]) rfl rfl rfl rfl rfl .here (Z1 (Z0 (oH h fun y19 ey19 h=>oH h fun y20 ey20 h=>Zu (Z7 _ (Z6c rfl) (Z7 _ (Z6c rfl) (Zn _ (Z02 (p:=[.ints .u64 5 (p0.gT)]) rfl (.there (.there (.there (.there (.there .here))))) rfl) (Zn _ (Z02 (p:=[.ints .u64 5 (y16)]) rfl .here rfl) (Z7 _ (Z1a rfl (Zx ey19)) (Zn _ (Z02 (p:=[.ints .u64 5 (p1.gT)]) rfl (.there (.there (.there (.there .here)))) rfl) (Z7 _ (Z1a rfl (Zx ey20)) (Z7h (Zw fun b21 hb21=>⟨(by repeat (first | exact Sup.refl _ | apply Sup.cons | apply Sup.app)),Z2h rfl (Zs (q:=[.ints .u64 5 (y20)]) rfl rfl rfl rfl rfl .here (Z03 (Z0 (oH h fun y23 ey23 h=>oH h fun y24 ey24 h=>Zu (Z7 _ (Z6c rfl) (Z7 _ (Z6c rfl) (Z7 _ (Z6c rfl) (Zn _ (Z02 (p:=[.ints .u64 5 (p0.gZ)]) rfl (.there (.there (.there (.there (.there (.there .here)))))) rfl) (Zn _ (Z02 (p:=[.ints .u64 5 (p0.gZ)]) rfl (.there (.there (.there (.there (.there (.there .here)))))) rfl) (Z7 _ (Z1a rfl (Z1o ey23)) (Zn _ (Z02 (p:=[.ints .u64 5 (p1.gZ)]) rfl (.there (.there (.there (.there (.there .here))))) rfl) (Z7 _ (Z1a rfl (Zx ey24)) (Z7h (Zw fun b25 hb25=>⟨(by repeat (first | exact Sup.refl _ | apply Sup.cons | apply Sup.app)),Z2h rfl (Zs (q:=[.ints .u64 5 (y24)]) rfl rfl rfl rfl rfl .here (Z03 (Z0 (oH h fun y27 ey27 h=>oH h fun y28 ey28 h=>oH h fun y29 ey29 h=>oH h fun y30 ey30 h=>oH h fun y31 ey31 h=>Zu (Zn _ (Z02 (p:=[.ints .u64 5 (y13)]) rfl (.there (.there (.there .here))) rfl) (Zn _ (Z02 (p:=[.ints .u64 5 (y8)]) rfl (.there (.there (.there (.there .here)))) rfl) (Z7 _ (Z1a rfl (Z3z ey27)) (Zn _ (Z02 (p:=[.ints .u64 5 (y24)]) rfl .here rfl) (Zn _ (Z02 (p:=[.ints .u64 5 (y20)]) rfl (.there .here) rfl) (Z7 _ (Z1a rfl (Z3z ey28)) (Zn _ (Z02 (p:=[.ints .u64 5 (y24)]) rfl .here rfl) (Zn _ (Z02 (p:=[.ints .u64 5 (y20)]) rfl (.there .here) rfl) (Z7 _ (Z1a rfl (Z1o ey29)) (Zn _ (Z02 (p:=[.ints .u64 5 (y13)]) rfl (.there (.there (.there .here))) rfl) (Zn _ (Z02 (p:=[.ints .u64 5 (y8)]) rfl (.there (.there (.there (.there .here)))) rfl) (Z7 _ (Z1a rfl (Z1o ey30)) (Z7 _ (Z1a rfl (Zab ey31)) (Z2h rfl (Zs (q:=[.ints .u64 5 (y31.gX),.ints .u64 5 (y31.gY),.ints .u64 5 (y31.gZ),.ints .u64 5 (y31.gT)]) rfl rfl rfl rfl rfl (.there (.there (.there (.there (.there .here))))) (Z03 (Zk ?_)))))))))))))))))))))⟩))))))))))))))⟩))))))))))))))))))))⟩)))))))))))))))))⟩))))
 revert h; refine Zz fun h=>?_
 subst h
 exact ⟨_,(.cons (.agg rfl (.there (.there (.there (.there (.there .here))))) rfl) .nil),rfl⟩
abbrev Zf:El (Z9):=⟨20,fun x=>cells [.ints .u64 5 (x.gX),.ints .u64 5 (x.gY),.ints .u64 5 (x.gZ),.ints .u64 5 (x.gT)],fun x=>by rw [cells_length]; rfl,fun x=>(Z3e Z8l (Z3e Z8l (Z3e Z8l (Z3e Z8l Z89)))),by decide,Z0g⟩
def Z2u (p0:Z9) (k48:(List (Z9))→Option ((List (Z9)))) (k72:(Int)→(List (Z9))→Option ((List (Z9)))) (i70:Int) (a71:List (Z9)):Option ((List (Z9))) :=
 br ((decide (i70<15))) (
 bnd (IntKind.wrap .i64 (i70+1)) fun z78 =>
 chk (inB i70 16) <|
 bnd (a71.getD (i70).toNat Z0g) fun x80 =>
 opt (Z6z x80 p0) fun y81 =>
 chk (inB z78 16) <|
 bnd (Zf7 Z0g a71 (z78).toNat y81) fun l83 =>
 bnd (IntKind.wrap .i64 (i70+1)) fun z85 =>
 k72 z85 l83
 ) (
 k48 a71
 )
def Z1l (p0:Z9) (k48:(List (Z9))→Option ((List (Z9)))):Nat→(Int)→(List (Z9))→Option ((List (Z9)))
  | 0,_,_=>none
  | n+1,i70,a71=>Z2u p0 k48 (Z1l p0 k48 n) i70 a71
def Z3d (p0:Z9):Option ((List (Z9))) :=
 opt (Z7p) fun y7 =>
 bnd (Zf7 Z0g (List.replicate 16 Z0g) 0 y7) fun l8 =>
 jn (fun (a47:List (Z9))=>some a47) fun k48=>Z1l p0 k48 big 0 l8
theorem Z64 {W:World} {r:(List (Z9))} {p0:Z9} (h:Z3d p0=some r)  :
    Calls Tryd.prog 53 [agg [.ints .u64 5 (p0.gX),.ints .u64 5 (p0.gY),.ints .u64 5 (p0.gZ),.ints .u64 5 (p0.gT)]].toArray W (Z56 W (agg [.rows 20 16 (Z8r Zf (r))])):=by
 unfold Z3d at h
 refine Zd mo ok53 rfl ?_
 refine Z0<|Z2<|Zg (Z14 (s:=[.ints .u64 5 (p0.gX),.ints .u64 5 (p0.gY),.ints .u64 5 (p0.gZ),.ints .u64 5 (p0.gT)]) rfl fun b2 hb2=>Zg (Zep (z':=[.rows 20 16 (Z8r Zf ((List.replicate 16 Z0g)))]) (Z9q (E:=Zf) rfl rfl) fun b3 hb3=>Z1<|Z0<|Z2<|Zg (Zep (z':=[.rows 20 16 (Z8r Zf ((List.replicate 16 Z0g)))]) (Z9q (E:=Zf) rfl rfl) fun b5 hb5=>Z1<|Z0<|oH h fun y7 ey7 h=>bH h fun l8 el8 h=>Z2<|Z6 _ (Z0m (vs:=[]) (v:=agg [.ints .u64 5 (y7.gX),.ints .u64 5 (y7.gY),.ints .u64 5 (y7.gZ),.ints .u64 5 (y7.gT)]) rfl (fun w hw=>Z9a (r:=y7) ey7 ))<|Z6 _ (Z3b rfl rfl (by decide))<|Zg (Zkj (q:=[.rows 20 16 (Z8r Zf (l8))]) (E:=Zf) (base:=0) (i:=0) (len:=16) el8 rfl rfl rfl rfl (by decide) rfl .here<|Z1<|Z0<|Z0<|Z2<|Z8 rfl<|Z1<|jH h fun k48 qk48 h=>Zo (G:=fun t m=>∃ (a47:List (Z9)),k48 a47=some r∧Fit [(2,.pointer (some ⟨b3,0,none⟩)),(3,.pointer (some ⟨b5,0,none⟩))] (ck b5 105 [.rows 20 16 (Z8r Zf (a47))]::(ck b3 105 [.rows 20 16 (Z8r Zf ((List.replicate 16 Z0g)))]::(ck b2 60 [.ints .u64 5 (p0.gX),.ints .u64 5 (p0.gY),.ints .u64 5 (p0.gZ),.ints .u64 5 (p0.gT)] :: []))) t m) ?_ ?_))))
 ·refine Zb<|Z01 (fun n73 t m=>∃ (i70:Int) (a71:List (Z9)),Z1l p0 k48 n73 i70 a71=some r∧Fit [(1,.pointer (some ⟨b2,0,none⟩)),(2,.pointer (some ⟨b3,0,none⟩)),(3,.pointer (some ⟨b5,0,none⟩)),(7,.int .i64 (i70))] (ck b5 105 [.rows 20 16 (Z8r Zf (a71))]::(ck b3 105 [.rows 20 16 (Z8r Zf ((List.replicate 16 Z0g)))]::(ck b2 60 [.ints .u64 5 (p0.gX),.ints .u64 5 (p0.gY),.ints .u64 5 (p0.gZ),.ints .u64 5 (p0.gT)] :: []))) t m) big ?_ ?_
  ·exact ⟨0,l8,h,⟨⟨rfl,rfl,rfl,rfl,trivial⟩,(.one .here (.one .here (.one .here .nil)))⟩⟩
  ·rintro n73 t m ⟨i70,a71,h,hF⟩
   refine Zm hF ?_
   clear hF
   rcases n73 with _ | n73
   · exact Z1c h
   have h:Z2u p0 k48 (Z1l p0 k48 n73) i70 a71=some r:=h
   unfold Z2u at h
   obtain ⟨k72,qk72⟩ : ∃ k,k=Z1l p0 k48 n73:=⟨_,rfl⟩
   try rw [← qk72] at h
   refine Z0<|Z2<|Z6 _ (Za rfl rfl rfl)<|Z1<|Z0<|Z0l h rfl (fun h=>?_) (fun h=>?_)
   ·refine Zl<|Z0<|Zb<|Z0<|Z2<|Z8 rfl<|Z8 rfl<|Z1<|bH h fun z78 ez78 h=>cH h fun c79 h=>bH h fun x80 ex80 h=>oH h fun y81 ey81 h=>cH h fun c82 h=>bH h fun l83 el83 h=>Zu<|Z7 _ (Z19 rfl)<|Z7 _ (iz ez78 (Za rfl rfl rfl))<|Z7 _ (Z19 rfl)<|Z7 _ (Z3b rfl rfl (Z1w c79))<|Zn _ (az (fun x80=>agg [.ints .u64 5 (x80.gX),.ints .u64 5 (x80.gY),.ints .u64 5 (x80.gZ),.ints .u64 5 (x80.gT)]) ex80 (Zjm (base:=0) (w:=20) rfl .here rfl (Z18 c79) rfl rfl rfl))<|Zn _ (Z02 (p:=[.ints .u64 5 (p0.gX),.ints .u64 5 (p0.gY),.ints .u64 5 (p0.gZ),.ints .u64 5 (p0.gT)]) rfl (.there (.there .here)) rfl)<|Z7 _ (Z0m (vs:=[agg [.ints .u64 5 (x80.gX),.ints .u64 5 (x80.gY),.ints .u64 5 (x80.gZ),.ints .u64 5 (x80.gT)],agg [.ints .u64 5 (p0.gX),.ints .u64 5 (p0.gY),.ints .u64 5 (p0.gZ),.ints .u64 5 (p0.gT)]]) (v:=agg [.ints .u64 5 (y81.gX),.ints .u64 5 (y81.gY),.ints .u64 5 (y81.gZ),.ints .u64 5 (y81.gT)]) rfl (fun w hw=>Z86 (r:=y81) (p0:=x80) (p1:=p0) ey81 ))<|Z7 _ (Z3b rfl rfl (Z1w c82))<|Z2h rfl (Zkj (q:=[.rows 20 16 (Z8r Zf (l83))]) (E:=Zf) (base:=0) el83 rfl rfl rfl rfl (Z18 c82) rfl .here<|Z03<|bH h fun z85 ez85 h=>Z2<|Z6 _ (iz ez85 (Za rfl rfl rfl))<|Z8 rfl<|Z1 ?_)
    rw [qk72] at h
    exact ⟨n73,Nat.lt_succ_self _,z85,l83,h,⟨⟨rfl,rfl,rfl,rfl,trivial⟩,(.one .here (.one .here (.one .here .nil)))⟩⟩
   ·exact Z0b _ rfl<|⟨a71,h,⟨⟨rfl,rfl,trivial⟩,(.one .here (.one .here (.one .here .nil)))⟩⟩
 ·rintro t m ⟨a47,h,hF⟩
  refine Zm hF ?_
  clear hF
  subst qk48
  refine Z0<|Z2<|Z6 _ (Z02 (p:=[.rows 20 16 (Z8r Zf (a47))]) rfl .here rfl)<|Zg (Zgy (q:=[.rows 20 16 (Z8r Zf (a47))]) rfl rfl rfl rfl (Z3e (Zaf (E:=Zf)) Z89) (.there .here)<|Z1<|Zk ?_)
  revert h; refine Zz fun h=>?_
  subst h
  exact ⟨_,(.cons (.agg rfl (.there .here) rfl) .nil),rfl⟩
def Z5f (p0:Z9):Option (Z9) :=
 opt (Z0u p0.gX) fun y5 =>
 opt (Z0u p0.gY) fun y8 =>
 opt (Z0u p0.gZ) fun y11 =>
 opt (Z1v y5 y8) fun y14 =>
 opt (Z1v p0.gX p0.gY) fun y17 =>
 opt (Z0u y17) fun y18 =>
 opt (Z3t y14 y18) fun y19 =>
 opt (Z3t y5 y8) fun y22 =>
 opt (Z1v y11 y11) fun y25 =>
 opt (Z1v y25 y22) fun y26 =>
 opt (Z6l y19 y26 y22 y14) fun y29 =>
 some y29
theorem Zaa {W:World} {r:Z9} {p0:Z9} (h:Z5f p0=some r)  :
    Calls Tryd.prog 55 [agg [.ints .u64 5 (p0.gX),.ints .u64 5 (p0.gY),.ints .u64 5 (p0.gZ),.ints .u64 5 (p0.gT)]].toArray W (Z56 W (agg [.ints .u64 5 (r.gX),.ints .u64 5 (r.gY),.ints .u64 5 (r.gZ),.ints .u64 5 (r.gT)])):=by
 unfold Z5f at h
 refine Zd mo ok55 rfl ?_
 refine Z0<|Z2<|Zg (Z14 (s:=[.ints .u64 5 (p0.gX),.ints .u64 5 (p0.gY),.ints .u64 5 (p0.gZ),.ints .u64 5 (p0.gT)]) rfl fun b2 hb2=>Zg (Zw fun b3 hb3=>Z1<|Z0<|oH h fun y5 ey5 h=>Z2<|Z6 _ (Z6c rfl)<|Z6 _ (Z02 (p:=[.ints .u64 5 (p0.gX)]) rfl (.there .here) rfl)<|Z6 _ (Z1a rfl (Z1i ey5))<|Zg (Zw fun b6 hb6=>Zg (Zs (q:=[.ints .u64 5 (y5)]) rfl rfl rfl rfl rfl .here<|Z1<|Z0<|oH h fun y8 ey8 h=>Z2<|Z6 _ (Z6c rfl)<|Z6 _ (Z02 (p:=[.ints .u64 5 (p0.gY)]) rfl (.there (.there .here)) rfl)<|Z6 _ (Z1a rfl (Z1i ey8))<|Zg (Zw fun b9 hb9=>Zg (Zs (q:=[.ints .u64 5 (y8)]) rfl rfl rfl rfl rfl .here<|Z1<|Z0<|oH h fun y11 ey11 h=>Z2<|Z6 _ (Z6c rfl)<|Z6 _ (Z02 (p:=[.ints .u64 5 (p0.gZ)]) rfl (.there (.there (.there .here))) rfl)<|Z6 _ (Z1a rfl (Z1i ey11))<|Zg (Zw fun b12 hb12=>Zg (Zs (q:=[.ints .u64 5 (y11)]) rfl rfl rfl rfl rfl .here<|Z1<|Z0<|oH h fun y14 ey14 h=>Z2<|Z6 _ (Z02 (p:=[.ints .u64 5 (y5)]) rfl (.there (.there .here)) rfl)<|Z6 _ (Z02 (p:=[.ints .u64 5 (y8)]) rfl (.there .here) rfl)<|Z6 _ (Z1a rfl (Z1o ey14))<|Zg (Zw fun b15 hb15=>Zg (Zs (q:=[.ints .u64 5 (y14)]) rfl rfl rfl rfl rfl .here<|Z1<|Z0<|oH h fun y17 ey17 h=>oH h fun y18 ey18 h=>oH h fun y19 ey19 h=>Zu<|Z7 _ (Z6c rfl)<|Z7 _ (Z6c rfl)<|Zn _ (Z02 (p:=[.ints .u64 5 (y14)]) rfl .here rfl)<|Zn _ (Z02 (p:=[.ints .u64 5 (p0.gX)]) rfl (.there (.there (.there (.there (.there .here))))) rfl)<|Zn _ (Z02 (p:=[.ints .u64 5 (p0.gY)]) rfl (.there (.there (.there (.there (.there .here))))) rfl)<|Z7 _ (Z1a rfl (Z1o ey17))<|Z7 _ (Z1a rfl (Z1i ey18))<|Z7 _ (Z1a rfl (Z3z ey19))<|Z7h (Zw fun b20 hb20=>⟨(by repeat (first | exact Sup.refl _ | apply Sup.cons | apply Sup.app)),Z2h rfl (Zs (q:=[.ints .u64 5 (y19)]) rfl rfl rfl rfl rfl .here (Z03 (Z0 (oH h fun y22 ey22 h=>Z2 (Z6 _ (Z02 (p:=[.ints .u64 5 (y5)]) rfl (.there (.there (.there (.there .here)))) rfl) (Z6 _ (Z02 (p:=[.ints .u64 5 (y8)]) rfl (.there (.there (.there .here))) rfl) (Z6 _ (Z1a rfl (Z3z ey22)) (Zg (Zw fun b23 hb23=>Zg (Zs (q:=[.ints .u64 5 (y22)]) rfl rfl rfl rfl rfl .here (Z1 (Z0 (oH h fun y25 ey25 h=>oH h fun y26 ey26 h=>Zu (Zn _ (Z02 (p:=[.ints .u64 5 (y11)]) rfl (.there (.there (.there .here))) rfl) (Zn _ (Z02 (p:=[.ints .u64 5 (y11)]) rfl (.there (.there (.there .here))) rfl) (Z7 _ (Z1a rfl (Z1o ey25)) (Zn _ (Z02 (p:=[.ints .u64 5 (y22)]) rfl .here rfl) (Z7 _ (Z1a rfl (Z1o ey26)) (Z7h (Zw fun b27 hb27=>⟨(by repeat (first | exact Sup.refl _ | apply Sup.cons | apply Sup.app)),Z2h rfl (Zs (q:=[.ints .u64 5 (y26)]) rfl rfl rfl rfl rfl .here (Z03 (Z0 (oH h fun y29 ey29 h=>Z2 (Z6 _ (Z02 (p:=[.ints .u64 5 (y19)]) rfl (.there (.there .here)) rfl) (Z6 _ (Z02 (p:=[.ints .u64 5 (y26)]) rfl .here rfl) (Z6 _ (Z02 (p:=[.ints .u64 5 (y22)]) rfl (.there .here) rfl) (Z6 _ (Z02 (p:=[.ints .u64 5 (y14)]) rfl (.there (.there (.there .here))) rfl) (Z6 _ (Z1a rfl (Zab ey29)) (Zg (Zs (q:=[.ints .u64 5 (y29.gX),.ints .u64 5 (y29.gY),.ints .u64 5 (y29.gZ),.ints .u64 5 (y29.gT)]) rfl rfl rfl rfl rfl (.there (.there (.there (.there (.there (.there (.there .here))))))) (Z1 (Zk ?_)))))))))))))⟩))))))))))))))))))))⟩)))))))))))
 revert h; refine Zz fun h=>?_
 subst h
 exact ⟨_,(.cons (.agg rfl (.there (.there (.there (.there (.there (.there (.there .here))))))) rfl) .nil),rfl⟩
def Z5g (p0:List Int) (p1:Int):Option (Int) :=
 bnd (IntKind.wrap .i64 (Int.tdiv p1 2)) fun z4 =>
 bnd (IntKind.wrap .i64 (31-z4)) fun z5 =>
 chk (inB z5 32) <|
 bnd (p0.getD (z5).toNat 0) fun z7 =>
 bnd (Int.tmod p1 2) fun z8 =>
 bnd (IntKind.wrap .i64 (1-z8)) fun z9 =>
 bnd (IntKind.wrap .i64 (4*z9)) fun z10 =>
 chk (decide (0≤z10)) <|
 bnd (Zh .u8 z7 z10) fun z12 =>
 bnd (Z4 .and .u8 z12 15) fun z13 =>
 some z13
theorem Z7q {W:World} {r:Int} {p0:List Int} {p1:Int} (h:Z5g p0 p1=some r)  :
    Calls Tryd.prog 57 [agg [.ints .u8 32 (p0)],.int .i64 (p1)].toArray W (Z56 W (.int .u8 (r))):=by
 unfold Z5g at h
 refine Zd mo ok57 rfl ?_
 refine Z0<|Z2<|Zg (Z14 (s:=[.ints .u8 32 (p0)]) rfl fun b2 hb2=>Z8 rfl<|Z1<|Z0<|bH h fun z4 ez4 h=>bH h fun z5 ez5 h=>cH h fun c6 h=>bH h fun z7 ez7 h=>bH h fun z8 ez8 h=>bH h fun z9 ez9 h=>bH h fun z10 ez10 h=>cH h fun c11 h=>bH h fun z12 ez12 h=>bH h fun z13 ez13 h=>Z2<|Z8 rfl<|Z6 _ (iz ez4 (Zjn rfl rfl (by decide)))<|Z6 _ (iz ez5 (Za rfl rfl rfl))<|Z6 _ (Z3b rfl rfl (Z1w c6))<|Z6 _ (iz ez7 (Z8v (base:=0) rfl .here rfl (Z18 c6)))<|Z8 rfl<|Z6 _ (iz ez8 (Zjo rfl rfl (by decide)))<|Z6 _ (iz ez9 (Za rfl rfl rfl))<|Z6 _ (iz ez10 (Za rfl rfl rfl))<|Z6 _ (iz ez12 (Z76 rfl rfl (of_decide_eq_true c11)))<|Z6 _ (iz ez13 (Za rfl rfl rfl))<|Z8 rfl<|Z1<|Zk ?_)
 revert h; refine Zz fun h=>?_
 subst h
 exact ⟨_,(.cons (.tmp rfl) .nil),rfl⟩
def Z8e (k433:(List Int)→(List Int)→(List Int)→(List Int)→Option (Z9)) (k454:(Int)→(List Int)→(List Int)→(List Int)→(List Int)→Option (Z9)) (i449:Int) (a450:List Int) (a451:List Int) (a452:List Int) (a453:List Int):Option (Z9) :=
 br ((decide (i449<4))) (
 opt (Z5f (⟨a450,a451,a452,a453⟩:Z9)) fun y459 =>
 bnd (IntKind.wrap .i64 (i449+1)) fun z461 =>
 k454 z461 y459.gX y459.gY y459.gZ y459.gT
 ) (
 k433 a450 a451 a452 a453
 )
def Z36 (k433:(List Int)→(List Int)→(List Int)→(List Int)→Option (Z9)):Nat→(Int)→(List Int)→(List Int)→(List Int)→(List Int)→Option (Z9)
  | 0,_,_,_,_,_=>none
  | n+1,i449,a450,a451,a452,a453=>Z8e k433 (Z36 k433 n) i449 a450 a451 a452 a453
def Z8d (p0:List Int) (y6:(List (Z9))) (k242:(List Int)→(List Int)→(List Int)→(List Int)→Option (Z9)) (k395:(Int)→(List Int)→(List Int)→(List Int)→(List Int)→Option (Z9)) (i390:Int) (a391:List Int) (a392:List Int) (a393:List Int) (a394:List Int):Option (Z9) :=
 br ((decide (i390<64))) (
 jn (fun (a429:List Int) (a430:List Int) (a431:List Int) (a432:List Int)=>opt (Z5g p0 i390) fun y463 =>
 chk (inB y463 16) <|
 bnd (y6.getD (y463).toNat Z0g) fun x465 =>
 opt (Z6z (⟨a429,a430,a431,a432⟩:Z9) x465) fun y466 =>
 bnd (IntKind.wrap .i64 (i390+1)) fun z468 =>
 k395 z468 y466.gX y466.gY y466.gZ y466.gT) fun k433=>Z36 k433 big 0 a391 a392 a393 a394
 ) (
 k242 a391 a392 a393 a394
 )
def Z4j (p0:List Int) (y6:(List (Z9))) (k242:(List Int)→(List Int)→(List Int)→(List Int)→Option (Z9)):Nat→(Int)→(List Int)→(List Int)→(List Int)→(List Int)→Option (Z9)
  | 0,_,_,_,_,_=>none
  | n+1,i390,a391,a392,a393,a394=>Z8d p0 y6 k242 (Z4j p0 y6 k242 n) i390 a391 a392 a393 a394
def Zbr (p0:List Int) (p1:Z9):Option (Z9) :=
 opt (Z3d p1) fun y6 =>
 opt (Z7p) fun y9 =>
 jn (fun (a238:List Int) (a239:List Int) (a240:List Int) (a241:List Int)=>some (⟨a238,a239,a240,a241⟩:Z9)) fun k242=>Z4j p0 y6 k242 big 0 y9.gX y9.gY y9.gZ y9.gT
theorem Zgj {W:World} {r:Z9} {p0:List Int} {p1:Z9} (h:Zbr p0 p1=some r)  :
    Calls Tryd.prog 60 [agg [.ints .u8 32 (p0)],agg [.ints .u64 5 (p1.gX),.ints .u64 5 (p1.gY),.ints .u64 5 (p1.gZ),.ints .u64 5 (p1.gT)]].toArray W (Z56 W (agg [.ints .u64 5 (r.gX),.ints .u64 5 (r.gY),.ints .u64 5 (r.gZ),.ints .u64 5 (r.gT)])):=by
 unfold Zbr at h
 refine Zd mo ok60 rfl ?_
 refine Z0<|Z2<|Zg (Z14 (s:=[.ints .u8 32 (p0)]) rfl fun b2 hb2=>Zg (Z14 (s:=[.ints .u64 5 (p1.gX),.ints .u64 5 (p1.gY),.ints .u64 5 (p1.gZ),.ints .u64 5 (p1.gT)]) rfl fun b3 hb3=>Zg (Zw fun b4 hb4=>Z1<|Z0<|oH h fun y6 ey6 h=>Z2<|Z6 _ (Z02 (p:=[.ints .u64 5 (p1.gX),.ints .u64 5 (p1.gY),.ints .u64 5 (p1.gZ),.ints .u64 5 (p1.gT)]) rfl (.there .here) rfl)<|Z6 _ (Z1a rfl (Z64 ey6))<|Zg (Zep (z':=[.rows 20 16 (Z8r Zf ((List.replicate 16 Z0g)))]) (Z9q (E:=Zf) rfl rfl) fun b7 hb7=>Zg (Zgy (q:=[.rows 20 16 (Z8r Zf (y6))]) rfl rfl rfl rfl (Z3e (Zaf (E:=Zf)) Z89) .here<|Z1<|Z0<|oH h fun y9 ey9 h=>Z2<|Z6 _ (Z0m (vs:=[]) (v:=agg [.ints .u64 5 (y9.gX),.ints .u64 5 (y9.gY),.ints .u64 5 (y9.gZ),.ints .u64 5 (y9.gT)]) rfl (fun w hw=>Z9a (r:=y9) ey9 ))<|Zg (Zw fun b10 hb10=>Zg (Zs (q:=[.ints .u64 5 (y9.gX),.ints .u64 5 (y9.gY),.ints .u64 5 (y9.gZ),.ints .u64 5 (y9.gT)]) rfl rfl rfl rfl rfl .here<|Z1<|Z0<|Z0<|Z2<|Z8 rfl<|Z1<|jH h fun k242 qk242 h=>Zo (G:=fun t m=>∃ (a238:List Int) (a239:List Int) (a240:List Int) (a241:List Int),k242 a238 a239 a240 a241=some r∧Fit [(4,.pointer (some ⟨b4,0,none⟩)),(6,.pointer (some ⟨b10,0,none⟩))] (ck b10 60 [.ints .u64 5 (a238),.ints .u64 5 (a239),.ints .u64 5 (a240),.ints .u64 5 (a241)]::(ck b7 105 [.rows 20 16 (Z8r Zf (y6))]::(ck b4 60 [.ints .u64 5 ((List.replicate 5 0)),.ints .u64 5 ((List.replicate 5 0)),.ints .u64 5 ((List.replicate 5 0)),.ints .u64 5 ((List.replicate 5 0))]::(ck b3 60 [.ints .u64 5 (p1.gX),.ints .u64 5 (p1.gY),.ints .u64 5 (p1.gZ),.ints .u64 5 (p1.gT)]::(ck b2 63 [.ints .u8 32 (p0)] :: []))))) t m) ?_ ?_)))))))
 ·refine Zb<|Z01 (fun n396 t m=>∃ (i390:Int) (a391:List Int) (a392:List Int) (a393:List Int) (a394:List Int),Z4j p0 y6 k242 n396 i390 a391 a392 a393 a394=some r∧Fit [(2,.pointer (some ⟨b2,0,none⟩)),(4,.pointer (some ⟨b4,0,none⟩)),(5,.pointer (some ⟨b7,0,none⟩)),(6,.pointer (some ⟨b10,0,none⟩)),(11,.int .i64 (i390))] (ck b10 60 [.ints .u64 5 (a391),.ints .u64 5 (a392),.ints .u64 5 (a393),.ints .u64 5 (a394)]::(ck b7 105 [.rows 20 16 (Z8r Zf (y6))]::(ck b4 60 [.ints .u64 5 ((List.replicate 5 0)),.ints .u64 5 ((List.replicate 5 0)),.ints .u64 5 ((List.replicate 5 0)),.ints .u64 5 ((List.replicate 5 0))]::(ck b3 60 [.ints .u64 5 (p1.gX),.ints .u64 5 (p1.gY),.ints .u64 5 (p1.gZ),.ints .u64 5 (p1.gT)]::(ck b2 63 [.ints .u8 32 (p0)] :: []))))) t m) big ?_ ?_
  ·exact ⟨0,y9.gX,y9.gY,y9.gZ,y9.gT,h,⟨⟨rfl,rfl,rfl,rfl,rfl,trivial⟩,(.one .here (.one .here (.one .here (.one .here (.one .here .nil)))))⟩⟩
  ·rintro n396 t m ⟨i390,a391,a392,a393,a394,h,hF⟩
   refine Zm hF ?_
   clear hF
   rcases n396 with _ | n396
   · exact Z1c h
   have h:Z8d p0 y6 k242 (Z4j p0 y6 k242 n396) i390 a391 a392 a393 a394=some r:=h
   unfold Z8d at h
   obtain ⟨k395,qk395⟩ : ∃ k,k=Z4j p0 y6 k242 n396:=⟨_,rfl⟩
   try rw [← qk395] at h
   refine Z0<|Z2<|Z6 _ (Za rfl rfl rfl)<|Z1<|Z0<|Z0l h rfl (fun h=>?_) (fun h=>?_)
   ·refine Zl<|Z0<|Zb<|Z0<|Z2<|Z8 rfl<|Z8 rfl<|Z1<|Z0<|Z0<|Z2<|Z8 rfl<|Z1<|jH h fun k433 qk433 h=>Zo (G:=fun t m=>∃ (a429:List Int) (a430:List Int) (a431:List Int) (a432:List Int),k433 a429 a430 a431 a432=some r∧Fit [(2,.pointer (some ⟨b2,0,none⟩)),(4,.pointer (some ⟨b4,0,none⟩)),(5,.pointer (some ⟨b7,0,none⟩)),(6,.pointer (some ⟨b10,0,none⟩)),(7,.int .i64 (i390)),(11,.int .i64 (i390))] (ck b10 60 [.ints .u64 5 (a429),.ints .u64 5 (a430),.ints .u64 5 (a431),.ints .u64 5 (a432)]::(ck b7 105 [.rows 20 16 (Z8r Zf (y6))]::(ck b4 60 [.ints .u64 5 ((List.replicate 5 0)),.ints .u64 5 ((List.replicate 5 0)),.ints .u64 5 ((List.replicate 5 0)),.ints .u64 5 ((List.replicate 5 0))]::(ck b3 60 [.ints .u64 5 (p1.gX),.ints .u64 5 (p1.gY),.ints .u64 5 (p1.gZ),.ints .u64 5 (p1.gT)]::(ck b2 63 [.ints .u8 32 (p0)] :: []))))) t m) ?_ ?_
    ·refine Zb<|Z01 (fun n455 t m=>∃ (i449:Int) (a450:List Int) (a451:List Int) (a452:List Int) (a453:List Int),Z36 k433 n455 i449 a450 a451 a452 a453=some r∧Fit [(2,.pointer (some ⟨b2,0,none⟩)),(4,.pointer (some ⟨b4,0,none⟩)),(5,.pointer (some ⟨b7,0,none⟩)),(6,.pointer (some ⟨b10,0,none⟩)),(7,.int .i64 (i390)),(11,.int .i64 (i390)),(14,.int .i64 (i449))] (ck b10 60 [.ints .u64 5 (a450),.ints .u64 5 (a451),.ints .u64 5 (a452),.ints .u64 5 (a453)]::(ck b7 105 [.rows 20 16 (Z8r Zf (y6))]::(ck b4 60 [.ints .u64 5 ((List.replicate 5 0)),.ints .u64 5 ((List.replicate 5 0)),.ints .u64 5 ((List.replicate 5 0)),.ints .u64 5 ((List.replicate 5 0))]::(ck b3 60 [.ints .u64 5 (p1.gX),.ints .u64 5 (p1.gY),.ints .u64 5 (p1.gZ),.ints .u64 5 (p1.gT)]::(ck b2 63 [.ints .u8 32 (p0)] :: []))))) t m) big ?_ ?_
     ·exact ⟨0,a391,a392,a393,a394,h,⟨⟨rfl,rfl,rfl,rfl,rfl,rfl,rfl,trivial⟩,(.one .here (.one .here (.one .here (.one .here (.one .here .nil)))))⟩⟩
     ·rintro n455 t m ⟨i449,a450,a451,a452,a453,h,hF⟩
      refine Zm hF ?_
      clear hF
      rcases n455 with _ | n455
      · exact Z1c h
      have h:Z8e k433 (Z36 k433 n455) i449 a450 a451 a452 a453=some r:=h
      unfold Z8e at h
      obtain ⟨k454,qk454⟩ : ∃ k,k=Z36 k433 n455:=⟨_,rfl⟩
      try rw [← qk454] at h
      refine Z0<|Z2<|Z6 _ (Za rfl rfl rfl)<|Z1<|Z0<|Z0l h rfl (fun h=>?_) (fun h=>?_)
      ·refine Zl<|Z0<|Zb<|oH h fun y459 ey459 h=>Z2<|Z6 _ (Z02 (p:=[.ints .u64 5 (a450),.ints .u64 5 (a451),.ints .u64 5 (a452),.ints .u64 5 (a453)]) rfl .here rfl)<|Z6 _ (Z0m (vs:=[agg [.ints .u64 5 (a450),.ints .u64 5 (a451),.ints .u64 5 (a452),.ints .u64 5 (a453)]]) (v:=agg [.ints .u64 5 (y459.gX),.ints .u64 5 (y459.gY),.ints .u64 5 (y459.gZ),.ints .u64 5 (y459.gT)]) rfl (fun w hw=>Zaa (r:=y459) (p0:=(⟨a450,a451,a452,a453⟩:Z9)) ey459 ))<|Zg (Zs (q:=[.ints .u64 5 (y459.gX),.ints .u64 5 (y459.gY),.ints .u64 5 (y459.gZ),.ints .u64 5 (y459.gT)]) rfl rfl rfl rfl rfl .here<|Z1<|bH h fun z461 ez461 h=>Z2<|Z6 _ (iz ez461 (Za rfl rfl rfl))<|Z8 rfl<|Z1 ?_)
       rw [qk454] at h
       exact ⟨n455,Nat.lt_succ_self _,z461,y459.gX,y459.gY,y459.gZ,y459.gT,h,⟨⟨rfl,rfl,rfl,rfl,rfl,rfl,rfl,trivial⟩,(.one .here (.one .here (.one .here (.one .here (.one .here .nil)))))⟩⟩
      ·exact Z0b _ rfl<|⟨a450,a451,a452,a453,h,⟨⟨rfl,rfl,rfl,rfl,rfl,rfl,trivial⟩,(.one .here (.one .here (.one .here (.one .here (.one .here .nil)))))⟩⟩
    ·rintro t m ⟨a429,a430,a431,a432,h,hF⟩
     refine Zm hF ?_
     clear hF
     subst qk433
     refine oH h fun y463 ey463 h=>cH h fun c464 h=>bH h fun x465 ex465 h=>oH h fun y466 ey466 h=>Zu<|Z7 _ (Z19 rfl)<|Zn _ (Z02 (p:=[.ints .u64 5 (a429),.ints .u64 5 (a430),.ints .u64 5 (a431),.ints .u64 5 (a432)]) rfl .here rfl)<|Zn _ (Z02 (p:=[.ints .u8 32 (p0)]) rfl (.there (.there (.there (.there .here)))) rfl)<|Z7 _ (Z0m (vs:=[agg [.ints .u8 32 (p0)],.int .i64 (i390)]) (v:=.int .u8 (y463)) rfl (fun w hw=>Z7q (r:=y463) (p0:=p0) (p1:=i390) ey463 ))<|Z7 _ (Z3b rfl rfl (Z1w c464))<|Zn _ (az (fun x465=>agg [.ints .u64 5 (x465.gX),.ints .u64 5 (x465.gY),.ints .u64 5 (x465.gZ),.ints .u64 5 (x465.gT)]) ex465 (Zjm (base:=0) (w:=20) rfl (.there .here) rfl (Z18 c464) rfl rfl rfl))<|Z7 _ (Z0m (vs:=[agg [.ints .u64 5 (a429),.ints .u64 5 (a430),.ints .u64 5 (a431),.ints .u64 5 (a432)],agg [.ints .u64 5 (x465.gX),.ints .u64 5 (x465.gY),.ints .u64 5 (x465.gZ),.ints .u64 5 (x465.gT)]]) (v:=agg [.ints .u64 5 (y466.gX),.ints .u64 5 (y466.gY),.ints .u64 5 (y466.gZ),.ints .u64 5 (y466.gT)]) rfl (fun w hw=>Z86 (r:=y466) (p0:=(⟨a429,a430,a431,a432⟩:Z9)) (p1:=x465) ey466 ))<|Z2h rfl (Zs (q:=[.ints .u64 5 (y466.gX),.ints .u64 5 (y466.gY),.ints .u64 5 (y466.gZ),.ints .u64 5 (y466.gT)]) rfl rfl rfl rfl rfl .here<|Z03<|bH h fun z468 ez468 h=>Z2<|Z6 _ (iz ez468 (Za rfl rfl rfl))<|Z8 rfl<|Z1 ?_)
     rw [qk395] at h
     exact ⟨n396,Nat.lt_succ_self _,z468,y466.gX,y466.gY,y466.gZ,y466.gT,h,⟨⟨rfl,rfl,rfl,rfl,rfl,trivial⟩,(.one .here (.one .here (.one .here (.one .here (.one .here .nil)))))⟩⟩
   ·exact Z0b _ rfl<|⟨a391,a392,a393,a394,h,⟨⟨rfl,rfl,trivial⟩,(.one .here (.one .here (.one .here (.one .here (.one .here .nil)))))⟩⟩
 ·rintro t m ⟨a238,a239,a240,a241,h,hF⟩
  refine Zm hF ?_
  clear hF
  subst qk242
  refine Z0<|Z2<|Z6 _ (Z02 (p:=[.ints .u64 5 (a238),.ints .u64 5 (a239),.ints .u64 5 (a240),.ints .u64 5 (a241)]) rfl .here rfl)<|Zg (Zs (q:=[.ints .u64 5 (a238),.ints .u64 5 (a239),.ints .u64 5 (a240),.ints .u64 5 (a241)]) rfl rfl rfl rfl rfl (.there (.there .here))<|Z1<|Zk ?_)
  revert h; refine Zz fun h=>?_
  subst h
  exact ⟨_,(.cons (.agg rfl (.there (.there .here)) rfl) .nil),rfl⟩
def Z3q (p0:List Int):Option (Z9) :=
 opt (Z7r) fun y5 =>
 opt (Zbr p0 y5) fun y6 =>
 some y6
theorem Z71 {W:World} {r:Z9} {p0:List Int} (h:Z3q p0=some r)  :
    Calls Tryd.prog 25 [agg [.ints .u8 32 (p0)]].toArray W (Z56 W (agg [.ints .u64 5 (r.gX),.ints .u64 5 (r.gY),.ints .u64 5 (r.gZ),.ints .u64 5 (r.gT)])):=by
 unfold Z3q at h
 refine Zd mo ok25 rfl ?_
 refine Z0<|Z2<|Zg (Z14 (s:=[.ints .u8 32 (p0)]) rfl fun b2 hb2=>Zg (Zw fun b3 hb3=>Z1<|Z0<|oH h fun y5 ey5 h=>oH h fun y6 ey6 h=>Zu<|Z7 _ (Z1a rfl (Zb2 ey5))<|Zn _ (Z02 (p:=[.ints .u8 32 (p0)]) rfl (.there .here) rfl)<|Z7 _ (Z1a rfl (Zgj ey6))<|Z2h rfl (Zs (q:=[.ints .u64 5 (y6.gX),.ints .u64 5 (y6.gY),.ints .u64 5 (y6.gZ),.ints .u64 5 (y6.gT)]) rfl rfl rfl rfl rfl .here<|Z03<|Zk ?_)))
 revert h; refine Zz fun h=>?_
 subst h
 exact ⟨_,(.cons (.agg rfl .here rfl) .nil),rfl⟩
def Z4w (p0:List Int):OL :=
 opt (Z83 p0) fun y5 =>
 opt (Z3q y5.1) fun y13 =>
 opt (Z3p y13) fun y14 =>
 some y14
theorem Zbf {W:World} {r:(List Int)} {p0:List Int} (h:Z4w p0=some r) (hG:Globs W) :
    Calls Tryd.prog 10 [agg [.ints .u8 32 (p0)]].toArray W (Z56 W (agg [.ints .u8 32 (r)])):=by
 unfold Z4w at h
 refine Zd mo ok10 rfl ?_
 refine Z0<|Z2<|Zg (Z14 (s:=[.ints .u8 32 (p0)]) rfl fun b2 hb2=>Zg (Zw fun b3 hb3=>Z1<|Z0<|oH h fun y5 ey5 h=>Z2<|Z6 _ (Z02 (p:=[.ints .u8 32 (p0)]) rfl (.there .here) rfl)<|Zg (Z0j rfl (fun w hw=>Zbh  ey5 (hG.at hw (by simp))) fun v6 Msv6 R7=>?_)))
 obtain ⟨v8,ms9,rfl,rfl,O10⟩:=R7
 refine Z8 rfl<|Z6 _ (Z1j rfl rfl)<|Z6 _ (Z1j rfl rfl)<|Zg (Zw fun b11 hb11=>Zg (Zs (q:=[.ints .u8 32 (y5.1)]) rfl rfl rfl rfl rfl .here<|Z8 rfl<|Z1<|Z0<|oH h fun y13 ey13 h=>oH h fun y14 ey14 h=>Z2<|Z6 _ (Z02 (p:=[.ints .u8 32 (y5.1)]) rfl .here rfl)<|Z6 _ (Z1a rfl (Z71 ey13))<|Z6 _ (Z1a rfl (Z5z ey14))<|Zg (Zs (q:=[.ints .u8 32 (y14)]) rfl rfl rfl rfl rfl (.there (.app .here))<|Z1<|Zk ?_)))
 revert h; refine Zz fun h=>?_
 subst h
 exact ⟨_,(.cons (.agg rfl (.there (.app .here)) rfl) .nil),rfl⟩
def Z5d (y4:(Bool×List Int)) (k55:(Int)→Option (Int×Bool)) (k83:(Int)→(Int)→Option (Int×Bool)) (i81:Int) (i82:Int):Option (Int×Bool) :=
 br ((decide (i82<(y4.2.length:Int)))) (
 chk (inB i82 y4.2.length) <|
 bnd (y4.2.getD (i82).toNat 0) fun z89 =>
 bnd (IntKind.wrap .u64 z89) fun z91 =>
 bnd (IntKind.wrap .i64 (8*i82)) fun z92 =>
 chk (decide (0≤z92)) <|
 bnd (Zq .u64 z91 z92) fun z94 =>
 bnd (Z4 .or .u64 i81 z94) fun z95 =>
 bnd (IntKind.wrap .i64 (i82+1)) fun z97 =>
 k83 z95 z97
 ) (
 k55 i81
 )
def Z2o (y4:(Bool×List Int)) (k55:(Int)→Option (Int×Bool)):Nat→(Int)→(Int)→Option (Int×Bool)
  | 0,_,_=>none
  | n+1,i81,i82=>Z5d y4 k55 (Z2o y4 k55 n) i81 i82
def Z57 (p0:List Int) (p1:Int):Option (Int×Bool) :=
 opt (Z5y p0 p1) fun y4 =>
 jn (fun (i54:Int)=>some (i54,(!y4.1))) fun k55=>Z2o y4 k55 big 0 0
theorem Z6y {W:World} {r:Int×Bool} {p0:List Int} {p1:Int} {v0:Value} (h:Z57 p0 p1=some r) (A0:RdSl (El.int .u8) W v0 p0) :
    Calls Tryd.prog 80 [v0,.int .i64 (p1)].toArray W (Z56 W (.tuple #[.int .u64 (r.1),.bool (r.2)])):=by
 unfold Z57 at h
 refine Zd mo ok80 rfl ?_
 refine Z0<|Z2<|Z8 rfl<|Z8 rfl<|Z1<|Z0<|Z2<|Z8 rfl<|Z1<|Z0<|oH h fun y4 ey4 h=>Z2<|Z8 rfl<|Z8 rfl<|Zg (Z0j rfl (fun w hw=>Z7j  ey4 ((Z2a A0 Z2m) w hw)) fun v5 Msv5 R6=>?_)
 obtain ⟨_,rfl,rfl,P10,N8,H9⟩:=R6
 refine Z8 rfl<|Z1<|Z0<|Z0<|Z2<|Z8 rfl<|Z6 _ (Z2i rfl P10)<|Z8 rfl<|Z1<|jH h fun k55 qk55 h=>Zo (G:=fun t m=>∃ (i54:Int),k55 i54=some r∧Fit [(6,.int .u64 (i54)),(7,v5)] [] t m) ?_ ?_
 ·refine Zb<|Z01 (fun n84 t m=>∃ (i81:Int) (i82:Int),Z2o y4 k55 n84 i81 i82=some r∧Fit [(6,.int .u64 (i81)),(7,v5),(13,v5),(14,.int .i64 ((y4.2.length:Int))),(15,.int .i64 (i82))] [] t m) big ?_ ?_
  ·exact ⟨0,0,h,⟨⟨rfl,rfl,rfl,rfl,rfl,trivial⟩,.nil⟩⟩
  ·rintro n84 t m ⟨i81,i82,h,hF⟩
   refine Zm hF ?_
   clear hF
   rcases n84 with _ | n84
   · exact Z1c h
   have h:Z5d y4 k55 (Z2o y4 k55 n84) i81 i82=some r:=h
   unfold Z5d at h
   obtain ⟨k83,qk83⟩ : ∃ k,k=Z2o y4 k55 n84:=⟨_,rfl⟩
   try rw [← qk83] at h
   refine Z0<|Z2<|Z6 _ (Za rfl rfl rfl)<|Z1<|Z0<|Z0l h rfl (fun h=>?_) (fun h=>?_)
   ·refine Zl<|Z0<|Zb<|Z0<|cH h fun c88 h=>bH h fun z89 ez89 h=>Z2<|Z8 rfl<|Z6 _ (Z4m rfl rfl P10 c88)<|Z6 _ (iz ez89 (Zau (E:=(El.int .u8)) (s:=[.one (.int .u8 (y4.2.getD (i82).toNat 0))]) rfl (Zpj H9 (Z2a A0 Z2m)) (Z18 c88) rfl rfl))<|Z8 rfl<|Z8 rfl<|Z1<|bH h fun z91 ez91 h=>bH h fun z92 ez92 h=>cH h fun c93 h=>bH h fun z94 ez94 h=>bH h fun z95 ez95 h=>Z2<|Z8 rfl<|Z8 rfl<|Z6 _ (iz ez91 (Z8n rfl))<|Z8 rfl<|Z6 _ (iz ez92 (Za rfl rfl rfl))<|Z6 _ (iz ez94 (Zi7 rfl rfl (of_decide_eq_true c93)))<|Z6 _ (iz ez95 (Za rfl rfl rfl))<|Z8 rfl<|Z1<|bH h fun z97 ez97 h=>Z2<|Z6 _ (iz ez97 (Za rfl rfl rfl))<|Z8 rfl<|Z1 ?_
    rw [qk83] at h
    exact ⟨n84,Nat.lt_succ_self _,z95,z97,h,⟨⟨rfl,rfl,rfl,rfl,rfl,trivial⟩,.nil⟩⟩
   ·exact Z0b _ rfl<|⟨i81,h,⟨⟨rfl,rfl,trivial⟩,.nil⟩⟩
 ·rintro t m ⟨i54,h,hF⟩
  refine Zm hF ?_
  clear hF
  subst qk55
  refine Z0<|Z2<|Z8 rfl<|Z8 rfl<|Z6 _ (Zpf rfl P10 N8)<|Z8 rfl<|Z8 rfl<|Z1<|Zk ?_
  revert h; refine Zz fun h=>?_
  subst h
  exact ⟨_,(.cons (.tmp rfl) (.cons (.tmp rfl) .nil)),rfl⟩
def Z55 (z4:Int) (k66:(List (Int))→OL) (k104:(Int)→(List (Int))→(Int)→OL) (i98:Int) (l101:List (Int)) (i103:Int):OL :=
 br ((decide (i103<((List.replicate (z4).toNat 0:List (Int)).length:Int)))) (
 bnd (IntKind.wrap .u8 i98) fun z110 =>
 chk (inB i103 l101.length) <|
 bnd (Zf7 0 l101 (i103).toNat z110) fun l112 =>
 bnd (Zh .u64 i98 8) fun z116 =>
 bnd (IntKind.wrap .i64 (i103+1)) fun z118 =>
 k104 z116 l112 z118
 ) (
 k66 l101
 )
def Z2e (z4:Int) (k66:(List (Int))→OL):Nat→(Int)→(List (Int))→(Int)→OL
  | 0,_,_,_=>none
  | n+1,i98,l101,i103=>Z55 z4 k66 (Z2e z4 k66 n) i98 l101 i103
def Z6f (p0:Int):OL :=
 opt (Z39) fun y3 =>
 bnd (IntKind.wrap .i64 (Int.tdiv y3 8)) fun z4 =>
 chk (mkB 1 z4 z4) <|
 jn (fun (l64:List (Int))=>some l64) fun k66=>Z2e z4 k66 big p0 (List.replicate (z4).toNat 0:List (Int)) 0
theorem Za7 {W:World} {r:(List Int)} {p0:Int} (h:Z6f p0=some r)  :
    Calls Tryd.prog 100 [.int .u64 (p0)].toArray W (Zek W [] (fun v Ms=>∃ (u0:Value) (M0:List Zc),v=u0∧Ms = [.all M0]∧Z1n (El.int .u8) u0 M0 r)):=by
 unfold Z6f at h
 refine Z0t mo Z06s rfl (Zih _) ?_
 refine Z0<|Z2<|Z8 rfl<|Z1<|Z0<|oH h fun y3 ey3 h=>bH h fun z4 ez4 h=>cH h fun c5 h=>Z2<|Z6 _ (Z1a rfl (Z3j ey3))<|Z6 _ (iz ez4 (Zjn rfl rfl (by decide)))<|Zg (Zfs (E:=(El.int .u8)) rfl rfl rfl c5 fun v6 ms7 O8=>Z8 rfl<|Z1<|Z0<|Z0<|Z2<|Z8 rfl<|Z6 _ (Z2i rfl (Shp.own O8))<|Z8 rfl<|Z1<|jH h fun k66 qk66 h=>Zo (G:=fun t m=>∃ (l64:List (Int)) (v62:Value) (ms63:List Zc),k66 l64=some r∧Z1n (El.int .u8) v62 ms63 l64∧Fit [(3,v62)] (ms63 ++ []) t m) ?_ ?_)
 ·refine Zb<|Z01 (fun n105 t m=>∃ (i98:Int) (l101:List (Int)) (i103:Int) (v99:Value) (ms100:List Zc),Z2e z4 k66 n105 i98 l101 i103=some r∧Z1n (El.int .u8) v99 ms100 l101∧Fit [(0,.int .u64 (i98)),(3,v99),(9,.int .i64 (((List.replicate (z4).toNat 0:List (Int)).length:Int))),(10,.int .i64 (i103))] (ms100 ++ []) t m) big ?_ ?_
  ·exact ⟨p0,(List.replicate (z4).toNat 0:List (Int)),0,v6,ms7,h,O8,⟨⟨rfl,rfl,rfl,rfl,trivial⟩,(.all .here .nil)⟩⟩
  ·rintro n105 t m ⟨i98,l101,i103,v99,ms100,h,O102,hF⟩
   refine Zm hF ?_
   clear hF
   rcases n105 with _ | n105
   · exact Z1c h
   have h:Z55 z4 k66 (Z2e z4 k66 n105) i98 l101 i103=some r:=h
   unfold Z55 at h
   obtain ⟨k104,qk104⟩ : ∃ k,k=Z2e z4 k66 n105:=⟨_,rfl⟩
   try rw [← qk104] at h
   refine Z0<|Z2<|Z6 _ (Za rfl rfl rfl)<|Z1<|Z0<|Z0l h rfl (fun h=>?_) (fun h=>?_)
   ·refine Zl<|Z0<|Zb<|Z0<|Z2<|Z8 rfl<|Z8 rfl<|Z1<|Z0<|bH h fun z110 ez110 h=>cH h fun c111 h=>bH h fun l112 el112 h=>Z2<|Z8 rfl<|Z8 rfl<|Z8 rfl<|Z6 _ (iz ez110 (Z8n rfl))<|Z6 _ (Z4m rfl rfl (Shp.own O102) c111)<|Zg (Zj0 (E:=(El.int .u8)) el112 O102 .here rfl rfl rfl (Z18 c111) fun ms113 O114=>Z1<|bH h fun z116 ez116 h=>Z2<|Z8 rfl<|Z6 _ (iz ez116 (Z76 rfl rfl (by decide)))<|Z8 rfl<|Z1<|bH h fun z118 ez118 h=>Z2<|Z6 _ (iz ez118 (Za rfl rfl rfl))<|Z8 rfl<|Z1 ?_)
    rw [qk104] at h
    exact ⟨n105,Nat.lt_succ_self _,z116,l112,z118,v99,ms113,h,O114,⟨⟨rfl,rfl,rfl,rfl,trivial⟩,(.all .here .nil)⟩⟩
   ·exact Z0b _ rfl<|⟨l101,v99,ms100,h,O102,⟨⟨rfl,trivial⟩,(.all .here .nil)⟩⟩
 ·rintro t m ⟨l64,v62,ms63,h,O65,hF⟩
  refine Zm hF ?_
  clear hF
  subst qk66
  refine Z0<|Z2<|Z8 rfl<|Z8 rfl<|Z1<|Zk ?_
  revert h; refine Zz fun h=>?_
  subst h
  exact ⟨_,_,(.cons (.tmp rfl) .nil),(.all .here .nil),⟨_,rfl,⟨v62,ms63,rfl,rfl,O65⟩⟩⟩
def Z9j (p0:List Int) (k60:(List Int)→OL) (k94:(Int)→(List Int)→OL) (i92:Int) (a93:List Int):OL :=
 br ((decide (i92<4))) (
 chk (inB i92 4) <|
 bnd (p0.getD (i92).toNat 0) fun z100 =>
 bnd (IntKind.wrap .i64 (8*i92)) fun z102 =>
 chk (Zge z102 32 32) <|
 opt (Z6f z100) fun y104 =>
 bnd (wr a93 (z102).toNat (y104.take (32-(z102).toNat))) fun l110 =>
 bnd (IntKind.wrap .i64 (i92+1)) fun z112 =>
 k94 z112 l110
 ) (
 k60 a93
 )
def Z5s (p0:List Int) (k60:(List Int)→OL):Nat→(Int)→(List Int)→OL
  | 0,_,_=>none
  | n+1,i92,a93=>Z9j p0 k60 (Z5s p0 k60 n) i92 a93
def Z4p (p0:List Int):OL :=
 jn (fun (a59:List Int)=>some a59) fun k60=>Z5s p0 k60 big 0 (List.replicate 32 0)
theorem Z7z {W:World} {r:(List Int)} {p0:List Int} (h:Z4p p0=some r)  :
    Calls Tryd.prog 82 [agg [.ints .u64 4 (p0)]].toArray W (Z56 W (agg [.ints .u8 32 (r)])):=by
 unfold Z4p at h
 refine Zd mo ok82 rfl ?_
 refine Z0<|Z2<|Zg (Z14 (s:=[.ints .u64 4 (p0)]) rfl fun b2 hb2=>Zg (Zw fun b3 hb3=>Z1<|Z0<|Z2<|Zg (Zw fun b5 hb5=>Z1<|Z0<|Z0<|Z2<|Z6 _ (Z02 (p:=[.ints .u64 4 (p0)]) rfl (.there (.there .here)) rfl)<|Z8 rfl<|Z1<|jH h fun k60 qk60 h=>Zo (G:=fun t m=>∃ (a59:List Int),k60 a59=some r∧Fit [(2,.pointer (some ⟨b3,0,none⟩)),(3,.pointer (some ⟨b5,0,none⟩))] (ck b5 63 [.ints .u8 32 (a59)]::(ck b3 63 [.ints .u8 32 ((List.replicate 32 0))]::(ck b2 93 [.ints .u64 4 (p0)] :: []))) t m) ?_ ?_)))
 ·refine Zb<|Z01 (fun n95 t m=>∃ (i92:Int) (a93:List Int),Z5s p0 k60 n95 i92 a93=some r∧Fit [(2,.pointer (some ⟨b3,0,none⟩)),(3,.pointer (some ⟨b5,0,none⟩)),(6,agg [.ints .u64 4 (p0)]),(7,.int .i64 (i92))] (ck b5 63 [.ints .u8 32 (a93)]::(ck b3 63 [.ints .u8 32 ((List.replicate 32 0))]::(ck b2 93 [.ints .u64 4 (p0)] :: []))) t m) big ?_ ?_
  ·exact ⟨0,(List.replicate 32 0),h,⟨⟨rfl,rfl,rfl,rfl,trivial⟩,(.one .here (.one .here (.one .here .nil)))⟩⟩
  ·rintro n95 t m ⟨i92,a93,h,hF⟩
   refine Zm hF ?_
   clear hF
   rcases n95 with _ | n95
   · exact Z1c h
   have h:Z9j p0 k60 (Z5s p0 k60 n95) i92 a93=some r:=h
   unfold Z9j at h
   obtain ⟨k94,qk94⟩ : ∃ k,k=Z5s p0 k60 n95:=⟨_,rfl⟩
   try rw [← qk94] at h
   refine Z0<|Z2<|Z6 _ (Za rfl rfl rfl)<|Z1<|Z0<|Z0l h rfl (fun h=>?_) (fun h=>?_)
   ·refine Zl<|Z0<|Zb<|Z0<|cH h fun c99 h=>bH h fun z100 ez100 h=>Z2<|Z8 rfl<|Z6 _ (iz ez100 (Zet (len:=4) rfl rfl (Z1w c99)))<|Z8 rfl<|Z8 rfl<|Z1<|bH h fun z102 ez102 h=>cH h fun c103 h=>oH h fun y104 ey104 h=>bH h fun l110 el110 h=>Zu<|Z7 _ (Z19 rfl)<|Z7 _ (iz ez102 (Za rfl rfl rfl))<|Z7 _ (Z90 rfl (.yes rfl) .no .no (by simp) (cut4 c103))<|Z7 _ (Z19 rfl)<|Z7h (Z0j rfl (fun w hw=>Za7  ey104 ) fun v105 Msv105 R106=>?_)
    obtain ⟨_,ms108,rfl,rfl,O109⟩:=R106
    refine ⟨(by repeat (first | exact Sup.refl _ | apply Sup.cons | apply Sup.app)),Z2h rfl (Zea (q:=[.ints .u8 32 (l110)]) (lo:=(z102).toNat) (hi:=32) (mz:=32) (base:=0) el110 rfl rfl (Z1x O109 .here) rfl (cutn c103) rfl (.app .here) (Z03 (bH h fun z112 ez112 h=>Z2 (Z6 _ (iz ez112 (Za rfl rfl rfl)) (Z8 rfl (Z1 ?_))))))⟩
    rw [qk94] at h
    exact ⟨n95,Nat.lt_succ_self _,z112,l110,h,⟨⟨rfl,rfl,rfl,rfl,trivial⟩,(.one (.app .here) (.one (.app .here) (.one (.app .here) .nil)))⟩⟩
   ·exact Z0b _ rfl<|⟨a93,h,⟨⟨rfl,rfl,trivial⟩,(.one .here (.one .here (.one .here .nil)))⟩⟩
 ·rintro t m ⟨a59,h,hF⟩
  refine Zm hF ?_
  clear hF
  subst qk60
  refine Z0<|Z2<|Z6 _ (Z02 (p:=[.ints .u8 32 (a59)]) rfl .here rfl)<|Zg (Zs (q:=[.ints .u8 32 (a59)]) rfl rfl rfl rfl rfl (.there .here)<|Z1<|Zk ?_)
  revert h; refine Zz fun h=>?_
  subst h
  exact ⟨_,(.cons (.agg rfl (.there .here) rfl) .nil),rfl⟩
def Z5r (p1:List Int) (k57:(Int)→(List Int)→Option ((List Int)×Int)) (k89:(Int)→(Int)→(List Int)→Option ((List Int)×Int)) (i86:Int) (i87:Int) (a88:List Int):Option ((List Int)×Int) :=
 br ((decide (i87<4))) (
 chk (inB i87 4) <|
 chk (inB i87 4) <|
 bnd (a88.getD (i87).toNat 0) fun z97 =>
 bnd (p1.getD (i87).toNat 0) fun z98 =>
 chk (Zq0 z97 z98 i86) <|
 bnd (Zs8 z97 z98 i86) fun z100 =>
 bnd (Zs7 z97 z98 i86) fun z101 =>
 chk (inB i87 4) <|
 bnd (Z4h a88 (i87).toNat z100) fun l103 =>
 bnd (IntKind.wrap .i64 (i87+1)) fun z105 =>
 k89 z101 z105 l103
 ) (
 k57 i86 a88
 )
def Z27 (p1:List Int) (k57:(Int)→(List Int)→Option ((List Int)×Int)):Nat→(Int)→(Int)→(List Int)→Option ((List Int)×Int)
  | 0,_,_,_=>none
  | n+1,i86,i87,a88=>Z5r p1 k57 (Z27 p1 k57 n) i86 i87 a88
def Z4n (p0:List Int) (p1:List Int):Option ((List Int)×Int) :=
 jn (fun (i55:Int) (a56:List Int)=>some (a56,i55)) fun k57=>Z27 p1 k57 big 0 0 p0
theorem Z7y {W:World} {r:(List Int)×Int} {p0:List Int} {p1:List Int} (h:Z4n p0 p1=some r)  :
    Calls Tryd.prog 43 [agg [.ints .u64 4 (p0)],agg [.ints .u64 4 (p1)]].toArray W (Z56 W (.tuple #[agg [.ints .u64 4 (r.1)],.int .u64 (r.2)])):=by
 unfold Z4n at h
 refine Zd mo ok43 rfl ?_
 refine Z0<|Z2<|Zg (Z14 (s:=[.ints .u64 4 (p0)]) rfl fun b2 hb2=>Zg (Z14 (s:=[.ints .u64 4 (p1)]) rfl fun b3 hb3=>Zg (Zw fun b4 hb4=>Z8 rfl<|Z1<|Z0<|Z2<|Z8 rfl<|Z1<|Z0<|Z0<|Z2<|Z8 rfl<|Z1<|jH h fun k57 qk57 h=>Zo (G:=fun t m=>∃ (i55:Int) (a56:List Int),k57 i55 a56=some r∧Fit [(2,.pointer (some ⟨b2,0,none⟩)),(4,.pointer (some ⟨b4,0,none⟩)),(6,.int .u64 (i55))] (ck b4 93 [.ints .u64 4 ((List.replicate 4 0))]::(ck b3 93 [.ints .u64 4 (p1)]::(ck b2 93 [.ints .u64 4 (a56)] :: []))) t m) ?_ ?_)))
 ·refine Zb<|Z01 (fun n90 t m=>∃ (i86:Int) (i87:Int) (a88:List Int),Z27 p1 k57 n90 i86 i87 a88=some r∧Fit [(2,.pointer (some ⟨b2,0,none⟩)),(3,.pointer (some ⟨b3,0,none⟩)),(4,.pointer (some ⟨b4,0,none⟩)),(6,.int .u64 (i86)),(8,.int .i64 (i87))] (ck b4 93 [.ints .u64 4 ((List.replicate 4 0))]::(ck b3 93 [.ints .u64 4 (p1)]::(ck b2 93 [.ints .u64 4 (a88)] :: []))) t m) big ?_ ?_
  ·exact ⟨0,0,p0,h,⟨⟨rfl,rfl,rfl,rfl,rfl,trivial⟩,(.one .here (.one .here (.one .here .nil)))⟩⟩
  ·rintro n90 t m ⟨i86,i87,a88,h,hF⟩
   refine Zm hF ?_
   clear hF
   rcases n90 with _ | n90
   · exact Z1c h
   have h:Z5r p1 k57 (Z27 p1 k57 n90) i86 i87 a88=some r:=h
   unfold Z5r at h
   obtain ⟨k89,qk89⟩ : ∃ k,k=Z27 p1 k57 n90:=⟨_,rfl⟩
   try rw [← qk89] at h
   refine Z0<|Z2<|Z6 _ (Za rfl rfl rfl)<|Z1<|Z0<|Z0l h rfl (fun h=>?_) (fun h=>?_)
   ·refine Zl<|Z0<|Zb<|Z0<|Z2<|Z8 rfl<|Z8 rfl<|Z1<|cH h fun c95 h=>cH h fun c96 h=>bH h fun z97 ez97 h=>bH h fun z98 ez98 h=>cH h fun c99 h=>bH h fun z100 ez100 h=>bH h fun z101 ez101 h=>cH h fun c102 h=>bH h fun l103 el103 h=>Zu<|Z7 _ (Z19 rfl)<|Z7 _ (Z19 rfl)<|Z7 _ (Z3b rfl rfl (Z1w c95))<|Z7 _ (Z19 rfl)<|Z7 _ (Z3b rfl rfl (Z1w c96))<|Z7 _ (Z19 rfl)<|Zn _ (iz ez97 (Z8v (base:=0) rfl (.there (.there .here)) rfl (Z18 c95)))<|Zn _ (iz ez98 (Z8v (base:=0) rfl (.there .here) rfl (Z18 c96)))<|Z7 _ (Zc2 rfl Zum (xsub ez100 ez101 c99))<|Z7 _ (Z19 rfl)<|Z7 _ (Z1j rfl rfl)<|Z7 _ (Z1j rfl rfl)<|Z7 _ (Z3b rfl rfl (Z1w c102))<|Z2h rfl (Z5h (q:=[.ints .u64 4 (l103)]) (base:=0) el103 rfl rfl rfl (Z18 c102) rfl (.there (.there .here))<|Z7 _ (Z19 rfl)<|Z03<|bH h fun z105 ez105 h=>Z2<|Z6 _ (iz ez105 (Za rfl rfl rfl))<|Z8 rfl<|Z1 ?_)
    rw [qk89] at h
    exact ⟨n90,Nat.lt_succ_self _,z101,z105,l103,h,⟨⟨rfl,rfl,rfl,rfl,rfl,trivial⟩,(.one .here (.one .here (.one .here .nil)))⟩⟩
   ·exact Z0b _ rfl<|⟨i86,a88,h,⟨⟨rfl,rfl,rfl,trivial⟩,(.one .here (.one .here (.one .here .nil)))⟩⟩
 ·rintro t m ⟨i55,a56,h,hF⟩
  refine Zm hF ?_
  clear hF
  subst qk57
  refine Z0<|Z2<|Z6 _ (Z02 (p:=[.ints .u64 4 (a56)]) rfl (.there (.there .here)) rfl)<|Z8 rfl<|Zg (Zs (q:=[.ints .u64 4 (a56)]) rfl rfl rfl rfl rfl .here<|Z8 rfl<|Z1<|Zk ?_)
  revert h; refine Zz fun h=>?_
  subst h
  exact ⟨_,(.cons (.agg rfl .here rfl) (.cons (.tmp rfl) .nil)),rfl⟩
def Z6a (p1:List Int) (k57:(Int)→(List Int)→Option ((List Int)×Int)) (k89:(Int)→(Int)→(List Int)→Option ((List Int)×Int)) (i86:Int) (i87:Int) (a88:List Int):Option ((List Int)×Int) :=
 br ((decide (i87<4))) (
 chk (inB i87 4) <|
 chk (inB i87 4) <|
 bnd (a88.getD (i87).toNat 0) fun z97 =>
 bnd (p1.getD (i87).toNat 0) fun z98 =>
 chk (Zbi z97 z98 i86) <|
 bnd (Z8b z97 z98 i86) fun z100 =>
 bnd (Zbp z97 z98 i86) fun z101 =>
 chk (inB i87 4) <|
 bnd (Z4h a88 (i87).toNat z100) fun l103 =>
 bnd (IntKind.wrap .i64 (i87+1)) fun z105 =>
 k89 z101 z105 l103
 ) (
 k57 i86 a88
 )
def Z2l (p1:List Int) (k57:(Int)→(List Int)→Option ((List Int)×Int)):Nat→(Int)→(Int)→(List Int)→Option ((List Int)×Int)
  | 0,_,_,_=>none
  | n+1,i86,i87,a88=>Z6a p1 k57 (Z2l p1 k57 n) i86 i87 a88
def Z42 (p0:List Int) (p1:List Int):Option ((List Int)×Int) :=
 jn (fun (i55:Int) (a56:List Int)=>some (a56,i55)) fun k57=>Z2l p1 k57 big 0 0 p0
theorem Z6d {W:World} {r:(List Int)×Int} {p0:List Int} {p1:List Int} (h:Z42 p0 p1=some r)  :
    Calls Tryd.prog 89 [agg [.ints .u64 4 (p0)],agg [.ints .u64 4 (p1)]].toArray W (Z56 W (.tuple #[agg [.ints .u64 4 (r.1)],.int .u64 (r.2)])):=by
 unfold Z42 at h
 refine Zd mo ok89 rfl ?_
 refine Z0<|Z2<|Zg (Z14 (s:=[.ints .u64 4 (p0)]) rfl fun b2 hb2=>Zg (Z14 (s:=[.ints .u64 4 (p1)]) rfl fun b3 hb3=>Zg (Zw fun b4 hb4=>Z8 rfl<|Z1<|Z0<|Z2<|Z8 rfl<|Z1<|Z0<|Z0<|Z2<|Z8 rfl<|Z1<|jH h fun k57 qk57 h=>Zo (G:=fun t m=>∃ (i55:Int) (a56:List Int),k57 i55 a56=some r∧Fit [(2,.pointer (some ⟨b2,0,none⟩)),(4,.pointer (some ⟨b4,0,none⟩)),(6,.int .u64 (i55))] (ck b4 93 [.ints .u64 4 ((List.replicate 4 0))]::(ck b3 93 [.ints .u64 4 (p1)]::(ck b2 93 [.ints .u64 4 (a56)] :: []))) t m) ?_ ?_)))
 ·refine Zb<|Z01 (fun n90 t m=>∃ (i86:Int) (i87:Int) (a88:List Int),Z2l p1 k57 n90 i86 i87 a88=some r∧Fit [(2,.pointer (some ⟨b2,0,none⟩)),(3,.pointer (some ⟨b3,0,none⟩)),(4,.pointer (some ⟨b4,0,none⟩)),(6,.int .u64 (i86)),(8,.int .i64 (i87))] (ck b4 93 [.ints .u64 4 ((List.replicate 4 0))]::(ck b3 93 [.ints .u64 4 (p1)]::(ck b2 93 [.ints .u64 4 (a88)] :: []))) t m) big ?_ ?_
  ·exact ⟨0,0,p0,h,⟨⟨rfl,rfl,rfl,rfl,rfl,trivial⟩,(.one .here (.one .here (.one .here .nil)))⟩⟩
  ·rintro n90 t m ⟨i86,i87,a88,h,hF⟩
   refine Zm hF ?_
   clear hF
   rcases n90 with _ | n90
   · exact Z1c h
   have h:Z6a p1 k57 (Z2l p1 k57 n90) i86 i87 a88=some r:=h
   unfold Z6a at h
   obtain ⟨k89,qk89⟩ : ∃ k,k=Z2l p1 k57 n90:=⟨_,rfl⟩
   try rw [← qk89] at h
   refine Z0<|Z2<|Z6 _ (Za rfl rfl rfl)<|Z1<|Z0<|Z0l h rfl (fun h=>?_) (fun h=>?_)
   ·refine Zl<|Z0<|Zb<|Z0<|Z2<|Z8 rfl<|Z8 rfl<|Z1<|cH h fun c95 h=>cH h fun c96 h=>bH h fun z97 ez97 h=>bH h fun z98 ez98 h=>cH h fun c99 h=>bH h fun z100 ez100 h=>bH h fun z101 ez101 h=>cH h fun c102 h=>bH h fun l103 el103 h=>Zu<|Z7 _ (Z19 rfl)<|Z7 _ (Z19 rfl)<|Z7 _ (Z3b rfl rfl (Z1w c95))<|Z7 _ (Z19 rfl)<|Z7 _ (Z3b rfl rfl (Z1w c96))<|Z7 _ (Z19 rfl)<|Zn _ (iz ez97 (Z8v (base:=0) rfl (.there (.there .here)) rfl (Z18 c95)))<|Zn _ (iz ez98 (Z8v (base:=0) rfl (.there .here) rfl (Z18 c96)))<|Z7 _ (Zc2 rfl Zd8 (Zwa ez100 ez101 c99))<|Z7 _ (Z19 rfl)<|Z7 _ (Z1j rfl rfl)<|Z7 _ (Z1j rfl rfl)<|Z7 _ (Z3b rfl rfl (Z1w c102))<|Z2h rfl (Z5h (q:=[.ints .u64 4 (l103)]) (base:=0) el103 rfl rfl rfl (Z18 c102) rfl (.there (.there .here))<|Z7 _ (Z19 rfl)<|Z03<|bH h fun z105 ez105 h=>Z2<|Z6 _ (iz ez105 (Za rfl rfl rfl))<|Z8 rfl<|Z1 ?_)
    rw [qk89] at h
    exact ⟨n90,Nat.lt_succ_self _,z101,z105,l103,h,⟨⟨rfl,rfl,rfl,rfl,rfl,trivial⟩,(.one .here (.one .here (.one .here .nil)))⟩⟩
   ·exact Z0b _ rfl<|⟨i86,a88,h,⟨⟨rfl,rfl,rfl,trivial⟩,(.one .here (.one .here (.one .here .nil)))⟩⟩
 ·rintro t m ⟨i55,a56,h,hF⟩
  refine Zm hF ?_
  clear hF
  subst qk57
  refine Z0<|Z2<|Z6 _ (Z02 (p:=[.ints .u64 4 (a56)]) rfl (.there (.there .here)) rfl)<|Z8 rfl<|Zg (Zs (q:=[.ints .u64 4 (a56)]) rfl rfl rfl rfl rfl .here<|Z8 rfl<|Z1<|Zk ?_)
  revert h; refine Zz fun h=>?_
  subst h
  exact ⟨_,(.cons (.agg rfl .here rfl) (.cons (.tmp rfl) .nil)),rfl⟩
def Z5q (k297:(List Int)→OL) (a491:List Int) (k541:Unit→OL) (k570:(Int)→OL) (i569:Int):OL :=
 br ((decide (i569≥0))) (
 chk (inB i569 4) <|
 chk (inB i569 4) <|
 bnd (a491.getD (i569).toNat 0) fun z577 =>
 bnd (G_order.getD (i569).toNat 0) fun z578 =>
 br ((decide (z577<z578))) (
 k297 a491
 ) (
 chk (inB i569 4) <|
 chk (inB i569 4) <|
 bnd (a491.getD (i569).toNat 0) fun z583 =>
 bnd (G_order.getD (i569).toNat 0) fun z584 =>
 br ((decide (z583>z584))) (
 k541 ()
 ) (
 bnd (IntKind.wrap .i64 (i569-1)) fun z587 =>
 k570 z587
 )
 )
 ) (
 k541 ()
 )
def Z0a (k297:(List Int)→OL) (a491:List Int) (k541:Unit→OL):Nat→(Int)→OL
  | 0,_=>none
  | n+1,i569=>Z5q k297 a491 k541 (Z0a k297 a491 k541 n) i569
def Z5p (k297:(List Int)→OL) (k492:(List Int)→OL) (a491:List Int):OL :=
 jn (fun (_:Unit)=>opt (Z4n a491 G_order) fun y589 =>
 k492 y589.1) fun k541=>Z0a k297 a491 k541 big 3
def Z2s (k297:(List Int)→OL):Nat→(List Int)→OL
  | 0,_=>none
  | n+1,a491=>Z5p k297 (Z2s k297 n) a491
def Z5o (p0:List Int):OL :=
 jn (fun (a296:List Int)=>some a296) fun k297=>Z2s k297 big p0
theorem Zak {W:World} {r:(List Int)} {p0:List Int} (h:Z5o p0=some r) (hG:Globs W) :
    Calls Tryd.prog 91 [agg [.ints .u64 4 (p0)]].toArray W (Z56 W (agg [.ints .u64 4 (r)])):=by
 unfold Z5o at h
 refine Zd mo ok91 rfl ?_
 refine Z0<|Z2<|Zg (Z14 (s:=[.ints .u64 4 (p0)]) rfl fun b2 hb2=>Zg (Zw fun b3 hb3=>Z1<|Zsf<|Z0<|Z02b<|Z0<|jH h fun k297 qk297 h=>Zo (G:=fun t m=>∃ (a296:List Int),k297 a296=some r∧Fit [(1,.pointer (some ⟨b2,0,none⟩)),(2,.pointer (some ⟨b3,0,none⟩))] (ck b3 93 [.ints .u64 4 ((List.replicate 4 0))]::(ck b2 93 [.ints .u64 4 (a296)] :: [])) t m) ?_ ?_))
 ·refine Zb<|Z01 (fun n493 t m=>∃ (a491:List Int),Z2s k297 n493 a491=some r∧Fit [(1,.pointer (some ⟨b2,0,none⟩)),(2,.pointer (some ⟨b3,0,none⟩))] (ck b3 93 [.ints .u64 4 ((List.replicate 4 0))]::(ck b2 93 [.ints .u64 4 (a491)] :: [])) t m) big ?_ ?_
  ·exact ⟨p0,h,⟨⟨rfl,rfl,trivial⟩,(.one .here (.one .here .nil))⟩⟩
  ·rintro n493 t m ⟨a491,h,hF⟩
   refine Zm hF ?_
   clear hF
   rcases n493 with _ | n493
   · exact Z1c h
   have h:Z5p k297 (Z2s k297 n493) a491=some r:=h
   unfold Z5p at h
   obtain ⟨k492,qk492⟩ : ∃ k,k=Z2s k297 n493:=⟨_,rfl⟩
   try rw [← qk492] at h
   refine Zb<|Z0<|Z0<|Z2<|Z8 rfl<|Z1<|jH h fun k541 qk541 h=>Zo (G:=fun t m=>k541 ()=some r∧Fit [(1,.pointer (some ⟨b2,0,none⟩)),(2,.pointer (some ⟨b3,0,none⟩))] (ck b3 93 [.ints .u64 4 ((List.replicate 4 0))]::(ck b2 93 [.ints .u64 4 (a491)] :: [])) t m) ?_ ?_
   ·refine Zb<|Z01 (fun n571 t m=>∃ (i569:Int),Z0a k297 a491 k541 n571 i569=some r∧Fit [(1,.pointer (some ⟨b2,0,none⟩)),(2,.pointer (some ⟨b3,0,none⟩)),(3,.int .i64 (i569))] (ck b3 93 [.ints .u64 4 ((List.replicate 4 0))]::(ck b2 93 [.ints .u64 4 (a491)] :: [])) t m) big ?_ ?_
    ·exact ⟨3,h,⟨⟨rfl,rfl,rfl,trivial⟩,(.one .here (.one .here .nil))⟩⟩
    ·rintro n571 t m ⟨i569,h,hF⟩
     refine Zm hF ?_
     clear hF
     rcases n571 with _ | n571
     · exact Z1c h
     have h:Z5q k297 a491 k541 (Z0a k297 a491 k541 n571) i569=some r:=h
     unfold Z5q at h
     obtain ⟨k570,qk570⟩ : ∃ k,k=Z0a k297 a491 k541 n571:=⟨_,rfl⟩
     try rw [← qk570] at h
     refine Z0<|Z0<|Z2<|Z8 rfl<|Z6 _ (Za rfl rfl rfl)<|Z1<|Z0l h rfl (fun h=>?_) (fun h=>?_)
     ·refine Zl<|Z0<|Zb<|Z0<|Z0<|cH h fun c575 h=>cH h fun c576 h=>bH h fun z577 ez577 h=>bH h fun z578 ez578 h=>Zu<|Z7 _ (Z19 rfl)<|Z7 _ (Z3b rfl rfl (Z1w c575))<|Z7 _ (Z19 rfl)<|Z7 _ (Z3b rfl rfl (Z1w c576))<|Zn _ (iz ez577 (Z8v (base:=0) rfl (.there .here) rfl (Z18 c575)))<|Zn _ (iz ez578 (Zt9 rfl (hG.g0) (by simp) (Z18 c576)))<|Z7 _ (Za rfl rfl rfl)<|Z03<|Z0l h rfl (fun h=>?_) (fun h=>?_)
      ·exact Z0b _ rfl<|⟨a491,h,⟨⟨rfl,rfl,trivial⟩,(.one .here (.one .here .nil))⟩⟩
      ·refine Zl<|Z0<|cH h fun c581 h=>cH h fun c582 h=>bH h fun z583 ez583 h=>bH h fun z584 ez584 h=>Zu<|Z7 _ (Z19 rfl)<|Z7 _ (Z3b rfl rfl (Z1w c581))<|Z7 _ (Z19 rfl)<|Z7 _ (Z3b rfl rfl (Z1w c582))<|Zn _ (iz ez583 (Z8v (base:=0) rfl (.there .here) rfl (Z18 c581)))<|Zn _ (iz ez584 (Zt9 rfl (hG.g0) (by simp) (Z18 c582)))<|Z7 _ (Za rfl rfl rfl)<|Z03<|Z0l h rfl (fun h=>?_) (fun h=>?_)
       ·exact Z0b _ rfl<|⟨h,⟨⟨rfl,rfl,trivial⟩,(.one .here (.one .here .nil))⟩⟩
       ·refine Zl<|bH h fun z587 ez587 h=>Z2<|Z8 rfl<|Z6 _ (iz ez587 (Za rfl rfl rfl))<|Z8 rfl<|Z1 ?_
        rw [qk570] at h
        exact ⟨n571,Nat.lt_succ_self _,z587,h,⟨⟨rfl,rfl,rfl,trivial⟩,(.one .here (.one .here .nil))⟩⟩
     ·exact Z0b _ rfl<|⟨h,⟨⟨rfl,rfl,trivial⟩,(.one .here (.one .here .nil))⟩⟩
   ·rintro t m ⟨h,hF⟩
    refine Zm hF ?_
    clear hF
    subst qk541
    refine oH h fun y589 ey589 h=>Z2<|Z6 _ (Z02 (p:=[.ints .u64 4 (a491)]) rfl (.there .here) rfl)<|Z6 _ (Zn6 (o0:=0) (off:=0) rfl (hG.g0) (by simp) rfl)<|Z6 _ (Z1a rfl (Z7y ey589))<|Z8 rfl<|Z6 _ (Z1j rfl rfl)<|Z6 _ (Z1j rfl rfl)<|Zg (Zs (q:=[.ints .u64 4 (y589.1)]) rfl rfl rfl rfl rfl (.there .here)<|Z1 ?_)
    rw [qk492] at h
    exact ⟨n493,Nat.lt_succ_self _,y589.1,h,⟨⟨rfl,rfl,trivial⟩,(.one .here (.one .here .nil))⟩⟩
 ·rintro t m ⟨a296,h,hF⟩
  refine Zm hF ?_
  clear hF
  subst qk297
  refine Z0<|Z2<|Z6 _ (Z02 (p:=[.ints .u64 4 (a296)]) rfl (.there .here) rfl)<|Zg (Zs (q:=[.ints .u64 4 (a296)]) rfl rfl rfl rfl rfl .here<|Z1<|Zk ?_)
  revert h; refine Zz fun h=>?_
  subst h
  exact ⟨_,(.cons (.agg rfl .here rfl) .nil),rfl⟩
def Z3g (p1:List Int) (i1130:Int) (z1137:Int) (k1245:(List (Int))→(Int)→OL) (k1315:(List (Int))→(Int)→(Int)→OL) (l1311:List (Int)) (i1313:Int) (i1314:Int):OL :=
 br ((decide (i1314<(p1.length:Int)))) (
 chk (inB i1314 p1.length) <|
 bnd (p1.getD (i1314).toNat 0) fun z1321 =>
 opt (Z4d z1137 z1321) fun y1323 =>
 bnd (IntKind.wrap .i64 (i1130+i1314)) fun z1325 =>
 chk (inB z1325 l1311.length) <|
 bnd (l1311.getD (z1325).toNat 0) fun z1327 =>
 chk (Zbi y1323.2 z1327 0) <|
 bnd (Z8b y1323.2 z1327 0) fun z1329 =>
 bnd (Zbp y1323.2 z1327 0) fun z1330 =>
 bnd (IntKind.wrap .u64 (y1323.1+z1330)) fun z1332 =>
 chk (Zbi z1329 i1313 0) <|
 bnd (Z8b z1329 i1313 0) fun z1335 =>
 bnd (Zbp z1329 i1313 0) fun z1336 =>
 bnd (IntKind.wrap .i64 (i1130+i1314)) fun z1338 =>
 bnd (IntKind.wrap .u64 (z1332+z1336)) fun z1339 =>
 chk (inB z1338 l1311.length) <|
 bnd (Zf7 0 l1311 (z1338).toNat z1335) fun l1341 =>
 bnd (IntKind.wrap .i64 (i1314+1)) fun z1345 =>
 k1315 l1341 z1339 z1345
 ) (
 k1245 l1311 i1313
 )
def Z1f (p1:List Int) (i1130:Int) (z1137:Int) (k1245:(List (Int))→(Int)→OL):Nat→(List (Int))→(Int)→(Int)→OL
  | 0,_,_,_=>none
  | n+1,l1311,i1313,i1314=>Z3g p1 i1130 z1137 k1245 (Z1f p1 i1130 z1137 k1245 n) l1311 i1313 i1314
def Z3f (p0:List Int) (p1:List Int) (k683:(List (Int))→OL) (k1131:(List (Int))→(Int)→OL) (l1128:List (Int)) (i1130:Int):OL :=
 br ((decide (i1130<(p0.length:Int)))) (
 chk (inB i1130 p0.length) <|
 bnd (p0.getD (i1130).toNat 0) fun z1137 =>
 jn (fun (l1242:List (Int)) (i1244:Int)=>bnd (IntKind.wrap .i64 (i1130+(p1.length:Int))) fun z1347 =>
 chk (inB z1347 l1242.length) <|
 bnd (Zf7 0 l1242 (z1347).toNat i1244) fun l1349 =>
 bnd (IntKind.wrap .i64 (i1130+1)) fun z1353 =>
 k1131 l1349 z1353) fun k1245=>Z1f p1 i1130 z1137 k1245 big l1128 0 0
 ) (
 k683 l1128
 )
def Z1e (p0:List Int) (p1:List Int) (k683:(List (Int))→OL):Nat→(List (Int))→(Int)→OL
  | 0,_,_=>none
  | n+1,l1128,i1130=>Z3f p0 p1 k683 (Z1e p0 p1 k683 n) l1128 i1130
def Z4q (p0:List Int) (p1:List Int):OL :=
 bnd (IntKind.wrap .i64 ((p0.length:Int)+(p1.length:Int))) fun z3 =>
 chk (mkB 8 z3 z3) <|
 jn (fun (l681:List (Int))=>some l681) fun k683=>Z1e p0 p1 k683 big (List.replicate (z3).toNat 0:List (Int)) 0
theorem Zal {W:World} {r:(List Int)} {p0:List Int} {p1:List Int} {v0:Value} {v1:Value} (h:Z4q p0 p1=some r) (A0:RdSl (El.int .u64) W v0 p0) (A1:RdSl (El.int .u64) W v1 p1) :
    Calls Tryd.prog 92 [v0,v1].toArray W (Zek W [] (fun v Ms=>∃ (u0:Value) (M0:List Zc),v=u0∧Ms = [.all M0]∧Z1n (El.int .u64) u0 M0 r)):=by
 unfold Z4q at h
 refine Z0t mo ok92 rfl (Zih _) ?_
 refine Z0<|Z2<|Z8 rfl<|Z1<|Z0<|bH h fun z3 ez3 h=>cH h fun c4 h=>Z2<|Z8 rfl<|Z6 _ (Z2i rfl (Shp.rd A0))<|Z8 rfl<|Z6 _ (Z2i rfl (Shp.rd A1))<|Z6 _ (iz ez3 (Za rfl rfl rfl))<|Zg (Zfs (E:=(El.int .u64)) rfl rfl rfl c4 fun v5 ms6 O7=>Z8 rfl<|Z1<|Z0<|Z0<|Z2<|Z8 rfl<|Z6 _ (Z2i rfl (Shp.rd A0))<|Z8 rfl<|Z1<|jH h fun k683 qk683 h=>Zo (G:=fun t m=>∃ (l681:List (Int)) (v679:Value) (ms680:List Zc),k683 l681=some r∧Z1n (El.int .u64) v679 ms680 l681∧Fit [(5,v679)] (ms680 ++ []) t m) ?_ ?_)
 ·refine Zb<|Z01 (fun n1132 t m=>∃ (l1128:List (Int)) (i1130:Int) (v1126:Value) (ms1127:List Zc),Z1e p0 p1 k683 n1132 l1128 i1130=some r∧Z1n (El.int .u64) v1126 ms1127 l1128∧Fit [(1,v1),(5,v1126),(20,v0),(21,.int .i64 ((p0.length:Int))),(22,.int .i64 (i1130))] (ms1127 ++ []) t m) big ?_ ?_
  ·exact ⟨(List.replicate (z3).toNat 0:List (Int)),0,v5,ms6,h,O7,⟨⟨rfl,rfl,rfl,rfl,rfl,trivial⟩,(.all .here .nil)⟩⟩
  ·rintro n1132 t m ⟨l1128,i1130,v1126,ms1127,h,O1129,hF⟩
   refine Zm hF ?_
   clear hF
   rcases n1132 with _ | n1132
   · exact Z1c h
   have h:Z3f p0 p1 k683 (Z1e p0 p1 k683 n1132) l1128 i1130=some r:=h
   unfold Z3f at h
   obtain ⟨k1131,qk1131⟩ : ∃ k,k=Z1e p0 p1 k683 n1132:=⟨_,rfl⟩
   try rw [← qk1131] at h
   refine Z0<|Z2<|Z6 _ (Za rfl rfl rfl)<|Z1<|Z0<|Z0l h rfl (fun h=>?_) (fun h=>?_)
   ·refine Zl<|Z0<|Zb<|Z0<|cH h fun c1136 h=>bH h fun z1137 ez1137 h=>Z2<|Z8 rfl<|Z6 _ (Z4m rfl rfl (Shp.rd A0) c1136)<|Z6 _ (iz ez1137 (Zau (E:=(El.int .u64)) (s:=[.one (.int .u64 (p0.getD (i1130).toNat 0))]) rfl (Z2a A0 Z2m) (Z18 c1136) rfl rfl))<|Z8 rfl<|Z8 rfl<|Z1<|Z0<|Z2<|Z8 rfl<|Z1<|Z0<|Z0<|Z2<|Z8 rfl<|Z6 _ (Z2i rfl (Shp.rd A1))<|Z8 rfl<|Z1<|jH h fun k1245 qk1245 h=>Zo (G:=fun t m=>∃ (l1242:List (Int)) (i1244:Int) (v1240:Value) (ms1241:List Zc),k1245 l1242 i1244=some r∧Z1n (El.int .u64) v1240 ms1241 l1242∧Fit [(1,v1),(5,v1240),(6,.int .i64 (i1130)),(8,.int .u64 (i1244)),(20,v0),(21,.int .i64 ((p0.length:Int))),(22,.int .i64 (i1130))] (ms1241 ++ []) t m) ?_ ?_
    ·refine Zb<|Z01 (fun n1316 t m=>∃ (l1311:List (Int)) (i1313:Int) (i1314:Int) (v1309:Value) (ms1310:List Zc),Z1f p1 i1130 z1137 k1245 n1316 l1311 i1313 i1314=some r∧Z1n (El.int .u64) v1309 ms1310 l1311∧Fit [(1,v1),(5,v1309),(6,.int .i64 (i1130)),(7,.int .u64 (z1137)),(8,.int .u64 (i1313)),(20,v0),(21,.int .i64 ((p0.length:Int))),(22,.int .i64 (i1130)),(27,v1),(28,.int .i64 ((p1.length:Int))),(29,.int .i64 (i1314))] (ms1310 ++ []) t m) big ?_ ?_
     ·exact ⟨l1128,0,0,v1126,ms1127,h,O1129,⟨⟨rfl,rfl,rfl,rfl,rfl,rfl,rfl,rfl,rfl,rfl,rfl,trivial⟩,(.all .here .nil)⟩⟩
     ·rintro n1316 t m ⟨l1311,i1313,i1314,v1309,ms1310,h,O1312,hF⟩
      refine Zm hF ?_
      clear hF
      rcases n1316 with _ | n1316
      · exact Z1c h
      have h:Z3g p1 i1130 z1137 k1245 (Z1f p1 i1130 z1137 k1245 n1316) l1311 i1313 i1314=some r:=h
      unfold Z3g at h
      obtain ⟨k1315,qk1315⟩ : ∃ k,k=Z1f p1 i1130 z1137 k1245 n1316:=⟨_,rfl⟩
      try rw [← qk1315] at h
      refine Z0<|Z2<|Z6 _ (Za rfl rfl rfl)<|Z1<|Z0<|Z0l h rfl (fun h=>?_) (fun h=>?_)
      ·refine Zl<|Z0<|Zb<|Z0<|cH h fun c1320 h=>bH h fun z1321 ez1321 h=>Z2<|Z8 rfl<|Z6 _ (Z4m rfl rfl (Shp.rd A1) c1320)<|Z6 _ (iz ez1321 (Zau (E:=(El.int .u64)) (s:=[.one (.int .u64 (p1.getD (i1314).toNat 0))]) rfl (Z2a A1 Z2m) (Z18 c1320) rfl rfl))<|Z8 rfl<|Z8 rfl<|Z1<|Z0<|oH h fun y1323 ey1323 h=>Z2<|Z8 rfl<|Z8 rfl<|Z6 _ (Z1a rfl (Z8x ey1323))<|Z8 rfl<|Z6 _ (Z1j rfl rfl)<|Z6 _ (Z1j rfl rfl)<|Z8 rfl<|Z8 rfl<|Z1<|Z0<|bH h fun z1325 ez1325 h=>cH h fun c1326 h=>bH h fun z1327 ez1327 h=>cH h fun c1328 h=>bH h fun z1329 ez1329 h=>bH h fun z1330 ez1330 h=>Z2<|Z8 rfl<|Z8 rfl<|Z8 rfl<|Z8 rfl<|Z6 _ (iz ez1325 (Za rfl rfl rfl))<|Z6 _ (Z4m rfl rfl (Shp.own O1312) c1326)<|Z6 _ (iz ez1327 (Zau (E:=(El.int .u64)) (s:=[.one (.int .u64 (l1311.getD (z1325).toNat 0))]) rfl (Z1x O1312 .here) (Z18 c1326) rfl rfl))<|Z6 _ (Zc2 rfl Zd8 (Zwa ez1329 ez1330 c1328))<|Z8 rfl<|Z6 _ (Z1j rfl rfl)<|Z6 _ (Z1j rfl rfl)<|Z8 rfl<|Z8 rfl<|Z1<|Z0<|bH h fun z1332 ez1332 h=>Z2<|Z8 rfl<|Z8 rfl<|Z6 _ (iz ez1332 (Za rfl rfl rfl))<|Z8 rfl<|Z1<|Z0<|cH h fun c1334 h=>bH h fun z1335 ez1335 h=>bH h fun z1336 ez1336 h=>Z2<|Z8 rfl<|Z8 rfl<|Z6 _ (Zc2 rfl Zd8 (Zwa ez1335 ez1336 c1334))<|Z8 rfl<|Z6 _ (Z1j rfl rfl)<|Z6 _ (Z1j rfl rfl)<|Z8 rfl<|Z8 rfl<|Z1<|bH h fun z1338 ez1338 h=>bH h fun z1339 ez1339 h=>cH h fun c1340 h=>bH h fun l1341 el1341 h=>Z2<|Z8 rfl<|Z8 rfl<|Z8 rfl<|Z6 _ (iz ez1338 (Za rfl rfl rfl))<|Z8 rfl<|Z8 rfl<|Z8 rfl<|Z6 _ (iz ez1339 (Za rfl rfl rfl))<|Z6 _ (Z4m rfl rfl (Shp.own O1312) c1340)<|Zg (Zj0 (E:=(El.int .u64)) el1341 O1312 .here rfl rfl rfl (Z18 c1340) fun ms1342 O1343=>Z8 rfl<|Z1<|bH h fun z1345 ez1345 h=>Z2<|Z6 _ (iz ez1345 (Za rfl rfl rfl))<|Z8 rfl<|Z1 ?_)
       rw [qk1315] at h
       exact ⟨n1316,Nat.lt_succ_self _,l1341,z1339,z1345,v1309,ms1342,h,O1343,⟨⟨rfl,rfl,rfl,rfl,rfl,rfl,rfl,rfl,rfl,rfl,rfl,trivial⟩,(.all .here .nil)⟩⟩
      ·exact Z0b _ rfl<|⟨l1311,i1313,v1309,ms1310,h,O1312,⟨⟨rfl,rfl,rfl,rfl,rfl,rfl,rfl,trivial⟩,(.all .here .nil)⟩⟩
    ·rintro t m ⟨l1242,i1244,v1240,ms1241,h,O1243,hF⟩
     refine Zm hF ?_
     clear hF
     subst qk1245
     refine bH h fun z1347 ez1347 h=>cH h fun c1348 h=>bH h fun l1349 el1349 h=>Z2<|Z8 rfl<|Z8 rfl<|Z8 rfl<|Z6 _ (Z2i rfl (Shp.rd A1))<|Z6 _ (iz ez1347 (Za rfl rfl rfl))<|Z8 rfl<|Z6 _ (Z4m rfl rfl (Shp.own O1243) c1348)<|Zg (Zj0 (E:=(El.int .u64)) el1349 O1243 .here rfl rfl rfl (Z18 c1348) fun ms1350 O1351=>Z1<|bH h fun z1353 ez1353 h=>Z2<|Z6 _ (iz ez1353 (Za rfl rfl rfl))<|Z8 rfl<|Z1 ?_)
     rw [qk1131] at h
     exact ⟨n1132,Nat.lt_succ_self _,l1349,z1353,v1240,ms1350,h,O1351,⟨⟨rfl,rfl,rfl,rfl,rfl,trivial⟩,(.all .here .nil)⟩⟩
   ·exact Z0b _ rfl<|⟨l1128,v1126,ms1127,h,O1129,⟨⟨rfl,trivial⟩,(.all .here .nil)⟩⟩
 ·rintro t m ⟨l681,v679,ms680,h,O682,hF⟩
  refine Zm hF ?_
  clear hF
  subst qk683
  refine Z0<|Z2<|Z8 rfl<|Z8 rfl<|Z1<|Zk ?_
  revert h; refine Zz fun h=>?_
  subst h
  exact ⟨_,_,(.cons (.tmp rfl) .nil),(.all .here .nil),⟨_,rfl,⟨v679,ms680,rfl,rfl,O682⟩⟩⟩
def Z1p (p0:List Int) (k130:(List (Int))→Option ((List Int)×(List Int))) (k207:(List (Int))→(Int)→Option ((List Int)×(List Int))) (l204:List (Int)) (i206:Int):Option ((List Int)×(List Int)) :=
 br ((decide (i206<(p0.length:Int)))) (
 chk (inB i206 p0.length) <|
 bnd (p0.getD (i206).toNat 0) fun z213 =>
 bnd (Zh .u64 z213 60) fun z214 =>
 bnd (IntKind.wrap .i64 (i206+1)) fun z216 =>
 jn (fun (i224:Int)=>chk (decide ((l204.length+([i224]:List (Int)).length)*8≤140737488355328)) <|
 bnd (l204++([i224]:List (Int))) fun l238 =>
 bnd (IntKind.wrap .i64 (i206+1)) fun z243 =>
 k207 l238 z243) fun k225=>br ((decide (z216<(p0.length:Int)))) (
 bnd (IntKind.wrap .i64 (i206+1)) fun z228 =>
 chk (inB z228 p0.length) <|
 bnd (p0.getD (z228).toNat 0) fun z230 =>
 bnd (Zq .u64 z230 4) fun z231 =>
 bnd (Z4 .or .u64 z214 z231) fun z232 =>
 k225 z232
 ) (
 k225 z214
 )
 ) (
 k130 l204
 )
def Z0r (p0:List Int) (k130:(List (Int))→Option ((List Int)×(List Int))):Nat→(List (Int))→(Int)→Option ((List Int)×(List Int))
  | 0,_,_=>none
  | n+1,l204,i206=>Z1p p0 k130 (Z0r p0 k130 n) l204 i206
def Z4o (p0:List Int):Option ((List Int)×(List Int)) :=
 bnd (wr (List.replicate 4 0) 0 (p0.take 4)) fun l6 =>
 bnd (l6.getD 3 0) fun z8 =>
 bnd (Z4 .and .u64 z8 1152921504606846975) fun z9 =>
 bnd (Z4h l6 3 z9) fun l10 =>
 jn (fun (l128:List (Int))=>some (l10,l128)) fun k130=>Z0r p0 k130 big [] 3
theorem Zen {W:World} {r:(List Int)×(List Int)} {p0:List Int} {v0:Value} (h:Z4o p0=some r) (A0:RdSl (El.int .u64) W v0 p0) :
    Calls Tryd.prog 101 [v0].toArray W (Zek W [] (fun v Ms=>∃ (u1:Value) (M1:List Zc),v = .tuple #[agg [.ints .u64 4 (r.1)],u1]∧Ms = [.all M1]∧Z1n (El.int .u64) u1 M1 r.2)):=by
 unfold Z4o at h
 refine Z0t mo Z06t rfl (Zih _) ?_
 refine Z0<|Z2<|Zg (Zw fun b2 hb2=>Z8 rfl<|Z1<|Z0<|Z2<|Zg (Zw fun b4 hb4=>Z1<|Z0<|bH h fun l6 el6 h=>Z2<|Z6 _ (Z90 rfl .no .no .no (by simp) (by decide))<|Z8 rfl<|Zg (Zea (q:=[.ints .u64 4 (l6)]) (lo:=0) (hi:=4) (mz:=4) (base:=0) (cpy0 el6) rfl rfl (Z2a A0 Z2m) rfl (by decide) rfl .here<|Z1<|Z0<|bH h fun z8 ez8 h=>bH h fun z9 ez9 h=>bH h fun l10 el10 h=>Z2<|Z6 _ (Z3b rfl rfl (by decide))<|Z6 _ (iz ez8 (Z2k rfl .here rfl))<|Z6 _ (iz ez9 (Za rfl rfl rfl))<|Z6 _ (Z3b rfl rfl (by decide))<|Zg (Z9d (q:=[.ints .u64 4 (l10)]) (congrArg (fun z=>([.ints .u64 4 (z)]:List Seg)) el10.symm) rfl rfl rfl rfl .here<|Z1<|Z0<|Z2<|Z8 rfl<|Z1<|Z0<|Z0<|Z2<|Z8 rfl<|Z1<|jH h fun k130 qk130 h=>Zo (G:=fun t m=>∃ (l128:List (Int)) (v126:Value) (ms127:List Zc),k130 l128=some r∧Z1n (El.int .u64) v126 ms127 l128∧Fit [(2,.pointer (some ⟨b2,0,none⟩)),(4,.pointer (some ⟨b4,0,none⟩)),(5,v126)] (ck b4 93 [.ints .u64 4 (l10)]::(ck b2 93 [.ints .u64 4 ((List.replicate 4 0))]::(ms127 ++ []))) t m) ?_ ?_))))
 ·refine Zb<|Z01 (fun n208 t m=>∃ (l204:List (Int)) (i206:Int) (v202:Value) (ms203:List Zc),Z0r p0 k130 n208 l204 i206=some r∧Z1n (El.int .u64) v202 ms203 l204∧Fit [(0,v0),(2,.pointer (some ⟨b2,0,none⟩)),(4,.pointer (some ⟨b4,0,none⟩)),(5,v202),(6,.int .i64 (i206))] (ck b4 93 [.ints .u64 4 (l10)]::(ck b2 93 [.ints .u64 4 ((List.replicate 4 0))]::(ms203 ++ []))) t m) big ?_ ?_
  ·exact ⟨[],3,(.slice none 0 0),[],h,Z8u,⟨⟨rfl,rfl,rfl,rfl,rfl,trivial⟩,(.one .here (.one .here (.no .nil)))⟩⟩
  ·rintro n208 t m ⟨l204,i206,v202,ms203,h,O205,hF⟩
   refine Zm hF ?_
   clear hF
   rcases n208 with _ | n208
   · exact Z1c h
   have h:Z1p p0 k130 (Z0r p0 k130 n208) l204 i206=some r:=h
   unfold Z1p at h
   obtain ⟨k207,qk207⟩ : ∃ k,k=Z0r p0 k130 n208:=⟨_,rfl⟩
   try rw [← qk207] at h
   refine Z0<|Z0<|Z2<|Z8 rfl<|Z8 rfl<|Z6 _ (Z2i rfl (Shp.rd A0))<|Z6 _ (Za rfl rfl rfl)<|Z1<|Z0l h rfl (fun h=>?_) (fun h=>?_)
   ·refine Zl<|Z0<|Zb<|Z0<|cH h fun c212 h=>bH h fun z213 ez213 h=>bH h fun z214 ez214 h=>Z2<|Z8 rfl<|Z8 rfl<|Z6 _ (Z4m rfl rfl (Shp.rd A0) c212)<|Z6 _ (iz ez213 (Zau (E:=(El.int .u64)) (s:=[.one (.int .u64 (p0.getD (i206).toNat 0))]) rfl (Z2a A0 Z2m) (Z18 c212) rfl rfl))<|Z6 _ (iz ez214 (Z76 rfl rfl (by decide)))<|Z8 rfl<|Z1<|Z0<|Z0<|bH h fun z216 ez216 h=>Z2<|Z8 rfl<|Z6 _ (iz ez216 (Za rfl rfl rfl))<|Z8 rfl<|Z6 _ (Z2i rfl (Shp.rd A0))<|Z6 _ (Za rfl rfl rfl)<|Z1<|jH h fun k225 qk225 h=>Zo (G:=fun t m=>∃ (i224:Int),k225 i224=some r∧Fit [(0,v0),(2,.pointer (some ⟨b2,0,none⟩)),(4,.pointer (some ⟨b4,0,none⟩)),(5,v202),(6,.int .i64 (i206)),(7,.int .u64 (i224))] (ck b4 93 [.ints .u64 4 (l10)]::(ck b2 93 [.ints .u64 4 ((List.replicate 4 0))]::(ms203 ++ []))) t m) ?_ ?_
    ·refine Z0l h rfl (fun h=>?_) (fun h=>?_)
     ·exact bH h fun z228 ez228 h=>cH h fun c229 h=>bH h fun z230 ez230 h=>bH h fun z231 ez231 h=>bH h fun z232 ez232 h=>Z2<|Z8 rfl<|Z8 rfl<|Z8 rfl<|Z6 _ (iz ez228 (Za rfl rfl rfl))<|Z6 _ (Z4m rfl rfl (Shp.rd A0) c229)<|Z6 _ (iz ez230 (Zau (E:=(El.int .u64)) (s:=[.one (.int .u64 (p0.getD (z228).toNat 0))]) rfl (Z2a A0 Z2m) (Z18 c229) rfl rfl))<|Z6 _ (iz ez231 (Zi7 rfl rfl (by decide)))<|Z6 _ (iz ez232 (Za rfl rfl rfl))<|Z8 rfl<|Z1<|⟨z232,h,⟨⟨rfl,rfl,rfl,rfl,rfl,rfl,trivial⟩,(.one .here (.one .here (.all .here .nil)))⟩⟩
     ·exact Zl<|⟨z214,h,⟨⟨rfl,rfl,rfl,rfl,rfl,rfl,trivial⟩,(.one .here (.one .here (.all .here .nil)))⟩⟩
    ·rintro t m ⟨i224,h,hF⟩
     refine Zm hF ?_
     clear hF
     subst qk225
     refine cH h fun c237 h=>bH h fun l238 el238 h=>Z2<|Z8 rfl<|Z8 rfl<|Zg (Z9r (E:=(El.int .u64)) (xs:=[i224]) (.one rfl rfl rfl BdR.nil) (.cons (p:=[.one (.int .u64 (i224))]) rfl .nil) rfl fun v234 ms235 O236=>Zg (Zar (E:=(El.int .u64)) el238 rfl O205 (.app (.there (.there .here))) rfl (Z1x O236 .here) c237 fun v239 ms240 O241=>Z8 rfl<|Z1<|bH h fun z243 ez243 h=>Z2<|Z8 rfl<|Z6 _ (iz ez243 (Za rfl rfl rfl))<|Z8 rfl<|Z1 ?_))
     rw [qk207] at h
     exact ⟨n208,Nat.lt_succ_self _,l238,z243,v239,ms240,h,O241,⟨⟨rfl,rfl,rfl,rfl,rfl,trivial⟩,(.one (.app (.app .here)) (.one (.app (.app .here)) (.all .here .nil)))⟩⟩
   ·exact Z0b _ rfl<|⟨l204,v202,ms203,h,O205,⟨⟨rfl,rfl,rfl,trivial⟩,(.one .here (.one .here (.all .here .nil)))⟩⟩
 ·rintro t m ⟨l128,v126,ms127,h,O129,hF⟩
  refine Zm hF ?_
  clear hF
  subst qk130
  refine Z0<|Z2<|Z6 _ (Z02 (p:=[.ints .u64 4 (l10)]) rfl .here rfl)<|Z8 rfl<|Zg (Zs (q:=[.ints .u64 4 (l10)]) rfl rfl rfl rfl rfl (.there .here)<|Z8 rfl<|Z1<|Zk ?_)
  revert h; refine Zz fun h=>?_
  subst h
  exact ⟨_,_,(.cons (.agg rfl (.there .here) rfl) (.cons (.tmp rfl) .nil)),(.all (.there (.there .here)) .nil),⟨_,rfl,⟨v126,ms127,rfl,rfl,O129⟩⟩⟩
def Z9i:OL :=
 some ([6346243789798364141,1503914060200516822]:List (Int))
theorem Zf6 {W:World} {r:(List Int)} (h:Z9i=some r)  :
    Calls Tryd.prog 102 [].toArray W (Zek W [] (fun v Ms=>∃ (u0:Value) (M0:List Zc),v=u0∧Ms = [.all M0]∧Z1n (El.int .u64) u0 M0 r)):=by
 unfold Z9i at h
 refine Z0t mo Z06u rfl (Zih _) ?_
 refine Z0<|Z2<|Z8 rfl<|Z1<|Z0<|Z2<|Zg (Z9r (E:=(El.int .u64)) (xs:=[6346243789798364141,1503914060200516822]) (.one rfl rfl rfl (.one rfl rfl rfl BdR.nil)) (.cons (p:=[.one (.int .u64 (6346243789798364141))]) rfl (.cons (p:=[.one (.int .u64 (1503914060200516822))]) rfl .nil)) rfl fun v3 ms4 O5=>Z8 rfl<|Z1<|Zk ?_)
 revert h; refine Zz fun h=>?_
 subst h
 exact ⟨_,_,(.cons (.tmp rfl) .nil),(.all .here .nil),⟨_,rfl,⟨v3,ms4,rfl,rfl,O5⟩⟩⟩
abbrev Z46:El (List Int):=⟨4,fun x=>cells [.ints .u64 4 (x)],fun x=>by rw [cells_length]; rfl,fun x=>(Z3e Z8l Z89),by decide,(List.replicate 4 0)⟩
def Z31 (k122:(List (List Int))→OL) (k201:(List (Int))→(Int)→(List (List Int))→OL) (l196:List (Int)) (i199:Int) (a200:List (List Int)):OL :=
 br ((decide (i199<4))) (
 opt (Z4o l196) fun y209 =>
 bnd (Int.tmod i199 2) fun z216 =>
 bnd (Int.tmod i199 2) fun z217 =>
 chk (inB z217 2) <|
 bnd (a200.getD (z217).toNat (List.replicate 4 0)) fun x219 =>
 opt (Z42 x219 y209.1) fun y220 =>
 chk (inB z216 2) <|
 bnd (Zf7 (List.replicate 4 0) a200 (z216).toNat y220.1) fun l222 =>
 opt (Z9i ) fun y224 =>
 opt (Z4q y209.2 y224) fun y230 =>
 bnd (IntKind.wrap .i64 (i199+1)) fun z237 =>
 k201 y230 z237 l222
 ) (
 k122 a200
 )
def Z0o (k122:(List (List Int))→OL):Nat→(List (Int))→(Int)→(List (List Int))→OL
  | 0,_,_,_=>none
  | n+1,l196,i199,a200=>Z31 k122 (Z0o k122 n) l196 i199 a200
def Z35 (p0:List Int):OL :=
 jn (fun (a121:List (List Int))=>opt (Z42 G_order G_order) fun y239 =>
 bnd (a121.getD 0 (List.replicate 4 0)) fun x242 =>
 opt (Z42 x242 y239.1) fun y243 =>
 bnd (a121.getD 1 (List.replicate 4 0)) fun x246 =>
 opt (Z4n y243.1 x246) fun y247 =>
 opt (Z5o y247.1) fun y249 =>
 some y249) fun k122=>Z0o k122 big p0 0 (List.replicate 2 (List.replicate 4 0))
theorem Z7a {W:World} {r:(List Int)} {p0:List Int} {v0:Value} (h:Z35 p0=some r) (hG:Globs W) (A0:RdSl (El.int .u64) W v0 p0) :
    Calls Tryd.prog 83 [v0].toArray W (Z56 W (agg [.ints .u64 4 (r)])):=by
 unfold Z35 at h
 refine Zd mo ok83 rfl ?_
 refine Z0<|Z2<|Zg (Zw fun b2 hb2=>Z1<|Z0<|Z2<|Zg (Zep (z':=[.rows 4 2 (Z8r Z46 ((List.replicate 2 (List.replicate 4 0))))]) (Z9q (E:=Z46) rfl rfl) fun b4 hb4=>Z1<|Z0<|Z0<|Z2<|Z8 rfl<|Z1<|jH h fun k122 qk122 h=>Zo (G:=fun t m=>∃ (a121:List (List Int)),k122 a121=some r∧Fit [(2,.pointer (some ⟨b2,0,none⟩)),(3,.pointer (some ⟨b4,0,none⟩))] (ck b4 158 [.rows 4 2 (Z8r Z46 (a121))]::(ck b2 93 [.ints .u64 4 ((List.replicate 4 0))] :: [])) t m) ?_ ?_))
 ·refine Zb<|Z01 (fun n202 t m=>∃ (l196:List (Int)) (i199:Int) (a200:List (List Int)) (v194:Value) (ms195:List Zc),Z0o k122 n202 l196 i199 a200=some r∧Zgs (⟨Tryd.prog,d83.n,W,[]⟩:Cfg) ms195 (El.int .u64) v194 l196∧Shp v194 l196.length∧Fit [(0,v194),(2,.pointer (some ⟨b2,0,none⟩)),(3,.pointer (some ⟨b4,0,none⟩)),(10,.int .i64 (i199))] (ck b4 158 [.rows 4 2 (Z8r Z46 (a200))]::(ck b2 93 [.ints .u64 4 ((List.replicate 4 0))]::(ms195 ++ []))) t m) big ?_ ?_
  ·exact ⟨p0,0,(List.replicate 2 (List.replicate 4 0)),v0,[],h,(Z2a A0 Z2m),(Shp.rd A0),⟨⟨rfl,rfl,rfl,rfl,trivial⟩,(.one .here (.one .here (.no .nil)))⟩⟩
  ·rintro n202 t m ⟨l196,i199,a200,v194,ms195,h,H197,Z198,hF⟩
   refine Zm hF ?_
   clear hF
   rcases n202 with _ | n202
   · exact Z1c h
   have h:Z31 k122 (Z0o k122 n202) l196 i199 a200=some r:=h
   unfold Z31 at h
   obtain ⟨k201,qk201⟩ : ∃ k,k=Z0o k122 n202:=⟨_,rfl⟩
   try rw [← qk201] at h
   refine Z0<|Z2<|Z6 _ (Za rfl rfl rfl)<|Z1<|Z0<|Z0l h rfl (fun h=>?_) (fun h=>?_)
   ·refine Zl<|Z0<|Zb<|Z0<|Z2<|Z8 rfl<|Z8 rfl<|Z1<|Z0<|Z2<|Zg (Zw fun b207 hb207=>Z1<|Z0<|oH h fun y209 ey209 h=>Z2<|Z8 rfl<|Zg (Z0j rfl (fun w hw=>Zen (r:=y209) (p0:=l196) ey209 ((Z0li H197 (.there (.there (.there .here)))) w hw)) fun v210 Msv210 R211=>?_))
    obtain ⟨v212,ms213,rfl,rfl,O214⟩:=R211
    refine Z8 rfl<|Z6 _ (Z1j rfl rfl)<|Z6 _ (Z1j rfl rfl)<|Zg (Zs (q:=[.ints .u64 4 (y209.1)]) rfl rfl rfl rfl rfl (.app .here)<|Z8 rfl<|Z1<|Z0<|bH h fun z216 ez216 h=>bH h fun z217 ez217 h=>cH h fun c218 h=>bH h fun x219 ex219 h=>oH h fun y220 ey220 h=>cH h fun c221 h=>bH h fun l222 el222 h=>Zu<|Z7 _ (Z19 rfl)<|Z7 _ (iz ez216 (Zjo rfl rfl (by decide)))<|Z7 _ (Z19 rfl)<|Z7 _ (iz ez217 (Zjo rfl rfl (by decide)))<|Z7 _ (Z3b rfl rfl (Z1w c218))<|Zn _ (az (fun x219=>agg [.ints .u64 4 (x219)]) ex219 (Zjm (base:=0) (w:=4) rfl (.app (.there .here)) rfl (Z18 c218) rfl rfl rfl))<|Zn _ (Z02 (p:=[.ints .u64 4 (y209.1)]) rfl (.app .here) rfl)<|Z7 _ (Z0m (vs:=[agg [.ints .u64 4 (x219)],agg [.ints .u64 4 (y209.1)]]) (v:=.tuple #[agg [.ints .u64 4 (y220.1)],.int .u64 (y220.2)]) rfl (fun w hw=>Z6d (r:=y220) (p0:=x219) (p1:=y209.1) ey220 ))<|Z7 _ (Z19 rfl)<|Z7 _ (Z1j rfl rfl)<|Z7 _ (Z1j rfl rfl)<|Z7 _ (Z3b rfl rfl (Z1w c221))<|Z2h rfl (Zkj (q:=[.rows 4 2 (Z8r Z46 (l222))]) (E:=Z46) (base:=0) el222 rfl rfl rfl rfl (Z18 c221) rfl (.app (.there .here))<|Z03<|oH h fun y224 ey224 h=>oH h fun y230 ey230 h=>Z2<|Z8 rfl<|Zg (Z0j rfl (fun w hw=>Zf6 (r:=y224) ey224 ) fun v225 Msv225 R226=>?_)))
    obtain ⟨_,ms228,rfl,rfl,O229⟩:=R226
    refine Zg (Z0j rfl (fun w hw=>Zal (r:=y230) (p0:=y209.2) (p1:=y224) ey230 ((Z1x O214 (.app .here)) w hw) ((Z1x O229 .here) w hw)) fun v231 Msv231 R232=>?_)
    obtain ⟨_,ms234,rfl,rfl,O235⟩:=R232
    refine Z8 rfl<|Z1<|bH h fun z237 ez237 h=>Z2<|Z6 _ (iz ez237 (Za rfl rfl rfl))<|Z8 rfl<|Z1 ?_
    rw [qk201] at h
    exact ⟨n202,Nat.lt_succ_self _,y230,z237,l222,v231,ms234,h,(Zvp O235),(Shp.own O235),⟨⟨rfl,rfl,rfl,rfl,trivial⟩,(.one (.app (.app (.app (.there .here)))) (.one (.app (.app (.app (.there .here)))) (.all .here .nil)))⟩⟩
   ·exact Z0b _ rfl<|⟨a200,h,⟨⟨rfl,rfl,trivial⟩,(.one .here (.one .here .nil))⟩⟩
 ·rintro t m ⟨a121,h,hF⟩
  refine Zm hF ?_
  clear hF
  subst qk122
  refine Z0<|oH h fun y239 ey239 h=>Z2<|Z6 _ (Zn6 (o0:=0) (off:=0) rfl (hG.g0) (by simp) rfl)<|Z6 _ (Zn6 (o0:=0) (off:=0) rfl (hG.g0) (by simp) rfl)<|Z6 _ (Z0m (vs:=[agg [.ints .u64 4 (G_order)],agg [.ints .u64 4 (G_order)]]) (v:=.tuple #[agg [.ints .u64 4 (y239.1)],.int .u64 (y239.2)]) rfl (fun w hw=>Z6d (r:=y239) (p0:=G_order) (p1:=G_order) ey239 ))<|Z8 rfl<|Z6 _ (Z1j rfl rfl)<|Z6 _ (Z1j rfl rfl)<|Zg (Zw fun b240 hb240=>Zg (Zs (q:=[.ints .u64 4 (y239.1)]) rfl rfl rfl rfl rfl .here<|Z8 rfl<|Z1<|Z0<|bH h fun x242 ex242 h=>oH h fun y243 ey243 h=>Z2<|Z6 _ (Z3b rfl rfl (by decide))<|Z6 _ (az (fun x242=>agg [.ints .u64 4 (x242)]) ex242 (Zvi (base:=0) (i:=0) (c:=0) (w:=4) (len:=2) rfl (.there .here) rfl (by decide) rfl rfl rfl))<|Z6 _ (Z02 (p:=[.ints .u64 4 (y239.1)]) rfl .here rfl)<|Z6 _ (Z0m (vs:=[agg [.ints .u64 4 (x242)],agg [.ints .u64 4 (y239.1)]]) (v:=.tuple #[agg [.ints .u64 4 (y243.1)],.int .u64 (y243.2)]) rfl (fun w hw=>Z6d (r:=y243) (p0:=x242) (p1:=y239.1) ey243 ))<|Z8 rfl<|Z6 _ (Z1j rfl rfl)<|Z6 _ (Z1j rfl rfl)<|Zg (Zw fun b244 hb244=>Zg (Zs (q:=[.ints .u64 4 (y243.1)]) rfl rfl rfl rfl rfl .here<|Z8 rfl<|Z1<|Z0<|bH h fun x246 ex246 h=>oH h fun y247 ey247 h=>Z2<|Z6 _ (Z02 (p:=[.ints .u64 4 (y243.1)]) rfl .here rfl)<|Z6 _ (Z3b rfl rfl (by decide))<|Z6 _ (az (fun x246=>agg [.ints .u64 4 (x246)]) ex246 (Zvi (base:=0) (i:=1) (c:=0) (w:=4) (len:=2) rfl (.there (.there .here)) rfl (by decide) rfl rfl rfl))<|Z6 _ (Z0m (vs:=[agg [.ints .u64 4 (y243.1)],agg [.ints .u64 4 (x246)]]) (v:=.tuple #[agg [.ints .u64 4 (y247.1)],.int .u64 (y247.2)]) rfl (fun w hw=>Z7y (r:=y247) (p0:=y243.1) (p1:=x246) ey247 ))<|Z8 rfl<|Z6 _ (Z1j rfl rfl)<|Z6 _ (Z1j rfl rfl)<|Zg (Zs (q:=[.ints .u64 4 (y247.1)]) rfl rfl rfl rfl rfl .here<|Z1<|Z0<|oH h fun y249 ey249 h=>Z2<|Z6 _ (Z02 (p:=[.ints .u64 4 (y247.1)]) rfl .here rfl)<|Z6 _ (Z0m (vs:=[agg [.ints .u64 4 (y247.1)]]) (v:=agg [.ints .u64 4 (y249)]) rfl (fun w hw=>Zak (r:=y249) (p0:=y247.1) ey249 (hG.at hw (by simp))))<|Zg (Zs (q:=[.ints .u64 4 (y249)]) rfl rfl rfl rfl rfl (.there (.there (.there .here)))<|Z1<|Zk ?_))))))
  revert h; refine Zz fun h=>?_
  subst h
  exact ⟨_,(.cons (.agg rfl (.there (.there (.there .here))) rfl) .nil),rfl⟩
end Go.Proofs.YtiflckckekjbnaaDoor
