/- Texts of a proof, one behind the other: H3 Q10 Q11 Q12 R1 R2 HB R3 R4 R5 R6 R7 R8 R13 R14 R15 E10 G5 G7. -/
import Derived.Test.YtiflckckekjbnaaGreatDoorMX6
import Derived.JoinedOf
import Derived.LaidLaws
import Derived.Lay
import Derived.MakeChecks
import Derived.SevenTiedAt
import Derived.ChangeOld
import Derived.SizedLaws
namespace Go.Proofs.YtiflckckekjbnaaGreatDoor
open Go Go.Sx Go.RowKit
open Go.IntKind (wrap)
set_option linter.all false
set_option maxRecDepth 100000
noncomputable def Z052:G:=⟨fi BX,fi BY,⟨by decide +kernel⟩⟩
theorem Z02m:Rep Zyw Z052:=by
 constructor
 ·show fi 1≠0; decide +kernel
 ·show fi BX=fi BX*fi 1; decide +kernel
 ·show fi BY=fi BY*fi 1; decide +kernel
 ·show fi (BX*BY)=fi BX*fi BY*fi 1; decide +kernel
def VLn:Nat:=7237005577332262213973186563042994240857116359379907606001950938285454250989
theorem Zpq:VL=(VLn:Int):=by decide
def be8 (x:Int):LI:=[wrap .u8 (Zq .u64 (Zq .u64 (Zq .u64 (Zq .u64 (Zq .u64 (Zq .u64 (Zq .u64 x 8) 8) 8) 8) 8) 8) 8),wrap .u8 (Zq .u64 (Zq .u64 (Zq .u64 (Zq .u64 (Zq .u64 (Zq .u64 x 8) 8) 8) 8) 8) 8),wrap .u8 (Zq .u64 (Zq .u64 (Zq .u64 (Zq .u64 (Zq .u64 x 8) 8) 8) 8) 8),wrap .u8 (Zq .u64 (Zq .u64 (Zq .u64 (Zq .u64 x 8) 8) 8) 8),wrap .u8 (Zq .u64 (Zq .u64 (Zq .u64 x 8) 8) 8),wrap .u8 (Zq .u64 (Zq .u64 x 8) 8),wrap .u8 (Zq .u64 x 8),wrap .u8 x]
theorem Zo2 (x:Int):Z24 x=some (be8 x):=by kernel_rfl
theorem Zwr (x:Int) : ∀ y∈be8 x,0<=y/\y<256:=by
 unfold be8
 repeat' (first | exact List.forall_mem_nil _ | refine List.forall_mem_cons.2 ⟨Z04s _,?_⟩)
def told (s:LI):LI:=be8 (s.getD 0 0)++(be8 (s.getD 1 0)++(be8 (s.getD 2 0)++(be8 (s.getD 3 0)++(be8 (s.getD 4 0)++(be8 (s.getD 5 0)++(be8 (s.getD 6 0)++be8 (s.getD 7 0)))))))
theorem Z036 (y d:Zu):Z2m y (fun a74=>some (a74,d)) big 0 (List.replicate 64 0)=some (told y.gstate,d):=by kernel_rfl
theorem Z03c (s:LI):Byt (told s):=by
 apply byt_of
 unfold told
 intro x hx
 simp only [List.mem_append] at hx
 rcases hx with h | h | h | h | h | h | h | h <;> exact Zwr _ _ h
noncomputable def pB (a:LI):G:=Zgs (Zgo a).toNat Z052
theorem Zvc {q:Q4} {P:G} (h:Rep q P):Z8d (pt q)=some (encG P):=by rw [Zq4,Z060 h]
theorem Zs8 (P:G):(encG P).length=32:=Zvb _ _
theorem Z04r (P:G):tk (encG P) 0 32=encG P:=Zds (Zs8 P)
theorem Zwb {k m s h:LI} (hk:Byt k) (hs:Byt s) (hh:Z9i [tk s 0 32,tk k 0 32,m]=some h) (bh:Byt h) {A:G} (hA:dok k=true->Rep (dpt k) A) :
  Z4t k m s=some (dok k&&(decide (Zgo (tk s 32 32)<VL)&&decide (encG (Z9m (Zgs (Zgo h).toNat (negG A)) (pB (tk s 32 32)))=tk s 0 32))):=by
 have e0:tk (tk s 32 (64-32)) 0 32=tk s 32 32:=Zds (Z0x _ _ _)
 have e00:tk (tk s 0 32) 0 32=tk s 0 32:=Zds (Z0x _ _ _)
 have bt:=Zkb hs 32 32
 rw [Z4t,Z3 (Zq0 hk),Zo (by rw [Z0x]; rfl),Zb,e0,Zw2 bt,Zo (by simp [imp])]
 cases hd:dok k
 ·rw [Z0g (by rfl)]; rfl
 ·have rA:=hA hd
  rw [if_pos rfl]
  by_cases hc:Zgo (tk s 32 32)<VL
  ·rw [Z08 (by simp [hc]),Z13,Z3 hh]
   show opt (Zbk (pt (dpt k))) _=_
   have rc:=Zr6 h (tk s 32 32) (Z07p rA) Z02m 64
   rw [Zy8 bh,Zy8 bt] at rc
   rw [Z3 (Zx4 _),Z3 (Zne bh bt _),Z3 (Zvc rc),Zo (by rw [Z0x]; rfl),Zb,e00]
   unfold ieq pB
   rw [Z04r,Zds (Z0x _ _ _)]
   simp [hc]
  ·rw [Z0g (by simp [hc])]
   simp [hc]
end Go.Proofs.YtiflckckekjbnaaGreatDoor
namespace Go.Proofs.YtiflckckekjbnaaGreatDoor
open Go Go.Sx Go.RowKit
set_option linter.all false
set_option maxRecDepth 100000
set_option maxHeartbeats 1000000
theorem bcat {M x:LI} (h:Byt M) (hx:Byt x):Byt (M++x):=by
 intro i
 by_cases hi:i<M.length
 ·rw [List.getD_eq_getElem?_getD,List.getElem?_append_left hi,<- List.getD_eq_getElem?_getD]; exact h i
 ·rw [List.getD_eq_getElem?_getD,List.getElem?_append_right (by omega),<- List.getD_eq_getElem?_getD]; exact hx _
theorem bnil:Byt []:=fun i=>by simp
def Zh1 (l:api_Link):Bool:=decide (1<=l.gEpoch)&&decide (l.gEpoch<=64)
def Zjo (l:api_Link):LI:=if Zh1 l=true then [70,66,1,11,0,0,0,l.gEpoch]++tk l.gKey 0 32 else []
theorem Zre (l:api_Link):(Zjo l).length<=40:=by
 unfold Zjo
 split
 ·rw [List.length_append,Z0x]; simp
 ·simp
theorem Zzk {l:api_Link} (h:Byt l.gKey):Byt (Zjo l):=by
 unfold Zjo
 split
 ·rename_i hi
  simp only [Zh1,Bool.and_eq_true,decide_eq_true_eq] at hi
  refine bcat ?_ (Zkb h 0 32)
  intro i
  match i with
  | 0 | 1 | 2 | 3 | 4 | 5 | 6=>simp
  | 7=>show 0<=l.gEpoch/\l.gEpoch<256; omega
  | i+8=>show (0:Int)<=0/\(0:Int)<256; decide
 ·exact bnil
theorem Z0jb {e:Int} (h0:1<=e) (h1:e<=64):IntKind.wrap .u32 e=e/\Z4n e=some [0,0,0,e]:=by
 have h : ∀ n:Fin 65,IntKind.wrap .u32 (n.val:Int)=(n.val:Int)/\Z4n (n.val:Int)=some [0,0,0,(n.val:Int)]:=by decide +kernel
 have:=h ⟨e.toNat,by omega⟩
 have e2:((e.toNat:Nat):Int)=e:=by omega
 simp only [e2] at this
 exact this
theorem Z03x {b xs:LI} (h:b.length+xs.length<=140737488355328):Z5v ⟨b,0⟩ xs=some ⟨b++xs,0⟩:=by
 rw [Z5v,Z0g (by rfl),Zo (by simpa using h),Zb]
theorem Ztv {b xs:LI} (h:b.length+xs.length<=140737488355328):Z4m ⟨b,0⟩ xs=some ⟨b++xs,0⟩:=by
 rw [Z4m,Z3 (Z03x h)]
theorem Zui {l:api_Link}:((decide (l.gEpoch<1))||(decide (l.gEpoch>64))) = !Zh1 l:=by
 have h:((decide (l.gEpoch<1))||(decide (l.gEpoch>64)))=true↔(!Zh1 l)=true   := by simp [Zh1]; try omega
 exact Bool.eq_iff_iff.2 h
theorem psay (l:api_Link):Zdm l=some (!Zh1 l,Zjo l):=by
 have hl:(tk l.gKey 0 32).length=32:=Z0x _ _ _
 rw [Zdm,Zui]
 unfold Zjo
 cases hi:Zh1 l
 ·rfl
 ·have h2:1<=l.gEpoch/\l.gEpoch<=64:=by simpa [Zh1] using hi
  obtain ⟨e1,e2⟩:=Z0jb h2.1 h2.2
  rw [Z08 (by rfl),Z3 (show Zac=some ⟨[],0⟩ from rfl),Z3 (show Ziq 11=some (false,[70,66,1,11]) by kernel_rfl),Z3 (Ztv (by simp)),Zb,e1]
  rw [Z9l,e2,Z3 rfl,Z3 (Z03x (by simp)),Z3 rfl,Z3 (Ztv (by simp [hl])),Z83,Z08 (by rfl)]
  rw [Zo (by simp [hl]),Zb,Z3 rfl,Zo (by simp [hl])]
  rfl
end Go.Proofs.YtiflckckekjbnaaGreatDoor
namespace Go.Proofs.YtiflckckekjbnaaGreatDoor
open Go Go.Sx Go.RowKit
open List (replicate)
set_option linter.all false
set_option maxRecDepth 100000
set_option maxHeartbeats 1000000
theorem walk {α:Type} (F:Nat->Nat->Option α) {j:Nat} {R:Option α} (hj:j<18446744073709551616) (hs : ∀ i f,i<j->F (f+1) i=F f (i+1)) (he : ∀ f,F (f+1) j=R):F big 0=R:=by
 have key : ∀ d i f,i+d=j->F (f+1+d) i=R:=by
  intro d
  induction d with
  | zero =>
   intro i f h
   obtain rfl:i=j:=by omega
   exact he f
  | succ d ih=>intro i f h; rw [show f+1+(d+1)=(f+1+d)+1 by omega,hs i _ (by omega)]; exact ih (i+1) f (by omega)
 obtain ⟨f,hf⟩ : ∃ f,big=f+1+j:=⟨18446744073709551615-j,by have:big=18446744073709551616:=Z1t; omega⟩
 rw [hf]; exact key j 0 f (by omega)
theorem Zuu {α:Type} (F:Nat->Nat->Option α) {n:Nat} {p:Nat->Bool} {R:Nat->Option α} {E:Option α} (hn:n<18446744073709551616)
  (hs : ∀ i f,i<n->F (f+1) i=bif p i then R i else F f (i+1)) (he : ∀ f,F (f+1) n=E) :
  (∃ i,i<n/\p i=true/\(∀ j,j<i->p j=false)/\F big 0=R i)∨((∀ i,i<n->p i=false)/\F big 0=E):=by
 by_cases h : ∃ i,i<n/\p i=true
 ·obtain ⟨i,hi⟩:=h
  have hex : ∃ i,i<n/\p i=true:=⟨i,hi⟩
  have hmin : ∃ i,i<n/\p i=true /\ ∀ j,j<i->p j=false:=by
   clear hs he hex
   induction i using Nat.strongRecOn with
   | _ i ih =>
    by_cases h2 : ∃ j,j<i/\p j=true
    ·obtain ⟨j,hj1,hj2⟩:=h2
     exact ih j hj1 ⟨by omega,hj2⟩
    ·exact ⟨i,hi.1,hi.2,fun j hj=>by
      cases hp:p j with
      | false=>rfl
      | true=>exact absurd ⟨j,hj,hp⟩ h2⟩
  obtain ⟨i,h1,h2,h3⟩:=hmin
  refine .inl ⟨i,h1,h2,h3,walk F (j:=i) (by omega) (fun k f hk=>?_) (fun f=>?_)⟩
  ·rw [hs k f (by omega),h3 k hk]; rfl
  ·rw [hs i f h1,h2]; rfl
 ·have h' : ∀ i,i<n->p i=false:=fun i hi=>by
   cases hp:p i with
   | false=>rfl
   | true=>exact absurd ⟨i,hi,hp⟩ h
  exact .inr ⟨h',walk F hn (fun k f hk=>by rw [hs k f hk,h' k hk]; rfl) he⟩
theorem Zis {i:Nat} (h:i<9223372036854775807):IntKind.wrap .i64 ((i:Int)+1)=((i+1:Nat):Int):=by rw [Zj (by omega) (by omega)]; omega
theorem br_c {β:Type} (c:Bool) (a b:Option β):br c a b=bif c then a else b:=rfl
def KeyOk (k:LI):Prop:=Byt k/\k.length=32
def LkOk (l:api_Link):Prop:=KeyOk l.gKey/\Byt l.gSig/\l.gSig.length=64
def LksOk (xs:List api_Link):Prop:=∀ l∈xs,LkOk l
theorem Zos {n:Nat} {a b:LI} (ha:a.length=n) (hb:b.length=n):ieq n a b=decide (a=b):=by
 unfold ieq
 rw [show tk a 0 n=a by rw [<- ha]; exact Zds rfl,show tk b 0 n=b by rw [<- hb]; exact Zds rfl]
theorem Zj5 {xs:List api_Link} (h:LksOk xs) {i:Nat} (hi:i<xs.length):LkOk (xs.getD i api_Link_z):=by
 rw [List.getD_eq_getElem?_getD,List.getElem?_eq_getElem hi]
 exact h _ (List.getElem_mem hi)
def eqL (a b:api_Link):Bool:=(a.gEpoch==b.gEpoch)&&((ieq 32 a.gKey b.gKey)&&(ieq 64 a.gSig b.gSig))
theorem Z061 {a b:api_Link} (ha:LkOk a) (hb:LkOk b):eqL a b=true↔a=b:=by
 unfold eqL
 rw [Zos ha.1.2 hb.1.2,Zos ha.2.2 hb.2.2]
 cases a; cases b
 simp
theorem Z019 (a:api_Link):eqL a a=true:=by simp [eqL,ieq]
theorem Zcl {α:Type} {z:α} {xs:List α} {i:Nat} (h:i<xs.length):xs.getD i z=xs[i]:=by rw [List.getD_eq_getElem?_getD,List.getElem?_eq_getElem h]; rfl
def KsOk (ks:List (LI)):Prop:=∀ k∈ks,KeyOk k
theorem Z0ct {ks:List (LI)} {k:LI} (h:KsOk ks) (hk:KeyOk k):KsOk (ks ++ [k]):=by
 intro x hx
 rcases List.mem_append.1 hx with h1 | h1
 ·exact h x h1
 ·rw [List.mem_singleton.1 h1]; exact hk
theorem kget {ks:List (LI)} (h:KsOk ks) {i:Nat} (hi:i<ks.length):KeyOk (ks.getD i (replicate 32 0)):=by
 rw [Zcl hi]; exact h _ (List.getElem_mem hi)
theorem Zou {ks:List (LI)} {k z:LI}:k∈ks ↔ ∃ i,i<ks.length/\k=ks.getD i z:=by
 rw [List.mem_iff_getElem]
 exact ⟨fun ⟨i,hi,e⟩=>⟨i,hi,by rw [Zcl hi,e]⟩,fun ⟨i,hi,e⟩=>⟨i,hi,by rw [e,Zcl hi]⟩⟩
theorem Z0pf {ks:List (LI)} {k:LI} (h:KsOk ks) (hk:KeyOk k) (hn:ks.length<9223372036854775807):Z1a ks k=some (decide (k∈ks)):=by
 rw [Z1a,Z2w,Z13]
 rcases Zuu (fun f i=>Z05 ks k (fun (_:Unit)=>some (-1)) f (i:Int)) (n:=ks.length) (p:=fun i=>decide (k=ks.getD i (replicate 32 0))) (R:=fun i=>some (i:Int)) (E:=some (-1)) (by omega)
  (fun i f hi=>by
   show Z0q ks k _ (Z05 ks k _ f) _=_
   rw [Z0q,Z0g (decide_eq_true (by omega)),Zo (Z0i (by omega) (by omega)),Zb,Int.toNat_natCast,Zos hk.2 (kget h hi).2,Zb,Zis (by omega),br_c])
  (fun f=>by
   show Z0q ks k _ _ _=_
   rw [Z0q,Z08 (decide_eq_false (by omega))]) with ⟨i,h1,h2,h3,h4⟩ | ⟨h1,h2⟩
 ·have h4':Z05 ks k (fun (_:Unit)=>some (-1)) big 0=some (i:Int):=h4
  rw [h4',Z3 rfl]
  have hm:k∈ks:=Zou.2 ⟨i,h1,of_decide_eq_true h2⟩
  simp [hm]
 ·have h2':Z05 ks k (fun (_:Unit)=>some (-1)) big 0=some (-1):=h2
  rw [h2',Z3 rfl]
  have hm:k∉ks:=fun hc=>by
   obtain ⟨i,hi,e⟩:=(Zou (z:=replicate 32 0)).1 hc
   exact absurd e (of_decide_eq_false (h1 i hi))
  simp [hm]
def fol (V:LI->api_Link->Bool):LI->List (LI)->List api_Link->List (LI)×Int
 | _,ks,[]=>(ks,0)
 | ah,ks,l::r=>bif (l.gEpoch != (ks.length:Int))||decide (l.gKey∈ks) then ([],171) else bif !(V ah l) then ([],110) else fol V l.gKey (ks ++ [l.gKey]) r
def vf (k:LI) (l:api_Link):Bool:=(Z4t k (Zjo l) l.gSig).getD false
def Zdz (root:LI) (ls:List api_Link):List (LI)×Int:=bif decide ((ls.length:Int)>64) then ([],1) else fol vf root [root] ls
theorem pver {k:LI} {l:api_Link} (hk:KeyOk k) (hl:LkOk l):Z4t k (Zjo l) l.gSig=some (vf k l):=by
 obtain ⟨b,hb⟩:=Zwa (m:=Zjo l) hk.1 (by have:=Zre l; omega) hl.2.1
 unfold vf
 rw [hb]; rfl
theorem Zub {ls:List api_Link} (hl:LksOk ls) (hn:ls.length<=64) : ∀ (d i f:Nat) (ah:LI) (ks:List (LI)),i+d=ls.length->KeyOk ah->KsOk ks->ks.length=i+1 ->
  Z48 ls (f+1+d) (i:Int) ah ks=some (fol vf ah ks (ls.drop i))
 | 0,i,f,ah,ks,hi,ha,hk,hkl=>by
  show Z47 ls _ _ ah ks=_
  rw [Z47,Z08 (decide_eq_false (by omega)),List.drop_eq_nil_of_le (by omega)]
  rfl
 | d+1,i,f,ah,ks,hi,ha,hk,hkl=>by
  show Z47 ls (Z48 ls (f+1+d)) _ ah ks=_
  have hlt:i<ls.length:=by omega
  have hx:=Zj5 hl hlt
  have hd:ls.drop i=ls.getD i api_Link_z::ls.drop (i+1):=by rw [Zcl hlt]; exact List.drop_eq_getElem_cons hlt
  rw [Z47,Z0g (decide_eq_true (by omega)),Zo (Z0i (by omega) (by omega)),Zb,Int.toNat_natCast,hd,Z0pf hk hx.1 (by omega),Zo (by simp [imp])]
  show br ((((ls.getD i api_Link_z).gEpoch != (ks.length:Int))||decide ((ls.getD i api_Link_z).gKey∈ks))) _ _=_
  unfold fol
  cases hc:((ls.getD i api_Link_z).gEpoch != (ks.length:Int))||decide ((ls.getD i api_Link_z).gKey∈ks)
  ·rw [Z08 rfl,Z3 (psay _)]
   dsimp only
   rw [Z3 (pver ha hx),cond_false]
   cases hv:vf ah (ls.getD i api_Link_z)
   ·rfl
   ·rw [Z08 (by rfl),Zo (by simp; omega),Zb,Zb,Zis (by omega)]
    exact Zub hl hn d (i+1) f _ _ (by omega) hx.1 (Z0ct hk hx.1) (by simp [hkl])
  ·rfl
theorem Zyi {root:LI} {ls:List api_Link} (hr:KeyOk root) (hl:LksOk ls):Z66 root ls=some (Zdz root ls):=by
 rw [Z66]
 unfold Zdz
 cases hc:decide ((ls.length:Int)>64)
 ·have hc':=of_decide_eq_false hc
  obtain ⟨f,hf⟩ : ∃ f,big=f+1+ls.length:=⟨18446744073709551615-ls.length,by have:big=18446744073709551616:=Z1t; omega⟩
  rw [Z08 rfl,hf]
  exact Zub hl (by omega) ls.length 0 f root [root] (by omega) hr (fun k hk=>by rw [List.mem_singleton.1 hk]; exact hr) rfl
 ·rfl
theorem Z03v {V:LI->api_Link->Bool} : ∀ {ls:List api_Link} {ah:LI} {ks:List (LI)} {r:List (LI)} {i:Nat},fol V ah ks ls=(r,0)->ks.length=i+1->ah=ks.getD i (replicate 32 0) ->
  r=ks++ls.map (·.gKey) /\ ∀ j,j<ls.length->(ls.getD j api_Link_z).gEpoch=((i+j+1:Nat):Int)/\V (r.getD (i+j) (replicate 32 0)) (ls.getD j api_Link_z)=true
 | [],ah,ks,r,i,h,_,_=>by
  unfold fol at h
  injection h with h1 h2
  subst h1
  exact ⟨by simp,fun j hj=>absurd hj (Nat.not_lt_zero _)⟩
 | l::ls,ah,ks,r,i,h,hk,ha=>by
  unfold fol at h
  cases hc:(l.gEpoch != (ks.length:Int))||decide (l.gKey∈ks)
  ·rw [hc,cond_false] at h
   simp only [Bool.or_eq_false_iff,bne_eq_false_iff_eq] at hc
   cases hv:V ah l
   ·rw [hv] at h; simp at h
   ·rw [hv] at h
    simp only [Bool.not_true,cond_false] at h
    obtain ⟨h1,h2⟩:=Z03v (i:=i+1) h (by simp [hk]) (by rw [<- hk]; simp)
    refine ⟨by rw [h1]; simp,?_⟩
    intro j hj
    match j with
    | 0 =>
     refine ⟨by show l.gEpoch=_; rw [hc.1]; omega,?_⟩
     show V (r.getD i _) l=true
     have:r.getD i (replicate 32 0)=ah:=by
      rw [h1,ha,List.getD_eq_getElem?_getD,List.getD_eq_getElem?_getD,List.append_assoc,List.getElem?_append_left (by omega)]
     rw [this]; exact hv
    | j+1 =>
     have:=h2 j (by simpa using hj)
     rw [show i+1+j+1=i+(j+1)+1 by omega,show i+1+j=i+(j+1) by omega] at this
     exact this
  ·rw [hc,cond_true] at h; injection h with _ h2; cases h2
theorem Zg8 {root:LI} {ls:List api_Link} (h:(Zdz root ls).2=0):ls.length<=64/\(Zdz root ls).1=root::ls.map (·.gKey) /\
  ∀ j,j<ls.length->(ls.getD j api_Link_z).gEpoch=((j+1:Nat):Int)/\vf ((root::ls.map (·.gKey)).getD j (replicate 32 0)) (ls.getD j api_Link_z)=true:=by
 unfold Zdz at h ⊢
 cases hc:decide ((ls.length:Int)>64)
 ·rw [hc,cond_false] at h
  have hc':=of_decide_eq_false hc
  obtain ⟨h1,h2⟩:=Z03v (V:=vf) (ah:=root) (ks:=[root]) (ls:=ls) (r:=(fol vf root [root] ls).1) (i:=0) (Prod.ext rfl h) rfl rfl
  rw [cond_false]
  refine ⟨by omega,h1,fun j hj=>?_⟩
  have:=h2 j hj
  rw [h1] at this
  simpa using this
 ·rw [hc] at h; cases h
end Go.Proofs.YtiflckckekjbnaaGreatDoor
namespace Go.Proofs.YtiflckckekjbnaaGreatDoor
open Go Go.Sx Go.RowKit
set_option linter.all false
set_option maxRecDepth 100000
set_option maxHeartbeats 1000000
theorem Zgl {p:List api_Link} (hb:p.length<=9223372036854775806):Z0l p p=some true:=by
 rw [Z0l,Z08 (by simp),Z13]
 exact walk (fun f i=>Z1q p p (fun (_:Unit)=>some true) f (i:Int)) (j:=p.length) (by omega)
  (fun i f hi=>by
   show Z1p p p _ (Z1q p p _ f) _=_
   rw [Z1p,Z0g (decide_eq_true (by omega)),Zo (Z0i (by omega) (by omega)),Zb,Zo (Z0i (by omega) (by omega)),Zb,Z08 (by simp [ieq]),Zb,Zis (by omega)])
  (fun f=>by
   show Z1p p p _ _ _=_
   rw [Z1p,Z08 (decide_eq_false (by omega))])
theorem Zp3 {a b:List api_Link} (ha:LksOk a) (hb:LksOk b):a <+: b ↔ ∀ i,i<a.length->i<b.length/\eqL (a.getD i api_Link_z) (b.getD i api_Link_z)=true:=by
 rw [List.prefix_iff_getElem]
 constructor
 ·rintro ⟨hl,h⟩ i hi
  refine ⟨by omega,?_⟩
  rw [Zcl hi,Zcl (show i<b.length by omega),h i hi]
  exact Z019 _
 ·intro h
  have hl:a.length<=b.length:=by
   rcases Nat.lt_or_ge b.length a.length with h1 | h1
   ·exact absurd (h b.length h1).1 (Nat.lt_irrefl _)
   ·exact h1
  refine ⟨hl,fun i hi=>?_⟩
  have:=(Z061 (Zj5 ha hi) (Zj5 hb (h i hi).1)).1 (h i hi).2
  rwa [Zcl hi,Zcl (h i hi).1] at this
open Classical in
theorem Zyh {a b:List api_Link} (ha:LksOk a) (hb:LksOk b) (hn:a.length<9223372036854775807):Z7l a b=some (decide (a <+: b)):=by
 rw [Z7l,Z13]
 rcases Zuu (fun f i=>Z4a a b (fun (_:Unit)=>some true) f (i:Int)) (n:=a.length) (p:=fun i=>decide (b.length<=i) || !(eqL (a.getD i api_Link_z) (b.getD i api_Link_z))) (R:=fun i=>some false) (E:=some true) (by omega)
  (fun i f hi=>by
   show Z49 a b _ (Z4a a b _ f) _=_
   have e:decide ((i:Int)≥(b.length:Int))=decide (b.length<=i):=by
    by_cases h:b.length<=i
    ·rw [decide_eq_true h,decide_eq_true (by omega)]
    ·rw [decide_eq_false h,decide_eq_false (by omega)]
   rw [Z49,Z0g (decide_eq_true (by omega)),Zo (Z0i (by omega) (by omega)),Zb,Int.toNat_natCast,e,Zo (by
    by_cases h:b.length<=i
    ·simp [imp,h]
    ·simp [imp,h,inB]; omega),Zb,Zis (by omega),br_c]
   rfl)
  (fun f=>by
   show Z49 a b _ _ _=_
   rw [Z49,Z08 (decide_eq_false (by omega))]) with ⟨i,h1,h2,h3,h4⟩ | ⟨h1,h2⟩
 ·have hm : ¬ a <+: b:=fun hc=>by
   have:=(Zp3 ha hb).1 hc i h1
   rw [this.2] at h2
   simp at h2; omega
  rw [decide_eq_false hm]; exact h4
 ·have hm:a <+: b:=(Zp3 ha hb).2 fun i hi=>by
   have:=h1 i hi
   simp only [Bool.or_eq_false_iff,decide_eq_false_iff_not,Bool.not_eq_false'] at this
   exact ⟨by omega,this.2⟩
  rw [decide_eq_true hm]; exact h2
open Classical in
noncomputable def Zf8 (root:LI) (a b:List api_Link):List api_Link×Int :=
 if (Zdz root a).2≠0 then ([],(Zdz root a).2) else if (Zdz root b).2≠0 then ([],(Zdz root b).2) else if a <+: b then (b,0) else if b <+: a then (a,0) else ([],171)
theorem Zto {a:List api_Link} (h:a.length<=64):Z1d a=some a:=by
 rw [Z1d,Zo (by simp; omega)]
open Classical in
theorem Zyj {root:LI} {a b:List api_Link} (hr:KeyOk root) (ha:LksOk a) (hb:LksOk b):Z77 root a b=some (Zf8 root a b):=by
 obtain ⟨f,hf⟩ : ∃ f,big=f+3:=⟨18446744073709551613,Z1t⟩
 have l2:(([a,b]:List (List api_Link)).length:Int)=2:=rfl
 rw [Z77,Z13,hf]
 show Z31 root a b _ (Z3y root a b _ (f+2)) 0=_
 rw [Z31,l2,Z0g (by decide),Zo (by rfl)]
 show opt (Z66 root a) _=_
 rw [Z3 (Zyi hr ha)]
 unfold Zf8
 by_cases h1:(Zdz root a).2≠0
 ·rw [Z0g (by simpa using h1),if_pos h1]
 ·have h1':(Zdz root a).2=0:=Classical.not_not.1 h1
  rw [Z08 (by simpa using h1'),if_neg h1,Zb,show IntKind.wrap .i64 (0+1)=1 by decide]
  show Z31 root a b _ (Z3y root a b _ (f+1)) 1=_
  rw [Z31,l2,Z0g (by decide),Zo (by rfl)]
  show opt (Z66 root b) _=_
  rw [Z3 (Zyi hr hb)]
  by_cases h2:(Zdz root b).2≠0
  ·rw [Z0g (by simpa using h2),if_pos h2]
  ·have h2':(Zdz root b).2=0:=Classical.not_not.1 h2
   have la:=(Zg8 h1').1
   have lb:=(Zg8 h2').1
   rw [Z08 (by simpa using h2'),if_neg h2,Zb,show IntKind.wrap .i64 (1+1)=2 by decide]
   show Z31 root a b _ (Z3y root a b _ f) 2=_
   rw [Z31,l2,Z08 (by decide),Z3 (Zyh ha hb (by omega))]
   by_cases h3:a <+: b
   ·rw [Z0g (decide_eq_true h3),if_pos h3,Z3 (Zto lb)]
   ·rw [Z08 (decide_eq_false h3),if_neg h3,Z3 (Zyh hb ha (by omega))]
    by_cases h4:b <+: a
    ·rw [Z0g (decide_eq_true h4),if_pos h4,Z3 (Zto la)]
    ·rw [Z08 (decide_eq_false h4),if_neg h4]
end Go.Proofs.YtiflckckekjbnaaGreatDoor
namespace Go.Proofs.YtiflckckekjbnaaGreatDoor
open Go Go.Sx Go.RowKit
open Go.IntKind (wrap)
set_option linter.all false
set_option maxRecDepth 100000
set_option maxHeartbeats 1000000
def rV (l:LI):Nat->Int
  | 0=>0
  | n+1=>rV l n+l.getD n 0*(67108864:Int)^n
theorem Z9z (l:LI) (n:Nat):rV l (n+1)=rV l n+l.getD n 0*(67108864:Int)^n:=rfl
theorem Zm9 (l:LI) (i:Nat) (v:Int) : ∀ n,n<=i->rV (Z2u l i v) n=rV l n
  | 0,_=>rfl
  | n+1,h=>by rw [Z9z,Z9z,Zm9 l i v n (by omega),Z1h,if_neg (by omega)]
theorem Zk6 (l:LI) (i:Nat) (v:Int) : ∀ n,i<n->rV (Z2u l i v) n=rV l n+(v-l.getD i 0)*(67108864:Int)^i
  | 0,h=>by omega
  | n+1,h=>by
    rw [Z9z,Z9z,Z1h]
    by_cases hi:n=i
    · subst hi
      rw [if_pos rfl,Zm9 l n v n (Nat.le_refl _),Int.sub_mul]
      omega
    · rw [if_neg hi,Zk6 l i v n (by omega)]
      omega
theorem Zup (n:Nat):0<(67108864:Int)^n:=Int.pow_pos (by decide)
theorem Zm8 {l:LI} : ∀ n,(∀ i,i<n->0<=l.getD i 0/\l.getD i 0<67108864)->0<=rV l n/\rV l n<(67108864:Int)^n
  | 0,_=>by show (0:Int)<=0/\(0:Int)<1; omega
  | n+1,h=>by
    have ih:=Zm8 n (fun i hi=>h i (by omega))
    have h1:=h n (by omega)
    have hp:=Zup n
    rw [Z9z,Int.pow_succ]
    generalize (67108864:Int)^n=w at *
    generalize l.getD n 0=x at *
    generalize rV l n=v at *
    have a:0<=x*w:=Int.mul_nonneg h1.1 (by omega)
    have b:x*w<=67108863*w:=Int.mul_le_mul_of_nonneg_right (by omega) (by omega)
    omega
theorem Zwm {x:Int} (h0:0<=x) (h1:x<18446744073709551616):Z4 .and .u64 x 67108863=x%67108864:=Ziu 26 (by decide) (by decide) h0 h1
theorem Z0jv {x:Int} (h0:0<=x) (h1:x<18446744073709551616):Z4 .and .u64 x 2097151=x%2097152:=Ziu 21 (by decide) (by decide) h0 h1
theorem Z032 (x:Int):Zq .u64 x 26=x / 67108864:=by have:=Z9p .u64 (x:=x) (n:=26) (by decide); simpa using this
theorem Z0st (x:Int):Zq .u64 x 21=x / 2097152:=by have:=Z9p .u64 (x:=x) (n:=21) (by decide); simpa using this
theorem Z0sv (x:Int):Zq .u64 x 52=x / 4503599627370496:=by have:=Z9p .u64 (x:=x) (n:=52) (by decide); simpa using this
theorem Z6b {l:LI} {i:Nat} {v:Int} (h:i<l.length):(Z2u l i v).length=l.length:=by rw [Zzn h,List.length_set]
theorem Z3n {i:Nat} (h:i<1000000):wrap .i64 ((i:Int)+1)=((i+1:Nat):Int):=by rw [Zj (by omega) (by omega)]; rfl
def rdig (n:Int):LI:=[n%67108864,n / 67108864%67108864,n / 4503599627370496%67108864,n / 302231454903657293676544%67108864,n / 20282409603651670423947251286016%67108864,n / 1361129467683753853853498429727072845824%67108864,n / 91343852333181432387730302044767688728495783936%67108864,n / 6129982163463555433433388108601236734474956488734408704%67108864,n / 411376139330301510538742295639337626245683966408394965837152256%67108864,n / 27606985387162255149739023449108101809804435888681546220650096895197184%67108864]
def rn (n:Int):LI:=rdig (n%PP)
theorem Zr0 (l:LI):rV l 10=l.getD 0 0+l.getD 1 0*67108864+l.getD 2 0*4503599627370496+l.getD 3 0*302231454903657293676544+l.getD 4 0*20282409603651670423947251286016+l.getD 5 0*1361129467683753853853498429727072845824+l.getD 6 0*91343852333181432387730302044767688728495783936+l.getD 7 0*6129982163463555433433388108601236734474956488734408704+l.getD 8 0*411376139330301510538742295639337626245683966408394965837152256+l.getD 9 0*27606985387162255149739023449108101809804435888681546220650096895197184:=by
  simp only [rV]
  have e0:(67108864:Int)^0=1:=by decide
  have e1:(67108864:Int)^1=67108864:=by decide
  have e2:(67108864:Int)^2=4503599627370496:=by decide
  have e3:(67108864:Int)^3=302231454903657293676544:=by decide
  have e4:(67108864:Int)^4=20282409603651670423947251286016:=by decide
  have e5:(67108864:Int)^5=1361129467683753853853498429727072845824:=by decide
  have e6:(67108864:Int)^6=91343852333181432387730302044767688728495783936:=by decide
  have e7:(67108864:Int)^7=6129982163463555433433388108601236734474956488734408704:=by decide
  have e8:(67108864:Int)^8=411376139330301510538742295639337626245683966408394965837152256:=by decide
  have e9:(67108864:Int)^9=27606985387162255149739023449108101809804435888681546220650096895197184:=by decide
  rw [e0,e1,e2,e3,e4,e5,e6,e7,e8,e9]
  omega
theorem Zkv {l:LI} (h:l.length=10):l = [l.getD 0 0,l.getD 1 0,l.getD 2 0,l.getD 3 0,l.getD 4 0,l.getD 5 0,l.getD 6 0,l.getD 7 0,l.getD 8 0,l.getD 9 0]:=by
  match l,h with
  | [a0,a1,a2,a3,a4,a5,a6,a7,a8,a9],_=>rfl
theorem Zma {l:LI} (hl:l.length=10) (hd : ∀ i,0<=l.getD i 0/\l.getD i 0<67108864):l=rdig (rV l 10):=by
  rw [Zr0]
  have e:=Zkv hl
  have h0:=hd 0
  have h1:=hd 1
  have h2:=hd 2
  have h3:=hd 3
  have h4:=hd 4
  have h5:=hd 5
  have h6:=hd 6
  have h7:=hd 7
  have h8:=hd 8
  have h9:=hd 9
  generalize hq:l.getD 0 0+l.getD 1 0*67108864+l.getD 2 0*4503599627370496+l.getD 3 0*302231454903657293676544+l.getD 4 0*20282409603651670423947251286016+l.getD 5 0*1361129467683753853853498429727072845824+l.getD 6 0*91343852333181432387730302044767688728495783936+l.getD 7 0*6129982163463555433433388108601236734474956488734408704+l.getD 8 0*411376139330301510538742295639337626245683966408394965837152256+l.getD 9 0*27606985387162255149739023449108101809804435888681546220650096895197184=n
  refine e.trans ?_
  clear e hd hl
  generalize l.getD 0 0=d0 at *
  generalize l.getD 1 0=d1 at *
  generalize l.getD 2 0=d2 at *
  generalize l.getD 3 0=d3 at *
  generalize l.getD 4 0=d4 at *
  generalize l.getD 5 0=d5 at *
  generalize l.getD 6 0=d6 at *
  generalize l.getD 7 0=d7 at *
  generalize l.getD 8 0=d8 at *
  generalize l.getD 9 0=d9 at *
  unfold rdig
  simp only [List.cons.injEq,and_true]
  refine ⟨?_,?_,?_,?_,?_,?_,?_,?_,?_,?_⟩ <;> omega
theorem Z02j (n:Int) : ∀ i,0<=(rdig n).getD i 0/\(rdig n).getD i 0<67108864:=by
  intro i
  match i with
  | 0=>show 0<=_%_/\_%_<_; omega
  | 1=>show 0<=_%_/\_%_<_; omega
  | 2=>show 0<=_%_/\_%_<_; omega
  | 3=>show 0<=_%_/\_%_<_; omega
  | 4=>show 0<=_%_/\_%_<_; omega
  | 5=>show 0<=_%_/\_%_<_; omega
  | 6=>show 0<=_%_/\_%_<_; omega
  | 7=>show 0<=_%_/\_%_<_; omega
  | 8=>show 0<=_%_/\_%_<_; omega
  | 9=>show 0<=_%_/\_%_<_; omega
  | i+10=>show (0:Int)<=0/\(0:Int)<_; omega
theorem Zyy {n:Int} (h0:0<=n) (h1:n<57896044618658097711785492504343953926634992332820282019728792003956564819968):rV (rdig n) 10=n:=by
  rw [Zr0]
  simp only [rdig,List.getD_cons_zero,List.getD_cons_succ]
  omega
theorem Zl7 (n:Int):0<=n%PP/\n%PP<PP:=⟨Int.emod_nonneg _ (by decide),Int.emod_lt_of_pos _ Zju⟩
theorem Zqz (n:Int):rV (rn n) 10=n%PP:=Zyy (Zl7 n).1 (by have:=(Zl7 n).2; unfold PP at this ⊢; omega)
theorem Zgj {a b:Int} (h:a%PP=b%PP):rn a=rn b:=by unfold rn; rw [h]
theorem Zz7 (a:Int):rn (a%PP)=rn a:=Zgj (Zez a)
theorem Z04l (n:Int):(rn n).length=10:=rfl
theorem Zmb (n:Int) : ∀ i,0<=(rn n).getD i 0/\(rn n).getD i 0<67108864:=Z02j _
theorem Z0ix {a b:Int} (h:rn a=rn b):a%PP=b%PP:=by rw [<- Zqz,<- Zqz,h]
theorem Zpv (k:LI->Option (LI)) (m:Nat) : ∀ (n i:Nat) (a:LI),i+m=9->a.length=10->(∀ j,0<=a.getD j 0)->(∀ j,j<i->a.getD j 0<67108864)->(∀ j,i<j->a.getD j 0<1152921504606846976)->a.getD i 0<1152921504606846976+34359738368 ->
    ∃ c,Z58 k (n+1+m) (i:Int) a=k c/\c.length=10/\(∀ j,0<=c.getD j 0)/\(∀ j,j<9->c.getD j 0<67108864)/\c.getD 9 0<1152921504606846976+34359738368/\rV c 10=rV a 10:=by
  induction m with
  | zero =>
    intro n i a hi hl h0 h1 h2 h3
    have e:i=9:=by omega
    subst e
    refine ⟨a,?_,hl,h0,h1,h3,rfl⟩
    rw [Nat.add_zero,Z58,Z9e,Z08 (by decide)]
  | succ m ih =>
    intro n i a hi hl h0 h1 h2 h3
    have e1:=Z3n (i:=i) (by omega)
    have a0:=h0 i
    have b0:=h0 (i+1)
    have b2:=h2 (i+1) (by omega)
    have hs:wrap .u64 (a.getD (i+1) 0+a.getD i 0 / 67108864)=a.getD (i+1) 0+a.getD i 0 / 67108864:=Zd (by omega) (by omega)
    have hg:(Z2u a (i+1) (a.getD (i+1) 0+a.getD i 0 / 67108864)).getD i 0=a.getD i 0:=by rw [Z1h,if_neg (by omega)]
    have hgd : ∀ j,(Z2u (Z2u a (i+1) (a.getD (i+1) 0+a.getD i 0 / 67108864)) i (a.getD i 0%67108864)).getD j 0=if j=i then a.getD i 0%67108864 else if j=i+1 then a.getD (i+1) 0+a.getD i 0 / 67108864 else a.getD j 0:=by
      intro j; rw [Z1h,Z1h]
    have hlen:(Z2u (Z2u a (i+1) (a.getD (i+1) 0+a.getD i 0 / 67108864)) i (a.getD i 0%67108864)).length=10:=by rw [Z6b (by rw [Z6b (by omega)]; omega),Z6b (by omega),hl]
    obtain ⟨c,ec,c1,c2,c3,c4,c5⟩:=ih n (i+1) _ (by omega) hlen
      (by intro j; rw [hgd]; have:=h0 j; split <;> (try split) <;> omega)
      (by intro j hj; rw [hgd]; split
          · omega
          · rw [if_neg (by omega)]; exact h1 j (by omega))
      (by intro j hj; rw [hgd,if_neg (by omega),if_neg (by omega)]; exact h2 j (by omega))
      (by rw [hgd,if_neg (by omega),if_pos rfl]; omega)
    refine ⟨c,?_,c1,c2,c3,c4,?_⟩
    · rw [<- Nat.add_assoc,Z58,Z9e,Z0g (decide_eq_true (by omega))]
      simp only [Zb,e1,Int.toNat_natCast,Z032,hs,hg]
      rw [Zwm a0 (by omega),Zo (Z0i (by omega) (by omega)),Zo (Z0i (by omega) (by omega)),Zo (Z0i (by omega) (by omega)),Zo (Z0i (by omega) (by omega)),Zo (Z0i (by omega) (by omega))]
      exact ec
    · rw [c5,Zk6 _ _ _ _ (by omega),Zk6 _ _ _ _ (by omega),hg,Int.pow_succ]
      have hd:=Int.mul_ediv_add_emod (a.getD i 0) 67108864
      generalize a.getD i 0 / 67108864=d at *
      generalize a.getD i 0%67108864=r at *
      generalize a.getD i 0=x at *
      generalize a.getD (i+1) 0=y at *
      generalize (67108864:Int)^i=w at *
      generalize rV a 10=v at *
      clear ih ec hgd hs hg c1 c2 c3 c4 c5 hlen
      grind -lia -linarith (splits:=0)
theorem Znd {a:LI} (hl:a.length=10) (h0 : ∀ j,0<=a.getD j 0/\a.getD j 0<1152921504606846976) : ∃ c,Zbd a=some c/\c.length=10/\(∀ j,0<=c.getD j 0)/\(∀ j,j<9->c.getD j 0<67108864)/\c.getD 9 0<1152921504606846976+34359738368/\rV c 10=rV a 10:=by
  obtain ⟨n,hn⟩ : ∃ n,big=n+1+9:=⟨18446744073709551606,Z1t⟩
  rw [Zbd,Z13,hn]
  exact Zpv some 9 n 0 a (by omega) hl (fun j=>(h0 j).1) (fun j h=>by omega) (fun j _=>(h0 j).2) (by have:=(h0 0).2; omega)
theorem Zla {a b:LI} (ha : ∀ i,0<=a.getD i 0/\a.getD i 0<67108864) (hb : ∀ i,0<=b.getD i 0/\b.getD i 0<67108864) (k:Unit->Option Bool) (hk:k ()=some false) : ∀ (m n:Nat),m<=10 ->
    Z74 a b k (n+1+m) ((m:Int)-1)=some (decide (rV a m<rV b m))
  | 0,n,_=>by
    rw [Nat.add_zero,Z74,Zbw,Z08 (by decide),hk]
    simp [rV]
  | m+1,n,hm=>by
    have ih:=Zla ha hb k hk m n (by omega)
    have e0:((m+1:Nat):Int)-1=(m:Int):=by omega
    have e1:wrap .i64 ((m:Int)-1)=(m:Int)-1:=Zj (by omega) (by omega)
    have ra:=Zm8 m (fun i _=>ha i)
    have rb:=Zm8 m (fun i _=>hb i)
    rw [e0,<- Nat.add_assoc,Z74,Zbw,Z0g (decide_eq_true (by omega)),Zo (Z0i (by omega) (by omega)),Zo (Z0i (by omega) (by omega))]
    simp only [Zb,e1,Int.toNat_natCast]
    rw [Z9z,Z9z]
    by_cases h:a.getD m 0=b.getD m 0
    · rw [Z08 (by rw [h]; simp),ih,h]
      congr 1
      by_cases h2:rV a m<rV b m
      · rw [decide_eq_true h2,decide_eq_true (by omega)]
      · rw [decide_eq_false h2,decide_eq_false (by omega)]
    · rw [Z0g (by simpa using h),Zo (Z0i (by omega) (by omega)),Zo (Z0i (by omega) (by omega))]
      congr 1
      generalize a.getD m 0=x at *
      generalize b.getD m 0=y at *
      generalize rV a m=v at *
      generalize rV b m=u at *
      have hp:=Zup m
      generalize (67108864:Int)^m=w at *
      by_cases h2:x<y
      · have h3:(x+1)*w<=y*w:=Int.mul_le_mul_of_nonneg_right (by omega) (by omega)
        rw [Int.add_mul,Int.one_mul] at h3
        rw [decide_eq_true h2,decide_eq_true (by omega)]
      · have h3:(y+1)*w<=x*w:=Int.mul_le_mul_of_nonneg_right (by omega) (by omega)
        rw [Int.add_mul,Int.one_mul] at h3
        rw [decide_eq_false h2,decide_eq_false (by omega)]
theorem Zwt {a b:LI} (ha : ∀ i,0<=a.getD i 0/\a.getD i 0<67108864) (hb : ∀ i,0<=b.getD i 0/\b.getD i 0<67108864):Zgg a b=some (decide (rV a 10<rV b 10)):=by
  obtain ⟨n,hn⟩ : ∃ n,big=n+1+10:=⟨18446744073709551605,Z1t⟩
  rw [Zgg,Z13,hn]
  exact Zla ha hb _ rfl 10 n (by omega)
theorem Zxu {b:LI} (hb : ∀ i,0<=b.getD i 0/\b.getD i 0<67108864) (k:LI->Option (LI)) {a0:LI} (m:Nat) : ∀ (n i:Nat) (c:Int) (a:LI),i+m=10->a.length=10->(c=0∨c=1)->(∀ j,0<=a.getD j 0/\a.getD j 0<67108864)->(∀ j,i<=j->a.getD j 0=a0.getD j 0)->rV a i=rV a0 i-rV b i+c*(67108864:Int)^i ->
    ∃ r c',Z4i b k (n+1+m) c (i:Int) a=k r/\r.length=10/\(c'=0∨c'=1)/\(∀ j,0<=r.getD j 0/\r.getD j 0<67108864)/\rV r 10=rV a0 10-rV b 10+c'*(67108864:Int)^10:=by
  induction m with
  | zero =>
    intro n i c a hi hl hc ha hj hv
    have e:i=10:=by omega
    subst e
    refine ⟨a,c,?_,hl,hc,ha,hv⟩
    rw [Nat.add_zero,Z4i,Z7w,Z08 (by decide)]
  | succ m ih =>
    intro n i c a hi hl hc ha hj hv
    have e1:=Z3n (i:=i) (by omega)
    have h1:=ha i
    have h2:=hb i
    have w1:wrap .u64 (a.getD i 0+67108863)=a.getD i 0+67108863:=Zd (by omega) (by omega)
    have w2:wrap .u64 (a.getD i 0+67108863+1)=a.getD i 0+67108864:=by rw [Zd (by omega) (by omega)]; omega
    have w3:wrap .u64 (a.getD i 0+67108864-b.getD i 0)=a.getD i 0+67108864-b.getD i 0:=Zd (by omega) (by omega)
    have w4:wrap .u64 (a.getD i 0+67108864-b.getD i 0-c)=a.getD i 0+67108864-b.getD i 0-c:=Zd (by omega) (by omega)
    have w5:wrap .u64 (1-(a.getD i 0+67108864-b.getD i 0-c) / 67108864)=1-(a.getD i 0+67108864-b.getD i 0-c) / 67108864:=Zd (by omega) (by omega)
    obtain ⟨r,c',er,r1,r2,r3,r4⟩:=ih n (i+1) (1-(a.getD i 0+67108864-b.getD i 0-c) / 67108864) (Z2u a i ((a.getD i 0+67108864-b.getD i 0-c)%67108864)) (by omega) (by rw [Z6b (by omega),hl]) (by omega)
      (by intro j; rw [Z1h]; split
          · omega
          · exact ha j)
      (by intro j h; rw [Z1h,if_neg (by omega)]; exact hj j (by omega)) (by
        rw [Z9z,Z9z,Z9z,Zm9 _ _ _ _ (Nat.le_refl _),Z1h,if_pos rfl,hv,<- hj i (Nat.le_refl _),Int.pow_succ]
        have hd:=Int.mul_ediv_add_emod (a.getD i 0+67108864-b.getD i 0-c) 67108864
        generalize (a.getD i 0+67108864-b.getD i 0-c) / 67108864=d at *
        generalize (a.getD i 0+67108864-b.getD i 0-c)%67108864=q at *
        generalize a.getD i 0=x at *
        generalize b.getD i 0=y at *
        generalize (67108864:Int)^i=w at *
        generalize rV a0 i=v at *
        generalize rV b i=u at *
        clear ih w1 w2 w3 w4 w5 hj hv e1 ha hb
        grind -lia -linarith (splits:=0))
    refine ⟨r,c',?_,r1,r2,r3,r4⟩
    rw [<- Nat.add_assoc,Z4i,Z7w,Z0g (decide_eq_true (by omega))]
    simp only [Zb,e1,Int.toNat_natCast,Z032,w1,w2,w3,w4,w5]
    rw [Zwm (by omega) (by omega),Zo (Z0i (by omega) (by omega)),Zo (Z0i (by omega) (by omega)),Zo (Z0i (by omega) (by omega))]
    exact er
theorem Zln {a b:LI} (hl:a.length=10) (ha : ∀ i,0<=a.getD i 0/\a.getD i 0<67108864) (hb : ∀ i,0<=b.getD i 0/\b.getD i 0<67108864) (hle:rV b 10<=rV a 10) :
    ∃ r,Z89 a b=some r/\r.length=10/\(∀ j,0<=r.getD j 0/\r.getD j 0<67108864)/\rV r 10=rV a 10-rV b 10:=by
  obtain ⟨n,hn⟩ : ∃ n,big=n+1+10:=⟨18446744073709551605,Z1t⟩
  obtain ⟨r,c',er,r1,r2,r3,r4⟩:=Zxu hb some (a0:=a) 10 n 0 0 a (by omega) hl (.inl rfl) ha (fun _ _=>rfl) (by show (0:Int)=0-0+0*1; omega)
  have hr:=Zm8 10 (fun i _=>r3 i)
  have h1:=Zm8 10 (fun i _=>ha i)
  have h2:=Zm8 10 (fun i _=>hb i)
  refine ⟨r,?_,r1,r3,?_⟩
  · rw [Z89,Z13,hn]; exact er
  · generalize (67108864:Int)^10=w at *
    rcases r2 with h | h <;> subst h <;> omega
def Zk8:LI:=[67108845,67108863,67108863,67108863,67108863,67108863,67108863,67108863,67108863,2097151]
theorem Zjk : ∀ i,0<=Zk8.getD i 0/\Zk8.getD i 0<67108864:=by
  intro i
  simp only [List.getD]
  cases hi:Zk8[i]? with
  | none=>simp
  | some v =>
    have hm:=List.mem_of_getElem? hi
    have : ∀ x∈Zk8,0<=x/\x<67108864:=by decide
    exact this v hm
theorem Zdn:rV Zk8 10=PP:=by decide
structure Nrm (a:LI):Prop where
  len:a.length=10
  pos : ∀ j,0<=a.getD j 0
  low : ∀ j,j<9->a.getD j 0<67108864
  top:a.getD 9 0<2305843009213693952
theorem Nrm.val {a:LI} (h:Nrm a) : ∃ v,0<=v/\v<27606985387162255149739023449108101809804435888681546220650096895197184/\rV a 10=v+a.getD 9 0*27606985387162255149739023449108101809804435888681546220650096895197184:=by
  have hr:=Zm8 9 (fun i hi=>⟨h.pos i,h.low i hi⟩)
  have e:(67108864:Int)^9=27606985387162255149739023449108101809804435888681546220650096895197184:=by decide
  rw [e] at hr
  exact ⟨rV a 9,hr.1,hr.2,by rw [Z9z,e]⟩
theorem Zvf {a:LI} (h:Nrm a) (h9 : ¬ a.getD 9 0>2097151) : ∃ v,rV a 10=v/\0<=v/\v<57896044618658097711785492504343953926634992332820282019728792003956564819968:=by
  obtain ⟨v,h0,h1,e⟩:=h.val
  have:=h.pos 9
  exact ⟨_,rfl,by omega,by omega⟩
theorem Zni {a:LI} (h:Nrm a) (h9:a.getD 9 0>2097151) (k:LI->Option (LI)) (n:Nat) :
    ∃ c,Z4p k (n+1) a=Z4p k n c/\Nrm c/\rV c 10=rV a 10%57896044618658097711785492504343953926634992332820282019728792003956564819968+19*(rV a 10 / 57896044618658097711785492504343953926634992332820282019728792003956564819968):=by
  obtain ⟨v,v0,v1,ev⟩:=h.val
  have p9:=h.pos 9
  have t9:=h.top
  have p0:=h.pos 0
  have l0:=h.low 0 (by decide)
  have w1:wrap .u64 (19*(a.getD 9 0 / 2097152))=19*(a.getD 9 0 / 2097152):=Zd (by omega) (by omega)
  have w2:wrap .u64 (a.getD 0 0+19*(a.getD 9 0 / 2097152))=a.getD 0 0+19*(a.getD 9 0 / 2097152):=Zd (by omega) (by omega)
  have g9:(Z2u a 0 (a.getD 0 0+19*(a.getD 9 0 / 2097152))).getD 9 0=a.getD 9 0:=by rw [Z1h,if_neg (by decide)]
  have hgd : ∀ j,(Z2u (Z2u a 0 (a.getD 0 0+19*(a.getD 9 0 / 2097152))) 9 (a.getD 9 0%2097152)).getD j 0=if j=9 then a.getD 9 0%2097152 else if j=0 then a.getD 0 0+19*(a.getD 9 0 / 2097152) else a.getD j 0:=by
    intro j; rw [Z1h,Z1h]
  have hlen:(Z2u (Z2u a 0 (a.getD 0 0+19*(a.getD 9 0 / 2097152))) 9 (a.getD 9 0%2097152)).length=10:=by rw [Z6b (by rw [Z6b (by rw [h.len]; decide),h.len]; decide),Z6b (by rw [h.len]; decide),h.len]
  obtain ⟨c,ec,c1,c2,c3,c4,c5⟩:=Znd hlen (by
    intro j; rw [hgd]
    have h1:=h.pos j
    by_cases hj:j=9
    · rw [if_pos hj]; omega
    · rw [if_neg hj]
      by_cases hj0:j=0
      · rw [if_pos hj0]; omega
      · rw [if_neg hj0]
        by_cases hj9:j<9
        · have:=h.low j hj9; omega
        · have:a.getD j 0=0:=by simp [List.getD_eq_getElem?_getD,List.getElem?_eq_none (show a.length<=j by have:=h.len; omega)]
          omega)
  refine ⟨c,?_,⟨c1,c2,c3,by omega⟩,?_⟩
  · rw [Z4p,Zbu]
    simp only [Zb,Z0st,w1,w2,g9]
    rw [Z0jv p9 (by omega),Z0g (decide_eq_true h9),Z3 ec]
  · rw [c5,Zk6 _ _ _ _ (by decide),Zk6 _ _ _ _ (by decide),g9]
    have e0:(67108864:Int)^0=1:=by decide
    have e9:(67108864:Int)^9=27606985387162255149739023449108101809804435888681546220650096895197184:=by decide
    rw [e0,e9,ev]
    generalize a.getD 9 0=x at *
    generalize a.getD 0 0=y at *
    clear ec hgd hlen c1 c2 c3 c4 c5 w1 w2 g9
    omega
theorem Zvg {a:LI} (h:Nrm a) (hb:rV a 10<63657374260452690223495913149955322682597410751168609642183824931005961838254368963428352) (k:LI->Option (LI)) (n:Nat) : ∃ c,Z4p k (n+1+1+1) a=k c/\Nrm c /\ ¬ c.getD 9 0>2097151/\rV c 10%PP=rV a 10%PP:=by
  have stop : ∀ (n:Nat) (a:LI),¬ a.getD 9 0>2097151->Z4p k (n+1) a=k a:=by
    intro n a h
    rw [Z4p,Zbu]
    simp only [Zb]
    rw [Z08 (decide_eq_false h)]
  by_cases h1:a.getD 9 0>2097151
  · obtain ⟨c,ec,nc,vc⟩:=Zni h h1 k (n+1+1)
    have p0:0<=rV a 10:=by obtain ⟨v,v0,_,ev⟩:=h.val; have:=h.pos 9; omega
    by_cases h2:c.getD 9 0>2097151
    · obtain ⟨d,ed,nd,vd⟩:=Zni nc h2 k (n+1)
      obtain ⟨u,u0,u1,eu⟩:=nd.val
      have pd:=nd.pos 9
      have h3 : ¬ d.getD 9 0>2097151:=by
        intro h3
        obtain ⟨v,v0,v1,ev⟩:=nc.val
        clear ec ed stop
        generalize rV a 10=A at *
        generalize rV c 10=C at *
        generalize rV d 10=D at *
        generalize c.getD 9 0=c9 at *
        generalize d.getD 9 0=d9 at *
        clear nc nd h h1
        omega
      refine ⟨d,by rw [ec,ed,stop _ _ h3],nd,h3,?_⟩
      rw [vd,vc]
      clear ec ed stop
      generalize rV a 10=A at *
      unfold PP
      omega
    · refine ⟨c,by rw [ec,stop _ _ h2],nc,h2,?_⟩
      rw [vc]
      generalize rV a 10=A at *
      unfold PP
      omega
  · exact ⟨a,stop _ _ h1,h,h1,rfl⟩
theorem Zku {a:LI} (hl:a.length=10) (h0 : ∀ j,0<=a.getD j 0/\a.getD j 0<1152921504606846976):Z9b a=some (rn (rV a 10)):=by
  obtain ⟨c,ec,c1,c2,c3,c4,c5⟩:=Znd hl h0
  have nc:Nrm c:=⟨c1,c2,c3,by omega⟩
  obtain ⟨n,hn⟩ : ∃ n,big=n+1+1+1:=⟨18446744073709551613,Z1t⟩
  have hb:rV c 10<63657374260452690223495913149955322682597410751168609642183824931005961838254368963428352:=by
    obtain ⟨v,v0,v1,ev⟩:=nc.val
    have:=nc.top
    rw [ev]
    omega
  rw [Z9b,Z3 ec,Z13,hn]
  obtain ⟨d,ed,nd,h9,vd⟩:=Zvg nc hb (fun (a58:LI)=>opt (Ze6) fun y113 =>
 opt (Zgg a58 y113) fun y116 =>
 jn (fun (a120:LI)=>some a120) fun k121=>br ((!y116)) (
 opt (Z89 a58 y113) fun y124 =>
 k121 y124
 ) (
 k121 a58
 )) n
  rw [ed]
  obtain ⟨v,ev,v0,v1⟩:=Zvf nd h9
  have hd : ∀ j,0<=d.getD j 0/\d.getD j 0<67108864:=by
    intro j
    refine ⟨nd.pos j,?_⟩
    by_cases hj:j<9
    · exact nd.low j hj
    · by_cases hj2:j=9
      · subst hj2; omega
      · have:d.getD j 0=0:=by simp [List.getD_eq_getElem?_getD,List.getElem?_eq_none (show d.length<=j by have:=nd.len; omega)]
        omega
  have ep:Ze6=some Zk8:=rfl
  rw [Z3 ep,Z3 (Zwt hd Zjk),Z13,Zdn,ev]
  by_cases hv:v<PP
  · rw [Z08 (by simp [hv]),Zma nd.len hd,ev]
    unfold rn
    rw [<- c5,<- vd,ev,Int.emod_eq_of_lt v0 hv]
  · obtain ⟨r,er,r1,r2,r3⟩:=Zln nd.len hd Zjk (by rw [Zdn,ev]; omega)
    rw [Z0g (by simp [hv]),Z3 er,Zma r1 r2,r3,Zdn,ev]
    unfold rn
    rw [<- c5,<- vd,ev]
    congr 2
    unfold PP at *
    omega
end Go.Proofs.YtiflckckekjbnaaGreatDoor
namespace Go.Proofs.YtiflckckekjbnaaGreatDoor
open Go Go.Sx Go.RowKit
open List (replicate)
open Go.IntKind (wrap)
set_option linter.all false
set_option maxRecDepth 100000
set_option maxHeartbeats 1000000
theorem Zh7 {n:Int} (h0:0<=n) (h1:n<18446744073709551616):Z6s n=some (rn n):=by
  rw [Z6s]
  simp only [Zb,Z032,Z0sv]
  rw [Zwm h0 h1,Zwm (by omega) (by omega)]
  have e:n%PP=n:=Int.emod_eq_of_lt h0 (by unfold PP; omega)
  unfold rn
  rw [e]
  unfold rdig
  congr 1
  simp only [List.cons.injEq,and_true,true_and]
  refine ⟨?_,?_,?_,?_,?_,?_,?_,?_⟩ <;> omega
theorem Z02g (k:LI->Option (LI)) (x0 x1 x2 x3 x4 x5 x6 x7 x8 x9 y0 y1 y2 y3 y4 y5 y6 y7 y8 y9:Int):Zdb [y0,y1,y2,y3,y4,y5,y6,y7,y8,y9] k big 0 [x0,x1,x2,x3,x4,x5,x6,x7,x8,x9]=k [wrap .u64 (x0+y0),wrap .u64 (x1+y1),wrap .u64 (x2+y2),wrap .u64 (x3+y3),wrap .u64 (x4+y4),wrap .u64 (x5+y5),wrap .u64 (x6+y6),wrap .u64 (x7+y7),wrap .u64 (x8+y8),wrap .u64 (x9+y9)]:=by kernel_rfl
theorem Zty {P:Int->Prop} (h0:P 0) {x0 x1 x2 x3 x4 x5 x6 x7 x8 x9:Int} (h0_:P x0) (h1_:P x1) (h2_:P x2) (h3_:P x3) (h4_:P x4) (h5_:P x5) (h6_:P x6) (h7_:P x7) (h8_:P x8) (h9_:P x9) : ∀ j,P (([x0,x1,x2,x3,x4,x5,x6,x7,x8,x9]:LI).getD j 0):=by
  intro j
  match j with
  | 0=>exact h0_
  | 1=>exact h1_
  | 2=>exact h2_
  | 3=>exact h3_
  | 4=>exact h4_
  | 5=>exact h5_
  | 6=>exact h6_
  | 7=>exact h7_
  | 8=>exact h8_
  | 9=>exact h9_
  | j+10=>exact h0
theorem radd (a b:Int):Zel (rn a) (rn b)=some (rn (a+b)):=by
  have ha:=Zmb a
  have hb:=Zmb b
  have va:=Zqz a
  have vb:=Zqz b
  have ea:=Zkv (Z04l a)
  have eb:=Zkv (Z04l b)
  rw [Zr0] at va vb
  have a0:=ha 0
  have b0:=hb 0
  have a1:=ha 1
  have b1:=hb 1
  have a2:=ha 2
  have b2:=hb 2
  have a3:=ha 3
  have b3:=hb 3
  have a4:=ha 4
  have b4:=hb 4
  have a5:=ha 5
  have b5:=hb 5
  have a6:=ha 6
  have b6:=hb 6
  have a7:=ha 7
  have b7:=hb 7
  have a8:=ha 8
  have b8:=hb 8
  have a9:=ha 9
  have b9:=hb 9
  rw [ea,eb,Zel,Z13,Z02g]
  clear ea eb ha hb
  generalize (rn a).getD 0 0=x0 at *
  generalize (rn b).getD 0 0=y0 at *
  generalize (rn a).getD 1 0=x1 at *
  generalize (rn b).getD 1 0=y1 at *
  generalize (rn a).getD 2 0=x2 at *
  generalize (rn b).getD 2 0=y2 at *
  generalize (rn a).getD 3 0=x3 at *
  generalize (rn b).getD 3 0=y3 at *
  generalize (rn a).getD 4 0=x4 at *
  generalize (rn b).getD 4 0=y4 at *
  generalize (rn a).getD 5 0=x5 at *
  generalize (rn b).getD 5 0=y5 at *
  generalize (rn a).getD 6 0=x6 at *
  generalize (rn b).getD 6 0=y6 at *
  generalize (rn a).getD 7 0=x7 at *
  generalize (rn b).getD 7 0=y7 at *
  generalize (rn a).getD 8 0=x8 at *
  generalize (rn b).getD 8 0=y8 at *
  generalize (rn a).getD 9 0=x9 at *
  generalize (rn b).getD 9 0=y9 at *
  rw [Zd (x:=x0+y0) (by omega) (by omega),Zd (x:=x1+y1) (by omega) (by omega),Zd (x:=x2+y2) (by omega) (by omega),Zd (x:=x3+y3) (by omega) (by omega),Zd (x:=x4+y4) (by omega) (by omega),Zd (x:=x5+y5) (by omega) (by omega),Zd (x:=x6+y6) (by omega) (by omega),Zd (x:=x7+y7) (by omega) (by omega),Zd (x:=x8+y8) (by omega) (by omega),Zd (x:=x9+y9) (by omega) (by omega)]
  rw [Z3 (Zku rfl (Zty (P:=fun z=>0<=z/\z<1152921504606846976) (by omega) (by omega) (by omega) (by omega) (by omega) (by omega) (by omega) (by omega) (by omega) (by omega) (by omega)))]
  congr 1
  apply Zgj
  rw [Zr0]
  simp only [List.getD_cons_zero,List.getD_cons_succ]
  have e:(x0+y0)+(x1+y1)*67108864+(x2+y2)*4503599627370496+(x3+y3)*302231454903657293676544+(x4+y4)*20282409603651670423947251286016+(x5+y5)*1361129467683753853853498429727072845824+(x6+y6)*91343852333181432387730302044767688728495783936+(x7+y7)*6129982163463555433433388108601236734474956488734408704+(x8+y8)*411376139330301510538742295639337626245683966408394965837152256+(x9+y9)*27606985387162255149739023449108101809804435888681546220650096895197184=a%PP+b%PP:=by omega
  rw [e,<- Int.add_emod]
theorem rneg (a:Int):Zia (rn a)=some (rn (-a)):=by
  have h:=Zl7 a
  obtain ⟨r,er,r1,r2,r3⟩:=Zln (a:=Zk8) (b:=rn a) rfl Zjk (Zmb a) (by rw [Zdn,Zqz]; omega)
  have ep:Ze6=some Zk8:=rfl
  rw [Zia,Z3 ep,Z3 er,Z3 (Zku r1 (fun j=>by have:=r2 j; omega))]
  congr 1
  apply Zgj
  rw [r3,Zdn,Zqz]
  unfold PP
  omega
theorem rsub (a b:Int):Zjz (rn a) (rn b)=some (rn (a-b)):=by
  rw [Zjz,Z3 (rneg b),Z3 (radd a (-b))]
  congr 2
theorem Zvv {p q:LI} (hp : ∀ i,0<=p.getD i 0/\p.getD i 0<67108864) (hq : ∀ i,0<=q.getD i 0/\q.getD i 0<67108864) {i:Nat} (hi:i<10) (m:Nat) : ∀ (n j:Nat) (a:LI),j+m=10->a.length=20->(∀ t,0<=a.getD t 0/\a.getD t 0<=((i:Int)+1)*4503599493152769)->(∀ t,i+j<=t->a.getD t 0<=(i:Int)*4503599493152769) ->
    ∃ c,(∀ k,Zar p q (i:Int) k (n+1+m) (j:Int) a=k c)/\c.length=20/\(∀ t,0<=c.getD t 0/\c.getD t 0<=((i:Int)+1)*4503599493152769)/\rV c 20+p.getD i 0*rV q j*(67108864:Int)^i=rV a 20+p.getD i 0*rV q 10*(67108864:Int)^i:=by
  induction m with
  | zero =>
    intro n j a hj hl h0 h1
    refine ⟨a,fun k=>?_,hl,h0,by rw [show j=10 by omega]⟩
    rw [Nat.add_zero,Zar,Zfg,Z08 (decide_eq_false (by omega))]
  | succ m ih =>
    intro n j a hj hl h0 h1
    have e1:=Z3n (i:=j) (by omega)
    have e2:wrap .i64 ((i:Int)+(j:Int))=((i+j:Nat):Int):=by rw [Zj (by omega) (by omega)]; omega
    have x1:=hp i
    have x2:=hq j
    have x3:=h0 (i+j)
    have x4:=h1 (i+j) (Nat.le_refl _)
    have xp:0<=p.getD i 0*q.getD j 0:=Int.mul_nonneg x1.1 x2.1
    have xq:p.getD i 0*q.getD j 0<=67108863*67108863:=Int.mul_le_mul (by omega) (by omega) x2.1 (by omega)
    have w1:wrap .u64 (p.getD i 0*q.getD j 0)=p.getD i 0*q.getD j 0:=Zd xp (by omega)
    have w2:wrap .u64 (a.getD (i+j) 0+p.getD i 0*q.getD j 0)=a.getD (i+j) 0+p.getD i 0*q.getD j 0:=Zd (by omega) (by omega)
    obtain ⟨c,ec,c1,c2,c3⟩:=ih n (j+1) (Z2u a (i+j) (a.getD (i+j) 0+p.getD i 0*q.getD j 0)) (by omega) (by rw [Z6b (by omega),hl])
      (by intro t; rw [Z1h]; split
          · omega
          · exact h0 t)
      (by intro t ht; rw [Z1h,if_neg (by omega)]; exact h1 t (by omega))
    refine ⟨c,fun k=>?_,c1,c2,?_⟩
    · rw [<- Nat.add_assoc,Zar,Zfg,Z0g (decide_eq_true (by omega))]
      simp only [Zb,e1,e2,Int.toNat_natCast,w1,w2]
      rw [Zo (Z0i (by omega) (by omega)),Zo (Z0i (by omega) (by omega)),Zo (Z0i (by omega) (by omega)),Zo (Z0i (by omega) (by omega))]
      exact ec k
    · rw [Zk6 _ _ _ _ (by omega),Z9z q j,Int.pow_add] at c3
      generalize (67108864:Int)^i=w at *
      generalize (67108864:Int)^j=u at *
      generalize p.getD i 0=x at *
      generalize q.getD j 0=y at *
      generalize a.getD (i+j) 0=z at *
      generalize rV a 20=va at *
      generalize rV c 20=vc at *
      generalize rV q j=vj at *
      generalize rV q 10=vq at *
      clear ih ec w1 w2 e1 e2 h0 h1 c1 c2 hp hq xp xq
      grind -lia -linarith (splits:=0)
theorem Zvw {p q:LI} (hp : ∀ i,0<=p.getD i 0/\p.getD i 0<67108864) (hq : ∀ i,0<=q.getD i 0/\q.getD i 0<67108864) (k:LI->Option (LI)) (m:Nat) : ∀ (n i:Nat) (a:LI),i+m=10->a.length=20->(∀ t,0<=a.getD t 0/\a.getD t 0<=(i:Int)*4503599493152769)->rV a 20=rV p i*rV q 10 ->
    ∃ c,Z9c p q k (n+1+m) (i:Int) a=k c/\c.length=20/\(∀ t,0<=c.getD t 0/\c.getD t 0<=45035994931527690)/\rV c 20=rV p 10*rV q 10:=by
  induction m with
  | zero =>
    intro n i a hi hl h0 hv
    have e:i=10:=by omega
    subst e
    refine ⟨a,?_,hl,fun t=>by have:=h0 t; omega,hv⟩
    rw [Nat.add_zero,Z9c,Zff,Z08 (by decide)]
  | succ m ih =>
    intro n i a hi hl h0 hv
    have e1:=Z3n (i:=i) (by omega)
    obtain ⟨n',hn⟩ : ∃ n,big=n+1+10:=⟨18446744073709551605,Z1t⟩
    obtain ⟨c,ec,c1,c2,c3⟩:=Zvv hp hq (i:=i) (by omega) 10 n' 0 a (by omega) hl (fun t=>by have:=h0 t; omega) (fun t _=>(h0 t).2)
    obtain ⟨d,ed,d1,d2,d3⟩:=ih n (i+1) c (by omega) c1 (fun t=>by have:=c2 t; omega) (by
      have e0:rV q 0=0:=rfl
      rw [e0,hv] at c3
      rw [Z9z p i]
      generalize (67108864:Int)^i=w at *
      generalize p.getD i 0=x at *
      generalize rV c 20=vc at *
      generalize rV q 10=vq at *
      generalize rV p i=vp at *
      clear ih ec e1 h0 c1 c2 hp hq hv
      grind -lia -linarith (splits:=0))
    refine ⟨d,?_,d1,d2,d3⟩
    rw [<- Nat.add_assoc,Z9c,Zff,Z0g (decide_eq_true (by omega)),Z13,hn]
    refine (ec _).trans ?_
    simp only [Zb,e1]
    exact ed
theorem Zsl (k:LI->Option (LI)) (m:Nat) : ∀ (n i:Nat) (a:LI),i+m=19->a.length=20->(∀ j,0<=a.getD j 0)->(∀ j,j<i->a.getD j 0<67108864)->(∀ j,i<j->a.getD j 0<1152921504606846976)->a.getD i 0<1152921504606846976+34359738368 ->
    ∃ c,Z7v k (n+1+m) (i:Int) a=k c/\c.length=20/\(∀ j,0<=c.getD j 0)/\(∀ j,j<19->c.getD j 0<67108864)/\c.getD 19 0<1152921504606846976+34359738368/\rV c 20=rV a 20:=by
  induction m with
  | zero =>
    intro n i a hi hl h0 h1 h2 h3
    have e:i=19:=by omega
    subst e
    refine ⟨a,?_,hl,h0,h1,h3,rfl⟩
    rw [Nat.add_zero,Z7v,Zfh,Z08 (by decide)]
  | succ m ih =>
    intro n i a hi hl h0 h1 h2 h3
    have e1:=Z3n (i:=i) (by omega)
    have a0:=h0 i
    have b0:=h0 (i+1)
    have b2:=h2 (i+1) (by omega)
    have hs:wrap .u64 (a.getD (i+1) 0+a.getD i 0 / 67108864)=a.getD (i+1) 0+a.getD i 0 / 67108864:=Zd (by omega) (by omega)
    have hg:(Z2u a (i+1) (a.getD (i+1) 0+a.getD i 0 / 67108864)).getD i 0=a.getD i 0:=by rw [Z1h,if_neg (by omega)]
    have hgd : ∀ j,(Z2u (Z2u a (i+1) (a.getD (i+1) 0+a.getD i 0 / 67108864)) i (a.getD i 0%67108864)).getD j 0=if j=i then a.getD i 0%67108864 else if j=i+1 then a.getD (i+1) 0+a.getD i 0 / 67108864 else a.getD j 0:=by
      intro j; rw [Z1h,Z1h]
    have hlen:(Z2u (Z2u a (i+1) (a.getD (i+1) 0+a.getD i 0 / 67108864)) i (a.getD i 0%67108864)).length=20:=by rw [Z6b (by rw [Z6b (by omega)]; omega),Z6b (by omega),hl]
    obtain ⟨c,ec,c1,c2,c3,c4,c5⟩:=ih n (i+1) _ (by omega) hlen
      (by intro j; rw [hgd]; have:=h0 j; split <;> (try split) <;> omega)
      (by intro j hj; rw [hgd]; split
          · omega
          · rw [if_neg (by omega)]; exact h1 j (by omega))
      (by intro j hj; rw [hgd,if_neg (by omega),if_neg (by omega)]; exact h2 j (by omega))
      (by rw [hgd,if_neg (by omega),if_pos rfl]; omega)
    refine ⟨c,?_,c1,c2,c3,c4,?_⟩
    · rw [<- Nat.add_assoc,Z7v,Zfh,Z0g (decide_eq_true (by omega))]
      simp only [Zb,e1,Int.toNat_natCast,Z032,hs,hg]
      rw [Zwm a0 (by omega),Zo (Z0i (by omega) (by omega)),Zo (Z0i (by omega) (by omega)),Zo (Z0i (by omega) (by omega)),Zo (Z0i (by omega) (by omega)),Zo (Z0i (by omega) (by omega))]
      exact ec
    · rw [c5,Zk6 _ _ _ _ (by omega),Zk6 _ _ _ _ (by omega),hg,Int.pow_succ]
      have hd:=Int.mul_ediv_add_emod (a.getD i 0) 67108864
      generalize a.getD i 0 / 67108864=d at *
      generalize a.getD i 0%67108864=r at *
      generalize a.getD i 0=x at *
      generalize a.getD (i+1) 0=y at *
      generalize (67108864:Int)^i=w at *
      generalize rV a 20=v at *
      clear ih ec hgd hs hg c1 c2 c3 c4 c5 hlen
      grind -lia -linarith (splits:=0)
theorem Z02q (k:LI->Option (LI)) (d:LI):Zas d k big 0 (replicate 10 0)=k [wrap .u64 (d.getD 0 0+wrap .u64 (608*d.getD 10 0)),wrap .u64 (d.getD 1 0+wrap .u64 (608*d.getD 11 0)),wrap .u64 (d.getD 2 0+wrap .u64 (608*d.getD 12 0)),wrap .u64 (d.getD 3 0+wrap .u64 (608*d.getD 13 0)),wrap .u64 (d.getD 4 0+wrap .u64 (608*d.getD 14 0)),wrap .u64 (d.getD 5 0+wrap .u64 (608*d.getD 15 0)),wrap .u64 (d.getD 6 0+wrap .u64 (608*d.getD 16 0)),wrap .u64 (d.getD 7 0+wrap .u64 (608*d.getD 17 0)),wrap .u64 (d.getD 8 0+wrap .u64 (608*d.getD 18 0)),wrap .u64 (d.getD 9 0+wrap .u64 (608*d.getD 19 0))]:=by kernel_rfl
theorem Zyz (l:LI):rV l 20=l.getD 0 0+l.getD 1 0*67108864+l.getD 2 0*4503599627370496+l.getD 3 0*302231454903657293676544+l.getD 4 0*20282409603651670423947251286016+l.getD 5 0*1361129467683753853853498429727072845824+l.getD 6 0*91343852333181432387730302044767688728495783936+l.getD 7 0*6129982163463555433433388108601236734474956488734408704+l.getD 8 0*411376139330301510538742295639337626245683966408394965837152256+l.getD 9 0*27606985387162255149739023449108101809804435888681546220650096895197184+l.getD 10 0*1852673427797059126777135760139006525652319754650249024631321344126610074238976+l.getD 11 0*124330809102446660538845562036705210025114037699336929360115994223289874253133343883264+l.getD 12 0*8343699359066055009355553539724812947666814540455674882605631280555545803830627148527195652096+l.getD 13 0*559936185544451052639360570142111069530411374308662383724997275240947967795040236345219373317901778944+l.getD 14 0*37576681324381331646231689548629392438010920782533117931316655544515344401833735095419183974156299248510959616+l.getD 15 0*2521728396569246669585858566409191283525103313309788586748690777871726193375821479130513040312634601011624191379636224+l.getD 16 0*169230328010303641331690318856389386196071598838855992136870091590247882556495704531248437872567112920983350278405979725889536+l.getD 17 0*11356855067118857664833184498250070849275646260739344691898284362197488876771842551971735167402555711886914400097909030211478150447104+l.getD 18 0*762145642166990290864647761179972242614403843424065222377723867096038022172794340849684107193235344521442121855812163792833978437326241529856+l.getD 19 0*51146728248377216718956089012931236753385031969422887335676427626502090568823039920051095192592252455482604439493126109519019633529459266458258243584:=by
  simp only [rV]
  have e0:(67108864:Int)^0=1:=by decide
  have e1:(67108864:Int)^1=67108864:=by decide
  have e2:(67108864:Int)^2=4503599627370496:=by decide
  have e3:(67108864:Int)^3=302231454903657293676544:=by decide
  have e4:(67108864:Int)^4=20282409603651670423947251286016:=by decide
  have e5:(67108864:Int)^5=1361129467683753853853498429727072845824:=by decide
  have e6:(67108864:Int)^6=91343852333181432387730302044767688728495783936:=by decide
  have e7:(67108864:Int)^7=6129982163463555433433388108601236734474956488734408704:=by decide
  have e8:(67108864:Int)^8=411376139330301510538742295639337626245683966408394965837152256:=by decide
  have e9:(67108864:Int)^9=27606985387162255149739023449108101809804435888681546220650096895197184:=by decide
  have e10:(67108864:Int)^10=1852673427797059126777135760139006525652319754650249024631321344126610074238976:=by decide
  have e11:(67108864:Int)^11=124330809102446660538845562036705210025114037699336929360115994223289874253133343883264:=by decide
  have e12:(67108864:Int)^12=8343699359066055009355553539724812947666814540455674882605631280555545803830627148527195652096:=by decide
  have e13:(67108864:Int)^13=559936185544451052639360570142111069530411374308662383724997275240947967795040236345219373317901778944:=by decide
  have e14:(67108864:Int)^14=37576681324381331646231689548629392438010920782533117931316655544515344401833735095419183974156299248510959616:=by decide
  have e15:(67108864:Int)^15=2521728396569246669585858566409191283525103313309788586748690777871726193375821479130513040312634601011624191379636224:=by decide
  have e16:(67108864:Int)^16=169230328010303641331690318856389386196071598838855992136870091590247882556495704531248437872567112920983350278405979725889536:=by decide
  have e17:(67108864:Int)^17=11356855067118857664833184498250070849275646260739344691898284362197488876771842551971735167402555711886914400097909030211478150447104:=by decide
  have e18:(67108864:Int)^18=762145642166990290864647761179972242614403843424065222377723867096038022172794340849684107193235344521442121855812163792833978437326241529856:=by decide
  have e19:(67108864:Int)^19=51146728248377216718956089012931236753385031969422887335676427626502090568823039920051095192592252455482604439493126109519019633529459266458258243584:=by decide
  rw [e0,e1,e2,e3,e4,e5,e6,e7,e8,e9,e10,e11,e12,e13,e14,e15,e16,e17,e18,e19]
  omega
theorem Z02r {p q:LI} (hp : ∀ i,0<=p.getD i 0/\p.getD i 0<67108864) (hq : ∀ i,0<=q.getD i 0/\q.getD i 0<67108864) (k:LI->Option (LI)) :
    ∃ c,Z9c p q k big 0 (replicate 20 0)=k c/\c.length=20/\(∀ t,0<=c.getD t 0/\c.getD t 0<=45035994931527690)/\rV c 20=rV p 10*rV q 10:=by
  obtain ⟨n,hn⟩ : ∃ n,big=n+1+10:=⟨18446744073709551605,Z1t⟩
  have hz : ∀ t,(replicate 20 (0:Int)).getD t 0=0:=by
    intro t
    simp only [List.getD]
    cases hi:(replicate 20 (0:Int))[t]? with
    | none=>rfl
    | some v=>simpa using (List.mem_replicate.1 (List.mem_of_getElem? hi)).2
  rw [hn]
  exact Zvw hp hq k 10 n 0 (replicate 20 0) (by omega) (by simp) (fun t=>by rw [hz]; omega) (by
      have:rV (replicate 20 0) 20=0:=by decide
      rw [this]
      show 0=0*_
      omega)
theorem Zvi (k:LI->Option (LI)) {c:LI} (hl:c.length=20) (h0 : ∀ t,0<=c.getD t 0/\c.getD t 0<=45035994931527690) :
    ∃ d,Z7v k big 0 c=k d/\d.length=20/\(∀ j,0<=d.getD j 0)/\(∀ j,j<19->d.getD j 0<67108864)/\d.getD 19 0<1152921504606846976+34359738368/\rV d 20=rV c 20:=by
  obtain ⟨n,hn⟩ : ∃ n,big=n+1+19:=⟨18446744073709551596,Z1t⟩
  rw [hn]
  exact Zsl k 19 n 0 c (by omega) hl (fun j=>(h0 j).1) (fun j h=>by omega) (fun j _=>by have:=h0 j; omega) (by have:=h0 0; omega)
theorem Zhk (a b:Int):Z2j (rn a) (rn b)=some (rn (a*b)):=by
  rw [Z2j,Z13]
  obtain ⟨c,ec,c1,c2,c3⟩:=Z02r (Zmb a) (Zmb b) (fun (a343:LI)=>jn (fun (a741:LI)=>jn (fun (a848:LI)=>opt (Z9b a848) fun y893 =>
 some y893) fun k849=>Zas a741 k849 big 0 (replicate 10 0)) fun k742=>Z7v k742 big 0 a343)
  rw [ec]
  simp only [Z13]
  obtain ⟨d,ed,d1,d2,d3,d4,d5⟩:=Zvi (fun (a741:LI)=>Zas a741 (fun (a848:LI)=>opt (Z9b a848) fun y893=>some y893) big 0 (replicate 10 0)) c1 c2
  rw [ed,Z02q]
  rw [Zqz,Zqz] at c3
  rw [c3,Zyz] at d5
  have ra:=Zl7 a
  have rb:=Zl7 b
  have hprod:a%PP*(b%PP)<3351951982485649274893506249551461531869841455148098344430890360930441007518386744200468574541725856922507964546621512713438470702986642486608412251521024:=by
    have:a%PP*(b%PP)<=PP*PP:=Int.mul_le_mul (by omega) (by omega) rb.1 (by decide)
    unfold PP at *
    omega
  have p0:=d2 0
  have p1:=d2 1
  have p2:=d2 2
  have p3:=d2 3
  have p4:=d2 4
  have p5:=d2 5
  have p6:=d2 6
  have p7:=d2 7
  have p8:=d2 8
  have p9:=d2 9
  have p10:=d2 10
  have p11:=d2 11
  have p12:=d2 12
  have p13:=d2 13
  have p14:=d2 14
  have p15:=d2 15
  have p16:=d2 16
  have p17:=d2 17
  have p18:=d2 18
  have p19:=d2 19
  have q0:=d3 0 (by decide)
  have q1:=d3 1 (by decide)
  have q2:=d3 2 (by decide)
  have q3:=d3 3 (by decide)
  have q4:=d3 4 (by decide)
  have q5:=d3 5 (by decide)
  have q6:=d3 6 (by decide)
  have q7:=d3 7 (by decide)
  have q8:=d3 8 (by decide)
  have q9:=d3 9 (by decide)
  have q10:=d3 10 (by decide)
  have q11:=d3 11 (by decide)
  have q12:=d3 12 (by decide)
  have q13:=d3 13 (by decide)
  have q14:=d3 14 (by decide)
  have q15:=d3 15 (by decide)
  have q16:=d3 16 (by decide)
  have q17:=d3 17 (by decide)
  have q18:=d3 18 (by decide)
  clear ec ed c1 c2 d1 d2 d3
  generalize d.getD 0 0=x0 at *
  generalize d.getD 1 0=x1 at *
  generalize d.getD 2 0=x2 at *
  generalize d.getD 3 0=x3 at *
  generalize d.getD 4 0=x4 at *
  generalize d.getD 5 0=x5 at *
  generalize d.getD 6 0=x6 at *
  generalize d.getD 7 0=x7 at *
  generalize d.getD 8 0=x8 at *
  generalize d.getD 9 0=x9 at *
  generalize d.getD 10 0=x10 at *
  generalize d.getD 11 0=x11 at *
  generalize d.getD 12 0=x12 at *
  generalize d.getD 13 0=x13 at *
  generalize d.getD 14 0=x14 at *
  generalize d.getD 15 0=x15 at *
  generalize d.getD 16 0=x16 at *
  generalize d.getD 17 0=x17 at *
  generalize d.getD 18 0=x18 at *
  generalize d.getD 19 0=x19 at *
  have q19:x19<65536:=by
    generalize a%PP*(b%PP)=w at *
    omega
  rw [Zd (x:=608*x10) (by omega) (by omega),Zd (x:=608*x11) (by omega) (by omega),Zd (x:=608*x12) (by omega) (by omega),Zd (x:=608*x13) (by omega) (by omega),Zd (x:=608*x14) (by omega) (by omega),Zd (x:=608*x15) (by omega) (by omega),Zd (x:=608*x16) (by omega) (by omega),Zd (x:=608*x17) (by omega) (by omega),Zd (x:=608*x18) (by omega) (by omega),Zd (x:=608*x19) (by omega) (by omega)]
  rw [Zd (x:=x0+608*x10) (by omega) (by omega),Zd (x:=x1+608*x11) (by omega) (by omega),Zd (x:=x2+608*x12) (by omega) (by omega),Zd (x:=x3+608*x13) (by omega) (by omega),Zd (x:=x4+608*x14) (by omega) (by omega),Zd (x:=x5+608*x15) (by omega) (by omega),Zd (x:=x6+608*x16) (by omega) (by omega),Zd (x:=x7+608*x17) (by omega) (by omega),Zd (x:=x8+608*x18) (by omega) (by omega),Zd (x:=x9+608*x19) (by omega) (by omega)]
  rw [Z3 (Zku rfl (Zty (P:=fun z=>0<=z/\z<1152921504606846976) (by omega) (by omega) (by omega) (by omega) (by omega) (by omega) (by omega) (by omega) (by omega) (by omega) (by omega)))]
  congr 1
  apply Zgj
  rw [Zr0]
  simp only [List.getD_cons_zero,List.getD_cons_succ]
  have e:(x0+608*x10)+(x1+608*x11)*67108864+(x2+608*x12)*4503599627370496+(x3+608*x13)*302231454903657293676544+(x4+608*x14)*20282409603651670423947251286016+(x5+608*x15)*1361129467683753853853498429727072845824+(x6+608*x16)*91343852333181432387730302044767688728495783936+(x7+608*x17)*6129982163463555433433388108601236734474956488734408704+(x8+608*x18)*411376139330301510538742295639337626245683966408394965837152256+(x9+608*x19)*27606985387162255149739023449108101809804435888681546220650096895197184=a%PP*(b%PP)-PP*(32*(x10+x11*67108864+x12*4503599627370496+x13*302231454903657293676544+x14*20282409603651670423947251286016+x15*1361129467683753853853498429727072845824+x16*91343852333181432387730302044767688728495783936+x17*6129982163463555433433388108601236734474956488734408704+x18*411376139330301510538742295639337626245683966408394965837152256+x19*27606985387162255149739023449108101809804435888681546220650096895197184)):=by
    generalize a%PP*(b%PP)=w at *
    unfold PP
    omega
  rw [e,Int.sub_mul_emod_self_left,<- Int.mul_emod]
theorem Zw0 {x:Int} {e:LI} (he:Byt e) {kk:LI->Option (LI)} {k':Int->LI->Option (LI)} {i:Nat} (hi:i<256) (a:Int) :
    Zdc (rn x) e kk k' (i:Int) (rn a)=k' ((i:Int)-1) (rn (if ebit e i then a*a%PP*x%PP else a*a%PP)):=by
  rw [Zdc,Z0g (by simp),Z13,Z3 (Zhk a a)]
  simp only [Zb]
  have hd:wrap .i64 (Int.tdiv (i:Int) 8)=((i / 8:Nat):Int):=by
    rw [Int.tdiv_eq_ediv_of_nonneg (by omega),Zj (by omega) (by omega)]; omega
  have hm:Int.tmod (i:Int) 8=((i%8:Nat):Int):=by
    rw [Int.tmod_eq_emod_of_nonneg (by omega)]; omega
  rw [hd,hm,Zo (Z0i (by omega) (by omega)),Zo (by simp; omega)]
  have hb:=he (i / 8)
  simp only [Int.toNat_natCast]
  rw [Z9p .u8 (n:=i%8) (by show i%8<=8; omega)]
  have hp:(0:Int)<((2^(i%8):Nat):Int):=by have:=Nat.pow_pos (n:=i%8) (show 0<2 by decide); omega
  have hq0:=Int.ediv_nonneg hb.1 (Int.le_of_lt hp)
  have hq1:e.getD (i / 8) 0 / ((2^(i%8):Nat):Int)<256:=Int.lt_of_le_of_lt (Int.ediv_le_self _ hb.1) hb.2
  rw [Zwl hq0 hq1]
  have hw:wrap .i64 ((i:Int)-1)=(i:Int)-1:=Zj (by omega) (by omega)
  by_cases hbit:ebit e i=true
  · have hb':(e.getD (i / 8) 0 / ((2^(i%8):Nat):Int)%2==1)=true:=hbit
    rw [Z0g hb',if_pos hbit,Z3 (Zhk (a*a) x),hw]
    have:rn (a*a*x)=rn (a*a%PP*x%PP):=by
      rw [Zz7]; apply Zgj; rw [Int.mul_emod (a*a%PP),Zez,<- Int.mul_emod]
    rw [this]
  · rw [Bool.not_eq_true] at hbit
    have hb':(e.getD (i / 8) 0 / ((2^(i%8):Nat):Int)%2==1)=false:=hbit
    rw [Z08 hb',if_neg (by rw [hbit]; decide),hw,Zz7]
theorem Zra {x:Int} {e:LI} (he:Byt e) : ∀ (k n:Nat),k<=256->Z9d (rn x) e some (n+1+k) ((k:Int)-1) (rn (pw x e (256-k)))=some (rn (pw x e 256))
  | 0,n,_=>by
    show Z9d (rn x) e some (n+1) _ _=_
    rw [Z9d,Zdc,Z08 (by decide)]
  | k+1,n,hk=>by
    have ih:=Zra (x:=x) he k n (by omega)
    rw [<- Nat.add_assoc,Z9d]
    have hi:((k+1:Nat):Int)-1=(k:Int):=by omega
    rw [hi,Zw0 he (by omega)]
    have e1:256-k=(256-(k+1))+1:=by omega
    have e2:255-(256-(k+1))=k:=by omega
    rw [e1,pw,e2] at ih
    exact ih
theorem rpow (x:Int) {e:LI} (he:Byt e):Zlz (rn x) e=some (rn (pw x e 256)):=by
  rw [Zlz,Z3 (Zh7 (by decide) (by decide)),Z13]
  obtain ⟨n,hn⟩ : ∃ n,big=n+1+256:=⟨18446744073709551359,Z1t⟩
  have:=Zra (x:=x) he 256 n (Nat.le_refl _)
  rw [<- hn] at this
  exact this
theorem Zw1:Zca 235 127=some Zq3:=by kernel_rfl
def esq8:LI:=[254,255,255,255,255,255,255,255,255,255,255,255,255,255,255,255,255,255,255,255,255,255,255,255,255,255,255,255,255,255,255,15]
theorem Zzc:Zca 254 15=some esq8:=by kernel_rfl
theorem Zzb:Zca 251 31=some ert:=by kernel_rfl
theorem rinv (a:Int):Zap (rn a)=some (rn (pw a Zq3 256)):=by
  rw [Zap,Z3 Zw1,Z3 (rpow a Zts)]
theorem rn0:([0,0,0,0,0,0,0,0,0,0]:LI)=rn 0:=by decide
theorem Z0j9 (n:Int):tk (rn n) 0 10=rn n:=rfl
theorem Zxo (a b:Int):ieq 10 (rn a) (rn b)=decide (a%PP=b%PP):=by
  unfold ieq
  rw [Z0j9,Z0j9]
  by_cases h:a%PP=b%PP
  · rw [decide_eq_true h,decide_eq_true (Zgj h)]
  · rw [decide_eq_false h,decide_eq_false (fun e=>h (Z0ix e))]
theorem Zsy (a:Int):Zaq (rn a)=some (decide (a%PP=0)):=by
  rw [Zaq,Zb,rn0,Zxo]; rfl
theorem Z04j (a:Int):Zgf (rn a)=some (a%PP%2==1):=by
  have h:=Zmb a 0
  have e:(rn a).getD 0 0=a%PP%67108864:=rfl
  rw [Zgf,Zb,Zb,Zry h.1 (by omega),e]
  congr 2
  omega
theorem Z0iv (a:Int):Zje (rn a)=some (rn (Zxc a)):=by
  rw [Zje,Z3 (Z04j a)]
  unfold Zxc
  by_cases h:(a%PP%2==1)=true
  · rw [h,Z0g rfl,Z3 (rneg a)]; rfl
  · rw [Bool.not_eq_true] at h
    rw [h,Z08 rfl]; rfl
theorem Z00x:4*Znc esq8 256=2*(2*Znc esq 256+1)+2:=by decide +kernel
def rq (u v:Int):Int:=u*pw v Zq3 256
def rr (u v:Int):Int:=pw (rq u v) esq8 256
def Zjl (u v:Int):Int×Bool :=
  if v%PP=0 then (0,decide (u%PP=0))
  else if rr u v*rr u v%PP=rq u v%PP then (Zxc (rr u v),true)
  else if (rr u v*Zmj)*(rr u v*Zmj)%PP=rq u v%PP then (Zxc (rr u v*Zmj),true)
  else (0,false)
theorem Z02x (u v:Int):Zat (rn u) (rn v)=some (rn (Zjl u v).1,(Zjl u v).2):=by
  rw [Zat,Z3 (Zsy v)]
  unfold Zjl
  by_cases h:v%PP=0
  · rw [if_pos h,Z0g (by simpa using h),Zb,Z3 (Zsy u),rn0]
  · rw [if_neg h,Z08 (by simpa using h),Z3 (rinv v),Z3 (Zhk _ _),Z3 Zzc]
    have e0:u*pw v Zq3 256=rq u v:=rfl
    rw [e0,Z3 (rpow _ (byt_of (by decide)))]
    have e1:pw (rq u v) esq8 256=rr u v:=rfl
    rw [e1,Z3 (Zhk _ _),Zxo]
    by_cases h1:rr u v*rr u v%PP=rq u v%PP
    · rw [if_pos h1,Z0g (by simpa using h1),Z3 (Z0iv _)]
    · rw [if_neg h1,Z08 (by simpa using h1),Z3 (Zh7 (by decide) (by decide)),Z3 Zzb,Z3 (rpow _ (byt_of (by decide)))]
      have e2:pw 2 ert 256=Zmj:=rfl
      rw [e2,Z3 (Zhk _ _),Z3 (Zhk _ _),Zxo]
      by_cases h2:(rr u v*Zmj)*(rr u v*Zmj)%PP=rq u v%PP
      · rw [if_pos h2,Z0g (by simpa using h2),Z3 (Z0iv _)]
      · rw [if_neg h2,Z08 (by simpa using h2),Zb,rn0]
end Go.Proofs.YtiflckckekjbnaaGreatDoor
namespace Go.Proofs.YtiflckckekjbnaaGreatDoor
open Go Go.Sx Go.RowKit
set_option linter.all false
set_option maxRecDepth 100000
theorem Ztz {a b:LI} (ha:Byt a) (hb:Byt b) : ∀ j,Zlj a j=Zlj b j->∀ i,i<j->a.getD (31-i) 0=b.getD (31-i) 0
 | 0,_,i,hi=>by omega
 | j+1,h,i,hi=>by
  have h1:=ha (31-j)
  have h2:=hb (31-j)
  have h':Zlj a j*256+a.getD (31-j) 0=Zlj b j*256+b.getD (31-j) 0:=h
  by_cases e:i=j
  ·subst e; omega
  ·exact Ztz ha hb j (by omega) i (by omega)
theorem Z038 {a b:LI} (ha:Byt a) (hb:Byt b) (la:a.length=32) (lb:b.length=32) (h:Zgo a=Zgo b):a=b:=by
 rw [<- Zhc,<- Zhc] at h
 apply List.ext_getElem
 ·rw [la,lb]
 ·intro i h1 h2
  have:=Ztz ha hb 32 h (31-i) (by omega)
  rw [show 31-(31-i)=i by omega] at this
  simpa [List.getD_eq_getElem?_getD,List.getElem?_eq_getElem h1,List.getElem?_eq_getElem h2] using this
theorem Zo3 {a:LI} (ha:Byt a):Zgo a<115792089237316195423570985008687907853269984665640564039457584007913129639936:=by
 have key : ∀ j,j<=32->Zlj a j<(256:Int)^j:=by
  intro j
  induction j with
  | zero=>intro _; show (0:Int)<1; omega
  | succ j ih =>
   intro hj
   have h1:=ha (31-j)
   have h2:=ih (by omega)
   show Zlj a j*256+a.getD (31-j) 0<_
   rw [Int.pow_succ]
   omega
 have:=key 32 (Nat.le_refl _)
 rw [Zhc] at this
 have e2:(256:Int)^32=115792089237316195423570985008687907853269984665640564039457584007913129639936:=by decide
 omega
theorem Ztl {a:LI} (h:Byt a) (la:a.length=32):byt (Zgo a)=a :=
 Z038 (Zwx _) h (Zg5 _) la (Z037 (Zea h) (Zo3 h))
theorem Ztk (n:Int) : ∀ j,j<32->(byt n).getD j 0=n / ((256^j:Nat):Int)%256:=by
 intro j hj
 match j,hj with
 | 0,_=>show n%256=n / 1%256; rw [Int.ediv_one]
 | 1,_=>rfl
 | 2,_=>rfl
 | 3,_=>rfl
 | 4,_=>rfl
 | 5,_=>rfl
 | 6,_=>rfl
 | 7,_=>rfl
 | 8,_=>rfl
 | 9,_=>rfl
 | 10,_=>rfl
 | 11,_=>rfl
 | 12,_=>rfl
 | 13,_=>rfl
 | 14,_=>rfl
 | 15,_=>rfl
 | 16,_=>rfl
 | 17,_=>rfl
 | 18,_=>rfl
 | 19,_=>rfl
 | 20,_=>rfl
 | 21,_=>rfl
 | 22,_=>rfl
 | 23,_=>rfl
 | 24,_=>rfl
 | 25,_=>rfl
 | 26,_=>rfl
 | 27,_=>rfl
 | 28,_=>rfl
 | 29,_=>rfl
 | 30,_=>rfl
 | 31,_=>rfl
 | j+32,h=>exact absurd h (by omega)
theorem Z05p {p:LI} (h:Byt p) (l:p.length=32) {j:Nat} (hj:j<32):p.getD j 0=Zgo p / ((256^j:Nat):Int)%256:=by
 have e:=Ztk (Zgo p) j hj
 rw [Ztl h l] at e
 exact e
end Go.Proofs.YtiflckckekjbnaaGreatDoor
namespace Go.Proofs.YtiflckckekjbnaaGreatDoor
open Go Go.Sx Go.RowKit
open Go.IntKind (wrap)
set_option linter.all false
set_option maxRecDepth 100000
set_option maxHeartbeats 1000000
theorem Z00v {w m b i j:Nat} (hw:0<w) (hm:m<2^i) (hb:b<=1):(m+b*2^i) / 2^(w*j)%2^w=m / 2^(w*j)%2^w+(if j=i / w then b*2^(i%w) else 0):=by
 have hpos:0<2^(w*j):=Nat.pow_pos (by decide)
 by_cases h:j=i / w
 ·rw [if_pos h]
  have hi:i=w*j+i%w:=by rw [h]; exact (Nat.div_add_mod i w).symm
  have ht:i%w<w:=Nat.mod_lt _ hw
  generalize i%w=t at *
  have hq:m / 2^(w*j)<2^t:=by
   rw [Nat.div_lt_iff_lt_mul hpos,<- Nat.pow_add,Nat.add_comm t,<- hi]; exact hm
  have e:m+b*2^i=m+b*2^t*2^(w*j):=by
   rw [hi,Nat.pow_add,Nat.mul_assoc,Nat.mul_comm (2^t)]
  rw [e,Nat.add_mul_div_right _ _ hpos]
  have h2:2^(t+1)<=2^w:=Nat.pow_le_pow_right (by decide) (by omega)
  have h3:b*2^t<=1*2^t:=Nat.mul_le_mul_right _ hb
  rw [Nat.pow_succ] at h2
  generalize 2^t=p at *
  generalize b*p=bp at *
  rw [Nat.mod_eq_of_lt (by omega),Nat.mod_eq_of_lt (by omega)]
 ·rw [if_neg h,Nat.add_zero]
  rcases Nat.lt_or_gt_of_ne h with h1 | h1
  ·have hle:w*(j+1)<=i:=by
    have h5:w*(j+1)<=w*(i / w):=Nat.mul_le_mul_left _ h1
    have h6:=Nat.mul_div_le i w
    omega
   obtain ⟨r,hr⟩:=Nat.exists_eq_add_of_le hle
   have e:m+b*2^i=m+b*2^r*2^w*2^(w*j):=by
    rw [hr,Nat.pow_add,Nat.mul_succ,Nat.pow_add]
    congr 1
    generalize 2^(w*j)=x
    generalize 2^w=y
    generalize 2^r=z
    ac_rfl
   rw [e,Nat.add_mul_div_right _ _ hpos,Nat.add_mul_mod_self_right]
  ·have hle:i+1<=w*j:=by
    have h5:i<w*(i / w+1):=by
     have:=Nat.div_add_mod i w
     have:=Nat.mod_lt i hw
     rw [Nat.mul_succ]
     omega
    have h6:w*(i / w+1)<=w*j:=Nat.mul_le_mul_left _ h1
    omega
   have h7:2^(i+1)<=2^(w*j):=Nat.pow_le_pow_right (by decide) hle
   have h8:b*2^i<=1*2^i:=Nat.mul_le_mul_right _ hb
   rw [Nat.pow_succ] at h7
   rw [Nat.div_eq_of_lt (by omega),Nat.div_eq_of_lt (by omega)]
theorem Zv9 {w N i j:Nat} (hw:0<w):N%2^(i+1) / 2^(w*j)%2^w=N%2^i / 2^(w*j)%2^w+(if j=i / w then (N / 2^i%2)*2^(i%w) else 0):=by
 rw [Nat.mod_pow_succ,Nat.mul_comm (2^i)]
 exact Z00v hw (Nat.mod_lt _ (Nat.pow_pos (by decide))) (by omega)
theorem Z08q {w N j t:Nat} (ht:t<w):N / 2^(w*j)%2^w / 2^t%2=N / 2^(w*j+t)%2:=by
 have e:2^w=2^t*2^(w-t):=by rw [<- Nat.pow_add]; congr 1; omega
 rw [e,Nat.mod_mul_right_div_self,Nat.div_div_eq_div_mul,<- Nat.pow_add]
 refine Nat.mod_mod_of_dvd _ ?_
 have:w-t=(w-t-1)+1:=by omega
 rw [this,Nat.pow_succ]
 exact Nat.dvd_mul_left 2 _
structure Dgs (w L N i:Nat) (a:LI):Prop where
 len:a.length=L
 dig : ∀ j,j<L->a.getD j 0=((N%2^i / 2^(w*j)%2^w:Nat):Int)
theorem Dgs.start (w L N:Nat):Dgs w L N 0 (List.replicate L 0):=by
 refine ⟨by simp,fun j hj=>?_⟩
 rw [Nat.pow_zero,Nat.mod_one,Nat.zero_div,Nat.zero_mod]
 simp [List.getD_eq_getElem?_getD,hj]
theorem Dgs.put {w L N i:Nat} {a:LI} (h:Dgs w L N i a) (hw:0<w) (hi:i<w*L):Dgs w L N (i+1) (Z2u a (i / w) (a.getD (i / w) 0+((N / 2^i%2*2^(i%w):Nat):Int))):=by
 have hj:i / w<L:=by rw [Nat.div_lt_iff_lt_mul hw,Nat.mul_comm]; exact hi
 refine ⟨by rw [Z6b (by rw [h.len]; exact hj),h.len],fun j hjl=>?_⟩
 rw [Z1h,Zv9 hw]
 by_cases e:j=i / w
 ·subst e
  rw [if_pos rfl,if_pos rfl,h.dig _ hjl,<- Int.natCast_add]
 ·rw [if_neg e,if_neg e,Nat.add_zero,h.dig _ hjl]
theorem Dgs.bound {w L N i:Nat} {a:LI} (h:Dgs w L N i a) (hw:0<w) (hi:i<w*L):0<=a.getD (i / w) 0+((N / 2^i%2*2^(i%w):Nat):Int)/\a.getD (i / w) 0+((N / 2^i%2*2^(i%w):Nat):Int)<((2^w:Nat):Int):=by
 have hj:i / w<L:=by rw [Nat.div_lt_iff_lt_mul hw,Nat.mul_comm]; exact hi
 have h2:=(h.put hw hi).dig _ hj
 rw [Z1h,if_pos rfl] at h2
 rw [h2]
 have:=Nat.mod_lt (N%2^(i+1) / 2^(w*(i / w))) (Nat.pow_pos (n:=w) (show 0<2 by decide))
 omega
theorem Zt3 {w N:Nat} {l:LI} {i:Nat} {L:Nat} (hw:0<w) (hl : ∀ j,j<L->l.getD j 0=((N / 2^(w*j)%2^w:Nat):Int)) (hi:i<w*L) :
  l.getD (i / w) 0 / ((2^(i%w):Nat):Int)%2=((N / 2^i%2:Nat):Int):=by
 have hj:i / w<L:=by rw [Nat.div_lt_iff_lt_mul hw,Nat.mul_comm]; exact hi
 rw [hl _ hj]
 have e:=Z08q (w:=w) (N:=N) (j:=i / w) (t:=i%w) (Nat.mod_lt _ hw)
 rw [Nat.div_add_mod] at e
 rw [<- e]
 rfl
theorem Zzp {k:IntKind} {b t:Nat} (hk:t<=k.bits) (hb:wrap k ((b*2^t:Nat):Int)=((b*2^t:Nat):Int)):Zl k (b:Int) (t:Int)=((b*2^t:Nat):Int):=by
 rw [Zg0 k hk,<- Int.natCast_mul,hb]
theorem Zwu {b t:Nat} (hb:b<=1) (ht:t<26):b*2^t<67108864:=by
 have h1:2^t<=2^25:=Nat.pow_le_pow_right (by decide) (by omega)
 have h2:b*2^t<=1*2^t:=Nat.mul_le_mul_right _ hb
 omega
theorem Zv7 {b t:Nat} (hb:b<=1) (ht:t<8):b*2^t<256:=by
 have h1:2^t<=2^7:=Nat.pow_le_pow_right (by decide) (by omega)
 have h2:b*2^t<=1*2^t:=Nat.mul_le_mul_right _ hb
 omega
theorem Zx9 {i:Nat} (h:i<1000):wrap .i64 (Int.tdiv (i:Int) 8)=((i / 8:Nat):Int):=by
 rw [Int.tdiv_eq_ediv_of_nonneg (by omega),Zj (by omega) (by omega)]; omega
theorem Zov (i:Nat):Int.tmod (i:Int) 8=((i%8:Nat):Int):=by
 rw [Int.tmod_eq_emod_of_nonneg (by omega)]; omega
theorem Ztq {i:Nat} (h:i<1000):wrap .i64 (Int.tdiv (i:Int) 26)=((i / 26:Nat):Int):=by
 rw [Int.tdiv_eq_ediv_of_nonneg (by omega),Zj (by omega) (by omega)]; omega
theorem Zu2 (i:Nat):Int.tmod (i:Int) 26=((i%26:Nat):Int):=by
 rw [Int.tmod_eq_emod_of_nonneg (by omega)]; omega
theorem Zvu {p:LI} (hp:Byt p) {N:Nat} (hN : ∀ j,j<32->p.getD j 0=((N / 2^(8*j)%2^8:Nat):Int)) (k:LI->Option (LI)) (m:Nat) : ∀ (n i:Nat) (a:LI),i+m=255->Dgs 26 10 N i a ->
  ∃ c,Z3x p k (n+1+m) (i:Int) a=k c/\Dgs 26 10 N 255 c:=by
 induction m with
 | zero =>
  intro n i a hi ha
  have e:i=255:=by omega
  subst e
  refine ⟨a,?_,ha⟩
  rw [Nat.add_zero,Z3x,Z73,Z08 (by decide)]
 | succ m ih =>
  intro n i a hi ha
  have e1:=Z3n (i:=i) (by omega)
  have hb:=ha.bound (by decide) (i:=i) (by omega)
  have hs:=Zt3 (w:=8) (by decide) hN (i:=i) (by omega)
  have hpb:=hp (i / 8)
  have hpp:(0:Int)<((2^(i%8):Nat):Int):=by have:=Nat.pow_pos (n:=i%8) (show 0<2 by decide); omega
  have hq0:=Int.ediv_nonneg hpb.1 (Int.le_of_lt hpp)
  have hq1:p.getD (i / 8) 0 / ((2^(i%8):Nat):Int)<256:=Int.lt_of_le_of_lt (Int.ediv_le_self _ hpb.1) hpb.2
  have hbit:N / 2^i%2<=1:=by omega
  have hsm:=Zwu hbit (Nat.mod_lt i (show 0<26 by decide))
  obtain ⟨c,ec,hc⟩:=ih n (i+1) _ (by omega) (ha.put (by decide) (by omega))
  refine ⟨c,?_,hc⟩
  rw [<- Nat.add_assoc,Z3x,Z73,Z0g (decide_eq_true (by omega))]
  simp only [Zb,e1,Zx9 (show i<1000 by omega),Zov,Ztq (show i<1000 by omega),Zu2,Int.toNat_natCast]
  have w1:wrap .u64 ((N / 2^i%2:Nat):Int)=((N / 2^i%2:Nat):Int):=Zd (by omega) (by omega)
  have w2:wrap .u64 ((N / 2^i%2*2^(i%26):Nat):Int)=((N / 2^i%2*2^(i%26):Nat):Int):=Zd (by omega) (by omega)
  have w3:wrap .u64 (a.getD (i / 26) 0+((N / 2^i%2*2^(i%26):Nat):Int))=a.getD (i / 26) 0+((N / 2^i%2*2^(i%26):Nat):Int):=by
   have h26:((2^26:Nat):Int)=67108864:=by decide
   have:=hb.2
   exact Zd hb.1 (by omega)
  rw [Z9p .u8 (n:=i%8) (by show i%8<=8; omega),Zwl hq0 hq1,hs,w1,Zzp (by show i%26<=64; omega) w2,w3]
  rw [Zo (Z0i (by omega) (by omega)),Zo (by simp; omega),Zo (Z0i (by omega) (by omega)),Zo (by simp; omega),Zo (Z0i (by omega) (by omega))]
  exact ec
theorem pow8 (j:Nat):2^(8*j)=256^j:=by rw [Nat.pow_mul]
theorem Zzv {p:LI} (hp:Byt p) (l:p.length=32) : ∀ j,j<32->p.getD j 0=(((Zgo p).toNat / 2^(8*j)%2^8:Nat):Int):=by
 intro j hj
 rw [Z05p hp l hj,pow8]
 have h:=Zea hp
 obtain ⟨n,hn⟩:=Int.eq_ofNat_of_zero_le h
 rw [hn]
 rfl
theorem Zv8 {N:Nat} {c:LI} (h:Dgs 26 10 N 255 c):rV c 10=((N%2^255:Nat):Int):=by
 have e:c=rdig ((N%2^255:Nat):Int):=by
  rw [Zkv h.len]
  unfold rdig
  have hh:=h.dig
  generalize N%2^255=M at *
  rw [hh 0 (by decide),hh 1 (by decide),hh 2 (by decide),hh 3 (by decide),hh 4 (by decide),hh 5 (by decide),hh 6 (by decide),hh 7 (by decide),hh 8 (by decide),hh 9 (by decide)]
  simp only [List.cons.injEq,and_true]
  refine ⟨?_,rfl,rfl,rfl,rfl,rfl,rfl,rfl,rfl,rfl⟩
  show ((M / 1%67108864:Nat):Int)=(M:Int)%67108864
  rw [Nat.div_one]; rfl
 have hlt:N%2^255<2^255:=Nat.mod_lt _ (by decide)
 have e2:(2^255:Nat)=57896044618658097711785492504343953926634992332820282019728792003956564819968:=by decide
 generalize N%2^255=M at *
 rw [e,Zyy (by omega) (by omega)]
theorem Z05v {N i:Nat} {c:LI} (h:Dgs 26 10 N i c) : ∀ j,0<=c.getD j 0/\c.getD j 0<1152921504606846976:=by
 intro j
 by_cases hj:j<10
 ·rw [h.dig j hj]
  have:=Nat.mod_lt (N%2^i / 2^(26*j)) (Nat.pow_pos (n:=26) (show 0<2 by decide))
  omega
 ·have:c.getD j 0=0:=by simp [List.getD_eq_getElem?_getD,List.getElem?_eq_none (show c.length<=j by have:=h.len; omega)]
  omega
theorem Zww (p:LI):Z8b p=Zgo p-p.getD 31 0 / 128*57896044618658097711785492504343953926634992332820282019728792003956564819968:=by
 unfold Z8b Zgo
 omega
theorem Z039 {p:LI} (hp:Byt p):(((Zgo p).toNat%2^255:Nat):Int)=Z8b p:=by
 have h:=Zea hp
 have hb:0<=Z8b p/\Z8b p<57896044618658097711785492504343953926634992332820282019728792003956564819968:=by
  have h2:=Zea (Zio hp (j:=31) (v:=p.getD 31 0%128) (by omega))
  have h3:=Zo3 (Zio hp (j:=31) (v:=p.getD 31 0%128) (by omega))
  have e:Zgo (Z2u p 31 (p.getD 31 0%128))=Z8b p:=by
   unfold Z8b Zgo
   simp only [Z1h]
   simp [-List.getD_eq_getElem?_getD]
  have h31:=hp 31
  rw [e] at h2
  refine ⟨h2,?_⟩
  have:Zlj (Z2u p 31 (p.getD 31 0%128)) 32<128*(256:Int)^31:=by
   have key : ∀ j,j<32->Zlj (Z2u p 31 (p.getD 31 0%128)) (j+1)<128*(256:Int)^j:=by
    intro j
    induction j with
    | zero =>
     intro _
     show 0*256+(Z2u p 31 (p.getD 31 0%128)).getD 31 0<128*1
     rw [Z1h,if_pos rfl]; omega
    | succ j ih =>
     intro hj
     have i1:=ih (by omega)
     have i2:=Zio hp (j:=31) (v:=p.getD 31 0%128) (by omega) (31-(j+1))
     show Zlj _ (j+1)*256+(Z2u p 31 (p.getD 31 0%128)).getD (31-(j+1)) 0<_
     rw [Int.pow_succ]
     omega
   exact key 31 (by decide)
  rw [Zhc,e] at this
  have e3:128*(256:Int)^31=57896044618658097711785492504343953926634992332820282019728792003956564819968:=by decide
  omega
 have e:=Zww p
 have e2:(2^255:Nat)=57896044618658097711785492504343953926634992332820282019728792003956564819968:=by decide
 obtain ⟨n,hn⟩:=Int.eq_ofNat_of_zero_le h
 rw [e2,hn]
 rw [hn] at e
 have h31:=hp 31
 generalize p.getD 31 0 / 128=q at *
 generalize Z8b p=b at *
 show ((n%57896044618658097711785492504343953926634992332820282019728792003956564819968:Nat):Int)=b
 clear hn h h31 e2
 omega
theorem Z07q {p:LI} (hp:Byt p) (l:p.length=32):Z5z p=some (rn (Z8b p)):=by
 obtain ⟨n,hn⟩ : ∃ n,big=n+1+255:=⟨18446744073709551360,Z1t⟩
 obtain ⟨c,ec,hc⟩:=Zvu hp (Zzv hp l) (fun (a73:LI)=>opt (Z9b a73) fun y142=>some y142) 255 n 0 _ (by omega) (Dgs.start 26 10 _)
 rw [Z5z,Z13,hn]
 refine ec.trans ?_
 rw [Z3 (Zku hc.len (Z05v hc)),Zv8 hc,Z039 hp]
theorem Zsv {p:LI} {N:Nat} (hp : ∀ j,0<=p.getD j 0/\p.getD j 0<67108864) (hN : ∀ j,j<10->p.getD j 0=((N / 2^(26*j)%2^26:Nat):Int)) (k:LI->Option (LI)) (m:Nat) : ∀ (n i:Nat) (a:LI),i+m=255->Dgs 8 32 N i a ->
  ∃ c,Z72 p k (n+1+m) (i:Int) a=k c/\Dgs 8 32 N 255 c:=by
 induction m with
 | zero =>
  intro n i a hi ha
  have e:i=255:=by omega
  subst e
  refine ⟨a,?_,ha⟩
  rw [Nat.add_zero,Z72,Zbt,Z08 (by decide)]
 | succ m ih =>
  intro n i a hi ha
  have e1:=Z3n (i:=i) (by omega)
  have hb:=ha.bound (by decide) (i:=i) (by omega)
  have hs:=Zt3 (w:=26) (by decide) hN (i:=i) (by omega)
  have hpb:=hp (i / 26)
  have hpp:(0:Int)<((2^(i%26):Nat):Int):=by have:=Nat.pow_pos (n:=i%26) (show 0<2 by decide); omega
  have hq0:=Int.ediv_nonneg hpb.1 (Int.le_of_lt hpp)
  have hq1:p.getD (i / 26) 0 / ((2^(i%26):Nat):Int)<67108864:=Int.lt_of_le_of_lt (Int.ediv_le_self _ hpb.1) hpb.2
  have hbit:N / 2^i%2<=1:=by omega
  have hsm:=Zv7 hbit (Nat.mod_lt i (show 0<8 by decide))
  obtain ⟨c,ec,hc⟩:=ih n (i+1) _ (by omega) (ha.put (by decide) (by omega))
  refine ⟨c,?_,hc⟩
  rw [<- Nat.add_assoc,Z72,Zbt,Z0g (decide_eq_true (by omega))]
  simp only [Zb,e1,Zx9 (show i<1000 by omega),Zov,Ztq (show i<1000 by omega),Zu2,Int.toNat_natCast]
  have w1:wrap .u8 ((N / 2^i%2:Nat):Int)=((N / 2^i%2:Nat):Int):=by rw [Z0s]; omega
  have w2:wrap .u8 ((N / 2^i%2*2^(i%8):Nat):Int)=((N / 2^i%2*2^(i%8):Nat):Int):=by rw [Z0s]; omega
  have w3:wrap .u8 (a.getD (i / 8) 0+((N / 2^i%2*2^(i%8):Nat):Int))=a.getD (i / 8) 0+((N / 2^i%2*2^(i%8):Nat):Int):=by
   rw [Z0s]
   have h8:((2^8:Nat):Int)=256:=by decide
   have:=hb.2
   exact Int.emod_eq_of_lt hb.1 (by omega)
  rw [Z9p .u64 (n:=i%26) (by show i%26<=64; omega),Zry hq0 (by omega),hs,w1,Zzp (by show i%8<=8; omega) w2,w3]
  rw [Zo (Z0i (by omega) (by omega)),Zo (by simp; omega),Zo (Z0i (by omega) (by omega)),Zo (by simp; omega),Zo (Z0i (by omega) (by omega))]
  exact ec
theorem Zw8 (n:Int) : ∀ j,j<10->(rn n).getD j 0=(((n%PP).toNat / 2^(26*j)%2^26:Nat):Int):=by
 intro j hj
 have h:=(Zl7 n).1
 unfold rn
 obtain ⟨m,hm⟩:=Int.eq_ofNat_of_zero_le h
 rw [hm]
 match j,hj with
 | 0,_=>show (m:Int)%67108864=((m / 1%67108864:Nat):Int); rw [Nat.div_one]; rfl
 | 1,_=>rfl
 | 2,_=>rfl
 | 3,_=>rfl
 | 4,_=>rfl
 | 5,_=>rfl
 | 6,_=>rfl
 | 7,_=>rfl
 | 8,_=>rfl
 | 9,_=>rfl
 | j+10,h=>exact absurd h (by omega)
theorem Zoq {l:LI} {i:Nat} (h:i<l.length):l.getD i 0=l[i]:=by simp [List.getD_eq_getElem?_getD,List.getElem?_eq_getElem h]
theorem Z04h (n:Int):Zge (rn n)=some (byt (n%PP)):=by
 obtain ⟨f,hf⟩ : ∃ n,big=n+1+255:=⟨18446744073709551360,Z1t⟩
 obtain ⟨c,ec,hc⟩:=Zsv (Zmb n) (Zw8 n) some 255 f 0 _ (by omega) (Dgs.start 8 32 _)
 rw [Zge,Z13,hf]
 refine ec.trans ?_
 congr 1
 have h:=Zl7 n
 obtain ⟨m,hm⟩:=Int.eq_ofNat_of_zero_le h.1
 have e:(n%PP).toNat=m:=by rw [hm]; rfl
 have h1:m<57896044618658097711785492504343953926634992332820282019728792003956564819949:=by
  have:=h.2
  rw [hm] at this
  unfold PP at this
  omega
 have e2:(2^255:Nat)=57896044618658097711785492504343953926634992332820282019728792003956564819968:=by decide
 rw [hm]
 apply List.ext_getElem
 ·rw [hc.len]; rfl
 ·intro i h2 h3
  have hi:i<32:=by rw [hc.len] at h2; exact h2
  have hd:=hc.dig i hi
  rw [e,Nat.mod_eq_of_lt (a:=m) (b:=2^255) (by rw [e2]; omega),pow8] at hd
  have hb:=Ztk (m:Int) i hi
  rw [<- Zoq h2,<- Zoq h3,hd,hb]
  rfl
theorem Z0is {p:LI} (hp:Byt p) (l:p.length=32):Z8r p=some (ieq 32 (byt (Z8b p%PP)) p):=by
 rw [Z8r,Z3 (Z07q hp l),Z3 (Z04h _)]
end Go.Proofs.YtiflckckekjbnaaGreatDoor
namespace Go.Proofs.YtiflckckekjbnaaGreatDoor
open Go Go.Sx Go.RowKit
set_option linter.all false
set_option maxRecDepth 100000
structure Q3 where
 x:Int
 y:Int
 z:Int
def rp (q:Q3):Z21:=⟨rn q.x,rn q.y,rn q.z⟩
structure Zkf (q:Q3) (P:G):Prop where
 z:fi q.z≠0
 x:fi q.x=P.x*fi q.z
 y:fi q.y=P.y*fi q.z
theorem rD:q7_D=some (rn DD):=by
 rw [q7_D,Zb,Z3 (Z07q (byt_of (by decide)) rfl)]
 decide
def Zrb (p q:Q3):Q3 :=
 let a:=p.z*q.z
 let b:=a*a
 let c:=p.x*q.x
 let d:=p.y*q.y
 let e:=DD*(c*d)
 let f:=b-e
 let g:=b+e
 let s:=p.x*q.y+p.y*q.x
 ⟨a*f*s,a*g*(d+c),f*g⟩
theorem Zl4 (p q:Q3):Zk2 (rp p) (rp q)=some (rp (Zrb p q)):=by
 rw [Zk2]
 show opt (Z2j (rn p.z) (rn q.z)) _=_
 rw [Z3 (Zhk _ _),Z3 (Zhk _ _)]
 show opt (Z2j (rn p.x) (rn q.x)) _=_
 rw [Z3 (Zhk _ _)]
 show opt (Z2j (rn p.y) (rn q.y)) _=_
 rw [Z3 (Zhk _ _),Z3 rD,Z3 (Zhk _ _),Z3 (Zhk _ _),Z3 (rsub _ _),Z3 (radd _ _)]
 show opt (Z2j (rn p.x) (rn q.y)) _=_
 rw [Z3 (Zhk _ _)]
 show opt (Z2j (rn p.y) (rn q.x)) _=_
 rw [Z3 (Zhk _ _),Z3 (radd _ _),Z3 (Zhk _ _),Z3 (Zhk _ _),Z3 (Zhk _ _),Z3 (radd _ _),Z3 (Zhk _ _),Z3 (Zhk _ _)]
 rfl
def Zik (p:Q3):Q3 :=
 let xx:=p.x*p.x
 let yy:=p.y*p.y
 let zz:=p.z*p.z
 let l:=yy-xx
 let m:=zz+zz-l
 let xy:=p.x*p.y
 ⟨(xy+xy)*m,(xx+yy)*l,l*m⟩
theorem Zcf (p:Q3):Z6f (rp p)=some (rp (Zik p)):=by
 rw [Z6f]
 show opt (Z2j (rn p.x) (rn p.x)) _=_
 rw [Z3 (Zhk _ _)]
 show opt (Z2j (rn p.y) (rn p.y)) _=_
 rw [Z3 (Zhk _ _)]
 show opt (Z2j (rn p.z) (rn p.z)) _=_
 rw [Z3 (Zhk _ _),Z3 (rsub _ _),Z3 (radd _ _),Z3 (rsub _ _)]
 show opt (Z2j (rn p.x) (rn p.y)) _=_
 rw [Z3 (Zhk _ _),Z3 (radd _ _),Z3 (Zhk _ _),Z3 (radd _ _),Z3 (Zhk _ _),Z3 (Zhk _ _)]
 rfl
theorem Zl1 {p q:Q3} {P Q:G} (hp:Zkf p P) (hq:Zkf q Q):Zkf (Zrb p q) (Z9m P Q):=by
 have d1:=Zx7 P.on Q.on
 have d2:=Zx8 P.on Q.on
 have ax:=Ztg P Q
 have ay:=Zth P Q
 have hz:=Z7s hp.z hq.z
 have hb:=Z7s hz hz
 have ef:fi (p.z*q.z*(p.z*q.z)-DD*(p.x*q.x*(p.y*q.y)))=(fi p.z*fi q.z*(fi p.z*fi q.z))*(1-dF*P.x*Q.x*P.y*Q.y):=by
  simp only [Z1b,Zef,Z01d,hp.x,hq.x,hp.y,hq.y]
  generalize dF=d at *
  clear d1 d2 ax ay hz hb
  grind -lia -linarith (splits:=0)
 have eg:fi (p.z*q.z*(p.z*q.z)+DD*(p.x*q.x*(p.y*q.y)))=(fi p.z*fi q.z*(fi p.z*fi q.z))*(1+dF*P.x*Q.x*P.y*Q.y):=by
  simp only [Z1b,Z9o,Z01d,hp.x,hq.x,hp.y,hq.y]
  generalize dF=d at *
  clear d1 d2 ax ay hz hb
  grind -lia -linarith (splits:=0)
 constructor
 ·show fi ((p.z*q.z*(p.z*q.z)-DD*(p.x*q.x*(p.y*q.y)))*(p.z*q.z*(p.z*q.z)+DD*(p.x*q.x*(p.y*q.y))))≠0
  rw [Z1b,ef,eg]
  exact Z7s (Z7s hb d2) (Z7s hb d1)
 ·show fi (p.z*q.z*(p.z*q.z*(p.z*q.z)-DD*(p.x*q.x*(p.y*q.y)))*(p.x*q.y+p.y*q.x))=(Z9m P Q).x*fi ((p.z*q.z*(p.z*q.z)-DD*(p.x*q.x*(p.y*q.y)))*(p.z*q.z*(p.z*q.z)+DD*(p.x*q.x*(p.y*q.y))))
  rw [Z1b (p.z*q.z*(p.z*q.z)-_),Z1b,Z1b,ef,eg]
  simp only [Z1b,Z9o,hp.x,hq.x,hp.y,hq.y]
  generalize (Z9m P Q).x=X at *
  generalize dF=d at *
  clear d1 d2 ay hz hb ef eg
  grind -lia -linarith (splits:=0)
 ·show fi (p.z*q.z*(p.z*q.z*(p.z*q.z)+DD*(p.x*q.x*(p.y*q.y)))*(p.y*q.y+p.x*q.x))=(Z9m P Q).y*fi ((p.z*q.z*(p.z*q.z)-DD*(p.x*q.x*(p.y*q.y)))*(p.z*q.z*(p.z*q.z)+DD*(p.x*q.x*(p.y*q.y))))
  rw [Z1b (p.z*q.z*(p.z*q.z)-_),Z1b,Z1b,ef,eg]
  simp only [Z1b,Z9o,hp.x,hq.x,hp.y,hq.y]
  generalize (Z9m P Q).y=Y at *
  generalize dF=d at *
  clear d1 d2 ax hz hb ef eg
  grind -lia -linarith (splits:=0)
theorem Zl2 {p:Q3} {P:G} (hp:Zkf p P):Zkf (Zik p) (Z9m P P):=by
 have d1:=Zx7 P.on P.on
 have d2:=Zx8 P.on P.on
 have ax:=Ztg P P
 have ay:=Zth P P
 have on:=P.on.eq
 have hz:=Z7s hp.z hp.z
 have el:fi (p.y*p.y-p.x*p.x)=(fi p.z*fi p.z)*(1+dF*P.x*P.x*P.y*P.y):=by
  simp only [Z1b,Zef,hp.x,hp.y]
  generalize dF=d at *
  clear d1 d2 ax ay hz
  grind -lia -linarith (splits:=0)
 have em:fi (p.z*p.z+p.z*p.z-(p.y*p.y-p.x*p.x))=(fi p.z*fi p.z)*(1-dF*P.x*P.x*P.y*P.y):=by
  simp only [Z1b,Zef,Z9o,hp.x,hp.y]
  generalize dF=d at *
  clear d1 d2 ax ay hz el
  grind -lia -linarith (splits:=0)
 constructor
 ·show fi ((p.y*p.y-p.x*p.x)*(p.z*p.z+p.z*p.z-(p.y*p.y-p.x*p.x)))≠0
  rw [Z1b,el,em]
  exact Z7s (Z7s hz d1) (Z7s hz d2)
 ·show fi ((p.x*p.y+p.x*p.y)*(p.z*p.z+p.z*p.z-(p.y*p.y-p.x*p.x)))=(Z9m P P).x*fi ((p.y*p.y-p.x*p.x)*(p.z*p.z+p.z*p.z-(p.y*p.y-p.x*p.x)))
  rw [Z1b,Z1b (p.y*p.y-p.x*p.x),el,em]
  simp only [Z1b,Z9o,hp.x,hp.y]
  generalize (Z9m P P).x=X at *
  generalize dF=d at *
  clear d1 d2 ay hz el em
  grind -lia -linarith (splits:=0)
 ·show fi ((p.x*p.x+p.y*p.y)*(p.y*p.y-p.x*p.x))=(Z9m P P).y*fi ((p.y*p.y-p.x*p.x)*(p.z*p.z+p.z*p.z-(p.y*p.y-p.x*p.x)))
  rw [Z1b,Z1b (p.y*p.y-p.x*p.x),el,em]
  simp only [Z1b,Z9o,hp.x,hp.y]
  generalize (Z9m P P).y=Y at *
  generalize dF=d at *
  clear d1 d2 ax hz el em
  grind -lia -linarith (splits:=0)
def Zrc:Q3:=⟨0,1,1⟩
theorem Zus:Zjg=some (rp Zrc):=by
 rw [Zjg,Z3 (Zh7 (by decide) (by decide)),Z3 (Zh7 (by decide) (by decide)),Z3 (Zh7 (by decide) (by decide))]
 rfl
theorem Zr5:Zkf Zrc Zdt:=by
 constructor
 ·show fi 1≠0; decide +kernel
 ·show fi 0=0*fi 1; decide +kernel
 ·show fi 1=1*fi 1; decide +kernel
theorem Z07s (p:Q3):Znr (rp p)=some (rp ⟨-p.x,p.y,p.z⟩):=by
 rw [Znr]
 show opt (Zia (rn p.x)) _=_
 rw [Z3 (rneg _)]
 rfl
theorem Z02l {p:Q3} {P:G} (h:Zkf p P):Zkf ⟨-p.x,p.y,p.z⟩ (negG P):=by
 constructor
 ·exact h.z
 ·show fi (-p.x) = -P.x*_; rw [Zgz,h.x]; grind -lia -linarith (splits:=0)
 ·exact h.y
def Zuq (p:Q3):Nat->Q3
 | 0=>Zrc
 | i+1=>Zrb (Zuq p i) p
theorem Zpd {p:Q3} {P:G} (hp:Zkf p P) : ∀ j,Zkf (Zuq p j) (Zgs j P)
 | 0=>Zr5
 | j+1=>Zl1 (Zpd hp j) hp
def Zjm (f:Nat->Z21) (i:Nat):List Z21:=(List.range 16).map fun j=>if j<=i then f j else Z76
theorem Zzg (f:Nat->Z21) {i:Nat} (hi:i<15):Zdu Z76 (Zjm f i) (i+1) (f (i+1))=Zjm f (i+1):=by
 rw [Za5 (by simp [Zjm]; omega)]
 apply List.ext_getElem
 ·simp [Zjm]
 ·intro j h1 h2
  simp only [Zjm,List.getElem_set,List.getElem_map,List.getElem_range]
  by_cases hj:i+1=j
  ·subst hj; simp
  ·rw [if_neg hj]
   by_cases h:j<=i
   ·rw [if_pos h,if_pos (by omega)]
   ·rw [if_neg h,if_neg (by omega)]
theorem Zmd (f:Nat->Z21) {i j:Nat} (hj:j<=i) (hi:i<16):(Zjm f i).getD j Z76=f j:=by
 simp only [Zjm,List.getD,List.getElem?_map,List.getElem?_range (show j<16 by omega),Option.map_some,Option.getD_some,if_pos hj]
theorem Znz (p:Q3) (k:List Z21->Option (List Z21)) : ∀ (m n i:Nat),i+m=15->Z60 (rp p) k (n+1+m) ((i+1:Nat):Int) (Zjm (fun j=>rp (Zuq p j)) i)=k (Zjm (fun j=>rp (Zuq p j)) 15)
 | 0,n,i,hi=>by
  have e:i=15:=by omega
  subst e
  rw [Nat.add_zero,Z60,Zaw,Z08 (by decide)]
 | m+1,n,i,hi=>by
  have ih:=Znz p k m n (i+1) (by omega)
  have e1:=Z3n (i:=i+1) (by omega)
  have e2:IntKind.wrap .i64 (((i+1:Nat):Int)-1)=(i:Int):=by rw [Zj (by omega) (by omega)]; omega
  rw [<- Nat.add_assoc,Z60,Zaw,Z0g (decide_eq_true (by omega))]
  simp only [Zb,e1,e2,Int.toNat_natCast]
  rw [Zo (Z0i (by omega) (by omega)),Zmd _ (Nat.le_refl i) (by omega),Z3 (Zl4 _ _),Zo (Z0i (by omega) (by omega))]
  have:=Zzg (fun j=>rp (Zuq p j)) (i:=i) (by omega)
  rw [show rp (Zrb (Zuq p i) p)=rp (Zuq p (i+1)) from rfl,this]
  exact ih
theorem Z0s6 (p:Q3):Zfq (rp p)=some (Zjm (fun j=>rp (Zuq p j)) 15):=by
 obtain ⟨n,hn⟩ : ∃ n,big=n+1+15:=⟨18446744073709551600,Z1t⟩
 rw [Zfq,Z3 Zus,Zb,Z13,hn]
 have e:Zdu Z76 (List.replicate 16 Z76) 0 (rp Zrc)=Zjm (fun j=>rp (Zuq p j)) 0:=by
  simp [Zdu,Zjm,List.range,List.range.loop,List.replicate]
  rfl
 rw [e]
 exact Znz p some 15 n 0 (by omega)
def Z07i (q:Q3):Q3:=Zik (Zik (Zik (Zik q)))
theorem Zr3 {p:Q3} {P:G} (hp:Zkf p P):Zkf (Z07i p) (Zgs 16 P):=by
 have h:=Zl2 (Zl2 (Zl2 (Zl2 hp)))
 rw [<- Zc9,<- Zc9,<- Zc9,<- Zc9,<- Za9,<- Za9,<- Za9] at h
 exact h
def Zzd (p q:Q3) (b:Int):Q3:=Zrb (Z07i (Zrb (Z07i q) (Zuq p (b / 16).toNat))) (Zuq p (b%16).toNat)
theorem Zvt {p q:Q3} {P:G} {n:Nat} (hp:Zkf p P) (hq:Zkf q (Zgs n P)) {b:Int} (hb:0<=b/\b<256):Zkf (Zzd p q b) (Zgs (n*256+b.toNat) P):=by
 have h:=Zl1 (Zr3 (Zl1 (Zr3 hq) (Zpd hp (b / 16).toNat))) (Zpd hp (b%16).toNat)
 rw [<- Za9,<- Zi2,<- Za9,<- Zi2] at h
 have e:16*(16*n+(b / 16).toNat)+(b%16).toNat=n*256+b.toNat:=by omega
 rw [e] at h
 exact h
def Zr2 (k:LI) (p:Q3):Nat->Q3
 | 0=>Zrc
 | j+1=>Zzd p (Zr2 k p j) (k.getD (31-j) 0)
theorem Zlk {k:LI} (hk:Byt k) : ∀ j,0<=Zlj k j
 | 0=>Int.le_refl _
 | j+1=>by
  have h1:=Zlk hk j
  have h2:=hk (31-j)
  show 0<=Zlj k j*256+k.getD (31-j) 0
  omega
theorem Zr4 {k:LI} (hk:Byt k) {p:Q3} {P:G} (hp:Zkf p P) : ∀ j,Zkf (Zr2 k p j) (Zgs (Zlj k j).toNat P)
 | 0=>Zr5
 | j+1=>by
  have h:=Zvt hp (Zr4 hk hp j) (hk (31-j))
  have h1:=Zlk hk j
  have h2:=hk (31-j)
  have e:(Zlj k j).toNat*256+(k.getD (31-j) 0).toNat=(Zlj k (j+1)).toNat:=by
   show _=(Zlj k j*256+k.getD (31-j) 0).toNat
   omega
  rw [e] at h
  exact h
theorem Zr7 {k:LI} (hk:Byt k) (p:Q3) (kk:LI->LI->LI->Option Z21) : ∀ (m n j:Nat),j+m=32->Zav k (Zjm (fun j=>rp (Zuq p j)) 15) kk (n+1+m) ((m:Int)-1) (rp (Zr2 k p j)).gX (rp (Zr2 k p j)).gY (rp (Zr2 k p j)).gZ=kk (rp (Zr2 k p 32)).gX (rp (Zr2 k p 32)).gY (rp (Zr2 k p 32)).gZ
 | 0,n,j,hj=>by
  have e:j=32:=by omega
  subst e
  rw [Nat.add_zero,Zav,Zfp,Z08 (by decide)]
 | m+1,n,j,hj=>by
  have ih:=Zr7 hk p kk m n (j+1) (by omega)
  have hb:=hk m
  have e0:((m+1:Nat):Int)-1=(m:Int):=by omega
  have e1:IntKind.wrap .i64 ((m:Int)-1)=(m:Int)-1:=Zj (by omega) (by omega)
  have e2:IntKind.wrap .u8 (Int.tdiv (k.getD m 0) 16)=k.getD m 0 / 16:=by
   rw [Int.tdiv_eq_ediv_of_nonneg hb.1,Z0s]; omega
  have e3:Int.tmod (k.getD m 0) 16=k.getD m 0%16:=Int.tmod_eq_emod_of_nonneg hb.1
  have em:31-j=m:=by omega
  rw [e0,<- Nat.add_assoc,Zav,Zfp,Z0g (decide_eq_true (by omega)),Zo (Z0i (by omega) (by omega))]
  rw [show (⟨(rp (Zr2 k p j)).gX,(rp (Zr2 k p j)).gY,(rp (Zr2 k p j)).gZ⟩:Z21)=rp (Zr2 k p j) from rfl]
  rw [Z3 (Zcf _),Z3 (Zcf _),Z3 (Zcf _),Z3 (Zcf _)]
  simp only [Zb,e1,e2,e3,Int.toNat_natCast]
  rw [Zo (Z0i (by omega) (by omega)),Zmd _ (by omega) (by decide),Z3 (Zl4 _ _),Zo (Z0i (by omega) (by omega))]
  rw [Z3 (Zcf _),Z3 (Zcf _),Z3 (Zcf _),Z3 (Zcf _),Zo (Z0i (by omega) (by omega)),Zmd _ (by omega) (by decide),Z3 (Zl4 _ _)]
  have er:rp (Zrb (Zik (Zik (Zik (Zik (Zrb (Zik (Zik (Zik (Zik (Zr2 k p j))))) (Zuq p (k.getD m 0 / 16).toNat)))))) (Zuq p (k.getD m 0%16).toNat))=rp (Zr2 k p (j+1)):=by
   show _=rp (Zzd p (Zr2 k p j) (k.getD (31-j) 0))
   rw [em]; rfl
  rw [er]
  exact ih
theorem Z0iw {k:LI} (hk:Byt k) (p:Q3):Znq k (rp p)=some (rp (Zr2 k p 32)):=by
 obtain ⟨n,hn⟩ : ∃ n,big=n+1+32:=⟨18446744073709551583,Z1t⟩
 rw [Znq,Z3 (Z0s6 p),Z3 Zus,Z13,hn]
 exact Zr7 hk p _ 32 n 0 (by omega)
theorem Zul {k:LI} (hk:Byt k) {p:Q3} {P:G} (hp:Zkf p P):Zkf (Zr2 k p 32) (Zgs (Zgo k).toNat P):=by
 have h:=Zr4 hk hp 32
 rw [Zhc] at h
 exact h
theorem Z04m {u v:Int} (hv:fi v≠0):fi v*fi (rq u v)=fi u:=by
 unfold rq
 rw [Z1b,Zsd]
 have h:=Zsj Zoh hv
 generalize pwF (fi v) (Znc Zq3 256)=i at *
 generalize fi v=x at *
 generalize fi u=y at *
 grind -lia -linarith (splits:=0)
theorem Znx {u v:Int} (hv:fi v≠0) (h:(Zjl u v).2=true):fi v*(fi (Zjl u v).1*fi (Zjl u v).1)=fi u/\(Zjl u v).1%PP%2=0:=by
 have hv' : ¬ v%PP=0:=fun e=>hv (Z9s.2 e)
 have hq:=Z04m (u:=u) hv
 unfold Zjl at h ⊢
 rw [if_neg hv'] at h ⊢
 split
 ·next h1 =>
  refine ⟨?_,Zkt _⟩
  rw [Zoo,<- Z1b,Zmw.2 h1,hq]
 ·next h1 =>
  rw [if_neg h1] at h
  split
  ·next h2 =>
   refine ⟨?_,Zkt _⟩
   rw [Zoo,<- Z1b,Zmw.2 h2,hq]
  ·next h2 =>
   rw [if_neg h2] at h
   cases h
theorem Z0s5 (u v:Int):fi (rr u v)*fi (rr u v)=fi (rq u v)*pwF (fi (rq u v)) (2*Znc esq 256+1):=by
 unfold rr
 rw [Zsd,<- Zls]
 have h:=Z00x
 have e:Znc esq8 256+Znc esq8 256=(2*Znc esq 256+1)+1:=by omega
 rw [e,Zab]
 generalize pwF (fi (rq u v)) (2*Znc esq 256+1)=z
 generalize fi (rq u v)=x
 grind -lia -linarith (splits:=0)
theorem Zpi {u v:Int} (hv:fi v≠0) {x:F} (hx:fi v*(x*x)=fi u):(Zjl u v).2=true:=by
 have hv' : ¬ v%PP=0:=fun e=>hv (Z9s.2 e)
 have hq:=Z04m (u:=u) hv
 have eq:fi (rq u v)=x*x:=by
  have e:fi v*(fi (rq u v)-x*x)=0:=by
   generalize fi (rq u v)=q at *
   generalize fi v=w at *
   generalize fi u=y at *
   clear hv hv'
   grind -lia -linarith (splits:=0)
  exact Zmm _ _ ((Zdv e).resolve_left hv)
 have hs:=Z0s5 u v
 have hr:fi (rr u v)*fi (rr u v)=fi (rq u v)∨fi (rr u v)*fi (rr u v) = - fi (rq u v):=by
  rw [hs]
  by_cases hx0:x=0
  ·left
   have z:fi (rq u v)=0:=by rw [eq,hx0]; decide +kernel
   rw [z]
   generalize pwF _ _=w
   grind -lia -linarith (splits:=0)
  ·rw [eq]
   rcases Zyx (n:=2*Znc esq 256+1) (by have:=Zs3; omega) hx0 with e | e
   ·left; rw [e]; grind -lia -linarith (splits:=0)
   ·right; rw [e]; grind -lia -linarith (splits:=0)
 unfold Zjl
 rw [if_neg hv']
 split
 ·rfl
 ·next h1 =>
  split
  ·rfl
  ·next h2 =>
   exfalso
   rcases hr with e | e
   ·exact h1 (Zmw.1 (by rw [Z1b]; exact e))
   ·apply h2
    apply Zmw.1
    have e2:=Ztu
    rw [Z1b,Z1b]
    generalize fi Zmj=j at *
    generalize fi (rr u v)=r at *
    generalize fi (rq u v)=q at *
    clear hs h1 h2 hv hx hq eq hv'
    grind -lia -linarith (splits:=0)
theorem Zz8 (y:Int):(Zjl (y*y-1) (DD*(y*y)+1)).2=(Z7h y).2/\((Z7h y).2=true->fi (Zjl (y*y-1) (DD*(y*y)+1)).1=fi (Z7h y).1):=by
 have hd:=Zuo y
 have key:(Zjl (y*y-1) (DD*(y*y)+1)).2=(Z7h y).2:=by
  cases h1:(Z7h y).2
  ·cases h2:(Zjl (y*y-1) (DD*(y*y)+1)).2
   ·rfl
   ·have:=Zrh hd (Znx hd h2).1
    have e:(Z7h y).2=true:=this
    rw [h1] at e
    cases e
  ·have hs:fi (DD*(y*y)+1)*(fi (Z7h y).1*fi (Z7h y).1)=fi (y*y-1):=(Zmi hd h1).1
   exact Zpi hd hs
 refine ⟨key,fun h=>?_⟩
 have s1:=Zmi hd h
 have s2:=Znx hd (key.trans h)
 have e1:fi (DD*(y*y)+1)*(fi (Z7h y).1*fi (Z7h y).1)=fi (y*y-1):=s1.1
 have p1:(Z7h y).1%PP%2=0:=s1.2
 have e:((fi (Zjl (y*y-1) (DD*(y*y)+1)).1-fi (Z7h y).1)*(fi (Zjl (y*y-1) (DD*(y*y)+1)).1+fi (Z7h y).1))*fi (DD*(y*y)+1)=0:=by
  have e2:=s2.1
  generalize fi (Zjl (y*y-1) (DD*(y*y)+1)).1=a at *
  generalize fi (Z7h y).1=b at *
  generalize fi (DD*(y*y)+1)=v at *
  generalize fi (y*y-1)=u at *
  clear s1 s2 hd key h p1
  grind -lia -linarith (splits:=0)
 rcases Zdv ((Zdv e).resolve_right hd) with h1 | h1
 ·exact Zmm _ _ h1
 ·refine par ?_ (Zrx _ _ h1)
  rw [Zsf,Zsf]
  exact s2.2.trans p1.symm
theorem Zz0 (y:Int):Zdi (rn y)=some (rn (Zjl (y*y-1) (DD*(y*y)+1)).1,(Zjl (y*y-1) (DD*(y*y)+1)).2):=by
 rw [Zdi,Z3 (Zhk _ _),Z3 (Zh7 (by decide) (by decide)),Z3 (rsub _ _),Z3 rD,Z3 (Zhk _ _),Z3 (Zh7 (by decide) (by decide)),Z3 (radd _ _),Z3 (Z02x _ _)]
theorem Zpb (x y:Int):Zby (rn x) (rn y)=some (rp ⟨x,y,1⟩):=by
 rw [Zby,Z3 (Zh7 (by decide) (by decide))]
 rfl
theorem Z08p:(4*pw 5 Zq3 256)%PP=BY:=by decide +kernel
theorem Z08o:(Zjl (BY*BY-1) (DD*(BY*BY)+1)).1%PP=BX:=by decide +kernel
def Z04n:Q3:=⟨(Zjl (BY*BY-1) (DD*(BY*BY)+1)).1,BY,1⟩
theorem Z02h:Zm2=some (rp Z04n):=by
 have e:rn (4*pw 5 Zq3 256)=rn BY:=by rw [<- Zz7,Z08p]
 rw [Zm2,Z3 (Zh7 (by decide) (by decide)),Z3 (Zh7 (by decide) (by decide)),Z3 (rinv _),Z3 (Zhk _ _),e,Z3 (Zz0 _)]
 show opt (Zby (rn (Zjl (BY*BY-1) (DD*(BY*BY)+1)).1) (rn BY)) _=_
 rw [Z3 (Zpb _ _)]
 rfl
theorem Zz4:Zkf Z04n Z052:=by
 constructor
 ·show fi 1≠0; decide +kernel
 ·show fi (Zjl (BY*BY-1) (DD*(BY*BY)+1)).1=fi BX*fi 1
  rw [<- Zd2,show (Zjl (BY*BY-1) (DD*(BY*BY)+1)).1%57896044618658097711785492504343953926634992332820282019728792003956564819949=BX from Z08o]
  decide +kernel
 ·show fi BY=fi BY*fi 1; decide +kernel
theorem Z02s {k:LI} (hk:Byt k) : ∃ q,Zdh k=some (rp q)/\Zkf q (pB k):=by
 refine ⟨_,?_,Zul hk Zz4⟩
 rw [Zdh,Z3 Z02h,Z3 (Z0iw hk _)]
theorem Z02i {k l:LI} (hk:Byt k) (hl:Byt l) {p:Q3} {P:G} (hp:Zkf p P) : ∃ q,Zdg k (rp p) l=some (rp q)/\Zkf q (Z9m (Zgs (Zgo k).toNat P) (pB l)):=by
 obtain ⟨b,eb,rb⟩:=Z02s hl
 refine ⟨_,?_,Zl1 (Zul hk hp) rb⟩
 rw [Zdg,Z3 (Z0iw hk p),Z3 eb,Z3 (Zl4 _ _)]
theorem Z07l {q:Q3} {P:G} (h:Zkf q P):Zfo (rp q)=some (encG P):=by
 have hi:=Zsj Zoh h.z
 have hx:fi (q.x*pw q.z Zq3 256)=P.x:=by
  rw [Z1b,Zsd,h.x]
  generalize pwF (fi q.z) (Znc Zq3 256)=i at *
  generalize fi q.z=z at *
  grind -lia -linarith (splits:=0)
 have hy:fi (q.y*pw q.z Zq3 256)=P.y:=by
  rw [Z1b,Zsd,h.y]
  generalize pwF (fi q.z) (Znc Zq3 256)=i at *
  generalize fi q.z=z at *
  grind -lia -linarith (splits:=0)
 have ex:q.x*pw q.z Zq3 256%PP=fv P.x:=by rw [<- hx,Zsf]
 have ey:q.y*pw q.z Zq3 256%PP=fv P.y:=by rw [<- hy,Zsf]
 rw [Zfo]
 show opt (Zap (rn q.z)) _=_
 rw [Z3 (rinv _)]
 show opt (Z2j (rn q.y) _) _=_
 rw [Z3 (Zhk _ _),Z3 (Z04h _)]
 show opt (Z2j (rn q.x) _) _=_
 rw [Z3 (Zhk _ _),Z3 (Z04j _),Z13,ex,ey]
 have h31:=Z08t (n:=fv P.y) (Zli _).1 (Zli _).2
 unfold encG Zom
 rw [Ztw,Ztw]
 by_cases ho:fv P.x%2=1
 ·rw [Z0g (by simpa using ho),if_pos ho,Z0pd h31.1 h31.2,Zb,Zb,Zb,Z0s,Int.emod_eq_of_lt (by omega) (by omega)]
 ·rw [Z08 (by simpa using ho),if_neg ho]
theorem Z07j {p:LI} (h:Byt p) (l:p.length=32) : ∃ q,Zfn p=some (if dok p then (rp q,true) else (⟨List.replicate 10 0,List.replicate 10 0,List.replicate 10 0⟩,false))/\(dok p=true->∀ P:G,Rep (dpt p) P->Zkf q P):=by
 have h31:=h 31
 have hy:Byt (Z1k p):=Zio h (by omega)
 have ly:(Z1k p).length=32:=by unfold Z1k; rw [Z6b (by omega),l]
 have em:Int.tmod (p.getD 31 0) 128=p.getD 31 0%128:=Int.tmod_eq_emod_of_nonneg h31.1
 have hc:dcan p=ieq 32 (byt (Z8b (Z1k p)%PP)) (Z1k p):=by
  unfold dcan
  rw [Z5d,Zez]
 have hr:=Zz8 (Z8b (Z1k p))
 refine ⟨⟨if Zq2 p=1 then-(Zjl (Z8b (Z1k p)*Z8b (Z1k p)-1) (DD*(Z8b (Z1k p)*Z8b (Z1k p))+1)).1 else (Zjl (Z8b (Z1k p)*Z8b (Z1k p)-1) (DD*(Z8b (Z1k p)*Z8b (Z1k p))+1)).1,Z8b (Z1k p),1⟩,?_,?_⟩
 ·rw [Zfn]
  simp only [Zb,em]
  show opt (Z8r (Z1k p)) _=_
  rw [Z3 (Z0is hy ly),<- hc]
  unfold dok
  cases hcan:dcan p
  ·rw [Z0g (by rfl)]; rfl
  ·rw [Z08 (by rfl)]
   show opt (Z5z (Z1k p)) _=_
   rw [Z3 (Z07q hy ly),Z3 (Zz0 _)]
   simp only [Zsy]
   rw [hr.1]
   cases hd:(Z7h (Z8b (Z1k p))).2
   ·rw [Zo (by simp [imp]),Z0g (by simp)]; rfl
   ·have hz:(Zjl (Z8b (Z1k p)*Z8b (Z1k p)-1) (DD*(Z8b (Z1k p)*Z8b (Z1k p))+1)).1%PP=0↔(Z7h (Z8b (Z1k p))).1%PP=0:=by
     rw [<- Z9s,<- Z9s,hr.2 hd]
    have ht:(decide (p.getD 31 0≥128))=(Zq2 p==1):=by
     unfold Zq2
     by_cases h128:p.getD 31 0≥128
     ·rw [decide_eq_true h128]; symm; rw [beq_iff_eq]; omega
     ·rw [decide_eq_false h128]; symm; rw [beq_eq_false_iff_ne]; omega
    rw [Zo (by simp [imp]),ht]
    by_cases hzz:(Z7h (Z8b (Z1k p))).1%PP=0
    ·rw [decide_eq_true hzz]
     simp only [decide_eq_true (hz.2 hzz)]
     cases htop:(Zq2 p==1)
     ·rw [Z08 (by simp),Z13,Z08 (by rfl)]
      have hn : ¬ Zq2 p=1:=by simpa using htop
      rw [if_neg hn]
      dsimp only
      rw [Z3 (Zpb _ _)]
      rfl
     ·rw [Z0g (by simp)]; rfl
    ·rw [decide_eq_false hzz]
     simp only [decide_eq_false (fun e=>hzz (hz.1 e))]
     cases htop:(Zq2 p==1)
     ·rw [Z08 (by simp),Z13,Z08 (by rfl)]
      have hn : ¬ Zq2 p=1:=by simpa using htop
      rw [if_neg hn]
      dsimp only
      rw [Z3 (Zpb _ _)]
      rfl
     ·rw [Z08 (by simp),Z13,Z0g (by rfl)]
      have hn:Zq2 p=1:=by simpa using htop
      rw [if_pos hn,Z3 (rneg _)]
      dsimp only
      rw [Z3 (Zpb _ _)]
      rfl
 ·intro hok P hP
  have hd:=(Zpz hok).2.1
  have hx:fi (dx p)=P.x:=by
   have:=hP.x
   have e1:(dpt p).x=dx p:=rfl
   have e2:(dpt p).z=1:=rfl
   rw [e1,e2,Zxg] at this
   rw [this]
   generalize P.x=a
   grind -lia -linarith (splits:=0)
  have hyv:fi (Z8b (Z1k p))=P.y:=by
   have:=hP.y
   have e1:(dpt p).y=Z8b (Z1k p):=rfl
   have e2:(dpt p).z=1:=rfl
   rw [e1,e2,Zxg] at this
   rw [this]
   generalize P.y=a
   grind -lia -linarith (splits:=0)
  constructor
  ·show fi 1≠0; decide +kernel
  ·show fi (if Zq2 p=1 then _ else _)=P.x*fi 1
   rw [Zxg,<- hx]
   unfold dx
   split
   ·rw [Zgz,Zgz,hr.2 hd]
    generalize fi (Z7h (Z8b (Z1k p))).1=a
    grind -lia -linarith (splits:=0)
   ·rw [hr.2 hd]
    generalize fi (Z7h (Z8b (Z1k p))).1=a
    grind -lia -linarith (splits:=0)
  ·show fi (Z8b (Z1k p))=P.y*fi 1
   rw [Zxg,hyv]
   generalize P.y=a
   grind -lia -linarith (splits:=0)
end Go.Proofs.YtiflckckekjbnaaGreatDoor
namespace Go.Proofs.YtiflckckekjbnaaGreatDoor
open Go Go.Sx Go.RowKit
open List (replicate)
open Go.IntKind (wrap)
set_option linter.all false
set_option maxRecDepth 100000
set_option maxHeartbeats 1000000
def qV (l:LI):Nat->Int
  | 0=>0
  | n+1=>qV l n+l.getD n 0*(256:Int)^n
theorem Z8a (l:LI) (n:Nat):qV l (n+1)=qV l n+l.getD n 0*(256:Int)^n:=rfl
theorem Zug (n:Nat):0<(256:Int)^n:=Int.pow_pos (by decide)
theorem Zkz {l r:LI} : ∀ n,(∀ i,i<n->l.getD i 0=r.getD i 0)->qV l n=qV r n
  | 0,_=>rfl
  | n+1,h=>by rw [Z8a,Z8a,Zkz n (fun i hi=>h i (by omega)),h n (by omega)]
theorem Zyr (l:LI) (i:Nat) (v:Int) (n:Nat) (h:n<=i):qV (Zdu 0 l i v) n=qV l n :=
  Zkz n (fun j hj=>by rw [Z4o,if_neg (by omega)])
theorem Zh5 {l:LI} (h:Byt l) : ∀ n,0<=qV l n/\qV l n<(256:Int)^n
  | 0=>by show (0:Int)<=0/\(0:Int)<1; omega
  | n+1=>by
    have ih:=Zh5 h n
    have h1:=h n
    have hp:=Zug n
    rw [Z8a,Int.pow_succ]
    generalize (256:Int)^n=w at *
    generalize l.getD n 0=x at *
    generalize qV l n=v at *
    have a:0<=x*w:=Int.mul_nonneg h1.1 (by omega)
    have b:x*w<=255*w:=Int.mul_le_mul_of_nonneg_right (by omega) (by omega)
    omega
theorem Zwh {l:LI} {v:Int} (h:Byt l) (hv:0<=v/\v<256):Byt (l ++ [v]):=by
  intro i
  by_cases hi:i<l.length
  · have:(l ++ [v]).getD i 0=l.getD i 0:=by simp [List.getD_eq_getElem?_getD,List.getElem?_append_left hi]
    rw [this]; exact h i
  · by_cases h2:i=l.length
    · have:(l ++ [v]).getD i 0=v:=by subst h2; simp [List.getD_eq_getElem?_getD]
      rw [this]; exact hv
    · rw [Ze0 (by simp; omega)]; decide
theorem Zru:Byt []:=fun i=>by
  have:([]:LI).getD i 0=0:=rfl
  rw [this]; decide
theorem Z00r {l:LI} {i:Nat} {v:Int} (h:Byt l) (hv:0<=v/\v<256):Byt (Zdu 0 l i v):=by
  intro j; rw [Z4o]; split
  · exact hv
  · exact h j
theorem Zrv (n:Nat):Byt (replicate n 0):=by
  intro t
  have:(replicate n (0:Int)).getD t 0=0:=by
    simp only [List.getD]
    cases hi:(replicate n (0:Int))[t]? with
    | none=>rfl
    | some v=>simpa using (List.mem_replicate.1 (List.mem_of_getElem? hi)).2
  rw [this]; decide
theorem Z049 (m:Nat) : ∀ n,qV (replicate m 0) n=0
  | 0=>rfl
  | n+1=>by
    have:(replicate m (0:Int)).getD n 0=0:=by
      simp only [List.getD]
      cases hi:(replicate m (0:Int))[n]? with
      | none=>rfl
      | some v=>simpa using (List.mem_replicate.1 (List.mem_of_getElem? hi)).2
    rw [Z8a,Z049 m n,this]; omega
theorem Z047 (l:LI) (v:Int):qV (l ++ [v]) (l.length+1)=qV l l.length+v*(256:Int)^l.length:=by
  have e:(l ++ [v]).getD l.length 0=v:=by simp [List.getD_eq_getElem?_getD]
  rw [Z8a,e]
  congr 1
  exact Zkz _ (fun i hi=>by simp [List.getD_eq_getElem?_getD,List.getElem?_append_left hi])
theorem Z031 {l:LI} {i:Nat} {v:Int} (h:i<l.length):(Zdu 0 l i v).length=l.length:=by rw [Za5 h,List.length_set]
theorem Zs1 (p:LI) (i:Nat):Zm1 p (i:Int)=some (p.getD i 0):=by
  rw [Zm1]
  by_cases h:i<p.length
  · rw [Z0g (decide_eq_true (by omega)),Zo (Z0i (by omega) (by omega)),Zb,Int.toNat_natCast]
  · rw [Z08 (decide_eq_false (by omega)),Ze0 (by omega)]
theorem Zy0 (p q:LI):Zfm p q=some ((max p.length q.length:Nat):Int):=by
  rw [Zfm]
  by_cases h:(p.length:Int)<(q.length:Int)
  · rw [Z0g (decide_eq_true h)]; congr 2; omega
  · rw [Z08 (decide_eq_false h)]; congr 2; omega
theorem Z06f {p:LI} (hp:Byt p) (hb:p.length<1000000) (k:LI->Option (LI)) (m:Nat) : ∀ (n i:Nat),i+m=p.length->Zcb p k (n+1+m) (p.take i) (i:Int)=k p:=by
  induction m with
  | zero =>
    intro n i hi
    rw [Nat.add_zero,Zcb,Zic,Z08 (decide_eq_false (by omega)),List.take_of_length_le (by omega)]
  | succ m ih =>
    intro n i hi
    have e1:=Z3n (i:=i) (by omega)
    have hx:=hp i
    have hlt:i<p.length:=by omega
    have ht:p.take i ++ [p.getD i 0]=p.take (i+1):=by
      rw [List.take_add_one,List.getD_eq_getElem?_getD,List.getElem?_eq_getElem hlt]; rfl
    rw [<- Nat.add_assoc,Zcb,Zic,Z0g (decide_eq_true (by omega)),Zo (Z0i (by omega) (by omega))]
    simp only [Zb,e1,Int.toNat_natCast]
    rw [Zj (by omega) (by omega),Zo (decide_eq_true (by simp only [List.length_take,List.length_singleton]; omega)),ht]
    exact ih n (i+1) (by omega)
theorem Z0ep {p:LI} (hp:Byt p) (hb:p.length<1000000):Zvp p=some p:=by
  obtain ⟨n,hn⟩ : ∃ n',big=n'+1+p.length:=⟨18446744073709551615-p.length,by have:big=18446744073709551616:=Z1t; omega⟩
  rw [Zvp,Z13,hn]
  exact Z06f hp hb some p.length n 0 (by omega)
def Zfv:LI:=[237,211,245,92,26,99,18,88,214,156,247,162,222,249,222,20,0,0,0,0,0,0,0,0,0,0,0,0,0,0,0,16]
theorem Zr8:Zid=some Zfv:=rfl
theorem Zjj:Byt Zfv:=byt_of (by decide)
theorem Zvy:qV Zfv 32=VL:=by decide
theorem Zfw:qV Zfv 33=VL:=by decide
theorem Znk {a b:LI} (ha:Byt a) (hb:Byt b) (k:Unit->Option Bool) (hk:k ()=some false) : ∀ (m n:Nat),m<1000000 ->
    Z8t a b k (n+1+m) ((m:Int)-1)=some (decide (qV a m<qV b m))
  | 0,n,_=>by
    rw [Nat.add_zero,Z8t,Zdd,Z08 (by decide),hk]
    simp [qV]
  | m+1,n,hm=>by
    have ih:=Znk ha hb k hk m n (by omega)
    have e0:((m+1:Nat):Int)-1=(m:Int):=by omega
    have e1:wrap .i64 ((m:Int)-1)=(m:Int)-1:=Zj (by omega) (by omega)
    have ra:=Zh5 ha m
    have rb:=Zh5 hb m
    rw [e0,<- Nat.add_assoc,Z8t,Zdd,Z0g (decide_eq_true (by omega)),Z3 (Zs1 _ _),Z3 (Zs1 _ _)]
    rw [Z8a,Z8a]
    by_cases h:a.getD m 0=b.getD m 0
    · rw [Z08 (by rw [h]; simp),Zb,e1,ih,h]
      congr 1
      by_cases h2:qV a m<qV b m
      · rw [decide_eq_true h2,decide_eq_true (by omega)]
      · rw [decide_eq_false h2,decide_eq_false (by omega)]
    · rw [Z0g (by simpa using h),Z3 (Zs1 _ _),Z3 (Zs1 _ _)]
      congr 1
      generalize a.getD m 0=x at *
      generalize b.getD m 0=y at *
      generalize qV a m=v at *
      generalize qV b m=u at *
      have hp:=Zug m
      generalize (256:Int)^m=w at *
      by_cases h2:x<y
      · have h3:(x+1)*w<=y*w:=Int.mul_le_mul_of_nonneg_right (by omega) (by omega)
        rw [Int.add_mul,Int.one_mul] at h3
        rw [decide_eq_true h2,decide_eq_true (by omega)]
      · have h3:(y+1)*w<=x*w:=Int.mul_le_mul_of_nonneg_right (by omega) (by omega)
        rw [Int.add_mul,Int.one_mul] at h3
        rw [decide_eq_false h2,decide_eq_false (by omega)]
theorem Z0eh {a b:LI} (ha:Byt a) (hb:Byt b) (la:a.length<1000000) (lb:b.length<1000000):Zhi a b=some (decide (qV a (max a.length b.length)<qV b (max a.length b.length))):=by
  have hm:max a.length b.length<1000000:=by omega
  have h:=Znk ha hb (fun _=>some false) rfl
  obtain ⟨n,hn⟩ : ∃ n',big=n'+1+max a.length b.length:=⟨18446744073709551615-max a.length b.length,by have:big=18446744073709551616:=Z1t; omega⟩
  rw [Zhi,Z3 (Zy0 a b),Zb,Z13,Zj (by omega) (by omega),hn]
  exact h _ n hm
theorem Zvj {a b:LI} (ha:Byt a) (hb:Byt b) (hl:a.length<1000000) (k:LI->Option (LI)) (m:Nat) : ∀ (n i:Nat) (l:LI) (c:Int),i+m=a.length->l.length=i->Byt l->(c=0∨c=1)->qV l i=qV a i-qV b i+c*(256:Int)^i ->
    ∃ r c',Z75 a b k (n+1+m) l c (i:Int)=k r/\r.length=a.length/\Byt r/\(c'=0∨c'=1)/\qV r a.length=qV a a.length-qV b a.length+c'*(256:Int)^a.length:=by
  induction m with
  | zero =>
    intro n i l c hi hli hbl hc hv
    have e:i=a.length:=by omega
    subst e
    refine ⟨l,c,?_,hli,hbl,hc,hv⟩
    rw [Nat.add_zero,Z75,Zbx,Z08 (decide_eq_false (by omega))]
  | succ m ih =>
    intro n i l c hi hli hbl hc hv
    have e1:=Z3n (i:=i) (by omega)
    have x:=ha i
    have y:=hb i
    have w1:wrap .i64 (a.getD i 0-b.getD i 0)=a.getD i 0-b.getD i 0:=Zj (by omega) (by omega)
    have w2:wrap .i64 (a.getD i 0-b.getD i 0-c)=a.getD i 0-b.getD i 0-c:=Zj (by omega) (by omega)
    rw [<- Nat.add_assoc,Z75,Zbx,Z0g (decide_eq_true (by omega)),Zo (Z0i (by omega) (by omega))]
    simp only [Zb,e1,Int.toNat_natCast]
    rw [Z3 (Zs1 _ _),w1,w2,Z13]
    by_cases hn:a.getD i 0-b.getD i 0-c<0
    · have w3:wrap .i64 (a.getD i 0-b.getD i 0-c+256)=a.getD i 0-b.getD i 0-c+256:=Zj (by omega) (by omega)
      rw [Z0g (decide_eq_true hn),w3]
      dsimp only
      rw [Zo (decide_eq_true (by simp only [List.length_singleton]; omega))]
      refine ih n (i+1) (l ++ [a.getD i 0-b.getD i 0-c+256]) 1 (by omega) (by simp; omega) (Zwh hbl (by omega)) (.inr rfl) ?_
      have:=Z047 l (a.getD i 0-b.getD i 0-c+256)
      rw [hli] at this
      rw [this,Z8a a,Z8a b,Int.pow_succ,hv]
      generalize a.getD i 0=xa at *
      generalize b.getD i 0=xb at *
      generalize (256:Int)^i=w at *
      generalize qV a i=v2 at *
      generalize qV b i=v3 at *
      clear ih w1 w2 w3 e1 this hl hi hc hv
      grind -lia -linarith (splits:=0)
    · rw [Z08 (decide_eq_false hn)]
      dsimp only
      rw [Zo (decide_eq_true (by simp only [List.length_singleton]; omega))]
      refine ih n (i+1) (l ++ [a.getD i 0-b.getD i 0-c]) 0 (by omega) (by simp; omega) (Zwh hbl (by omega)) (.inl rfl) ?_
      have:=Z047 l (a.getD i 0-b.getD i 0-c)
      rw [hli] at this
      rw [this,Z8a a,Z8a b,Int.pow_succ,hv]
      generalize a.getD i 0=xa at *
      generalize b.getD i 0=xb at *
      generalize (256:Int)^i=w at *
      generalize qV a i=v2 at *
      generalize qV b i=v3 at *
      clear ih w1 w2 e1 this hl hi hc hv
      grind -lia -linarith (splits:=0)
theorem Z0eo {a b:LI} (ha:Byt a) (hb:Byt b) (hl:a.length<1000000) (hle:qV b a.length<=qV a a.length) : ∃ r,Zgh a b=some r/\r.length=a.length/\Byt r/\qV r a.length=qV a a.length-qV b a.length:=by
  obtain ⟨n,hn⟩ : ∃ n',big=n'+1+a.length:=⟨18446744073709551615-a.length,by have:big=18446744073709551616:=Z1t; omega⟩
  obtain ⟨r,c,er,h1,h2,h3,h4⟩:=Zvj ha hb hl some a.length n 0 [] 0 (by omega) rfl Zru (.inl rfl) (by show (0:Int)=0-0+0*1; omega)
  have rr:=Zh5 h2 a.length
  have ra:=Zh5 ha a.length
  have rb:=Zh5 hb a.length
  refine ⟨r,?_,h1,h2,?_⟩
  · rw [Zgh,Z13,hn]; exact er
  · generalize (256:Int)^a.length=w at *
    rcases h3 with h | h <;> subst h <;> omega
theorem Zsg (i:Nat) (k:Int->Option Int) (m:Nat) : ∀ (n t:Nat) (d:Int),t+m=i%8->(0<=d/\d<256)->Zau (i:Int) k (n+1+m) d (t:Int)=k (d / ((2^m:Nat):Int)):=by
  induction m with
  | zero =>
    intro n t d ht hd
    rw [Nat.add_zero,Zau,Zfl,Zb,Zov,Z08 (decide_eq_false (by omega))]
    show k d=k (d / 1)
    rw [Int.ediv_one]
  | succ m ih =>
    intro n t d ht hd
    have e1:=Z3n (i:=t) (by omega)
    have w1:wrap .i64 (Int.tdiv d 2)=d / 2:=by rw [Int.tdiv_eq_ediv_of_nonneg hd.1,Zj (by omega) (by omega)]
    rw [<- Nat.add_assoc,Zau,Zfl,Zb,Zov,Z0g (decide_eq_true (by omega))]
    simp only [Zb,e1,w1]
    rw [ih n (t+1) (d / 2) (by omega) (by omega),Nat.pow_succ,Int.natCast_mul,Int.mul_comm,<- Int.ediv_ediv_of_nonneg (by decide)]
    rfl
theorem bit6 {p:LI} (hp:Byt p) {i:Nat} (hi:i<1000000):Zqs p (i:Int)=some (p.getD (i / 8) 0 / ((2^(i%8):Nat):Int)%2):=by
  have hb:=hp (i / 8)
  obtain ⟨n,hn⟩ : ∃ n',big=n'+1+i%8:=⟨18446744073709551615-i%8,by have:big=18446744073709551616:=Z1t; omega⟩
  have e1:wrap .i64 (Int.tdiv (i:Int) 8)=((i / 8:Nat):Int):=by
    rw [Int.tdiv_eq_ediv_of_nonneg (by omega),Zj (by omega) (by omega)]; omega
  have hpp:(0:Int)<((2^(i%8):Nat):Int):=by have:=Nat.pow_pos (n:=i%8) (show 0<2 by decide); omega
  have hq0:=Int.ediv_nonneg hb.1 (Int.le_of_lt hpp)
  rw [Zqs,Zb,e1,Z3 (Zs1 _ _),Z13,hn]
  refine (Zsg i _ (i%8) n 0 _ (by omega) hb).trans ?_
  rw [Zb,Int.tmod_eq_emod_of_nonneg hq0]
theorem Z013 {b:Int} (hb:b=0∨b=1) {l0:LI} (k:LI->Option (LI)) (m:Nat) : ∀ (n i:Nat) (l:LI) (c:Int),i+m=33->l.length=33->Byt l->(c=0∨c=1)->(∀ j,i<=j->l.getD j 0=l0.getD j 0)->qV l i+c*(256:Int)^i=2*qV l0 i+b ->
    ∃ r c',Z9f k (n+1+m) l c (i:Int)=k r/\r.length=33/\Byt r/\(c'=0∨c'=1)/\qV r 33+c'*(256:Int)^33=2*qV l0 33+b:=by
  induction m with
  | zero =>
    intro n i l c hi hl hbl hc hj hv
    have e:i=33:=by omega
    subst e
    refine ⟨l,c,?_,hl,hbl,hc,hv⟩
    rw [Nat.add_zero,Z9f,Zfk,Z08 (by decide)]
  | succ m ih =>
    intro n i l c hi hl hbl hc hj hv
    have e1:=Z3n (i:=i) (by omega)
    have x:=hbl i
    have w1:wrap .i64 (2*l.getD i 0)=2*l.getD i 0:=Zj (by omega) (by omega)
    have w2:wrap .i64 (2*l.getD i 0+c)=2*l.getD i 0+c:=Zj (by omega) (by omega)
    have w3:Int.tmod (2*l.getD i 0+c) 256=(2*l.getD i 0+c)%256:=Int.tmod_eq_emod_of_nonneg (by omega)
    have w4:wrap .i64 (Int.tdiv (2*l.getD i 0+c) 256)=(2*l.getD i 0+c) / 256:=by
      rw [Int.tdiv_eq_ediv_of_nonneg (by omega),Zj (by omega) (by omega)]
    obtain ⟨r,c',er,h1,h2,h3,h4⟩:=ih n (i+1) (Zdu 0 l i ((2*l.getD i 0+c)%256)) ((2*l.getD i 0+c) / 256) (by omega) (by rw [Z031 (by omega),hl]) (Z00r hbl (by omega)) (by omega)
      (by intro j hji; rw [Z4o,if_neg (by omega)]; exact hj j (by omega)) (by
      rw [Z8a (Zdu 0 l i _),Zyr _ _ _ _ (Nat.le_refl _),Z4o,if_pos rfl,Z8a l0,Int.pow_succ,<- hj i (Nat.le_refl _)]
      have hd:=Int.mul_ediv_add_emod (2*l.getD i 0+c) 256
      generalize (2*l.getD i 0+c) / 256=d at *
      generalize (2*l.getD i 0+c)%256=q at *
      generalize l.getD i 0=xa at *
      generalize (256:Int)^i=w at *
      generalize qV l i=v1 at *
      generalize qV l0 i=v2 at *
      clear ih w1 w2 w3 w4 e1 hj hi hc hb hbl
      grind -lia -linarith (splits:=0))
    refine ⟨r,c',?_,h1,h2,h3,h4⟩
    rw [<- Nat.add_assoc,Z9f,Zfk,Z0g (decide_eq_true (by omega))]
    simp only [Zb,e1,Int.toNat_natCast,w1,w2,w3,w4]
    rw [Zo (Z0i (by omega) (by omega)),Zo (Z0i (by omega) (by omega))]
    exact er
theorem Z05t {b:Int} (hb:b=0∨b=1) {l:LI} (hl:l.length=33) (hbl:Byt l) (hs:qV l 33<VL) (k:LI->Option (LI)) : ∃ r,Z9f k big l b 0=k r/\r.length=33/\Byt r/\qV r 33=2*qV l 33+b:=by
  obtain ⟨n,hn⟩ : ∃ n,big=n+1+33:=⟨18446744073709551582,Z1t⟩
  obtain ⟨r,c',er,h1,h2,h3,h4⟩:=Z013 hb (l0:=l) k 33 n 0 l b (by omega) hl hbl hb (fun _ _=>rfl) (by show 0+b*1=2*0+b; omega)
  have rr:=Zh5 h2 33
  have e33:(256:Int)^33=29642774844752946028434172162224104410437116074403984394101141506025761187823616:=by decide
  refine ⟨r,by rw [hn]; exact er,h1,h2,?_⟩
  rw [e33] at h4 rr
  unfold VL at hs
  rcases h3 with h | h <;> subst h <;> omega
theorem Zow {p:LI} (hp:Byt p) (hl:p.length<10000) {V:Nat} (hV : ∀ j,j<p.length->p.getD j 0=((V / 2^(8*j)%2^8:Nat):Int)) (k:LI->Option (LI)) : ∀ (m n:Nat) (l:LI),m<=8*p.length->l.length=33->Byt l->qV l 33=((V / 2^m%VLn:Nat):Int) ->
    ∃ r,Z7x p Zfv k (n+1+m) l ((m:Int)-1)=k r/\r.length=33/\Byt r/\qV r 33=((V%VLn:Nat):Int)
  | 0,n,l,hm,h1,h2,h3=>by
    refine ⟨l,?_,h1,h2,?_⟩
    · rw [Nat.add_zero,Z7x,Zfj,Z08 (by decide)]
    · rw [h3,Nat.pow_zero,Nat.div_one]
  | m+1,n,l,hm,h1,h2,h3=>by
    have e0:((m+1:Nat):Int)-1=(m:Int):=by omega
    have e1:wrap .i64 ((m:Int)-1)=(m:Int)-1:=Zj (by omega) (by omega)
    have hbit:=Zt3 (w:=8) (N:=V) (l:=p) (L:=p.length) (i:=m) (by decide) hV (by omega)
    have hlt:qV l 33<VL:=by
      rw [h3,Zpq]
      have:=Nat.mod_lt (V / 2^(m+1)) (show 0<VLn by decide)
      omega
    have hV2:V / 2^m=2*(V / 2^(m+1))+V / 2^m%2:=by
      have e:V / 2^(m+1)=V / 2^m / 2:=by rw [Nat.pow_succ,Nat.div_div_eq_div_mul]
      rw [e]; omega
    rw [e0,<- Nat.add_assoc,Z7x,Zfj,Z0g (decide_eq_true (by omega)),Z13,Z3 (bit6 hp (by omega)),Z13,hbit]
    have hb01:((V / 2^m%2:Nat):Int)=0∨((V / 2^m%2:Nat):Int)=1:=by omega
    obtain ⟨r,er,r1,r2,r3⟩:=Z05t hb01 h1 h2 hlt (fun (l1750:LI)=>opt (Zhi l1750 Zfv) fun y1817 =>
 br ((!y1817)) (
 opt (Zgh l1750 Zfv) fun y1820 =>
 (fun (l1679:LI)=>bnd (wrap .i64 ((m:Int)-1)) fun z1827 =>
 Z7x p Zfv k (n+1+m) l1679 z1827) y1820
 ) (
 (fun (l1679:LI)=>bnd (wrap .i64 ((m:Int)-1)) fun z1827 =>
 Z7x p Zfv k (n+1+m) l1679 z1827) l1750
 ))
    refine (?_ : ∃ q,_/\_)
    have hless:=Z0eh r2 Zjj (by omega) (by decide)
    have e33:max r.length Zfv.length=33:=by rw [r1]; rfl
    rw [e33,Zfw] at hless
    rw [h3] at r3
    by_cases hc:qV r 33<VL
    · have hv:qV r 33=((V / 2^m%VLn:Nat):Int):=by
        rw [Zpq,r3] at hc
        rw [r3,hV2]
        generalize V / 2^m%2=bb at *
        generalize V / 2^(m+1)=x at *
        unfold VLn at *
        omega
      obtain ⟨q,eq,q1,q2,q3⟩:=Zow hp hl hV k m n r (by omega) r1 r2 hv
      refine ⟨q,?_,q1,q2,q3⟩
      refine er.trans ?_
      dsimp only
      rw [Z3 hless,decide_eq_true hc,Z08 (c := !true) rfl,Zb,e1]
      exact eq
    · obtain ⟨s,es,s1,s2,s3⟩:=Z0eo r2 Zjj (by omega) (by rw [r1,Zfw]; omega)
      rw [r1,Zfw] at s3
      have hv:qV s 33=((V / 2^m%VLn:Nat):Int):=by
        rw [Zpq,r3] at hc
        rw [Zpq] at s3
        rw [s3,r3,hV2]
        generalize V / 2^m%2=bb at *
        generalize V / 2^(m+1)=x at *
        unfold VLn at *
        omega
      obtain ⟨q,eq,q1,q2,q3⟩:=Zow hp hl hV k m n s (by omega) (by rw [s1,r1]) s2 hv
      refine ⟨q,?_,q1,q2,q3⟩
      refine er.trans ?_
      dsimp only
      rw [Z3 hless,decide_eq_false hc,Z0g (c := !false) rfl,Z3 es,Zb,e1]
      exact eq
theorem Z048 {p:LI} (hp:Byt p) : ∀ (n j:Nat),j<n->p.getD j 0=(((qV p n).toNat / 2^(8*j)%2^8:Nat):Int)
  | 0,j,h=>by omega
  | n+1,j,h=>by
    have hr:=Zh5 hp n
    have hb:=hp n
    obtain ⟨v,hv⟩:=Int.eq_ofNat_of_zero_le hr.1
    obtain ⟨x,hx⟩:=Int.eq_ofNat_of_zero_le hb.1
    have hpw:(256:Int)^n=((256^n:Nat):Int):=by rw [Int.natCast_pow]; rfl
    have hvlt:v<256^n:=by
      have:=hr.2
      rw [hv,hpw] at this
      exact Int.ofNat_lt.1 this
    have hxlt:x<256:=by
      have:=hb.2
      rw [hx] at this
      exact Int.ofNat_lt.1 this
    have e:(qV p (n+1)).toNat=v+x*256^n:=by
      rw [Z8a,hv,hx,hpw,<- Int.natCast_mul,<- Int.natCast_add,Int.toNat_natCast]
    rw [e,pow8]
    by_cases hj:j=n
    · subst hj
      rw [Nat.add_mul_div_right _ _ (Nat.pow_pos (by decide)),Nat.div_eq_of_lt hvlt,Nat.zero_add,hx]
      show (x:Int)=((x%256:Nat):Int)
      rw [Nat.mod_eq_of_lt hxlt]
    · have ih:=Z048 hp n j (by omega)
      rw [hv,Int.toNat_natCast,pow8] at ih
      have hs:n=j+1+(n-j-1):=by omega
      have e2:x*256^n=x*256^(n-j-1)*256*256^j:=by
        conv=>lhs; rw [hs,Nat.pow_add,Nat.pow_succ]
        ac_rfl
      rw [e2,Nat.add_mul_div_right _ _ (Nat.pow_pos (by decide))]
      rw [ih]
      show ((v / 256^j%256:Nat):Int)=(((v / 256^j+x*256^(n-j-1)*256)%256:Nat):Int)
      rw [Nat.add_mul_mod_self_right]
theorem mod6 {p:LI} (hp:Byt p) (hl:p.length<10000) : ∃ r,Zqq p=some r/\r.length=33/\Byt r/\qV r 33=qV p p.length%VL:=by
  obtain ⟨n,hn⟩ : ∃ n',big=n'+1+8*p.length:=⟨18446744073709551615-8*p.length,by have:big=18446744073709551616:=Z1t; omega⟩
  have hr:=Zh5 hp p.length
  obtain ⟨v,hv⟩:=Int.eq_ofNat_of_zero_le hr.1
  have hpw:(256:Int)^p.length=((256^p.length:Nat):Int):=by rw [Int.natCast_pow]; rfl
  have hvlt:v<2^(8*p.length):=by
    have:=hr.2
    rw [hv,hpw] at this
    rw [pow8]
    exact Int.ofNat_lt.1 this
  have hd:=Z048 hp p.length
  rw [hv,Int.toNat_natCast] at hd
  obtain ⟨r,er,r1,r2,r3⟩:=Zow hp hl hd some (8*p.length) n (replicate 33 0) (Nat.le_refl _) (by simp) (Zrv _) (by
    rw [Z049,Nat.div_eq_of_lt hvlt]; rfl)
  refine ⟨r,?_,r1,r2,?_⟩
  · have e1:wrap .i64 (8*(p.length:Int))=((8*p.length:Nat):Int):=by rw [Zj (by omega) (by omega)]; omega
    have e2:wrap .i64 (((8*p.length:Nat):Int)-1)=((8*p.length:Nat):Int)-1:=Zj (by omega) (by omega)
    rw [Zqq,Z3 Zr8,Zo (by decide),Zb,Zb,Z13,e1,e2,hn]
    exact er
  · rw [r3,hv,Zpq]; rfl
theorem Z002 {p:LI} (hp:Byt p) (k:LI->Option (LI)) (m:Nat) : ∀ (n i:Nat) (a:LI),i+m=32->a.length=32->(∀ j,a.getD j 0=if j<i then p.getD j 0 else 0) ->
    ∃ r,Z8u p k (n+1+m) (i:Int) a=k r/\r.length=32/\(∀ j,r.getD j 0=if j<32 then p.getD j 0 else 0):=by
  induction m with
  | zero =>
    intro n i a hi hl h
    have e:i=32:=by omega
    subst e
    refine ⟨a,?_,hl,h⟩
    rw [Nat.add_zero,Z8u,Zdf,Z08 (by decide)]
  | succ m ih =>
    intro n i a hi hl h
    have e1:=Z3n (i:=i) (by omega)
    have x:=hp i
    have w1:wrap .u8 (p.getD i 0)=p.getD i 0:=by rw [Z0s]; omega
    rw [<- Nat.add_assoc,Z8u,Zdf,Z0g (decide_eq_true (by omega)),Z3 (Zs1 _ _)]
    simp only [Zb,e1,w1,Int.toNat_natCast]
    rw [Zo (Z0i (by omega) (by omega))]
    refine ih n (i+1) _ (by omega) (by rw [Z6b (by omega),hl]) ?_
    intro j
    rw [Z1h,h j]
    by_cases hj:j=i
    · subst hj; rw [if_pos rfl,if_pos (by omega)]
    · rw [if_neg hj]
      by_cases h2:j<i
      · rw [if_pos h2,if_pos (by omega)]
      · rw [if_neg h2,if_neg (by omega)]
theorem Zys (p:LI):qV p 32=Zgo p:=by
  simp only [qV]
  have e0:(256:Int)^0=1:=by decide
  have e1:(256:Int)^1=256:=by decide
  have e2:(256:Int)^2=65536:=by decide
  have e3:(256:Int)^3=16777216:=by decide
  have e4:(256:Int)^4=4294967296:=by decide
  have e5:(256:Int)^5=1099511627776:=by decide
  have e6:(256:Int)^6=281474976710656:=by decide
  have e7:(256:Int)^7=72057594037927936:=by decide
  have e8:(256:Int)^8=18446744073709551616:=by decide
  have e9:(256:Int)^9=4722366482869645213696:=by decide
  have e10:(256:Int)^10=1208925819614629174706176:=by decide
  have e11:(256:Int)^11=309485009821345068724781056:=by decide
  have e12:(256:Int)^12=79228162514264337593543950336:=by decide
  have e13:(256:Int)^13=20282409603651670423947251286016:=by decide
  have e14:(256:Int)^14=5192296858534827628530496329220096:=by decide
  have e15:(256:Int)^15=1329227995784915872903807060280344576:=by decide
  have e16:(256:Int)^16=340282366920938463463374607431768211456:=by decide
  have e17:(256:Int)^17=87112285931760246646623899502532662132736:=by decide
  have e18:(256:Int)^18=22300745198530623141535718272648361505980416:=by decide
  have e19:(256:Int)^19=5708990770823839524233143877797980545530986496:=by decide
  have e20:(256:Int)^20=1461501637330902918203684832716283019655932542976:=by decide
  have e21:(256:Int)^21=374144419156711147060143317175368453031918731001856:=by decide
  have e22:(256:Int)^22=95780971304118053647396689196894323976171195136475136:=by decide
  have e23:(256:Int)^23=24519928653854221733733552434404946937899825954937634816:=by decide
  have e24:(256:Int)^24=6277101735386680763835789423207666416102355444464034512896:=by decide
  have e25:(256:Int)^25=1606938044258990275541962092341162602522202993782792835301376:=by decide
  have e26:(256:Int)^26=411376139330301510538742295639337626245683966408394965837152256:=by decide
  have e27:(256:Int)^27=105312291668557186697918027683670432318895095400549111254310977536:=by decide
  have e28:(256:Int)^28=26959946667150639794667015087019630673637144422540572481103610249216:=by decide
  have e29:(256:Int)^29=6901746346790563787434755862277025452451108972170386555162524223799296:=by decide
  have e30:(256:Int)^30=1766847064778384329583297500742918515827483896875618958121606201292619776:=by decide
  have e31:(256:Int)^31=452312848583266388373324160190187140051835877600158453279131187530910662656:=by decide
  rw [e0,e1,e2,e3,e4,e5,e6,e7,e8,e9,e10,e11,e12,e13,e14,e15,e16,e17,e18,e19,e20,e21,e22,e23,e24,e25,e26,e27,e28,e29,e30,e31]
  unfold Zgo
  omega
theorem Z06u (p:LI):qV p 64=wval p:=by
  simp only [qV]
  have e0:(256:Int)^0=1:=by decide
  have e1:(256:Int)^1=256:=by decide
  have e2:(256:Int)^2=65536:=by decide
  have e3:(256:Int)^3=16777216:=by decide
  have e4:(256:Int)^4=4294967296:=by decide
  have e5:(256:Int)^5=1099511627776:=by decide
  have e6:(256:Int)^6=281474976710656:=by decide
  have e7:(256:Int)^7=72057594037927936:=by decide
  have e8:(256:Int)^8=18446744073709551616:=by decide
  have e9:(256:Int)^9=4722366482869645213696:=by decide
  have e10:(256:Int)^10=1208925819614629174706176:=by decide
  have e11:(256:Int)^11=309485009821345068724781056:=by decide
  have e12:(256:Int)^12=79228162514264337593543950336:=by decide
  have e13:(256:Int)^13=20282409603651670423947251286016:=by decide
  have e14:(256:Int)^14=5192296858534827628530496329220096:=by decide
  have e15:(256:Int)^15=1329227995784915872903807060280344576:=by decide
  have e16:(256:Int)^16=340282366920938463463374607431768211456:=by decide
  have e17:(256:Int)^17=87112285931760246646623899502532662132736:=by decide
  have e18:(256:Int)^18=22300745198530623141535718272648361505980416:=by decide
  have e19:(256:Int)^19=5708990770823839524233143877797980545530986496:=by decide
  have e20:(256:Int)^20=1461501637330902918203684832716283019655932542976:=by decide
  have e21:(256:Int)^21=374144419156711147060143317175368453031918731001856:=by decide
  have e22:(256:Int)^22=95780971304118053647396689196894323976171195136475136:=by decide
  have e23:(256:Int)^23=24519928653854221733733552434404946937899825954937634816:=by decide
  have e24:(256:Int)^24=6277101735386680763835789423207666416102355444464034512896:=by decide
  have e25:(256:Int)^25=1606938044258990275541962092341162602522202993782792835301376:=by decide
  have e26:(256:Int)^26=411376139330301510538742295639337626245683966408394965837152256:=by decide
  have e27:(256:Int)^27=105312291668557186697918027683670432318895095400549111254310977536:=by decide
  have e28:(256:Int)^28=26959946667150639794667015087019630673637144422540572481103610249216:=by decide
  have e29:(256:Int)^29=6901746346790563787434755862277025452451108972170386555162524223799296:=by decide
  have e30:(256:Int)^30=1766847064778384329583297500742918515827483896875618958121606201292619776:=by decide
  have e31:(256:Int)^31=452312848583266388373324160190187140051835877600158453279131187530910662656:=by decide
  have e32:(256:Int)^32=115792089237316195423570985008687907853269984665640564039457584007913129639936:=by decide
  have e33:(256:Int)^33=29642774844752946028434172162224104410437116074403984394101141506025761187823616:=by decide
  have e34:(256:Int)^34=7588550360256754183279148073529370729071901715047420004889892225542594864082845696:=by decide
  have e35:(256:Int)^35=1942668892225729070919461906823518906642406839052139521251812409738904285205208498176:=by decide
  have e36:(256:Int)^36=497323236409786642155382248146820840100456150797347717440463976893159497012533375533056:=by decide
  have e37:(256:Int)^37=127314748520905380391777855525586135065716774604121015664758778084648831235208544136462336:=by decide
  have e38:(256:Int)^38=32592575621351777380295131014550050576823494298654980010178247189670100796213387298934358016:=by decide
  have e39:(256:Int)^39=8343699359066055009355553539724812947666814540455674882605631280555545803830627148527195652096:=by decide
  have e40:(256:Int)^40=2135987035920910082395021706169552114602704522356652769947041607822219725780640550022962086936576:=by decide
  have e41:(256:Int)^41=546812681195752981093125556779405341338292357723303109106442651602488249799843980805878294255763456:=by decide
  have e42:(256:Int)^42=139984046386112763159840142535527767382602843577165595931249318810236991948760059086304843329475444736:=by decide
  have e43:(256:Int)^43=35835915874844867368919076489095108449946327955754392558399825615420669938882575126094039892345713852416:=by decide
  have e44:(256:Int)^44=9173994463960286046443283581208347763186259956673124494950355357547691504353939232280074212440502746218496:=by decide
  have e45:(256:Int)^45=2348542582773833227889480596789337027375682548908319870707290971532209025114608443463698998384768703031934976:=by decide
  have e46:(256:Int)^46=601226901190101306339707032778070279008174732520529886901066488712245510429339761526706943586500787976175353856:=by decide
  have e47:(256:Int)^47=153914086704665934422965000391185991426092731525255651046673021110334850669910978950836977558144201721900890587136:=by decide
  have e48:(256:Int)^48=39402006196394479212279040100143613805079739270465446667948293404245721771497210611414266254884915640806627990306816:=by decide
  have e49:(256:Int)^49=10086913586276986678343434265636765134100413253239154346994763111486904773503285916522052161250538404046496765518544896:=by decide
  have e50:(256:Int)^50=2582249878086908589655919172003011874329705792829223512830659356540647622016841194629645353280137831435903171972747493376:=by decide
  have e51:(256:Int)^51=661055968790248598951915308032771039828404682964281219284648795274405791236311345825189210439715284847591212025023358304256:=by decide
  have e52:(256:Int)^52=169230328010303641331690318856389386196071598838855992136870091590247882556495704531248437872567112920983350278405979725889536:=by decide
  have e53:(256:Int)^53=43322963970637732180912721627235682866194329302747133987038743447103457934462900359999600095377180907771737671271930809827721216:=by decide
  have e54:(256:Int)^54=11090678776483259438313656736572334813745748301503266300681918322458485231222502492159897624416558312389564843845614287315896631296:=by decide
  have e55:(256:Int)^55=2839213766779714416208296124562517712318911565184836172974571090549372219192960637992933791850638927971728600024477257552869537611776:=by decide
  have e56:(256:Int)^56=726838724295606890549323807888004534353641360687318060281490199180639288113397923326191050713763565560762521606266177933534601628614656:=by decide
  have e57:(256:Int)^57=186070713419675363980626894819329160794532188335953423432061490990243657757029868371504908982723472783555205531204141550984858016925351936:=by decide
  have e58:(256:Int)^58=47634102635436893179040485073748265163400240214004076398607741693502376385799646303105256699577209032590132615988260237052123652332890095616:=by decide
  have e59:(256:Int)^59=12194330274671844653834364178879555881830461494785043558043581873536608354764709453594945715091765512343073949692994620685343654997219864477696:=by decide
  have e60:(256:Int)^60=3121748550315992231381597229793166305748598142664971150859156959625371738819765620120306103063491971159826931121406622895447975679288285306290176:=by decide
  have e61:(256:Int)^61=799167628880894011233688890827050574271641124522232614619944181664095165137859998750798362384253944616915694367080095461234681773897801038410285056:=by decide
  have e62:(256:Int)^62=204586912993508866875824356051724947013540127877691549342705710506008362275292159680204380770369009821930417757972504438076078534117837065833032974336:=by decide
  have e63:(256:Int)^63=52374249726338269920211035149241586435466272736689036631732661889538140742474792878132321477214466514414186946040961136147476104734166288853256441430016:=by decide
  rw [e0,e1,e2,e3,e4,e5,e6,e7,e8,e9,e10,e11,e12,e13,e14,e15,e16,e17,e18,e19,e20,e21,e22,e23,e24,e25,e26,e27,e28,e29,e30,e31,e32,e33,e34,e35,e36,e37,e38,e39,e40,e41,e42,e43,e44,e45,e46,e47,e48,e49,e50,e51,e52,e53,e54,e55,e56,e57,e58,e59,e60,e61,e62,e63]
  unfold wval
  omega
theorem Z0sy {p:LI} (hp:Byt p) (hl:p.length=33) (hs:qV p 33<VL):Zm0 p=some (byt (qV p 33)):=by
  obtain ⟨n,hn⟩ : ∃ n,big=n+1+32:=⟨18446744073709551583,Z1t⟩
  obtain ⟨r,er,r1,r2⟩:=Z002 hp some 32 n 0 (replicate 32 0) (by omega) (by simp) (by
    intro j
    rw [if_neg (by omega)]
    simp only [List.getD]
    cases hi:(replicate 32 (0:Int))[j]? with
    | none=>rfl
    | some v=>simpa using (List.mem_replicate.1 (List.mem_of_getElem? hi)).2)
  rw [Zm0,Z13,hn]
  refine er.trans ?_
  congr 1
  have br:Byt r:=by
    intro j; rw [r2]; split
    · exact hp j
    · decide
  have hr:=Zh5 hp 32
  have h33:qV p 33=qV p 32+p.getD 32 0*(256:Int)^32:=Z8a p 32
  have e32:(256:Int)^32=115792089237316195423570985008687907853269984665640564039457584007913129639936:=by decide
  have hb:=hp 32
  rw [e32] at h33 hr
  have h0:qV p 33=qV p 32:=by
    unfold VL at hs
    omega
  have hv:Zgo r=qV p 33:=by
    rw [h0,<- Zys]
    exact Zkz 32 (fun i hi=>by rw [r2,if_pos hi])
  rw [<- hv,Ztl br r1]
theorem Z0iq {p:LI} (hp:Byt p) (l:p.length=32):Z8s p=some (decide (Zgo p<VL)):=by
  have e:tk p 0 32=p:=Zds l
  rw [Z8s,e,Z3 (Z0ep hp (by omega)),Z3 Zr8,Z3 (Z0eh hp Zjj (by omega) (by decide))]
  have e2:max p.length Zfv.length=32:=by rw [l]; rfl
  rw [e2,Zvy,Zys]
theorem Z07g {p:LI} (hp:Byt p) (l:p.length=64):Zde p=some (byt (wval p%VL)):=by
  have e:tk p 0 64=p:=Zds l
  obtain ⟨r,er,r1,r2,r3⟩:=mod6 hp (by omega)
  have h:=Z08m (qV p p.length)
  rw [Zde,e,Z3 (Z0ep hp (by omega)),Z3 er,Z3 (Z0sy r2 r1 (by rw [r3]; exact h.2)),r3,l,Z06u]
end Go.Proofs.YtiflckckekjbnaaGreatDoor
namespace Go.Proofs.YtiflckckekjbnaaGreatDoor
open Go Go.Sx Go.RowKit
open Go.IntKind (wrap)
set_option linter.all false
set_option maxRecDepth 100000
set_option maxHeartbeats 1000000
def beV (l:LI) (o:Nat):Int:=(((((((l.getD o 0*256+l.getD (o+1) 0)*256+l.getD (o+2) 0)*256+l.getD (o+3) 0)*256+l.getD (o+4) 0)*256+l.getD (o+5) 0)*256+l.getD (o+6) 0)*256+l.getD (o+7) 0)
theorem Z0jx {x b:Int} (hx:0<=x/\x<72057594037927936) (hb:0<=b/\b<256):Z4 .or .u64 (Zl .u64 x 8) b=x*256+b:=by
 have h:=Zg0 .u64 (x:=x) (n:=8) (by decide)
 have e:((2^8:Nat):Int)=256:=by decide
 rw [e,Zd (by omega) (by omega)] at h
 have h2:Zl .u64 x 8=x*256:=h
 rw [h2]
 exact Zu8 8 (a:=x) rfl hx.1 hb.1 hb.2 (by omega)
theorem Zxz (y:Bool×LI) (hy:y.2.length=8) (hb:Byt y.2):Z15 y (fun i49=>some (i49,(!y.1))) big 0 0=some (beV y.2 0,!y.1):=by
 obtain ⟨n,hn⟩ : ∃ n,big=n+1+1+1+1+1+1+1+1+1:=⟨18446744073709551607,Z1t⟩
 have step : ∀ (n i:Nat) (x:Int),i<8->(0<=x/\x<72057594037927936)->Z15 y (fun i49=>some (i49,(!y.1))) (n+1) x (i:Int)=Z15 y (fun i49=>some (i49,(!y.1))) n (x*256+y.2.getD i 0) ((i+1:Nat):Int):=by
  intro n i x hi hx
  have b:=hb i
  have e1:=Z3n (i:=i) (by omega)
  rw [Z15,Z3s,Z0g (decide_eq_true (by omega)),Zo (Z0i (by omega) (by omega))]
  simp only [Zb,e1,Int.toNat_natCast]
  rw [Zd b.1 (by omega),Z0jx hx b]
 have b0:=hb 0
 have b1:=hb 1
 have b2:=hb 2
 have b3:=hb 3
 have b4:=hb 4
 have b5:=hb 5
 have b6:=hb 6
 have b7:=hb 7
 rw [hn]
 have s0:=step (n+1+1+1+1+1+1+1+1) 0 0 (by decide) (by decide)
 have s1:=step (n+1+1+1+1+1+1+1) 1 (0*256+y.2.getD 0 0) (by decide) (by omega)
 have s2:=step (n+1+1+1+1+1+1) 2 ((0*256+y.2.getD 0 0)*256+y.2.getD 1 0) (by decide) (by omega)
 have s3:=step (n+1+1+1+1+1) 3 (((0*256+y.2.getD 0 0)*256+y.2.getD 1 0)*256+y.2.getD 2 0) (by decide) (by omega)
 have s4:=step (n+1+1+1+1) 4 ((((0*256+y.2.getD 0 0)*256+y.2.getD 1 0)*256+y.2.getD 2 0)*256+y.2.getD 3 0) (by decide) (by omega)
 have s5:=step (n+1+1+1) 5 (((((0*256+y.2.getD 0 0)*256+y.2.getD 1 0)*256+y.2.getD 2 0)*256+y.2.getD 3 0)*256+y.2.getD 4 0) (by decide) (by omega)
 have s6:=step (n+1+1) 6 ((((((0*256+y.2.getD 0 0)*256+y.2.getD 1 0)*256+y.2.getD 2 0)*256+y.2.getD 3 0)*256+y.2.getD 4 0)*256+y.2.getD 5 0) (by decide) (by omega)
 have s7:=step (n+1) 7 (((((((0*256+y.2.getD 0 0)*256+y.2.getD 1 0)*256+y.2.getD 2 0)*256+y.2.getD 3 0)*256+y.2.getD 4 0)*256+y.2.getD 5 0)*256+y.2.getD 6 0) (by decide) (by omega)
 refine s0.trans (s1.trans (s2.trans (s3.trans (s4.trans (s5.trans (s6.trans (s7.trans ?_)))))))
 rw [Z15,Z3s,Z08 (decide_eq_false (by rw [hy]; omega))]
 unfold beV
 simp only [Nat.zero_add]
 congr 2
 omega
theorem Z00d {l:LI} (hl:l.length=8) (hb:Byt l):Zlw l=some (beV l 0):=by
 obtain ⟨n,hn⟩ : ∃ n,big=n+1+1+1+1+1+1+1+1+1:=⟨18446744073709551607,Z1t⟩
 have step : ∀ (n i:Nat) (x:Int),i<8->(0<=x/\x<72057594037927936)->Z7k l some (n+1) x (i:Int)=Z7k l some n (x*256+l.getD i 0) ((i+1:Nat):Int):=by
  intro n i x hi hx
  have b:=hb i
  have e1:=Z3n (i:=i) (by omega)
  rw [Z7k,Zda,Z0g (decide_eq_true (by omega))]
  simp only [Zb,e1,Int.toNat_natCast]
  rw [Zo (Z0i (by omega) (by omega)),Zd (x:=x*256) (by omega) (by omega),Zd b.1 (by omega),Zd (by omega) (by omega)]
 have b0:=hb 0
 have b1:=hb 1
 have b2:=hb 2
 have b3:=hb 3
 have b4:=hb 4
 have b5:=hb 5
 have b6:=hb 6
 have b7:=hb 7
 rw [Zlw,Z13,hn]
 have s0:=step (n+1+1+1+1+1+1+1+1) 0 0 (by decide) (by decide)
 have s1:=step (n+1+1+1+1+1+1+1) 1 (0*256+l.getD 0 0) (by decide) (by omega)
 have s2:=step (n+1+1+1+1+1+1) 2 ((0*256+l.getD 0 0)*256+l.getD 1 0) (by decide) (by omega)
 have s3:=step (n+1+1+1+1+1) 3 (((0*256+l.getD 0 0)*256+l.getD 1 0)*256+l.getD 2 0) (by decide) (by omega)
 have s4:=step (n+1+1+1+1) 4 ((((0*256+l.getD 0 0)*256+l.getD 1 0)*256+l.getD 2 0)*256+l.getD 3 0) (by decide) (by omega)
 have s5:=step (n+1+1+1) 5 (((((0*256+l.getD 0 0)*256+l.getD 1 0)*256+l.getD 2 0)*256+l.getD 3 0)*256+l.getD 4 0) (by decide) (by omega)
 have s6:=step (n+1+1) 6 ((((((0*256+l.getD 0 0)*256+l.getD 1 0)*256+l.getD 2 0)*256+l.getD 3 0)*256+l.getD 4 0)*256+l.getD 5 0) (by decide) (by omega)
 have s7:=step (n+1) 7 (((((((0*256+l.getD 0 0)*256+l.getD 1 0)*256+l.getD 2 0)*256+l.getD 3 0)*256+l.getD 4 0)*256+l.getD 5 0)*256+l.getD 6 0) (by decide) (by omega)
 refine s0.trans (s1.trans (s2.trans (s3.trans (s4.trans (s5.trans (s6.trans (s7.trans ?_)))))))
 rw [Z7k,Zda,Z08 (by decide)]
 unfold beV
 simp only [Nat.zero_add]
 congr 1
 omega
theorem Z96 (p:LI) (o i:Nat) (hi:i<8):((p.drop o).take 8).getD i 0=p.getD (o+i) 0:=by
 simp [List.getD_eq_getElem?_getD,List.getElem?_take,hi,List.getElem?_drop]
theorem Ztp {p:LI} (h:Byt p) (o:Nat):Byt ((p.drop o).take 8):=by
 intro i
 by_cases hi:i<8
 ·rw [Z96 p o i hi]; exact h _
 ·rw [Ze0 (by rw [List.length_take]; omega)]; decide
theorem Zws (p:LI) (o:Nat):beV ((p.drop o).take 8) 0=beV p o:=by
 unfold beV
 simp only [Z96 _ _ _ (show 0<8 by decide),Z96 _ _ (0+1) (by decide),Z96 _ _ (0+2) (by decide),Z96 _ _ (0+3) (by decide),Z96 _ _ (0+4) (by decide),Z96 _ _ (0+5) (by decide),Z96 _ _ (0+6) (by decide),Z96 _ _ (0+7) (by decide),Nat.zero_add,Nat.add_zero]
theorem Z03f:Z3f=some 64:=by kernel_rfl
theorem Zxy {p:LI} (h:Byt p) (l:p.length=128) {t:Nat} (ht:t<16):Z52 p ((8*t:Nat):Int)=some (beV p (8*t),true):=by
 have e1:wrap .i64 (Int.tdiv 64 8)=8:=by decide
 have e2:wrap .i64 ((p.length:Int)-8)=120:=by rw [l]; decide
 have e3:wrap .i64 (((8*t:Nat):Int)+8)=((8*t+8:Nat):Int):=by rw [Zj (by omega) (by omega)]; omega
 have hlen:((p.drop (8*t)).take (8*t+8-8*t)).length=8:=by rw [List.length_take,List.length_drop,l]; omega
 have hp:Z4l p ((8*t:Nat):Int)=some (false,(p.drop (8*t)).take (8*t+8-8*t)):=by
  rw [Z4l,Z3 Z03f]
  simp only [Zb,e1,e2]
  rw [Z08 (by simp; omega)]
  simp only [e3,Int.toNat_natCast]
  rw [Zo (by simp [Z97]; omega),Zo (decide_eq_true (by rw [hlen]; decide))]
 have e8:8*t+8-8*t=8:=by omega
 rw [Z52,Z3 hp,Z13,e8]
 have:=Zxz (false,(p.drop (8*t)).take 8) (by rw [e8] at hlen; exact hlen) (Ztp h _)
 refine this.trans ?_
 rw [Zws]; rfl
theorem Z0j8 {p:LI} (l:p.length=128):tk p 0 128=p:=Zds l
def rot (x:Int) (n m:Int):Int:=Z4 .or .u64 (Zq .u64 x n) (Zl .u64 x m)
def sg0 (x:Int):Int:=Z4 .xor .u64 (Z4 .xor .u64 (rot x 1 63) (rot x 8 56)) (Zq .u64 x 7)
def sg1 (x:Int):Int:=Z4 .xor .u64 (Z4 .xor .u64 (rot x 19 45) (rot x 61 3)) (Zq .u64 x 6)
def bs1 (x:Int):Int:=Z4 .xor .u64 (Z4 .xor .u64 (rot x 14 50) (rot x 18 46)) (rot x 41 23)
def bs0 (x:Int):Int:=Z4 .xor .u64 (Z4 .xor .u64 (rot x 28 36) (rot x 34 30)) (rot x 39 25)
theorem Z0jz (x:Int):Za6 x 19 61 6=some (sg1 x):=by kernel_rfl
theorem Z0jy (x:Int):Za6 x 1 8 7=some (sg0 x):=by kernel_rfl
theorem mix1 (x:Int):Zbf x 14 18 41=some (bs1 x):=by kernel_rfl
theorem mix0 (x:Int):Zbf x 28 34 39=some (bs0 x):=by kernel_rfl
theorem Z0iz (x:Int):Z02a x=some (sg0 x):=by kernel_rfl
theorem Z0j0 (x:Int):Z02b x=some (sg1 x):=by kernel_rfl
def Zp0 (p l:LI) (n:Nat):Int:=if n<16 then beV p (8*n) else wrap .u64 (wrap .u64 (wrap .u64 (sg1 (l.getD (n-2) 0)+l.getD (n-7) 0)+sg0 (l.getD (n-15) 0))+l.getD (n-16) 0)
def wl (p:LI):Nat->LI
 | 0=>[]
 | n+1=>wl p n ++ [Zp0 p (wl p n) n]
theorem Zmo (p:LI) : ∀ n,(wl p n).length=n
 | 0=>rfl
 | n+1=>by show (wl p n ++ [_]).length=_; rw [List.length_append,Zmo p n]; rfl
theorem Z08a (p:LI) (n j:Nat) (h:j<n):(wl p (n+1)).getD j 0=(wl p n).getD j 0:=by
 show (wl p n ++ [_]).getD j 0=_
 simp [List.getD_eq_getElem?_getD,List.getElem?_append_left (show j<(wl p n).length by rw [Zmo]; exact h)]
theorem Z08b (p:LI) (n:Nat):(wl p (n+1)).getD n 0=Zp0 p (wl p n) n:=by
 show (wl p n ++ [_]).getD n 0=_
 have:=Zmo p n
 simp [List.getD_eq_getElem?_getD,this]
theorem Zal {i k:Nat} (h:k<=i) (hi:i<1000000):wrap .i64 ((i:Int)-(k:Int))=((i-k:Nat):Int):=by rw [Zj (by omega) (by omega)]; omega
theorem Zw4 {p:LI} (h:Byt p) (l:p.length=128) (k:LI->Option (LI)) (m:Nat) : ∀ (n i:Nat) (a:LI),i+m=80->a.length=80->(∀ j,j<i->a.getD j 0=(wl p i).getD j 0) ->
  ∃ c,Z2b p k (n+1+m) (i:Int) a=k c/\c.length=80/\(∀ j,j<80->c.getD j 0=(wl p 80).getD j 0):=by
 induction m with
 | zero =>
  intro n i a hi hl hj
  have e:i=80:=by omega
  subst e
  refine ⟨a,?_,hl,hj⟩
  rw [Nat.add_zero,Z2b,Z59,Z08 (by decide)]
 | succ m ih =>
  intro n i a hi hl hj
  have e1:=Z3n (i:=i) (by omega)
  have fin : ∀ z,z=Zp0 p (wl p i) i->∃ c,Z2b p k (n+1+m) ((i+1:Nat):Int) (Z2u a i z)=k c/\c.length=80/\(∀ j,j<80->c.getD j 0=(wl p 80).getD j 0):=by
   intro z hz
   refine ih n (i+1) (Z2u a i z) (by omega) (by rw [Z6b (by omega),hl]) ?_
   intro j hji
   rw [Z1h]
   by_cases hjj:j=i
   ·subst hjj; rw [if_pos rfl,Z08b,hz]
   ·rw [if_neg hjj,Z08a p i j (by omega)]; exact hj j (by omega)
  rw [<- Nat.add_assoc,Z2b,Z59,Z0g (decide_eq_true (by omega)),Z13]
  by_cases h16:i<16
  ·have e8:wrap .i64 (8*(i:Int))=((8*i:Nat):Int):=by rw [Zj (by omega) (by omega)]; omega
   rw [Z0g (decide_eq_true (by omega)),Zb,e8,Z0j8 l,Z3 (Zxy h l h16),Zo (Z0i (by omega) (by omega))]
   simp only [Zb,e1,Int.toNat_natCast]
   exact fin _ (by unfold Zp0; rw [if_pos h16])
  ·have m2:wrap .i64 ((i:Int)-2)=((i-2:Nat):Int):=Zal (k:=2) (by omega) (by omega)
   have m7:wrap .i64 ((i:Int)-7)=((i-7:Nat):Int):=Zal (k:=7) (by omega) (by omega)
   have m15:wrap .i64 ((i:Int)-15)=((i-15:Nat):Int):=Zal (k:=15) (by omega) (by omega)
   have m16:wrap .i64 ((i:Int)-16)=((i-16:Nat):Int):=Zal (k:=16) (by omega) (by omega)
   rw [Z08 (decide_eq_false (by omega))]
   simp only [Zb,m2,m7,m15,m16,e1,Int.toNat_natCast]
   rw [Zo (Z0i (by omega) (by omega)),Zo (Z0i (by omega) (by omega)),Zo (Z0i (by omega) (by omega)),Zo (Z0i (by omega) (by omega)),Z3 (Z0jz _),Z3 (Z0jy _),Zo (Z0i (by omega) (by omega))]
   exact fin _ (by
    unfold Zp0
    rw [if_neg h16,hj (i-2) (by omega),hj (i-7) (by omega),hj (i-15) (by omega),hj (i-16) (by omega)])
theorem Zot {a b:LI} {n:Nat} (ha:a.length=n) (hb:b.length=n) (h : ∀ j,j<n->a.getD j 0=b.getD j 0):a=b:=by
 apply List.ext_getElem
 ·rw [ha,hb]
 ·intro i h1 h2
  rw [<- Zoq h1,<- Zoq h2,h i (by omega)]
theorem Z02z {p:LI} (h:Byt p) (l:p.length=128):Z7e p=some (wl p 80):=by
 obtain ⟨n,hn⟩ : ∃ n,big=n+1+80:=⟨18446744073709551535,Z1t⟩
 obtain ⟨c,ec,c1,c2⟩:=Zw4 h l some 80 n 0 (List.replicate 80 0) (by omega) (by simp) (fun j hj=>by omega)
 rw [Z7e,Z13,hn]
 exact ec.trans (congrArg some (Zot c1 (Zmo p 80) c2))
theorem Ztb {p:LI} (h:Byt p) (l:p.length=128) (k:LI->Option (LI)) (m:Nat) : ∀ (n i:Nat),i+m=16->Z64 p k (n+1+m) (wl p i) (i:Int)=k (wl p 16):=by
 induction m with
 | zero =>
  intro n i hi
  have e:i=16:=by omega
  subst e
  rw [Nat.add_zero,Z64,Zbr,Z08 (by decide)]
 | succ m ih =>
  intro n i hi
  have e1:=Z3n (i:=i) (by omega)
  have e8:wrap .i64 (8*(i:Int))=((8*i:Nat):Int):=by rw [Zj (by omega) (by omega)]; omega
  have e9:wrap .i64 (((8*i:Nat):Int)+8)=((8*i+8:Nat):Int):=by rw [Zj (by omega) (by omega)]; omega
  have e10:8*i+8-8*i=8:=by omega
  have hlen:((p.drop (8*i)).take 8).length=8:=by rw [List.length_take,List.length_drop,l]; omega
  have hw:=Zmo p i
  rw [<- Nat.add_assoc,Z64,Zbr,Z0g (decide_eq_true (by omega))]
  simp only [Zb,e8,e9,e1,Int.toNat_natCast,e10]
  rw [Zo (by simp [Z97]; omega),Z3 (Z00d hlen (Ztp h _)),Zo (decide_eq_true (by simp only [List.length_singleton]; omega)),Zws]
  have e:wl p i ++ [beV p (8*i)]=wl p (i+1):=by
   show _=wl p i ++ [Zp0 p (wl p i) i]
   unfold Zp0
   rw [if_pos (by omega)]
  rw [e]
  exact ih n (i+1) (by omega)
theorem Ztc {p:LI} (k:LI->Option (LI)) (m:Nat) : ∀ (n i:Nat),i+m=80->16<=i->Z65 k (n+1+m) (wl p i) (i:Int)=k (wl p 80):=by
 induction m with
 | zero =>
  intro n i hi h16
  have e:i=80:=by omega
  subst e
  rw [Nat.add_zero,Z65,Zbs,Z08 (by decide)]
 | succ m ih =>
  intro n i hi h16
  have e1:=Z3n (i:=i) (by omega)
  have hw:=Zmo p i
  have m2:wrap .i64 ((i:Int)-2)=((i-2:Nat):Int):=Zal (k:=2) (by omega) (by omega)
  have m7:wrap .i64 ((i:Int)-7)=((i-7:Nat):Int):=Zal (k:=7) (by omega) (by omega)
  have m15:wrap .i64 ((i:Int)-15)=((i-15:Nat):Int):=Zal (k:=15) (by omega) (by omega)
  have m16:wrap .i64 ((i:Int)-16)=((i-16:Nat):Int):=Zal (k:=16) (by omega) (by omega)
  rw [<- Nat.add_assoc,Z65,Zbs,Z0g (decide_eq_true (by omega))]
  simp only [Zb,m2,m7,m15,m16,e1,Int.toNat_natCast]
  rw [Zo (Z0i (by omega) (by omega)),Zo (Z0i (by omega) (by omega)),Zo (Z0i (by omega) (by omega)),Zo (Z0i (by omega) (by omega)),Z3 (Z0j0 _),Z3 (Z0iz _),Zo (decide_eq_true (by simp only [List.length_singleton]; omega))]
  have e:wl p i ++ [wrap .u64 (wrap .u64 (wrap .u64 (sg1 ((wl p i).getD (i-2) 0)+(wl p i).getD (i-7) 0)+sg0 ((wl p i).getD (i-15) 0))+(wl p i).getD (i-16) 0)]=wl p (i+1):=by
   show _=wl p i ++ [Zp0 p (wl p i) i]
   unfold Zp0
   rw [if_neg (by omega)]
  rw [e]
  exact ih n (i+1) (by omega) (by omega)
theorem Z00e {p:LI} (k:LI->Option (LI)):Z65 k big (wl p 16) 16=k (wl p 80):=by
 obtain ⟨n,hn⟩ : ∃ n,big=n+1+64:=⟨18446744073709551551,Z1t⟩
 rw [hn]
 exact Ztc k 64 n 16 (by omega) (by omega)
theorem Zzj {p:LI} (h:Byt p) (l:p.length=128):Zi7 p=some (wl p 80):=by
 have key : ∀ k:LI->Option (LI),Z64 p k big [] 0=k (wl p 16):=by
  intro k
  obtain ⟨n,hn⟩ : ∃ n,big=n+1+16:=⟨18446744073709551599,Z1t⟩
  rw [hn]
  exact Ztb h l k 16 n 0 (by omega)
 rw [Zi7,Z13,key,Z13,Z00e]
def rnd (s:LI) (k w:Int):LI :=
 let x:=wrap .u64 (wrap .u64 (wrap .u64 (wrap .u64 (s.getD 7 0+bs1 (s.getD 4 0))+Z4 .xor .u64 (Z4 .and .u64 (s.getD 4 0) (s.getD 5 0)) (Z4 .and .u64 (Z4 .xor .u64 18446744073709551615 (s.getD 4 0)) (s.getD 6 0)))+k)+w)
 let y:=wrap .u64 (bs0 (s.getD 0 0)+Z4 .xor .u64 (Z4 .xor .u64 (Z4 .and .u64 (s.getD 0 0) (s.getD 1 0)) (Z4 .and .u64 (s.getD 0 0) (s.getD 2 0))) (Z4 .and .u64 (s.getD 1 0) (s.getD 2 0)))
 [wrap .u64 (x+y),s.getD 0 0,s.getD 1 0,s.getD 2 0,wrap .u64 (s.getD 3 0+x),s.getD 4 0,s.getD 5 0,s.getD 6 0]
def Zh6 (w s:LI):Nat->LI
 | 0=>s
 | n+1=>rnd (Zh6 w s n) (G_table.getD n 0) (w.getD n 0)
theorem Zze (s:LI) (k w:Int):Zky s k w=some (rnd s k w):=by kernel_rfl
theorem Z001:G_rtable=G_table:=by kernel_rfl
theorem Zxi:G_rfirst=G_first:=by kernel_rfl
theorem Z0j1 {w:LI} (hw:w.length=80) (s:LI) (k:LI->Option (LI)) (m:Nat) : ∀ (n i:Nat),i+m=80->Z7j w k (n+1+m) (i:Int) (Zh6 w s i)=k (Zh6 w s 80):=by
 induction m with
 | zero =>
  intro n i hi
  have e:i=80:=by omega
  subst e
  rw [Nat.add_zero,Z7j,Zd8,Z08 (by decide)]
 | succ m ih =>
  intro n i hi
  have e1:=Z3n (i:=i) (by omega)
  rw [<- Nat.add_assoc,Z7j,Zd8,Z0g (decide_eq_true (by omega)),Zo (Z0i (by omega) (by omega)),Zo (Z0i (by omega) (by omega))]
  simp only [Zb,e1,Int.toNat_natCast]
  rw [Z3 (Zze _ _ _),Z001]
  exact ih n (i+1) (by omega)
theorem Z0ez {w:LI} (s:LI) (k:Int->Int->Int->Int->Int->Int->Int->Int->Option (LI)) (m:Nat) : ∀ (n i:Nat),i+m=80 ->
  Z33 w k (n+1+m) ((Zh6 w s i).getD 0 0) ((Zh6 w s i).getD 1 0) ((Zh6 w s i).getD 2 0) ((Zh6 w s i).getD 3 0) ((Zh6 w s i).getD 4 0) ((Zh6 w s i).getD 5 0) ((Zh6 w s i).getD 6 0) ((Zh6 w s i).getD 7 0) (i:Int) =
  k ((Zh6 w s 80).getD 0 0) ((Zh6 w s 80).getD 1 0) ((Zh6 w s 80).getD 2 0) ((Zh6 w s 80).getD 3 0) ((Zh6 w s 80).getD 4 0) ((Zh6 w s 80).getD 5 0) ((Zh6 w s 80).getD 6 0) ((Zh6 w s 80).getD 7 0):=by
 induction m with
 | zero =>
  intro n i hi
  have e:i=80:=by omega
  subst e
  rw [Nat.add_zero,Z33,Z7d,Z08 (by decide)]
 | succ m ih =>
  intro n i hi
  have e1:=Z3n (i:=i) (by omega)
  rw [<- Nat.add_assoc,Z33,Z7d,Z0g (decide_eq_true (by omega)),Zo (Z0i (by omega) (by omega))]
  simp only [Zb,e1,Int.toNat_natCast]
  rw [Z3 (mix1 _),Zo (Z0i (by omega) (by omega)),Z3 (mix0 _)]
  exact ih n (i+1) (by omega)
def blk (s p:LI):LI :=
 let v:=Zh6 (wl p 80) s 80
 [wrap .u64 (v.getD 0 0+s.getD 0 0),wrap .u64 (v.getD 1 0+s.getD 1 0),wrap .u64 (v.getD 2 0+s.getD 2 0),wrap .u64 (v.getD 3 0+s.getD 3 0),wrap .u64 (v.getD 4 0+s.getD 4 0),wrap .u64 (v.getD 5 0+s.getD 5 0),wrap .u64 (v.getD 6 0+s.getD 6 0),wrap .u64 (v.getD 7 0+s.getD 7 0)]
theorem Z023 (k:LI->Option (LI)) (v s0 s1 s2 s3 s4 s5 s6 s7:Int) (a0 a1 a2 a3 a4 a5 a6 a7:Int):Z5u [a0,a1,a2,a3,a4,a5,a6,a7] k big 0 [s0,s1,s2,s3,s4,s5,s6,s7]=k [wrap .u64 (s0+a0),wrap .u64 (s1+a1),wrap .u64 (s2+a2),wrap .u64 (s3+a3),wrap .u64 (s4+a4),wrap .u64 (s5+a5),wrap .u64 (s6+a6),wrap .u64 (s7+a7)]:=by kernel_rfl
theorem Zz1 (k:LI->Option (LI)) (s:LI) (a0 a1 a2 a3 a4 a5 a6 a7:Int):Zbc s k big 0 [a0,a1,a2,a3,a4,a5,a6,a7]=k [wrap .u64 (a0+s.getD 0 0),wrap .u64 (a1+s.getD 1 0),wrap .u64 (a2+s.getD 2 0),wrap .u64 (a3+s.getD 3 0),wrap .u64 (a4+s.getD 4 0),wrap .u64 (a5+s.getD 5 0),wrap .u64 (a6+s.getD 6 0),wrap .u64 (a7+s.getD 7 0)]:=by kernel_rfl
theorem Znl {l:LI} (h:l.length=8):l = [l.getD 0 0,l.getD 1 0,l.getD 2 0,l.getD 3 0,l.getD 4 0,l.getD 5 0,l.getD 6 0,l.getD 7 0]:=by
 match l,h with
 | [a0,a1,a2,a3,a4,a5,a6,a7],_=>rfl
theorem Z02t (w s:LI) (hs:s.length=8) : ∀ n,(Zh6 w s n).length=8
 | 0=>hs
 | n+1=>rfl
theorem Z00w {s p:LI} (hs:s.length=8) (h:Byt p) (l:p.length=128):Z8y s p=some (blk s p):=by
 have key : ∀ k,Z33 (wl p 80) k big (s.getD 0 0) (s.getD 1 0) (s.getD 2 0) (s.getD 3 0) (s.getD 4 0) (s.getD 5 0) (s.getD 6 0) (s.getD 7 0) 0=k ((Zh6 (wl p 80) s 80).getD 0 0) ((Zh6 (wl p 80) s 80).getD 1 0) ((Zh6 (wl p 80) s 80).getD 2 0) ((Zh6 (wl p 80) s 80).getD 3 0) ((Zh6 (wl p 80) s 80).getD 4 0) ((Zh6 (wl p 80) s 80).getD 5 0) ((Zh6 (wl p 80) s 80).getD 6 0) ((Zh6 (wl p 80) s 80).getD 7 0):=by
  intro k
  obtain ⟨n,hn⟩ : ∃ n,big=n+1+80:=⟨18446744073709551535,Z1t⟩
  rw [hn]
  exact Z0ez s k 80 n 0 (by omega)
 rw [Z8y,Z3 (Z02z h l)]
 simp only [Zb,Z13]
 rw [key]
 unfold blk
 dsimp only
 generalize Zh6 (wl p 80) s 80=v at *
 have e:=Z023 some 0 (s.getD 0 0) (s.getD 1 0) (s.getD 2 0) (s.getD 3 0) (s.getD 4 0) (s.getD 5 0) (s.getD 6 0) (s.getD 7 0) (v.getD 0 0) (v.getD 1 0) (v.getD 2 0) (v.getD 3 0) (v.getD 4 0) (v.getD 5 0) (v.getD 6 0) (v.getD 7 0)
 rw [<- Znl hs] at e
 refine e.trans ?_
 rw [Int.add_comm (s.getD 0 0),Int.add_comm (s.getD 1 0),Int.add_comm (s.getD 2 0),Int.add_comm (s.getD 3 0),Int.add_comm (s.getD 4 0),Int.add_comm (s.getD 5 0),Int.add_comm (s.getD 6 0),Int.add_comm (s.getD 7 0)]
theorem Z07z {s p:LI} (hs:s.length=8) (h:Byt p) (l:p.length=128):Zlv s p=some (blk s p):=by
 have key : ∀ k,Z7j (wl p 80) k big 0 s=k (Zh6 (wl p 80) s 80):=by
  intro k
  obtain ⟨n,hn⟩ : ∃ n,big=n+1+80:=⟨18446744073709551535,Z1t⟩
  rw [hn]
  exact Z0j1 (Zmo p 80) s k 80 n 0 (by omega)
 have hv:=Z02t (wl p 80) s hs 80
 rw [Zlv,Z3 (Zzj h l)]
 simp only [Z13]
 rw [key]
 unfold blk
 dsimp only
 generalize Zh6 (wl p 80) s 80=v at *
 have e:=Zz1 some s (v.getD 0 0) (v.getD 1 0) (v.getD 2 0) (v.getD 3 0) (v.getD 4 0) (v.getD 5 0) (v.getD 6 0) (v.getD 7 0)
 rw [<- Znl hv] at e
 exact e
end Go.Proofs.YtiflckckekjbnaaGreatDoor
namespace Go.Proofs.YtiflckckekjbnaaGreatDoor
open Go Go.Sx Go.RowKit
open List (replicate)
open Go.IntKind (wrap)
set_option linter.all false
set_option maxRecDepth 100000
set_option maxHeartbeats 1000000
theorem Zl8 {M x:LI} {i:Nat} (h:i<M.length):(M++x).getD i 0=M.getD i 0:=by simp [List.getD_eq_getElem?_getD,List.getElem?_append_left h]
theorem Zpt {M x:LI} {i:Nat} (h:M.length<=i):(M++x).getD i 0=x.getD (i-M.length) 0:=by simp [List.getD_eq_getElem?_getD,List.getElem?_append_right h]
theorem Zeu {M x:LI} (h:Byt M) (hx:Byt x):Byt (M++x):=by
  intro i
  by_cases hi:i<M.length
  · rw [Zl8 hi]; exact h i
  · rw [Zpt (by omega)]; exact hx _
theorem Zrl {l:LI} {q i:Nat} (h:i<q):(l.take q).getD i 0=l.getD i 0:=by simp [List.getD_eq_getElem?_getD,List.getElem?_take,h]
theorem Zq1 {l:LI} {q i:Nat}:(l.drop q).getD i 0=l.getD (q+i) 0:=by simp [List.getD_eq_getElem?_getD,List.getElem?_drop]
theorem Zo8 {l:LI} (h:Byt l) (q:Nat):Byt (l.take q):=by
  intro i
  by_cases hi:i<q
  · rw [Zrl hi]; exact h i
  · rw [Ze0 (by rw [List.length_take]; omega)]; decide
theorem Zo7 {l:LI} (h:Byt l) (q:Nat):Byt (l.drop q):=by
  intro i
  rw [Zq1]; exact h _
def bk (M:LI) (n:Nat):LI:=(M.drop (128*n)).take 128
theorem Ztj {M:LI} {n:Nat} (h:128*n+128<=M.length):(bk M n).length=128:=by unfold bk; rw [List.length_take,List.length_drop]; omega
theorem Zs2 {M:LI} {n i:Nat} (hi:i<128):(bk M n).getD i 0=M.getD (128*n+i) 0:=by unfold bk; rw [Zrl hi,Zq1]
theorem Z08s {M:LI} (h:Byt M) (n:Nat):Byt (bk M n):=Zo8 (Zo7 h _) _
theorem Z08r {M x:LI} {n:Nat} (h:128*n+128<=M.length):bk (M++x) n=bk M n :=
  Zot (n:=128) (Ztj (by rw [List.length_append]; omega)) (Ztj h) (fun j hj=>by rw [Zs2 hj,Zs2 hj,Zl8 (by omega)])
def fbn (M:LI):Nat->LI
  | 0=>G_first
  | n+1=>blk (fbn M n) (bk M n)
theorem Zxd (M:LI) : ∀ n,(fbn M n).length=8
  | 0=>by show G_first.length=8; decide
  | n+1=>rfl
theorem Zsa {M x:LI} : ∀ n,128*n<=M.length->fbn (M++x) n=fbn M n
  | 0,_=>rfl
  | n+1,h=>by
    show blk (fbn (M++x) n) (bk (M++x) n)=blk (fbn M n) (bk M n)
    rw [Zsa n (by omega),Z08r (by omega)]
structure Dst (M:LI) (a h:LI) (c:Int):Prop where
  st:a=fbn M (M.length / 128)
  hv:c=((M.length%128:Nat):Int)
  hl:h.length=128
  hd : ∀ i,i<M.length%128->h.getD i 0=M.getD (128*(M.length / 128)+i) 0
  hb:Byt h
theorem Z0jg {xs ys:LI} {i:Nat} (h:i+ys.length<=xs.length):(wr xs i ys).length=xs.length:=by
  unfold wr
  rw [List.length_append,List.length_append,Z0x,List.length_drop]; omega
theorem Z0jf {xs ys:LI} {i:Nat} (hx:Byt xs) (hy:Byt ys):Byt (wr xs i ys):=by
  intro j
  rw [Zmp]
  split
  · exact hy _
  · exact hx _
theorem Z00h (z:Int) (m:Nat) : ∀ (l a h:LI) (c:Int) (M:LI),l.length<=m->Byt l->Byt M->Dst M a h c->∀ n,∃ r,Z07 z (n+1+m) l a h c=some r/\r.glength=z/\Dst (M++l) r.gstate r.gheld r.ghave:=by
  induction m with
  | zero =>
    intro l a h c M hl hbl hbM hD n
    have e:l = []:=List.length_eq_zero_iff.1 (by omega)
    subst e
    refine ⟨⟨a,h,c,z⟩,?_,rfl,by rw [List.append_nil]; exact hD⟩
    rw [Nat.add_zero,Z07,Z1c,Z08 (decide_eq_false (by simp))]
  | succ m ih =>
    intro l a h c M hl hbl hbM hD n
    by_cases he:l.length=0
    · have e:l = []:=List.length_eq_zero_iff.1 he
      subst e
      refine ⟨⟨a,h,c,z⟩,?_,rfl,by rw [List.append_nil]; exact hD⟩
      rw [<- Nat.add_assoc,Z07,Z1c,Z08 (decide_eq_false (by simp))]
    · have hr:=Nat.mod_lt M.length (show 0<128 by decide)
      have hdm:=Nat.div_add_mod M.length 128
      have hc:=hD.hv
      have hcn:c.toNat=M.length%128:=by rw [hc,Int.toNat_natCast]
      obtain ⟨q,hq⟩ : ∃ q,q=Nat.min l.length (128-c.toNat):=⟨_,rfl⟩
      have hq1:0<q/\q<=l.length/\q<=128-M.length%128/\(q=l.length∨q=128-M.length%128):=by
        rw [hq,hcn]
        show 0<min l.length (128-M.length%128)/\min l.length (128-M.length%128)<=l.length/\min l.length (128-M.length%128)<=128-M.length%128/\(min l.length (128-M.length%128)=l.length∨min l.length (128-M.length%128)=128-M.length%128)
        omega
      have htake:l.take (128-c.toNat)=l.take q:=by
        rw [hq]
        rcases Nat.le_total l.length (128-c.toNat) with h1 | h1
        · rw [List.take_of_length_le h1,List.take_of_length_le (by show l.length<=min l.length (128-c.toNat); omega)]
        · congr 1; show _=min l.length (128-c.toNat); omega
      have hrest:(l.drop ((q:Int)).toNat).take (((l.length:Int)).toNat-((q:Int)).toNat)=l.drop q:=by
        rw [Int.toNat_natCast,Int.toNat_natCast,List.take_of_length_le (by rw [List.length_drop]; omega)]
      have hM:M++l=(M++l.take q)++l.drop q:=by rw [List.append_assoc,List.take_append_drop]
      have hlq:(l.take q).length=q:=by rw [List.length_take]; omega
      have hl1:(M++l.take q).length=M.length+q:=by rw [List.length_append,hlq]
      have hwl:(wr h c.toNat (l.take q)).length=128:=by rw [Z0jg (by rw [hlq,hD.hl,hcn]; omega),hD.hl]
      have hwb:Byt (wr h c.toNat (l.take q)):=Z0jf hD.hb (Zo8 hbl _)
      have hwd : ∀ i,i<M.length%128+q->(wr h c.toNat (l.take q)).getD i 0=(M++l.take q).getD (128*(M.length / 128)+i) 0:=by
        intro i hi
        rw [Zmp,hlq,hcn]
        by_cases h1:M.length%128<=i/\i<M.length%128+q
        · rw [if_pos h1,Zpt (by omega)]
          congr 1; omega
        · rw [if_neg h1,hD.hd i (by omega),Zl8 (by omega)]
      have ew:wrap .i64 (c+(q:Int))=c+(q:Int):=Zj (by omega) (by omega)
      have hbM1:Byt (M++l.take q):=Zeu hbM (Zo8 hbl _)
      rw [<- Nat.add_assoc,Z07,Z1c,Z0g (decide_eq_true (by omega)),Zo (by simp [Z97]; omega),Zb,<- hq,Zo (by simp [Z97]; omega),Zb,ew,htake,hrest]
      by_cases h128:c+(q:Int)=128
      · have hblock:wr h c.toNat (l.take q)=bk (M++l.take q) (M.length / 128) :=
          Zot hwl (Ztj (by rw [hl1]; omega)) (fun j hj=>by rw [hwd j (by omega),Zs2 hj])
        have ha8:a.length=8:=by rw [hD.st]; exact Zxd _ _
        rw [Z0g (by simpa using h128),Z3 (Z00w ha8 hwb hwl)]
        have hdiv:(M.length+q) / 128=M.length / 128+1:=by omega
        have hmod:(M.length+q)%128=0:=by omega
        have hD2:Dst (M++l.take q) (blk a (wr h c.toNat (l.take q))) (wr h c.toNat (l.take q)) 0:=by
          refine ⟨?_,?_,hwl,?_,hwb⟩
          · rw [hl1,hdiv,hblock,hD.st]
            show _=blk (fbn (M++l.take q) (M.length / 128)) _
            rw [Zsa _ (by omega)]
          · rw [hl1,hmod]; rfl
          · intro i hi
            rw [hl1,hmod] at hi
            omega
        obtain ⟨r,er,h1,h2⟩:=ih (l.drop q) _ _ 0 (M++l.take q) (by rw [List.length_drop]; omega) (Zo7 hbl _) hbM1 hD2 n
        exact ⟨r,er,h1,by rw [hM]; exact h2⟩
      · rw [Z08 (by simpa using h128)]
        have hdiv:(M.length+q) / 128=M.length / 128:=by omega
        have hmod:(M.length+q)%128=M.length%128+q:=by omega
        have hD2:Dst (M++l.take q) a (wr h c.toNat (l.take q)) (c+(q:Int)):=by
          refine ⟨?_,?_,hwl,?_,hwb⟩
          · rw [hl1,hdiv,Zsa _ (by omega)]; exact hD.st
          · rw [hl1,hmod,hc]; omega
          · intro i hi
            rw [hl1,hmod] at hi
            rw [hl1,hdiv]
            exact hwd i hi
        obtain ⟨r,er,h1,h2⟩:=ih (l.drop q) _ _ _ (M++l.take q) (by rw [List.length_drop]; omega) (Zo7 hbl _) hbM1 hD2 n
        exact ⟨r,er,h1,by rw [hM]; exact h2⟩
theorem Zrr {d:Zu} {M l:LI} (hl:l.length<18446744073709551615) (hbl:Byt l) (hbM:Byt M) (hD:Dst M d.gstate d.gheld d.ghave) : ∃ r,Z1r d l=some r/\r.glength=wrap .u64 (d.glength+wrap .u64 (l.length:Int))/\Dst (M++l) r.gstate r.gheld r.ghave:=by
  obtain ⟨n,hn⟩ : ∃ n',big=n'+1+l.length:=⟨18446744073709551615-l.length,by have:big=18446744073709551616:=Z1t; omega⟩
  rw [Z1r,Zb,Zb,hn]
  exact Z00h _ l.length l d.gstate d.gheld d.ghave M (Nat.le_refl _) hbl hbM hD n
theorem Dst.start:Dst [] G_first (replicate 128 0) 0:=⟨rfl,rfl,by simp,fun i hi=>by simp at hi,Zrv _⟩
def Zi4 (x:Int):Nat:=((128-(x+17)%128)%128).toNat
def padL (x:Int):LI:=(([128]++replicate (Zi4 x) 0)++be8 (Zq .u64 x 61))++be8 (Zl .u64 x 3)
theorem Zl9 (x:Int):(be8 x).length=8:=rfl
theorem Zp2 (x:Int):(padL x).length=17+Zi4 x:=by
  unfold padL
  simp [Zl9]
  omega
theorem Zwq (x:Int):Byt (be8 x):=byt_of (Zwr x)
theorem Zua (x:Int):Byt (padL x):=Zeu (Zeu (Zeu (byt_of (by decide)) (Zrv _)) (Zwq _)) (Zwq _)
theorem Z06n {x:Int} (h0:0<=x) (h1:x<18446744073709551616):Z7m x=some (padL x):=by
  have hz:wrap .u64 (x+17)%128=(x+17)%128:=by rw [Zed]; omega
  have hz3:=Zt8 (x+17)
  have et:Int.tmod (wrap .u64 (x+17)) 128=(x+17)%128:=by rw [Int.tmod_eq_emod_of_nonneg hz3.1,hz]
  have ew:wrap .i64 ((x+17)%128)=(x+17)%128:=Zj (by omega) (by omega)
  have ew2:wrap .i64 (128-(x+17)%128)=128-(x+17)%128:=Zj (by omega) (by omega)
  have et2:Int.tmod (128-(x+17)%128) 128=(128-(x+17)%128)%128:=Int.tmod_eq_emod_of_nonneg (by omega)
  have ew3:wrap .i64 (17+(128-(x+17)%128)%128)=17+(128-(x+17)%128)%128:=Zj (by omega) (by omega)
  simp only [Z7m,Zb,et,ew,ew2,et2,ew3]
  have hp:((128-(x+17)%128)%128).toNat=Zi4 x:=rfl
  rw [hp]
  have hpz:Zi4 x<128:=by unfold Zi4; omega
  rw [Zo (by unfold mkB; simp only [Bool.and_eq_true,decide_eq_true_eq]; omega),Zo (by simp),Zo (by simp; omega),Zo (by simp; omega),Z3 (Zo2 _),Zo (by simp [Zl9]; omega),Z3 (Zo2 _),Zo (by simp [Zl9]; omega)]
  rfl
theorem Z0j2 (x:Int):Zhf x=some [wrap .u8 (Zq .u64 x 56),wrap .u8 (Zq .u64 x 48),wrap .u8 (Zq .u64 x 40),wrap .u8 (Zq .u64 x 32),wrap .u8 (Zq .u64 x 24),wrap .u8 (Zq .u64 x 16),wrap .u8 (Zq .u64 x 8),wrap .u8 (Zq .u64 x 0)]:=by kernel_rfl
theorem shrl (x:Int) (n:Nat) (h:n<=64):Zq .u64 x (n:Int)=x / ((2^n:Nat):Int):=Z9p .u64 h
theorem Zpj (x:Int):Zhf x=some (be8 x):=by
  rw [Z0j2]
  have e56:Zq .u64 x 56=x / 72057594037927936:=shrl x 56 (by decide)
  have e48:Zq .u64 x 48=x / 281474976710656:=shrl x 48 (by decide)
  have e40:Zq .u64 x 40=x / 1099511627776:=shrl x 40 (by decide)
  have e32:Zq .u64 x 32=x / 4294967296:=shrl x 32 (by decide)
  have e24:Zq .u64 x 24=x / 16777216:=shrl x 24 (by decide)
  have e16:Zq .u64 x 16=x / 65536:=shrl x 16 (by decide)
  have e0:Zq .u64 x 0=x:=by
    have:Zq .u64 x 0=x / 1:=shrl x 0 (by decide)
    rw [this,Int.ediv_one]
  unfold be8
  simp only [Z2n,e56,e48,e40,e32,e24,e16,e0]
  congr 1
  simp only [List.cons.injEq,and_true,true_and]
  refine ⟨?_,?_,?_,?_,?_,?_⟩ <;> (congr 1; omega)
theorem Zza (x:Int) (k:LI->Option (LI)) (hx:0<=x) (m:Nat) : ∀ (n t:Nat),t+m=Zi4 x->Zao (x%128) k (n+1+m) ([128]++replicate t 0)=k ([128]++replicate (Zi4 x) 0):=by
  have hz:Zi4 x<128:=by unfold Zi4; omega
  induction m with
  | zero =>
    intro n t ht
    have e:t=Zi4 x:=by omega
    subst e
    have el:((([128]++replicate (Zi4 x) 0:LI).length:Nat):Int)=1+(Zi4 x:Int):=by simp; omega
    have w1:wrap .i64 (x%128+(1+(Zi4 x:Int)))=x%128+(1+(Zi4 x:Int)):=Zj (by omega) (by omega)
    have w2:wrap .i64 (x%128+(1+(Zi4 x:Int))+16)=x%128+(1+(Zi4 x:Int))+16:=Zj (by omega) (by omega)
    have w3:Int.tmod (x%128+(1+(Zi4 x:Int))+16) 128=0:=by
      rw [Int.tmod_eq_emod_of_nonneg (by omega)]
      unfold Zi4
      omega
    rw [Nat.add_zero,Zao,Zfb]
    simp only [Zb,el,w1,w2,w3]
    rw [Z08 (by decide)]
  | succ m ih =>
    intro n t ht
    have el:((([128]++replicate t 0:LI).length:Nat):Int)=1+(t:Int):=by simp; omega
    have w1:wrap .i64 (x%128+(1+(t:Int)))=x%128+(1+(t:Int)):=Zj (by omega) (by omega)
    have w2:wrap .i64 (x%128+(1+(t:Int))+16)=x%128+(1+(t:Int))+16:=Zj (by omega) (by omega)
    have w3:Int.tmod (x%128+(1+(t:Int))+16) 128≠0:=by
      rw [Int.tmod_eq_emod_of_nonneg (by omega)]
      unfold Zi4 at ht
      omega
    have ea:([128]++replicate t 0:LI) ++ [0] = [128]++replicate (t+1) 0:=by
      rw [List.append_assoc,List.replicate_succ']
    rw [<- Nat.add_assoc,Zao,Zfb]
    simp only [Zb,el,w1,w2]
    rw [Z0g (by simpa using w3),Zo (by simp; omega),ea]
    exact ih n (t+1) (by omega)
theorem Z02w {x:Int} (h0:0<=x) (h1:x<18446744073709551616):Zqm x=some (padL x):=by
  have hz:Zi4 x<128:=by unfold Zi4; omega
  obtain ⟨n,hn⟩ : ∃ n',big=n'+1+Zi4 x:=⟨18446744073709551615-Zi4 x,by have:big=18446744073709551616:=Z1t; omega⟩
  have e1:Int.tmod x 128=x%128:=Int.tmod_eq_emod_of_nonneg h0
  have e2:wrap .i64 (x%128)=x%128:=Zj (by omega) (by omega)
  have e3:wrap .u64 (Int.tdiv x 2305843009213693952)=Zq .u64 x 61:=by
    have:Zq .u64 x 61=x / 2305843009213693952:=shrl x 61 (by decide)
    rw [this,Int.tdiv_eq_ediv_of_nonneg h0,Zd (by omega) (by omega)]
  have e4:wrap .u64 (x*8)=Zl .u64 x 3:=(Zg0 .u64 (x:=x) (n:=3) (by decide)).symm
  rw [Zqm]
  simp only [Zb,e1,e2,e3,e4,Z13]
  rw [hn]
  refine (Zza x _ h0 (Zi4 x) n 0 (by omega)).trans ?_
  rw [Z3 (Zpj _),Zo (by simp [Zl9]; omega),Z3 (Zpj _),Zo (by simp [Zl9]; omega)]
  rfl
def Zgv (M:LI):LI:=M++padL (M.length:Int)
def Zor (M:LI):LI:=told (fbn (Zgv M) ((Zgv M).length / 128))
theorem Z00c (M:LI):(Zgv M).length%128=0:=by
  unfold Zgv padL
  rw [List.length_append]
  have:=Zp2 (M.length:Int)
  unfold padL at this
  rw [this]
  unfold Zi4
  omega
theorem Zq7 (M:LI):Byt (Zor M):=Z03c _
theorem Zxl (M:LI):(Zor M).length=64:=rfl
theorem Z084 {d:Zu} {M:LI} (hM:M.length<9223372036854775808) (hb:Byt M) (hD:Dst M d.gstate d.gheld d.ghave) (hl:d.glength=(M.length:Int)):Z2v d=some (Zor M,d):=by
  obtain ⟨r,er,_,hr⟩:=Zrr (d:=d) (l:=padL d.glength) (by rw [Zp2]; unfold Zi4; omega) (Zua _) hb hD
  rw [Z2v,Z4s,Z3 rfl]
  show opt (Z7m d.glength) _=_
  rw [Z3 (Z06n (by omega) (by omega))]
  show opt (Z1r d (padL d.glength)) _=_
  rw [Z3 er,Z13,Z036]
  have e:r.gstate=fbn (Zgv M) ((Zgv M).length / 128):=by
    have:=hr.st
    rw [hl] at this
    exact this
  rw [e]
  rfl
theorem Zzf {L:LI} (hb:Byt L) (h128:L.length%128=0) (hL:L.length<9223372036854775000) (k:LI->Option (LI)) (m:Nat) : ∀ (n j:Nat),128*(j+m)=L.length->Z7u L k (n+1+m) ((128*j:Nat):Int) (fbn L j)=k (fbn L (L.length / 128)):=by
  induction m with
  | zero =>
    intro n j hj
    have e:j=L.length / 128:=by omega
    rw [Nat.add_zero,Z7u,Zfc,Z08 (decide_eq_false (by omega)),<- e]
  | succ m ih =>
    intro n j hj
    have e1:wrap .i64 (((128*j:Nat):Int)+128)=((128*(j+1):Nat):Int):=by rw [Zj (by omega) (by omega)]; omega
    have e2:128*(j+1)-128*j=128:=by omega
    rw [<- Nat.add_assoc,Z7u,Zfc,Z0g (decide_eq_true (by omega))]
    simp only [Zb,e1,Int.toNat_natCast,e2]
    have hbk:(L.drop (128*j)).take 128=bk L j:=rfl
    rw [Zo (by simp [Z97]; omega),hbk,Z3 (Z07z (Zxd L j) (Z08s hb j) (Ztj (by omega)))]
    exact ih n (j+1) (by omega)
def Zpm (x:Int):LI:=[wrap .u8 (Zq .u64 x 56),wrap .u8 (Zq .u64 x 48),wrap .u8 (Zq .u64 x 40),wrap .u8 (Zq .u64 x 32),wrap .u8 (Zq .u64 x 24),wrap .u8 (Zq .u64 x 16),wrap .u8 (Zq .u64 x 8),wrap .u8 (Zq .u64 x 0)]
theorem Z03b (x:Int):Zpm x=be8 x:=by
  have h:=Zpj x
  rw [Z0j2] at h
  exact Option.some.inj h
theorem Zzh (a:LI) (k:LI->Option (LI)):Zd7 a k big 0 (replicate 64 0)=k (Zpm (a.getD 0 0)++(Zpm (a.getD 1 0)++(Zpm (a.getD 2 0)++(Zpm (a.getD 3 0)++(Zpm (a.getD 4 0)++(Zpm (a.getD 5 0)++(Zpm (a.getD 6 0)++Zpm (a.getD 7 0)))))))):=by kernel_rfl
theorem Z02f {M:LI} (hM:M.length+145<=140737488355328) (hb:Byt M):Zqn M=some (Zor M):=by
  have hz:Zi4 (M.length:Int)<128:=by unfold Zi4; omega
  have hp:=Zp2 (M.length:Int)
  have hw:(Zgv M).length=M.length+(17+Zi4 (M.length:Int)):=by unfold Zgv; rw [List.length_append,hp]
  have hm:=Z00c M
  have key : ∀ k,Z7u (Zgv M) k big 0 G_rfirst=k (fbn (Zgv M) ((Zgv M).length / 128)):=by
    intro k
    obtain ⟨n,hn⟩ : ∃ n',big=n'+1+(Zgv M).length / 128:=⟨18446744073709551615-(Zgv M).length / 128,by have:big=18446744073709551616:=Z1t; omega⟩
    rw [hn,Zxi]
    exact Zzf (show Byt (Zgv M) from Zeu hb (Zua _)) hm (by omega) k ((Zgv M).length / 128) n 0 (by omega)
  rw [Zqn,Zo (by simp; omega),Zb,Zb,List.nil_append,Zd (by omega) (by omega),Z3 (Z02w (by omega) (by omega)),Zo (by rw [hp]; simp; omega),Zb,Z13]
  show Z7u (Zgv M) _ big 0 G_rfirst=_
  rw [key,Z13,Zzh]
  simp only [Z03b]
  rfl
theorem Zsh {p:List (LI)} (hp : ∀ i,Byt (p.getD i [])) (hb:p.length<1000000) {k:LI->LI->Int->Int->Option (LI)} (m:Nat) : ∀ (n i:Nat) (a h:LI) (c:Int) (M:LI),i+m=p.length->Byt M->M.length+(p.drop i).flatten.length<9223372036854775808->Dst M a h c ->
    ∃ a' h' c',Z40 p k (n+1+m) (i:Int) a h c (M.length:Int)=k a' h' c' ((M++(p.drop i).flatten).length:Int)/\Dst (M++(p.drop i).flatten) a' h' c'/\Byt (M++(p.drop i).flatten):=by
  induction m with
  | zero =>
    intro n i a h c M hi hbM hlen hD
    have e:p.drop i = []:=List.drop_eq_nil_of_le (by omega)
    rw [e,List.flatten_nil,List.append_nil]
    refine ⟨a,h,c,?_,hD,hbM⟩
    rw [Nat.add_zero,Z40,Z7f,Z08 (decide_eq_false (by omega))]
  | succ m ih =>
    intro n i a h c M hi hbM hlen hD
    have e1:=Z3n (i:=i) (by omega)
    have hlt:i<p.length:=by omega
    have hd:p.drop i=p.getD i []::p.drop (i+1):=by
      rw [List.drop_eq_getElem_cons hlt]
      congr 1
      simp [List.getD_eq_getElem?_getD,List.getElem?_eq_getElem hlt]
    rw [hd,List.flatten_cons] at hlen ⊢
    rw [List.length_append] at hlen
    obtain ⟨r,er,el,hr⟩:=Zrr (d:=⟨a,h,c,(M.length:Int)⟩) (l:=p.getD i []) (by omega) (hp i) hbM hD
    have el2:r.glength=((M++p.getD i []).length:Int):=by
      rw [el,List.length_append]
      show wrap .u64 ((M.length:Int)+wrap .u64 ((p.getD i []).length:Int))=_
      rw [Zd (x:=((p.getD i []).length:Int)) (by omega) (by omega),Zd (by omega) (by omega)]
      omega
    obtain ⟨a',h',c',e',hD',hb'⟩:=ih n (i+1) r.gstate r.gheld r.ghave (M++p.getD i []) (by omega) (Zeu hbM (hp i)) (by rw [List.length_append]; omega) hr
    refine ⟨a',h',c',?_,by rw [<- List.append_assoc]; exact hD',by rw [<- List.append_assoc]; exact hb'⟩
    rw [<- Nat.add_assoc,Z40,Z7f,Z0g (decide_eq_true (by omega)),Zo (Z0i (by omega) (by omega)),Int.toNat_natCast,Z3 er,Zb,e1,el2,e',List.append_assoc]
theorem Z01g {p:List (LI)} (hp : ∀ i,Byt (p.getD i [])) (hb:p.length<1000000) (hl:p.flatten.length<9223372036854775808):Z9i p=some (byt (wval (Zor p.flatten)%VL)):=by
  obtain ⟨n,hn⟩ : ∃ n',big=n'+1+p.length:=⟨18446744073709551615-p.length,by have:big=18446744073709551616:=Z1t; omega⟩
  obtain ⟨a,h,c,e,hD,hbM⟩:=Zsh hp hb (k:=fun (a51:LI) (a52:LI) (i53:Int) (i54:Int)=>opt (Z2v (⟨a51,a52,i53,i54⟩:Zu)) fun y98 =>
 opt (Z4g y98.1) fun y101 =>
 some y101) p.length n 0 G_first (replicate 128 0) 0 [] (by omega) Zru (by simpa using hl) Dst.start
  rw [List.drop_zero,List.nil_append] at e hD hbM
  rw [Z9i,Zdq,Z3 rfl,Z13,hn]
  refine e.trans ?_
  rw [Z3 (Z084 (d:=⟨a,h,c,(p.flatten.length:Int)⟩) hl hbM hD rfl)]
  show opt (Z4g (Zor p.flatten)) _=_
  rw [Z3 (Zv5 (Zq7 _))]
end Go.Proofs.YtiflckckekjbnaaGreatDoor
namespace Go.Proofs.YtiflckckekjbnaaGreatDoor
open Go Go.Sx Go.RowKit
set_option linter.all false
set_option maxRecDepth 100000
set_option maxHeartbeats 1000000
theorem Z069 (p:LI):Zjh p false=some (tk p 0 32):=by kernel_rfl
theorem Z068 (p:LI):Zjh p true=some (tk p 32 32):=by kernel_rfl
noncomputable def Z0yo (s:LI):LI:=tk (Zor s) 32 32
noncomputable def Z01v (M:LI):LI:=byt (wval (Zor M)%VL)
theorem Zqg (M:LI):Byt (Z01v M):=Zwx _
theorem byt3 {a b c:LI} (ha:Byt a) (hb:Byt b) (hc:Byt c) : ∀ i,Byt (([a,b,c]:List (LI)).getD i []):=by
 intro i
 match i with
 | 0=>exact ha
 | 1=>exact hb
 | 2=>exact hc
 | i+3=>exact Zru
theorem Z0eu {a b m:LI} (ha:Byt a) (hb:Byt b) (hm:Byt m) (h:a.length+(b.length+m.length)<9223372036854775808):Z9i [a,b,m]=some (Z01v (a++(b++m))):=by
 have e:([a,b,m]:List (LI)).flatten=a++(b++m):=by simp
 rw [Z01g (byt3 ha hb hm) (by simp) (by rw [e,List.length_append,List.length_append]; exact h),e]
 rfl
noncomputable def Z087 (k m s:LI) (A:G):Bool:=dok k&&(decide (Zgo (tk s 32 32)<VL)&&decide (encG (Z9m (Zgs (Zgo (Z01v (tk s 0 32++(k++m)))).toNat (negG A)) (pB (tk s 32 32)))=tk s 0 32))
theorem Z06r {k m s:LI} (hk:Byt k) (l:k.length=32) (hm:Byt m) (lm:m.length<9223372036854775000) (hs:Byt s) {A:G} (hA:dok k=true->Rep (dpt k) A):Z4t k m s=some (Z087 k m s A):=by
 have e0:tk k 0 32=k:=Zds l
 have hh:=Z0eu (Zkb hs 0 32) hk hm (by rw [Z0x,l]; omega)
 exact Zwb hk hs (by rw [e0]; exact hh) (Zqg _) hA
theorem Z07r {a b c:LI} (h:a.length+b.length+c.length<=140737488355328):Zfr a b c=some (a++(b++c)):=by
 rw [Zfr,Zo (by simp; omega),Zb,List.nil_append,Zo (by simp; omega),Zb,Zo (by simp; omega),Zb,List.append_assoc]
theorem rred (M:LI):Zde (Zor M)=some (Z01v M):=Z07g (Zq7 _) (Zxl _)
theorem Z07v {k m s:LI} (hk:Byt k) (l:k.length=32) (hm:Byt m) (lm:m.length+209<=140737488355328) (hs:Byt s) {A:G} (hA:dok k=true->Rep (dpt k) A):Zbz k m s=some (Z087 k m s A):=by
 obtain ⟨q,eq,hq⟩:=Z07j hk l
 have ek:tk k 0 32=k:=Zds l
 have e1:tk (tk s 0 32) 0 32=tk s 0 32:=Zds (Z0x _ _ _)
 have b1:Byt (tk s 0 32++(k++m)):=Zeu (Zkb hs _ _) (Zeu hk hm)
 have l1:(tk s 0 32++(k++m)).length+145<=140737488355328:=by rw [List.length_append,List.length_append,Z0x,l]; omega
 rw [Zbz,Z3 (Z069 _),Z3 (Z068 _),Z3 eq,Z0iq (Zkb hs 32 32) (Z0x _ _ _)]
 unfold Z087
 cases hd:dok k
 ·rw [Zo (by simp [imp]),Z0g (by rfl)]; rfl
 ·have r3:=hq hd A (hA hd)
  rw [if_pos rfl,Zo (by simp [imp])]
  by_cases hc:Zgo (tk s 32 32)<VL
  ·rw [Z08 (by simp [hc]),Z13,e1,ek,Z3 (Z07r (by rw [Z0x,l]; omega)),Z3 (Z02f l1 b1),Z3 (rred _)]
   show opt (Znr (rp q)) _=_
   obtain ⟨c,ec,rc⟩:=Z02i (Zqg (tk s 0 32++(k++m))) (Zkb hs 32 32) (Z02l r3)
   rw [Z3 (Z07s q),Z3 ec,Z3 (Z07l rc)]
   unfold ieq
   rw [Z04r,e1]
   simp [hc]
  ·rw [Z0g (by simp [hc])]
   simp [hc]
theorem Z014 (k:LI) : ∃ A:G,dok k=true->Rep (dpt k) A:=by
 by_cases h:dok k=true
 ·obtain ⟨A,hA,_,_⟩:=Zx6 h
  exact ⟨A,fun _=>hA⟩
 ·exact ⟨Zdt,fun h2=>absurd h2 h⟩
theorem Zt9 {k m s:LI} (hk:Byt k) (l:k.length=32) (hm:Byt m) (lm:m.length+209<=140737488355328) (hs:Byt s) : ∃ b,Z4t k m s=some b/\Zbz k m s=some b:=by
 obtain ⟨A,hA⟩:=Z014 k
 exact ⟨_,Z06r hk l hm (by omega) hs hA,Z07v hk l hm lm hs hA⟩
theorem Z046 {b xs:LI} (h:b.length+xs.length<=140737488355328):Zbe ⟨b,0⟩ xs=some ⟨b++xs,0⟩:=by
 rw [Zbe,Z0g (by rfl),Zo (by simp; omega),Zb,Zo (by simpa using h),Zb,List.nil_append]
theorem Zqh {b xs:LI} (h:b.length+xs.length<=140737488355328):Z8v ⟨b,0⟩ xs=some ⟨b++xs,0⟩:=by
 rw [Z8v,Z3 (Z046 h)]
theorem Z07u {e:Int} (h0:1<=e) (h1:e<=64):IntKind.wrap .u32 e=e/\Zqw e=some [0,0,0,e]:=by
 have h : ∀ n:Fin 65,IntKind.wrap .u32 (n.val:Int)=(n.val:Int)/\Zqw (n.val:Int)=some [0,0,0,(n.val:Int)]:=by decide +kernel
 have:=h ⟨e.toNat,by omega⟩
 have e2:((e.toNat:Nat):Int)=e:=by omega
 simp only [e2] at this
 exact this
theorem rsay (l:api_Link):Z6e l=some (Zjo l):=by
 have hl:(tk l.gKey 0 32).length=32:=Z0x _ _ _
 rw [Z6e,Zui]
 unfold Zjo
 cases hi:Zh1 l
 ·rfl
 ·have h2:1<=l.gEpoch/\l.gEpoch<=64:=by simpa [Zh1] using hi
  obtain ⟨e1,e3⟩:=Z07u h2.1 h2.2
  rw [Z08 (by rfl),Z3 (show Zp9 11=some [70,66,1,11] by kernel_rfl),Z3 (Zqh (by simp)),Zb,e1]
  rw [Zgi,e3,Z3 rfl,Z3 (Z046 (by simp)),Z3 rfl,Z3 (Zqh (by simp [hl]))]
  rfl
theorem Z0ir {ks:List (LI)} {k:LI} (h:KsOk ks) (hk:KeyOk k) (hn:ks.length<9223372036854775807):Z43 ks k=some (decide (k∈ks)):=by
 rw [Z43,Z13]
 rcases Zuu (fun f i=>Z2d ks k (fun (_:Unit)=>some false) f (i:Int)) (n:=ks.length) (p:=fun i=>decide (ks.getD i (List.replicate 32 0)=k)) (R:=fun i=>some true) (E:=some false) (by omega)
  (fun i f hi=>by
   show Z2c ks k _ (Z2d ks k _ f) _=_
   rw [Z2c,Z0g (decide_eq_true (by omega)),Zo (Z0i (by omega) (by omega)),Zb,Int.toNat_natCast,Zos (kget h hi).2 hk.2,Zb,Zis (by omega),br_c])
  (fun f=>by
   show Z2c ks k _ _ _=_
   rw [Z2c,Z08 (decide_eq_false (by omega))]) with ⟨i,h1,h2,h3,h4⟩ | ⟨h1,h2⟩
 ·have hm:k∈ks:=Zou.2 ⟨i,h1,(of_decide_eq_true h2).symm⟩
  rw [decide_eq_true hm]; exact h4
 ·have hm:k∉ks:=fun hc=>by
   obtain ⟨i,hi,e⟩:=(Zou (z:=List.replicate 32 0)).1 hc
   exact absurd e.symm (of_decide_eq_false (h1 i hi))
  rw [decide_eq_false hm]; exact h2
theorem rver {k:LI} {l:api_Link} (hk:KeyOk k) (hl:LkOk l):Zbz k (Zjo l) l.gSig=some (vf k l):=by
 obtain ⟨b,h1,h2⟩:=Zt9 (m:=Zjo l) hk.1 hk.2 (Zzk hl.1.1) (by have:=Zre l; omega) hl.2.1
 unfold vf
 rw [h1,h2]; rfl
theorem Zun {ls:List api_Link} (hl:LksOk ls) (hn:ls.length<=64) (kk:List (LI)->Option (List (LI)×Int)) (hkk : ∀ ks,kk ks=some (ks,0)) : ∀ (d i f:Nat) (ks:List (LI)),i+d=ls.length->KsOk ks->ks.length=i+1 ->
  Z2a ls kk (f+1+d) ks (i:Int)=some (fol vf (ks.getD i (List.replicate 32 0)) ks (ls.drop i))
 | 0,i,f,ks,hi,hk,hkl=>by
  show Z29 ls _ _ ks _=_
  rw [Z29,Z08 (decide_eq_false (by omega)),List.drop_eq_nil_of_le (by omega),hkk]
  rfl
 | d+1,i,f,ks,hi,hk,hkl=>by
  show Z29 ls kk (Z2a ls kk (f+1+d)) ks _=_
  have hlt:i<ls.length:=by omega
  have hx:=Zj5 hl hlt
  have ha:=kget hk (i:=i) (by omega)
  have hd:ls.drop i=ls.getD i api_Link_z::ls.drop (i+1):=by rw [Zcl hlt]; exact List.drop_eq_getElem_cons hlt
  have hw:((i+1:Nat):Int)=(ks.length:Int):=by omega
  rw [Z29,Z0g (decide_eq_true (by omega)),Zo (Z0i (by omega) (by omega)),Zb,Int.toNat_natCast,Zb,Zis (by omega),hd,Z0ir hk hx.1 (by omega),Zo (by simp [imp]),hw]
  show br ((((ls.getD i api_Link_z).gEpoch != (ks.length:Int))||decide ((ls.getD i api_Link_z).gKey∈ks))) _ _=_
  conv=>rhs; unfold fol
  cases hc:((ls.getD i api_Link_z).gEpoch != (ks.length:Int))||decide ((ls.getD i api_Link_z).gKey∈ks)
  ·rw [Z08 rfl,Zo (Z0i (by omega) (by omega)),Zb,Z3 (rsay _),Z3 (rver ha hx),cond_false]
   cases hv:vf (ks.getD i (List.replicate 32 0)) (ls.getD i api_Link_z)
   ·rfl
   ·rw [Z08 (by rfl),Zo (by simp; omega),Zb,Zb]
    have e:=Zun hl hn kk hkk d (i+1) f (ks ++ [(ls.getD i api_Link_z).gKey]) (by omega) (Z0ct hk hx.1) (by simp [hkl])
    rw [show (ks ++ [(ls.getD i api_Link_z).gKey]).getD (i+1) (List.replicate 32 0)=(ls.getD i api_Link_z).gKey by rw [<- hkl]; simp,hw] at e
    exact e
  ·rfl
theorem Zz6 {root:LI} {ls:List api_Link} (hr:KeyOk root) (hl:LksOk ls):Z3j root ls=some (Zdz root ls):=by
 rw [Z3j]
 unfold Zdz
 cases hc:decide ((ls.length:Int)>64)
 ·have hc':=of_decide_eq_false hc
  obtain ⟨f,hf⟩ : ∃ f,big=f+1+ls.length:=⟨18446744073709551615-ls.length,by have:big=18446744073709551616:=Z1t; omega⟩
  rw [Z08 rfl,Z13,hf]
  exact Zun hl (by omega) _ (fun _=>rfl) ls.length 0 f [root] (by omega) (fun k hk=>by rw [List.mem_singleton.1 hk]; exact hr) rfl
 ·rfl
end Go.Proofs.YtiflckckekjbnaaGreatDoor
namespace Go.Proofs.YtiflckckekjbnaaGreatDoor
open Go Go.Sx Go.RowKit
open List (replicate)
set_option linter.all false
set_option maxRecDepth 100000
set_option maxHeartbeats 1000000
theorem Zy1 {α:Type} {z x:α} {t d:List α} {i:Nat} (h:i=t.length):(t++x::d).getD i z=x:=by subst h; simp [List.getD_eq_getElem?_getD]
theorem Z06b {α:Type} {x y:α} {t d:List α} {i:Nat} (h:i=t.length):(t++x::d).set i y=t++y::d:=by subst h; simp
theorem Z016 {α:Type} {z:α} {l:List α} {i:Nat} (h:i<l.length):l.drop i=l.getD i z::l.drop (i+1):=by rw [Zcl h]; exact List.drop_eq_getElem_cons h
theorem Zpf {α:Type} (p:List α) (c:α) (i:Nat):(p++replicate i c) ++ [c]=p++replicate (i+1) c:=by rw [List.append_assoc,<- List.replicate_succ']
def mk7:List api_Link:=[⟨(-7),replicate 32 0,replicate 64 0⟩,⟨(-8),replicate 32 0,replicate 64 0⟩]
theorem Zxw {a:List api_Link} (h:a.length*104+208<=140737488355328):Z3g a=some (a++mk7,(a.length:Int)):=by
 rw [Z3g,Zo (by simp; omega),Zb,Zo (by simp; omega),Zb,Zo (by simp [Z97]; omega),List.nil_append]; rfl
theorem Z01j {a:List api_Link} (h:a.length*104+208<=140737488355328):Z0w (a++mk7) (a.length:Int) a=some true:=by
 have e2:IntKind.wrap .i64 ((a.length:Int)+2)=((a.length+2:Nat):Int):=by rw [Zj (by omega) (by omega)]; omega
 have l2:(a++mk7).length=a.length+2:=by simp [mk7]
 have g0:(a++mk7).getD a.length api_Link_z=⟨(-7),replicate 32 0,replicate 64 0⟩:=Zy1 rfl
 have g1:(a++mk7).getD (a.length+1) api_Link_z=⟨(-8),replicate 32 0,replicate 64 0⟩:=by
  show (a++(_::_)).getD _ _=_
  rw [<- List.singleton_append,<- List.append_assoc]; exact Zy1 (by simp)
 rw [Z0w,Zb,e2,Zo (by rw [l2]; simp [Z97]; omega),Zis (by omega)]
 simp only [Int.toNat_natCast]
 rw [List.take_left' rfl,Z3 (Zgl (by omega)),Zo (by simp [imp,inB]; omega),Zo (by simp [imp,inB]; omega),g0,g1]
 rfl
end Go.Proofs.YtiflckckekjbnaaGreatDoor
namespace Go.Proofs.YtiflckckekjbnaaGreatDoor
open Go Go.Sx Go.RowKit
open List (replicate)
open Go.IntKind (wrap)
set_option linter.all false
set_option maxRecDepth 100000
set_option maxHeartbeats 1000000
open Classical in
theorem Zz2 {a b:List api_Link} (ha:LksOk a) (hb:LksOk b) (hn:a.length<9223372036854775807):Z3i a b=some (decide (a <+: b)):=by
 rw [Z3i]
 by_cases hl:a.length<=b.length
 ·rw [Z08 (decide_eq_false (by omega)),Z13]
  rcases Zuu (fun f i=>Z28 a b (fun (_:Unit)=>some true) f (i:Int)) (n:=a.length) (p:=fun i => !(eqL (a.getD i api_Link_z) (b.getD i api_Link_z))) (R:=fun i=>some false) (E:=some true) (by omega)
   (fun i f hi=>by
    show Z27 a b _ (Z28 a b _ f) _=_
    rw [Z27,Z0g (decide_eq_true (by omega)),Zo (Z0i (by omega) (by omega)),Zb,Int.toNat_natCast,Zo (Z0i (by omega) (by omega)),Zb,Zb,Zis (by omega),br_c]
    rfl)
   (fun f=>by
    show Z27 a b _ _ _=_
    rw [Z27,Z08 (decide_eq_false (by omega))]) with ⟨i,h1,h2,h3,h4⟩ | ⟨h1,h2⟩
  ·have hm : ¬ a <+: b:=fun hc=>by
    have:=(Zp3 ha hb).1 hc i h1
    rw [this.2] at h2
    exact absurd h2 (by decide)
   rw [decide_eq_false hm]; exact h4
  ·have hm:a <+: b:=(Zp3 ha hb).2 fun i hi=>⟨by omega,by
    have:=h1 i hi
    simpa using this⟩
   rw [decide_eq_true hm]; exact h2
 ·rw [Z0g (decide_eq_true (by omega)),decide_eq_false fun h=>hl h.length_le]
open Classical in
theorem Z04k {root:LI} {a b:List api_Link} (hr:KeyOk root) (ha:LksOk a) (hb:LksOk b):Z42 root a b=some (Zf8 root a b):=by
 rw [Z42,Z3 (Zz6 hr ha)]
 unfold Zf8
 by_cases h1:(Zdz root a).2≠0
 ·rw [Z0g (by simpa using h1),if_pos h1]
 ·have h1':(Zdz root a).2=0:=Classical.not_not.1 h1
  rw [Z08 (by simpa using h1'),if_neg h1,Z3 (Zz6 hr hb)]
  by_cases h2:(Zdz root b).2≠0
  ·rw [Z0g (by simpa using h2),if_pos h2]
  ·have h2':(Zdz root b).2=0:=Classical.not_not.1 h2
   have la:=(Zg8 h1').1
   have lb:=(Zg8 h2').1
   rw [Z08 (by simpa using h2'),if_neg h2,Z3 (Zz2 ha hb (by omega))]
   by_cases h3:a <+: b
   ·rw [Z0g (decide_eq_true h3),if_pos h3]
   ·rw [Z08 (decide_eq_false h3),if_neg h3,Z3 (Zz2 hb ha (by omega))]
    by_cases h4:b <+: a
    ·rw [Z0g (decide_eq_true h4),if_pos h4]
    ·rw [Z08 (decide_eq_false h4),if_neg h4]
theorem Zlo (root:LI) (a b:List api_Link):(Zf8 root a b).1.length<=64:=by
 unfold Zf8
 split
 ·exact Nat.zero_le _
 ·rename_i h1
  split
  ·exact Nat.zero_le _
  ·rename_i h2
   have la:=(Zg8 (Classical.not_not.1 h1)).1
   have lb:=(Zg8 (Classical.not_not.1 h2)).1
   split
   ·exact lb
   ·split
    ·exact la
    ·exact Nat.zero_le _
abbrev lB (n:Int):api_Link:=⟨n,replicate 32 0,replicate 64 0⟩
theorem Z0en {a b:List api_Link} (ha:a.length<=200) (hb:b.length<=200):Z3d a b=some true:=by
 have h1 : ∀ k,Z16 k big a 0=k (a++replicate 64 (lB (-21))):=fun k=>by
  have h:=walk (fun f i=>Z16 k f (a++replicate i (lB (-21))) (i:Int)) (j:=64) (R:=k (a++replicate 64 (lB (-21)))) (by omega)
   (fun i f hi=>by
    show Z1m k (Z16 k f) _ _=_
    rw [Z1m,Z0g (decide_eq_true (by omega)),Zo (by simp; omega),Zb,Zb,Zis (by omega),Zpf])
   (fun f=>by
    show Z1m k _ _ _=_
    rw [Z1m,Z08 (by rfl)])
  rw [List.replicate_zero,List.append_nil] at h
  exact h
 have h2 : ∀ k,Z17 k big b 0=k (b++replicate 64 (lB (-22))):=fun k=>by
  have h:=walk (fun f i=>Z17 k f (b++replicate i (lB (-22))) (i:Int)) (j:=64) (R:=k (b++replicate 64 (lB (-22)))) (by omega)
   (fun i f hi=>by
    show Z1n k (Z17 k f) _ _=_
    rw [Z1n,Z0g (decide_eq_true (by omega)),Zo (by simp; omega),Zb,Zb,Zis (by omega),Zpf])
   (fun f=>by
    show Z1n k _ _ _=_
    rw [Z1n,Z08 (by rfl)])
  rw [List.replicate_zero,List.append_nil] at h
  exact h
 have h3 : ∀ k,Z18 (a++replicate 64 (lB (-21))) k big (a.length:Int)=k ():=fun k =>
  walk (fun f i=>Z18 (a++replicate 64 (lB (-21))) k f ((a.length+i:Nat):Int)) (j:=64) (by omega)
   (fun i f hi=>by
    show Z1o _ k (Z18 _ k f) _=_
    have e:(a++replicate 64 (lB (-21))).getD (a.length+i) api_Link_z=lB (-21):=by
     rw [List.getD_eq_getElem?_getD,List.getElem?_append_right (by omega),List.getElem?_replicate,if_pos (by omega)]; rfl
    rw [Z1o,Z0g (decide_eq_true (by simp; omega)),Zo (Z0i (by omega) (by simp; omega)),Zb,Int.toNat_natCast,e,Z08 (by rfl),Zb,Zis (by omega)]
    rfl)
   (fun f=>by
    show Z1o _ k _ _=_
    rw [Z1o,Z08 (decide_eq_false (by simp))])
 rw [Z3d,Z13,h1,Z13,h2,Z13,h3,Zb,Zj (by omega) (by omega)]
 simp
theorem Zxv {a:List api_Link} (ha:a.length<=200) (k:List api_Link->Option Bool):Z0n k big a 0=k (replicate a.length (lB (-9))):=by
 have h:=walk (fun f i=>Z0n k f (replicate i (lB (-9))++a.drop i) (i:Int)) (j:=a.length) (R:=k (replicate a.length (lB (-9)))) (by omega)
  (fun i f hi=>by
   show Z11 k (Z0n k f) _ _=_
   have hl:(replicate i (lB (-9))++a.drop i).length=a.length:=by simp; omega
   rw [Z11,Z0g (decide_eq_true (by omega)),Zo (Z0i (by omega) (by omega)),Zb,Int.toNat_natCast,Za5 (by omega),Zb,Zb,Zis (by omega),Z016 (z:=api_Link_z) hi,Z06b (by simp),show replicate (i+1) (lB (-9))=replicate i (lB (-9)) ++ [lB (-9)] from List.replicate_succ',List.append_assoc,List.singleton_append])
  (fun f=>by
   show Z11 k _ _ _=_
   rw [List.drop_length,List.append_nil,Z11,Z08 (decide_eq_false (by simp))])
 exact h
theorem Zxx {a:List api_Link} (ha:a.length<=200) (k:List api_Link->Option Bool):Z0o k big a 0=k (a++replicate 8 (lB (-10))):=by
 have h:=walk (fun f i=>Z0o k f (a++replicate i (lB (-10))) (i:Int)) (j:=8) (R:=k (a++replicate 8 (lB (-10)))) (by omega)
  (fun i f hi=>by
   show Z12 k (Z0o k f) _ _=_
   rw [Z12,Z0g (decide_eq_true (by omega)),Zo (by simp; omega),Zb,Zb,Zis (by omega),Zpf])
  (fun f=>by
   show Z12 k _ _ _=_
   rw [Z12,Z08 (by rfl)])
 rw [List.replicate_zero,List.append_nil] at h
 exact h
theorem Zzo {l:List api_Link} {i:Nat} {x:api_Link} (hi:i<l.length):Zdu api_Link_z (l++mk7) i x=l.set i x++mk7:=by rw [Za5 (by simp; omega),List.set_append_left _ _ hi]
theorem Zxk {l:List api_Link} {i:Nat} (hi:i<l.length):(l++mk7).getD i api_Link_z=l.getD i api_Link_z:=by rw [List.getD_eq_getElem?_getD,List.getElem?_append_left hi,<- List.getD_eq_getElem?_getD]
theorem Z04o {l:List api_Link} {i:Nat} {x:api_Link} (h:LksOk l) (hx:LkOk x):LksOk (l.set i x):=by
 intro y hy
 rcases List.mem_or_eq_of_mem_set hy with h1 | rfl
 ·exact h _ h1
 ·exact hx
theorem Zv0 {n:Nat} (hn:n*104+208<=140737488355328) (k:List api_Link->Option (List api_Link×List api_Link)) : ∀ (d i f:Nat) (l:List api_Link),i+d=n / 2->l.length=n->LksOk l ->
  ∃ l',l'.length=n/\LksOk l'/\Z26 (n:Int) k (f+1+d) (l++mk7) (i:Int)=k (l'++mk7)
 | 0,i,f,l,hi,hl,ho=>by
  have e2:wrap .i64 (Int.tdiv (n:Int) 2)=((n / 2:Nat):Int):=by rw [show Int.tdiv (n:Int) 2=((n / 2:Nat):Int) from rfl,Zj (by omega) (by omega)]
  refine ⟨l,hl,ho,?_⟩
  show Z25 (n:Int) k _ _ _=_
  rw [Z25,Zb,e2,Z08 (decide_eq_false (by omega))]
 | d+1,i,f,l,hi,hl,ho=>by
  have e2:wrap .i64 (Int.tdiv (n:Int) 2)=((n / 2:Nat):Int):=by rw [show Int.tdiv (n:Int) 2=((n / 2:Nat):Int) from rfl,Zj (by omega) (by omega)]
  have e3:wrap .i64 ((n:Int)-1)=((n-1:Nat):Int):=by rw [Zj (by omega) (by omega)]; omega
  have e4:wrap .i64 (((n-1:Nat):Int)-(i:Int))=((n-1-i:Nat):Int):=by rw [Zj (by omega) (by omega)]; omega
  have hc : ∀ l:List api_Link,l.length=n->Z97 0 (n:Int) (l++mk7).length=true:=fun l h=>by simp [Z97,h]; omega
  have s1 : ∀ x,(l.set i x).length=n:=fun x=>by rw [List.length_set,hl]
  have s2 : ∀ x y,((l.set i x).set (n-1-i) y).length=n:=fun x y=>by rw [List.length_set,s1]
  have o1:=Zj5 ho (i:=i) (by omega)
  have o2:=Zj5 ho (i:=n-1-i) (by omega)
  obtain ⟨l',h1,h2,h3⟩:=Zv0 hn k d (i+1) f ((l.set i (l.getD (n-1-i) api_Link_z)).set (n-1-i) (l.getD i api_Link_z)) (by omega) (s2 _ _) (Z04o (Z04o ho o2) o1)
  refine ⟨l',h1,h2,?_⟩
  rw [<- h3]
  show Z25 (n:Int) k (Z26 (n:Int) k (f+1+d)) _ _=_
  rw [Z25,Zb,e2,Z0g (decide_eq_true (by omega)),Int.toNat_natCast,Zo (Z0i (by omega) (by omega)),Zb,Zb,e3,Zb,e4,Zo (Z0i (by omega) (by omega)),Zb,Zo (Z0i (by omega) (by omega)),Zb,Int.toNat_natCast,Int.toNat_natCast,Zxk (by omega),Zxk (by omega),Zzo (by omega),Zb,
   Zo (hc _ (s1 _)),Zo (hc _ (s1 _)),Zo (hc _ (s1 _)),Zo (hc _ (s1 _)),Zb,Zb,e4,Zo (Z0i (by omega) (by omega)),Zb,Int.toNat_natCast,Zzo (by rw [s1]; omega),Zb,
   Zo (hc _ (s2 _ _)),Zo (hc _ (s2 _ _)),Zo (hc _ (s2 _ _)),Zo (hc _ (s2 _ _)),Zo (hc _ (s2 _ _)),Zb,Zis (by omega)]
theorem Z008 {l:List api_Link} (hb:l.length*104+208<=140737488355328) (ho:LksOk l) : ∃ l',l'.length=l.length/\LksOk l'/\Z3h (l++mk7) (l.length:Int)=some (l',l'++mk7):=by
 obtain ⟨f,hf⟩ : ∃ f,big=f+1+l.length / 2:=⟨18446744073709551615-l.length / 2,by have:big=18446744073709551616:=Z1t; omega⟩
 obtain ⟨l',h1,h2,h3⟩:=Zv0 hb (fun (l124:List (api_Link))=>chk (decide ((([]:List (api_Link)).length+(l124.take ((l.length:Int)).toNat).length)*104<=140737488355328)) <|
  bnd (([]:List (api_Link))++(l124.take ((l.length:Int)).toNat)) fun l250=>some (l250,l124)) (l.length / 2) 0 f l (by omega) rfl ho
 refine ⟨l',h1,h2,?_⟩
 rw [Z3h,Z13,hf]
 refine h3.trans ?_
 rw [Int.toNat_natCast,List.take_left' h1,Zo (by simp; omega),Zb]; rfl
theorem rotateMerges_eq {root:LI} {a b:List api_Link} (hr:KeyOk root) (ha:LksOk a) (la:a.length*104+208<=140737488355328) (hb:LksOk b) (lb:b.length*104+208<=140737488355328) :
  Z3m root a b=some true:=by
 have hml:=Zlo root a b
 have et : ∀ a:List api_Link,(a++mk7).take ((a.length:Int)).toNat=a:=fun a=>by rw [Int.toNat_natCast,List.take_left' rfl]
 rw [Z3m,Z3 (Zxw la),Z3 (Zxw lb)]
 dsimp only
 rw [et,et,Z3 (Zyj hr ha hb),Z3 (Z04k hr ha hb),Z3 (Zyj hr ha hb),Z3 (Zgl (by omega)),Z08 (by simp),Z13,Zxv (by omega),Z13,Zxx (by simp; omega),Z13,Zb]
 have ez:wrap .i64 (((Zf8 root a b).1.length:Int)+8)=((replicate (Zf8 root a b).1.length (lB (-9))++replicate 8 (lB (-10))).length:Int):=by rw [Zj (by omega) (by omega)]; simp
 rw [ez,Zgl (by omega),Z01j la,Z01j lb,Zo (by simp [imp]),Zo (by simp [imp]),Zo (by simp [imp]),Z08 (by simp),Z3 (Z0en (by simp; omega) (by omega))]
 obtain ⟨a',a1,a2,a3⟩:=Z008 la ha
 obtain ⟨b',b1,b2,b3⟩:=Z008 lb hb
 have ca:Z97 0 (a'.length:Int) (a'++mk7).length=true:=by simp [Z97]; omega
 have cb:Z97 0 (b'.length:Int) (b'++mk7).length=true:=by simp [Z97]; omega
 have hm2:=Zlo root a' b'
 rw [Bool.not_true]
 show br false _ _=_
 rw [Z08 rfl,Z3 a3,<- a1,Zo ca,Zo ca,Z3 b3,<- b1,Zo cb,Zo cb]
 dsimp only
 rw [et,et,Z3 (Zyj hr a2 b2),Z3 (Z04k hr a2 b2),Z3 (Zgl (by omega)),Z01j (by omega),Z01j (by omega),Zo (by simp [imp]),Zo (by simp [imp])]
 simp
end Go.Proofs.YtiflckckekjbnaaGreatDoor
namespace Go.Sx
open Go Go.RowKit Go.ChangeShapes
set_option linter.all false
section
variable {H:Type} {enc:TypeId×Value->H}
theorem Zhu {P:Program} (hl:laidOutB P=true) {W W':World} (hb:Below W.heap.size W W') :
  ∀ {ts:List TypeId} {vs:List Value} {ds:List (DataW H)} {ps:List MemPlace},(ts.all fun t=>P.readableRec t&&decide (t<P.types.size))=true->(∀ x∈ps,x.block<W.heap.size) ->
   DataW.TrodAll enc P W 0 (fun _=>true) true ts vs ds ps->DataW.TrodAll enc P W' 0 (fun b=>decide (b<W.heap.size)) true ts vs ds ps
 | [],[],[],_,_,_,h=>h
 | t::ts,v::vs,d::ds,ps,hr,hlt,h=>by
  obtain ⟨p,q,h1,h2,rfl⟩:=h
  simp only [List.all_cons,Bool.and_eq_true,decide_eq_true_eq] at hr
  exact ⟨p,q,Below.trod hl hr.1.1 hr.1.2 h1 hb (fun x hx=>hlt x (by simp [hx])),Zhu hl hb hr.2 (fun x hx=>hlt x (by simp [hx])) h2,rfl⟩
 | [],_::_,_,_,_,_,h=>h.elim
 | [],[],_::_,_,_,_,h=>h.elim
 | _::_,[],_,_,_,_,h=>h.elim
 | _::_,_::_,[],_,_,_,h=>h.elim
def LawAt (P:Program) (f:FuncId) (args:Array Value) (W:World):Prop:=Calls P f args W fun e w'=>e = .returned (.bool true)/\Below W.heap.size W w'
theorem Zeb {P:Program} {W:World} {base:Nat} {sp:Nat->Bool} {held:Bool} : ∀ {ts:List TypeId} {vs:List Value} {ds:List (DataW H)} {ps:List MemPlace},DataW.TrodAll enc P W base sp held ts vs ds ps->ds.length=ts.length/\vs.length=ts.length
 | [],[],[],_,_=>⟨rfl,rfl⟩
 | t::ts,v::vs,d::ds,ps,h=>by
  obtain ⟨p,q,_,h2,_⟩:=h
  have:=Zeb h2
  simp [this]
 | [],_::_,_,_,h=>h.elim
 | [],[],_::_,_,h=>h.elim
 | _::_,[],_,_,h=>h.elim
 | _::_,_::_,[],_,h=>h.elim
theorem Z01h {C:Checked} {f:FuncId} {fn:Func} {s:ChangeSpec} {tb:TypeId} (hvars:s.vars = [])
  (hs : ∀ ds:List (DataW H),ds.length=fn.params.size->s.fn H ds = { results:=[.lit (.bool true)],args:=ds }) (hres:fn.resultTypes = #[tb]) (htb:C.prog.underlying tb=some .bool)
  (hl:laidOutB C.prog=true) (hpar:(fn.params.toList.all fun t=>C.prog.readableRec t&&decide (t<C.prog.types.size))=true)
  {W:World} {args:Array Value} {ds gs:List (DataW H)} {before:List MemPlace} (hW:DataW.Whole enc C.prog fn.params.toList s.vars false W args.toList ds gs before)
  (h:LawAt C.prog f args W):Calls C.prog f args W fun e W'=>∃ v,e = .returned v/\s.post enc C.prog fn false true false false W args v W':=by
 have hW':=hW
 have hlt:=hW.lt
 obtain ⟨p,q,hA,hV,rfl,hfz,hnd⟩:=hW
 rw [hvars] at hV
 obtain ⟨rfl,rfl⟩:=trodVars_none hV
 refine h.mono fun e W' ⟨he,bel⟩=>⟨_,he,ds,[],p ++ [],[],p,[],hW',?_,?_,?_,bel.frame _,fun h=>by cases h⟩
 ·rw [List.append_nil,hs ds (by simpa using (Zeb hA).1),hres]
  exact trodAll_mk1 (shut_bool htb true)
 ·rw [List.append_nil,hs ds (by simpa using (Zeb hA).1)]
  exact Zhu hl bel hpar (fun x hx=>hlt x (by simp [hx])) hA
 ·rw [List.append_nil,hs ds (by simpa using (Zeb hA).1),hvars]
  rfl
structure Given (C:Checked) (fn:Func) (W:World) (args:Array Value):Prop where
 wide : ∃ base,∀ (j:Nat) t v,fn.params[j]? = some t->args[j]? = some v->Value.okWide C.prog W .any base t v
 read : ∃ (H:Type) (enc:TypeId×Value->H) (ds:List (DataW H)) (p:List MemPlace),DataW.TrodAll enc C.prog W 0 (fun _=>true) true fn.params.toList args.toList ds p /\
  ((DataW.weightsEach C.prog fn.params.toList ds).all (· <= reachBytes)=true)
theorem law_laid {C:Checked} {os:Os} {f:FuncId} {fn:Func} {s:ChangeSpec} {tb:TypeId} {conds:List PathCond} {laid:List (String×DataW Unit)}
  (own:ownKnob C.prog.godebug=none) (started:os.Started) (noInit:C.prog.inits.idxOf? f=none) (hfn:C.prog.funcs[f]? = some fn) (hvars:s.vars = [])
  (hs : ∀ ds:List (DataW H),ds.length=fn.params.size->s.fn H ds = { results:=[.lit (.bool true)],args:=ds }) (hres:fn.resultTypes = #[tb]) (htb:C.prog.underlying tb=some .bool)
  (hl:laidOutB C.prog=true) (hpar:(fn.params.toList.all fun t=>C.prog.readableRec t&&decide (t<C.prog.types.size))=true)
  (witness : ∃ (w:World) (tape:Tape) (i:Input),w.os=os/\(w.forCall tape i).Shaped C.prog/\i.vars = []/\Input.okWide C.prog (w.forCall tape i) .any w.heap.size f i /\
   ((s.pre enc C.prog fn conds false (w.forCall tape i).memory i.args/\laidMetH C.prog laid (w.forCall tape i).memory)/\sizedMet enc C.prog fn (OpenSpec.ofChange s) false (w.forCall tape i).memory i.args)/\({}:Assume).holds C.prog (lone (Frame.enter C.prog f i.args .normal) [] (w.forCall tape i)))
  (h : ∀ (W:World) (args:Array Value),laidMetH C.prog laid W->Given C fn W args->LawAt C.prog f args W) :
  ReturnsInHanded {} C os f .any (fun w args=>(s.pre enc C.prog fn conds false w args/\laidMetH C.prog laid w)/\sizedMet enc C.prog fn (OpenSpec.ofChange s) false w args) (s.post enc C.prog fn false true false false):=by
 refine returnsInHanded_of_change_and (X:=fun w _=>laidMetH C.prog laid w) (fun _ _ _ hh h=>h.of_heap hh) own started noInit hfn witness ?_
 intro W base args ds gs before hval hW _ hsz hL _
 refine Z01h hvars hs hres htb hl hpar hW (h W args hL ⟨⟨base,hval⟩,?_⟩)
 obtain ⟨p,q,hA,hV,rfl,hfz,hnd⟩:=hW
 rw [hvars] at hV
 obtain ⟨rfl,rfl⟩:=trodVars_none hV
 refine ⟨H,enc,ds,p,hA,?_⟩
 simpa [ChangeSpec.plain,DataSpec.varTypes,hvars] using hsz
end
theorem Zq6 {H:Type} {enc:TypeId×Value->H} {P:Program} {W:World} {n:Nat} {t:TypeId} {v:Value} {d:DataW H} {p:List MemPlace} {L:Lay}
  (hL:lay P n t .nil=some L) (h:DataW.Trod enc P W 0 (fun _=>true) true t v d p):Fits W maxLen L v.cells.toList:=by
 obtain ⟨fuel,hf⟩:=h
 have:=Z006 (Small.all) n t .nil L hL fuel v.cells.toList d p hf trivial [] rfl
 simpa using this
def Open (C:Checked) (W:World) (n:Nat):List TypeId->List Value->Prop
 | [],vs=>vs = []
 | t::ts,vs=>∃ v vs',vs=v::vs'/\(∃ base,Value.okWide C.prog W .any base t v)/\(∀ L,lay C.prog n t .nil=some L->Fits W maxLen L v.cells.toList)/\Open C W n ts vs'
theorem Given.open {C:Checked} {fn:Func} {W:World} {args:Array Value} (h:Given C fn W args) (n:Nat):Open C W n fn.params.toList args.toList:=by
 obtain ⟨⟨base,hw⟩,⟨H,enc,ds,p,hA,_⟩⟩:=h
 have key : ∀ (ts:List TypeId) (vs:List Value) (ds:List (DataW H)) (p:List MemPlace),DataW.TrodAll enc C.prog W 0 (fun _=>true) true ts vs ds p ->
   (∀ (j:Nat) t v,ts[j]? = some t->vs[j]? = some v->Value.okWide C.prog W .any base t v)->Open C W n ts vs:=by
  intro ts
  induction ts with
  | nil =>
   intro vs ds p h _
   cases vs with
   | nil=>rfl
   | cons v vs=>cases ds <;> exact h.elim
  | cons t ts ih =>
   intro vs ds p h hv
   cases vs with
   | nil=>cases ds <;> exact h.elim
   | cons v vs =>
    cases ds with
    | nil=>exact h.elim
    | cons d ds =>
     obtain ⟨p1,q1,h1,h2,rfl⟩:=h
     exact ⟨v,vs,rfl,⟨base,hv 0 t v rfl rfl⟩,fun L hL=>Zq6 hL h1,ih vs ds q1 h2 fun j t v h3 h4=>hv (j+1) t v h3 h4⟩
 exact key _ _ ds p hA fun j t v h1 h2=>hw j t v (by simpa using h1) (by simpa using h2)
theorem wide_one {P:Program} {W:World} {base:Nat} {t:TypeId} {v x:Value} (hw:Value.okWide P W .any base t v) (hn:(match P.underlying t with | some (.struct _) | some (.array _ _)=>false | _=>true)=true)
  (h:v.cells.toList = [x]):v=x:=by
 cases v with
 | agg cs =>
  exfalso
  unfold Value.okWide at hw
  split at hw
  ·rename_i hu; rw [hu] at hn; cases hn
  ·rename_i hu; rw [hu] at hn; cases hn
  ·unfold Cell.okWide at hw
   split at hw <;> first | (rename_i h2; cases h2; done) | skip
   simp only [Cell.ok] at hw
   split at hw <;> simp_all
 | _=>simpa [Value.cells] using h
theorem wide_agg {P:Program} {W:World} {base:Nat} {t:TypeId} {v:Value} (hw:Value.okWide P W .any base t v) (hn:(match P.underlying t with | some (.struct _) | some (.array _ _)=>true | _=>false)=true):v = .agg v.cells.toList.toArray:=by
 unfold Value.okWide at hw
 split at hw
 ·obtain ⟨cs,rfl,_⟩:=hw; simp [Value.cells]
 ·obtain ⟨cs,rfl,_⟩:=hw; simp [Value.cells]
 ·rename_i h1 h2
  split at hn
  ·rename_i hu; exact absurd hu (h1 _)
  ·rename_i hu; exact absurd hu (h2 _ _)
  ·cases hn
theorem Zqa {k:IntKind} {cs:List Value} {xs:List Int} (hl:cs.length=xs.length) (h : ∀ i,i<xs.length->cs[i]? = some (.int k (xs.getD i 0))):cs=intsCells k xs.length xs:=by
 apply List.ext_getElem?
 intro i
 by_cases hi:i<xs.length
 ·rw [h i hi]
  simp [intsCells,hi]
 ·rw [List.getElem?_eq_none (by omega),List.getElem?_eq_none (by simp [intsCells]; omega)]
theorem laid_ints {P:Program} {W:World} {l:List (String×DataW Unit)} (h:laidMet P l W) {name:String} {k:IntKind} {xs:List Int} (hm:(name,DataW.agg (xs.map fun x=>.lit (.int k x)))∈l) {g:Nat} {t e:TypeId} {m:Nat}
  (hg:P.globalNamed name=some g) (ht:(P.globals[g]?).map (·.type)=some t) (hu:P.underlying t=some (.array m e)) (he:P.underlying e=some (.int k)) (hc:P.cellsOf e=1) (hn:P.cellsOf t=m) (h0:0<m) :
  Mem W g 0 [.ints k xs.length xs]:=by
 obtain ⟨ps,hv,-,-⟩:=h
 induction l generalizing ps with
 | nil=>cases hm
 | cons x l ih =>
  obtain ⟨n,d⟩:=x
  obtain ⟨g',t',cs,fuel,p,q,h1,h2,h3,h4,h5,_⟩:=hv
  rcases List.mem_cons.1 hm with hx | hx
  ·cases hx
   obtain rfl:g'=g:=Option.some.inj (h1.symm.trans hg)
   obtain rfl:t'=t:=Option.some.inj (h2.symm.trans ht)
   obtain ⟨ys,m',_,hy,hlen,hyl,hel⟩:=DataW.trod_array hu h4
   simp only [Prod.mk.injEq,DataW.agg.injEq] at hy
   have hm':m=xs.length:=by rw [<- hyl]; have:=congrArg List.length hy.1; simpa using this.symm
   have hcs:cs.toList=intsCells k xs.length xs:=by
    refine Zqa (by omega) fun i hi=>?_
    have h6:=hel i (by omega)
    have h7:i<ys.length:=by omega
    rw [List.getElem?_eq_getElem h7] at h6
    obtain ⟨z,h8,h9,_⟩:=DataW.trod_int he h6
    have h10:(ys.map (·.1))[i]? = some (.lit (.int k (xs.getD i 0))):=by rw [<- hy.1]; simp [hi]
    rw [List.getElem?_map,List.getElem?_eq_getElem h7,Option.map_some,h9] at h10
    simp only [Option.some.injEq,DataW.lit.injEq,Lit.int.injEq,true_and] at h10
    subst h10
    rw [hc] at h8
    have:=congrArg (fun l=>l[0]?) h8
    simpa using this
   refine Zf6 (n:=xs.length) (cs:=cs.toList) (fun i hi=>?_) (by rw [hlen,hn,hm']) (by omega) (by rw [hcs]; simp [cells,Seg.cells]) (by simp [width,Seg.width])
   have:=World.var?_cell hg h3 i
   simpa using this
  ·exact ih hx _ h5
end Go.Sx
namespace Go.Sx
open Go Go.RowKit
set_option linter.all false
theorem rd_of_SlR {α:Type} {E:El α} {W:World} {a:Option Addr} {len cap:Nat} {g:Nat->List Value} {xs:List α} (h:SlR W E.w a cap g) (hl:len<=cap) (hx:xs.length=len) (hf : ∀ i,i<len->g i=E.cell (xs.getD i E.z)) :
  RdSl E W (slV (a,len,cap)) xs:=by
 rcases h.at_ with h0 | h0 | ⟨b,off,rfl,hm⟩
 ·subst h0
  obtain rfl:len=0:=by omega
  have:xs = []:=List.eq_nil_of_length_eq_zero hx
  cases a with
  | none=>exact .inl ⟨rfl,this⟩
  | some a=>exact .inr (.inr ⟨a,rfl,this⟩)
 ·exact absurd h0 (by have:=E.pos; omega)
 ·refine .inr (.inl ⟨b,off,cap,by rw [hx]; rfl,by omega,fun i hi j hj=>?_⟩)
  rw [hx] at hi
  have hlt:i*E.w+j<cap*E.w:=by
   have:i*E.w+E.w<=cap*E.w:=by rw [<- Nat.succ_mul]; exact Nat.mul_le_mul_right E.w (by omega)
   omega
  have:=hm.cell (i*E.w+j) (by simp only [width,Seg.width,Nat.add_zero]; exact hlt)
  simp only [cells,Seg.cells,List.append_nil] at this
  rw [this,Z6j (by omega) hj,Z9a (h.len i (by omega)),hf i hi]
theorem Zo5 {H:Type} {enc:TypeId×Value->H} {P:Program} {W:World} {t e:TypeId} {ts:List TypeId} {a:Addr} {len cap:Nat} {vs:List Value} (hu:P.underlying t=some (.slice e)) :
  ∀ {ts0:List TypeId} {vs0:List Value} {ds:List (DataW H)} {p:List MemPlace},ts0.length=vs0.length->DataW.TrodAll enc P W 0 (fun _=>true) true (ts0++t::ts) (vs0 ++ .slice (some a) len cap::vs) ds p ->
   ((DataW.weightsEach P (ts0++t::ts) ds).all (· <= reachBytes)=true)->cap*P.bytesOf e<=reachBytes
 | [],[],ds,p,_,hA,hw=>by
  cases ds with
  | nil=>exact hA.elim
  | cons d ds =>
   obtain ⟨p1,q1,⟨fuel,hf⟩,h2,rfl⟩:=hA
   rcases DataW.trod_slice hu hf with ⟨e1,_⟩ | ⟨a',len',cap',elems,rest,m,e1,e2,hx,_,hlc,_,hel,_,hR,_⟩
   ·exact absurd e1 (by simp [Value.cells])
   ·have e3:(Value.slice (some a) len cap) = .slice (some a') len' cap':=by simpa [Value.cells] using e2
    injection e3 with e4 e5 e6
    subst e5; subst e6
    obtain ⟨hr,_⟩:=hR rfl
    simp only [Prod.mk.injEq] at hx
    rw [hx.1] at hw
    simp only [List.nil_append,DataW.weightsEach,DataW.weights,hu,List.all_append,List.all_cons,Bool.and_eq_true,decide_eq_true_eq,List.length_map,hel,hr] at hw
    have:=hw.1.1
    rwa [show len+(cap-len)=cap by omega] at this
 | t0::ts0,v0::vs0,[],p,_,hA,_=>hA.elim
 | t0::ts0,v0::vs0,d::ds,p,h,hA,hw=>by
  obtain ⟨p1,q1,_,h2,rfl⟩:=hA
  refine Zo5 hu (by simpa using h) h2 ?_
  simp only [List.cons_append,DataW.weightsEach,List.all_append,Bool.and_eq_true] at hw
  exact hw.2
theorem Given.slice_bytesN {C:Checked} {fn:Func} {W:World} {args:Array Value} (h:Given C fn W args) (ts0:List TypeId) (vs0:List Value) {t e:TypeId} {ts:List TypeId} {a:Addr} {len cap:Nat} {vs:List Value}
  (hp:fn.params.toList=ts0++t::ts) (hu:C.prog.underlying t=some (.slice e)) (ha:args.toList=vs0 ++ .slice (some a) len cap::vs) (hl:ts0.length=vs0.length):cap*C.prog.bytesOf e<=reachBytes:=by
 obtain ⟨H,enc,ds,p,hA,hw⟩:=h.read
 rw [hp,ha] at hA
 rw [hp] at hw
 exact Zo5 hu hl hA hw
end Go.Sx
