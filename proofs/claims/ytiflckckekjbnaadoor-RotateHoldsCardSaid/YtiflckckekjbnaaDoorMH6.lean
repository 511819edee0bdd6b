/- Texts of a proof, one behind the other: Q13 E10 G5. -/
import Derived.Test.YtiflckckekjbnaaDoorMH5
import Derived.JoinedOf
import Derived.LaidLaws
import Derived.Lay
import Derived.MakeChecks
import Derived.SevenTiedAt
import Derived.ChangeOld
import Derived.SizedLaws
namespace Go.Proofs.YtiflckckekjbnaaDoor
open Go Go.Sx Go.RowKit
set_option linter.all false
set_option maxRecDepth 100000
set_option maxHeartbeats 1000000
noncomputable def Z65 (s:List Int):List Int:=(Z4w s).getD []
theorem Zkx (s:List Int) {m:List Int} (hm:m.length<18446744073709551615) : ∃ sg,Z8p s m=some sg∧Z28 (Z65 s) m sg=some true∧Byt sg∧sg.length=64∧KeyOk (Z65 s)∧Z4w s=some (Z65 s):=by
  obtain ⟨a,r,k,h⟩:=Zps s hm
  have e:Z65 s=Zbl (pB a):=by unfold Z65; rw [h.pub]; rfl
  refine ⟨_,h.sig,by rw [e]; exact Zev h,Zky,?_,by rw [e]; exact ⟨Zhu _,Z2y _⟩,by rw [e]; exact h.pub⟩
  rw [List.length_append,Z2y,Z2t]
theorem Zt7 (s:List Int):Z4w s=some (Z65 s):=by
  obtain ⟨_,_,_,_,_,_,h⟩:=Zkx s (m:=[]) (by decide); exact h
theorem Zh6 (s:List Int):KeyOk (Z65 s):=by
  obtain ⟨_,_,_,_,_,h,_⟩:=Zkx s (m:=[]) (by decide); exact h
theorem Zs4 (s:List Int) {k:List Int} {e:Int} (hk:KeyOk k) (h0:1≤e) (h1:e≤64) : ∃ sg,Z4t s e k=some (⟨e,k,sg⟩,true)∧Zwh ⟨e,k,sg⟩∧vf (Z65 s) ⟨e,k,sg⟩=true:=by
  obtain ⟨a,r,kk,h,hs⟩:=Zy4 s k e
  have hL:=Zg0 ⟨e,k,List.replicate 64 0⟩
  rw [if_pos (by simp [Zd4,h0,h1])] at hs
  have e1:Z65 s=Zbl (pB a):=by unfold Z65; rw [h.pub]; rfl
  refine ⟨_,hs,⟨hk,Zky,?_⟩,?_⟩
  · rw [List.length_append,Z2y,Z2t]
  · have hv:=Zev h
    unfold vf
    rw [e1]
    show (Z28 (Zbl (pB a)) (Zgp ⟨e,k,List.replicate 64 0⟩) _).getD false=true
    rw [hv]; rfl
abbrev z32:List Int:=List.replicate 32 0
noncomputable def lk (S:List (List Int)) (j:Nat):Zp:=((Z4t (S.getD (j-1) z32) (j:Int) (Z65 (S.getD j z32))).getD (Z38,false)).1
theorem Zoq (S:List (List Int)) {j:Nat} (h0:1≤j) (h1:j≤64):Z4t (S.getD (j-1) z32) (j:Int) (Z65 (S.getD j z32))=some (lk S j,true)∧(lk S j).gEpoch=(j:Int)∧(lk S j).gKey=Z65 (S.getD j z32)∧Zwh (lk S j)∧vf (Z65 (S.getD (j-1) z32)) (lk S j)=true:=by
  obtain ⟨sg,e,h2,h3⟩:=Zs4 (S.getD (j-1) z32) (k:=Z65 (S.getD j z32)) (e:=(j:Int)) (Zh6 _) (by omega) (by omega)
  have e2:lk S j=⟨(j:Int),Z65 (S.getD j z32),sg⟩:=by unfold lk; rw [e]; rfl
  rw [e2]
  exact ⟨e,rfl,rfl,h2,h3⟩
noncomputable def ksF (S:List (List Int)) (i:Nat):List (List Int):=(S.take i).map Z65
noncomputable def lsF (S:List (List Int)) (i:Nat):List Zp:=(List.range (i-1)).map fun j=>lk S (j+1)
noncomputable def rtF (S:List (List Int)) (i:Nat):List Int:=if i=0 then z32 else Z65 (S.getD 0 z32)
theorem Zlo (S:List (List Int)) {i:Nat} (h:i≤S.length):(ksF S i).length=i:=by unfold ksF; rw [List.length_map,List.length_take]; omega
theorem Zjb (S:List (List Int)) (i:Nat):(lsF S i).length=i-1:=by simp [lsF]
theorem Zeg (S:List (List Int)) {i:Nat} (h:i<S.length):ksF S (i+1)=ksF S i ++ [Z65 (S.getD i z32)]:=by
  unfold ksF
  rw [List.take_succ_eq_append_getElem h,List.map_append,Zbw h]; rfl
theorem Zuz (S:List (List Int)) {i:Nat} (h:0<i):lsF S (i+1)=lsF S i ++ [lk S i]:=by
  unfold lsF
  obtain ⟨k,rfl⟩ : ∃ k,i=k+1:=⟨i-1,by omega⟩
  rw [show k+1+1-1=k+1 by omega,show k+1-1=k by omega,List.range_succ,List.map_append]; rfl
theorem Zxx (S:List (List Int)) {i:Nat} (h:i≤64):Zqh (lsF S i):=by
  intro l hl
  obtain ⟨j,hj,rfl⟩:=List.mem_map.1 hl
  have hj:=List.mem_range.1 hj
  exact (Zoq S (j:=j+1) (by omega) (by omega)).2.2.2.1
theorem Z05i (S:List (List Int)) (i:Nat):Ztg (ksF S i):=by
  intro k hk
  obtain ⟨s,_,rfl⟩:=List.mem_map.1 hk
  exact Zh6 s
open Classical in
noncomputable def apF (S:List (List Int)) (i:Nat):Bool:=decide (ksF S i).Nodup
open Classical in
theorem Zto (S:List (List Int)) {i:Nat} (h:i<S.length):apF S (i+1)=(apF S i && !decide (Z65 (S.getD i z32)∈ksF S i)):=by
  unfold apF
  rw [Zeg S h]
  have e:(ksF S i ++ [Z65 (S.getD i z32)]).Nodup↔(ksF S i).Nodup∧Z65 (S.getD i z32)∉ksF S i:=by
    rw [List.nodup_append]
    simp only [List.nodup_cons,List.not_mem_nil,not_false_eq_true,List.nodup_nil,and_self,List.mem_singleton,true_and]
    constructor
    · rintro ⟨h1,h2⟩
      exact ⟨h1,fun hm=>h2 _ hm _ rfl rfl⟩
    · rintro ⟨h1,h2⟩
      exact ⟨h1,fun a ha b hb e=>h2 (by rw [← hb,← e]; exact ha)⟩
  rw [Bool.eq_iff_iff]
  simp only [decide_eq_true_eq,Bool.and_eq_true,Bool.not_eq_true',decide_eq_false_iff_not]
  exact e
theorem Zj6 {ks:List (List Int)} {y:List Int} (hk:Ztg ks) (hy:KeyOk y) (hn:ks.length<9223372036854775807) (kk:Bool→Option (List Int×List Zp×Bool)) :
    ∀ (d i f:Nat) (b:Bool),i+d=ks.length→Z17 ks y kk (f+1+d) b (i:Int)=kk (b && !decide (y∈ks.drop i))
  | 0,i,f,b,hi=>by
    show Z16 ks y kk _ b _=_
    rw [Z16,Z1h (decide_eq_false (by omega)),List.drop_eq_nil_of_le (by omega)]
    simp
  | d+1,i,f,b,hi=>by
    show Z16 ks y kk (Z17 ks y kk (f+1+d)) b _=_
    have hlt:i<ks.length:=by omega
    have hd:ks.drop i=ks.getD i z32::ks.drop (i+1):=by rw [Zbw hlt]; exact List.drop_eq_getElem_cons hlt
    rw [Z16,Z21 (decide_eq_true (by omega)),Z05 (by simp [imp,inB]; omega),Ze,Zk9 (by omega),Int.toNat_natCast,Zj6 hk hy hn kk d (i+1) f _ (by omega),hd,Zok (kget hk hlt).2 hy.2]
    have e : ∀ g:List Int,((b && !decide (g=y)) && !decide (y∈ks.drop (i+1)))=(b && !decide (y∈g::ks.drop (i+1))):=by
      intro g
      by_cases h:g=y
      · simp [h]
      · have h' : ¬ y=g:=fun e=>h e.symm
        simp [h,h']
    exact congrArg kk (e _)
theorem Zo3 (S:List (List Int)) (hn:S.length≤9) (kk:List Zp→Bool→List Int→Option (List Int×List Zp×Bool)) :
    ∀ (d i f:Nat),i+d=S.length→Z0p S kk (f+1+d) (ksF S i) (i:Int) (rtF S i) (lsF S i) (apF S i)=kk (lsF S S.length) (apF S S.length) (rtF S S.length)
  | 0,i,f,hi=>by
    show Z15 S kk _ _ _ _ _ _=_
    obtain rfl:i=S.length:=by omega
    rw [Z15,Z1h (decide_eq_false (by omega))]
  | d+1,i,f,hi=>by
    show Z15 S kk (Z0p S kk (f+1+d)) _ _ _ _ _=_
    have hlt:i<S.length:=by omega
    have hkl:=Zlo S (i:=i) (by omega)
    obtain ⟨g,hg⟩ : ∃ g,big=g+1+(ksF S i).length:=⟨18446744073709551615-(ksF S i).length,by have:big=18446744073709551616:=Z47; omega⟩
    have hin:=Zj6 (Z05i S i) (Zh6 (S.getD i z32)) (by omega)
    rw [Z15,Z21 (decide_eq_true (by omega)),Z2f,Z05 (Z2j (by omega) (by omega)),Ze,Int.toNat_natCast,Z3 (Zt7 _),Z2f,hg]
    have h2:=fun kk=>hin kk (ksF S i).length 0 g (apF S i) (by omega)
    have h2':=h2
    simp only [List.drop_zero] at h2
    rw [show ((0:Nat):Int)=0 from rfl] at h2
    rw [h2,Z05 (by simp; omega),Ze,← Zeg S hlt,← Zto S hlt]
    by_cases h0:i=0
    · subst h0
      rw [Z21 (by rfl)]
      refine (Ze _ _).trans ?_
      exact Zo3 S hn kk d 1 f (by omega)
    · rw [Z1h (by simp; omega),Ze]
      have ew:IntKind.wrap .i64 ((i:Int)-1)=((i-1:Nat):Int):=by rw [Zr (by omega) (by omega)]; omega
      obtain ⟨hs,_,_,_,_⟩:=Zoq S (j:=i) (by omega) (by omega)
      rw [ew,Z05 (Z2j (by omega) (by omega)),Ze,Int.toNat_natCast,Z3 hs,Z05 (by simp [Zjb]; omega),Ze]
      refine (Ze _ _).trans ?_
      rw [Zk9 (by omega),← Zuz S (by omega)]
      have er:rtF S i=rtF S (i+1):=by unfold rtF; rw [if_neg h0,if_neg (by omega)]
      rw [er]
      exact Zo3 S hn kk d (i+1) f (by omega)
theorem Zmp (p:List (List Int)):Z34 p=some (rtF (p.take 9) (p.take 9).length,lsF (p.take 9) (p.take 9).length,apF (p.take 9) (p.take 9).length):=by
  have hl:(p.take 9).length≤9:=by rw [List.length_take]; omega
  have key:Z0p (p.take 9) (fun l644 i646 a647=>some (a647,l644,i646)) big [] 0 (List.replicate 32 0) [] true=some (rtF (p.take 9) (p.take 9).length,lsF (p.take 9) (p.take 9).length,apF (p.take 9) (p.take 9).length):=by
    obtain ⟨f,hf⟩ : ∃ f,big=f+1+(p.take 9).length:=⟨18446744073709551615-(p.take 9).length,by have:big=18446744073709551616:=Z47; omega⟩
    have h:=Zo3 (p.take 9) hl (fun l644 i646 a647=>some (a647,l644,i646)) (p.take 9).length 0 f (by omega)
    rw [← hf] at h
    have ea:apF (p.take 9) 0=true:=by unfold apF ksF; simp
    rw [ea] at h
    exact h
  rw [Z34,Z2f]
  by_cases h9:p.length>9
  · rw [Z21 (decide_eq_true (by omega)),Z05 (by simp [Zge]; omega)]
    exact (Z2f _ _).trans key
  · rw [Z1h (decide_eq_false (by omega))]
    have e:p.take 9=p:=List.take_of_length_le (by omega)
    rw [e] at key
    rw [e]
    exact (Z2f _ _).trans key
open Classical in
theorem Zsv (S:List (List Int)) (hn:S.length≤9) {m:Nat} (hm:m≤S.length) : ∀ (d j:Nat),j+1+d=m→(ksF S (j+1)).Nodup →
    fol vf (Z65 (S.getD j z32)) (ksF S (j+1)) ((lsF S m).drop j)=if (ksF S m).Nodup then (ksF S m,0) else ([],171)
  | 0,j,hj,hd=>by
    obtain rfl:m=j+1:=by omega
    rw [List.drop_eq_nil_of_le (by rw [Zjb]; omega),if_pos hd]
    rfl
  | d+1,j,hj,hd=>by
    have hlt:j<(lsF S m).length:=by rw [Zjb]; omega
    have hx:(lsF S m).drop j=lk S (j+1)::(lsF S m).drop (j+1):=by
      rw [List.drop_eq_getElem_cons hlt]
      congr 1
      simp [lsF]
    obtain ⟨_,he,hk,_,hv⟩:=Zoq S (j:=j+1) (by omega) (by omega)
    have hkl:=Zlo S (i:=j+1) (by omega)
    rw [hx]
    unfold fol
    rw [he,hk,hkl]
    have e1:(((j+1:Nat):Int) != ((j+1:Nat):Int))=false:=by simp
    rw [e1,Bool.false_or]
    by_cases hmem:Z65 (S.getD (j+1) z32)∈ksF S (j+1)
    · rw [decide_eq_true hmem,cond_true,if_neg]
      intro hnd
      have hs:ksF S (j+1+1)=(ksF S m).take (j+1+1):=by unfold ksF; rw [← List.map_take,List.take_take]; congr 2; omega
      have h2:(ksF S (j+1+1)).Nodup:=by rw [hs]; exact hnd.sublist (List.take_sublist _ _)
      rw [Zeg S (by omega),List.nodup_append] at h2
      exact h2.2.2 _ hmem _ (List.mem_singleton.2 rfl) rfl
    · have hv':vf (Z65 (S.getD j z32)) (lk S (j+1))=true:=hv
      rw [decide_eq_false hmem,cond_false,hv']
      simp only [Bool.not_true,cond_false]
      rw [← Zeg S (by omega)]
      refine Zsv S hn hm d (j+1) (by omega) ?_
      rw [Zeg S (by omega),List.nodup_append]
      refine ⟨hd,by simp,fun a ha b hb e=>?_⟩
      rw [List.mem_singleton] at hb
      rw [← hb,← e] at hmem
      exact hmem ha
open Classical in
theorem Zlk (S:List (List Int)) (hn:S.length≤9) {m:Nat} (h0:0<m) (hm:m≤S.length):Zog (Z65 (S.getD 0 z32)) (lsF S m)=if (ksF S m).Nodup then (ksF S m,0) else ([],171):=by
  unfold Zog
  rw [decide_eq_false (by rw [Zjb]; omega),cond_false]
  have e : [Z65 (S.getD 0 z32)]=ksF S (0+1):=by rw [Zeg S (by omega)]; rfl
  have h:=Zsv S hn hm (m-1) 0 (by omega) (by rw [← e]; simp)
  rw [← e] at h
  exact h
theorem Zr4 (n:Nat) (a:List Int):ieq n a a=true:=by simp [ieq]
theorem Zpo {p:List (List Int)} (hb:p.length≤9223372036854775806):Z1u p p=some true:=by
  rw [Z1u,Z1h (by simp),Z2f]
  exact walk (fun f i=>Z0y p p (fun (_:Unit)=>some true) f (i:Int)) (j:=p.length) (by omega)
    (fun i f hi=>by
      show Z0x p p _ (Z0y p p _ f) _=_
      rw [Z0x,Z21 (decide_eq_true (by omega)),Z05 (Z2j (by omega) (by omega)),Ze,Z05 (Z2j (by omega) (by omega)),Ze,Z1h (by simp [ieq]),Ze,Zk9 (by omega)])
    (fun f=>by
      show Z0x p p _ _ _=_
      rw [Z0x,Z1h (decide_eq_false (by omega))])
theorem Zmx {p ks:List (List Int)} {e:Int} (h : ∀ i,i<ks.length→i<p.length∧ks.getD i z32=Z65 (p.getD i z32)) (hn:ks.length≤100) (k:Unit→Option Bool):Z06 p (ks,e) k big 0=k () :=
  walk (fun f i=>Z06 p (ks,e) k f (i:Int)) (j:=ks.length) (by omega)
    (fun i f hi=>by
      show Z0h p (ks,e) k (Z06 p (ks,e) k f) _=_
      have:=h i hi
      rw [Z0h]
      dsimp only
      rw [Z21 (decide_eq_true (by omega)),Z05 (Z2j (by omega) (by omega)),Ze,Z05 (Z2j (by omega) (by omega)),Ze,Int.toNat_natCast,Z3 (Zt7 _),this.2,Z1h (by rw [Zr4]; rfl),Ze,Zk9 (by omega)])
    (fun f=>by
      show Z0h p (ks,e) k _ _=_
      rw [Z0h]
      dsimp only
      rw [Z1h (decide_eq_false (by omega))])
theorem rotateHolds_eq {p:List (List Int)} {cut oldest epoch:Int} {m:List Int} (hp:p.length≤9223372036854775807) (hm:m.length<18446744073709551615):Z2v p cut oldest epoch m=some true:=by
  obtain ⟨S,hS⟩ : ∃ S,S=p.take 9:=⟨_,rfl⟩
  have hSl:S.length≤9:=by rw [hS,List.length_take]; omega
  have hSp:S.length≤p.length:=by rw [hS,List.length_take]; omega
  have hget : ∀ i,i<S.length→S.getD i z32=p.getD i z32:=fun i hi=>by
    rw [hS,List.length_take] at hi
    rw [hS,List.getD_eq_getElem?_getD,List.getD_eq_getElem?_getD,List.getElem?_take_of_lt (by omega)]
  rw [Z2v,Z3 (Zmp p),← hS,Zsj]
  dsimp only
  by_cases h0:p.length=0
  · rw [Z21 (by simp [h0])]; rfl
  · have hpos:0<S.length:=by rw [hS,List.length_take]; omega
    have ert:rtF S S.length=Z65 (S.getD 0 z32):=by unfold rtF; rw [if_neg (by omega)]
    have hls:=Zxx S (i:=S.length) (by omega)
    have hfol:=Zlk S hSl hpos (Nat.le_refl _)
    have h1:(p.length:Int)≠0:=by omega
    have hz:((p.length:Int)==0)=false:=by simpa using h1
    rw [Z1h hz,ert,Z3 (Zi4 (Zh6 _) hls),hfol]
    by_cases hap:(ksF S S.length).Nodup
    · have ea:apF S S.length=true:=by unfold apF; exact decide_eq_true hap
      have hkl:=Zlo S (Nat.le_refl S.length)
      have hll:=Zjb S S.length
      rw [if_pos hap,ea,Z1h (by rfl)]
      dsimp only
      have ew:IntKind.wrap .i64 (((lsF S S.length).length:Int)+1)=(S.length:Int):=by rw [hll,Zr (by omega) (by omega)]; omega
      rw [ew,hkl,Z1h (by simp),Z2f]
      have hkget : ∀ i,i<(ksF S S.length).length→(ksF S S.length).getD i z32=Z65 (p.getD i z32):=by
        intro i hi
        rw [hkl] at hi
        rw [← hget i hi]
        unfold ksF
        rw [Zbw (by simpa using hi),Zbw hi]
        simp
      rw [Zmx (fun i hi=>⟨by omega,hkget i hi⟩) (by omega),Z2f]
      have rest:br (((decide (oldest<0))||(decide (epoch<0)))||(decide (epoch≥((S.length:Nat):Int)))) (
          bnd (([0,0,0,0,0,0,0,0,0,0,0,0,0,0,0,0,0,0,0,0,0,0,0,0,0,0,0,0,0,0,0,0,0,0,0,0,0,0,0,0,0,0,0,0,0,0,0,0,0,0,0,0,0,0,0,0,0,0,0,0,0,0,0,0]:List Int)) fun z139 =>
            opt (Z3w (Z65 (S.getD 0 z32)) (lsF S S.length) oldest epoch m z139) fun y140=>chk (imp (y140==2) ((some true).isSome))<|some ((y140==2)&&((some true).getD false))) (
          chk (inB epoch p.length)<|bnd (p.getD (epoch).toNat (List.replicate 32 0)) fun x144=>opt (Z8p x144 m) fun y145=>opt (Z3w (Z65 (S.getD 0 z32)) (lsF S S.length) oldest epoch m y145) fun y146 =>
            br ((decide (epoch<oldest))) (chk (imp (y146==192) ((some true).isSome))<|some ((y146==192)&&((some true).getD false))) (chk (imp (y146==0) ((some true).isSome))<|some ((y146==0)&&((some true).getD false))))=some true:=by
        have hv : ∀ s,Z3w (Z65 (S.getD 0 z32)) (lsF S S.length) oldest epoch m s=br (((decide (oldest<0))||(decide (epoch<0)))||(decide (epoch≥((S.length:Nat):Int)))) (some 2) (br (decide (epoch<oldest)) (some 192) (
            chk (inB epoch S.length)<|bnd ((ksF S S.length).getD (epoch).toNat (List.replicate 32 0)) fun x22=>opt (Z28 x22 m s) fun y23=>br (!y23) (some 110) (some 0))):=by
          intro s
          rw [Z3w,Z3 (Zi4 (Zh6 _) hls),hfol,if_pos hap]
          dsimp only
          rw [Z1h (by rfl),hkl]
        cases hc:((decide (oldest<0))||(decide (epoch<0)))||(decide (epoch≥((S.length:Nat):Int)))
        · simp only [Bool.or_eq_false_iff,decide_eq_false_iff_not] at hc
          obtain ⟨⟨c1,c2⟩,c3⟩:=hc
          obtain ⟨sg,s1,s2,_,_,_,_⟩:=Zkx (p.getD epoch.toNat z32) hm
          rw [Z1h rfl,Z05 (Z2j (by omega) (by omega)),Ze,Z3 s1,hv,Z1h (by simp; omega)]
          by_cases hlt:epoch<oldest
          · rw [decide_eq_true hlt,Z21 rfl,Z3 rfl,Z21 rfl]
            rfl
          · rw [decide_eq_false hlt,Z1h rfl,Z05 (Z2j (by omega) (by omega)),Ze,hkget _ (by omega),Z3 s2,Z1h (by rfl),Z3 rfl,Z1h rfl]
            rfl
        · rw [Z21 rfl,Ze,hv,hc,Z21 rfl,Z3 rfl]
          rfl
      by_cases hcut:0≤cut∧cut≤((lsF S S.length).length:Int)
      · obtain ⟨c,rfl⟩ : ∃ c:Nat,cut=(c:Int):=⟨cut.toNat,by omega⟩
        have hc1:c≤S.length-1:=by omega
        rw [Z21 (by simp; omega),Z05 (by simp [Zge]; omega)]
        have el:((lsF S S.length).drop 0).take ((c:Int).toNat-0)=lsF S (c+1):=by
          rw [List.drop_zero,Nat.sub_zero,Int.toNat_natCast]
          unfold lsF
          rw [← List.map_take,List.take_range]
          congr 2; omega
        have hnd:(ksF S (c+1)).Nodup:=by
          have hs:ksF S (c+1)=(ksF S S.length).take (c+1):=by unfold ksF; rw [← List.map_take,List.take_take]; congr 2; omega
          rw [hs]; exact hap.sublist (List.take_sublist _ _)
        have ek:((ksF S S.length).drop 0).take ((IntKind.wrap .i64 ((c:Int)+1)).toNat-0)=ksF S (c+1):=by
          rw [Zk9 (by omega),List.drop_zero,Nat.sub_zero,Int.toNat_natCast]
          unfold ksF; rw [← List.map_take,List.take_take]; congr 2; omega
        rw [el,Z3 (Zi4 (Zh6 _) (Zxx S (by omega))),Zlk S hSl (by omega) (by omega),if_pos hnd]
        dsimp only
        rw [ek,Zpo (by rw [Zlo S (by omega)]; omega),Zk9 (by omega),Z05 (by simp [imp,Zge]; omega),Z1h (by rfl)]
        exact rest
      · rw [Z1h (by
          cases h1:decide (cut≥0) <;> cases h2:decide (cut≤((lsF S S.length).length:Int)) <;> first | rfl | skip
          exact absurd ⟨of_decide_eq_true h1,of_decide_eq_true h2⟩ hcut)]
        exact rest
    · have ea:apF S S.length=false:=by unfold apF; exact decide_eq_false hap
      rw [if_neg hap,ea,Z21 (by rfl),Z05 (by simp [imp])]
      rfl
end Go.Proofs.YtiflckckekjbnaaDoor
namespace Go.Sx
open Go Go.RowKit Go.ChangeShapes
set_option linter.all false
section
variable {H:Type} {enc:TypeId×Value→H}
theorem Zdk {P:Program} (hl:laidOutB P=true) {W W':World} (hb:Below W.heap.size W W') :
    ∀ {ts:List TypeId} {vs:List Value} {ds:List (DataW H)} {ps:List MemPlace},(ts.all fun t=>P.readableRec t&&decide (t<P.types.size))=true→(∀ x∈ps,x.block<W.heap.size) →
      DataW.TrodAll enc P W 0 (fun _=>true) true ts vs ds ps→DataW.TrodAll enc P W' 0 (fun b=>decide (b<W.heap.size)) true ts vs ds ps
  | [],[],[],_,_,_,h=>h
  | t::ts,v::vs,d::ds,ps,hr,hlt,h=>by
    obtain ⟨p,q,h1,h2,rfl⟩:=h
    simp only [List.all_cons,Bool.and_eq_true,decide_eq_true_eq] at hr
    exact ⟨p,q,Below.trod hl hr.1.1 hr.1.2 h1 hb (fun x hx=>hlt x (by simp [hx])),Zdk hl hb hr.2 (fun x hx=>hlt x (by simp [hx])) h2,rfl⟩
  | [],_::_,_,_,_,_,h=>h.elim
  | [],[],_::_,_,_,_,h=>h.elim
  | _::_,[],_,_,_,_,h=>h.elim
  | _::_,_::_,[],_,_,_,h=>h.elim
def LawAt (P:Program) (f:FuncId) (args:Array Value) (W:World):Prop:=Calls P f args W fun e w'=>e = .returned (.bool true)∧Below W.heap.size W w'
theorem Zb0 {P:Program} {W:World} {base:Nat} {sp:Nat→Bool} {held:Bool} : ∀ {ts:List TypeId} {vs:List Value} {ds:List (DataW H)} {ps:List MemPlace},DataW.TrodAll enc P W base sp held ts vs ds ps→ds.length=ts.length∧vs.length=ts.length
  | [],[],[],_,_=>⟨rfl,rfl⟩
  | t::ts,v::vs,d::ds,ps,h=>by
    obtain ⟨p,q,_,h2,_⟩:=h
    have:=Zb0 h2
    simp [this]
  | [],_::_,_,_,h=>h.elim
  | [],[],_::_,_,h=>h.elim
  | _::_,[],_,_,h=>h.elim
  | _::_,_::_,[],_,h=>h.elim
theorem Zr5 {C:Checked} {f:FuncId} {fn:Func} {s:ChangeSpec} {tb:TypeId} (hvars:s.vars = [])
    (hs : ∀ ds:List (DataW H),ds.length=fn.params.size→s.fn H ds = { results:=[.lit (.bool true)],args:=ds }) (hres:fn.resultTypes = #[tb]) (htb:C.prog.underlying tb=some .bool)
    (hl:laidOutB C.prog=true) (hpar:(fn.params.toList.all fun t=>C.prog.readableRec t&&decide (t<C.prog.types.size))=true)
    {W:World} {args:Array Value} {ds gs:List (DataW H)} {before:List MemPlace} (hW:DataW.Whole enc C.prog fn.params.toList s.vars false W args.toList ds gs before)
    (h:LawAt C.prog f args W):Calls C.prog f args W fun e W'=>∃ v,e = .returned v∧s.post enc C.prog fn false true false false W args v W':=by
  have hW':=hW
  have hlt:=hW.lt
  obtain ⟨p,q,hA,hV,rfl,hfz,hnd⟩:=hW
  rw [hvars] at hV
  obtain ⟨rfl,rfl⟩:=trodVars_none hV
  refine h.mono fun e W' ⟨he,bel⟩=>⟨_,he,ds,[],p ++ [],[],p,[],hW',?_,?_,?_,bel.frame _,fun h=>by cases h⟩
  · rw [List.append_nil,hs ds (by simpa using (Zb0 hA).1),hres]
    exact trodAll_mk1 (shut_bool htb true)
  · rw [List.append_nil,hs ds (by simpa using (Zb0 hA).1)]
    exact Zdk hl bel hpar (fun x hx=>hlt x (by simp [hx])) hA
  · rw [List.append_nil,hs ds (by simpa using (Zb0 hA).1),hvars]
    rfl
structure Given (C:Checked) (fn:Func) (W:World) (args:Array Value):Prop where
  wide : ∃ base,∀ (j:Nat) t v,fn.params[j]? = some t→args[j]? = some v→Value.okWide C.prog W .any base t v
  read : ∃ (H:Type) (enc:TypeId×Value→H) (ds:List (DataW H)) (p:List MemPlace),DataW.TrodAll enc C.prog W 0 (fun _=>true) true fn.params.toList args.toList ds p ∧
    ((DataW.weightsEach C.prog fn.params.toList ds).all (· ≤ reachBytes)=true)
theorem law_laid {C:Checked} {os:Os} {f:FuncId} {fn:Func} {s:ChangeSpec} {tb:TypeId} {conds:List PathCond} {laid:List (String×DataW Unit)}
    (own:ownKnob C.prog.godebug=none) (started:os.Started) (noInit:C.prog.inits.idxOf? f=none) (hfn:C.prog.funcs[f]? = some fn) (hvars:s.vars = [])
    (hs : ∀ ds:List (DataW H),ds.length=fn.params.size→s.fn H ds = { results:=[.lit (.bool true)],args:=ds }) (hres:fn.resultTypes = #[tb]) (htb:C.prog.underlying tb=some .bool)
    (hl:laidOutB C.prog=true) (hpar:(fn.params.toList.all fun t=>C.prog.readableRec t&&decide (t<C.prog.types.size))=true)
    (witness : ∃ (w:World) (tape:Tape) (i:Input),w.os=os∧(w.forCall tape i).Shaped C.prog∧i.vars = []∧Input.okWide C.prog (w.forCall tape i) .any w.heap.size f i ∧
      ((s.pre enc C.prog fn conds false (w.forCall tape i).memory i.args∧laidMetH C.prog laid (w.forCall tape i).memory)∧sizedMet enc C.prog fn (OpenSpec.ofChange s) false (w.forCall tape i).memory i.args)∧({}:Assume).holds C.prog (lone (Frame.enter C.prog f i.args .normal) [] (w.forCall tape i)))
    (h : ∀ (W:World) (args:Array Value),laidMetH C.prog laid W→Given C fn W args→LawAt C.prog f args W) :
    ReturnsInHanded {} C os f .any (fun w args=>(s.pre enc C.prog fn conds false w args∧laidMetH C.prog laid w)∧sizedMet enc C.prog fn (OpenSpec.ofChange s) false w args) (s.post enc C.prog fn false true false false):=by
  refine returnsInHanded_of_change_and (X:=fun w _=>laidMetH C.prog laid w) (fun _ _ _ hh h=>h.of_heap hh) own started noInit hfn witness ?_
  intro W base args ds gs before hval hW _ hsz hL _
  refine Zr5 hvars hs hres htb hl hpar hW (h W args hL ⟨⟨base,hval⟩,?_⟩)
  obtain ⟨p,q,hA,hV,rfl,hfz,hnd⟩:=hW
  rw [hvars] at hV
  obtain ⟨rfl,rfl⟩:=trodVars_none hV
  refine ⟨H,enc,ds,p,hA,?_⟩
  simpa [ChangeSpec.plain,DataSpec.varTypes,hvars] using hsz
end
theorem Zj4 {H:Type} {enc:TypeId×Value→H} {P:Program} {W:World} {n:Nat} {t:TypeId} {v:Value} {d:DataW H} {p:List MemPlace} {L:Lay}
    (hL:lay P n t .nil=some L) (h:DataW.Trod enc P W 0 (fun _=>true) true t v d p):Fits W maxLen L v.cells.toList:=by
  obtain ⟨fuel,hf⟩:=h
  have:=Zq4 (Small.all) n t .nil L hL fuel v.cells.toList d p hf trivial [] rfl
  simpa using this
def Open (C:Checked) (W:World) (n:Nat):List TypeId→List Value→Prop
  | [],vs=>vs = []
  | t::ts,vs=>∃ v vs',vs=v::vs'∧(∃ base,Value.okWide C.prog W .any base t v)∧(∀ L,lay C.prog n t .nil=some L→Fits W maxLen L v.cells.toList)∧Open C W n ts vs'
theorem Given.open {C:Checked} {fn:Func} {W:World} {args:Array Value} (h:Given C fn W args) (n:Nat):Open C W n fn.params.toList args.toList:=by
  obtain ⟨⟨base,hw⟩,⟨H,enc,ds,p,hA,_⟩⟩:=h
  have key : ∀ (ts:List TypeId) (vs:List Value) (ds:List (DataW H)) (p:List MemPlace),DataW.TrodAll enc C.prog W 0 (fun _=>true) true ts vs ds p →
      (∀ (j:Nat) t v,ts[j]? = some t→vs[j]? = some v→Value.okWide C.prog W .any base t v)→Open C W n ts vs:=by
    intro ts
    induction ts with
    | nil =>
      intro vs ds p h _
      cases vs with
      | nil=>rfl
      | cons v vs=>cases ds <;> exact h.elim
    | cons t ts ih =>
      intro vs ds p h hv
      cases vs with
      | nil=>cases ds <;> exact h.elim
      | cons v vs =>
        cases ds with
        | nil=>exact h.elim
        | cons d ds =>
          obtain ⟨p1,q1,h1,h2,rfl⟩:=h
          exact ⟨v,vs,rfl,⟨base,hv 0 t v rfl rfl⟩,fun L hL=>Zj4 hL h1,ih vs ds q1 h2 fun j t v h3 h4=>hv (j+1) t v h3 h4⟩
  exact key _ _ ds p hA fun j t v h1 h2=>hw j t v (by simpa using h1) (by simpa using h2)
theorem wide_one {P:Program} {W:World} {base:Nat} {t:TypeId} {v x:Value} (hw:Value.okWide P W .any base t v) (hn:(match P.underlying t with | some (.struct _) | some (.array _ _)=>false | _=>true)=true)
    (h:v.cells.toList = [x]):v=x:=by
  cases v with
  | agg cs =>
    exfalso
    unfold Value.okWide at hw
    split at hw
    · rename_i hu; rw [hu] at hn; cases hn
    · rename_i hu; rw [hu] at hn; cases hn
    · unfold Cell.okWide at hw
      split at hw <;> first | (rename_i h2; cases h2; done) | skip
      simp only [Cell.ok] at hw
      split at hw <;> simp_all
  | _=>simpa [Value.cells] using h
theorem Zj7 {k:IntKind} {cs:List Value} {xs:List Int} (hl:cs.length=xs.length) (h : ∀ i,i<xs.length→cs[i]? = some (.int k (xs.getD i 0))):cs=Z0q k xs.length xs:=by
  apply List.ext_getElem?
  intro i
  by_cases hi:i<xs.length
  · rw [h i hi]
    simp [Z0q,hi]
  · rw [List.getElem?_eq_none (by omega),List.getElem?_eq_none (by simp [Z0q]; omega)]
theorem laid_ints {P:Program} {W:World} {l:List (String×DataW Unit)} (h:laidMet P l W) {name:String} {k:IntKind} {xs:List Int} (hm:(name,DataW.agg (xs.map fun x=>.lit (.int k x)))∈l) {g:Nat} {t e:TypeId} {m:Nat}
    (hg:P.globalNamed name=some g) (ht:(P.globals[g]?).map (·.type)=some t) (hu:P.underlying t=some (.array m e)) (he:P.underlying e=some (.int k)) (hc:P.cellsOf e=1) (hn:P.cellsOf t=m) (h0:0<m) :
    Mem W g 0 [.ints k xs.length xs]:=by
  obtain ⟨ps,hv,-,-⟩:=h
  induction l generalizing ps with
  | nil=>cases hm
  | cons x l ih =>
    obtain ⟨n,d⟩:=x
    obtain ⟨g',t',cs,fuel,p,q,h1,h2,h3,h4,h5,_⟩:=hv
    rcases List.mem_cons.1 hm with hx | hx
    · cases hx
      obtain rfl:g'=g:=Option.some.inj (h1.symm.trans hg)
      obtain rfl:t'=t:=Option.some.inj (h2.symm.trans ht)
      obtain ⟨ys,m',_,hy,hlen,hyl,hel⟩:=DataW.trod_array hu h4
      simp only [Prod.mk.injEq,DataW.agg.injEq] at hy
      have hm':m=xs.length:=by rw [← hyl]; have:=congrArg List.length hy.1; simpa using this.symm
      have hcs:cs.toList=Z0q k xs.length xs:=by
        refine Zj7 (by omega) fun i hi=>?_
        have h6:=hel i (by omega)
        have h7:i<ys.length:=by omega
        rw [List.getElem?_eq_getElem h7] at h6
        obtain ⟨z,h8,h9,_⟩:=DataW.trod_int he h6
        have h10:(ys.map (·.1))[i]? = some (.lit (.int k (xs.getD i 0))):=by rw [← hy.1]; simp [hi]
        rw [List.getElem?_map,List.getElem?_eq_getElem h7,Option.map_some,h9] at h10
        simp only [Option.some.injEq,DataW.lit.injEq,Lit.int.injEq,true_and] at h10
        subst h10
        rw [hc] at h8
        have:=congrArg (fun l=>l[0]?) h8
        simpa using this
      refine Zby (n:=xs.length) (cs:=cs.toList) (fun i hi=>?_) (by rw [hlen,hn,hm']) (by omega) (by rw [hcs]; simp [cells,Seg.cells]) (by simp [width,Seg.width])
      have:=World.var?_cell hg h3 i
      simpa using this
    · exact ih hx _ h5
end Go.Sx
namespace Go.Sx
open Go Go.RowKit
set_option linter.all false
theorem rd_of_SlI {W:World} {k:IntKind} {a:Option Addr} {len cap:Nat} {xs:List Int} (h:SlI W k a cap xs) (hl:len≤cap):RdSl (El.int k) W (slV (a,len,cap)) (xs.take len):=by
  have hx:=h.len
  have hlen:(xs.take len).length=len:=by rw [List.length_take]; omega
  rcases h.at_ with h0 | ⟨b,off,rfl,hm⟩
  · subst h0
    obtain rfl:len=0:=by omega
    cases a with
    | none=>exact .inl ⟨rfl,by simp⟩
    | some a=>exact .inr (.inr ⟨a,rfl,by simp⟩)
  · refine .inr (.inl ⟨b,off,cap,by rw [hlen]; rfl,by omega,fun i hi j hj=>?_⟩)
    rw [hlen] at hi
    obtain rfl:j=0:=by simp only at hj; omega
    have:=hm.cell i (by simp only [width,Seg.width]; omega)
    simp only [cells,Seg.cells,List.append_nil] at this
    simp only [Nat.mul_one,Nat.add_zero]
    rw [this,Z1s (by omega)]
    simp [List.getD_eq_getElem?_getD,List.getElem?_take,hi]
theorem rd_of_SlR {α:Type} {E:El α} {W:World} {a:Option Addr} {len cap:Nat} {g:Nat→List Value} {xs:List α} (h:SlR W E.w a cap g) (hl:len≤cap) (hx:xs.length=len) (hf : ∀ i,i<len→g i=E.cell (xs.getD i E.z)) :
    RdSl E W (slV (a,len,cap)) xs:=by
  rcases h.at_ with h0 | h0 | ⟨b,off,rfl,hm⟩
  · subst h0
    obtain rfl:len=0:=by omega
    have:xs = []:=List.eq_nil_of_length_eq_zero hx
    cases a with
    | none=>exact .inl ⟨rfl,this⟩
    | some a=>exact .inr (.inr ⟨a,rfl,this⟩)
  · exact absurd h0 (by have:=E.pos; omega)
  · refine .inr (.inl ⟨b,off,cap,by rw [hx]; rfl,by omega,fun i hi j hj=>?_⟩)
    rw [hx] at hi
    have hlt:i*E.w+j<cap*E.w:=by
      have:i*E.w+E.w≤cap*E.w:=by rw [← Nat.succ_mul]; exact Nat.mul_le_mul_right E.w (by omega)
      omega
    have:=hm.cell (i*E.w+j) (by simp only [width,Seg.width,Nat.add_zero]; exact hlt)
    simp only [cells,Seg.cells,List.append_nil] at this
    rw [this,Z52 (by omega) hj,Z75 (h.len i (by omega)),hf i hi]
end Go.Sx
