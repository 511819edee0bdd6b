/- Texts of a proof, one behind the other: R8 R10 E10 G5 G6. -/
import Derived.Test.YtiflckckekjbnaaGreatDoorMS7
import Derived.JoinedOf
import Derived.LaidLaws
import Derived.Lay
import Derived.MakeChecks
import Derived.SevenTiedAt
import Derived.ChangeOld
import Derived.SizedLaws
namespace Go.Proofs.YtiflckckekjbnaaGreatDoor
open Go Go.Sx Go.RowKit
set_option linter.all false
set_option maxRecDepth 100000
set_option maxHeartbeats 1000000
theorem Z025 (p:List Int):Zhh p false=some (tk p 0 32):=by kernel_rfl
theorem Z024 (p:List Int):Zhh p true=some (tk p 32 32):=by kernel_rfl
theorem Ztj (p:List Int) (k:List Int→Option (List Int)):Z84 p k big 0 (List.replicate 32 0)=k (tk p 0 32):=by kernel_rfl
theorem Zxw {x:Int} (h0:0≤x) (h1:x<256):IntKind.wrap .u8 (x-Int.tmod x 8)=Z4 .andNot .u8 x 7:=by
  have h : ∀ n:Fin 256,IntKind.wrap .u8 ((n.val:Int)-Int.tmod (n.val:Int) 8)=Z4 .andNot .u8 (n.val:Int) 7:=by decide +kernel
  have:=h ⟨x.toNat,by omega⟩
  have e:((x.toNat:Nat):Int)=x:=by omega
  simp only [e] at this
  exact this
theorem Zxv {x:Int} (h0:0≤x) (h1:x<256):IntKind.wrap .u8 (Int.tmod x 64+64)=Z4 .or .u8 (Z4 .and .u8 x 127) 64:=by
  have h : ∀ n:Fin 256,IntKind.wrap .u8 (Int.tmod (n.val:Int) 64+64)=Z4 .or .u8 (Z4 .and .u8 (n.val:Int) 127) 64:=by decide +kernel
  have:=h ⟨x.toNat,by omega⟩
  have e:((x.toNat:Nat):Int)=x:=by omega
  simp only [e] at this
  exact this
theorem Zw6 {p:List Int} (h:Byt p) (l:p.length=32):Zgi p=some (Zj8 p):=by
  have e0:tk p 0 32=p:=Z96 l
  have b0:=h 0
  have b31:=h 31
  rw [Zgi,Z12,Ztj,e0]
  simp only [Zl]
  rw [Zxw b0.1 b0.2]
  have g31:(Z21 p 0 (Z4 .andNot .u8 (p.getD 0 0) 7)).getD 31 0=p.getD 31 0:=by rw [Z0s,if_neg (by decide)]
  unfold Zj8
  rw [g31,Zxv b31.1 b31.2]
theorem Zsw {p:List Int} (l:p.length=32):(Zj8 p).length=32:=by
  unfold Zj8
  rw [Z42 (by rw [Z42 (by omega)]; omega),Z42 (by omega),l]
noncomputable def Zo5 (s:List Int):List Int:=Zj8 (tk (Zg4 s) 0 32)
noncomputable def Zmy (s:List Int):List Int:=tk (Zg4 s) 32 32
noncomputable def Zq4 (M:List Int):List Int:=byt (Zzu (Zg4 M)%VL)
noncomputable def Zkw (s:List Int):List Int:=Znw (pB (Zo5 s))
noncomputable def rOf (s m:List Int):List Int:=Zq4 (Zmy s++m)
noncomputable def kOf (s m:List Int):List Int:=Zq4 (Znw (pB (rOf s m))++(Zkw s++m))
noncomputable def Z052 (s m:List Int):List Int:=Znw (pB (rOf s m))++byt ((Z9k (kOf s m)*Z9k (Zo5 s)+Z9k (rOf s m))%VL)
theorem Zg7 (s:List Int):Byt (Zo5 s):=Zuq (Zsj (Zdi s) 0 32)
theorem Zve (s:List Int):(Zo5 s).length=32:=Zsw (Z0m _ _ _)
theorem Zoe (s:List Int):Byt (Zmy s):=Zsj (Zdi s) 32 32
theorem Zjp (s:List Int):(Zmy s).length=32:=Z0m _ _ _
theorem Zg8 (M:List Int):Byt (Zq4 M):=Zj5 _
theorem Zo8 (M:List Int):(Zq4 M).length=32:=Z6w _
theorem Zw2 (s m:List Int):Byt (rOf s m):=Zg8 _
theorem Z04o (s m:List Int):(rOf s m).length=32:=Zo8 _
theorem Zv9 (s m:List Int):Byt (kOf s m):=Zg8 _
theorem Z027 (s m:List Int):(kOf s m).length=32:=Zo8 _
theorem Zo3 (s:List Int):Byt (Zkw s):=Zmm _
theorem Zg6 (s:List Int):(Zkw s).length=32:=Z80 _
theorem Z02n {s:List Int} (hs:Byt s) (l:s.length=32):Zan s=some (Zo5 s,Zmy s):=by
  have e0:tk s 0 32=s:=Z96 l
  have e2:tk (tk (Zg4 s) 0 32) 0 32=tk (Zg4 s) 0 32:=Z96 (Z0m _ _ _)
  rw [Zan,e0,Z3 (Z00r (by omega) hs),Zy (by rw [Z0m]; rfl),Zl,e2,Z3 (Zxu _)]
  rfl
theorem byt3 {a b c:List Int} (ha:Byt a) (hb:Byt b) (hc:Byt c) : ∀ i,Byt (([a,b,c]:List (List Int)).getD i []):=by
  intro i
  match i with
  | 0=>exact ha
  | 1=>exact hb
  | 2=>exact hc
  | i+3=>exact Zfh
theorem byt2 {a b:List Int} (ha:Byt a) (hb:Byt b) : ∀ i,Byt (([a,b]:List (List Int)).getD i []):=by
  intro i
  match i with
  | 0=>exact ha
  | 1=>exact hb
  | i+2=>exact Zfh
theorem Z0bs {a m:List Int} (ha:Byt a) (hm:Byt m) (h:a.length+m.length<9223372036854775808):Z7t [a,m]=some (Zq4 (a++m)):=by
  have e:([a,m]:List (List Int)).flatten=a++m:=by simp
  rw [Zrh (byt2 ha hm) (by simp) (by rw [e,List.length_append]; exact h),e]
  rfl
theorem Z0bt {a b m:List Int} (ha:Byt a) (hb:Byt b) (hm:Byt m) (h:a.length+(b.length+m.length)<9223372036854775808):Z7t [a,b,m]=some (Zq4 (a++(b++m))):=by
  have e:([a,b,m]:List (List Int)).flatten=a++(b++m):=by simp
  rw [Zrh (byt3 ha hb hm) (by simp) (by rw [e,List.length_append,List.length_append]; exact h),e]
  rfl
theorem Z10h {s m:List Int} (hs:Byt s) (l:s.length=32) (hm:Byt m) (lm:m.length<9223372036854775000):Zeh s m=some (Z052 s m):=by
  obtain ⟨q,eq1,rq⟩:=Zjk (Zg7 s)
  obtain ⟨q2,eq2,rq2⟩:=Zjk (Zg8 (Zmy s++m))
  have hk:=Z0bt (Zmm (pB (rOf s m))) (Zo3 s) hm (by rw [Z80,Zg6]; omega)
  rw [Zeh,Z3 (Z02n hs l)]
  dsimp only
  rw [Z3 eq1,Z3 (Zlg rq),Z3 (Z0bs (Zoe s) hm (by rw [Zjp]; omega)),Z3 eq2,Z3 (Zlg rq2),Z12,Zsk,Zsk]
  show opt (Z7t [Znw (pB (rOf s m)),Zkw s,m]) _=_
  rw [Z3 hk]
  show opt (Z69 (kOf s m) (Zo5 s) (rOf s m)) _=_
  rw [Z3 (Zqe (Zv9 s m) (Zg7 s) (Zw2 s m)),Zl,Zl,Z96 (Z6w _)]
  show some (wr (wr (List.replicate 64 0) 0 ((Znw (pB (rOf s m))).take 32)) 32 ((byt _).take (64-32)))=_
  rw [Z0v1 (Z80 _) (Z6w _)]
  rfl
theorem Zwe {a b c:List Int} (h:a.length+b.length+c.length≤140737488355328):Zaf a b c=some (a++(b++c)):=by
  rw [Zaf,Zy (by simp; omega),Zl,List.nil_append,Zy (by simp; omega),Zl,Zy (by simp; omega),Zl,List.append_assoc]
theorem Zk8 {s:List Int} (hs:Byt s) (l:s.length=32):Z68 s=some (Zo5 s):=by
  have e0:tk s 0 32=s:=Z96 l
  rw [Z68,e0,Z3 (Ziu (by omega) hs),Z3 (Z025 _),Z3 (Zw6 (Zsj (Zdi s) 0 32) (Z0m _ _ _))]
  rfl
theorem Z04z {s:List Int} (hs:Byt s) (l:s.length=32):Ze5 s=some (Zkw s):=by
  obtain ⟨q,eq1,rq⟩:=Zs4 (Zg7 s)
  rw [Ze5,Z3 (Zk8 hs l),Z3 eq1,Z3 (Zw9 rq)]
  rfl
theorem Zz7 (a b:List Int) (k:List Int→Option (List Int)):Z9p a b k big 0 (List.replicate 64 0)=k (tk a 0 32++tk b 0 32):=by kernel_rfl
theorem rred (M:List Int):Zad (Zg4 M)=some (Zq4 M):=Z04p (Zdi _) (Zv2 _)
theorem Z17l {s m:List Int} (hs:Byt s) (l:s.length=32) (hm:Byt m) (lm:m.length+209≤140737488355328):Zk3 s m=some (Z052 s m):=by
  have e0:tk s 0 32=s:=Z96 l
  obtain ⟨q2,eq2,rq2⟩:=Zs4 (Zg8 (Zmy s++m))
  have ep:tk (tk (Zg4 s) 32 32) 0 32=Zmy s:=Z96 (Z0m _ _ _)
  have ek:tk (Zkw s) 0 32=Zkw s:=Z96 (Zg6 s)
  have b1:Byt (Zmy s++m):=Zb0 (Zoe s) hm
  have b2:Byt (Znw (pB (rOf s m))++(Zkw s++m)):=Zb0 (Zmm _) (Zb0 (Zo3 s) hm)
  have l1:(Zmy s++m).length+145≤140737488355328:=by rw [List.length_append,Zjp]; omega
  have l2:(Znw (pB (rOf s m))++(Zkw s++m)).length+145≤140737488355328:=by rw [List.length_append,List.length_append,Z80,Zg6]; omega
  rw [Zk3,Z3 (Zk8 hs l),Z3 (Z04z hs l),e0,Z3 (Ziu (by omega) hs),Z3 (Z024 _),ep,Z3 (Zwe (by rw [Zjp]; simp; omega)),List.append_nil]
  rw [Z3 (Ziu l1 b1),Z3 (rred _),Z3 eq2,Z3 (Zw9 rq2),Z12,Zsk,ek]
  show opt (Zaf (Znw (pB (rOf s m))) (Zkw s) m) _=_
  rw [Z3 (Zwe (by rw [Z80,Zg6]; omega)),Z3 (Ziu l2 b2),Z3 (rred _)]
  show opt (Zbs (kOf s m) (Zo5 s) (rOf s m)) _=_
  rw [Z3 (Z04n (Zv9 s m) (Zg7 s) (Zw2 s m) (Z027 s m) (Zve s) (Z04o s m)),Z12,Zz7]
  show some (tk (Znw (pB (rOf s m))) 0 32++tk (byt _) 0 32)=_
  rw [Zsk,Z96 (Z6w _)]
  rfl
def Zbh (l:Z1q):Bool:=decide (1≤l.gEpoch)&&decide (l.gEpoch≤64)
def Zd5 (l:Z1q):List Int:=if Zbh l=true then [70,66,1,11,0,0,0,l.gEpoch]++tk l.gKey 0 32 else []
theorem Zgp (l:Z1q):(Zd5 l).length≤40:=by
  unfold Zd5
  split
  · rw [List.length_append,Z0m]; simp
  · simp
theorem Zpa {l:Z1q} (h:Byt l.gKey):Byt (Zd5 l):=by
  unfold Zd5
  split
  · rename_i hi
    simp only [Zbh,Bool.and_eq_true,decide_eq_true_eq] at hi
    refine Zb0 ?_ (Zsj h 0 32)
    intro i
    match i with
    | 0 | 1 | 2 | 3 | 4 | 5 | 6=>simp
    | 7=>show 0≤l.gEpoch∧l.gEpoch<256; omega
    | i+8=>show (0:Int)≤0∧(0:Int)<256; decide
  · exact Zfh
theorem Z00n {e:Int} (h0:1≤e) (h1:e≤64):IntKind.wrap .u32 e=e∧Z3p e=some [0,0,0,e]∧Zos e=some [0,0,0,e]:=by
  have h : ∀ n:Fin 65,IntKind.wrap .u32 (n.val:Int)=(n.val:Int)∧Z3p (n.val:Int)=some [0,0,0,(n.val:Int)]∧Zos (n.val:Int)=some [0,0,0,(n.val:Int)]:=by decide +kernel
  have:=h ⟨e.toNat,by omega⟩
  have e2:((e.toNat:Nat):Int)=e:=by omega
  simp only [e2] at this
  exact this
theorem Z002 {b xs:List Int} (h:b.length+xs.length≤140737488355328):Z4l ⟨b,0⟩ xs=some ⟨b++xs,0⟩:=by
  rw [Z4l,Z15 (by rfl),Zy (by simpa using h),Zl]
theorem Zra {b xs:List Int} (h:b.length+xs.length≤140737488355328):Z3n ⟨b,0⟩ xs=some ⟨b++xs,0⟩:=by
  rw [Z3n,Z3 (Z002 h)]
theorem Z009 {b xs:List Int} (h:b.length+xs.length≤140737488355328):Z9q ⟨b,0⟩ xs=some ⟨b++xs,0⟩:=by
  rw [Z9q,Z15 (by rfl),Zy (by simp; omega),Zl,Zy (by simpa using h),Zl,List.nil_append]
theorem Zo9 {b xs:List Int} (h:b.length+xs.length≤140737488355328):Z76 ⟨b,0⟩ xs=some ⟨b++xs,0⟩:=by
  rw [Z76,Z3 (Z009 h)]
theorem Zn9 {l:Z1q}:((decide (l.gEpoch<1))||(decide (l.gEpoch>64))) = !Zbh l:=by
  have h:((decide (l.gEpoch<1))||(decide (l.gEpoch>64)))=true↔(!Zbh l)=true   := by simp [Zbh]; try omega
  exact Bool.eq_iff_iff.2 h
theorem psay (l:Z1q):Z77 l=some (!Zbh l,Zd5 l):=by
  have hl:(tk l.gKey 0 32).length=32:=Z0m _ _ _
  rw [Z77,Zn9]
  unfold Zd5
  cases hi:Zbh l
  · rfl
  · have h2:1≤l.gEpoch∧l.gEpoch≤64:=by simpa [Zbh] using hi
    obtain ⟨e1,e2,_⟩:=Z00n h2.1 h2.2
    rw [Z0x (by rfl),Z3 (show Z8e=some ⟨[],0⟩ from rfl),Z3 (show Zgs 11=some (false,[70,66,1,11]) by kernel_rfl),Z3 (Zra (by simp)),Zl,e1]
    rw [Z7u,e2,Z3 rfl,Z3 (Z002 (by simp)),Z3 rfl,Z3 (Zra (by simp [hl])),Z6o,Z0x (by rfl)]
    rw [Zy (by simp [hl]),Zl,Z3 rfl,Zy (by simp [hl])]
    rfl
theorem rsay (l:Z1q):Z1o l=some (Zd5 l):=by
  have hl:(tk l.gKey 0 32).length=32:=Z0m _ _ _
  rw [Z1o,Zn9]
  unfold Zd5
  cases hi:Zbh l
  · rfl
  · have h2:1≤l.gEpoch∧l.gEpoch≤64:=by simpa [Zbh] using hi
    obtain ⟨e1,_,e3⟩:=Z00n h2.1 h2.2
    rw [Z0x (by rfl),Z3 (show Zn6 11=some [70,66,1,11] by kernel_rfl),Z3 (Zo9 (by simp)),Zl,e1]
    rw [Zev,e3,Z3 rfl,Z3 (Z009 (by simp)),Z3 rfl,Z3 (Zo9 (by simp [hl]))]
    rfl
noncomputable def Zpb (s:List Int) (e:Int) (k:List Int):Z1q×Bool :=
  if Zbh ⟨e,k,List.replicate 64 0⟩=true then (⟨e,k,Z052 s (Zd5 ⟨e,k,List.replicate 64 0⟩)⟩,true) else (⟨0,List.replicate 32 0,List.replicate 64 0⟩,false)
theorem Z10g {s k:List Int} {e:Int} (hs:Byt s) (l:s.length=32) (hk:Byt k):Zai s e k=some (Zpb s e k):=by
  have hL:=Zgp ⟨e,k,List.replicate 64 0⟩
  rw [Zai,psay,Z3 rfl]
  unfold Zpb
  cases hi:Zbh ⟨e,k,List.replicate 64 0⟩
  · rfl
  · dsimp only
    rw [Z0x (by rfl),Z3 (Z10h hs l (Zpa (l:=⟨e,k,List.replicate 64 0⟩) hk) (by omega))]
    rfl
theorem Z17k {s k:List Int} {e:Int} (hs:Byt s) (l:s.length=32) (hk:Byt k):Z49 s e k=some (Zpb s e k):=by
  have hL:=Zgp ⟨e,k,List.replicate 64 0⟩
  have hr:=Zn9 (l:=⟨e,k,List.replicate 64 0⟩)
  dsimp only at hr
  rw [Z49,hr,rsay]
  unfold Zpb
  cases hi:Zbh ⟨e,k,List.replicate 64 0⟩
  · rfl
  · rw [Z0x (by rfl),Z3 rfl,Z3 (Z17l hs l (Zpa (l:=⟨e,k,List.replicate 64 0⟩) hk) (by omega))]
    rfl
theorem Zsa {p:List Int} {k:Unit→Option Bool} (hb:p.length≤140737488355328) : ∀ (d f:Nat),d≤p.length→Z1v p p k (f+1+d) ((p.length:Int)-(d:Int))=k ()
  | 0,f,_=>by
    show Z1u p p k _ _=_
    rw [Z1u,Z0x (decide_eq_false (by omega))]
  | d+1,f,hd=>by
    show Z1u p p k (Z1v p p k (f+1+d)) _=_
    have e:IntKind.wrap .i64 ((p.length:Int)-((d+1:Nat):Int)+1)=(p.length:Int)-(d:Int):=by rw [Ze (by omega) (by omega)]; omega
    rw [Z1u,Z15 (decide_eq_true (by omega)),Zy (Z0n (by omega) (by omega)),Zy (Z0n (by omega) (by omega)),Zl,Zl,Z0x (by simp),Zl,e]
    exact Zsa hb d f (by omega)
theorem Zkc {p:List Int} (hb:p.length≤140737488355328):Z1r p p=some true:=by
  obtain ⟨f,hf⟩ : ∃ f,big=f+1+p.length:=⟨18446744073709551615-p.length,by have:big=18446744073709551616:=Z19; omega⟩
  have h1:=Zsa (k:=fun _=>some true) hb p.length f (Nat.le_refl _)
  rw [show (p.length:Int)-(p.length:Int)=0 by omega,← hf] at h1
  rw [Z1r,Z0x (by simp),Z12]
  exact h1
theorem Zls (k:List Int→Option Bool) : ∀ (d f:Nat) (l:List Int),d≤64→l.length+d≤140737488355328→Z1k k (f+1+d) l (64-(d:Int))=k (l++List.replicate d 33)
  | 0,f,l,_,_=>by
    show Z1h k _ l (64-((0:Nat):Int))=_
    rw [Z1h,Z0x (decide_eq_false (by omega)),List.replicate_zero,List.append_nil]
  | d+1,f,l,hd,hl=>by
    show Z1h k (Z1k k (f+1+d)) l (64-((d+1:Nat):Int))=_
    have e:IntKind.wrap .i64 (64-((d+1:Nat):Int)+1)=64-(d:Int):=by rw [Ze (by omega) (by omega)]; omega
    rw [Z1h,Z15 (decide_eq_true (by omega)),Zy (by simp; omega),Zl,Zl,e,Zls k d f (l ++ [33]) (by omega) (by simp; omega),List.append_assoc]
    rfl
theorem Zlt (k:List Int→Option Bool) : ∀ (d f:Nat) (l:List Int),d≤64→l.length+d≤140737488355328→Z1l k (f+1+d) l (64-(d:Int))=k (l++List.replicate d 34)
  | 0,f,l,_,_=>by
    show Z1i k _ l (64-((0:Nat):Int))=_
    rw [Z1i,Z0x (decide_eq_false (by omega)),List.replicate_zero,List.append_nil]
  | d+1,f,l,hd,hl=>by
    show Z1i k (Z1l k (f+1+d)) l (64-((d+1:Nat):Int))=_
    have e:IntKind.wrap .i64 (64-((d+1:Nat):Int)+1)=64-(d:Int):=by rw [Ze (by omega) (by omega)]; omega
    rw [Z1i,Z15 (decide_eq_true (by omega)),Zy (by simp; omega),Zl,Zl,e,Zlt k d f (l ++ [34]) (by omega) (by simp; omega),List.append_assoc]
    rfl
theorem Zlu {l:List Int} {k:Unit→Option Bool} {n:Nat} (hb:l.length≤140737488355400) (he : ∀ i,n≤i→i<l.length→l.getD i 0=33) :
    ∀ (d f:Nat),d+n≤l.length→Z1m l k (f+1+d) ((l.length:Int)-(d:Int))=k ()
  | 0,f,_=>by
    show Z1j l k _ _=_
    rw [Z1j,Z0x (decide_eq_false (by omega))]
  | d+1,f,hd=>by
    show Z1j l k (Z1m l k (f+1+d)) _=_
    have e:IntKind.wrap .i64 ((l.length:Int)-((d+1:Nat):Int)+1)=(l.length:Int)-(d:Int):=by rw [Ze (by omega) (by omega)]; omega
    rw [Z1j,Z15 (decide_eq_true (by omega)),Zy (Z0n (by omega) (by omega)),Zl,he _ (by omega) (by omega),Z0x (by simp),Zl,e]
    exact Zlu hb he d f (by omega)
theorem Zs5 {a b:List Int} (ha:a.length+64≤140737488355328) (hb:b.length+64≤140737488355328):Z3a a b=some true:=by
  obtain ⟨f,hf⟩ : ∃ f,big=f+1+64:=⟨18446744073709551551,Z19⟩
  have h1:=fun k=>Zls k 64 f a (Nat.le_refl _) ha
  have h2:=fun k=>Zlt k 64 f b (Nat.le_refl _) hb
  have h3:=fun k=>@Zlu (a++List.replicate 64 33) k a.length (by simp; omega) (fun i h1 h2=>by
    simp only [List.getD_eq_getElem?_getD]
    rw [List.getElem?_append_right h1,List.getElem?_replicate,if_pos (by simp at h2; omega)]; rfl) 64 f (by simp; omega)
  rw [← hf] at h1 h2 h3
  rw [show (64:Int)-((64:Nat):Int)=0 by omega] at h1 h2
  rw [show (((a++List.replicate 64 (33:Int)).length:Nat):Int)-((64:Nat):Int)=(a.length:Int) by simp] at h3
  rw [Z3a,Z12,h1,Z12,h2,Z12,h3,Zl,Ze (by omega) (by omega)]
  simp
theorem Zm1 {k:List Int→Option Bool} {R:Option Bool} {n:Nat} (hn:n≤140737488355328) (hk : ∀ l,l.length=n→k l=R) : ∀ (d f:Nat) (l:List Int),l.length=n→d≤n→Z0f k (f+1+d) l ((n:Int)-(d:Int))=R
  | 0,f,l,hl,_=>by
    show Z0o k _ l _=_
    rw [Z0o,Z0x (decide_eq_false (by omega))]
    exact hk l hl
  | d+1,f,l,hl,hd=>by
    show Z0o k (Z0f k (f+1+d)) l _=_
    have e:IntKind.wrap .i64 ((n:Int)-((d+1:Nat):Int)+1)=(n:Int)-(d:Int):=by rw [Ze (by omega) (by omega)]; omega
    rw [Z0o,Z15 (decide_eq_true (by omega)),Zy (Z0n (by omega) (by omega)),Zl,Zl,e]
    exact Zm1 hn hk d f _ (by rw [Zb8 (by omega),List.length_set]; exact hl) (by omega)
theorem Zm2 (k:List Int→Option Bool) : ∀ (d f:Nat) (l:List Int),d≤200→l.length+d≤140737488355328→Z0q k (f+1+d) l (200-(d:Int))=k (l++List.replicate d 68)
  | 0,f,l,_,_=>by
    show Z0p k _ l (200-((0:Nat):Int))=_
    rw [Z0p,Z0x (decide_eq_false (by omega)),List.replicate_zero,List.append_nil]
  | d+1,f,l,hd,hl=>by
    show Z0p k (Z0q k (f+1+d)) l (200-((d+1:Nat):Int))=_
    have e:IntKind.wrap .i64 (200-((d+1:Nat):Int)+1)=200-(d:Int):=by rw [Ze (by omega) (by omega)]; omega
    rw [Z0p,Z15 (decide_eq_true (by omega)),Zy (by simp; omega),Zl,Zl,e,Zm2 k d f (l ++ [68]) (by omega) (by simp; omega),List.append_assoc]
    rfl
theorem rotateSeals_eq {s k:List Int} {e:Int} {x:Z1q} (hs:Byt s) (l:s.length=32) (hk:Byt k):Z39 s e k x=some true:=by
  have hx:=Zgp x
  have hy:=Zgp (Zpb s e k).1
  obtain ⟨f,hf⟩ : ∃ f,big=f+1+(Zd5 x).length:=⟨18446744073709551615-(Zd5 x).length,by have:big=18446744073709551616:=Z19; omega⟩
  obtain ⟨g,hg⟩ : ∃ f,big=f+1+200:=⟨18446744073709551415,Z19⟩
  rw [Z39,Z3 (Z10g hs l hk),Z3 (Z17k hs l hk),Z0x (by simp [ieq]),Z3 (psay x),Z3 (psay _),Z3 (psay x),Z12]
  dsimp only
  rw [Z3 (rsay x),Z3 (Zkc (by omega)),Z0x (by rfl),Z3 (rsay _),Z3 (Zkc (by omega)),Z0x (by rfl),Z3 (rsay x),Z3 (Zkc (by omega))]
  show br false _ _=_
  rw [Z0x (by rfl),Z12]
  have key : ∀ (k0:List Int→Option Bool) (R:Option Bool),(∀ l,l.length=(Zd5 x).length→k0 l=R)→Z0f k0 big (Zd5 x) 0=R:=by
    intro k0 R hk0
    have:=Zm1 (n:=(Zd5 x).length) (by omega) hk0 (Zd5 x).length f (Zd5 x) rfl (Nat.le_refl _)
    rwa [show ((Zd5 x).length:Int)-((Zd5 x).length:Int)=0 by omega,← hf] at this
  refine key _ _ fun l127 hl=>?_
  have h2:=fun k0=>Zm2 k0 200 g l127 (Nat.le_refl _) (by omega)
  rw [← hg,show (200:Int)-((200:Nat):Int)=0 by omega] at h2
  rw [Z12,h2,Z12,Zl,Ze (by omega) (by omega),Z15 (by simp),Z3 (rsay _),Z3 (Zkc (by omega)),Z15 (by rfl),Z3 (rsay x),Z3 (Zkc (by omega)),Z15 (by rfl),Z3 (Zs5 (by omega) (by omega)),Z15 (by rfl),Z3 (Zs5 (by omega) (by omega))]
end Go.Proofs.YtiflckckekjbnaaGreatDoor
namespace Go.Sx
open Go Go.RowKit Go.ChangeShapes
set_option linter.all false
section
variable {H:Type} {enc:TypeId×Value→H}
theorem Zfx {P:Program} (hl:laidOutB P=true) {W W':World} (hb:Below W.heap.size W W') :
    ∀ {ts:List TypeId} {vs:List Value} {ds:List (DataW H)} {ps:List MemPlace},(ts.all fun t=>P.readableRec t&&decide (t<P.types.size))=true→(∀ x∈ps,x.block<W.heap.size) →
      DataW.TrodAll enc P W 0 (fun _=>true) true ts vs ds ps→DataW.TrodAll enc P W' 0 (fun b=>decide (b<W.heap.size)) true ts vs ds ps
  | [],[],[],_,_,_,h=>h
  | t::ts,v::vs,d::ds,ps,hr,hlt,h=>by
    obtain ⟨p,q,h1,h2,rfl⟩:=h
    simp only [List.all_cons,Bool.and_eq_true,decide_eq_true_eq] at hr
    exact ⟨p,q,Below.trod hl hr.1.1 hr.1.2 h1 hb (fun x hx=>hlt x (by simp [hx])),Zfx hl hb hr.2 (fun x hx=>hlt x (by simp [hx])) h2,rfl⟩
  | [],_::_,_,_,_,_,h=>h.elim
  | [],[],_::_,_,_,_,h=>h.elim
  | _::_,[],_,_,_,_,h=>h.elim
  | _::_,_::_,[],_,_,_,h=>h.elim
def LawAt (P:Program) (f:FuncId) (args:Array Value) (W:World):Prop:=Calls P f args W fun e w'=>e = .returned (.bool true)∧Below W.heap.size W w'
theorem Zcs {P:Program} {W:World} {base:Nat} {sp:Nat→Bool} {held:Bool} : ∀ {ts:List TypeId} {vs:List Value} {ds:List (DataW H)} {ps:List MemPlace},DataW.TrodAll enc P W base sp held ts vs ds ps→ds.length=ts.length∧vs.length=ts.length
  | [],[],[],_,_=>⟨rfl,rfl⟩
  | t::ts,v::vs,d::ds,ps,h=>by
    obtain ⟨p,q,_,h2,_⟩:=h
    have:=Zcs h2
    simp [this]
  | [],_::_,_,_,h=>h.elim
  | [],[],_::_,_,h=>h.elim
  | _::_,[],_,_,h=>h.elim
  | _::_,_::_,[],_,h=>h.elim
theorem Zy5 {C:Checked} {f:FuncId} {fn:Func} {s:ChangeSpec} {tb:TypeId} (hvars:s.vars = [])
    (hs : ∀ ds:List (DataW H),ds.length=fn.params.size→s.fn H ds = { results:=[.lit (.bool true)],args:=ds }) (hres:fn.resultTypes = #[tb]) (htb:C.prog.underlying tb=some .bool)
    (hl:laidOutB C.prog=true) (hpar:(fn.params.toList.all fun t=>C.prog.readableRec t&&decide (t<C.prog.types.size))=true)
    {W:World} {args:Array Value} {ds gs:List (DataW H)} {before:List MemPlace} (hW:DataW.Whole enc C.prog fn.params.toList s.vars false W args.toList ds gs before)
    (h:LawAt C.prog f args W):Calls C.prog f args W fun e W'=>∃ v,e = .returned v∧s.post enc C.prog fn false true false false W args v W':=by
  have hW':=hW
  have hlt:=hW.lt
  obtain ⟨p,q,hA,hV,rfl,hfz,hnd⟩:=hW
  rw [hvars] at hV
  obtain ⟨rfl,rfl⟩:=trodVars_none hV
  refine h.mono fun e W' ⟨he,bel⟩=>⟨_,he,ds,[],p ++ [],[],p,[],hW',?_,?_,?_,bel.frame _,fun h=>by cases h⟩
  · rw [List.append_nil,hs ds (by simpa using (Zcs hA).1),hres]
    exact trodAll_mk1 (shut_bool htb true)
  · rw [List.append_nil,hs ds (by simpa using (Zcs hA).1)]
    exact Zfx hl bel hpar (fun x hx=>hlt x (by simp [hx])) hA
  · rw [List.append_nil,hs ds (by simpa using (Zcs hA).1),hvars]
    rfl
structure Given (C:Checked) (fn:Func) (W:World) (args:Array Value):Prop where
  wide : ∃ base,∀ (j:Nat) t v,fn.params[j]? = some t→args[j]? = some v→Value.okWide C.prog W .any base t v
  read : ∃ (H:Type) (enc:TypeId×Value→H) (ds:List (DataW H)) (p:List MemPlace),DataW.TrodAll enc C.prog W 0 (fun _=>true) true fn.params.toList args.toList ds p ∧
    ((DataW.weightsEach C.prog fn.params.toList ds).all (· ≤ reachBytes)=true)
theorem law_laid {C:Checked} {os:Os} {f:FuncId} {fn:Func} {s:ChangeSpec} {tb:TypeId} {conds:List PathCond} {laid:List (String×DataW Unit)}
    (own:ownKnob C.prog.godebug=none) (started:os.Started) (noInit:C.prog.inits.idxOf? f=none) (hfn:C.prog.funcs[f]? = some fn) (hvars:s.vars = [])
    (hs : ∀ ds:List (DataW H),ds.length=fn.params.size→s.fn H ds = { results:=[.lit (.bool true)],args:=ds }) (hres:fn.resultTypes = #[tb]) (htb:C.prog.underlying tb=some .bool)
    (hl:laidOutB C.prog=true) (hpar:(fn.params.toList.all fun t=>C.prog.readableRec t&&decide (t<C.prog.types.size))=true)
    (witness : ∃ (w:World) (tape:Tape) (i:Input),w.os=os∧(w.forCall tape i).Shaped C.prog∧i.vars = []∧Input.okWide C.prog (w.forCall tape i) .any w.heap.size f i ∧
      ((s.pre enc C.prog fn conds false (w.forCall tape i).memory i.args∧laidMetH C.prog laid (w.forCall tape i).memory)∧sizedMet enc C.prog fn (OpenSpec.ofChange s) false (w.forCall tape i).memory i.args)∧({}:Assume).holds C.prog (lone (Frame.enter C.prog f i.args .normal) [] (w.forCall tape i)))
    (h : ∀ (W:World) (args:Array Value),laidMetH C.prog laid W→Given C fn W args→LawAt C.prog f args W) :
    ReturnsInHanded {} C os f .any (fun w args=>(s.pre enc C.prog fn conds false w args∧laidMetH C.prog laid w)∧sizedMet enc C.prog fn (OpenSpec.ofChange s) false w args) (s.post enc C.prog fn false true false false):=by
  refine returnsInHanded_of_change_and (X:=fun w _=>laidMetH C.prog laid w) (fun _ _ _ hh h=>h.of_heap hh) own started noInit hfn witness ?_
  intro W base args ds gs before hval hW _ hsz hL _
  refine Zy5 hvars hs hres htb hl hpar hW (h W args hL ⟨⟨base,hval⟩,?_⟩)
  obtain ⟨p,q,hA,hV,rfl,hfz,hnd⟩:=hW
  rw [hvars] at hV
  obtain ⟨rfl,rfl⟩:=trodVars_none hV
  refine ⟨H,enc,ds,p,hA,?_⟩
  simpa [ChangeSpec.plain,DataSpec.varTypes,hvars] using hsz
end
theorem Zny {H:Type} {enc:TypeId×Value→H} {P:Program} {W:World} {n:Nat} {t:TypeId} {v:Value} {d:DataW H} {p:List MemPlace} {L:Lay}
    (hL:lay P n t .nil=some L) (h:DataW.Trod enc P W 0 (fun _=>true) true t v d p):Fits W maxLen L v.cells.toList:=by
  obtain ⟨fuel,hf⟩:=h
  have:=Zx6 (Small.all) n t .nil L hL fuel v.cells.toList d p hf trivial [] rfl
  simpa using this
def Open (C:Checked) (W:World) (n:Nat):List TypeId→List Value→Prop
  | [],vs=>vs = []
  | t::ts,vs=>∃ v vs',vs=v::vs'∧(∃ base,Value.okWide C.prog W .any base t v)∧(∀ L,lay C.prog n t .nil=some L→Fits W maxLen L v.cells.toList)∧Open C W n ts vs'
theorem Given.open {C:Checked} {fn:Func} {W:World} {args:Array Value} (h:Given C fn W args) (n:Nat):Open C W n fn.params.toList args.toList:=by
  obtain ⟨⟨base,hw⟩,⟨H,enc,ds,p,hA,_⟩⟩:=h
  have key : ∀ (ts:List TypeId) (vs:List Value) (ds:List (DataW H)) (p:List MemPlace),DataW.TrodAll enc C.prog W 0 (fun _=>true) true ts vs ds p →
      (∀ (j:Nat) t v,ts[j]? = some t→vs[j]? = some v→Value.okWide C.prog W .any base t v)→Open C W n ts vs:=by
    intro ts
    induction ts with
    | nil =>
      intro vs ds p h _
      cases vs with
      | nil=>rfl
      | cons v vs=>cases ds <;> exact h.elim
    | cons t ts ih =>
      intro vs ds p h hv
      cases vs with
      | nil=>cases ds <;> exact h.elim
      | cons v vs =>
        cases ds with
        | nil=>exact h.elim
        | cons d ds =>
          obtain ⟨p1,q1,h1,h2,rfl⟩:=h
          exact ⟨v,vs,rfl,⟨base,hv 0 t v rfl rfl⟩,fun L hL=>Zny hL h1,ih vs ds q1 h2 fun j t v h3 h4=>hv (j+1) t v h3 h4⟩
  exact key _ _ ds p hA fun j t v h1 h2=>hw j t v (by simpa using h1) (by simpa using h2)
theorem wide_one {P:Program} {W:World} {base:Nat} {t:TypeId} {v x:Value} (hw:Value.okWide P W .any base t v) (hn:(match P.underlying t with | some (.struct _) | some (.array _ _)=>false | _=>true)=true)
    (h:v.cells.toList = [x]):v=x:=by
  cases v with
  | agg cs =>
    exfalso
    unfold Value.okWide at hw
    split at hw
    · rename_i hu; rw [hu] at hn; cases hn
    · rename_i hu; rw [hu] at hn; cases hn
    · unfold Cell.okWide at hw
      split at hw <;> first | (rename_i h2; cases h2; done) | skip
      simp only [Cell.ok] at hw
      split at hw <;> simp_all
  | _=>simpa [Value.cells] using h
theorem wide_agg {P:Program} {W:World} {base:Nat} {t:TypeId} {v:Value} (hw:Value.okWide P W .any base t v) (hn:(match P.underlying t with | some (.struct _) | some (.array _ _)=>true | _=>false)=true):v = .agg v.cells.toList.toArray:=by
  unfold Value.okWide at hw
  split at hw
  · obtain ⟨cs,rfl,_⟩:=hw; simp [Value.cells]
  · obtain ⟨cs,rfl,_⟩:=hw; simp [Value.cells]
  · rename_i h1 h2
    split at hn
    · rename_i hu; exact absurd hu (h1 _)
    · rename_i hu; exact absurd hu (h2 _ _)
    · cases hn
theorem Zo0 {k:IntKind} {cs:List Value} {xs:List Int} (hl:cs.length=xs.length) (h : ∀ i,i<xs.length→cs[i]? = some (.int k (xs.getD i 0))):cs=intsCells k xs.length xs:=by
  apply List.ext_getElem?
  intro i
  by_cases hi:i<xs.length
  · rw [h i hi]
    simp [intsCells,hi]
  · rw [List.getElem?_eq_none (by omega),List.getElem?_eq_none (by simp [intsCells]; omega)]
theorem laid_ints {P:Program} {W:World} {l:List (String×DataW Unit)} (h:laidMet P l W) {name:String} {k:IntKind} {xs:List Int} (hm:(name,DataW.agg (xs.map fun x=>.lit (.int k x)))∈l) {g:Nat} {t e:TypeId} {m:Nat}
    (hg:P.globalNamed name=some g) (ht:(P.globals[g]?).map (·.type)=some t) (hu:P.underlying t=some (.array m e)) (he:P.underlying e=some (.int k)) (hc:P.cellsOf e=1) (hn:P.cellsOf t=m) (h0:0<m) :
    Mem W g 0 [.ints k xs.length xs]:=by
  obtain ⟨ps,hv,-,-⟩:=h
  induction l generalizing ps with
  | nil=>cases hm
  | cons x l ih =>
    obtain ⟨n,d⟩:=x
    obtain ⟨g',t',cs,fuel,p,q,h1,h2,h3,h4,h5,_⟩:=hv
    rcases List.mem_cons.1 hm with hx | hx
    · cases hx
      obtain rfl:g'=g:=Option.some.inj (h1.symm.trans hg)
      obtain rfl:t'=t:=Option.some.inj (h2.symm.trans ht)
      obtain ⟨ys,m',_,hy,hlen,hyl,hel⟩:=DataW.trod_array hu h4
      simp only [Prod.mk.injEq,DataW.agg.injEq] at hy
      have hm':m=xs.length:=by rw [← hyl]; have:=congrArg List.length hy.1; simpa using this.symm
      have hcs:cs.toList=intsCells k xs.length xs:=by
        refine Zo0 (by omega) fun i hi=>?_
        have h6:=hel i (by omega)
        have h7:i<ys.length:=by omega
        rw [List.getElem?_eq_getElem h7] at h6
        obtain ⟨z,h8,h9,_⟩:=DataW.trod_int he h6
        have h10:(ys.map (·.1))[i]? = some (.lit (.int k (xs.getD i 0))):=by rw [← hy.1]; simp [hi]
        rw [List.getElem?_map,List.getElem?_eq_getElem h7,Option.map_some,h9] at h10
        simp only [Option.some.injEq,DataW.lit.injEq,Lit.int.injEq,true_and] at h10
        subst h10
        rw [hc] at h8
        have:=congrArg (fun l=>l[0]?) h8
        simpa using this
      refine Zdl (n:=xs.length) (cs:=cs.toList) (fun i hi=>?_) (by rw [hlen,hn,hm']) (by omega) (by rw [hcs]; simp [cells,Seg.cells]) (by simp [width,Seg.width])
      have:=World.var?_cell hg h3 i
      simpa using this
    · exact ih hx _ h5
end Go.Sx
namespace Go.Sx
open Go Go.RowKit
set_option linter.all false
end Go.Sx
