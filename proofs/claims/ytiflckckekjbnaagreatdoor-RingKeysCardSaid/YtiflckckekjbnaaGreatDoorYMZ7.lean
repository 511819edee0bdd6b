/- Texts of a proof, one behind the other: T1 T2 T3 T4 E10 G5 G6. -/
import Derived.Test.YtiflckckekjbnaaGreatDoorYMZ6
import Derived.JoinedOf
import Derived.LaidLaws
import Derived.Lay
import Derived.MakeChecks
import Derived.SevenTiedAt
import Derived.ChangeOld
import Derived.SizedLaws
namespace Go.Proofs.YtiflckckekjbnaaGreatDoor
open Go Go.Sx Go.RowKit
open Go.IntKind (wrap)
set_option linter.all false
set_option maxRecDepth 100000
set_option maxHeartbeats 1000000
theorem Zn6 {α:Type} (F:Nat->Nat->Option α) {j:Nat} {R:Option α} (hj:j<18446744073709551616) (hs : ∀ i f,i<j->F (f+1) i=F f (i+1)) (he : ∀ f,F (f+1) j=R):F big 0=R:=by
  have key : ∀ d i f,i+d=j->F (f+1+d) i=R:=by
    intro d
    induction d with
    | zero => intro i f h; obtain rfl : i = j := by omega
              exact he f
    | succ d ih=>intro i f h; rw [show f+1+(d+1)=(f+1+d)+1 by omega,hs i _ (by omega)]; exact ih (i+1) f (by omega)
  obtain ⟨f,hf⟩ : ∃ f,big=f+1+j:=⟨18446744073709551615-j,by have:big=18446744073709551616:=Z38; omega⟩
  rw [hf]; exact key j 0 f (by omega)
theorem Zdc {i:Nat} (h:i<9223372036854775807):wrap .i64 ((i:Int)+1)=((i+1:Nat):Int):=by rw [Zl (by omega) (by omega)]; omega
theorem Zwo (x:Int):IntKind.u32.wrap x=x%4294967296:=by simp [wrap,IntKind.bits,IntKind.signed]
theorem Z57 {x:Int} (h0:0<=x) (h1:x<4294967296):IntKind.u32.wrap x=x:=by rw [Zwo]; omega
theorem Zq6 (x:Int):0<=wrap .u32 x/\wrap .u32 x<4294967296:=by rw [Zwo]; omega
theorem bv32 (m:Nat) (h:m<4294967296):(BitVec.ofInt 32 (m:Int)).toNat=m:=by
  rw [BitVec.toNat_ofInt]; simp; omega
theorem or32 {x y:Int} (m n:Nat) (hx:x=m) (hy:y=n) (h1:m<4294967296) (h2:n<4294967296):Za .or .u32 x y=((m ||| n:Nat):Int):=by
  subst hx; subst hy
  show IntKind.u32.wrap (((BitVec.ofInt 32 (m:Int) ||| BitVec.ofInt 32 (n:Int)).toNat:Nat):Int)=_
  rw [BitVec.toNat_or,bv32 m h1,bv32 n h2,Z57 (by omega)]
  have:m ||| n<2^32:=Nat.or_lt_two_pow (by simpa using h1) (by simpa using h2)
  simp at this; omega
theorem Zy0 (k:Nat) {x y a:Int} (hx:x=a*((2^k:Nat):Int)) (ha:0<=a) (h0:0<=y) (hy:y<((2^k:Nat):Int)) (h1:x+y<4294967296):Za .or .u32 x y=x+y:=by
  have hp:(0:Int)<=((2^k:Nat):Int):=Int.natCast_nonneg _
  have hx0:0<=x:=by rw [hx]; exact Int.mul_nonneg ha hp
  rw [or32 x.toNat y.toNat (by omega) (by omega) (by omega) (by omega)]
  have e:x.toNat=a.toNat <<< k:=by
    rw [Nat.shiftLeft_eq]
    have:(x.toNat:Int)=((a.toNat*2^k:Nat):Int):=by
      rw [Int.natCast_mul,Int.toNat_of_nonneg hx0,Int.toNat_of_nonneg ha,hx]
    exact Int.ofNat_inj.1 this
  rw [e,<- Nat.shiftLeft_add_eq_or_of_lt (by omega:y.toNat<2^k),<- e]
  omega
theorem Z0iu {x:Int} (h0:0<=x) (h1:x<4294967296):Za .xor .u32 4294967295 x=4294967295-x:=by
  obtain ⟨n,rfl⟩ : ∃ n:Nat,x=n:=⟨x.toNat,by omega⟩
  show IntKind.u32.wrap (((BitVec.ofInt 32 (4294967295:Int) ^^^ BitVec.ofInt 32 (n:Int)).toNat:Nat):Int)=_
  have e:BitVec.ofInt 32 (4294967295:Int)=BitVec.allOnes 32:=by decide
  rw [e,BitVec.allOnes_xor,BitVec.toNat_not,bv32 n (by omega),Z57 (by omega) (by omega)]
  omega
theorem Zm5 {x b:Int} (hx:0<=x/\x<16777216) (hb:0<=b/\b<256):Za .or .u32 (Z1v .u32 x 8) b=x*256+b:=by
  have h:=Zfg .u32 (x:=x) (n:=8) (by decide)
  have e:((2^8:Nat):Int)=256:=by decide
  rw [e,Z57 (by omega) (by omega)] at h
  have h2:Z1v .u32 x 8=x*256:=h
  rw [h2]
  exact Zy0 8 (a:=x) rfl hx.1 hb.1 hb.2 (by omega)
def be4 (l:LI) (o:Nat):Int:=((l.getD o 0*256+l.getD (o+1) 0)*256+l.getD (o+2) 0)*256+l.getD (o+3) 0
theorem Z0is (f:Bool) (a b c d:Int) (k:Int->Option (Int×Bool)):Z2g (f,[a,b,c,d]) k big 0 0=k (Za .or .u32 (Z1v .u32 (Za .or .u32 (Z1v .u32 (Za .or .u32 (Z1v .u32 (Za .or .u32 (Z1v .u32 0 8) (wrap .u32 a)) 8) (wrap .u32 b)) 8) (wrap .u32 c)) 8) (wrap .u32 d)):=by kernel_rfl
theorem Zuf {l:LI} (h:l.length=4):l = [l.getD 0 0,l.getD 1 0,l.getD 2 0,l.getD 3 0]:=by
  match l,h with
  | [a0,a1,a2,a3],_=>rfl
theorem Zg5 (p:LI) (o i:Nat) (hi:i<4):((p.drop o).take 4).getD i 0=p.getD (o+i) 0:=by
  simp [List.getD_eq_getElem?_getD,List.getElem?_take,hi,List.getElem?_drop]
theorem Zt0:Z3w=some 32:=by kernel_rfl
theorem Zsb {p:LI} (h:Byt p) (l:p.length=64) {t:Nat} (ht:t<16):Z4d p ((4*t:Nat):Int)=some (be4 p (4*t),true):=by
  have e1:wrap .i64 (Int.tdiv 32 8)=4:=by decide
  have e2:wrap .i64 ((p.length:Int)-4)=60:=by rw [l]; decide
  have e3:wrap .i64 (((4*t:Nat):Int)+4)=((4*t+4:Nat):Int):=by rw [Zl (by omega) (by omega)]; omega
  have e8:4*t+4-4*t=4:=by omega
  have hlen:((p.drop (4*t)).take 4).length=4:=by rw [List.length_take,List.length_drop,l]; omega
  have hp:Z4t p ((4*t:Nat):Int)=some (false,(p.drop (4*t)).take 4):=by
    rw [Z4t,Z3 Zt0]
    simp only [Zk,e1,e2]
    rw [Z0u (by simp; omega)]
    simp only [e3,Int.toNat_natCast,e8]
    rw [Zu (by simp [Zfh]; omega),Zu (decide_eq_true (by rw [hlen]; decide))]
  have b0:=h (4*t)
  have b1:=h (4*t+1)
  have b2:=h (4*t+2)
  have b3:=h (4*t+3)
  rw [Z4d,Z3 hp,Z19,Zuf hlen,Z0is,Zg5 _ _ _ (by decide),Zg5 _ _ _ (by decide),Zg5 _ _ _ (by decide),Zg5 _ _ _ (by decide)]
  rw [Z57 (x:=p.getD (4*t+0) 0) b0.1 (by have:=b0.2; simp only [Nat.add_zero]; omega),Z57 b1.1 (by omega),Z57 b2.1 (by omega),Z57 b3.1 (by omega)]
  simp only [Nat.add_zero]
  have o1:Za .or .u32 (Z1v .u32 0 8) (p.getD (4*t) 0)=0*256+p.getD (4*t) 0:=Zm5 (by decide) b0
  have o2:=Zm5 (x:=0*256+p.getD (4*t) 0) (by omega) b1
  have o3:=Zm5 (x:=(0*256+p.getD (4*t) 0)*256+p.getD (4*t+1) 0) (by omega) b2
  have o4:=Zm5 (x:=((0*256+p.getD (4*t) 0)*256+p.getD (4*t+1) 0)*256+p.getD (4*t+2) 0) (by omega) b3
  rw [o1,o2,o3,o4]
  simp only [be4,Int.zero_mul,Int.zero_add]
  rfl
theorem Zza {p:LI} (h:Byt p) (l:p.length=64) {t:Nat} (ht:t<16):Zjn p ((4*t:Nat):Int)=some (be4 p (4*t)):=by
  obtain ⟨n,hn⟩ : ∃ n,big=n+1+1+1+1+1:=⟨18446744073709551611,Z38⟩
  have step : ∀ (n i:Nat) (x:Int),i<4->(0<=x/\x<16777216)->Z6q p ((4*t:Nat):Int) some (n+1) x (i:Int)=Z6q p ((4*t:Nat):Int) some n (x*256+p.getD (4*t+i) 0) ((i+1:Nat):Int):=by
    intro n i x hi hx
    have b:=h (4*t+i)
    have e1:=Zdc (i:=i) (by omega)
    have e2:wrap .i64 (((4*t:Nat):Int)+(i:Int))=((4*t+i:Nat):Int):=by rw [Zl (by omega) (by omega)]; omega
    rw [Z6q,Zbr,Z1n (decide_eq_true (by omega))]
    simp only [Zk,e1,e2,Int.toNat_natCast]
    rw [Zu (Z0v (by omega) (by omega)),Z57 (x:=x*256) (by omega) (by omega),Z57 b.1 (by omega),Z57 (by omega) (by omega)]
  have b0:=h (4*t+0)
  have b1:=h (4*t+1)
  have b2:=h (4*t+2)
  have b3:=h (4*t+3)
  rw [Zjn,Z19,hn]
  have s0:=step (n+1+1+1+1) 0 0 (by decide) (by decide)
  have s1:=step (n+1+1+1) 1 (0*256+p.getD (4*t+0) 0) (by decide) (by omega)
  have s2:=step (n+1+1) 2 ((0*256+p.getD (4*t+0) 0)*256+p.getD (4*t+1) 0) (by decide) (by omega)
  have s3:=step (n+1) 3 (((0*256+p.getD (4*t+0) 0)*256+p.getD (4*t+1) 0)*256+p.getD (4*t+2) 0) (by decide) (by omega)
  refine s0.trans (s1.trans (s2.trans (s3.trans ?_)))
  rw [Z6q,Zbr,Z0u (by decide)]
  simp only [be4,Nat.add_zero,Int.zero_mul,Int.zero_add]
def Zq4 (x:Int) (n m:Int):Int:=Za .or .u32 (Z0f .u32 x n) (Z1v .u32 x m)
def sm (x a b c d s:Int):Int:=Za .xor .u32 (Za .xor .u32 (Zq4 x a b) (Zq4 x c d)) (Z0f .u32 x s)
def tu (x a b c d e f:Int):Int:=Za .xor .u32 (Za .xor .u32 (Zq4 x a b) (Zq4 x c d)) (Zq4 x e f)
def sg4 (x:Int):Int:=sm x 17 15 19 13 10
def sg3 (x:Int):Int:=sm x 7 25 18 14 3
def bt1 (x:Int):Int:=tu x 6 26 11 21 25 7
def bt0 (x:Int):Int:=tu x 2 30 13 19 22 10
theorem Z0ly (x:Int):Z9z x 17 19 10=some (sg4 x):=by kernel_rfl
theorem Z0lx (x:Int):Z9z x 7 18 3=some (sg3 x):=by kernel_rfl
theorem Z0ax (x:Int):Z7t x 6 11 25=some (bt1 x):=by kernel_rfl
theorem Z0aw (x:Int):Z7t x 2 13 22=some (bt0 x):=by kernel_rfl
theorem Zl4 (x:Int):(Z1x x 17=some (Zq4 x 17 15)/\Z1x x 19=some (Zq4 x 19 13)/\Z1x x 7=some (Zq4 x 7 25)/\Z1x x 18=some (Zq4 x 18 14)) /\
    (Z1x x 6=some (Zq4 x 6 26)/\Z1x x 11=some (Zq4 x 11 21)/\Z1x x 25=some (Zq4 x 25 7))/\(Z1x x 2=some (Zq4 x 2 30)/\Z1x x 13=some (Zq4 x 13 19)/\Z1x x 22=some (Zq4 x 22 10)):=by
  refine ⟨⟨?_,?_,?_,?_⟩,⟨?_,?_,?_⟩,⟨?_,?_,?_⟩⟩ <;> kernel_rfl
def Zjg (p l:LI) (n:Nat):Int:=if n<16 then be4 p (4*n) else wrap .u32 (wrap .u32 (wrap .u32 (sg4 (l.getD (n-2) 0)+l.getD (n-7) 0)+sg3 (l.getD (n-15) 0))+l.getD (n-16) 0)
def wl4 (p:LI):Nat->LI
  | 0=>[]
  | n+1=>wl4 p n ++ [Zjg p (wl4 p n) n]
theorem Zfx (p:LI) : ∀ n,(wl4 p n).length=n
  | 0=>rfl
  | n+1=>by show (wl4 p n ++ [_]).length=_; rw [List.length_append,Zfx p n]; rfl
theorem Zz8 (p:LI) (n j:Nat) (h:j<n):(wl4 p (n+1)).getD j 0=(wl4 p n).getD j 0:=by
  show (wl4 p n ++ [_]).getD j 0=_
  simp [List.getD_eq_getElem?_getD,List.getElem?_append_left (show j<(wl4 p n).length by rw [Zfx]; exact h)]
theorem Zz9 (p:LI) (n:Nat):(wl4 p (n+1)).getD n 0=Zjg p (wl4 p n) n:=by
  show (wl4 p n ++ [_]).getD n 0=_
  have:=Zfx p n
  simp [List.getD_eq_getElem?_getD,this]
theorem rep0 (n i:Nat):(List.replicate n (0:Int)).getD i 0=0:=by
  simp only [List.getD_eq_getElem?_getD,List.getElem?_replicate]
  split <;> rfl
def wz (p:LI) (n:Nat):LI:=wl4 p n++List.replicate (64-n) 0
theorem Zwp (p:LI) {n:Nat} (h:n<=64):(wz p n).length=64:=by unfold wz; simp [Zfx]; omega
theorem Zaz (p:LI) {n j:Nat} (h:j<n):(wz p n).getD j 0=(wl4 p n).getD j 0:=by
  unfold wz
  exact Z70 (by rw [Zfx]; exact h)
theorem Zrw (p:LI) {n:Nat} {z:Int} (h:n<64) (hz:z=Zjg p (wl4 p n) n):Z28 (wz p n) n z=wz p (n+1):=by
  refine Zb3 (n:=64) (by rw [Z4s (by rw [Zwp p (by omega)]; exact h),Zwp p (by omega)]) (Zwp p (by omega)) ?_
  intro j hj
  rw [Z17]
  by_cases e:j=n
  · subst e; rw [if_pos rfl,Zaz p (by omega),Zz9,hz]
  · rw [if_neg e]
    by_cases h2:j<n
    · rw [Zaz p h2,Zaz p (by omega),Zz8 p n j h2]
    · unfold wz
      rw [Z8u (by rw [Zfx]; omega),Z8u (by rw [Zfx]; omega)]
      rw [rep0,rep0]
theorem tk64 {p:LI} (l:p.length=64):tk p 0 64=p:=Zd5 l
theorem Zzm {i k:Nat} (h:k<=i) (hi:i<1000000):wrap .i64 ((i:Int)-(k:Int))=((i-k:Nat):Int):=Z7z h hi
theorem Z0at {p:LI} (h:Byt p) (l:p.length=64):Z6m p=some (wl4 p 64):=by
  have e0:(List.replicate 64 0:LI)=wz p 0:=rfl
  have e64:wz p 64=wl4 p 64:=by unfold wz; simp
  rw [Z6m,Z19,e0]
  refine (Zn6 (fun f i=>Z2u p some f (i:Int) (wz p i)) (j:=64) (R:=some (wz p 64)) (by decide) ?_ ?_).trans (by rw [e64])
  · intro i f hi
    have e1:=Zdc (i:=i) (by omega)
    show Z2t p some (Z2u p some f) _ _=_
    rw [Z2t,Z1n (decide_eq_true (by omega)),Z19]
    by_cases h16:i<16
    · have e8:wrap .i64 (4*(i:Int))=((4*i:Nat):Int):=by rw [Zl (by omega) (by omega)]; omega
      rw [Z1n (decide_eq_true (by omega)),Zk,e8,tk64 l,Z3 (Zsb h l h16),Zu (Z0v (by omega) (by omega))]
      simp only [Zk,e1,Int.toNat_natCast]
      rw [Zrw p hi (by unfold Zjg; rw [if_pos h16])]
    · have m2:wrap .i64 ((i:Int)-2)=((i-2:Nat):Int):=Zzm (k:=2) (by omega) (by omega)
      have m7:wrap .i64 ((i:Int)-7)=((i-7:Nat):Int):=Zzm (k:=7) (by omega) (by omega)
      have m15:wrap .i64 ((i:Int)-15)=((i-15:Nat):Int):=Zzm (k:=15) (by omega) (by omega)
      have m16:wrap .i64 ((i:Int)-16)=((i-16:Nat):Int):=Zzm (k:=16) (by omega) (by omega)
      rw [Z0u (decide_eq_false (by omega))]
      simp only [Zk,m2,m7,m15,m16,e1,Int.toNat_natCast]
      rw [Zu (Z0v (by omega) (by omega)),Zu (Z0v (by omega) (by omega)),Zu (Z0v (by omega) (by omega)),Zu (Z0v (by omega) (by omega)),Z3 (Z0ly _),Z3 (Z0lx _),Zu (Z0v (by omega) (by omega)),
        Zrw p hi (by unfold Zjg; rw [if_neg h16,Zaz p (by omega),Zaz p (by omega),Zaz p (by omega),Zaz p (by omega)])]
  · intro f
    show Z2t p some _ _ _=_
    rw [Z2t,Z0u (by decide)]
theorem Zrv {α:Type} (F:Nat->Nat->Option α) {a j:Nat} {R:Option α} (ha:a<=j) (hj:j<18446744073709551616) (hs : ∀ i f,a<=i->i<j->F (f+1) i=F f (i+1)) (he : ∀ f,F (f+1) j=R):F big a=R:=by
  have e:a+(j-a)=j:=by omega
  exact Zn6 (fun f i=>F f (a+i)) (j:=j-a) (R:=R) (by omega) (fun i f hi=>hs (a+i) f (by omega) (by omega)) (fun f=>by
    show F (f+1) (a+(j-a))=R
    rw [e]; exact he f)
theorem Z0fo {p:LI} (h:Byt p) (l:p.length=64):Zah p=some (wl4 p 64):=by
  have e0:(List.replicate 64 0:LI)=wz p 0:=rfl
  have e64:wz p 64=wl4 p 64:=by unfold wz; simp
  have k2:Z36 some big 16 (wz p 16)=some (wz p 64):=by
    refine Zrv (fun f i=>Z36 some f (i:Int) (wz p i)) (a:=16) (j:=64) (by decide) (by decide) ?_ ?_
    · intro i f hi0 hi
      have e1:=Zdc (i:=i) (by omega)
      have m2:wrap .i64 ((i:Int)-2)=((i-2:Nat):Int):=Zzm (k:=2) (by omega) (by omega)
      have m7:wrap .i64 ((i:Int)-7)=((i-7:Nat):Int):=Zzm (k:=7) (by omega) (by omega)
      have m15:wrap .i64 ((i:Int)-15)=((i-15:Nat):Int):=Zzm (k:=15) (by omega) (by omega)
      have m16:wrap .i64 ((i:Int)-16)=((i-16:Nat):Int):=Zzm (k:=16) (by omega) (by omega)
      show Z4m some (Z36 some f) _ _=_
      rw [Z4m,Z1n (decide_eq_true (by omega))]
      simp only [Zk,m2,m7,m15,m16,e1,Int.toNat_natCast]
      rw [Zu (Z0v (by omega) (by omega)),Zu (Z0v (by omega) (by omega)),Z3 (Zl4 _).1.1,Z3 (Zl4 _).1.2.1,Z3 (Zl4 _).1.2.2.1,Z3 (Zl4 _).1.2.2.2,Zu (Z0v (by omega) (by omega)),Zu (Z0v (by omega) (by omega)),Zu (Z0v (by omega) (by omega)),
        Zrw p hi (by unfold Zjg; rw [if_neg (by omega),<- Zaz p (by omega),<- Zaz p (by omega),<- Zaz p (by omega),<- Zaz p (by omega)]; rfl)]
    · intro f
      show Z4m some _ _ _=_
      rw [Z4m,Z0u (by decide)]
  rw [Zah,Z19,e0]
  refine (Zn6 (fun f i=>Z4n p (fun a36=>jn (fun (a171:LI)=>some a171) fun k172=>Z36 k172 big 16 a36) f (i:Int) (wz p i)) (j:=16) (R:=some (wz p 64)) (by decide) ?_ ?_).trans (by rw [e64])
  · intro i f hi
    have e1:=Zdc (i:=i) (by omega)
    have e8:wrap .i64 (4*(i:Int))=((4*i:Nat):Int):=by rw [Zl (by omega) (by omega)]; omega
    show Z4l p _ (Z4n p _ f) _ _=_
    rw [Z4l,Z1n (decide_eq_true (by omega)),Zk,e8,tk64 l,Z3 (Zza h l hi),Zu (Z0v (by omega) (by omega))]
    simp only [Zk,e1,Int.toNat_natCast]
    rw [Zrw p (by omega) (by unfold Zjg; rw [if_pos hi])]
  · intro f
    show Z4l p _ _ _ _=_
    rw [Z4l,Z0u (by decide),Z19]
    exact k2
def rnd4 (s:LI) (k w:Int):LI :=
  let x:=wrap .u32 (wrap .u32 (wrap .u32 (wrap .u32 (s.getD 7 0+bt1 (s.getD 4 0))+Za .xor .u32 (Za .and .u32 (s.getD 4 0) (s.getD 5 0)) (Za .and .u32 (Za .xor .u32 4294967295 (s.getD 4 0)) (s.getD 6 0)))+k)+w)
  let y:=wrap .u32 (bt0 (s.getD 0 0)+Za .xor .u32 (Za .xor .u32 (Za .and .u32 (s.getD 0 0) (s.getD 1 0)) (Za .and .u32 (s.getD 0 0) (s.getD 2 0))) (Za .and .u32 (s.getD 1 0) (s.getD 2 0)))
  [wrap .u32 (x+y),s.getD 0 0,s.getD 1 0,s.getD 2 0,wrap .u32 (s.getD 3 0+x),s.getD 4 0,s.getD 5 0,s.getD 6 0]
def Z9u (w s:LI):Nat->LI
  | 0=>s
  | n+1=>rnd4 (Z9u w s n) (G_table256.getD n 0) (w.getD n 0)
def W32 (s:LI):Prop:=∀ i,0<=s.getD i 0/\s.getD i 0<4294967296
theorem Zq8 {s:LI} (h : ∀ x∈s,0<=x/\x<4294967296):W32 s:=by
  intro i
  by_cases hi:i<s.length
  · rw [Zj8 hi]; exact h _ (List.getElem_mem hi)
  · rw [Zg7 (by omega)]; decide
theorem Z0fk {s:LI} (h:W32 s) (k w:Int):W32 (rnd4 s k w):=by
  apply Zq8
  unfold rnd4
  refine List.forall_mem_cons.2 ⟨Zq6 _,List.forall_mem_cons.2 ⟨h _,List.forall_mem_cons.2 ⟨h _,List.forall_mem_cons.2 ⟨h _,List.forall_mem_cons.2 ⟨Zq6 _,List.forall_mem_cons.2 ⟨h _,List.forall_mem_cons.2 ⟨h _,List.forall_mem_cons.2 ⟨h _,List.forall_mem_nil _⟩⟩⟩⟩⟩⟩⟩⟩
theorem Zvm {s:LI} (h:W32 s) (w:LI) : ∀ n,W32 (Z9u w s n)
  | 0=>h
  | n+1=>Z0fk (Zvm h w n) _ _
theorem Z0fq (s:LI) (k:LI->Option (LI)):Z8i s k big 1 (List.replicate 8 0)=k [0,s.getD 0 0,s.getD 1 0,s.getD 2 0,s.getD 3 0,s.getD 4 0,s.getD 5 0,s.getD 6 0]:=by kernel_rfl
theorem Z03e {s:LI} (h:W32 s) (k w:Int):Zge s k w=some (rnd4 s k w):=by
  have hn:=Z0iu (h 4).1 (h 4).2
  have hw:wrap .u32 (4294967295-s.getD 4 0)=4294967295-s.getD 4 0:=Z57 (by have:=(h 4).2; omega) (by have:=(h 4).1; omega)
  rw [Zge]
  simp only [Zk]
  rw [Z3 (Zl4 _).2.1.1,Z3 (Zl4 _).2.1.2.1,Z3 (Zl4 _).2.1.2.2,Z3 (Zl4 _).2.2.1,Z3 (Zl4 _).2.2.2.1,Z3 (Zl4 _).2.2.2.2,Z19,Z0fq,hw,<- hn]
  rfl
theorem Z03l:Zgf=some G_table256:=by kernel_rfl
theorem Z01p:Zio=some G_first256:=by kernel_rfl
theorem Zwf:W32 G_first256:=Zq8 (by decide)
theorem Z03f {w s:LI} (h:W32 s) (k:LI->Option (LI)):Z6b w G_table256 k big 0 s=k (Z9u w s 64) :=
  Zn6 (fun f i=>Z6b w G_table256 k f (i:Int) (Z9u w s i)) (j:=64) (by decide)
    (fun i f hi=>by
      have e1:=Zdc (i:=i) (by omega)
      show Z7c w G_table256 k (Z6b w G_table256 k f) _ _=_
      rw [Z7c,Z1n (decide_eq_true (by omega)),Zu (Z0v (by omega) (by omega)),Zu (Z0v (by omega) (by omega))]
      simp only [Zk,e1,Int.toNat_natCast]
      rw [Z3 (Z03e (Zvm h w i) _ _)]
      rfl)
    (fun f=>by
      show Z7c w G_table256 k _ _ _=_
      rw [Z7c,Z0u (by decide)])
theorem Z02e {w:LI} (s:LI) (k:Int->Int->Int->Int->Int->Int->Int->Int->Option (LI)) :
    Z3g w k big (s.getD 0 0) (s.getD 1 0) (s.getD 2 0) (s.getD 3 0) (s.getD 4 0) (s.getD 5 0) (s.getD 6 0) (s.getD 7 0) 0 =
    k ((Z9u w s 64).getD 0 0) ((Z9u w s 64).getD 1 0) ((Z9u w s 64).getD 2 0) ((Z9u w s 64).getD 3 0) ((Z9u w s 64).getD 4 0) ((Z9u w s 64).getD 5 0) ((Z9u w s 64).getD 6 0) ((Z9u w s 64).getD 7 0) :=
  Zn6 (fun f i=>Z3g w k f ((Z9u w s i).getD 0 0) ((Z9u w s i).getD 1 0) ((Z9u w s i).getD 2 0) ((Z9u w s i).getD 3 0) ((Z9u w s i).getD 4 0) ((Z9u w s i).getD 5 0) ((Z9u w s i).getD 6 0) ((Z9u w s i).getD 7 0) (i:Int)) (j:=64) (by decide)
    (fun i f hi=>by
      have e1:=Zdc (i:=i) (by omega)
      show Z45 w k (Z3g w k f) _ _ _ _ _ _ _ _ _=_
      rw [Z45,Z1n (decide_eq_true (by omega)),Zu (Z0v (by omega) (by omega))]
      simp only [Zk,e1,Int.toNat_natCast]
      rw [Z3 (Z0ax _),Zu (Z0v (by omega) (by omega)),Z3 (Z0aw _)]
      rfl)
    (fun f=>by
      show Z45 w k _ _ _ _ _ _ _ _ _ _=_
      rw [Z45,Z0u (by decide)])
def Ztj (s p:LI):LI :=
  let v:=Z9u (wl4 p 64) s 64
  [wrap .u32 (v.getD 0 0+s.getD 0 0),wrap .u32 (v.getD 1 0+s.getD 1 0),wrap .u32 (v.getD 2 0+s.getD 2 0),wrap .u32 (v.getD 3 0+s.getD 3 0),wrap .u32 (v.getD 4 0+s.getD 4 0),wrap .u32 (v.getD 5 0+s.getD 5 0),wrap .u32 (v.getD 6 0+s.getD 6 0),wrap .u32 (v.getD 7 0+s.getD 7 0)]
theorem Z049 (s p:LI):W32 (Ztj s p):=by
  apply Zq8
  unfold Ztj
  repeat' (first | exact List.forall_mem_nil _ | refine List.forall_mem_cons.2 ⟨Zq6 _,?_⟩)
theorem Z0lw (k:LI->Option (LI)) (s0 s1 s2 s3 s4 s5 s6 s7:Int) (a0 a1 a2 a3 a4 a5 a6 a7:Int):Z50 [a0,a1,a2,a3,a4,a5,a6,a7] k big 0 [s0,s1,s2,s3,s4,s5,s6,s7]=k [wrap .u32 (s0+a0),wrap .u32 (s1+a1),wrap .u32 (s2+a2),wrap .u32 (s3+a3),wrap .u32 (s4+a4),wrap .u32 (s5+a5),wrap .u32 (s6+a6),wrap .u32 (s7+a7)]:=by kernel_rfl
theorem Z0no (k:LI->Option (LI)) (s:LI) (a0 a1 a2 a3 a4 a5 a6 a7:Int):Z8h s k big 0 [a0,a1,a2,a3,a4,a5,a6,a7]=k [wrap .u32 (a0+s.getD 0 0),wrap .u32 (a1+s.getD 1 0),wrap .u32 (a2+s.getD 2 0),wrap .u32 (a3+s.getD 3 0),wrap .u32 (a4+s.getD 4 0),wrap .u32 (a5+s.getD 5 0),wrap .u32 (a6+s.getD 6 0),wrap .u32 (a7+s.getD 7 0)]:=by kernel_rfl
theorem Zvl (w s:LI) (hs:s.length=8) : ∀ n,(Z9u w s n).length=8
  | 0=>hs
  | n+1=>rfl
theorem Z027 {s p:LI} (hs:s.length=8) (h:Byt p) (l:p.length=64):Z9l s p=some (Ztj s p):=by
  rw [Z9l]
  simp only [Zk]
  rw [Z3 (Z0at h l)]
  simp only [Zk,Z19]
  rw [Z02e]
  unfold Ztj
  dsimp only
  generalize Z9u (wl4 p 64) s 64=v at *
  have e:=Z0lw some (s.getD 0 0) (s.getD 1 0) (s.getD 2 0) (s.getD 3 0) (s.getD 4 0) (s.getD 5 0) (s.getD 6 0) (s.getD 7 0) (v.getD 0 0) (v.getD 1 0) (v.getD 2 0) (v.getD 3 0) (v.getD 4 0) (v.getD 5 0) (v.getD 6 0) (v.getD 7 0)
  rw [<- Zem hs] at e
  refine e.trans ?_
  rw [Int.add_comm (s.getD 0 0),Int.add_comm (s.getD 1 0),Int.add_comm (s.getD 2 0),Int.add_comm (s.getD 3 0),Int.add_comm (s.getD 4 0),Int.add_comm (s.getD 5 0),Int.add_comm (s.getD 6 0),Int.add_comm (s.getD 7 0)]
theorem Z031 {s p:LI} (hs:s.length=8) (hw:W32 s) (h:Byt p) (l:p.length=64):Zgd s p=some (Ztj s p):=by
  have hv:=Zvl (wl4 p 64) s hs 64
  rw [Zgd,Z3 (Z0fo h l),Z3 Z03l]
  simp only [Z19]
  rw [Z03f hw]
  unfold Ztj
  dsimp only
  generalize Z9u (wl4 p 64) s 64=v at *
  have e:=Z0no some s (v.getD 0 0) (v.getD 1 0) (v.getD 2 0) (v.getD 3 0) (v.getD 4 0) (v.getD 5 0) (v.getD 6 0) (v.getD 7 0)
  rw [<- Zem hv] at e
  exact e
end Go.Proofs.YtiflckckekjbnaaGreatDoor
namespace Go.Proofs.YtiflckckekjbnaaGreatDoor
open Go Go.Sx Go.RowKit
open List (replicate)
open Go.IntKind (wrap)
set_option linter.all false
set_option maxRecDepth 100000
set_option maxHeartbeats 1000000
def bk4 (M:LI) (n:Nat):LI:=(M.drop (64*n)).take 64
theorem Zgv {M:LI} {n:Nat} (h:64*n+64<=M.length):(bk4 M n).length=64:=by unfold bk4; rw [List.length_take,List.length_drop]; omega
theorem Zii {M:LI} {n i:Nat} (hi:i<64):(bk4 M n).getD i 0=M.getD (64*n+i) 0:=by unfold bk4; rw [Zca hi,Zj2]
theorem Z00i {M:LI} (h:Byt M) (n:Nat):Byt (bk4 M n):=Zei (Zeh h _) _
theorem Z00h {M x:LI} {n:Nat} (h:64*n+64<=M.length):bk4 (M++x) n=bk4 M n :=
 Zb3 (n:=64) (Zgv (by rw [List.length_append]; omega)) (Zgv h) (fun j hj=>by rw [Zii hj,Zii hj,Z70 (by omega)])
def fb4 (M:LI):Nat->LI
 | 0=>G_first256
 | n+1=>Ztj (fb4 M n) (bk4 M n)
theorem Ztz (M:LI) : ∀ n,(fb4 M n).length=8
 | 0=>by show G_first256.length=8; decide
 | n+1=>rfl
theorem Z0gw (M:LI) : ∀ n,W32 (fb4 M n)
 | 0=>Zwf
 | n+1=>Z049 _ _
theorem Zpd {M x:LI} : ∀ n,64*n<=M.length->fb4 (M++x) n=fb4 M n
 | 0,_=>rfl
 | n+1,h=>by
  show Ztj (fb4 (M++x) n) (bk4 (M++x) n)=Ztj (fb4 M n) (bk4 M n)
  rw [Zpd n (by omega),Z00h (by omega)]
structure Zws (M:LI) (a h:LI) (c:Int):Prop where
 st:a=fb4 M (M.length / 64)
 hv:c=(M.length:Int)
 hl:h.length=64
 hd : ∀ i,i<M.length%64->h.getD i 0=M.getD (64*(M.length / 64)+i) 0
 hb:Byt h
theorem Zt1 (m:Nat) : ∀ (l a h:LI) (c:Int) (M:LI),l.length<=m->M.length+l.length<9223372036854775808->Byt l->Byt M->Zws M a h c->∀ n,∃ r,Z0o (n+1+m) l a h c=some r/\Zws (M++l) r.gstate r.grest r.glength:=by
 induction m with
 | zero =>
  intro l a h c M hl hlen hbl hbM hD n
  have e:l = []:=List.length_eq_zero_iff.1 (by omega)
  subst e
  refine ⟨⟨a,h,c⟩,?_,by rw [List.append_nil]; exact hD⟩
  rw [Nat.add_zero,Z0o,Z26,Z0u (decide_eq_false (by simp))]
 | succ m ih =>
  intro l a h c M hl hlen hbl hbM hD n
  by_cases he:l.length=0
  ·have e:l = []:=List.length_eq_zero_iff.1 he
   subst e
   refine ⟨⟨a,h,c⟩,?_,by rw [List.append_nil]; exact hD⟩
   rw [<- Nat.add_assoc,Z0o,Z26,Z0u (decide_eq_false (by simp))]
  ·have hr:=Nat.mod_lt M.length (show 0<64 by decide)
   have hdm:=Nat.div_add_mod M.length 64
   have hc:=hD.hv
   have ht:Int.tmod c 64=((M.length%64:Nat):Int):=by rw [Int.tmod_eq_emod_of_nonneg (by omega),hc]; omega
   obtain ⟨q,hq⟩ : ∃ q,q=Nat.min l.length (64-M.length%64):=⟨_,rfl⟩
   have hq1:0<q/\q<=l.length/\q<=64-M.length%64/\(q=l.length∨q=64-M.length%64):=by
    rw [hq]
    show 0<min l.length (64-M.length%64)/\min l.length (64-M.length%64)<=l.length/\min l.length (64-M.length%64)<=64-M.length%64/\(min l.length (64-M.length%64)=l.length∨min l.length (64-M.length%64)=64-M.length%64)
    omega
   have htake:l.take (64-M.length%64)=l.take q:=by
    rw [hq]
    rcases Nat.le_total l.length (64-M.length%64) with h1 | h1
    ·rw [List.take_of_length_le h1,List.take_of_length_le (by show l.length<=min l.length (64-M.length%64); omega)]
    ·congr 1; show _=min l.length (64-M.length%64); omega
   have hrest:(l.drop ((q:Int)).toNat).take (((l.length:Int)).toNat-((q:Int)).toNat)=l.drop q:=by
    rw [Int.toNat_natCast,Int.toNat_natCast,List.take_of_length_le (by rw [List.length_drop]; omega)]
   have hM:M++l=(M++l.take q)++l.drop q:=by rw [List.append_assoc,List.take_append_drop]
   have hlq:(l.take q).length=q:=by rw [List.length_take]; omega
   have hl1:(M++l.take q).length=M.length+q:=by rw [List.length_append,hlq]
   have hwl:(wr h (M.length%64) (l.take q)).length=64:=by rw [Zwm (by rw [hlq,hD.hl]; omega),hD.hl]
   have hwb:Byt (wr h (M.length%64) (l.take q)):=Z009 hD.hb (Zei hbl _)
   have hwd : ∀ i,i<M.length%64+q->(wr h (M.length%64) (l.take q)).getD i 0=(M++l.take q).getD (64*(M.length / 64)+i) 0:=by
    intro i hi
    rw [Zki,hlq]
    by_cases h1:M.length%64<=i/\i<M.length%64+q
    ·rw [if_pos h1,Z8u (by omega)]
     congr 1; omega
    ·rw [if_neg h1,hD.hd i (by omega),Z70 (by omega)]
   have ew:wrap .u64 (q:Int)=(q:Int):=Zb (by omega) (by omega)
   have ew2:wrap .u64 (c+(q:Int))=((M.length+q:Nat):Int):=by rw [Zb (by omega) (by omega)]; omega
   have et2:Int.tmod ((M.length+q:Nat):Int) 64=(((M.length+q)%64:Nat):Int):=by rw [Int.tmod_eq_emod_of_nonneg (by omega)]; omega
   have hbM1:Byt (M++l.take q):=Z62 hbM (Zei hbl _)
   have hlr:(l.drop q).length=l.length-q:=List.length_drop
   rw [<- Nat.add_assoc,Z0o,Z26,Z1n (decide_eq_true (by omega)),Zk,ht,Zu (by simp [Zfh]; omega),Zk]
   simp only [Int.toNat_natCast]
   rw [<- hq,Zu (by simp [Zfh]; omega),Zk,ew,Zk,ew2,Zk,et2,htake]
   simp only [Int.toNat_natCast] at hrest
   rw [hrest]
   by_cases h64:(M.length+q)%64=0
   ·have hblock:wr h (M.length%64) (l.take q)=bk4 (M++l.take q) (M.length / 64) :=
     Zb3 hwl (Zgv (by rw [hl1]; omega)) (fun j hj=>by rw [hwd j (by omega),Zii hj])
    have ha8:a.length=8:=by rw [hD.st]; exact Ztz _ _
    rw [Z1n (by rw [h64]; rfl),Z3 (Z027 ha8 hwb hwl)]
    have hdiv:(M.length+q) / 64=M.length / 64+1:=by omega
    have hD2:Zws (M++l.take q) (Ztj a (wr h (M.length%64) (l.take q))) (wr h (M.length%64) (l.take q)) ((M.length+q:Nat):Int):=by
     refine ⟨?_,by rw [hl1],hwl,?_,hwb⟩
     ·rw [hl1,hdiv,hblock,hD.st]
      show _=Ztj (fb4 (M++l.take q) (M.length / 64)) _
      rw [Zpd _ (by omega)]
     ·intro i hi
      rw [hl1,h64] at hi
      omega
    obtain ⟨r,er,h2⟩:=ih (l.drop q) _ _ _ (M++l.take q) (by rw [hlr]; omega) (by rw [hl1,hlr]; omega) (Zeh hbl _) hbM1 hD2 n
    exact ⟨r,er,by rw [hM]; exact h2⟩
   ·rw [Z0u (by simp; omega)]
    have hdiv:(M.length+q) / 64=M.length / 64:=by omega
    have hmod:(M.length+q)%64=M.length%64+q:=by omega
    have hD2:Zws (M++l.take q) a (wr h (M.length%64) (l.take q)) ((M.length+q:Nat):Int):=by
     refine ⟨?_,by rw [hl1],hwl,?_,hwb⟩
     ·rw [hl1,hdiv,Zpd _ (by omega)]; exact hD.st
     ·intro i hi
      rw [hl1,hmod] at hi
      rw [hl1,hdiv]
      exact hwd i hi
    obtain ⟨r,er,h2⟩:=ih (l.drop q) _ _ _ (M++l.take q) (by rw [hlr]; omega) (by rw [hl1,hlr]; omega) (Zeh hbl _) hbM1 hD2 n
    exact ⟨r,er,by rw [hM]; exact h2⟩
theorem Zlx {d:Z0a} {M l:LI} (hl:M.length+l.length<9223372036854775808) (hbl:Byt l) (hbM:Byt M) (hD:Zws M d.gstate d.grest d.glength) : ∃ r,Z2f d l=some r/\Zws (M++l) r.gstate r.grest r.glength:=by
 obtain ⟨n,hn⟩ : ∃ n',big=n'+1+l.length:=⟨18446744073709551615-l.length,by have:big=18446744073709551616:=Z38; omega⟩
 rw [Z2f,hn]
 exact Zt1 l.length l d.gstate d.grest d.glength M (Nat.le_refl _) hl hbl hbM hD n
theorem Zws.start:Zws [] G_first256 (replicate 64 0) 0:=⟨rfl,rfl,by simp,fun i hi=>by simp at hi,Zly _⟩
def Z61 (x:Int):Nat:=((64-(x+9)%64)%64).toNat
def Zps (x:Int):LI:=([128]++replicate (Z61 x) 0)++be8 (wrap .u64 (x*8))
theorem Zji (x:Int):(Zps x).length=9+Z61 x:=by
 unfold Zps
 simp [Zdd]
 omega
theorem Znw (x:Int):Byt (Zps x):=Z62 (Z62 (Z9p (by decide)) (Zly _)) (Zm4 _)
theorem Zy3 {x:Int} (h0:0<=x) (h1:x<9223372036854775808):Zc5 x=some (Zps x):=by
 have e1:Int.tmod x 64=x%64:=Int.tmod_eq_emod_of_nonneg h0
 have e2:wrap .i64 (x%64)=x%64:=Zl (by omega) (by omega)
 have e3:wrap .i64 (x%64+9)=x%64+9:=Zl (by omega) (by omega)
 have e4:Int.tmod (x%64+9) 64=(x+9)%64:=by rw [Int.tmod_eq_emod_of_nonneg (by omega)]; omega
 have e5:wrap .i64 (64-(x+9)%64)=64-(x+9)%64:=Zl (by omega) (by omega)
 have e6:Int.tmod (64-(x+9)%64) 64=(Z61 x:Int):=by rw [Int.tmod_eq_emod_of_nonneg (by omega)]; unfold Z61; omega
 have hpz:Z61 x<64:=by unfold Z61; omega
 have e7:wrap .i64 (1+(Z61 x:Int))=((1+Z61 x:Nat):Int):=by rw [Zl (by omega) (by omega)]; omega
 have e8:wrap .i64 (((1+Z61 x:Nat):Int)+8)=((9+Z61 x:Nat):Int):=by rw [Zl (by omega) (by omega)]; omega
 simp only [Zc5,Zk,e1,e2,e3,e4,e5,e6,e7,e8,Int.toNat_natCast]
 have hs:Zkm (0:Int) (replicate (1+Z61 x) 0) (0:Int).toNat 128 = [128]++replicate (Z61 x) 0:=by
  rw [Zct (by simp; omega),Nat.add_comm,List.replicate_succ]; rfl
 rw [Zu (by unfold mkB; simp only [Bool.and_eq_true,decide_eq_true_eq]; omega),Zu (Z0v (by decide) (by simp; omega)),hs,Z3 (Zex _),Zu (by simp [Zdd]; omega)]
 rfl
theorem Zvo (x:Int) (k:LI->Option (LI)) (hx:0<=x):Z97 x k big [128]=k ([128]++replicate (Z61 x) 0):=by
 have hz:Z61 x<64:=by unfold Z61; omega
 have h:=Zn6 (fun f i=>Z97 x k f ([128]++replicate i 0)) (j:=Z61 x) (R:=k ([128]++replicate (Z61 x) 0)) (by omega)
  (fun i f hi=>by
   have e1:Int.tmod x 64=x%64:=Int.tmod_eq_emod_of_nonneg hx
   have el:((([128]++replicate i 0:LI).length:Nat):Int)=1+(i:Int):=by simp; omega
   have w0:wrap .u64 (1+(i:Int))=1+(i:Int):=Zb (by omega) (by omega)
   have w1:wrap .u64 (x%64+(1+(i:Int)))=x%64+(1+(i:Int)):=Zb (by omega) (by omega)
   have w2:wrap .u64 (x%64+(1+(i:Int))+8)=x%64+(1+(i:Int))+8:=Zb (by omega) (by omega)
   have w3:Int.tmod (x%64+(1+(i:Int))+8) 64≠0:=by
    rw [Int.tmod_eq_emod_of_nonneg (by omega)]
    unfold Z61 at hi
    omega
   show Zag x k (Z97 x k f) _=_
   rw [Zag]
   simp only [Zk,e1,el,w0,w1,w2]
   rw [Z1n (by simpa using w3),Zu (by simp; omega),List.append_assoc,<- List.replicate_succ'])
  (fun f=>by
   have e1:Int.tmod x 64=x%64:=Int.tmod_eq_emod_of_nonneg hx
   have el:((([128]++replicate (Z61 x) 0:LI).length:Nat):Int)=1+(Z61 x:Int):=by simp; omega
   have w0:wrap .u64 (1+(Z61 x:Int))=1+(Z61 x:Int):=Zb (by omega) (by omega)
   have w1:wrap .u64 (x%64+(1+(Z61 x:Int)))=x%64+(1+(Z61 x:Int)):=Zb (by omega) (by omega)
   have w2:wrap .u64 (x%64+(1+(Z61 x:Int))+8)=x%64+(1+(Z61 x:Int))+8:=Zb (by omega) (by omega)
   have w3:Int.tmod (x%64+(1+(Z61 x:Int))+8) 64=0:=by
    rw [Int.tmod_eq_emod_of_nonneg (by omega)]
    unfold Z61
    omega
   show Zag x k _ _=_
   rw [Zag]
   simp only [Zk,e1,el,w0,w1,w2,w3]
   rw [Z0u (by decide)])
 exact h
theorem Zvp (z:Int) (k:LI->Option (LI)) (l:LI) (hl:l.length<=1000):Z6c z k big l 7=k (l++be8 z):=by
 have hb : ∀ (x:LI) (n:Nat),n<=1000->x.length=n->decide ((x.length+([0]:LI).length)*1<=140737488355328)=true:=fun x n hn h=>decide_eq_true (by rw [h]; simp; omega)
 have e7:Z6c z k big l 7=k ((((((((l ++ [wrap .u8 (Z0f .u64 z 56)]) ++ [wrap .u8 (Z0f .u64 z 48)]) ++ [wrap .u8 (Z0f .u64 z 40)]) ++ [wrap .u8 (Z0f .u64 z 32)]) ++ [wrap .u8 (Z0f .u64 z 24)]) ++ [wrap .u8 (Z0f .u64 z 16)]) ++ [wrap .u8 (Z0f .u64 z 8)]) ++ [wrap .u8 (Z0f .u64 z 0)]):=by
  obtain ⟨n,hn⟩ : ∃ n,big=n+1+1+1+1+1+1+1+1+1:=⟨18446744073709551607,Z38⟩
  have st : ∀ (n i:Nat) (q:LI),i<8->q.length<=1100->Z6c z k (n+1) q (i:Int)=Z6c z k n (q ++ [wrap .u8 (Z0f .u64 z ((8*i:Nat):Int))]) ((i:Int)-1):=by
   intro n i q hi hq
   have w1:wrap .i64 (8*(i:Int))=((8*i:Nat):Int):=by rw [Zl (by omega) (by omega)]; omega
   have w2:wrap .i64 ((i:Int)-1)=(i:Int)-1:=Zl (by omega) (by omega)
   rw [Z6c,Zdu,Z1n (decide_eq_true (by omega))]
   simp only [Zk,w1,w2]
   rw [Zu (decide_eq_true (by omega)),Zu (by simp; omega)]
  rw [hn]
  refine (st _ 7 _ (by decide) (by omega)).trans<|(st _ 6 _ (by decide) (by simp; omega)).trans<|(st _ 5 _ (by decide) (by simp; omega)).trans<|(st _ 4 _ (by decide) (by simp; omega)).trans<|(st _ 3 _ (by decide) (by simp; omega)).trans<|(st _ 2 _ (by decide) (by simp; omega)).trans<|(st _ 1 _ (by decide) (by simp; omega)).trans<|(st _ 0 _ (by decide) (by simp; omega)).trans ?_
  rw [Z6c,Zdu,Z0u (by decide)]
  rfl
 rw [e7,<- Zrq]
 simp only [List.append_assoc]
 rfl
theorem Zvq {x:Int} (h0:0<=x):Znz x=some (Zps x):=by
 have hz:Z61 x<64:=by unfold Z61; omega
 rw [Znz,Z19,Zvo x _ h0,Zk,Z19,Zvp _ _ _ (by simp; omega)]
 rfl
def Zb8 (M:LI):LI:=M++Zps (M.length:Int)
def Zry (x:Int):LI:=[wrap .u8 (Z0f .u32 (Z0f .u32 (Z0f .u32 x 8) 8) 8),wrap .u8 (Z0f .u32 (Z0f .u32 x 8) 8),wrap .u8 (Z0f .u32 x 8),wrap .u8 x]
def Zwb (s:LI):LI:=Zry (s.getD 0 0)++(Zry (s.getD 1 0)++(Zry (s.getD 2 0)++(Zry (s.getD 3 0)++(Zry (s.getD 4 0)++(Zry (s.getD 5 0)++(Zry (s.getD 6 0)++Zry (s.getD 7 0)))))))
def Zzk (M:LI):LI:=Zwb (fb4 (Zb8 M) ((Zb8 M).length / 64))
theorem Zsz (M:LI):(Zb8 M).length%64=0:=by
 unfold Zb8
 rw [List.length_append,Zji]
 unfold Z61
 omega
theorem Zx0 (x:Int) : ∀ y∈Zry x,0<=y/\y<256:=by
 unfold Zry
 repeat' (first | exact List.forall_mem_nil _ | refine List.forall_mem_cons.2 ⟨Zov _,?_⟩)
theorem Zwc (s:LI):Byt (Zwb s):=by
 apply Z9p
 unfold Zwb
 intro x hx
 simp only [List.mem_append] at hx
 rcases hx with h | h | h | h | h | h | h | h <;> exact Zx0 _ _ h
theorem Zme (M:LI):Byt (Zzk M):=Zwc _
theorem Zel (M:LI):(Zzk M).length=32:=rfl
theorem Zuy (y d:Z0a):Z2w y (fun a70=>some (a70,d)) big 0 (replicate 32 0)=some (Zwb y.gstate,d):=by kernel_rfl
theorem Zuz {d:Z0a} {M:LI} (hM:M.length<9223372036854775000) (hb:Byt M) (hD:Zws M d.gstate d.grest d.glength):Z51 d=some (Zzk M,d):=by
 have hz:Z61 (M.length:Int)<64:=by unfold Z61; omega
 have hl:=hD.hv
 obtain ⟨r,er,hr⟩:=Zlx (d:=d) (l:=Zps d.glength) (by rw [Zji,hl]; omega) (Znw _) hb hD
 rw [Z51,Z3 (Zy3 (by omega) (by omega)),Z3 er,Z19,Zuy]
 have e:r.gstate=fb4 (Zb8 M) ((Zb8 M).length / 64):=by
  have:=hr.st
  rw [hl] at this
  exact this
 rw [e]
 rfl
theorem Z0aq {M:LI} (hM:M.length<9223372036854775000) (hb:Byt M):Z8n M=some (Zzk M):=by
 obtain ⟨r,er,hr⟩:=Zlx (d:=⟨G_first256,replicate 64 0,0⟩) (l:=M) (M:=[]) (by simp; omega) hb Zt5 Zws.start
 rw [Z8n,Zev,Z3 rfl]
 show opt (Z2f ⟨G_first256,replicate 64 0,0⟩ M) _=_
 rw [Z3 er,Z3 (Zuz hM hb hr)]
theorem Zv9 {L:LI} (k:LI->Option (LI)) {j:Nat} (hj:64*j+64<=L.length) (hL:L.length<9223372036854775000):Z98 L ((64*j:Nat):Int) k big 0 (replicate 64 0)=k (bk4 L j):=by
 have hk : ∀ i,i<=64->((bk4 L j).take i).length=i:=fun i hi=>by rw [List.length_take,Zgv hj]; omega
 have h:=Zn6 (fun f i=>Z98 L ((64*j:Nat):Int) k f (i:Int) ((bk4 L j).take i++replicate (64-i) 0)) (j:=64) (R:=k (bk4 L j)) (by omega)
  (fun i f hi=>by
   have e1:=Zdc (i:=i) (by omega)
   have e2:wrap .i64 (((64*j:Nat):Int)+(i:Int))=((64*j+i:Nat):Int):=by rw [Zl (by omega) (by omega)]; omega
   show Zaj L _ k (Z98 L _ k f) _ _=_
   rw [Zaj,Z1n (decide_eq_true (by omega))]
   simp only [Zk,e1,e2,Int.toNat_natCast]
   rw [Zu (Z0v (by omega) (by omega)),Zu (Z0v (by omega) (by omega))]
   congr 1
   refine Zb3 (n:=64) (by rw [Z4s (by rw [List.length_append,hk i (by omega),List.length_replicate]; omega),List.length_append,hk i (by omega),List.length_replicate]; omega) (by rw [List.length_append,hk (i+1) (by omega),List.length_replicate]; omega) ?_
   intro q hq
   rw [Z17]
   by_cases e:q=i
   ·subst e
    rw [if_pos rfl,Z70 (by rw [hk (q+1) (by omega)]; omega),Zca (by omega),Zii hq]
   ·rw [if_neg e]
    by_cases h2:q<i
    ·rw [Z70 (by rw [hk i (by omega)]; omega),Z70 (by rw [hk (i+1) (by omega)]; omega),Zca h2,Zca (by omega)]
    ·rw [Z8u (by rw [hk i (by omega)]; omega),Z8u (by rw [hk (i+1) (by omega)]; omega)]
     rw [rep0,rep0])
  (fun f=>by
   show Zaj L _ k _ _ _=_
   rw [Zaj,Z0u (by decide),Nat.sub_self,List.replicate_zero,List.append_nil,List.take_of_length_le (by rw [Zgv hj]; exact Nat.le_refl _)])
 exact h
theorem Z0ft (x:Int) : [wrap .u8 (Z0f .u32 x 24),wrap .u8 (Z0f .u32 x 16),wrap .u8 (Z0f .u32 x 8),wrap .u8 (Z0f .u32 x 0)]=Zry x:=by
 have sh : ∀ (x:Int) (n:Nat),n<=32->Z0f .u32 x (n:Int)=x / ((2^n:Nat):Int):=fun x n h=>Z9r .u32 h
 have e24:Z0f .u32 x 24=x / 16777216:=sh x 24 (by decide)
 have e16:Z0f .u32 x 16=x / 65536:=sh x 16 (by decide)
 have e8 : ∀ x,Z0f .u32 x 8=x / 256:=fun x=>sh x 8 (by decide)
 have e0:Z0f .u32 x 0=x:=by
  have:Z0f .u32 x 0=x / 1:=sh x 0 (by decide)
  rw [this,Int.ediv_one]
 unfold Zry
 simp only [e8,e24,e16,e0]
 simp only [List.cons.injEq,and_true,true_and]
 refine ⟨?_,?_⟩ <;> (congr 1; omega)
def tl4 (x:Int):LI:=[wrap .u8 (Z0f .u32 x 24),wrap .u8 (Z0f .u32 x 16),wrap .u8 (Z0f .u32 x 8),wrap .u8 (Z0f .u32 x 0)]
theorem Zq1 (s:LI):Zbq s=some (tl4 (s.getD 0 0)++(tl4 (s.getD 1 0)++(tl4 (s.getD 2 0)++(tl4 (s.getD 3 0)++(tl4 (s.getD 4 0)++(tl4 (s.getD 5 0)++(tl4 (s.getD 6 0)++tl4 (s.getD 7 0)))))))):=by kernel_rfl
theorem Z032 (s:LI):Zbq s=some (Zwb s):=by
 have e : ∀ x,tl4 x=Zry x:=Z0ft
 rw [Zq1]
 simp only [e]
 rfl
theorem Z0nn {M:LI} (hM:M.length+145<=140737488355328) (hb:Byt M):Zo0 M=some (Zzk M):=by
 have hz:Z61 (M.length:Int)<64:=by unfold Z61; omega
 have hp:=Zji (M.length:Int)
 have hw:(Zb8 M).length=M.length+(9+Z61 (M.length:Int)):=by unfold Zb8; rw [List.length_append,hp]
 have hm:=Zsz M
 have hbw:Byt (Zb8 M):=Z62 hb (Znw _)
 have key : ∀ k,Z82 (Zb8 M) k big 0 G_first256=k (fb4 (Zb8 M) ((Zb8 M).length / 64)):=by
  intro k
  generalize Zb8 M=L at *
  exact Zn6 (fun f i=>Z82 L k f ((64*i:Nat):Int) (fb4 L i)) (j:=L.length / 64) (by omega)
   (fun i f hi=>by
    have e1:wrap .i64 (((64*i:Nat):Int)+64)=((64*(i+1):Nat):Int):=by rw [Zl (by omega) (by omega)]; omega
    show Zai L k (Z82 L k f) _ _=_
    rw [Zai,Z1n (decide_eq_true (by omega)),Z19,Zv9 _ (by omega) (by omega),Z3 (Z031 (Ztz L i) (Z0gw L i) (Z00i hbw i) (Zgv (by omega))),Zk,e1]
    rfl)
   (fun f=>by
    show Zai L k _ _ _=_
    rw [Zai,Z0u (decide_eq_false (by omega))])
 rw [Zo0,Zu (by simp; omega),Zk,Zk,List.nil_append,Zb (by omega) (by omega),Z3 (Zvq (by omega)),Zu (by rw [hp]; simp; omega),Zk,Z3 Z01p,Z19]
 show Z82 (Zb8 M) _ big 0 G_first256=_
 rw [key,Z3 (Z032 _)]
 rfl
theorem Zm7 {α:Type} {z:α} {l:List α} {i:Nat} (h:i<l.length):l.drop i=l.getD i z::l.drop (i+1):=by
 rw [List.drop_eq_getElem_cons h]
 congr 1
 simp [List.getD_eq_getElem?_getD,List.getElem?_eq_getElem h]
theorem Zn3 {α:Type} {z:α} {l:List α} {i:Nat} (h:i<l.length):l.take (i+1)=l.take i ++ [l.getD i z]:=by
 rw [List.take_succ,List.getElem?_eq_getElem h]
 simp [List.getD_eq_getElem?_getD,List.getElem?_eq_getElem h]
theorem Z01v {α:Type} {z x:α} {t d:List α} {i:Nat} (h:i=t.length):(t++x::d).getD i z=x:=by subst h; simp [List.getD_eq_getElem?_getD]
theorem Zpm {α:Type} {x y:α} {t d:List α} {i:Nat} (h:i=t.length):(t++x::d).set i y=t++y::d:=by subst h; simp
theorem Z03q {f:Int->Int} {L:LI} {i:Nat} (h:i<L.length):((L.take i).map f++L.drop i).getD i 0=L.getD i 0:=by
 rw [Zm7 (z:=0) h,Z01v (by simp; omega)]
theorem Z03r {f:Int->Int} {L:LI} {i:Nat} (h:i<L.length):Zkm 0 ((L.take i).map f++L.drop i) i (f (L.getD i 0))=(L.take (i+1)).map f++L.drop (i+1):=by
 rw [Zct (by simp; omega),Zm7 (z:=0) h,Zpm (by simp; omega),Zn3 (z:=0) h,List.map_append,List.append_assoc]
 rfl
def kz (key:LI):LI:=key++replicate (64-key.length) 0
def xr (c x:Int):Int:=Za .xor .u8 x c
def frm (c:Int) (key:LI):LI:=(kz key).map (xr c)
def mac4 (key m:LI):LI:=Zzk (frm 92 key++Zzk (frm 54 key++m))
theorem u8x (x y:Int):0<=Za .xor .u8 x y/\Za .xor .u8 x y<256:=by
 show 0<=IntKind.u8.wrap _/\IntKind.u8.wrap _<256
 rw [Z2c]; omega
theorem Zuc {key:LI} (h:key.length<=64):(kz key).length=64:=by unfold kz; simp; omega
theorem Zmc {c:Int} {key:LI} (h:key.length<=64):(frm c key).length=64:=by unfold frm; rw [List.length_map,Zuc h]
theorem Zmb (c:Int) (key:LI):Byt (frm c key):=by
 apply Z9p
 intro x hx
 obtain ⟨y,_,rfl⟩:=List.mem_map.1 hx
 exact u8x _ _
theorem Zcj (k m:LI):(mac4 k m).length=32:=rfl
theorem Zxl (k m:LI):Byt (mac4 k m):=Zme _
theorem Zzr {c:Int} {key:LI} (h:key.length<=64):Z25 c 64 key=some (frm c key):=by
 have e1:key.take (replicate (64:Int).toNat 0:LI).length++(replicate (64:Int).toNat 0:LI).drop key.length=kz key:=by
  show key.take (replicate 64 (0:Int)).length++(replicate 64 (0:Int)).drop key.length=kz key
  rw [List.length_replicate,List.take_of_length_le h,List.drop_replicate]; rfl
 rw [Z25,Zu (by decide),Zu (by decide),e1,Zk,Z19]
 have hl:=Zuc h
 unfold frm
 generalize kz key=L at *
 refine (Zn6 (fun f i=>Z0n c L some f ((L.take i).map (xr c)++L.drop i) (i:Int)) (j:=64) (R:=some (L.map (xr c))) (by decide) ?_ ?_)
 ·intro i f hi
  have e2:=Zdc (i:=i) (by omega)
  have hlen:((L.take i).map (xr c)++L.drop i).length=64:=by simp; omega
  show Z0x c L some (Z0n c L some f) _ _=_
  rw [Z0x,Z1n (decide_eq_true (by omega)),Zu (Z0v (by omega) (by omega))]
  simp only [Zk,Int.toNat_natCast,e2]
  rw [Z03q (by omega),Zu (Z0v (by omega) (by omega))]
  exact congrArg (fun q=>Z0n c L some f q ((i+1:Nat):Int)) (Z03r (f:=xr c) (by omega))
 ·intro f
  show Z0x c L some _ _ _=_
  rw [Z0x,Z0u (decide_eq_false (by omega)),List.drop_of_length_le (by omega),List.append_nil,List.take_of_length_le (by omega)]
theorem Zua (a b:LI):Z5n [a,b]=(bnd (wrap .i64 (0+(a.length:Int))) fun s1=>bnd (wrap .i64 (s1+(b.length:Int))) fun s2=>chk (mkB 1 0 s2)<|chk (decide (((replicate 0 0:LI).length+a.length)*1<=140737488355328))<|chk (decide ((((replicate 0 0:LI)++a).length+b.length)*1<=140737488355328))<|some (((replicate 0 0:LI)++a)++b)):=by kernel_rfl
theorem Zub (a b c:LI):Z5n [a,b,c]=(bnd (wrap .i64 (0+(a.length:Int))) fun s1=>bnd (wrap .i64 (s1+(b.length:Int))) fun s2=>bnd (wrap .i64 (s2+(c.length:Int))) fun s3=>chk (mkB 1 0 s3)<|chk (decide (((replicate 0 0:LI).length+a.length)*1<=140737488355328))<|chk (decide ((((replicate 0 0:LI)++a).length+b.length)*1<=140737488355328))<|chk (decide (((((replicate 0 0:LI)++a)++b).length+c.length)*1<=140737488355328))<|some ((((replicate 0 0:LI)++a)++b)++c)):=by kernel_rfl
theorem Z052 {a b:LI} (h:a.length+b.length<=1000000):Z5n [a,b]=some (a++b):=by
 have e1:wrap .i64 (0+(a.length:Int))=(a.length:Int):=by rw [Zl (by omega) (by omega)]; omega
 have e2:wrap .i64 ((a.length:Int)+(b.length:Int))=((a.length+b.length:Nat):Int):=by rw [Zl (by omega) (by omega)]; omega
 rw [Zua]
 simp only [Zk,e1,e2,List.replicate_zero,List.nil_append]
 rw [Zu (by unfold mkB; simp only [Bool.and_eq_true,decide_eq_true_eq]; omega),Zu (by simp; omega),Zu (by simp; omega)]
theorem Z053 {a b c:LI} (h:a.length+b.length+c.length<=1000000):Z5n [a,b,c]=some (a++(b++c)):=by
 have e1:wrap .i64 (0+(a.length:Int))=(a.length:Int):=by rw [Zl (by omega) (by omega)]; omega
 have e2:wrap .i64 ((a.length:Int)+(b.length:Int))=((a.length+b.length:Nat):Int):=by rw [Zl (by omega) (by omega)]; omega
 have e3:wrap .i64 (((a.length+b.length:Nat):Int)+(c.length:Int))=((a.length+b.length+c.length:Nat):Int):=by rw [Zl (by omega) (by omega)]; omega
 rw [Zub]
 simp only [Zk,e1,e2,e3,List.replicate_zero,List.nil_append]
 rw [Zu (by unfold mkB; simp only [Bool.and_eq_true,decide_eq_true_eq]; omega),Zu (by simp; omega),Zu (by simp; omega),Zu (by simp; omega),List.append_assoc]
theorem pmac {key m:LI} (hk:key.length<=64) (hm:Byt m) (lm:m.length<=100000):Zbm key m=some (mac4 key m):=by
 have f1:=Zmc (c:=54) hk
 have f2:=Zmc (c:=92) hk
 rw [Zbm,Z4r,Z19,Z0u (decide_eq_false (by omega))]
 dsimp only
 rw [Z19,Z3 (Zzr hk),Z3 (Z052 (by omega)),Z3 (Z0aq (by rw [List.length_append]; omega) (Z62 (Zmb _ _) hm))]
 dsimp only
 rw [Z3 (Zzr hk),Z94,Zd5 (Zel _),Z3 rfl,Z3 (Z052 (by rw [Zel]; omega)),Z3 (Z0aq (by rw [List.length_append,Zel]; omega) (Z62 (Zmb _ _) (Zme _)))]
 rfl
theorem Z0fe (y:LI) (k:LI->Option (LI)):Z6t y k big [] 0=k (tk y 0 32):=by kernel_rfl
theorem Z0ff {M:LI} (hM:M.length+145<=140737488355328) (hb:Byt M):Zam false M=some (Zzk M):=by
 rw [Zam,Z0u rfl,Zep,Z3 (Z0nn hM hb),Z19,Z0fe,Zd5 (Zel _),Z3 rfl]
theorem Z01u {key:LI} {i:Nat}:(kz key).getD i 0=key.getD i 0:=by
 unfold kz
 by_cases h:i<key.length
 ·rw [Z70 h]
 ·rw [Z8u (by omega),Zg7 (l:=key) (by omega)]
  rw [rep0]
theorem Z0fg {key m:LI} (hk:key.length<=64) (hm:Byt m) (lm:m.length<=100000):Zgh false key m=some (mac4 key m):=by
 have f1:=Zmc (c:=54) hk
 have f2:=Zmc (c:=92) hk
 have loop : ∀ k:LI->LI->Option (LI),Z4o 64 key k big [] [] 0=k (frm 54 key) (frm 92 key):=by
  intro k
  have hl:=Zuc hk
  have hg : ∀ i,(kz key).getD i 0=key.getD i 0:=fun i=>Z01u
  unfold frm
  generalize kz key=L at *
  refine (Zn6 (fun f i=>Z4o 64 key k f ((L.take i).map (xr 54)) ((L.take i).map (xr 92)) (i:Int)) (j:=64) (R:=k (L.map (xr 54)) (L.map (xr 92))) (by decide) ?_ ?_)
  ·intro i f hi
   have e2:=Zdc (i:=i) (by omega)
   have ht:(L.take i).length=i:=by rw [List.length_take]; omega
   have go : ∀ x,x=L.getD i 0->(bnd (Za .xor .u8 x 54) fun z277 =>
     chk (decide ((((L.take i).map (xr 54)).length+([z277]:LI).length)*1<=140737488355328)) <|
     bnd ((L.take i).map (xr 54)++([z277]:LI)) fun l282 =>
     bnd (Za .xor .u8 x 92) fun z287 =>
     chk (decide ((((L.take i).map (xr 92)).length+([z287]:LI).length)*1<=140737488355328)) <|
     bnd ((L.take i).map (xr 92)++([z287]:LI)) fun l292 =>
     bnd (wrap .i64 ((i:Int)+1)) fun z297 =>
     Z4o 64 key k f l282 l292 z297)=Z4o 64 key k f ((L.take (i+1)).map (xr 54)) ((L.take (i+1)).map (xr 92)) ((i+1:Nat):Int):=by
    intro x hx
    subst hx
    rw [Zk,Zu (by simp; omega),Zk,Zk,Zu (by simp; omega),Zk,Zk,e2,Zn3 (z:=0) (by omega),List.map_append,List.map_append]
    rfl
   show Z7d 64 key k (Z4o 64 key k f) _ _ _=_
   rw [Z7d,Z1n (decide_eq_true (by omega)),Z19]
   by_cases h:i<key.length
   ·rw [Z1n (decide_eq_true (by omega)),Zu (Z0v (by omega) (by omega)),Zk,Int.toNat_natCast]
    exact go _ (hg i).symm
   ·rw [Z0u (decide_eq_false (by omega))]
    exact go _ (by rw [hg,Zg7 (by omega)])
  ·intro f
   show Z7d 64 key k _ _ _ _=_
   rw [Z7d,Z0u (decide_eq_false (by omega)),List.take_of_length_le (by omega)]
 rw [Zgh,Z19,Z0u rfl]
 dsimp only
 rw [Z19,Z0u (decide_eq_false (by omega))]
 dsimp only
 rw [Z19,loop,Zu (by rw [f1]; simp; omega),Zk,Z3 (Z0ff (by rw [List.length_append]; omega) (Z62 (Zmb _ _) hm)),Zu (by rw [f2,Zel]; decide),Zk,
  Z3 (Z0ff (by rw [List.length_append,Zel]; omega) (Z62 (Zmb _ _) (Zme _)))]
 rfl
def Zks (i:Int):LI:=[110,111,100,101]++([0]++be8 i)
theorem Znm (i:Int):(Zks i).length=13:=rfl
theorem Znl (i:Int):Byt (Zks i):=Z62 (Z9p (by decide)) (Z62 (Z9p (by decide)) (Zm4 i))
def exp4 (s info:LI):LI:=mac4 s (info ++ [1])
def drv (s:LI) (i:Int):LI:=exp4 s (Zks i)
theorem Ztv (s:LI) (i:Int):(drv s i).length=32:=rfl
theorem Ztu (s:LI) (i:Int):Byt (drv s i):=Zxl _ _
theorem Zus:Byt [1]:=Z9p (by decide)
theorem Z029 {s info:LI} (l:s.length=32) (hi:Byt info) (li:info.length<=1000):Zbl s info 32=some (exp4 s info,true):=by
 have hj:Z5n [[],info,[1]]=some (info ++ [1]):=Z053 (by simp; omega)
 have hm:=pmac (key:=s) (m:=info ++ [1]) (by omega) (Z62 hi Zus) (by simp; omega)
 obtain ⟨n,hn⟩ : ∃ n,big=n+1+1:=⟨18446744073709551614,Z38⟩
 rw [Zbl,Z0u (by decide),Zk,Zu (by decide),Z19,hn,Z5h,Z80,Z1n (by decide),Z19,Z3 hj,Zd5 l,Z3 hm]
 dsimp only
 rw [Zd5 (Zcj _ _),Zu (by rw [Zcj]; decide),Zk,Zk,
  Z5h,Z80,Z0u (by rw [List.length_append,Zcj]; decide),Zu (by rw [List.length_append,Zcj]; decide)]
 rfl
theorem Z03c {s:LI} (l:s.length=32):Ze1 s=some s:=by
 have : ∀ k,Z7r s k big [] 0=k (tk s 0 32):=fun k=>by kernel_rfl
 rw [Ze1,Z19,this,Zd5 l]
theorem Z03b {s info:LI} (l:s.length=32) (hi:Byt info) (li:info.length<=1000):Ze0 s info 32=some (exp4 s info,true):=by
 have hm:=Z0fg (key:=s) (m:=info ++ [1]) (by omega) (Z62 hi Zus) (by simp; omega)
 have e1:wrap .u8 1=1:=by decide
 obtain ⟨n,hn⟩ : ∃ n,big=n+1+1:=⟨18446744073709551614,Z38⟩
 rw [Ze0,Z0u (by decide),Z19,hn,Z6e,Z9a,Z1n (by decide),Zu (by decide),Zk,Zu (by simp; omega),Zk,Zk,Zu (by simp; omega),Zk,Z3 (Z03c l),List.append_nil,List.nil_append,e1,Z3 hm,Zu (by rw [Zcj]; decide),Zk,Zk,
  Z6e,Z9a,Z0u (by rw [List.length_append,Zcj]; decide),Zu (by rw [List.length_append,Zcj]; decide)]
 rfl
abbrev Zsg:ByteArray:=⟨#[110,111,100,101]⟩
theorem Z0it:Zt4 Zsg = [110,111,100,101]:=by kernel_rfl
theorem Z028 {s:LI} {i:Int} (l:s.length=32) (h0:0<=i) (h1:i<=2147483647):Z9w s Zsg i=some (drv s i,true):=by
 have e1:wrap .u64 i=i:=Zb h0 (by omega)
 have hj:Z5n [[110,111,100,101],[0],be8 i]=some (Zks i):=Z053 (by simp [Zdd])
 rw [Z9w,Z0u (by simp [Zsg,ByteArray.size]; omega),Zk,e1,Z3 (Zex i),Z0it,Z3 hj,Z3 (Z029 l (Znl i) (by rw [Znm]; decide)),Zk]
 have e2:wr (replicate 32 0) 0 ((exp4 s (Zks i)).take 32)=exp4 s (Zks i):=by
  have h32:(exp4 s (Zks i)).length=32:=rfl
  rw [List.take_of_length_le (by omega)]
  refine Zb3 (n:=32) (by rw [Zwm (by simp [h32]),List.length_replicate]) h32 ?_
  intro j hj
  rw [Zki,if_pos (by omega)]
  rfl
 show some (wr (replicate 32 0) 0 ((exp4 s (Zks i)).take 32),true)=_
 rw [e2]
 rfl
theorem Z0fh (k:LI->Option (LI×Bool)):Z7q Zsg k big [] 0=k [110,111,100,101]:=by kernel_rfl
theorem Z0nq (y:LI×Bool) (h:y.1.length=32) (k:LI->Option (LI×Bool)):Z5b y k big 0 (replicate 32 0)=k y.1:=by
 have hk : ∀ i,i<=32->(y.1.take i).length=i:=fun i hi=>by rw [List.length_take]; omega
 have h:=Zn6 (fun f i=>Z5b y k f (i:Int) (y.1.take i++replicate (32-i) 0)) (j:=32) (R:=k y.1) (by omega)
  (fun i f hi=>by
   have e1:=Zdc (i:=i) (by omega)
   show Z6d y k (Z5b y k f) _ _=_
   rw [Z6d,Z1n (decide_eq_true (by omega)),Zu (Z0v (by omega) (by omega)),Zk,Zu (Z0v (by omega) (by omega))]
   simp only [Zk,e1,Int.toNat_natCast]
   congr 1
   have e2:32-i=(32-(i+1))+1:=by omega
   rw [Zn3 (z:=0) (by omega),e2,List.replicate_succ,Zw2 (by rw [List.length_append,hk i (by omega)]; simp),Zpm (by rw [hk i (by omega)]),List.append_assoc]
   rfl)
  (fun f=>by
   show Z6d y k _ _ _=_
   rw [Z6d,Z0u (by decide),Nat.sub_self,List.replicate_zero,List.append_nil,List.take_of_length_le (by omega)])
 exact h
theorem Z00g {i:Int} (h0:0<=i) (h1:i<=2147483647):be8 i = [0,0,0,0,i / 16777216%256,i / 65536%256,i / 256%256,i%256]:=by
 unfold be8
 simp only [Zw4,Z2c]
 simp only [List.cons.injEq,and_true]
 and_intros <;> omega
theorem Z035 {s:LI} {i:Int} (l:s.length=32) (h0:0<=i) (h1:i<=2147483647):Zbw s Zsg i=some (drv s i,true):=by
 have q1:Int.tdiv i 16777216=i / 16777216:=Int.tdiv_eq_ediv_of_nonneg h0
 have q2:Int.tdiv i 65536=i / 65536:=Int.tdiv_eq_ediv_of_nonneg h0
 have q3:Int.tdiv i 256=i / 256:=Int.tdiv_eq_ediv_of_nonneg h0
 have w1:wrap .i64 (i / 16777216)=i / 16777216:=Zl (by omega) (by omega)
 have w2:wrap .i64 (i / 65536)=i / 65536:=Zl (by omega) (by omega)
 have w3:wrap .i64 (i / 256)=i / 256:=Zl (by omega) (by omega)
 have t1:Int.tmod (i / 16777216) 256=i / 16777216%256:=Int.tmod_eq_emod_of_nonneg (by omega)
 have t2:Int.tmod (i / 65536) 256=i / 65536%256:=Int.tmod_eq_emod_of_nonneg (by omega)
 have t3:Int.tmod (i / 256) 256=i / 256%256:=Int.tmod_eq_emod_of_nonneg (by omega)
 have t4:Int.tmod i 256=i%256:=Int.tmod_eq_emod_of_nonneg (by omega)
 have hb : ∀ x:Int,wrap .u8 (x%256)=x%256:=fun x=>by rw [Z2c]; omega
 have hi:([110,111,100,101] ++ [0,0,0,0,0]) ++ [i / 16777216%256,i / 65536%256,i / 256%256,i%256]=Zks i:=by
  unfold Zks
  rw [Z00g h0 h1]; rfl
 rw [Zbw,Z0u (by simp [Zsg,ByteArray.size]; omega),Z19,Z0fh,Zu (by decide)]
 simp only [Zk,q1,q2,q3,w1,w2,w3,t1,t2,t3,t4,hb]
 rw [Zu (by simp),hi,Z3 (Z03b l (Znl i) (by rw [Znm]; decide)),Z19,Z0nq _ rfl]
 rfl
def Zkj (n a b:Int):Bool:=(decide (n≥a))&&(decide (n<=b))
theorem Zox (n a b:Int):Z2e n a b=some (Zkj n a b):=rfl
theorem Zez (n a b:Int):((decide (n<a))||(decide (n>b))) = !(Zkj n a b):=by
 unfold Zkj
 have e1:decide (n<a) = !(decide (n≥a)):=by by_cases h:n<a <;> simp [h] <;> omega
 have e2:decide (n>b) = !(decide (n<=b)):=by by_cases h:n>b <;> simp [h] <;> omega
 rw [e1,e2,Bool.not_and]
theorem Zp1 {n a b:Int}:Zkj n a b=true↔a<=n/\n<=b:=by
 unfold Zkj
 simp
def Zpq (c:Zz):Bool:=(((Zkj c.gGates 1 16&&Zkj c.gWallets 1 8)&&Zkj c.gRows 1 256)&&Zkj c.gFlash 512 1048576)&&Zkj c.gSerials 1 65535
theorem Zut (c:Zz):Z8l c=some (bif Zpq c then 0 else 4):=by
 rw [Z8l]
 simp only [Zox,Option.isSome_some,Option.getD_some]
 unfold Zpq
 generalize Zkj c.gGates 1 16=a
 generalize Zkj c.gWallets 1 8=b
 generalize Zkj c.gRows 1 256=d
 generalize Zkj c.gFlash 512 1048576=e
 generalize Zkj c.gSerials 1 65535=f
 cases a <;> cases b <;> cases d <;> cases e <;> cases f <;> rfl
theorem Zva (c:Zz):Z2q c=some (bif Zpq c then 0 else 4):=by
 rw [Z2q]
 simp only [Bool.or_assoc]
 rw [<- Bool.or_assoc (decide (c.gGates<1)),Zez,<- Bool.or_assoc (decide (c.gWallets<1)),Zez,Zez,<- Bool.or_assoc (decide (c.gFlash<512)),Zez,Zez]
 unfold Zpq
 generalize Zkj c.gGates 1 16=a
 generalize Zkj c.gWallets 1 8=b
 generalize Zkj c.gRows 1 256=d
 generalize Zkj c.gFlash 512 1048576=e
 generalize Zkj c.gSerials 1 65535=f
 cases a <;> cases b <;> cases d <;> cases e <;> cases f <;> rfl
theorem Zlf {c:Zz} (h:Zpq c=true):(1<=c.gGates/\c.gGates<=16)/\(1<=c.gWallets/\c.gWallets<=8):=by
 unfold Zpq at h
 simp only [Bool.and_eq_true] at h
 exact ⟨Zp1.1 h.1.1.1.1,Zp1.1 h.1.1.1.2⟩
abbrev k32:LI:=replicate 32 0
def Zlr (c:Zz) (i:Int):LI×Bool:=bif Zpq c&&Zkj i 0 (c.gGates+c.gWallets) then (drv c.gSecret i,true) else (k32,false)
theorem Z0au {c:Zz} (l:c.gSecret.length=32) (i:Int):Zat c i=some (Zlr c i):=by
 rw [Zat,Z3 (Zut c)]
 unfold Zlr
 cases h:Zpq c
 ·rfl
 ·have hc:=Zlf h
  have e1:wrap .i64 (c.gGates+c.gWallets)=c.gGates+c.gWallets:=Zl (by omega) (by omega)
  simp only [Zox,e1,Option.isSome_some,Option.getD_some]
  cases h2:Zkj i 0 (c.gGates+c.gWallets)
  ·rfl
  ·have h3:=Zp1.1 h2
   have h4:Z9w c.gSecret (⟨#[110,111,100,101]⟩:ByteArray) i=some (drv c.gSecret i,true):=Z028 l h3.1 (by omega)
   rw [Zu (by rfl),Z0u (by rfl),Z3 h4]
   rfl
theorem Z0fp {c:Zz} (l:c.gSecret.length=32) (i:Int):Z3z c i=some (Zlr c i):=by
 rw [Z3z,Z3 (Zva c),Bool.or_assoc]
 unfold Zlr
 cases h:Zpq c
 ·rfl
 ·have hc:=Zlf h
  have e1:wrap .i64 (c.gGates+c.gWallets)=c.gGates+c.gWallets:=Zl (by omega) (by omega)
  rw [e1,Zez]
  cases h2:Zkj i 0 (c.gGates+c.gWallets)
  ·rfl
  ·have h3:=Zp1.1 h2
   have h4:Zbw c.gSecret (⟨#[110,111,100,101]⟩:ByteArray) i=some (drv c.gSecret i,true):=Z035 l h3.1 (by omega)
   rw [Z0u (by rfl),Z3 h4]
   rfl
theorem Zor {c:Zz} {i:Int} (h:Zpq c=true) (h0:0<=i) (h1:i<=c.gGates):Zlr c i=(drv c.gSecret i,true):=by
 have hc:=Zlf h
 unfold Zlr
 rw [h,Zp1.2 (by omega)]
 rfl
noncomputable def Zfl (c:Zz) (i:Nat):LI:=Z01t (drv c.gSecret (i:Int))
noncomputable def Z93 (c:Zz) (n:Nat):List (LI):=(List.range n).map fun i=>Zfl c (i+1)
theorem Zh3 (c:Zz) (n:Nat):(Z93 c n).length=n:=by simp [Z93]
theorem Zjb (c:Zz) (n:Nat):Z93 c (n+1)=Z93 c n ++ [Zfl c (n+1)]:=by simp [Z93,List.range_succ]
noncomputable def Zfc (c:Zz):Z2a×Int:=bif Zpq c then (⟨Zfl c 0,Z93 c c.gGates.toNat⟩,0) else (⟨k32,[]⟩,4)
theorem Zy7 {c:Zz} (l:c.gSecret.length=32):Z9j c=some (Zfc c):=by
 rw [Z9j,Z3 (Zut c)]
 unfold Zfc
 cases h:Zpq c
 ·rfl
 ·have hc:=Zlf h
  obtain ⟨g,hg⟩ : ∃ g:Nat,c.gGates=g:=⟨c.gGates.toNat,by omega⟩
  have e1:wrap .i64 (c.gGates+1)=((g+1:Nat):Int):=by rw [Zl (by omega) (by omega)]; omega
  rw [Z0u (by rfl),Zk,e1,Z19]
  have hgn:c.gGates.toNat=g:=by omega
  show _=some ((⟨Zfl c 0,Z93 c c.gGates.toNat⟩:Z2a),(0:Int))
  rw [hgn]
  have one : ∀ i:Nat,i<=g->Zat c (i:Int)=some (drv c.gSecret (i:Int),true):=fun i hi=>by
   rw [Z0au l,Zor h (by omega) (by omega)]
  have pub : ∀ i:Nat,Z8p (drv c.gSecret (i:Int))=some (Zfl c i):=fun i=>Z02c (Ztu _ _) (Ztv _ _)
  refine (Zn6 (fun f i=>Z5d c ((g+1:Nat):Int) (fun (a196:LI) (l199:List (LI))=>some ((⟨a196,l199⟩:Z2a),(0:Int))) f (i:Int) (match i with | 0=>k32 | _+1=>Zfl c 0) (Z93 c (i-1))) (j:=g+1) (R:=some ((⟨Zfl c 0,Z93 c g⟩:Z2a),(0:Int))) (by omega) ?_ ?_)
  ·intro i f hi
   have e2:=Zdc (i:=i) (by omega)
   show Z6l c _ _ (Z5d c _ _ f) _ _ _=_
   rw [Z6l,Z1n (decide_eq_true (by omega)),Z19,Z3 (one i (by omega)),Z3 (pub i)]
   cases i with
   | zero =>
    rw [Z1n (by rfl)]
    dsimp only
    rw [Zk,e2]
   | succ i =>
    have hl:=Zh3 c i
    rw [Z0u (by simp; omega)]
    show chk (decide (((Z93 c i).length+1)*32<=140737488355328)) _=_
    rw [Zu (by rw [hl]; exact decide_eq_true (by omega)),Zk]
    dsimp only
    rw [Zk,e2]
    show _=Z5d c _ _ f _ (Zfl c 0) (Z93 c (i+1))
    rw [Zjb]
    rfl
  ·intro f
   show Z6l c _ _ _ _ _ _=_
   rw [Z6l,Z0u (decide_eq_false (by omega))]
   rfl
theorem rpub {c:Zz} (l:c.gSecret.length=32) (h:Zpq c=true) {i:Nat} (hi:(i:Int)<=c.gGates):Z2d c (i:Int)=some (Zfl c i):=by
 have h2:Zar (drv c.gSecret (i:Int))=some (Zfl c i):=Z03d (Ztu _ _) (Ztv _ _)
 rw [Z2d,Z3 (Z0fp l _),Zor h (by omega) hi]
 show opt (Zar (drv c.gSecret (i:Int))) _=_
 rw [Z3 h2]
theorem Z0fi {c:Zz} (l:c.gSecret.length=32):Z3y c=some (Zfc c):=by
 rw [Z3y,Z3 (Zva c)]
 unfold Zfc
 cases h:Zpq c
 ·rfl
 ·have hc:=Zlf h
  obtain ⟨g,hg⟩ : ∃ g:Nat,c.gGates=g:=⟨c.gGates.toNat,by omega⟩
  have hgn:c.gGates.toNat=g:=by omega
  have h0:Z2d c 0=some (Zfl c 0):=rpub (i:=0) l h (by omega)
  rw [Z0u (by rfl),Z3 h0,Z19]
  show _=some ((⟨Zfl c 0,Z93 c c.gGates.toNat⟩:Z2a),(0:Int))
  rw [hgn]
  refine (Zrv (fun f i=>Z21 c (fun (l68:List (LI))=>some ((⟨Zfl c 0,l68⟩:Z2a),(0:Int))) f (i:Int) (Z93 c (i-1))) (a:=1) (j:=g+1) (R:=some ((⟨Zfl c 0,Z93 c g⟩:Z2a),(0:Int))) (by omega) (by omega) ?_ ?_)
  ·intro i f hi0 hi
   have e2:=Zdc (i:=i) (by omega)
   have e3:i=(i-1)+1:=by omega
   have e4:Z93 c i=Z93 c (i-1) ++ [Zfl c i]:=by
    have:=Zjb c (i-1)
    rw [<- e3] at this
    exact this
   show Z20 c _ (Z21 c _ f) _ _=_
   rw [Z20,Z1n (decide_eq_true (by omega)),Z3 (rpub l h (by omega)),Zu (by rw [Zh3]; simp; omega),Zk,Zk,e2,<- e4]
   rfl
  ·intro f
   show Z20 c _ _ _ _=_
   rw [Z20,Z0u (decide_eq_false (by omega))]
   rfl
theorem Zxi (n:Nat) (a:LI):ieq n a a=true:=by simp [ieq]
theorem Zoq {p:List (LI)} (hb:p.length<=9223372036854775806):Zw p p=some true:=by
 rw [Zw,Z0u (by simp),Z19]
 exact Zn6 (fun f i=>Z16 p p (fun (_:Unit)=>some true) f (i:Int)) (j:=p.length) (by omega)
  (fun i f hi=>by
   show Z15 p p _ (Z16 p p _ f) _=_
   rw [Z15,Z1n (decide_eq_true (by omega)),Zu (Z0v (by omega) (by omega)),Zk,Zu (Z0v (by omega) (by omega)),Zk,Z0u (by simp [ieq]),Zk,Zdc (by omega)])
  (fun f=>by
   show Z15 p p _ _ _=_
   rw [Z15,Z0u (decide_eq_false (by omega))])
theorem Zmx {α:Type} (p:List α) (c:α) (i:Nat):(p++replicate i c) ++ [c]=p++replicate (i+1) c:=by rw [List.append_assoc,<- List.replicate_succ']
abbrev kB (n:Int):LI:=[n,0,0,0,0,0,0,0,0,0,0,0,0,0,0,0,0,0,0,0,0,0,0,0,0,0,0,0,0,0,0,0]
theorem Zzl {a b:List (LI)} (ha:a.length<=200) (hb:b.length<=200):Z3j a b=some true:=by
 have h1 : ∀ k,Z1e k big a 0=k (a++replicate 64 (kB 21)):=fun k=>by
  have h:=Zn6 (fun f i=>Z1e k f (a++replicate i (kB 21)) (i:Int)) (j:=64) (R:=k (a++replicate 64 (kB 21))) (by omega)
   (fun i f hi=>by
    show Z1p k (Z1e k f) _ _=_
    rw [Z1p,Z1n (decide_eq_true (by omega)),Zk,Zu (by simp; omega),Zk,Zk,Zdc (by omega),Zmx])
   (fun f=>by
    show Z1p k _ _ _=_
    rw [Z1p,Z0u (by rfl)])
  rw [List.replicate_zero,List.append_nil] at h
  exact h
 have h2 : ∀ k,Z1f k big b 0=k (b++replicate 64 (kB 22)):=fun k=>by
  have h:=Zn6 (fun f i=>Z1f k f (b++replicate i (kB 22)) (i:Int)) (j:=64) (R:=k (b++replicate 64 (kB 22))) (by omega)
   (fun i f hi=>by
    show Z1q k (Z1f k f) _ _=_
    rw [Z1q,Z1n (decide_eq_true (by omega)),Zk,Zu (by simp; omega),Zk,Zk,Zdc (by omega),Zmx])
   (fun f=>by
    show Z1q k _ _ _=_
    rw [Z1q,Z0u (by rfl)])
  rw [List.replicate_zero,List.append_nil] at h
  exact h
 have h3 : ∀ k,Z1g (a++replicate 64 (kB 21)) k big (a.length:Int)=k ():=fun k =>
  Zn6 (fun f i=>Z1g (a++replicate 64 (kB 21)) k f ((a.length+i:Nat):Int)) (j:=64) (by omega)
   (fun i f hi=>by
    show Z1r _ k (Z1g _ k f) _=_
    have e:(a++replicate 64 (kB 21)).getD (a.length+i) (replicate 32 0)=kB 21:=by
     rw [List.getD_eq_getElem?_getD,List.getElem?_append_right (by omega),List.getElem?_replicate,if_pos (by omega)]; rfl
    rw [Z1r,Z1n (decide_eq_true (by simp; omega)),Zu (Z0v (by omega) (by simp; omega)),Zk,Int.toNat_natCast,e,Zk,Z0u (by rfl),Zk,Zdc (by omega)]
    rfl)
   (fun f=>by
    show Z1r _ k _ _=_
    rw [Z1r,Z0u (decide_eq_false (by simp))])
 rw [Z3j,Z19,h1,Z19,h2,Z19,h3,Zk,Zl (by omega) (by omega)]
 simp
theorem Zxf {a:List (LI)} (ha:a.length<=200) (k:List (LI)->Option Bool):Z0q k big 0 a=k (replicate a.length (kB 9)):=by
 have h:=Zn6 (fun f i=>Z0q k f (i:Int) (replicate i (kB 9)++a.drop i)) (j:=a.length) (R:=k (replicate a.length (kB 9))) (by omega)
  (fun i f hi=>by
   show Z13 k (Z0q k f) _ _=_
   have hl:(replicate i (kB 9)++a.drop i).length=a.length:=by simp; omega
   rw [Z13,Z1n (decide_eq_true (by omega)),Zk,Zu (Z0v (by omega) (by omega)),Zk,Zk,Int.toNat_natCast,Zct (by omega),Zk,Zdc (by omega),Zm7 (z:=[]) hi,Zpm (by simp),List.replicate_succ',List.append_assoc,List.singleton_append])
  (fun f=>by
   show Z13 k _ _ _=_
   rw [List.drop_length,List.append_nil,Z13,Z0u (decide_eq_false (by simp))])
 exact h
theorem Zxn {a:List (LI)} (ha:a.length<=200) (k:List (LI)->Option Bool):Z0r k big a 0=k (a++replicate 32 (kB 8)):=by
 have h:=Zn6 (fun f i=>Z0r k f (a++replicate i (kB 8)) (i:Int)) (j:=32) (R:=k (a++replicate 32 (kB 8))) (by omega)
  (fun i f hi=>by
   show Z14 k (Z0r k f) _ _=_
   rw [Z14,Z1n (decide_eq_true (by omega)),Zk,Zu (by simp; omega),Zk,Zk,Zdc (by omega),Zmx])
  (fun f=>by
   show Z14 k _ _ _=_
   rw [Z14,Z0u (by rfl)])
 rw [List.replicate_zero,List.append_nil] at h
 exact h
theorem Zlk (c:Zz):(Zfc c).1.gGates.length<=16:=by
 unfold Zfc
 cases h:Zpq c
 ·exact Nat.zero_le _
 ·have hc:=Zlf h
  show (Z93 c c.gGates.toNat).length<=16
  rw [Zh3]; omega
theorem ringKeys_eq {c:Zz} (l:c.gSecret.length=32) (i:Int):Z4f c i=some true:=by
 have hl:=Zlk c
 have s1:Zw (Zfc c).1.gGates (Zfc c).1.gGates=some true:=Zoq (by omega)
 rw [Z4f,Z3 (Zut c),Z3 (Zva c),Z0u (by simp),Z3 (Z0au l i),Z3 (Z0fp l i),Z3 (Zy7 l),Z3 (Z0fi l),s1,Zu (by simp [imp]),Z0u (by simp [Zxi]),Z3 (Zy7 l),Zk,Zk,Zk]
 obtain ⟨d,hd⟩ : ∃ d:Zz,d=⟨c.gGates,c.gWallets,c.gRows,c.gFlash,c.gSerials,Z28 c.gSecret 0 (wrap .u8 (c.gSecret.getD 0 0+1))⟩:=⟨_,rfl⟩
 have ld:d.gSecret.length=32:=by rw [hd]; show (Z28 c.gSecret 0 _).length=32; rw [Z4s (by omega),l]
 have hl2:=Zlk d
 have s2:Zw (Zfc d).1.gGates (Zfc d).1.gGates=some true:=Zoq (by omega)
 rw [<- hd,Z3 (Zy7 ld),Z3 (Z0fi ld),Z19,Zxf (by omega),Z19,Zxn (by simp; omega),Z3 (Zy7 l),Z19,Zk,s1,s2,Zl (by omega) (by omega),Zu (by simp [imp]),Zu (by simp [imp]),Zu (by simp [imp]),Z1n (by simp),Z3 (Zzl (by omega) (by omega)),Z1n rfl,Z3 (Zzl (by omega) (by omega))]
end Go.Proofs.YtiflckckekjbnaaGreatDoor
namespace Go.Sx
open Go Go.RowKit Go.ChangeShapes
set_option linter.all false
section
variable {H:Type} {enc:TypeId×Value->H}
theorem Zg0 {P:Program} (hl:laidOutB P=true) {W W':World} (hb:Below W.heap.size W W') :
  ∀ {ts:List TypeId} {vs:List Value} {ds:List (DataW H)} {ps:List MemPlace},(ts.all fun t=>P.readableRec t&&decide (t<P.types.size))=true->(∀ x∈ps,x.block<W.heap.size) ->
   DataW.TrodAll enc P W 0 (fun _=>true) true ts vs ds ps->DataW.TrodAll enc P W' 0 (fun b=>decide (b<W.heap.size)) true ts vs ds ps
 | [],[],[],_,_,_,h=>h
 | t::ts,v::vs,d::ds,ps,hr,hlt,h=>by
  obtain ⟨p,q,h1,h2,rfl⟩:=h
  simp only [List.all_cons,Bool.and_eq_true,decide_eq_true_eq] at hr
  exact ⟨p,q,Below.trod hl hr.1.1 hr.1.2 h1 hb (fun x hx=>hlt x (by simp [hx])),Zg0 hl hb hr.2 (fun x hx=>hlt x (by simp [hx])) h2,rfl⟩
 | [],_::_,_,_,_,_,h=>h.elim
 | [],[],_::_,_,_,_,h=>h.elim
 | _::_,[],_,_,_,_,h=>h.elim
 | _::_,_::_,[],_,_,_,h=>h.elim
def LawAt (P:Program) (f:FuncId) (args:Array Value) (W:World):Prop:=Calls P f args W fun e w'=>e = .returned (.bool true)/\Below W.heap.size W w'
theorem Zcw {P:Program} {W:World} {base:Nat} {sp:Nat->Bool} {held:Bool} : ∀ {ts:List TypeId} {vs:List Value} {ds:List (DataW H)} {ps:List MemPlace},DataW.TrodAll enc P W base sp held ts vs ds ps->ds.length=ts.length/\vs.length=ts.length
 | [],[],[],_,_=>⟨rfl,rfl⟩
 | t::ts,v::vs,d::ds,ps,h=>by
  obtain ⟨p,q,_,h2,_⟩:=h
  have:=Zcw h2
  simp [this]
 | [],_::_,_,_,h=>h.elim
 | [],[],_::_,_,h=>h.elim
 | _::_,[],_,_,h=>h.elim
 | _::_,_::_,[],_,h=>h.elim
theorem Zxk {C:Checked} {f:FuncId} {fn:Func} {s:ChangeSpec} {tb:TypeId} (hvars:s.vars = [])
  (hs : ∀ ds:List (DataW H),ds.length=fn.params.size->s.fn H ds = { results:=[.lit (.bool true)],args:=ds }) (hres:fn.resultTypes = #[tb]) (htb:C.prog.underlying tb=some .bool)
  (hl:laidOutB C.prog=true) (hpar:(fn.params.toList.all fun t=>C.prog.readableRec t&&decide (t<C.prog.types.size))=true)
  {W:World} {args:Array Value} {ds gs:List (DataW H)} {before:List MemPlace} (hW:DataW.Whole enc C.prog fn.params.toList s.vars false W args.toList ds gs before)
  (h:LawAt C.prog f args W):Calls C.prog f args W fun e W'=>∃ v,e = .returned v/\s.post enc C.prog fn false true false false W args v W':=by
 have hW':=hW
 have hlt:=hW.lt
 obtain ⟨p,q,hA,hV,rfl,hfz,hnd⟩:=hW
 rw [hvars] at hV
 obtain ⟨rfl,rfl⟩:=trodVars_none hV
 refine h.mono fun e W' ⟨he,bel⟩=>⟨_,he,ds,[],p ++ [],[],p,[],hW',?_,?_,?_,bel.frame _,fun h=>by cases h⟩
 ·rw [List.append_nil,hs ds (by simpa using (Zcw hA).1),hres]
  exact trodAll_mk1 (shut_bool htb true)
 ·rw [List.append_nil,hs ds (by simpa using (Zcw hA).1)]
  exact Zg0 hl bel hpar (fun x hx=>hlt x (by simp [hx])) hA
 ·rw [List.append_nil,hs ds (by simpa using (Zcw hA).1),hvars]
  rfl
structure Given (C:Checked) (fn:Func) (W:World) (args:Array Value):Prop where
 wide : ∃ base,∀ (j:Nat) t v,fn.params[j]? = some t->args[j]? = some v->Value.okWide C.prog W .any base t v
 read : ∃ (H:Type) (enc:TypeId×Value->H) (ds:List (DataW H)) (p:List MemPlace),DataW.TrodAll enc C.prog W 0 (fun _=>true) true fn.params.toList args.toList ds p /\
  ((DataW.weightsEach C.prog fn.params.toList ds).all (· <= reachBytes)=true)
theorem law_laid {C:Checked} {os:Os} {f:FuncId} {fn:Func} {s:ChangeSpec} {tb:TypeId} {conds:List PathCond} {laid:List (String×DataW Unit)}
  (own:ownKnob C.prog.godebug=none) (started:os.Started) (noInit:C.prog.inits.idxOf? f=none) (hfn:C.prog.funcs[f]? = some fn) (hvars:s.vars = [])
  (hs : ∀ ds:List (DataW H),ds.length=fn.params.size->s.fn H ds = { results:=[.lit (.bool true)],args:=ds }) (hres:fn.resultTypes = #[tb]) (htb:C.prog.underlying tb=some .bool)
  (hl:laidOutB C.prog=true) (hpar:(fn.params.toList.all fun t=>C.prog.readableRec t&&decide (t<C.prog.types.size))=true)
  (witness : ∃ (w:World) (tape:Tape) (i:Input),w.os=os/\(w.forCall tape i).Shaped C.prog/\i.vars = []/\Input.okWide C.prog (w.forCall tape i) .any w.heap.size f i /\
   ((s.pre enc C.prog fn conds false (w.forCall tape i).memory i.args/\laidMetH C.prog laid (w.forCall tape i).memory)/\sizedMet enc C.prog fn (OpenSpec.ofChange s) false (w.forCall tape i).memory i.args)/\({}:Assume).holds C.prog (lone (Frame.enter C.prog f i.args .normal) [] (w.forCall tape i)))
  (h : ∀ (W:World) (args:Array Value),laidMetH C.prog laid W->Given C fn W args->LawAt C.prog f args W) :
  ReturnsInHanded {} C os f .any (fun w args=>(s.pre enc C.prog fn conds false w args/\laidMetH C.prog laid w)/\sizedMet enc C.prog fn (OpenSpec.ofChange s) false w args) (s.post enc C.prog fn false true false false):=by
 refine returnsInHanded_of_change_and (X:=fun w _=>laidMetH C.prog laid w) (fun _ _ _ hh h=>h.of_heap hh) own started noInit hfn witness ?_
 intro W base args ds gs before hval hW _ hsz hL _
 refine Zxk hvars hs hres htb hl hpar hW (h W args hL ⟨⟨base,hval⟩,?_⟩)
 obtain ⟨p,q,hA,hV,rfl,hfz,hnd⟩:=hW
 rw [hvars] at hV
 obtain ⟨rfl,rfl⟩:=trodVars_none hV
 refine ⟨H,enc,ds,p,hA,?_⟩
 simpa [ChangeSpec.plain,DataSpec.varTypes,hvars] using hsz
end
theorem Znh {H:Type} {enc:TypeId×Value->H} {P:Program} {W:World} {n:Nat} {t:TypeId} {v:Value} {d:DataW H} {p:List MemPlace} {L:Lay}
  (hL:lay P n t .nil=some L) (h:DataW.Trod enc P W 0 (fun _=>true) true t v d p):Fits W maxLen L v.cells.toList:=by
 obtain ⟨fuel,hf⟩:=h
 have:=Zwd (Small.all) n t .nil L hL fuel v.cells.toList d p hf trivial [] rfl
 simpa using this
def Open (C:Checked) (W:World) (n:Nat):List TypeId->List Value->Prop
 | [],vs=>vs = []
 | t::ts,vs=>∃ v vs',vs=v::vs'/\(∃ base,Value.okWide C.prog W .any base t v)/\(∀ L,lay C.prog n t .nil=some L->Fits W maxLen L v.cells.toList)/\Open C W n ts vs'
theorem Given.open {C:Checked} {fn:Func} {W:World} {args:Array Value} (h:Given C fn W args) (n:Nat):Open C W n fn.params.toList args.toList:=by
 obtain ⟨⟨base,hw⟩,⟨H,enc,ds,p,hA,_⟩⟩:=h
 have key : ∀ (ts:List TypeId) (vs:List Value) (ds:List (DataW H)) (p:List MemPlace),DataW.TrodAll enc C.prog W 0 (fun _=>true) true ts vs ds p ->
   (∀ (j:Nat) t v,ts[j]? = some t->vs[j]? = some v->Value.okWide C.prog W .any base t v)->Open C W n ts vs:=by
  intro ts
  induction ts with
  | nil =>
   intro vs ds p h _
   cases vs with
   | nil=>rfl
   | cons v vs=>cases ds <;> exact h.elim
  | cons t ts ih =>
   intro vs ds p h hv
   cases vs with
   | nil=>cases ds <;> exact h.elim
   | cons v vs =>
    cases ds with
    | nil=>exact h.elim
    | cons d ds =>
     obtain ⟨p1,q1,h1,h2,rfl⟩:=h
     exact ⟨v,vs,rfl,⟨base,hv 0 t v rfl rfl⟩,fun L hL=>Znh hL h1,ih vs ds q1 h2 fun j t v h3 h4=>hv (j+1) t v h3 h4⟩
 exact key _ _ ds p hA fun j t v h1 h2=>hw j t v (by simpa using h1) (by simpa using h2)
theorem wide_one {P:Program} {W:World} {base:Nat} {t:TypeId} {v x:Value} (hw:Value.okWide P W .any base t v) (hn:(match P.underlying t with | some (.struct _) | some (.array _ _)=>false | _=>true)=true)
  (h:v.cells.toList = [x]):v=x:=by
 cases v with
 | agg cs =>
  exfalso
  unfold Value.okWide at hw
  split at hw
  ·rename_i hu; rw [hu] at hn; cases hn
  ·rename_i hu; rw [hu] at hn; cases hn
  ·unfold Cell.okWide at hw
   split at hw <;> first | (rename_i h2; cases h2; done) | skip
   simp only [Cell.ok] at hw
   split at hw <;> simp_all
 | _=>simpa [Value.cells] using h
theorem wide_agg {P:Program} {W:World} {base:Nat} {t:TypeId} {v:Value} (hw:Value.okWide P W .any base t v) (hn:(match P.underlying t with | some (.struct _) | some (.array _ _)=>true | _=>false)=true):v = .agg v.cells.toList.toArray:=by
 unfold Value.okWide at hw
 split at hw
 ·obtain ⟨cs,rfl,_⟩:=hw; simp [Value.cells]
 ·obtain ⟨cs,rfl,_⟩:=hw; simp [Value.cells]
 ·rename_i h1 h2
  split at hn
  ·rename_i hu; exact absurd hu (h1 _)
  ·rename_i hu; exact absurd hu (h2 _ _)
  ·cases hn
theorem Zno {k:IntKind} {cs:List Value} {xs:List Int} (hl:cs.length=xs.length) (h : ∀ i,i<xs.length->cs[i]? = some (.int k (xs.getD i 0))):cs=intsCells k xs.length xs:=by
 apply List.ext_getElem?
 intro i
 by_cases hi:i<xs.length
 ·rw [h i hi]
  simp [intsCells,hi]
 ·rw [List.getElem?_eq_none (by omega),List.getElem?_eq_none (by simp [intsCells]; omega)]
theorem laid_ints {P:Program} {W:World} {l:List (String×DataW Unit)} (h:laidMet P l W) {name:String} {k:IntKind} {xs:List Int} (hm:(name,DataW.agg (xs.map fun x=>.lit (.int k x)))∈l) {g:Nat} {t e:TypeId} {m:Nat}
  (hg:P.globalNamed name=some g) (ht:(P.globals[g]?).map (·.type)=some t) (hu:P.underlying t=some (.array m e)) (he:P.underlying e=some (.int k)) (hc:P.cellsOf e=1) (hn:P.cellsOf t=m) (h0:0<m) :
  Mem W g 0 [.ints k xs.length xs]:=by
 obtain ⟨ps,hv,-,-⟩:=h
 induction l generalizing ps with
 | nil=>cases hm
 | cons x l ih =>
  obtain ⟨n,d⟩:=x
  obtain ⟨g',t',cs,fuel,p,q,h1,h2,h3,h4,h5,_⟩:=hv
  rcases List.mem_cons.1 hm with hx | hx
  ·cases hx
   obtain rfl:g'=g:=Option.some.inj (h1.symm.trans hg)
   obtain rfl:t'=t:=Option.some.inj (h2.symm.trans ht)
   obtain ⟨ys,m',_,hy,hlen,hyl,hel⟩:=DataW.trod_array hu h4
   simp only [Prod.mk.injEq,DataW.agg.injEq] at hy
   have hm':m=xs.length:=by rw [<- hyl]; have:=congrArg List.length hy.1; simpa using this.symm
   have hcs:cs.toList=intsCells k xs.length xs:=by
    refine Zno (by omega) fun i hi=>?_
    have h6:=hel i (by omega)
    have h7:i<ys.length:=by omega
    rw [List.getElem?_eq_getElem h7] at h6
    obtain ⟨z,h8,h9,_⟩:=DataW.trod_int he h6
    have h10:(ys.map (·.1))[i]? = some (.lit (.int k (xs.getD i 0))):=by rw [<- hy.1]; simp [hi]
    rw [List.getElem?_map,List.getElem?_eq_getElem h7,Option.map_some,h9] at h10
    simp only [Option.some.injEq,DataW.lit.injEq,Lit.int.injEq,true_and] at h10
    subst h10
    rw [hc] at h8
    have:=congrArg (fun l=>l[0]?) h8
    simpa using this
   refine Zdr (n:=xs.length) (cs:=cs.toList) (fun i hi=>?_) (by rw [hlen,hn,hm']) (by omega) (by rw [hcs]; simp [cells,Seg.cells]) (by simp [width,Seg.width])
   have:=World.var?_cell hg h3 i
   simpa using this
  ·exact ih hx _ h5
end Go.Sx
namespace Go.Sx
open Go Go.RowKit
set_option linter.all false
end Go.Sx
