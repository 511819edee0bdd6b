/- Texts of a proof, one behind the other: U0 U1 U2 U4 U5 G5 E31 FactRingWholeEntry. -/
import Derived.Test.YteefpkhngighgaaGreatDoorMB6
import Derived.Handed
import Derived.Test.YteefpkhngighgaaGreatDoorRows
namespace Go.Proofs.YteefpkhngighgaaGreatDoor
open Go Go.Sx Go.RowKit
open List (replicate)
open Go.IntKind (wrap)
set_option linter.all false
set_option maxRecDepth 100000
set_option maxHeartbeats 1000000
def Z08c (k:LI):Prop:=Byt k/\k.length=32
noncomputable def Zgq (s:LI):LI:=(Z5q s).getD []
theorem Zka (s:LI) {m:LI} (hm:m.length<18446744073709551615) : ∃ sg,Za4 s m=some sg/\Z1h (Zgq s) m sg=some true/\Byt sg/\sg.length=64/\Z08c (Zgq s)/\Z5q s=some (Zgq s):=by
  obtain ⟨a,r,k,h⟩:=Z07g s hm
  have e:Zgq s=Zhd (pB a):=by unfold Zgq; rw [h.pub]; rfl
  refine ⟨_,h.sig,by rw [e]; exact Zqs h,Zyz,?_,by rw [e]; exact ⟨Zof _,Z4r _⟩,by rw [e]; exact h.pub⟩
  rw [List.length_append,Z4r,Z4o]
theorem Z0dy (s:LI):Z5q s=some (Zgq s):=by
  obtain ⟨_,_,_,_,_,_,h⟩:=Zka s (m:=[]) (by decide); exact h
theorem Z0dz (s:LI):Z08c (Zgq s):=by
  obtain ⟨_,_,_,_,_,h,_⟩:=Zka s (m:=[]) (by decide); exact h
noncomputable abbrev Z05i (s:LI):LI:=Zgq s
theorem Z06a {s:LI} (hs:Byt s) (l:s.length=32):Z5q s=some (Z05i s):=Z0dy s
theorem Zlw (s:LI):Byt (Z05i s):=(Z0dz s).1
theorem Z01t {l:LI} {i:Nat} {v:Int} (h:i<l.length):(Z3z l i v).length=l.length:=by rw [Zme h,List.length_set]
theorem Zx4 {l:LI} {i:Nat} (h:i<l.length):l.getD i 0=l[i]:=by simp [List.getD_eq_getElem?_getD,List.getElem?_eq_getElem h]
theorem Z03b:Byt []:=fun i=>by
  have:([]:LI).getD i 0=0:=rfl
  rw [this]; decide
theorem Zvw (n:Nat):Byt (replicate n 0):=by
  intro t
  have:(replicate n (0:Int)).getD t 0=0:=by
    simp only [List.getD]
    cases hi:(replicate n (0:Int))[t]? with
    | none=>rfl
    | some v=>simpa using (List.mem_replicate.1 (List.mem_of_getElem? hi)).2
  rw [this]; decide
theorem Zx8 {i k:Nat} (h:k<=i) (hi:i<1000000):wrap .i64 ((i:Int)-(k:Int))=((i-k:Nat):Int):=by rw [Zp (by omega) (by omega)]; omega
theorem Zl6 {a b:LI} {n:Nat} (ha:a.length=n) (hb:b.length=n) (h : ∀ j,j<n->a.getD j 0=b.getD j 0):a=b:=by
  apply List.ext_getElem
  · rw [ha,hb]
  · intro i h1 h2
    rw [<- Zx4 h1,<- Zx4 h2,h i (by omega)]
theorem Zv0 {l:LI} (h:l.length=8):l = [l.getD 0 0,l.getD 1 0,l.getD 2 0,l.getD 3 0,l.getD 4 0,l.getD 5 0,l.getD 6 0,l.getD 7 0]:=by
  match l,h with
  | [a0,a1,a2,a3,a4,a5,a6,a7],_=>rfl
theorem Zit {M x:LI} {i:Nat} (h:i<M.length):(M++x).getD i 0=M.getD i 0:=by simp [List.getD_eq_getElem?_getD,List.getElem?_append_left h]
theorem Ziu {M x:LI} {i:Nat} (h:M.length<=i):(M++x).getD i 0=x.getD (i-M.length) 0:=by simp [List.getD_eq_getElem?_getD,List.getElem?_append_right h]
theorem Zg1 {M x:LI} (h:Byt M) (hx:Byt x):Byt (M++x):=by
  intro i
  by_cases hi:i<M.length
  · rw [Zit hi]; exact h i
  · rw [Ziu (by omega)]; exact hx _
theorem Zr3 {l:LI} {q i:Nat} (h:i<q):(l.take q).getD i 0=l.getD i 0:=by simp [List.getD_eq_getElem?_getD,List.getElem?_take,h]
theorem Zpt {l:LI} {q i:Nat}:(l.drop q).getD i 0=l.getD (q+i) 0:=by simp [List.getD_eq_getElem?_getD,List.getElem?_drop]
theorem Zsk {l:LI} (h:Byt l) (q:Nat):Byt (l.take q):=by
  intro i
  by_cases hi:i<q
  · rw [Zr3 hi]; exact h i
  · rw [Zl4 (by rw [List.length_take]; omega)]; decide
theorem Zsj {l:LI} (h:Byt l) (q:Nat):Byt (l.drop q):=by
  intro i
  rw [Zpt]; exact h _
theorem Z038 {xs ys:LI} {i:Nat} (h:i+ys.length<=xs.length):(wr xs i ys).length=xs.length:=by
  unfold wr
  rw [List.length_append,List.length_append,Z0c,List.length_drop]; omega
theorem Z0hs {xs ys:LI} {i:Nat} (hx:Byt xs) (hy:Byt ys):Byt (wr xs i ys):=by
  intro j
  rw [Zkf]
  split
  · exact hy _
  · exact hx _
theorem Zrg (x:Int):(be8 x).length=8:=rfl
theorem Zw6 (x:Int):Byt (be8 x):=byt_of (Zw7 x)
theorem walk {α:Type} (F:Nat->Nat->Option α) {j:Nat} {R:Option α} (hj:j<18446744073709551616) (hs : ∀ i f,i<j->F (f+1) i=F f (i+1)) (he : ∀ f,F (f+1) j=R):F big 0=R:=by
  have key : ∀ d i f,i+d=j->F (f+1+d) i=R:=by
    intro d
    induction d with
    | zero => intro i f h; obtain rfl : i = j := by omega
              exact he f
    | succ d ih=>intro i f h; rw [show f+1+(d+1)=(f+1+d)+1 by omega,hs i _ (by omega)]; exact ih (i+1) f (by omega)
  obtain ⟨f,hf⟩ : ∃ f,big=f+1+j:=⟨18446744073709551615-j,by have:big=18446744073709551616:=Z6d; omega⟩
  rw [hf]; exact key j 0 f (by omega)
theorem Zsg {i:Nat} (h:i<9223372036854775807):wrap .i64 ((i:Int)+1)=((i+1:Nat):Int):=by rw [Zp (by omega) (by omega)]; omega
theorem Z07y (x:Int):IntKind.u32.wrap x=x%4294967296:=by simp [wrap,IntKind.bits,IntKind.signed]
theorem Zck {x:Int} (h0:0<=x) (h1:x<4294967296):IntKind.u32.wrap x=x:=by rw [Z07y]; omega
theorem bv32 (m:Nat) (h:m<4294967296):(BitVec.ofInt 32 (m:Int)).toNat=m:=by
  rw [BitVec.toNat_ofInt]; simp; omega
theorem or32 {x y:Int} (m n:Nat) (hx:x=m) (hy:y=n) (h1:m<4294967296) (h2:n<4294967296):Z7 .or .u32 x y=((m ||| n:Nat):Int):=by
  subst hx; subst hy
  show IntKind.u32.wrap (((BitVec.ofInt 32 (m:Int) ||| BitVec.ofInt 32 (n:Int)).toNat:Nat):Int)=_
  rw [BitVec.toNat_or,bv32 m h1,bv32 n h2,Zck (by omega)]
  have:m ||| n<2^32:=Nat.or_lt_two_pow (by simpa using h1) (by simpa using h2)
  simp at this; omega
theorem Z019 (k:Nat) {x y a:Int} (hx:x=a*((2^k:Nat):Int)) (ha:0<=a) (h0:0<=y) (hy:y<((2^k:Nat):Int)) (h1:x+y<4294967296):Z7 .or .u32 x y=x+y:=by
  have hp:(0:Int)<=((2^k:Nat):Int):=Int.natCast_nonneg _
  have hx0:0<=x:=by rw [hx]; exact Int.mul_nonneg ha hp
  rw [or32 x.toNat y.toNat (by omega) (by omega) (by omega) (by omega)]
  have e:x.toNat=a.toNat <<< k:=by
    rw [Nat.shiftLeft_eq]
    have:(x.toNat:Int)=((a.toNat*2^k:Nat):Int):=by
      rw [Int.natCast_mul,Int.toNat_of_nonneg hx0,Int.toNat_of_nonneg ha,hx]
    exact Int.ofNat_inj.1 this
  rw [e,<- Nat.shiftLeft_add_eq_or_of_lt (by omega:y.toNat<2^k),<- e]
  omega
theorem Zob {x b:Int} (hx:0<=x/\x<16777216) (hb:0<=b/\b<256):Z7 .or .u32 (Z02 .u32 x 8) b=x*256+b:=by
  have h:=Zjj .u32 (x:=x) (n:=8) (by decide)
  have e:((2^8:Nat):Int)=256:=by decide
  rw [e,Zck (by omega) (by omega)] at h
  have h2:Z02 .u32 x 8=x*256:=h
  rw [h2]
  exact Z019 8 (a:=x) rfl hx.1 hb.1 hb.2 (by omega)
def be4 (l:LI) (o:Nat):Int:=((l.getD o 0*256+l.getD (o+1) 0)*256+l.getD (o+2) 0)*256+l.getD (o+3) 0
theorem Z0jz (f:Bool) (a b c d:Int) (k:Int->Option (Int×Bool)):Z2v (f,[a,b,c,d]) k big 0 0=k (Z7 .or .u32 (Z02 .u32 (Z7 .or .u32 (Z02 .u32 (Z7 .or .u32 (Z02 .u32 (Z7 .or .u32 (Z02 .u32 0 8) (wrap .u32 a)) 8) (wrap .u32 b)) 8) (wrap .u32 c)) 8) (wrap .u32 d)):=by kernel_rfl
theorem Zxh {l:LI} (h:l.length=4):l = [l.getD 0 0,l.getD 1 0,l.getD 2 0,l.getD 3 0]:=by
  match l,h with
  | [a0,a1,a2,a3],_=>rfl
theorem Ziy (p:LI) (o i:Nat) (hi:i<4):((p.drop o).take 4).getD i 0=p.getD (o+i) 0:=by
  simp [List.getD_eq_getElem?_getD,List.getElem?_take,hi,List.getElem?_drop]
theorem Zvp:Z4m=some 32:=by kernel_rfl
theorem Zv1 {p:LI} (h:Byt p) (l:p.length=64) {t:Nat} (ht:t<16):Z5c p ((4*t:Nat):Int)=some (be4 p (4*t),true):=by
  have e1:wrap .i64 (Int.tdiv 32 8)=4:=by decide
  have e2:wrap .i64 ((p.length:Int)-4)=60:=by rw [l]; decide
  have e3:wrap .i64 (((4*t:Nat):Int)+4)=((4*t+4:Nat):Int):=by rw [Zp (by omega) (by omega)]; omega
  have e8:4*t+4-4*t=4:=by omega
  have hlen:((p.drop (4*t)).take 4).length=4:=by rw [List.length_take,List.length_drop,l]; omega
  have hp:Z5w p ((4*t:Nat):Int)=some (false,(p.drop (4*t)).take 4):=by
    rw [Z5w,Z3 Zvp]
    simp only [Zj,e1,e2]
    rw [Z1p (by simp; omega)]
    simp only [e3,Int.toNat_natCast,e8]
    rw [Z0h (by simp [Zki]; omega),Z0h (decide_eq_true (by rw [hlen]; decide))]
  have b0:=h (4*t)
  have b1:=h (4*t+1)
  have b2:=h (4*t+2)
  have b3:=h (4*t+3)
  rw [Z5c,Z3 hp,Z2a,Zxh hlen,Z0jz,Ziy _ _ _ (by decide),Ziy _ _ _ (by decide),Ziy _ _ _ (by decide),Ziy _ _ _ (by decide)]
  rw [Zck (x:=p.getD (4*t+0) 0) b0.1 (by have:=b0.2; simp only [Nat.add_zero]; omega),Zck b1.1 (by omega),Zck b2.1 (by omega),Zck b3.1 (by omega)]
  simp only [Nat.add_zero]
  have o1:Z7 .or .u32 (Z02 .u32 0 8) (p.getD (4*t) 0)=0*256+p.getD (4*t) 0:=Zob (by decide) b0
  have o2:=Zob (x:=0*256+p.getD (4*t) 0) (by omega) b1
  have o3:=Zob (x:=(0*256+p.getD (4*t) 0)*256+p.getD (4*t+1) 0) (by omega) b2
  have o4:=Zob (x:=((0*256+p.getD (4*t) 0)*256+p.getD (4*t+1) 0)*256+p.getD (4*t+2) 0) (by omega) b3
  rw [o1,o2,o3,o4]
  simp only [be4,Int.zero_mul,Int.zero_add]
  rfl
def rot4 (x:Int) (n m:Int):Int:=Z7 .or .u32 (Zr .u32 x n) (Z02 .u32 x m)
def sm (x a b c d s:Int):Int:=Z7 .xor .u32 (Z7 .xor .u32 (rot4 x a b) (rot4 x c d)) (Zr .u32 x s)
def tu (x a b c d e f:Int):Int:=Z7 .xor .u32 (Z7 .xor .u32 (rot4 x a b) (rot4 x c d)) (rot4 x e f)
def sg4 (x:Int):Int:=sm x 17 15 19 13 10
def sg3 (x:Int):Int:=sm x 7 25 18 14 3
def bt1 (x:Int):Int:=tu x 6 26 11 21 25 7
def bt0 (x:Int):Int:=tu x 2 30 13 19 22 10
theorem Z0pf (x:Int):Zch x 17 19 10=some (sg4 x):=by kernel_rfl
theorem Z0pe (x:Int):Zch x 7 18 3=some (sg3 x):=by kernel_rfl
theorem Z0dx (x:Int):Z9d x 6 11 25=some (bt1 x):=by kernel_rfl
theorem Z0dw (x:Int):Z9d x 2 13 22=some (bt0 x):=by kernel_rfl
def Zq9 (p l:LI) (n:Nat):Int:=if n<16 then be4 p (4*n) else wrap .u32 (wrap .u32 (wrap .u32 (sg4 (l.getD (n-2) 0)+l.getD (n-7) 0)+sg3 (l.getD (n-15) 0))+l.getD (n-16) 0)
def wl4 (p:LI):Nat->LI
  | 0=>[]
  | n+1=>wl4 p n ++ [Zq9 p (wl4 p n) n]
theorem Zin (p:LI) : ∀ n,(wl4 p n).length=n
  | 0=>rfl
  | n+1=>by show (wl4 p n ++ [_]).length=_; rw [List.length_append,Zin p n]; rfl
theorem Z029 (p:LI) (n j:Nat) (h:j<n):(wl4 p (n+1)).getD j 0=(wl4 p n).getD j 0:=by
  show (wl4 p n ++ [_]).getD j 0=_
  simp [List.getD_eq_getElem?_getD,List.getElem?_append_left (show j<(wl4 p n).length by rw [Zin]; exact h)]
theorem Z02a (p:LI) (n:Nat):(wl4 p (n+1)).getD n 0=Zq9 p (wl4 p n) n:=by
  show (wl4 p n ++ [_]).getD n 0=_
  have:=Zin p n
  simp [List.getD_eq_getElem?_getD,this]
theorem rep0 (n i:Nat):(replicate n (0:Int)).getD i 0=0:=by
  simp only [List.getD_eq_getElem?_getD,List.getElem?_replicate]
  split <;> rfl
def wz (p:LI) (n:Nat):LI:=wl4 p n++replicate (64-n) 0
theorem Zzj (p:LI) {n:Nat} (h:n<=64):(wz p n).length=64:=by unfold wz; simp [Zin]; omega
theorem Zio (p:LI) {n j:Nat} (h:j<n):(wz p n).getD j 0=(wl4 p n).getD j 0:=by
  unfold wz
  exact Zit (by rw [Zin]; exact h)
theorem Z03a (p:LI) {n:Nat} {z:Int} (h:n<64) (hz:z=Zq9 p (wl4 p n) n):Z3z (wz p n) n z=wz p (n+1):=by
  refine Zl6 (n:=64) (by rw [Z01t (by rw [Zzj p (by omega)]; exact h),Zzj p (by omega)]) (Zzj p (by omega)) ?_
  intro j hj
  rw [Z8j]
  by_cases e:j=n
  · subst e; rw [if_pos rfl,Zio p (by omega),Z02a,hz]
  · rw [if_neg e]
    by_cases h2:j<n
    · rw [Zio p h2,Zio p (by omega),Z029 p n j h2]
    · unfold wz
      rw [Ziu (by rw [Zin]; omega),Ziu (by rw [Zin]; omega)]
      rw [rep0,rep0]
theorem tk64 {p:LI} (l:p.length=64):tk p 0 64=p:=Zdp l
theorem m_of {i k:Nat} (h:k<=i) (hi:i<1000000):wrap .i64 ((i:Int)-(k:Int))=((i-k:Nat):Int):=Zx8 h hi
theorem Z0dv {p:LI} (h:Byt p) (l:p.length=64):Z83 p=some (wl4 p 64):=by
  have e0:(replicate 64 0:LI)=wz p 0:=rfl
  have e64:wz p 64=wl4 p 64:=by unfold wz; simp
  rw [Z83,Z2a,e0]
  refine (walk (fun f i=>Z39 p some f (i:Int) (wz p i)) (j:=64) (R:=some (wz p 64)) (by decide) ?_ ?_).trans (by rw [e64])
  · intro i f hi
    have e1:=Zsg (i:=i) (by omega)
    show Z38 p some (Z39 p some f) _ _=_
    rw [Z38,Z2e (decide_eq_true (by omega)),Z2a]
    by_cases h16:i<16
    · have e8:wrap .i64 (4*(i:Int))=((4*i:Nat):Int):=by rw [Zp (by omega) (by omega)]; omega
      rw [Z2e (decide_eq_true (by omega)),Zj,e8,tk64 l,Z3 (Zv1 h l h16),Z0h (Z3l (by omega) (by omega))]
      simp only [Zj,e1,Int.toNat_natCast]
      rw [Z03a p hi (by unfold Zq9; rw [if_pos h16])]
    · have m2:wrap .i64 ((i:Int)-2)=((i-2:Nat):Int):=m_of (k:=2) (by omega) (by omega)
      have m7:wrap .i64 ((i:Int)-7)=((i-7:Nat):Int):=m_of (k:=7) (by omega) (by omega)
      have m15:wrap .i64 ((i:Int)-15)=((i-15:Nat):Int):=m_of (k:=15) (by omega) (by omega)
      have m16:wrap .i64 ((i:Int)-16)=((i-16:Nat):Int):=m_of (k:=16) (by omega) (by omega)
      rw [Z1p (decide_eq_false (by omega))]
      simp only [Zj,m2,m7,m15,m16,e1,Int.toNat_natCast]
      rw [Z0h (Z3l (by omega) (by omega)),Z0h (Z3l (by omega) (by omega)),Z0h (Z3l (by omega) (by omega)),Z0h (Z3l (by omega) (by omega)),Z3 (Z0pf _),Z3 (Z0pe _),Z0h (Z3l (by omega) (by omega)),
        Z03a p hi (by unfold Zq9; rw [if_neg h16,Zio p (by omega),Zio p (by omega),Zio p (by omega),Zio p (by omega)])]
  · intro f
    show Z38 p some _ _ _=_
    rw [Z38,Z1p (by decide)]
def rnd4 (s:LI) (k w:Int):LI :=
  let x:=wrap .u32 (wrap .u32 (wrap .u32 (wrap .u32 (s.getD 7 0+bt1 (s.getD 4 0))+Z7 .xor .u32 (Z7 .and .u32 (s.getD 4 0) (s.getD 5 0)) (Z7 .and .u32 (Z7 .xor .u32 4294967295 (s.getD 4 0)) (s.getD 6 0)))+k)+w)
  let y:=wrap .u32 (bt0 (s.getD 0 0)+Z7 .xor .u32 (Z7 .xor .u32 (Z7 .and .u32 (s.getD 0 0) (s.getD 1 0)) (Z7 .and .u32 (s.getD 0 0) (s.getD 2 0))) (Z7 .and .u32 (s.getD 1 0) (s.getD 2 0)))
  [wrap .u32 (x+y),s.getD 0 0,s.getD 1 0,s.getD 2 0,wrap .u32 (s.getD 3 0+x),s.getD 4 0,s.getD 5 0,s.getD 6 0]
def Zf8 (w s:LI):Nat->LI
  | 0=>s
  | n+1=>rnd4 (Zf8 w s n) (G_table256.getD n 0) (w.getD n 0)
theorem Z06d {w:LI} (s:LI) (k:Int->Int->Int->Int->Int->Int->Int->Int->Option (LI)) :
    Z3y w k big (s.getD 0 0) (s.getD 1 0) (s.getD 2 0) (s.getD 3 0) (s.getD 4 0) (s.getD 5 0) (s.getD 6 0) (s.getD 7 0) 0 =
    k ((Zf8 w s 64).getD 0 0) ((Zf8 w s 64).getD 1 0) ((Zf8 w s 64).getD 2 0) ((Zf8 w s 64).getD 3 0) ((Zf8 w s 64).getD 4 0) ((Zf8 w s 64).getD 5 0) ((Zf8 w s 64).getD 6 0) ((Zf8 w s 64).getD 7 0) :=
  walk (fun f i=>Z3y w k f ((Zf8 w s i).getD 0 0) ((Zf8 w s i).getD 1 0) ((Zf8 w s i).getD 2 0) ((Zf8 w s i).getD 3 0) ((Zf8 w s i).getD 4 0) ((Zf8 w s i).getD 5 0) ((Zf8 w s i).getD 6 0) ((Zf8 w s i).getD 7 0) (i:Int)) (j:=64) (by decide)
    (fun i f hi=>by
      have e1:=Zsg (i:=i) (by omega)
      show Z4x w k (Z3y w k f) _ _ _ _ _ _ _ _ _=_
      rw [Z4x,Z2e (decide_eq_true (by omega)),Z0h (Z3l (by omega) (by omega))]
      simp only [Zj,e1,Int.toNat_natCast]
      rw [Z3 (Z0dx _),Z0h (Z3l (by omega) (by omega)),Z3 (Z0dw _)]
      rfl)
    (fun f=>by
      show Z4x w k _ _ _ _ _ _ _ _ _ _=_
      rw [Z4x,Z1p (by decide)])
def blk4 (s p:LI):LI :=
  let v:=Zf8 (wl4 p 64) s 64
  [wrap .u32 (v.getD 0 0+s.getD 0 0),wrap .u32 (v.getD 1 0+s.getD 1 0),wrap .u32 (v.getD 2 0+s.getD 2 0),wrap .u32 (v.getD 3 0+s.getD 3 0),wrap .u32 (v.getD 4 0+s.getD 4 0),wrap .u32 (v.getD 5 0+s.getD 5 0),wrap .u32 (v.getD 6 0+s.getD 6 0),wrap .u32 (v.getD 7 0+s.getD 7 0)]
theorem Z0pd (k:LI->Option (LI)) (s0 s1 s2 s3 s4 s5 s6 s7:Int) (a0 a1 a2 a3 a4 a5 a6 a7:Int):Z66 [a0,a1,a2,a3,a4,a5,a6,a7] k big 0 [s0,s1,s2,s3,s4,s5,s6,s7]=k [wrap .u32 (s0+a0),wrap .u32 (s1+a1),wrap .u32 (s2+a2),wrap .u32 (s3+a3),wrap .u32 (s4+a4),wrap .u32 (s5+a5),wrap .u32 (s6+a6),wrap .u32 (s7+a7)]:=by kernel_rfl
theorem Z066 {s p:LI} (hs:s.length=8) (h:Byt p) (l:p.length=64):Zbs s p=some (blk4 s p):=by
  rw [Zbs]
  simp only [Zj]
  rw [Z3 (Z0dv h l)]
  simp only [Zj,Z2a]
  rw [Z06d]
  unfold blk4
  dsimp only
  generalize Zf8 (wl4 p 64) s 64=v at *
  have e:=Z0pd some (s.getD 0 0) (s.getD 1 0) (s.getD 2 0) (s.getD 3 0) (s.getD 4 0) (s.getD 5 0) (s.getD 6 0) (s.getD 7 0) (v.getD 0 0) (v.getD 1 0) (v.getD 2 0) (v.getD 3 0) (v.getD 4 0) (v.getD 5 0) (v.getD 6 0) (v.getD 7 0)
  rw [<- Zv0 hs] at e
  refine e.trans ?_
  rw [Int.add_comm (s.getD 0 0),Int.add_comm (s.getD 1 0),Int.add_comm (s.getD 2 0),Int.add_comm (s.getD 3 0),Int.add_comm (s.getD 4 0),Int.add_comm (s.getD 5 0),Int.add_comm (s.getD 6 0),Int.add_comm (s.getD 7 0)]
def bk4 (M:LI) (n:Nat):LI:=(M.drop (64*n)).take 64
theorem Zrh {M:LI} {n:Nat} (h:64*n+64<=M.length):(bk4 M n).length=64:=by unfold bk4; rw [List.length_take,List.length_drop]; omega
theorem Zod {M:LI} {n i:Nat} (hi:i<64):(bk4 M n).getD i 0=M.getD (64*n+i) 0:=by unfold bk4; rw [Zr3 hi,Zpt]
theorem Z03l {M x:LI} {n:Nat} (h:64*n+64<=M.length):bk4 (M++x) n=bk4 M n :=
  Zl6 (n:=64) (Zrh (by rw [List.length_append]; omega)) (Zrh h) (fun j hj=>by rw [Zod hj,Zod hj,Zit (by omega)])
def fb4 (M:LI):Nat->LI
  | 0=>G_first256
  | n+1=>blk4 (fb4 M n) (bk4 M n)
theorem Z054 (M:LI) : ∀ n,(fb4 M n).length=8
  | 0=>by show G_first256.length=8; decide
  | n+1=>rfl
theorem Zrp {M x:LI} : ∀ n,64*n<=M.length->fb4 (M++x) n=fb4 M n
  | 0,_=>rfl
  | n+1,h=>by
    show blk4 (fb4 (M++x) n) (bk4 (M++x) n)=blk4 (fb4 M n) (bk4 M n)
    rw [Zrp n (by omega),Z03l (by omega)]
structure Zzl (M:LI) (a h:LI) (c:Int):Prop where
  st:a=fb4 M (M.length / 64)
  hv:c=(M.length:Int)
  hl:h.length=64
  hd : ∀ i,i<M.length%64->h.getD i 0=M.getD (64*(M.length / 64)+i) 0
  hb:Byt h
theorem Zvr (m:Nat) : ∀ (l a h:LI) (c:Int) (M:LI),l.length<=m->M.length+l.length<9223372036854775808->Byt l->Byt M->Zzl M a h c->∀ n,∃ r,Z13 (n+1+m) l a h c=some r/\Zzl (M++l) r.gstate r.grest r.glength:=by
  induction m with
  | zero =>
    intro l a h c M hl hlen hbl hbM hD n
    have e:l = []:=List.length_eq_zero_iff.1 (by omega)
    subst e
    refine ⟨⟨a,h,c⟩,?_,by rw [List.append_nil]; exact hD⟩
    rw [Nat.add_zero,Z13,Z2g,Z1p (decide_eq_false (by simp))]
  | succ m ih =>
    intro l a h c M hl hlen hbl hbM hD n
    by_cases he:l.length=0
    · have e:l = []:=List.length_eq_zero_iff.1 he
      subst e
      refine ⟨⟨a,h,c⟩,?_,by rw [List.append_nil]; exact hD⟩
      rw [<- Nat.add_assoc,Z13,Z2g,Z1p (decide_eq_false (by simp))]
    · have hr:=Nat.mod_lt M.length (show 0<64 by decide)
      have hdm:=Nat.div_add_mod M.length 64
      have hc:=hD.hv
      have ht:Int.tmod c 64=((M.length%64:Nat):Int):=by rw [Int.tmod_eq_emod_of_nonneg (by omega),hc]; omega
      obtain ⟨q,hq⟩ : ∃ q,q=Nat.min l.length (64-M.length%64):=⟨_,rfl⟩
      have hq1:0<q/\q<=l.length/\q<=64-M.length%64/\(q=l.length∨q=64-M.length%64):=by
        rw [hq]
        show 0<min l.length (64-M.length%64)/\min l.length (64-M.length%64)<=l.length/\min l.length (64-M.length%64)<=64-M.length%64/\(min l.length (64-M.length%64)=l.length∨min l.length (64-M.length%64)=64-M.length%64)
        omega
      have htake:l.take (64-M.length%64)=l.take q:=by
        rw [hq]
        rcases Nat.le_total l.length (64-M.length%64) with h1 | h1
        · rw [List.take_of_length_le h1,List.take_of_length_le (by show l.length<=min l.length (64-M.length%64); omega)]
        · congr 1; show _=min l.length (64-M.length%64); omega
      have hrest:(l.drop ((q:Int)).toNat).take (((l.length:Int)).toNat-((q:Int)).toNat)=l.drop q:=by
        rw [Int.toNat_natCast,Int.toNat_natCast,List.take_of_length_le (by rw [List.length_drop]; omega)]
      have hM:M++l=(M++l.take q)++l.drop q:=by rw [List.append_assoc,List.take_append_drop]
      have hlq:(l.take q).length=q:=by rw [List.length_take]; omega
      have hl1:(M++l.take q).length=M.length+q:=by rw [List.length_append,hlq]
      have hwl:(wr h (M.length%64) (l.take q)).length=64:=by rw [Z038 (by rw [hlq,hD.hl]; omega),hD.hl]
      have hwb:Byt (wr h (M.length%64) (l.take q)):=Z0hs hD.hb (Zsk hbl _)
      have hwd : ∀ i,i<M.length%64+q->(wr h (M.length%64) (l.take q)).getD i 0=(M++l.take q).getD (64*(M.length / 64)+i) 0:=by
        intro i hi
        rw [Zkf,hlq]
        by_cases h1:M.length%64<=i/\i<M.length%64+q
        · rw [if_pos h1,Ziu (by omega)]
          congr 1; omega
        · rw [if_neg h1,hD.hd i (by omega),Zit (by omega)]
      have ew:wrap .u64 (q:Int)=(q:Int):=Z03 (by omega) (by omega)
      have ew2:wrap .u64 (c+(q:Int))=((M.length+q:Nat):Int):=by rw [Z03 (by omega) (by omega)]; omega
      have et2:Int.tmod ((M.length+q:Nat):Int) 64=(((M.length+q)%64:Nat):Int):=by rw [Int.tmod_eq_emod_of_nonneg (by omega)]; omega
      have hbM1:Byt (M++l.take q):=Zg1 hbM (Zsk hbl _)
      have hlr:(l.drop q).length=l.length-q:=List.length_drop
      rw [<- Nat.add_assoc,Z13,Z2g,Z2e (decide_eq_true (by omega)),Zj,ht,Z0h (by simp [Zki]; omega),Zj]
      simp only [Int.toNat_natCast]
      rw [<- hq,Z0h (by simp [Zki]; omega),Zj,ew,Zj,ew2,Zj,et2,htake]
      simp only [Int.toNat_natCast] at hrest
      rw [hrest]
      by_cases h64:(M.length+q)%64=0
      · have hblock:wr h (M.length%64) (l.take q)=bk4 (M++l.take q) (M.length / 64) :=
          Zl6 hwl (Zrh (by rw [hl1]; omega)) (fun j hj=>by rw [hwd j (by omega),Zod hj])
        have ha8:a.length=8:=by rw [hD.st]; exact Z054 _ _
        rw [Z2e (by rw [h64]; rfl),Z3 (Z066 ha8 hwb hwl)]
        have hdiv:(M.length+q) / 64=M.length / 64+1:=by omega
        have hD2:Zzl (M++l.take q) (blk4 a (wr h (M.length%64) (l.take q))) (wr h (M.length%64) (l.take q)) ((M.length+q:Nat):Int):=by
          refine ⟨?_,by rw [hl1],hwl,?_,hwb⟩
          · rw [hl1,hdiv,hblock,hD.st]
            show _=blk4 (fb4 (M++l.take q) (M.length / 64)) _
            rw [Zrp _ (by omega)]
          · intro i hi
            rw [hl1,h64] at hi
            omega
        obtain ⟨r,er,h2⟩:=ih (l.drop q) _ _ _ (M++l.take q) (by rw [hlr]; omega) (by rw [hl1,hlr]; omega) (Zsj hbl _) hbM1 hD2 n
        exact ⟨r,er,by rw [hM]; exact h2⟩
      · rw [Z1p (by simp; omega)]
        have hdiv:(M.length+q) / 64=M.length / 64:=by omega
        have hmod:(M.length+q)%64=M.length%64+q:=by omega
        have hD2:Zzl (M++l.take q) a (wr h (M.length%64) (l.take q)) ((M.length+q:Nat):Int):=by
          refine ⟨?_,by rw [hl1],hwl,?_,hwb⟩
          · rw [hl1,hdiv,Zrp _ (by omega)]; exact hD.st
          · intro i hi
            rw [hl1,hmod] at hi
            rw [hl1,hdiv]
            exact hwd i hi
        obtain ⟨r,er,h2⟩:=ih (l.drop q) _ _ _ (M++l.take q) (by rw [hlr]; omega) (by rw [hl1,hlr]; omega) (Zsj hbl _) hbM1 hD2 n
        exact ⟨r,er,by rw [hM]; exact h2⟩
theorem Zo1 {d:Z0g} {M l:LI} (hl:M.length+l.length<9223372036854775808) (hbl:Byt l) (hbM:Byt M) (hD:Zzl M d.gstate d.grest d.glength) : ∃ r,Z2s d l=some r/\Zzl (M++l) r.gstate r.grest r.glength:=by
  obtain ⟨n,hn⟩ : ∃ n',big=n'+1+l.length:=⟨18446744073709551615-l.length,by have:big=18446744073709551616:=Z6d; omega⟩
  rw [Z2s,hn]
  exact Zvr l.length l d.gstate d.grest d.glength M (Nat.le_refl _) hl hbl hbM hD n
theorem Zzl.start:Zzl [] G_first256 (replicate 64 0) 0:=⟨rfl,rfl,by simp,fun i hi=>by simp at hi,Zvw _⟩
def Zj7 (x:Int):Nat:=((64-(x+9)%64)%64).toNat
def Zva (x:Int):LI:=([128]++replicate (Zj7 x) 0)++be8 (wrap .u64 (x*8))
theorem Zy3 (x:Int):(Zva x).length=9+Zj7 x:=by
  unfold Zva
  simp [Zrg]
  omega
theorem Zy2 (x:Int):Byt (Zva x):=Zg1 (Zg1 (byt_of (by decide)) (Zvw _)) (Zw6 _)
theorem Z01b {x:Int} (h0:0<=x) (h1:x<9223372036854775808):Zet x=some (Zva x):=by
  have e1:Int.tmod x 64=x%64:=Int.tmod_eq_emod_of_nonneg h0
  have e2:wrap .i64 (x%64)=x%64:=Zp (by omega) (by omega)
  have e3:wrap .i64 (x%64+9)=x%64+9:=Zp (by omega) (by omega)
  have e4:Int.tmod (x%64+9) 64=(x+9)%64:=by rw [Int.tmod_eq_emod_of_nonneg (by omega)]; omega
  have e5:wrap .i64 (64-(x+9)%64)=64-(x+9)%64:=Zp (by omega) (by omega)
  have e6:Int.tmod (64-(x+9)%64) 64=(Zj7 x:Int):=by rw [Int.tmod_eq_emod_of_nonneg (by omega)]; unfold Zj7; omega
  have hpz:Zj7 x<64:=by unfold Zj7; omega
  have e7:wrap .i64 (1+(Zj7 x:Int))=((1+Zj7 x:Nat):Int):=by rw [Zp (by omega) (by omega)]; omega
  have e8:wrap .i64 (((1+Zj7 x:Nat):Int)+8)=((9+Zj7 x:Nat):Int):=by rw [Zp (by omega) (by omega)]; omega
  simp only [Zet,Zj,e1,e2,e3,e4,e5,e6,e7,e8,Int.toNat_natCast]
  have hs:Zji (0:Int) (replicate (1+Zj7 x) 0) (0:Int).toNat 128 = [128]++replicate (Zj7 x) 0:=by
    rw [Zd2 (by simp; omega),Nat.add_comm,List.replicate_succ]; rfl
  rw [Z0h (by unfold mkB; simp only [Bool.and_eq_true,decide_eq_true_eq]; omega),Z0h (Z3l (by decide) (by simp; omega)),hs,Z3 (Zkd _),Z0h (by simp [Zrg]; omega)]
  rfl
def Zud (M:LI):LI:=M++Zva (M.length:Int)
def Zsp (x:Int):LI:=[wrap .u8 (Zr .u32 (Zr .u32 (Zr .u32 x 8) 8) 8),wrap .u8 (Zr .u32 (Zr .u32 x 8) 8),wrap .u8 (Zr .u32 x 8),wrap .u8 x]
def Z024 (s:LI):LI:=Zsp (s.getD 0 0)++(Zsp (s.getD 1 0)++(Zsp (s.getD 2 0)++(Zsp (s.getD 3 0)++(Zsp (s.getD 4 0)++(Zsp (s.getD 5 0)++(Zsp (s.getD 6 0)++Zsp (s.getD 7 0)))))))
def h256 (M:LI):LI:=Z024 (fb4 (Zud M) ((Zud M).length / 64))
theorem Z000 (x:Int) : ∀ y∈Zsp x,0<=y/\y<256:=by
  unfold Zsp
  repeat' (first | exact List.forall_mem_nil _ | refine List.forall_mem_cons.2 ⟨Znz _,?_⟩)
theorem Zzb (s:LI):Byt (Z024 s):=by
  apply byt_of
  unfold Z024
  intro x hx
  simp only [List.mem_append] at hx
  rcases hx with h | h | h | h | h | h | h | h <;> exact Z000 _ _ h
theorem Zoh (M:LI):Byt (h256 M):=Zzb _
theorem Zoi (M:LI):(h256 M).length=32:=rfl
theorem Zy9 (y d:Z0g):Z3d y (fun a70=>some (a70,d)) big 0 (replicate 32 0)=some (Z024 y.gstate,d):=by kernel_rfl
theorem Zya {d:Z0g} {M:LI} (hM:M.length<9223372036854775000) (hb:Byt M) (hD:Zzl M d.gstate d.grest d.glength):Z67 d=some (h256 M,d):=by
  have hz:Zj7 (M.length:Int)<64:=by unfold Zj7; omega
  have hl:=hD.hv
  obtain ⟨r,er,hr⟩:=Zo1 (d:=d) (l:=Zva d.glength) (by rw [Zy3,hl]; omega) (Zy2 _) hb hD
  rw [Z67,Z3 (Z01b (by omega) (by omega)),Z3 er,Z2a,Zy9]
  have e:r.gstate=fb4 (Zud M) ((Zud M).length / 64):=by
    have:=hr.st
    rw [hl] at this
    exact this
  rw [e]
  rfl
theorem Z063 {M:LI} (hM:M.length<9223372036854775000) (hb:Byt M):Z72 M=some (h256 M):=by
  obtain ⟨r,er,hr⟩:=Zo1 (d:=⟨G_first256,replicate 64 0,0⟩) (l:=M) (M:=[]) (by simp; omega) hb Z03b Zzl.start
  rw [Z72,Zho,Z3 rfl]
  show opt (Z2s ⟨G_first256,replicate 64 0,0⟩ M) _=_
  rw [Z3 er,Z3 (Zya hM hb hr)]
theorem Zsx {α:Type} {z:α} {l:List α} {i:Nat} (h:i<l.length):l.drop i=l.getD i z::l.drop (i+1):=by
  rw [List.drop_eq_getElem_cons h]
  congr 1
  simp [List.getD_eq_getElem?_getD,List.getElem?_eq_getElem h]
theorem Z022 {α:Type} {z:α} {l:List α} {i:Nat} (h:i<l.length):l.take (i+1)=l.take i ++ [l.getD i z]:=by
  rw [List.take_succ,List.getElem?_eq_getElem h]
  simp [List.getD_eq_getElem?_getD,List.getElem?_eq_getElem h]
theorem Z05m {α:Type} {z x:α} {t d:List α} {i:Nat} (h:i=t.length):(t++x::d).getD i z=x:=by subst h; simp [List.getD_eq_getElem?_getD]
theorem Z05n {α:Type} {x y:α} {t d:List α} {i:Nat} (h:i=t.length):(t++x::d).set i y=t++y::d:=by subst h; simp
theorem Z07u {f:Int->Int} {L:LI} {i:Nat} (h:i<L.length):((L.take i).map f++L.drop i).getD i 0=L.getD i 0:=by
  rw [Zsx (z:=0) h,Z05m (by simp; omega)]
theorem Z07v {f:Int->Int} {L:LI} {i:Nat} (h:i<L.length):Zji 0 ((L.take i).map f++L.drop i) i (f (L.getD i 0))=(L.take (i+1)).map f++L.drop (i+1):=by
  rw [Zd2 (by simp; omega),Zsx (z:=0) h,Z05n (by simp; omega),Z022 (z:=0) h,List.map_append,List.append_assoc]
  rfl
def kz (key:LI):LI:=key++replicate (64-key.length) 0
def xr (c x:Int):Int:=Z7 .xor .u8 x c
def frm (c:Int) (key:LI):LI:=(kz key).map (xr c)
def mac4 (key m:LI):LI:=h256 (frm 92 key++h256 (frm 54 key++m))
theorem u8x (x y:Int):0<=Z7 .xor .u8 x y/\Z7 .xor .u8 x y<256:=by
  show 0<=IntKind.u8.wrap _/\IntKind.u8.wrap _<256
  rw [Z0v]; omega
theorem Z02s {key:LI} (h:key.length<=64):(kz key).length=64:=by unfold kz; simp; omega
theorem Zx2 {c:Int} {key:LI} (h:key.length<=64):(frm c key).length=64:=by unfold frm; rw [List.length_map,Z02s h]
theorem Zx1 (c:Int) (key:LI):Byt (frm c key):=by
  apply byt_of
  intro x hx
  obtain ⟨y,_,rfl⟩:=List.mem_map.1 hx
  exact u8x _ _
theorem Zl7 (k m:LI):(mac4 k m).length=32:=rfl
theorem Z00r (k m:LI):Byt (mac4 k m):=Zoh _
theorem Z02z {c:Int} {key:LI} (h:key.length<=64):Z2f c 64 key=some (frm c key):=by
  have e1:key.take (replicate (64:Int).toNat 0:LI).length++(replicate (64:Int).toNat 0:LI).drop key.length=kz key:=by
    show key.take (replicate 64 (0:Int)).length++(replicate 64 (0:Int)).drop key.length=kz key
    rw [List.length_replicate,List.take_of_length_le h,List.drop_replicate]; rfl
  rw [Z2f,Z0h (by decide),Z0h (by decide),e1,Zj,Z2a]
  have hl:=Z02s h
  unfold frm
  generalize kz key=L at *
  refine (walk (fun f i=>Z0x c L some f ((L.take i).map (xr c)++L.drop i) (i:Int)) (j:=64) (R:=some (L.map (xr c))) (by decide) ?_ ?_)
  · intro i f hi
    have e2:=Zsg (i:=i) (by omega)
    have hlen:((L.take i).map (xr c)++L.drop i).length=64:=by simp; omega
    show Z1f c L some (Z0x c L some f) _ _=_
    rw [Z1f,Z2e (decide_eq_true (by omega)),Z0h (Z3l (by omega) (by omega))]
    simp only [Zj,Int.toNat_natCast,e2]
    rw [Z07u (by omega),Z0h (Z3l (by omega) (by omega))]
    exact congrArg (fun q=>Z0x c L some f q ((i+1:Nat):Int)) (Z07v (f:=xr c) (by omega))
  · intro f
    show Z1f c L some _ _ _=_
    rw [Z1f,Z1p (decide_eq_false (by omega)),List.drop_of_length_le (by omega),List.append_nil,List.take_of_length_le (by omega)]
theorem Zxe (a b:LI):Z6t [a,b]=(bnd (wrap .i64 (0+(a.length:Int))) fun s1=>bnd (wrap .i64 (s1+(b.length:Int))) fun s2=>chk (mkB 1 0 s2)<|chk (decide (((replicate 0 0:LI).length+a.length)*1<=140737488355328))<|chk (decide ((((replicate 0 0:LI)++a).length+b.length)*1<=140737488355328))<|some (((replicate 0 0:LI)++a)++b)):=by kernel_rfl
theorem Zxf (a b c:LI):Z6t [a,b,c]=(bnd (wrap .i64 (0+(a.length:Int))) fun s1=>bnd (wrap .i64 (s1+(b.length:Int))) fun s2=>bnd (wrap .i64 (s2+(c.length:Int))) fun s3=>chk (mkB 1 0 s3)<|chk (decide (((replicate 0 0:LI).length+a.length)*1<=140737488355328))<|chk (decide ((((replicate 0 0:LI)++a).length+b.length)*1<=140737488355328))<|chk (decide (((((replicate 0 0:LI)++a)++b).length+c.length)*1<=140737488355328))<|some ((((replicate 0 0:LI)++a)++b)++c)):=by kernel_rfl
theorem Z09e {a b:LI} (h:a.length+b.length<=1000000):Z6t [a,b]=some (a++b):=by
  have e1:wrap .i64 (0+(a.length:Int))=(a.length:Int):=by rw [Zp (by omega) (by omega)]; omega
  have e2:wrap .i64 ((a.length:Int)+(b.length:Int))=((a.length+b.length:Nat):Int):=by rw [Zp (by omega) (by omega)]; omega
  rw [Zxe]
  simp only [Zj,e1,e2,List.replicate_zero,List.nil_append]
  rw [Z0h (by unfold mkB; simp only [Bool.and_eq_true,decide_eq_true_eq]; omega),Z0h (by simp; omega),Z0h (by simp; omega)]
theorem Z09f {a b c:LI} (h:a.length+b.length+c.length<=1000000):Z6t [a,b,c]=some (a++(b++c)):=by
  have e1:wrap .i64 (0+(a.length:Int))=(a.length:Int):=by rw [Zp (by omega) (by omega)]; omega
  have e2:wrap .i64 ((a.length:Int)+(b.length:Int))=((a.length+b.length:Nat):Int):=by rw [Zp (by omega) (by omega)]; omega
  have e3:wrap .i64 (((a.length+b.length:Nat):Int)+(c.length:Int))=((a.length+b.length+c.length:Nat):Int):=by rw [Zp (by omega) (by omega)]; omega
  rw [Zxf]
  simp only [Zj,e1,e2,e3,List.replicate_zero,List.nil_append]
  rw [Z0h (by unfold mkB; simp only [Bool.and_eq_true,decide_eq_true_eq]; omega),Z0h (by simp; omega),Z0h (by simp; omega),Z0h (by simp; omega),List.append_assoc]
theorem pmac {key m:LI} (hk:key.length<=64) (hm:Byt m) (lm:m.length<=100000):Zei key m=some (mac4 key m):=by
  have f1:=Zx2 (c:=54) hk
  have f2:=Zx2 (c:=92) hk
  rw [Zei,Z5u,Z2a,Z1p (decide_eq_false (by omega))]
  dsimp only
  rw [Z2a,Z3 (Z02z hk),Z3 (Z09e (by omega)),Z3 (Z063 (by rw [List.length_append]; omega) (Zg1 (Zx1 _ _) hm))]
  dsimp only
  rw [Z3 (Z02z hk),Zbm,Zdp (Zoi _),Z3 rfl,Z3 (Z09e (by rw [Zoi]; omega)),Z3 (Z063 (by rw [List.length_append,Zoi]; omega) (Zg1 (Zx1 _ _) (Zoh _)))]
  rfl
def Zq2 (i:Int):LI:=[110,111,100,101]++([0]++be8 i)
theorem Zxa (i:Int):(Zq2 i).length=13:=rfl
theorem Zx9 (i:Int):Byt (Zq2 i):=Zg1 (byt_of (by decide)) (Zg1 (byt_of (by decide)) (Zw6 i))
def exp4 (s info:LI):LI:=mac4 s (info ++ [1])
def drv (s:LI) (i:Int):LI:=exp4 s (Zq2 i)
theorem Z04l (s:LI) (i:Int):(drv s i).length=32:=rfl
theorem Z04k (s:LI) (i:Int):Byt (drv s i):=Z00r _ _
theorem Z061:Byt [1]:=byt_of (by decide)
theorem Z068 {s info:LI} (l:s.length=32) (hi:Byt info) (li:info.length<=1000):Zeh s info 32=some (exp4 s info,true):=by
  have hj:Z6t [[],info,[1]]=some (info ++ [1]):=Z09f (by simp; omega)
  have hm:=pmac (key:=s) (m:=info ++ [1]) (by omega) (Zg1 hi Z061) (by simp; omega)
  obtain ⟨n,hn⟩ : ∃ n,big=n+1+1:=⟨18446744073709551614,Z6d⟩
  rw [Zeh,Z1p (by decide),Zj,Z0h (by decide),Z2a,hn,Z6o,Z9u,Z2e (by decide),Z2a,Z3 hj,Zdp l,Z3 hm]
  dsimp only
  rw [Zdp (Zl7 _ _),Z0h (by rw [Zl7]; decide),Zj,Zj,
    Z6o,Z9u,Z1p (by rw [List.length_append,Zl7]; decide),Z0h (by rw [List.length_append,Zl7]; decide)]
  rfl
abbrev Z05t:ByteArray:=⟨#[110,111,100,101]⟩
theorem Z0kz:strL Z05t = [110,111,100,101]:=by kernel_rfl
theorem Z067 {s:LI} {i:Int} (l:s.length=32) (h0:0<=i) (h1:i<=2147483647):Zcc s Z05t i=some (drv s i,true):=by
  have e1:wrap .u64 i=i:=Z03 h0 (by omega)
  have hj:Z6t [[110,111,100,101],[0],be8 i]=some (Zq2 i):=Z09f (by simp [Zrg])
  rw [Zcc,Z1p (by simp [Z05t,ByteArray.size]; omega),Zj,e1,Z3 (Zkd i),Z0kz,Z3 hj,Z3 (Z068 l (Zx9 i) (by rw [Zxa]; decide)),Zj]
  have e2:wr (replicate 32 0) 0 ((exp4 s (Zq2 i)).take 32)=exp4 s (Zq2 i):=by
    have h32:(exp4 s (Zq2 i)).length=32:=rfl
    rw [List.take_of_length_le (by omega)]
    refine Zl6 (n:=32) (by rw [Z038 (by simp [h32]),List.length_replicate]) h32 ?_
    intro j hj
    rw [Zkf,if_pos (by omega)]
    rfl
  show some (wr (replicate 32 0) 0 ((exp4 s (Zq2 i)).take 32),true)=_
  rw [e2]
  rfl
def Zsh (n a b:Int):Bool:=(decide (n≥a))&&(decide (n<=b))
theorem Zr8 (n a b:Int):Z2r n a b=some (Zsh n a b):=rfl
theorem Zuf {n a b:Int}:Zsh n a b=true↔a<=n/\n<=b:=by
  unfold Zsh
  simp
def Zv7 (c:Z0q):Bool:=(((Zsh c.gGates 1 16&&Zsh c.gWallets 1 8)&&Zsh c.gRows 1 256)&&Zsh c.gFlash 512 1048576)&&Zsh c.gSerials 1 65535
theorem Z02y (c:Z0q):Zce c=some (bif Zv7 c then 0 else 4):=by
  rw [Zce]
  simp only [Zr8,Option.isSome_some,Option.getD_some]
  unfold Zv7
  generalize Zsh c.gGates 1 16=a
  generalize Zsh c.gWallets 1 8=b
  generalize Zsh c.gRows 1 256=d
  generalize Zsh c.gFlash 512 1048576=e
  generalize Zsh c.gSerials 1 65535=f
  cases a <;> cases b <;> cases d <;> cases e <;> cases f <;> rfl
theorem Ztb {c:Z0q} (h:Zv7 c=true):(1<=c.gGates/\c.gGates<=16)/\(1<=c.gWallets/\c.gWallets<=8):=by
  unfold Zv7 at h
  simp only [Bool.and_eq_true] at h
  exact ⟨Zuf.1 h.1.1.1.1,Zuf.1 h.1.1.1.2⟩
abbrev k32:LI:=replicate 32 0
def Ztx (c:Z0q) (i:Int):LI×Bool:=bif Zv7 c&&Zsh i 0 (c.gGates+c.gWallets) then (drv c.gSecret i,true) else (k32,false)
theorem Z06c {c:Z0q} (l:c.gSecret.length=32) (i:Int):Z9y c i=some (Ztx c i):=by
  rw [Z9y,Z3 (Z02y c)]
  unfold Ztx
  cases h:Zv7 c
  · rfl
  · have hc:=Ztb h
    have e1:wrap .i64 (c.gGates+c.gWallets)=c.gGates+c.gWallets:=Zp (by omega) (by omega)
    simp only [Zr8,e1,Option.isSome_some,Option.getD_some]
    cases h2:Zsh i 0 (c.gGates+c.gWallets)
    · rfl
    · have h3:=Zuf.1 h2
      have h4:Zcc c.gSecret (⟨#[110,111,100,101]⟩:ByteArray) i=some (drv c.gSecret i,true):=Z067 l h3.1 (by omega)
      rw [Z0h (by rfl),Z1p (by rfl),Z3 h4]
      rfl
theorem Zmc {c:Z0q} {i:Int} (h:Zv7 c=true) (h0:0<=i) (h1:i<=c.gGates):Ztx c i=(drv c.gSecret i,true):=by
  have hc:=Ztb h
  unfold Ztx
  rw [h,Zuf.2 (by omega)]
  rfl
noncomputable def Zn2 (c:Z0q) (i:Nat):LI:=Z05i (drv c.gSecret (i:Int))
noncomputable def Zdi (c:Z0q) (n:Nat):List (LI):=(List.range n).map fun i=>Zn2 c (i+1)
theorem Znh (c:Z0q) (n:Nat):(Zdi c n).length=n:=by simp [Zdi]
theorem Zrx (c:Z0q) (n:Nat):Zdi c (n+1)=Zdi c n ++ [Zn2 c (n+1)]:=by simp [Zdi,List.range_succ]
noncomputable def Zi8 (c:Z0q):Z0d×Int:=bif Zv7 c then (⟨Zn2 c 0,Zdi c c.gGates.toNat⟩,0) else (⟨k32,[]⟩,4)
theorem Z0dt {c:Z0q} (l:c.gSecret.length=32):Zcw c=some (Zi8 c):=by
  rw [Zcw,Z3 (Z02y c)]
  unfold Zi8
  cases h:Zv7 c
  · rfl
  · have hc:=Ztb h
    obtain ⟨g,hg⟩ : ∃ g:Nat,c.gGates=g:=⟨c.gGates.toNat,by omega⟩
    have e1:wrap .i64 (c.gGates+1)=((g+1:Nat):Int):=by rw [Zp (by omega) (by omega)]; omega
    rw [Z1p (by rfl),Zj,e1,Z2a]
    have hgn:c.gGates.toNat=g:=by omega
    show _=some ((⟨Zn2 c 0,Zdi c c.gGates.toNat⟩:Z0d),(0:Int))
    rw [hgn]
    have one : ∀ i:Nat,i<=g->Z9y c (i:Int)=some (drv c.gSecret (i:Int),true):=fun i hi=>by
      rw [Z06c l,Zmc h (by omega) (by omega)]
    have pub : ∀ i:Nat,Z5q (drv c.gSecret (i:Int))=some (Zn2 c i):=fun i=>Z06a (Z04k _ _) (Z04l _ _)
    refine (walk (fun f i=>Z6g c ((g+1:Nat):Int) (fun (a196:LI) (l199:List (LI))=>some ((⟨a196,l199⟩:Z0d),(0:Int))) f (i:Int) (match i with | 0=>k32 | _+1=>Zn2 c 0) (Zdi c (i-1))) (j:=g+1) (R:=some ((⟨Zn2 c 0,Zdi c g⟩:Z0d),(0:Int))) (by omega) ?_ ?_)
    · intro i f hi
      have e2:=Zsg (i:=i) (by omega)
      show Z7v c _ _ (Z6g c _ _ f) _ _ _=_
      rw [Z7v,Z2e (decide_eq_true (by omega)),Z2a,Z3 (one i (by omega)),Z3 (pub i)]
      cases i with
      | zero =>
        rw [Z2e (by rfl)]
        dsimp only
        rw [Zj,e2]
      | succ i =>
        have hl:=Znh c i
        rw [Z1p (by simp; omega)]
        show chk (decide (((Zdi c i).length+1)*32<=140737488355328)) _=_
        rw [Z0h (by rw [hl]; exact decide_eq_true (by omega)),Zj]
        dsimp only
        rw [Zj,e2]
        show _=Z6g c _ _ f _ (Zn2 c 0) (Zdi c (i+1))
        rw [Zrx]
        rfl
    · intro f
      show Z7v c _ _ _ _ _ _=_
      rw [Z7v,Z1p (decide_eq_false (by omega))]
      rfl
end Go.Proofs.YteefpkhngighgaaGreatDoor
namespace Go.Proofs.YteefpkhngighgaaGreatDoor
open Go Go.Sx Go.RowKit
set_option linter.all false
set_option maxRecDepth 100000
set_option maxHeartbeats 1000000
section
variable {α β:Type}
def Zrc (f:Zag α) (x:α):Prop:=∀ w:Zt,w.gfault=0->w.gbytes.length<=1000000->∃ w',f.put w x=some w'/\w'.gfault=0/\w'.gbytes.length<=w.gbytes.length+65
theorem Zly {w:Zt} {xs:LI} (h0:w.gfault=0) (hl:w.gbytes.length<=1000100) (hx:xs.length<=64):Z3b w xs=some ⟨w.gbytes++xs,0⟩:=by
 unfold Z3b
 rw [h0,Z2e (by rfl),Z0h (decide_eq_true (by omega)),Zj]
theorem be32 (x:Int):Z4p x=some (Zsp x):=by kernel_rfl
theorem Zls {w:Zt} {xs:LI} (h0:w.gfault=0) (hl:w.gbytes.length<=1000100) (hx:xs.length<=64):Z2y w xs=some ⟨w.gbytes++xs,0⟩:=by
 unfold Z2y
 rw [Z3 (Zly h0 hl hx)]
theorem Zl5 {get:α->Int} {lo:Int} {hi:α->Int} {x:α}:Zrc (fNum get lo hi) x:=by
 intro w h0 hl
 refine ⟨⟨w.gbytes++Zsp (IntKind.u32.wrap (get x)),0⟩,?_,rfl,by simp [Zsp]⟩
 show Z69 w _=_
 unfold Z69
 rw [Z3 (be32 _),Z3 (Zly h0 (by omega) (by simp [Zsp]))]
theorem Z00o {get:α->Int} {hi:Int} {x:α}:Zrc (fMon get hi) x:=by
 intro w h0 hl
 refine ⟨⟨w.gbytes++be8 (IntKind.u64.wrap (get x)),0⟩,?_,rfl,by simp [be8]⟩
 show Z6a w _=_
 unfold Z6a
 rw [Z3 (Zkd _),Z3 (Zly h0 (by omega) (by simp [be8]))]
theorem Zhg {get:α->LI} {n:Nat} {s:Bool} {x:α} (hn:n<=64):Zrc (Zwv get n s) x:=by
 intro w h0 hl
 refine ⟨⟨w.gbytes++tk (get x) 0 n,0⟩,Zls h0 (by omega) (by rw [Z0c]; exact hn),rfl,by simp only [List.length_append,Z0c]; omega⟩
theorem Zt9 {flag:α->Bool} {sig:α->LI} {x:α}:Zrc (fFlg flag sig) x:=by
 intro w h0 hl
 show ∃ w',Zpy flag sig w x=some w'/\_
 unfold Zpy
 cases h:flag x
 ·refine ⟨⟨w.gbytes ++ [0],0⟩,?_,rfl,by simp⟩
  rw [Z3 (show Z4a w false=some ⟨w.gbytes ++ [0],0⟩ by unfold Z4a; rw [Z1p (by rfl),Z3 (Zly h0 (by omega) (by decide))]),Z1p (by rfl)]
 ·refine ⟨⟨(w.gbytes ++ [1])++tk (sig x) 0 64,0⟩,?_,rfl,by simp only [List.length_append,List.length_singleton,Z0c]; omega⟩
  rw [Z3 (show Z4a w true=some ⟨w.gbytes ++ [1],0⟩ by unfold Z4a; rw [Z2e (by rfl),Z3 (Zly h0 (by omega) (by decide))]),Z2e (by rfl)]
  exact Zls rfl (by simp; omega) (by rw [Z0c]; exact Nat.le_refl _)
theorem Zol {inn:α->β} {s:Zag β} {x:α} (h:Zrc s (inn x)):Zrc (Zzv inn s) x:=h
theorem Zyc {x:α} {s:Bool} : ∀ (fs:List (Zag α)) (w:Zt),(∀ f∈fs,Zrc f x)->w.gfault=0->w.gbytes.length+65*fs.length<=1000000->∃ w',Zcv fs s w x=some w'/\w'.gfault=0/\w'.gbytes.length<=w.gbytes.length+65*fs.length
 | [],w,_,h0,_=>⟨w,rfl,h0,by simp⟩
 | f::fs,w,hf,h0,hl=>by
  rw [List.length_cons] at hl ⊢
  have key : ∃ w1,br (f.sgn || !s) (f.put w x) (some w)=some w1/\w1.gfault=0/\w1.gbytes.length<=w.gbytes.length+65:=by
   cases f.sgn || !s
   ·exact ⟨w,rfl,h0,by omega⟩
   ·exact hf f List.mem_cons_self w h0 (by omega)
  obtain ⟨w1,e1,h1,l1⟩:=key
  obtain ⟨w2,e2,h2,l2⟩:=Zyc fs w1 (fun g hg=>hf g (List.mem_cons_of_mem _ hg)) h1 (by omega)
  exact ⟨w2,by show opt _ _=_; rw [Z3 e1,e2],h2,by omega⟩
theorem Z05c {d:Int} (h0:1<=d) (h1:d<=255):Zh7 d=some [70,66,1,IntKind.wrap .u8 d]:=by
 unfold Zh7
 rw [Z1p (by simp; omega),Zj]
theorem Zpn {fs:List (Zag α)} {d:Int} {s:Bool} {x:α} (hf : ∀ f∈fs,Zrc f x) (hn:fs.length<=100) (h0:1<=d) (h1:d<=255) : ∃ b,Zcu fs d s x=some b/\b.length<=10000:=by
 obtain ⟨w,e,hw,hl⟩:=Zyc (s:=s) fs ⟨[] ++ [70,66,1,IntKind.wrap .u8 d],0⟩ hf rfl (by simp; omega)
 simp only [List.nil_append,List.length_cons,List.length_nil] at hl
 refine ⟨[]++w.gbytes,?_,by simp; omega⟩
 unfold Zcu
 rw [Z3 (show Zb9=some ⟨[],0⟩ from rfl),Z3 (Z05c h0 h1),Z3 (Zls rfl (by simp) (by simp)),Z3 e]
 rw [Z3 (show Z4b w=some ([]++w.gbytes,0,w) by unfold Z4b; rw [Z1p (by rw [hw]; rfl),Z0h (decide_eq_true (by simp; omega)),Zj])]
theorem Zlq {fs:List (Zag α)} {d:Int} {x:α} (hf : ∀ f∈fs,Zrc f x) (hn:fs.length<=100) (h0:1<=d) (h1:d<=255) : ∃ b,Zdv fs d x=some (b,bif Z2q fs false x then 0 else 2):=by
 unfold Zdv
 cases Z2q fs false x
 ·exact ⟨[],rfl⟩
 ·obtain ⟨b,e,_⟩:=Zpn (s:=false) hf hn h0 h1
  exact ⟨b,by rw [Z1p (by rfl),Z3 e]; rfl⟩
theorem Zp5 {fs:List (Zag α)} {d:Int} {x:α} (hf : ∀ f∈fs,Zrc f x) (hn:fs.length<=100) (h0:1<=d) (h1:d<=255) : ∃ b,Zbz fs d x=some b/\b.length<=10000:=by
 unfold Zbz
 cases Z2q fs true x
 ·exact ⟨[],rfl,by decide⟩
 ·obtain ⟨b,e,l⟩:=Zpn (s:=true) hf hn h0 h1
  exact ⟨b,by rw [Z1p (by rfl),Z3 e],l⟩
def Zg4 (fs:List (Zag α)) (x y:α):Prop:=∀ f∈fs,f.sgn=true->f.may x=f.may y /\ ∀ w,f.put w x=f.put w y
theorem Zg4.app {fs gs:List (Zag α)} {x y:α} (h:Zg4 fs x y) (h':Zg4 gs x y):Zg4 (fs++gs) x y:=fun f hf=>(List.mem_append.1 hf).elim (h f) (h' f)
theorem Zg4.inn {inn:α->β} {fs:List (Zag β)} {x y:α} (h:inn x=inn y):Zg4 (fs.map (Zzv inn)) x y:=by
 intro f hf _
 obtain ⟨g,_,rfl⟩:=List.mem_map.1 hf
 exact ⟨by show g.may (inn x)=g.may (inn y); rw [h],fun w=>by show g.put w (inn x)=g.put w (inn y); rw [h]⟩
theorem Zj4 {fs:List (Zag α)} {x y:α} (h:Zg4 fs x y):Z2q fs true x=Z2q fs true y:=by
 unfold Z2q
 induction fs with
 | nil=>rfl
 | cons f fs ih =>
  rw [List.all_cons,List.all_cons,ih fun g hg=>h g (List.mem_cons_of_mem _ hg)]
  cases e:f.sgn
  ·rfl
  ·rw [(h f List.mem_cons_self e).1]
theorem Z01h {fs:List (Zag α)} {x y:α} (h:Zg4 fs x y) (w:Zt):Zcv fs true w x=Zcv fs true w y:=by
 induction fs generalizing w with
 | nil=>rfl
 | cons f fs ih =>
  have ih:=fun w=>ih (fun g hg=>h g (List.mem_cons_of_mem _ hg)) w
  show opt (br (f.sgn || !true) (f.put w x) (some w)) _=opt (br (f.sgn || !true) (f.put w y) (some w)) _
  have e:br (f.sgn || !true) (f.put w x) (some w)=br (f.sgn || !true) (f.put w y) (some w):=by
   cases e:f.sgn
   ·rfl
   ·rw [(h f List.mem_cons_self e).2 w]
  rw [e]
  congr 1
  exact funext fun w=>ih w
theorem Zlf {fs:List (Zag α)} {d:Int} {x y:α} (h:Zg4 fs x y):Zbz fs d x=Zbz fs d y:=by
 unfold Zbz Zcu
 rw [Zj4 h,show (fun w=>opt (Zcv fs true w x) fun w=>opt (Z4b w) fun d=>some d.1)=(fun w=>opt (Zcv fs true w y) fun w=>opt (Z4b w) fun d=>some d.1) from funext fun w=>by rw [Z01h h]]
theorem Zgl {fs:List (Zag α)} {x:α} (h : ∀ f∈fs,f.sgn=false->f.may x=true):Z2q fs false x=Z2q fs true x:=by
 unfold Z2q
 induction fs with
 | nil=>rfl
 | cons f fs ih =>
  rw [List.all_cons,List.all_cons,ih fun g hg=>h g (List.mem_cons_of_mem _ hg)]
  cases e:f.sgn
  ·rw [h f List.mem_cons_self e]; rfl
  ·rfl
end
theorem Zga (x:Zx) : ∀ f∈F_Cert,Zrc f x:=by
 intro f hf
 simp only [F_Cert,List.mem_cons,List.not_mem_nil,or_false] at hf
 rcases hf with rfl | rfl | rfl | rfl | rfl
 ·exact Zl5
 ·exact Zl5
 ·exact Z00o
 ·exact Zhg (by decide)
 ·exact Zhg (by decide)
theorem Zut (x:Z0j) : ∀ f∈Zcm,Zrc f x:=by
 intro f hf
 rcases List.mem_append.1 hf with hf | hf
 ·obtain ⟨g,hg,rfl⟩:=List.mem_map.1 hf
  exact Zol (Zga _ g hg)
 ·simp only [List.mem_cons,List.not_mem_nil,or_false] at hf
  rcases hf with rfl | rfl | rfl | rfl
  ·exact Zl5
  ·exact Zhg (by decide)
  ·exact Zt9
  ·exact Zt9
theorem Ziz (x:Z0j) : ∃ b,Zb2 x=some (b,bif Z2q Zcm false x then 0 else 2):=Zlq (Zut x) (by decide) (by decide) (by decide)
def Z4t (x:Zx):Bool:=Z2q F_Cert false x
theorem Ztv (x:Zx) (sg:LI):Zg4 F_Cert (⟨x.gSerial,x.gRides,x.gPrice,x.gAnchor,sg⟩:Zx) x:=by
 intro f hf hs
 simp only [F_Cert,List.mem_cons,List.not_mem_nil,or_false] at hf
 rcases hf with rfl | rfl | rfl | rfl | rfl
 ·exact ⟨rfl,fun _=>rfl⟩
 ·exact ⟨rfl,fun _=>rfl⟩
 ·exact ⟨rfl,fun _=>rfl⟩
 ·exact ⟨rfl,fun _=>rfl⟩
 ·cases hs
theorem Zt3 (x:Zx) : ∀ f∈F_Cert,f.sgn=false->f.may x=true:=by
 intro f hf hs
 simp only [F_Cert,List.mem_cons,List.not_mem_nil,or_false] at hf
 rcases hf with rfl | rfl | rfl | rfl | rfl
 ·first | rfl | cases hs
 ·first | rfl | cases hs
 ·first | rfl | cases hs
 ·first | rfl | cases hs
 ·rfl
theorem Z00t (x:Zx) (sg:LI):Z4t (⟨x.gSerial,x.gRides,x.gPrice,x.gAnchor,sg⟩:Zx)=Z4t x:=by
 unfold Z4t
 rw [Zgl (Zt3 _),Zgl (Zt3 _),Zj4 (Ztv x sg)]
theorem Zt0 (x:Zx) : ∃ b,Z8r x=some (b,bif Z4t x then 0 else 2):=Zlq (Zga x) (by decide) (by decide) (by decide)
theorem Ztw (x:Zx) : ∃ b,Z6s x=some b/\b.length<=10000 /\ ∀ sg,Z6s (⟨x.gSerial,x.gRides,x.gPrice,x.gAnchor,sg⟩:Zx)=some b:=by
 obtain ⟨b,e,l⟩:=Zp5 (d:=1) (Zga x) (by decide) (by decide) (by decide)
 exact ⟨b,e,l,fun sg=>(Zlf (Ztv x sg)).trans e⟩
theorem Zyx (s:LI) (x:Zx) : ∃ b sg,Z6s x=some b/\b.length<=10000/\Z89 s x=some (⟨x.gSerial,x.gRides,x.gPrice,x.gAnchor,sg⟩:Zx)/\Z1h (Zgq s) b sg=some true/\Byt sg/\sg.length=64:=by
 obtain ⟨b,hb,lb,_⟩:=Ztw x
 obtain ⟨sg,h1,h2,h3,h4,_⟩:=Zka s (m:=b) (by omega)
 refine ⟨b,sg,hb,lb,?_,h2,h3,h4⟩
 rw [Z89,Z3 (show Zcf=some () from rfl),Z4i,Z3 (Z3 hb |>.trans (Z3 h1))]
theorem Znb (r:Z0d) (x:Zx) {b:LI} (hb:Z6s x=some b) {v:Bool} (hv:Z1h r.gIssuer b x.gSig=some v):Z23 r x=some (Z4t x&&v):=by
 obtain ⟨e,he⟩:=Zt0 x
 rw [Z23,Z3 (show Zcf=some () from rfl)]
 refine Z3 ?_
 rw [Z45,Z3 he,Z3 (show Z5k r x=some (r.gIssuer,true) from rfl),Z2a]
 cases Z4t x
 ·rfl
 ·rw [Z2e (by rfl),Z3 hb,Z3 hv]; rfl
theorem Zlt (x:Zz) : ∀ f∈Zdd,Zrc f x:=by
 intro f hf
 rcases List.mem_append.1 hf with hf | hf
 ·obtain ⟨g,hg,rfl⟩:=List.mem_map.1 hf
  exact Zol (Zga _ g hg)
 ·simp only [List.mem_cons,List.not_mem_nil,or_false] at hf
  subst hf
  exact Zhg (by decide)
def Z9v (x:Zz):Bool:=Z2q Zdd false x
theorem Zns (x:Zz) (sg:LI):Zg4 Zdd (⟨x.gCert,sg⟩:Zz) x:=Zg4.app (Zg4.inn rfl) fun f hf hs=>by
  simp only [List.mem_cons,List.not_mem_nil,or_false] at hf
  subst hf
  cases hs
theorem Zne (x:Zz) : ∀ f∈Zdd,f.sgn=false->f.may x=true:=by
 intro f hf hs
 rcases List.mem_append.1 hf with hf | hf
 ·obtain ⟨g,hg,rfl⟩:=List.mem_map.1 hf
  cases hs
 ·simp only [List.mem_cons,List.not_mem_nil,or_false] at hf
  subst hf
  rfl
theorem Zv3 (x:Zz) (sg:LI):Z9v (⟨x.gCert,sg⟩:Zz)=Z9v x:=by
 unfold Z9v
 rw [Zgl (Zne _),Zgl (Zne _),Zj4 (Zns x sg)]
theorem Zuq (x:Zz) : ∃ b,Za6 x=some (b,bif Z9v x then 0 else 2):=Zlq (Zlt x) (by decide) (by decide) (by decide)
theorem Znv (x:Zz) : ∃ b,Z4z x=some b/\b.length<=10000 /\ ∀ sg,Z4z (⟨x.gCert,sg⟩:Zz)=some b:=by
 obtain ⟨b,e,l⟩:=Zp5 (d:=4) (Zlt x) (by decide) (by decide) (by decide)
 exact ⟨b,e,l,fun sg=>(Zlf (Zns x sg)).trans e⟩
theorem Zsa (s:LI) (x:Zz) : ∃ b sg,Z4z x=some b/\b.length<=10000/\Z65 s x=some (⟨x.gCert,sg⟩:Zz)/\Z1h (Zgq s) b sg=some true/\Byt sg/\sg.length=64:=by
 obtain ⟨b,hb,lb,_⟩:=Znv x
 obtain ⟨sg,h1,h2,h3,h4,_⟩:=Zka s (m:=b) (by omega)
 refine ⟨b,sg,hb,lb,?_,h2,h3,h4⟩
 rw [Z65,Z3 (show Z9b=some () from rfl),Z3p,Z3 (Z3 hb |>.trans (Z3 h1))]
theorem Zkh (r:Z0d) (x:Zz) {b:LI} (hb:Z4z x=some b) {v:Bool} (hv:Z1h r.gIssuer b x.gSig=some v):Z19 r x=some (Z9v x&&v):=by
 obtain ⟨e,he⟩:=Zuq x
 rw [Z19,Z3 (show Z9b=some () from rfl)]
 refine Z3 ?_
 rw [Z3g,Z3 he,Z3 (show Z4h r x=some (r.gIssuer,true) from rfl),Z2a]
 cases Z9v x
 ·rfl
 ·rw [Z2e (by rfl),Z3 hb,Z3 hv]; rfl
theorem Zgu (x:Zg) : ∀ f∈Z6c,Zrc f x:=by
 intro f hf
 rcases List.mem_append.1 hf with hf | hf
 ·obtain ⟨g,hg,rfl⟩:=List.mem_map.1 hf
  exact Zol (Zga _ g hg)
 ·simp only [List.mem_cons,List.not_mem_nil,or_false] at hf
  subst hf
  exact Zhg (by decide)
def Z4g (x:Zg):Bool:=Z2q Z6c false x
theorem Zia (x:Zg) (sg:LI):Zg4 Z6c (⟨x.gCert,sg⟩:Zg) x:=Zg4.app (Zg4.inn rfl) fun f hf hs=>by
  simp only [List.mem_cons,List.not_mem_nil,or_false] at hf
  subst hf
  cases hs
theorem Zi6 (x:Zg) : ∀ f∈Z6c,f.sgn=false->f.may x=true:=by
 intro f hf hs
 rcases List.mem_append.1 hf with hf | hf
 ·obtain ⟨g,hg,rfl⟩:=List.mem_map.1 hf
  cases hs
 ·simp only [List.mem_cons,List.not_mem_nil,or_false] at hf
  subst hf
  rfl
theorem Zn4 (x:Zg) (sg:LI):Z4g (⟨x.gCert,sg⟩:Zg)=Z4g x:=by
 unfold Z4g
 rw [Zgl (Zi6 _),Zgl (Zi6 _),Zj4 (Zia x sg)]
theorem Zn0 (x:Zg) : ∃ b,Z77 x=some (b,bif Z4g x then 0 else 2):=Zlq (Zgu x) (by decide) (by decide) (by decide)
theorem Zib (x:Zg) : ∃ b,Z2t x=some b/\b.length<=10000 /\ ∀ sg,Z2t (⟨x.gCert,sg⟩:Zg)=some b:=by
 obtain ⟨b,e,l⟩:=Zp5 (d:=6) (Zgu x) (by decide) (by decide) (by decide)
 exact ⟨b,e,l,fun sg=>(Zlf (Zia x sg)).trans e⟩
theorem Zmb (s:LI) (x:Zg) : ∃ b sg,Z2t x=some b/\b.length<=10000/\Z3m s x=some (⟨x.gCert,sg⟩:Zg)/\Z1h (Zgq s) b sg=some true/\Byt sg/\sg.length=64:=by
 obtain ⟨b,hb,lb,_⟩:=Zib x
 obtain ⟨sg,h1,h2,h3,h4,_⟩:=Zka s (m:=b) (by omega)
 refine ⟨b,sg,hb,lb,?_,h2,h3,h4⟩
 rw [Z3m,Z3 (show Z57=some () from rfl),Z2o,Z3 (Z3 hb |>.trans (Z3 h1))]
theorem Zfe (r:Z0d) (x:Zg) {b:LI} (hb:Z2t x=some b) {v:Bool} (hv:Z1h r.gIssuer b x.gSig=some v):Z0n r x=some (Z4g x&&v):=by
 obtain ⟨e,he⟩:=Zn0 x
 rw [Z0n,Z3 (show Z57=some () from rfl)]
 refine Z3 ?_
 rw [Z2d,Z3 he,Z3 (show Z36 r x=some (r.gIssuer,true) from rfl),Z2a]
 cases Z4g x
 ·rfl
 ·rw [Z2e (by rfl),Z3 hb,Z3 hv]; rfl
theorem Znd (x:Z05) : ∀ f∈Zdq,Zrc f x:=by
 intro f hf
 simp only [Zdq,List.mem_cons,List.not_mem_nil,or_false] at hf
 rcases hf with rfl | rfl
 ·exact Zl5
 ·exact Zhg (by decide)
def Zdj (x:Z05):Bool:=Z2q Zdq false x
theorem Zqq (x:Z05) (sg:LI):Zg4 Zdq (⟨x.gFloor,sg⟩:Z05) x:=by
 intro f hf hs
 simp only [Zdq,List.mem_cons,List.not_mem_nil,or_false] at hf
 rcases hf with rfl | rfl
 ·exact ⟨rfl,fun _=>rfl⟩
 ·cases hs
theorem Zq0 (x:Z05) : ∀ f∈Zdq,f.sgn=false->f.may x=true:=by
 intro f hf hs
 simp only [Zdq,List.mem_cons,List.not_mem_nil,or_false] at hf
 rcases hf with rfl | rfl
 ·first | rfl | cases hs
 ·rfl
theorem Zxi (x:Z05) (sg:LI):Zdj (⟨x.gFloor,sg⟩:Z05)=Zdj x:=by
 unfold Zdj
 rw [Zgl (Zq0 _),Zgl (Zq0 _),Zj4 (Zqq x sg)]
theorem Zws (x:Z05) : ∃ b,Zb3 x=some (b,bif Zdj x then 0 else 2):=Zlq (Znd x) (by decide) (by decide) (by decide)
theorem Zqr (x:Z05) : ∃ b,Z5s x=some b/\b.length<=10000 /\ ∀ sg,Z5s (⟨x.gFloor,sg⟩:Z05)=some b:=by
 obtain ⟨b,e,l⟩:=Zp5 (d:=7) (Znd x) (by decide) (by decide) (by decide)
 exact ⟨b,e,l,fun sg=>(Zlf (Zqq x sg)).trans e⟩
theorem Zvg (s:LI) (x:Z05) : ∃ b sg,Z5s x=some b/\b.length<=10000/\Z32 s x=some (⟨x.gFloor,sg⟩:Z05)/\Z1h (Zgq s) b sg=some true/\Byt sg/\sg.length=64:=by
 obtain ⟨b,hb,lb,_⟩:=Zqr x
 obtain ⟨sg,h1,h2,h3,h4,_⟩:=Zka s (m:=b) (by omega)
 refine ⟨b,sg,hb,lb,?_,h2,h3,h4⟩
 rw [Z32,Z3 (show Zas=some () from rfl),Z46,Z3 (Z3 hb |>.trans (Z3 h1))]
theorem Zrk (r:Z0d) (x:Z05) {b:LI} (hb:Z5s x=some b) {v:Bool} (hv:Z1h r.gIssuer b x.gSig=some v):Z2j r x=some (Zdj x&&v):=by
 obtain ⟨e,he⟩:=Zws x
 rw [Z2j,Z3 (show Zas=some () from rfl)]
 refine Z3 ?_
 rw [Z3o,Z3 he,Z3 (show Z53 r x=some (r.gIssuer,true) from rfl),Z2a]
 cases Zdj x
 ·rfl
 ·rw [Z2e (by rfl),Z3 hb,Z3 hv]; rfl
theorem Zrt (r:Z0d) (s:LI) (x:Z05) (hr:r.gIssuer=Zgq s) : ∃ y,Z32 s x=some y/\Z2j r y=some (Zdj x):=by
 obtain ⟨b,hb,lb,hs⟩:=Zqr x
 obtain ⟨b',sg,hb',_,e,hv,_⟩:=Zvg s x
 obtain rfl:b=b':=Option.some.inj (hb.symm.trans hb')
 refine ⟨_,e,?_⟩
 rw [Zrk r _ (hs sg) (v:=true) (by rw [hr]; exact hv),Zxi,Bool.and_true]
theorem Zja {c:Z0q} (h:Zv7 c=true):Zi8 c=(⟨Zn2 c 0,Zdi c c.gGates.toNat⟩,0):=by unfold Zi8; rw [h]; rfl
theorem Zyq {c:Z0q} (h:Zv7 c=false):Zi8 c=(⟨k32,[]⟩,4):=by unfold Zi8; rw [h]; rfl
theorem Zzh {a:Int} {b:Int} {o:Option Z05} {z y:Z05} {R:Z0d} (h0:(a==0)=true) (hl:(b==2)=true) (e6:o.isSome=true) (e5:o.getD z=y) (e4:Z2j R y=some true) :
  (chk (imp (((a==0)&&true)&&(b==2)) ((o.isSome&&(Z2j R (o.getD z)).isSome)))<|some ((((a==0)&&true)&&(b==2))&&((Z2j R (o.getD z)).getD false)))=some true:=by
 rw [h0,hl,e6,e5,e4]
 rfl
theorem Zpc:Z42=some true:=by
 obtain ⟨c,hc⟩ : ∃ c:Z0q,c=⟨2,1,4,4096,9,List.replicate 32 0⟩:=⟨_,rfl⟩
 have hs:Z7a=some c:=by rw [hc]; rfl
 have ok:Zv7 c=true:=by rw [hc]; rfl
 have l:c.gSecret.length=32:=by rw [hc]; rfl
 have hg:c.gGates=2:=by rw [hc]
 have e1:Zcw c=some (Zi8 c):=Z0dt l
 have e2:Z9y c 0=some (drv c.gSecret 0,true):=by rw [Z06c l,Zmc ok (by omega) (by omega)]
 obtain ⟨y,e3,e4⟩:=Zrt (Zi8 c).1 (drv c.gSecret 0) ⟨4,List.replicate 64 0⟩ (by rw [Zja ok]; rfl)
 have em:Zdj ⟨4,List.replicate 64 0⟩=true:=rfl
 rw [em] at e4
 rw [Z42,Z3 hs,Z3 e1,Z3 e2]
 have hl:(((Zi8 c).1.gGates.length:Int)==2)=true:=by
  rw [Zja ok]
  show (((Zdi c c.gGates.toNat).length:Int)==2)=true
  rw [Znh,hg]; rfl
 have h0:((Zi8 c).2==0)=true:=by rw [Zja ok]; rfl
 have e5:(Z32 (drv c.gSecret 0) (⟨4,List.replicate 64 0⟩:Z05)).getD Zf0=y:=by rw [e3,Option.getD_some]
 have e6:(Z32 (drv c.gSecret 0) (⟨4,List.replicate 64 0⟩:Z05)).isSome=true:=by rw [e3,Option.isSome_some]
 exact Zzh h0 hl e6 e5 e4
def Hs (v:LI):Nat->LI
 | 0=>v
 | n+1=>h256 (Hs v n)
theorem Z02f {v:LI} (h:Byt v) : ∀ n,Byt (Hs v n)
 | 0=>h
 | n+1=>Zoh _
theorem Zw0 {v:LI} (h:v.length=32) : ∀ n,(Hs v n).length=32
 | 0=>h
 | n+1=>rfl
theorem Z02e (v:LI) (a:Nat) : ∀ b,Hs (Hs v a) b=Hs v (a+b)
 | 0=>rfl
 | b+1=>by
  show h256 (Hs (Hs v a) b)=h256 (Hs v (a+b))
  rw [Z02e v a b]
theorem Zp6 {v:LI} (h:Byt v) (l:v.length=32) (n:Nat):Z72 (tk (Hs v n) 0 32)=some (Hs v (n+1)):=by
 rw [Zdp (Zw0 l n)]
 exact Z063 (by rw [Zw0 l n]; decide) (Z02f h n)
theorem Z00p {v an:LI} (h:Byt v) (l:v.length=32) {n:Nat} (hn:n<=5000):Zau v (n:Int) an=some (ieq 32 (Hs v n) an):=by
 rw [Zau,Z2a]
 refine walk (fun f i=>Z6q (n:Int) (fun a=>some (ieq 32 a an)) f (i:Int) (Hs v i)) (j:=n) (by omega) ?_ ?_
 ·intro i f hi
  show Z6p (n:Int) _ (Z6q (n:Int) _ f) (i:Int) (Hs v i)=_
  rw [Z6p,Z2e (decide_eq_true (by omega)),Z3 (Zp6 h l i),Zj,Zsg (by omega)]
 ·intro f
  show Z6p (n:Int) _ _ (n:Int) (Hs v n)=_
  rw [Z6p,Z1p (decide_eq_false (by omega))]
def Zvm (seed:LI) (z:Int) (i:Nat):LI:=if 0<=z/\z<i then Hs seed z.toNat else seed
theorem Z07w (seed:LI) {z:Int} {i:Nat} (h:(i:Int)=z):Zvm seed z (i+1)=Hs seed i:=by
 unfold Zvm
 rw [if_pos (by omega)]
 congr 1
 omega
theorem Z07x (seed:LI) {z:Int} {i:Nat} (h:(i:Int)≠z):Zvm seed z (i+1)=Zvm seed z i:=by
 unfold Zvm
 by_cases h2:0<=z/\z<i
 ·rw [if_pos h2,if_pos (by omega)]
 ·rw [if_neg h2,if_neg (by omega)]
theorem Zvo {p1:Zx} {p3:Int} {seed:LI} (h:Byt seed) (l:seed.length=32) (k:LI->LI->Option Bool) {n:Nat} (hn:n=(min p1.gRides 4096).toNat) :
  Z0e p1 p3 k big 0 seed seed=k (Zvm seed (IntKind.wrap .i64 (p1.gRides-p3)) n) (Hs seed n):=by
 obtain ⟨z,hz⟩ : ∃ z,z=IntKind.wrap .i64 (p1.gRides-p3):=⟨_,rfl⟩
 rw [<- hz]
 have h0:Zvm seed z 0=seed:=if_neg (by omega)
 have hle:n<=4096:=by omega
 have key:=walk (fun f i=>Z0e p1 p3 k f (i:Int) (Hs seed i) (Zvm seed z i)) (j:=n) (R:=k (Zvm seed z n) (Hs seed n)) (by omega) ?_ ?_
 ·rw [<- h0]
  rw [h0]
  exact (congrArg (fun q=>Z0e p1 p3 k big 0 seed q) h0.symm).trans key
 ·intro i f hi
  show Z0o p1 p3 k (Z0e p1 p3 k f) (i:Int) (Hs seed i) (Zvm seed z i)=_
  have hr:(i:Int)<p1.gRides/\(i:Int)<4096:=by omega
  rw [Z0o,Z2e (by simp [hr.1,hr.2]),Zj,<- hz,Z2a]
  by_cases e:(i:Int)=z
  ·rw [Z2e (by rw [e]; simp)]
   dsimp only
   rw [Z3 (Zp6 h l i),Zj,Zsg (by omega),Z07w seed e]
  ·rw [Z1p (by simpa using e)]
   dsimp only
   rw [Z3 (Zp6 h l i),Zj,Zsg (by omega),Z07x seed e]
 ·intro f
  show Z0o p1 p3 k _ (n:Int) (Hs seed n) (Zvm seed z n)=_
  have hr : ¬ ((n:Int)<p1.gRides/\(n:Int)<4096):=by omega
  rw [Z0o,Z1p (by simp only [Bool.and_eq_false_iff,decide_eq_false_iff_not]; omega)]
abbrev z64:LI:=List.replicate 64 0
theorem Z9w {α:Type} {fs:List (Zag α)} {x:α}:Z2q fs false x=fs.all fun f=>f.may x:=by
 unfold Z2q
 congr 1
 funext f
 cases f.sgn <;> cases f.may x <;> rfl
theorem Zlr (x:Z0j):Z2q Zcm false x=(Z4t x.gCert&&((decide (x.gIndex≥0)&&decide (x.gIndex<=x.gCert.gRides))&&((x.gFrozen||ieq 64 x.gFreeze z64)&&(x.gRevoked||ieq 64 x.gRevoke z64)))):=by
 unfold Z4t
 rw [Z9w,Z9w,Zcm,List.all_append,List.all_map]
 congr 1
 simp only [List.all_cons,List.all_nil,fNum,Zwv,fFlg,Bool.and_true,Bool.true_and]
theorem Z004 (x:Zx) (h:Z4t x=true):1<=x.gRides/\x.gRides<=4096:=by
 unfold Z4t at h
 rw [Z9w,F_Cert] at h
 simp [fNum,Zwv,fMon] at h
 omega
theorem Zum (x y:Zx) (h1:x.gSerial=y.gSerial) (h2:x.gRides=y.gRides) (h3:x.gPrice=y.gPrice):Z4t x=Z4t y:=by
 unfold Z4t
 rw [Z9w,Z9w,F_Cert]
 simp [fNum,Zwv,fMon,h1,h2,h3]
theorem Z00d {r:Z0d} {x:Z0j} (h:Z2q Zcm false x=false):Z08 r x=some 2:=by
 obtain ⟨b,e⟩:=Ziz x
 rw [h] at e
 rw [Z08,Z3 e,Z2e (by rfl)]
theorem Zus {r:Z0d} {x:Z0j} (h:Z2q Zcm false x=true) (h1:Z23 r x.gCert=some false):Z08 r x=some 110:=by
 obtain ⟨b,e⟩:=Ziz x
 rw [h] at e
 rw [Z08,Z3 e,Z1p (by rfl),Z3 h1,Z2a,Z2e (by rfl)]
 rfl
theorem Zwu {r:Z0d} {x:Z0j} {f v l:Bool} (h:Z2q Zcm false x=true) (h1:Z23 r x.gCert=some true) (h2:x.gFrozen=true->Z19 r ⟨x.gCert,x.gFreeze⟩=some f)
  (h3:x.gRevoked=true->Z0n r ⟨x.gCert,x.gRevoke⟩=some v) (h4:Zau x.gValue x.gIndex x.gCert.gAnchor=some l) :
  Z08 r x=some (bif (x.gFrozen && !f)||(x.gRevoked && !v) then 110 else bif l then 0 else 150):=by
 obtain ⟨b,e⟩:=Ziz x
 rw [h] at e
 rw [Z08,Z3 e,Z1p (by rfl),Z3 h1,Z2a,Z1p (by rfl)]
 cases hf:x.gFrozen
 ·rw [Z0h (by rfl),Z1p (by rfl)]
  cases hv:x.gRevoked
  ·rw [Z0h (by rfl)]
   show br (false&&_) _ _=_
   rw [Bool.false_and,Z1p (by rfl),Z3 h4]
   cases l <;> rfl
  ·rw [h3 hv,Z0h (by rfl)]
   cases v
   ·rfl
   ·show br (true && !true) _ _=_
    rw [Z1p (by rfl),Z3 h4]
    cases l <;> rfl
 ·rw [h2 hf,Z0h (by rfl)]
  cases f
  ·rfl
  ·show br (true && !true) _ _=_
   rw [Z1p (by rfl)]
   cases hv:x.gRevoked
   ·rw [Z0h (by rfl)]
    show br (false&&_) _ _=_
    rw [Bool.false_and,Z1p (by rfl),Z3 h4]
    cases l <;> rfl
   ·rw [h3 hv,Z0h (by rfl)]
    cases v
    ·rfl
    ·show br (true && !true) _ _=_
     rw [Z1p (by rfl),Z3 h4]
     cases l <;> rfl
theorem Zpv {r:Z0d} {x:Z0j} {f v:Bool} (h:Z2q Zcm false x=true) (h1:Z23 r x.gCert=some true) (h2:x.gFrozen=true->Z19 r ⟨x.gCert,x.gFreeze⟩=some f)
  (h3:x.gRevoked=true->Z0n r ⟨x.gCert,x.gRevoke⟩=some v) (hb:((x.gFrozen && !f)||(x.gRevoked && !v))=true):Z08 r x=some 110:=by
 obtain ⟨b,e⟩:=Ziz x
 rw [h] at e
 rw [Z08,Z3 e,Z1p (by rfl),Z3 h1,Z2a,Z1p (by rfl)]
 cases hf:x.gFrozen
 ·rw [Z0h (by rfl),Z1p (by rfl)]
  rw [hf] at hb
  cases hv:x.gRevoked
  ·rw [hv] at hb; cases hb
  ·rw [h3 hv,Z0h (by rfl)]
   rw [hv] at hb
   cases v
   ·rfl
   ·cases hb
 ·rw [h2 hf,Z0h (by rfl)]
  rw [hf] at hb
  cases f
  ·rfl
  ·show br (true && !true) _ _=_
   rw [Z1p (by rfl)]
   cases hv:x.gRevoked
   ·rw [hv] at hb; cases hb
   ·rw [h3 hv,Z0h (by rfl)]
    rw [hv] at hb
    cases v
    ·rfl
    ·cases hb
theorem Z020 {x:LI} (h : ∀ i,0<=x.getD i 0) (h31:x.getD 31 0=255) : ¬ Z9h x<VL:=by
 have a0:=h 0
 have a1:=h 1
 have a2:=h 2
 have a3:=h 3
 have a4:=h 4
 have a5:=h 5
 have a6:=h 6
 have a7:=h 7
 have a8:=h 8
 have a9:=h 9
 have a10:=h 10
 have a11:=h 11
 have a12:=h 12
 have a13:=h 13
 have a14:=h 14
 have a15:=h 15
 have a16:=h 16
 have a17:=h 17
 have a18:=h 18
 have a19:=h 19
 have a20:=h 20
 have a21:=h 21
 have a22:=h 22
 have a23:=h 23
 have a24:=h 24
 have a25:=h 25
 have a26:=h 26
 have a27:=h 27
 have a28:=h 28
 have a29:=h 29
 have a30:=h 30
 unfold Z9h VL
 omega
theorem Zxs {k m s:LI} (hk:Byt k) (hs:Byt s) (h : ¬ Z9h (tk s 32 32)<VL):Z1h k m s=some false:=by
 have e0:tk (tk s 32 (64-32)) 0 32=tk s 32 32:=Zdp (Z0c _ _ _)
 rw [Z1h,Z3 (Zps hk),Z0h (by rw [Z0c]; rfl),Zj,e0,Znr (Zz9 hs 32 32),Z0h (by simp [imp])]
 rw [Z2e (by simp [h])]
theorem Zmk (s:LI):Z2p s=some (Z3z s 63 255):=by rw [Z2p,Zj]
theorem Znx {s:LI} (h:Byt s):Byt (Z3z s 63 255):=Zjh h ⟨by decide,by decide⟩
theorem Zvk {s:LI} (h:Byt s) : ¬ Z9h (tk (Z3z s 63 255) 32 32)<VL:=by
 have hb:=Znx h
 have e:(Z3z s 63 255).getD 63 0=255:=by rw [Z8j,if_pos rfl]
 have k : ∀ i,0<=(Z3z s 63 255).getD i 0:=fun i=>(hb i).1
 have t : ∀ i,i<32->(tk (Z3z s 63 255) 32 32).getD i 0=(Z3z s 63 255).getD (32+i) 0:=fun i hi=>by rw [Zh5,if_pos hi]
 have t31:=t 31 (by omega)
 rw [e] at t31
 exact Z020 (fun i=>by
  by_cases hi:i<32
  ·rw [t i hi]; exact k _
  ·rw [Zh5,if_neg hi]; exact Int.le_refl _) t31
theorem Zk2 {k m s:LI} (hk:Byt k) (hs:Byt s):Z1h k m (Z3z s 63 255)=some false:=Zxs hk (Znx hs) (Zvk hs)
end Go.Proofs.YteefpkhngighgaaGreatDoor
namespace Go.Proofs.YteefpkhngighgaaGreatDoor
open Go Go.Sx Go.RowKit
open Go.IntKind (wrap)
set_option linter.all false
set_option maxRecDepth 100000
set_option maxHeartbeats 1000000
theorem Z0j1 {k:LI->Option Bool} {b:Bool} {x y:LI}:jn k (fun q=>br b (q x) (q y))=k (bif b then x else y):=by cases b <;> rfl
theorem Z02r {τ:Type} {k:LI->Option Bool} {b:Bool} {o:Option τ} {g:τ->LI} {y:τ} {z:LI} (h:o=some y):jn k (fun q=>br b (opt o fun t=>q (g t)) (q z))=k (bif b then g y else z):=by subst h; cases b <;> rfl
theorem Zoj (n:Nat) (a:LI):ieq n a a=true:=by simp [ieq]
theorem Zx5 {r:Z0d} {s:LI} (x:Zx) (hr:r.gIssuer=Zgq s) : ∃ sg,Z89 s x=some ⟨x.gSerial,x.gRides,x.gPrice,x.gAnchor,sg⟩/\Byt sg/\Z23 r ⟨x.gSerial,x.gRides,x.gPrice,x.gAnchor,sg⟩=some (Z4t x) /\ ∀ t,Byt t->Z23 r ⟨x.gSerial,x.gRides,x.gPrice,x.gAnchor,Z3z t 63 255⟩=some false:=by
 obtain ⟨b,hb,lb,hs⟩:=Ztw x
 obtain ⟨b',sg,hb',_,e,hv,bs,_⟩:=Zyx s x
 obtain rfl:b=b':=Option.some.inj (hb.symm.trans hb')
 refine ⟨sg,e,bs,?_,fun t ht=>?_⟩
 ·rw [Znb r _ (hs sg) (v:=true) (by rw [hr]; exact hv),Z00t,Bool.and_true]
 ·rw [Znb r _ (hs (Z3z t 63 255)) (v:=false) (by rw [hr]; exact Zk2 (Zlw s) ht),Bool.and_false]
theorem Zru {r:Z0d} {s:LI} (x:Zz) (hr:r.gIssuer=Zgq s) : ∃ sg,Z65 s x=some ⟨x.gCert,sg⟩/\Byt sg/\Z19 r ⟨x.gCert,sg⟩=some (Z9v x) /\ ∀ t,Byt t->Z19 r ⟨x.gCert,Z3z t 63 255⟩=some false:=by
 obtain ⟨b,hb,lb,hs⟩:=Znv x
 obtain ⟨b',sg,hb',_,e,hv,bs,_⟩:=Zsa s x
 obtain rfl:b=b':=Option.some.inj (hb.symm.trans hb')
 refine ⟨sg,e,bs,?_,fun t ht=>?_⟩
 ·rw [Zkh r _ (hs sg) (v:=true) (by rw [hr]; exact hv),Zv3,Bool.and_true]
 ·rw [Zkh r _ (hs (Z3z t 63 255)) (v:=false) (by rw [hr]; exact Zk2 (Zlw s) ht),Bool.and_false]
theorem Zon (c:Zx) (s:LI):Z9v ⟨c,s⟩=Z4t c:=by
 unfold Z9v Z4t
 rw [Z9w,Z9w,Zdd,List.all_append,List.all_map]
 show (_&&(true&&true))=_
 rw [Bool.and_self,Bool.and_true]
 rfl
theorem Zlv {r:Z0d} {s:LI} (x:Zg) (hr:r.gIssuer=Zgq s) : ∃ sg,Z3m s x=some ⟨x.gCert,sg⟩/\Byt sg/\Z0n r ⟨x.gCert,sg⟩=some (Z4g x) /\ ∀ t,Byt t->Z0n r ⟨x.gCert,Z3z t 63 255⟩=some false:=by
 obtain ⟨b,hb,lb,hs⟩:=Zib x
 obtain ⟨b',sg,hb',_,e,hv,bs,_⟩:=Zmb s x
 obtain rfl:b=b':=Option.some.inj (hb.symm.trans hb')
 refine ⟨sg,e,bs,?_,fun t ht=>?_⟩
 ·rw [Zfe r _ (hs sg) (v:=true) (by rw [hr]; exact hv),Zn4,Bool.and_true]
 ·rw [Zfe r _ (hs (Z3z t 63 255)) (v:=false) (by rw [hr]; exact Zk2 (Zlw s) ht),Bool.and_false]
theorem Zk1 (c:Zx) (s:LI):Z4g ⟨c,s⟩=Z4t c:=by
 unfold Z4g Z4t
 rw [Z9w,Z9w,Z6c,List.all_append,List.all_map]
 show (_&&(true&&true))=_
 rw [Bool.and_self,Bool.and_true]
 rfl
theorem Zxj (x:Zx) (s:LI):Z4t ⟨x.gSerial,x.gRides,x.gPrice,x.gAnchor,s⟩=Z4t x:=Zum _ _ rfl rfl rfl
theorem Zzk:Byt z64:=by
 intro i
 simp only [List.getD_eq_getElem?_getD,List.getElem?_replicate]
 split <;> decide
theorem ringWhole_eq {c:Z0q} {cert:Zx} {seed other:LI} {index:Int} {fz rv:Bool} (l:c.gSecret.length=32) (b2:Byt seed) (l2:seed.length=32):Z33 c cert seed index fz rv other=some true:=by
 rw [Z33,Z3 (Z0dt l),Z3 (Z06c l 0),Z2a,Zvo b2 l2 _ rfl]
 obtain ⟨n,hn⟩ : ∃ n,n=(min cert.gRides 4096).toNat:=⟨_,rfl⟩
 rw [<- hn]
 obtain ⟨v,hv⟩ : ∃ v,v=Hs seed n:=⟨_,rfl⟩
 obtain ⟨va,hva⟩ : ∃ va,va=Zvm seed (wrap .i64 (cert.gRides-index)) n:=⟨_,rfl⟩
 rw [<- hv,<- hva]
 try dsimp only
 rw [Z0j1]
 obtain ⟨val,hval⟩ : ∃ val,val=(bif index==0 then v else va):=⟨_,rfl⟩
 rw [<- hval]
 try dsimp only
 obtain ⟨cx,hcx⟩ : ∃ cx:Zx,cx=⟨cert.gSerial,cert.gRides,cert.gPrice,v,cert.gSig⟩:=⟨_,rfl⟩
 rw [<- hcx]
 obtain ⟨b,e⟩:=Zt0 cx
 rw [Z3 e]
 cases ok:Zv7 c
 ·rw [Zyq ok,Z2e (by rfl),Z3 Zpc]
 have hc:=Ztb ok
 rw [Zja ok,Zmc ok (Int.le_refl _) (by omega)]
 by_cases hg:(Z4t cx=true/\0<=index)/\index<=cert.gRides
 case neg =>
  rw [Z2e,Z3 Zpc]
  cases hm:Z4t cx
  ·rfl
  ·simp only [hm,true_and,not_and] at hg
   have:decide (index<0)=true∨decide (index>cert.gRides)=true:=by
    by_cases h0:index<0
    ·exact .inl (decide_eq_true h0)
    ·exact .inr (decide_eq_true (by have:=hg (by omega); omega))
   rcases this with h | h <;> rw [h] <;> simp
 obtain ⟨⟨hm,h0⟩,h1⟩:=hg
 have hrd:=Z004 cx hm
 rw [hcx] at hrd
 dsimp only at hrd
 have hnr:(n:Int)=cert.gRides:=by omega
 rw [hm,Z1p (by
  rw [decide_eq_false (show ¬ index<0 by omega),decide_eq_false (show ¬ index>cert.gRides by omega)]
  rfl)]
 obtain ⟨r,hr⟩ : ∃ r:Z0d,r=⟨Zn2 c 0,Zdi c c.gGates.toNat⟩:=⟨_,rfl⟩
 obtain ⟨s,hs⟩ : ∃ s,s=drv c.gSecret 0:=⟨_,rfl⟩
 have hrs:r.gIssuer=Zgq s:=by rw [hr,hs]; rfl
 rw [<- hr]
 try dsimp only
 rw [<- hs]
 obtain ⟨sg,eC,bC,kC,xC⟩:=Zx5 (r:=r) (s:=s) cx hrs
 rw [Z3 eC]
 obtain ⟨cy,hcy⟩ : ∃ cy:Zx,cy=⟨cx.gSerial,cx.gRides,cx.gPrice,cx.gAnchor,sg⟩:=⟨_,rfl⟩
 rw [<- hcy]
 rw [<- hcy] at kC
 have kC':Z23 r cy=some true:=by rw [kC,hm]
 have my:Z4t cy=true:=by rw [hcy]; exact (Zxj cx sg).trans hm
 have yr:cy.gRides=cert.gRides:=by rw [hcy,hcx]
 have ya:cy.gAnchor=v:=by rw [hcy,hcx]
 have xC' : ∀ t,Byt t->Z23 r ⟨cy.gSerial,cy.gRides,cy.gPrice,cy.gAnchor,Z3z t 63 255⟩=some false:=fun t ht=>by rw [hcy]; exact xC t ht
 have bcy:Byt cy.gSig:=by rw [hcy]; exact bC
 obtain ⟨sF,eF,bF,kF,xF⟩:=Zru (r:=r) (s:=s) ⟨cy,z64⟩ hrs
 obtain ⟨sR,eR,bR,kR,xR⟩:=Zlv (r:=r) (s:=s) ⟨cy,z64⟩ hrs
 rw [Zon,my] at kF
 rw [Zk1,my] at kR
 rw [Z02r eF]
 obtain ⟨aF,haF⟩ : ∃ aF,aF=(bif fz then sF else z64):=⟨_,rfl⟩
 rw [show (bif fz then (⟨cy,sF⟩:Zz).gSig else List.replicate 64 0)=aF from haF.symm]
 try dsimp only
 rw [Z02r eR]
 obtain ⟨aR,haR⟩ : ∃ aR,aR=(bif rv then sR else z64):=⟨_,rfl⟩
 rw [show (bif rv then (⟨cy,sR⟩:Zg).gSig else List.replicate 64 0)=aR from haR.symm]
 try dsimp only
 have okF:(fz||ieq 64 aF z64)=true:=by rw [haF]; cases fz <;> simp [Zoj]
 have okR:(rv||ieq 64 aR z64)=true:=by rw [haR]; cases rv <;> simp [Zoj]
 have cF:fz=true->Z19 r ⟨cy,aF⟩=some true:=fun h=>by rw [haF,h]; exact kF
 have cR:rv=true->Z0n r ⟨cy,aR⟩=some true:=fun h=>by rw [haR,h]; exact kR
 have baF:Byt aF:=by rw [haF]; cases fz <;> first | exact Zzk | exact bF
 have baR:Byt aR:=by rw [haR]; cases rv <;> first | exact Zzk | exact bR
 have inR:(decide (index≥0)&&decide (index<=cy.gRides))=true:=by rw [yr,decide_eq_true (show index≥0 by omega),decide_eq_true h1]; rfl
 have hvv:val=Hs seed (cert.gRides-index).toNat:=by
  have hw:wrap .i64 (cert.gRides-index)=cert.gRides-index:=Zp (by omega) (by omega)
  by_cases hi:index=0
  ·rw [hval,hi]
   show v=_
   rw [hv]
   congr 1
   omega
  ·rw [hval,show (index==0)=false by simpa using hi]
   show va=_
   rw [hva,hw]
   unfold Zvm
   rw [if_pos (by omega)]
 have hl:Zau val index v=some true:=by
  have h5:=Z00p (v:=val) (an:=v) (by rw [hvv]; exact Z02f b2 _) (by rw [hvv]; exact Zw0 l2 _) (n:=index.toNat) (by omega)
  rw [show ((index.toNat:Nat):Int)=index by omega] at h5
  rw [h5,hvv,Z02e,show (cert.gRides-index).toNat+index.toNat=n by omega,<- hv,Zoj]
 have m1 : ∀ (f g:Bool) (p q w:LI),(f||ieq 64 p z64)=true->(g||ieq 64 q z64)=true->Z2q Zcm false ⟨cy,index,w,f,p,g,q⟩=true:=fun f g p q w h h'=>by
  rw [Zlr]
  try dsimp only
  rw [my,inR,h,h']
  rfl
 have e1:Z08 r ⟨cy,index,val,fz,aF,rv,aR⟩=some 0:=by
  rw [Zwu (f:=true) (v:=true) (l:=true) (m1 fz rv aF aR val okF okR) kC' cF cR (by dsimp only; rw [ya]; exact hl)]
  cases fz <;> cases rv <;> rfl
 have e2:Z08 r ⟨cy,wrap .i64 (cert.gRides+1),val,fz,aF,rv,aR⟩=some 2:=by
  refine Z00d ?_
  rw [Zlr]
  try dsimp only
  rw [yr,show wrap .i64 (cert.gRides+1)=cert.gRides+1 from Zp (by omega) (by omega),decide_eq_false (show ¬ cert.gRides+1<=cert.gRides by omega)]
  simp
 have ea:Z08 r ⟨⟨cy.gSerial,cy.gRides,cy.gPrice,cy.gAnchor,Z3z cy.gSig 63 255⟩,index,other,fz,aF,rv,aR⟩=some 110:=by
  refine Zus ?_ (xC' _ bcy)
  rw [Zlr]
  try dsimp only
  rw [Zxj cy,my,inR,okF,okR]
  rfl
 have eb:Z08 r ⟨cy,index,other,true,Z3z aF 63 255,rv,aR⟩=some 110 :=
  Zpv (f:=false) (v:=true) (m1 true rv _ aR other rfl okR) kC' (fun _=>xF aF baF) cR rfl
 have ed:Z08 r ⟨cy,index,other,fz,aF,true,Z3z aR 63 255⟩=some 110 :=
  Zpv (f:=true) (v:=false) (m1 fz true aF _ other okF rfl) kC' cF (fun _=>xR aR baR) (by cases fz <;> rfl)
 rw [Z3 e1,Z1p (by rfl),Zj,Z3 e2,Z1p (by rfl),Z3 (Zmk _),Z3 (Zmk _),Z3 (Zmk _),Z3 ea,eb,ed,Z0h (by rfl),Z0h (by rfl),Z1p (by rfl),Z3 Zpc]
end Go.Proofs.YteefpkhngighgaaGreatDoor
namespace Go.Sx
open Go Go.RowKit
set_option linter.all false
end Go.Sx
namespace Go.Sx
open Go Go.RowKit Go.ChangeShapes
set_option linter.all false
def rowL (P:Program) (w:World):List TypeId->List Value->Bool
  | [],[]=>true
  | t::ts,v::vs=>Cell.okWideB P w t v&&rowL P w ts vs
  | _,_=>false
theorem Zqn {P:Program} {w:World} {base:Nat} : ∀ {ts:List TypeId} {vs:List Value},rowL P w ts vs=true->ts.length=vs.length /\ ∀ (i:Nat) v,vs[i]? = some v->∃ u,ts[i]? = some u/\Cell.okWide P w .any base u v
  | [],[],_=>⟨rfl,fun i v h=>by simp at h⟩
  | t::ts,v::vs,h=>by
    simp only [rowL,Bool.and_eq_true] at h
    obtain ⟨h1,h2⟩:=Zqn (base:=base) h.2
    refine ⟨by simp [h1],fun i x hx=>?_⟩
    cases i with
    | zero => obtain rfl : v = x := by simpa using hx
              exact ⟨t,rfl,Cell.okWide_of_okWideB h.1⟩
    | succ i=>exact h2 i x (by simpa using hx)
  | [],_::_,h=>by simp [rowL] at h
  | _::_,[],h=>by simp [rowL] at h
def Zys (P:Program) (w:World) (t:TypeId) (cs:Array Value):Bool:=match P.cellTypes P.depth t with
  | some ts=>rowL P w ts cs.toList
  | none=>false
theorem Ztt {P:Program} {w:World} {base:Nat} {t:TypeId} {cs:Array Value} (h:Zys P w t cs=true):Row.okWide P w .any base t cs:=by
  unfold Zys at h
  split at h
  · rename_i ts hts
    obtain ⟨h1,h2⟩:=Zqn (base:=base) h
    refine ⟨ts,hts,⟨1,by rw [h1]; simp⟩,fun i v hv=>?_⟩
    have hi:i<cs.size:=(Array.getElem?_eq_some_iff.1 hv).1
    obtain ⟨u,hu,ho⟩:=h2 i v (by rw [<- hv]; simp)
    exact ⟨u,by rw [Nat.mod_eq_of_lt (by rw [h1]; simpa using hi)]; exact hu,ho⟩
  · cases h
def valL (P:Program) (w:World) (t:TypeId) (v:Value):Bool:=match P.underlying t with
  | some (.struct _) | some (.array _ _)=>match v with
    | .agg cs=>cs.size==P.cellsOf t&&Zys P w t cs
    | _=>false
  | _=>Cell.okWideB P w t v
theorem Z027 {P:Program} {w:World} {base:Nat} {t:TypeId} {v:Value} (h:valL P w t v=true):Value.okWide P w .any base t v:=by
  unfold valL at h
  unfold Value.okWide
  split at h
  · rename_i fs hu
    simp only [hu]
    cases v <;> simp at h
    exact ⟨_,rfl,h.1,Ztt h.2⟩
  · rename_i n e hu
    simp only [hu]
    cases v <;> simp at h
    exact ⟨_,rfl,h.1,Ztt h.2⟩
  · rename_i h1 h2
    split
    · rename_i fs hu; exact absurd hu (h1 fs)
    · rename_i n e hu; exact absurd hu (h2 n e)
    · exact Cell.okWide_of_okWideB h
def Zrf (P:Program) (w:World):List TypeId->List Value->Bool
  | [],[]=>true
  | t::ts,v::vs=>valL P w t v&&Zrf P w ts vs
  | _,_=>false
theorem Zna {P:Program} {w:World} {base:Nat} : ∀ {ts:List TypeId} {vs:List Value},Zrf P w ts vs=true->vs.length=ts.length /\ ∀ (j:Nat) t v,ts[j]? = some t->vs[j]? = some v->Value.okWide P w .any base t v
  | [],[],_=>⟨rfl,fun j t v h=>by simp at h⟩
  | t::ts,v::vs,h=>by
    simp only [Zrf,Bool.and_eq_true] at h
    obtain ⟨h1,h2⟩:=Zna (base:=base) h.2
    refine ⟨by simp [h1],fun j u x hu hx=>?_⟩
    cases j with
    | zero => obtain rfl : t = u := by simpa using hu
              obtain rfl:v=x:=by simpa using hx
              exact Z027 h.1
    | succ j=>exact h2 j u x (by simpa using hu) (by simpa using hx)
  | [],_::_,h=>by simp [Zrf] at h
  | _::_,[],h=>by simp [Zrf] at h
theorem Z05f {P:Program} {w:World} {base:Nat} {f:FuncId} {fn:Func} {args:Array Value} (hi:P.inits.idxOf? f=none) (hfn:P.funcs[f]? = some fn) (hb:fn.body.isSome=true) (ho:fn.ours=false) (hf:fn.nfree=0)
    (h:Zrf P w fn.params.toList args.toList=true):Input.okWide P w .any base f ⟨#[],args,[]⟩:=by
  obtain ⟨h1,h2⟩:=Zna (base:=base) h
  refine ⟨fun o ho=>by simp at ho,fun gv hg=>by simp at hg,hi,fn,hfn,hb,ho,hf,by simpa using h1,fun j t v ht hv=>h2 j t v ?_ ?_⟩
  · simpa using ht
  · simpa using hv
section
variable {H:Type} {enc:TypeId×Value->H}
theorem witness_L {C:Checked} {os:Os} {f:FuncId} {fn:Func} {s:ChangeSpec} {conds:List PathCond} {apart:Bool} {X:World->Array Value->Prop} (w0:World) (args:Array Value) (fuel:Nat) (hos:w0.os=os)
    (hv:(w0.forCall (fun _ _=>0) ⟨#[],args,[]⟩).variablesB C.prog=true)
    (hr:((w0.forCall (fun _ _=>0) ⟨#[],args,[]⟩).heap.toList.drop C.prog.globals.size).take ((begin C.prog (fun _ _=>0) default).world.heap.size-C.prog.globals.size) =
      (begin C.prog (fun _ _=>0) default).world.heap.toList.drop C.prog.globals.size)
    (hi:C.prog.inits.idxOf? f=none) (hfn:C.prog.funcs[f]? = some fn) (hb:fn.body.isSome=true) (ho:fn.ours=false) (hf:fn.nfree=0) (hok:Zrf C.prog (w0.forCall (fun _ _=>0) ⟨#[],args,[]⟩) fn.params.toList args.toList=true)
    (hpre:s.preB enc C.prog fn conds apart (w0.forCall (fun _ _=>0) ⟨#[],args,[]⟩).memory args fuel=true)
    (hsz:s.sizedB enc C.prog fn apart (w0.forCall (fun _ _=>0) ⟨#[],args,[]⟩).memory args fuel=true)
    (hx:X (w0.forCall (fun _ _=>0) ⟨#[],args,[]⟩).memory args) :
    ∃ (w:World) (tape:Tape) (i:Input),w.os=os/\(w.forCall tape i).Shaped C.prog/\i.vars = []/\Input.okWide C.prog (w.forCall tape i) .any w.heap.size f i /\
      ((s.pre enc C.prog fn conds apart (w.forCall tape i).memory i.args/\X (w.forCall tape i).memory i.args)/\sizedMet enc C.prog fn (OpenSpec.ofChange s) apart (w.forCall tape i).memory i.args)/\({}:Assume).holds C.prog (lone (Frame.enter C.prog f i.args .normal) [] (w.forCall tape i)) :=
  ⟨w0,fun _ _=>0,⟨#[],args,[]⟩,hos,World.shaped_of_B hv hr,rfl,Z05f hi hfn hb ho hf hok,⟨⟨ChangeSpec.pre_of_preB hpre,hx⟩,sizedMet_of_sizedB hsz⟩,by
    simp only [Assume.holds]
    exact ⟨by simp,by simp,fun h=>by simp at h,by simp,by simp⟩⟩
end
abbrev Zwx (P:Program) (fn:Func) (s:ChangeSpec) (c:OpenClaim):Bool:=c.wf (OpenSpec.ofChange s)&&laidOutB P&&mapsRowed P&&fn.params.all (P.readableRec ·)&&namedTie P c.named s.vars
abbrev Z04v (P:Program) (c:OpenClaim):Bool:=(c.stops == [])&&(P.stops == [])&&(c.knobs == [])&&(P.stopKnobs == [])
abbrev Z04w (P:Program) (f:FuncId) (c:OpenClaim):Bool:=c.inPlace==P.inPlace f
abbrev Z04x (P:Program) (f:FuncId) (c:OpenClaim):Bool:=c.unfollowed==P.unfollowed f
abbrev Z04y (P:Program) (f:FuncId) (c:OpenClaim):Bool:=c.recurses==P.recurses f
abbrev Z04z (P:Program) (f:FuncId) (c:OpenClaim):Bool:=c.named==P.varsNamed f
abbrev Z050 (P:Program) (fn:Func) (s:ChangeSpec) (c:OpenClaim):Bool :=
  (c.maps==(fn.params.toList++s.plain.varTypes P).any (P.mapsRec ·))&&(c.ifaces==(fn.params.toList++s.plain.varTypes P).any (P.ifacesRec ·))&&(c.mapsOut==P.mapsAmong fn.resultTypes.toList) &&
  (c.loops==(fn.params.toList++s.plain.varTypes P).any (P.loopsFrom ·))&&(c.wideKeys==(fn.params.toList++s.plain.varTypes P++fn.resultTypes.toList).any (P.wideKeysFrom ·))
abbrev Z051 (P:Program) (c:OpenClaim):Bool:=(c.plainKeys==P.plainKeys)&&c.shortTexts.isNone&&P.stopsHeard&&P.mayEnter
abbrev Z052 (P:Program) (c:OpenClaim):Bool:=(c.lifted==P.liftsFinal)&&(P.make==some c.make)&&(c.pinned==c.pinnedBy)
abbrev Z053 (P:Program) (fn:Func) (s:ChangeSpec) (c:OpenClaim):Bool :=
  s.vars.all (P.varReadable ·)&&fn.resultTypes.all (fun t=>P.readableRec t&&decide (t<P.types.size))&&(c.ifacesOut==fn.resultTypes.toList.any (P.ifacesRec ·))&&(c.loopsOut==fn.resultTypes.toList.any (P.loopsFrom ·)) &&
  (c.kinds==(if c.domain.isEmpty then [] else fn.params.toList.map fun t=>match P.underlying t with | some (.int k)=>some k | _=>none)) &&
  (c.veiled==(fn.params.toList++s.plain.varTypes P++fn.resultTypes.toList).any (P.veiledRec ·))&&c.veiledFits P fn.params.toList (fn.params.toList++s.plain.varTypes P++fn.resultTypes.toList)
theorem facts_of {P:Program} {f:FuncId} {fn:Func} {s:ChangeSpec} {c:OpenClaim} (a:Zwx P fn s c=true) (b:Z04v P c=true) (hc:Z04w P f c=true) (d:Z04x P f c=true) (e:Z04y P f c=true) (hf:Z04z P f c=true)
    (g:Z050 P fn s c=true) (h:Z051 P c=true) (i:Z052 P c=true) (k:Z053 P fn s c=true):joinedFacts P f fn s c=true:=by
  unfold joinedFacts
  simp only [Zwx,Z04v,Z04w,Z04x,Z04y,Z04z,Z050,Z051,Z052,Z053,Bool.and_eq_true] at a b hc d e hf g h i k ⊢
  obtain ⟨⟨⟨⟨a1,a2⟩,a3⟩,a4⟩,a5⟩:=a
  obtain ⟨⟨⟨b1,b2⟩,b3⟩,b4⟩:=b
  obtain ⟨⟨⟨⟨g1,g2⟩,g3⟩,g4⟩,g5⟩:=g
  obtain ⟨⟨⟨h1,h2⟩,h3⟩,h4⟩:=h
  obtain ⟨⟨i1,i2⟩,i3⟩:=i
  obtain ⟨⟨⟨⟨⟨⟨k1,k2⟩,k3⟩,k4⟩,k5⟩,k6⟩,k7⟩:=k
  repeat' apply And.intro
  all_goals assumption
theorem laid_of {P:Program} {fn:Func} {s:ChangeSpec} {c:OpenClaim} (a:Zwx P fn s c=true):laidOutB P=true:=by
  simp only [Zwx,Bool.and_eq_true] at a
  exact a.1.1.1.2
end Go.Sx
namespace Go.Proofs.YteefpkhngighgaaGreatDoor
open Go Go.Sx Go.RowKit
set_option linter.all false
set_option maxRecDepth 100000
theorem ringWholeEntry_fA:Zwx Tryz.prog Tryz.f4 Rows.ringWholeEntrySpec Rows.ringWholeEntryRow=true:=by kernel_rfl
theorem ringWholeEntry_fB:Z04v Tryz.prog Rows.ringWholeEntryRow=true:=by kernel_rfl
theorem ringWholeEntry_fC:Z04w Tryz.prog 4 Rows.ringWholeEntryRow=true:=by kernel_rfl
theorem ringWholeEntry_fD:Z04x Tryz.prog 4 Rows.ringWholeEntryRow=true:=by kernel_rfl
theorem ringWholeEntry_fE:Z04y Tryz.prog 4 Rows.ringWholeEntryRow=true:=by kernel_rfl
theorem ringWholeEntry_fF:Z04z Tryz.prog 4 Rows.ringWholeEntryRow=true:=by kernel_rfl
theorem ringWholeEntry_fG:Z050 Tryz.prog Tryz.f4 Rows.ringWholeEntrySpec Rows.ringWholeEntryRow=true:=by kernel_rfl
theorem ringWholeEntry_fH:Z051 Tryz.prog Rows.ringWholeEntryRow=true:=by kernel_rfl
theorem ringWholeEntry_fI:Z052 Tryz.prog Rows.ringWholeEntryRow=true:=by kernel_rfl
theorem ringWholeEntry_fK:Z053 Tryz.prog Tryz.f4 Rows.ringWholeEntrySpec Rows.ringWholeEntryRow=true:=by kernel_rfl
end Go.Proofs.YteefpkhngighgaaGreatDoor
