/- Texts of a proof, one behind the other: U0 U1 U2 G5 E31 FactRingHolds. -/
import Derived.Test.YteefpkhngighgaaGreatDoorMA6
import Derived.Handed
import Derived.Test.YteefpkhngighgaaGreatDoorRows
namespace Go.Proofs.YteefpkhngighgaaGreatDoor
open Go Go.Sx Go.RowKit
open List (replicate)
open Go.IntKind (wrap)
set_option linter.all false
set_option maxRecDepth 100000
set_option maxHeartbeats 1000000
def Z0ko (k:LI):Prop:=Byt k/\k.length=32
noncomputable def Za2 (s:LI):LI:=(Z63 s).getD []
theorem Zie (s:LI) {m:LI} (hm:m.length<18446744073709551615) : ∃ sg,Z7b s m=some sg/\Z0t (Za2 s) m sg=some true/\Byt sg/\sg.length=64/\Z0ko (Za2 s)/\Z63 s=some (Za2 s):=by
  obtain ⟨a,r,k,h⟩:=Z09b s hm
  have e:Za2 s=Ziq (pB a):=by unfold Za2; rw [h.pub]; rfl
  refine ⟨_,h.sig,by rw [e]; exact Zs8 h,Z00r,?_,by rw [e]; exact ⟨Zpy _,Z4v _⟩,by rw [e]; exact h.pub⟩
  rw [List.length_append,Z4v,Z4r]
theorem Z0gb (s:LI):Z63 s=some (Za2 s):=by
  obtain ⟨_,_,_,_,_,_,h⟩:=Zie s (m:=[]) (by decide); exact h
noncomputable abbrev Z0dl (s:LI):LI:=Za2 s
theorem Z085 {s:LI} (hs:Byt s) (l:s.length=32):Z63 s=some (Z0dl s):=Z0gb s
theorem Z03q {l:LI} {i:Nat} {v:Int} (h:i<l.length):(Z62 l i v).length=l.length:=by rw [Znz h,List.length_set]
theorem Zyw {l:LI} {i:Nat} (h:i<l.length):l.getD i 0=l[i]:=by simp [List.getD_eq_getElem?_getD,List.getElem?_eq_getElem h]
theorem Z057:Byt []:=fun i=>by
  have:([]:LI).getD i 0=0:=rfl
  rw [this]; decide
theorem Zxo (n:Nat):Byt (replicate n 0):=by
  intro t
  have:(replicate n (0:Int)).getD t 0=0:=by
    simp only [List.getD]
    cases hi:(replicate n (0:Int))[t]? with
    | none=>rfl
    | some v=>simpa using (List.mem_replicate.1 (List.mem_of_getElem? hi)).2
  rw [this]; decide
theorem Zyz {i k:Nat} (h:k<=i) (hi:i<1000000):wrap .i64 ((i:Int)-(k:Int))=((i-k:Nat):Int):=by rw [Zu (by omega) (by omega)]; omega
theorem Zmo {a b:LI} {n:Nat} (ha:a.length=n) (hb:b.length=n) (h : ∀ j,j<n->a.getD j 0=b.getD j 0):a=b:=by
  apply List.ext_getElem
  · rw [ha,hb]
  · intro i h1 h2
    rw [<- Zyw h1,<- Zyw h2,h i (by omega)]
theorem Zwr {l:LI} (h:l.length=8):l = [l.getD 0 0,l.getD 1 0,l.getD 2 0,l.getD 3 0,l.getD 4 0,l.getD 5 0,l.getD 6 0,l.getD 7 0]:=by
  match l,h with
  | [a0,a1,a2,a3,a4,a5,a6,a7],_=>rfl
theorem Zka {M x:LI} {i:Nat} (h:i<M.length):(M++x).getD i 0=M.getD i 0:=by simp [List.getD_eq_getElem?_getD,List.getElem?_append_left h]
theorem Zkb {M x:LI} {i:Nat} (h:M.length<=i):(M++x).getD i 0=x.getD (i-M.length) 0:=by simp [List.getD_eq_getElem?_getD,List.getElem?_append_right h]
theorem Zhk {M x:LI} (h:Byt M) (hx:Byt x):Byt (M++x):=by
  intro i
  by_cases hi:i<M.length
  · rw [Zka hi]; exact h i
  · rw [Zkb (by omega)]; exact hx _
theorem Zsj {l:LI} {q i:Nat} (h:i<q):(l.take q).getD i 0=l.getD i 0:=by simp [List.getD_eq_getElem?_getD,List.getElem?_take,h]
theorem Zr7 {l:LI} {q i:Nat}:(l.drop q).getD i 0=l.getD (q+i) 0:=by simp [List.getD_eq_getElem?_getD,List.getElem?_drop]
theorem Zu0 {l:LI} (h:Byt l) (q:Nat):Byt (l.take q):=by
  intro i
  by_cases hi:i<q
  · rw [Zsj hi]; exact h i
  · rw [Zmn (by rw [List.length_take]; omega)]; decide
theorem Ztz {l:LI} (h:Byt l) (q:Nat):Byt (l.drop q):=by
  intro i
  rw [Zr7]; exact h _
theorem Z054 {xs ys:LI} {i:Nat} (h:i+ys.length<=xs.length):(wr xs i ys).length=xs.length:=by
  unfold wr
  rw [List.length_append,List.length_append,Z0k,List.length_drop]; omega
theorem Z0k4 {xs ys:LI} {i:Nat} (hx:Byt xs) (hy:Byt ys):Byt (wr xs i ys):=by
  intro j
  rw [Zlr]
  split
  · exact hy _
  · exact hx _
theorem Zsv (x:Int):(be8 x).length=8:=rfl
theorem Zxy (x:Int):Byt (be8 x):=Zd2 (Zxz x)
theorem walk {α:Type} (F:Nat->Nat->Option α) {j:Nat} {R:Option α} (hj:j<18446744073709551616) (hs : ∀ i f,i<j->F (f+1) i=F f (i+1)) (he : ∀ f,F (f+1) j=R):F big 0=R:=by
  have key : ∀ d i f,i+d=j->F (f+1+d) i=R:=by
    intro d
    induction d with
    | zero => intro i f h; obtain rfl : i = j := by omega
              exact he f
    | succ d ih=>intro i f h; rw [show f+1+(d+1)=(f+1+d)+1 by omega,hs i _ (by omega)]; exact ih (i+1) f (by omega)
  obtain ⟨f,hf⟩ : ∃ f,big=f+1+j:=⟨18446744073709551615-j,by have:big=18446744073709551616:=Z6r; omega⟩
  rw [hf]; exact key j 0 f (by omega)
theorem Z04a {i:Nat} (h:i<9223372036854775807):wrap .i64 ((i:Int)+1)=((i+1:Nat):Int):=by rw [Zu (by omega) (by omega)]; omega
theorem Z09r (x:Int):IntKind.u32.wrap x=x%4294967296:=by simp [wrap,IntKind.bits,IntKind.signed]
theorem Zdp {x:Int} (h0:0<=x) (h1:x<4294967296):IntKind.u32.wrap x=x:=by rw [Z09r]; omega
theorem bv32 (m:Nat) (h:m<4294967296):(BitVec.ofInt 32 (m:Int)).toNat=m:=by
  rw [BitVec.toNat_ofInt]; simp; omega
theorem or32 {x y:Int} (m n:Nat) (hx:x=m) (hy:y=n) (h1:m<4294967296) (h2:n<4294967296):Z8 .or .u32 x y=((m ||| n:Nat):Int):=by
  subst hx; subst hy
  show IntKind.u32.wrap (((BitVec.ofInt 32 (m:Int) ||| BitVec.ofInt 32 (n:Int)).toNat:Nat):Int)=_
  rw [BitVec.toNat_or,bv32 m h1,bv32 n h2,Zdp (by omega)]
  have:m ||| n<2^32:=Nat.or_lt_two_pow (by simpa using h1) (by simpa using h2)
  simp at this; omega
theorem Z033 (k:Nat) {x y a:Int} (hx:x=a*((2^k:Nat):Int)) (ha:0<=a) (h0:0<=y) (hy:y<((2^k:Nat):Int)) (h1:x+y<4294967296):Z8 .or .u32 x y=x+y:=by
  have hp:(0:Int)<=((2^k:Nat):Int):=Int.natCast_nonneg _
  have hx0:0<=x:=by rw [hx]; exact Int.mul_nonneg ha hp
  rw [or32 x.toNat y.toNat (by omega) (by omega) (by omega) (by omega)]
  have e:x.toNat=a.toNat <<< k:=by
    rw [Nat.shiftLeft_eq]
    have:(x.toNat:Int)=((a.toNat*2^k:Nat):Int):=by
      rw [Int.natCast_mul,Int.toNat_of_nonneg hx0,Int.toNat_of_nonneg ha,hx]
    exact Int.ofNat_inj.1 this
  rw [e,<- Nat.shiftLeft_add_eq_or_of_lt (by omega:y.toNat<2^k),<- e]
  omega
theorem Zps {x b:Int} (hx:0<=x/\x<16777216) (hb:0<=b/\b<256):Z8 .or .u32 (Z08 .u32 x 8) b=x*256+b:=by
  have h:=Zkw .u32 (x:=x) (n:=8) (by decide)
  have e:((2^8:Nat):Int)=256:=by decide
  rw [e,Zdp (by omega) (by omega)] at h
  have h2:Z08 .u32 x 8=x*256:=h
  rw [h2]
  exact Z033 8 (a:=x) rfl hx.1 hb.1 hb.2 (by omega)
def be4 (l:LI) (o:Nat):Int:=((l.getD o 0*256+l.getD (o+1) 0)*256+l.getD (o+2) 0)*256+l.getD (o+3) 0
theorem Z0md (f:Bool) (a b c d:Int) (k:Int->Option (Int×Bool)):Z2u (f,[a,b,c,d]) k big 0 0=k (Z8 .or .u32 (Z08 .u32 (Z8 .or .u32 (Z08 .u32 (Z8 .or .u32 (Z08 .u32 (Z8 .or .u32 (Z08 .u32 0 8) (wrap .u32 a)) 8) (wrap .u32 b)) 8) (wrap .u32 c)) 8) (wrap .u32 d)):=by kernel_rfl
theorem Zz9 {l:LI} (h:l.length=4):l = [l.getD 0 0,l.getD 1 0,l.getD 2 0,l.getD 3 0]:=by
  match l,h with
  | [a0,a1,a2,a3],_=>rfl
theorem Zkg (p:LI) (o i:Nat) (hi:i<4):((p.drop o).take 4).getD i 0=p.getD (o+i) 0:=by
  simp [List.getD_eq_getElem?_getD,List.getElem?_take,hi,List.getElem?_drop]
theorem Zxf:Z4p=some 32:=by kernel_rfl
theorem Zws {p:LI} (h:Byt p) (l:p.length=64) {t:Nat} (ht:t<16):Z5m p ((4*t:Nat):Int)=some (be4 p (4*t),true):=by
  have e1:wrap .i64 (Int.tdiv 32 8)=4:=by decide
  have e2:wrap .i64 ((p.length:Int)-4)=60:=by rw [l]; decide
  have e3:wrap .i64 (((4*t:Nat):Int)+4)=((4*t+4:Nat):Int):=by rw [Zu (by omega) (by omega)]; omega
  have e8:4*t+4-4*t=4:=by omega
  have hlen:((p.drop (4*t)).take 4).length=4:=by rw [List.length_take,List.length_drop,l]; omega
  have hp:Z6b p ((4*t:Nat):Int)=some (false,(p.drop (4*t)).take 4):=by
    rw [Z6b,Z3 Zxf]
    simp only [Zm,e1,e2]
    rw [Z0v (by simp; omega)]
    simp only [e3,Int.toNat_natCast,e8]
    rw [Z0p (by simp [Zlt]; omega),Z0p (decide_eq_true (by rw [hlen]; decide))]
  have b0:=h (4*t)
  have b1:=h (4*t+1)
  have b2:=h (4*t+2)
  have b3:=h (4*t+3)
  rw [Z5m,Z3 hp,Z20,Zz9 hlen,Z0md,Zkg _ _ _ (by decide),Zkg _ _ _ (by decide),Zkg _ _ _ (by decide),Zkg _ _ _ (by decide)]
  rw [Zdp (x:=p.getD (4*t+0) 0) b0.1 (by have:=b0.2; simp only [Nat.add_zero]; omega),Zdp b1.1 (by omega),Zdp b2.1 (by omega),Zdp b3.1 (by omega)]
  simp only [Nat.add_zero]
  have o1:Z8 .or .u32 (Z08 .u32 0 8) (p.getD (4*t) 0)=0*256+p.getD (4*t) 0:=Zps (by decide) b0
  have o2:=Zps (x:=0*256+p.getD (4*t) 0) (by omega) b1
  have o3:=Zps (x:=(0*256+p.getD (4*t) 0)*256+p.getD (4*t+1) 0) (by omega) b2
  have o4:=Zps (x:=((0*256+p.getD (4*t) 0)*256+p.getD (4*t+1) 0)*256+p.getD (4*t+2) 0) (by omega) b3
  rw [o1,o2,o3,o4]
  simp only [be4,Int.zero_mul,Int.zero_add]
  rfl
def rot4 (x:Int) (n m:Int):Int:=Z8 .or .u32 (Zt .u32 x n) (Z08 .u32 x m)
def sm (x a b c d s:Int):Int:=Z8 .xor .u32 (Z8 .xor .u32 (rot4 x a b) (rot4 x c d)) (Zt .u32 x s)
def tu (x a b c d e f:Int):Int:=Z8 .xor .u32 (Z8 .xor .u32 (rot4 x a b) (rot4 x c d)) (rot4 x e f)
def sg4 (x:Int):Int:=sm x 17 15 19 13 10
def sg3 (x:Int):Int:=sm x 7 25 18 14 3
def bt1 (x:Int):Int:=tu x 6 26 11 21 25 7
def bt0 (x:Int):Int:=tu x 2 30 13 19 22 10
theorem Z0sb (x:Int):Zdm x 17 19 10=some (sg4 x):=by kernel_rfl
theorem Z0sa (x:Int):Zdm x 7 18 3=some (sg3 x):=by kernel_rfl
theorem Z0ga (x:Int):Z9y x 6 11 25=some (bt1 x):=by kernel_rfl
theorem Z0g9 (x:Int):Z9y x 2 13 22=some (bt0 x):=by kernel_rfl
def Zro (p l:LI) (n:Nat):Int:=if n<16 then be4 p (4*n) else wrap .u32 (wrap .u32 (wrap .u32 (sg4 (l.getD (n-2) 0)+l.getD (n-7) 0)+sg3 (l.getD (n-15) 0))+l.getD (n-16) 0)
def wl4 (p:LI):Nat->LI
  | 0=>[]
  | n+1=>wl4 p n ++ [Zro p (wl4 p n) n]
theorem Zk4 (p:LI) : ∀ n,(wl4 p n).length=n
  | 0=>rfl
  | n+1=>by show (wl4 p n ++ [_]).length=_; rw [List.length_append,Zk4 p n]; rfl
theorem Z045 (p:LI) (n j:Nat) (h:j<n):(wl4 p (n+1)).getD j 0=(wl4 p n).getD j 0:=by
  show (wl4 p n ++ [_]).getD j 0=_
  simp [List.getD_eq_getElem?_getD,List.getElem?_append_left (show j<(wl4 p n).length by rw [Zk4]; exact h)]
theorem Z046 (p:LI) (n:Nat):(wl4 p (n+1)).getD n 0=Zro p (wl4 p n) n:=by
  show (wl4 p n ++ [_]).getD n 0=_
  have:=Zk4 p n
  simp [List.getD_eq_getElem?_getD,this]
theorem rep0 (n i:Nat):(replicate n (0:Int)).getD i 0=0:=by
  simp only [List.getD_eq_getElem?_getD,List.getElem?_replicate]
  split <;> rfl
def wz (p:LI) (n:Nat):LI:=wl4 p n++replicate (64-n) 0
theorem Z01a (p:LI) {n:Nat} (h:n<=64):(wz p n).length=64:=by unfold wz; simp [Zk4]; omega
theorem Zk5 (p:LI) {n j:Nat} (h:j<n):(wz p n).getD j 0=(wl4 p n).getD j 0:=by
  unfold wz
  exact Zka (by rw [Zk4]; exact h)
theorem Z056 (p:LI) {n:Nat} {z:Int} (h:n<64) (hz:z=Zro p (wl4 p n) n):Z62 (wz p n) n z=wz p (n+1):=by
  refine Zmo (n:=64) (by rw [Z03q (by rw [Z01a p (by omega)]; exact h),Z01a p (by omega)]) (Z01a p (by omega)) ?_
  intro j hj
  rw [Zaf]
  by_cases e:j=n
  · subst e; rw [if_pos rfl,Zk5 p (by omega),Z046,hz]
  · rw [if_neg e]
    by_cases h2:j<n
    · rw [Zk5 p h2,Zk5 p (by omega),Z045 p n j h2]
    · unfold wz
      rw [Zkb (by rw [Zk4]; omega),Zkb (by rw [Zk4]; omega)]
      rw [rep0,rep0]
theorem tk64 {p:LI} (l:p.length=64):tk p 0 64=p:=Zhd l
theorem m_of {i k:Nat} (h:k<=i) (hi:i<1000000):wrap .i64 ((i:Int)-(k:Int))=((i-k:Nat):Int):=Zyz h hi
theorem Z0g8 {p:LI} (h:Byt p) (l:p.length=64):Z8h p=some (wl4 p 64):=by
  have e0:(replicate 64 0:LI)=wz p 0:=rfl
  have e64:wz p 64=wl4 p 64:=by unfold wz; simp
  rw [Z8h,Z20,e0]
  refine (walk (fun f i=>Z36 p some f (i:Int) (wz p i)) (j:=64) (R:=some (wz p 64)) (by decide) ?_ ?_).trans (by rw [e64])
  · intro i f hi
    have e1:=Z04a (i:=i) (by omega)
    show Z35 p some (Z36 p some f) _ _=_
    rw [Z35,Z1w (decide_eq_true (by omega)),Z20]
    by_cases h16:i<16
    · have e8:wrap .i64 (4*(i:Int))=((4*i:Nat):Int):=by rw [Zu (by omega) (by omega)]; omega
      rw [Z1w (decide_eq_true (by omega)),Zm,e8,tk64 l,Z3 (Zws h l h16),Z0p (Z3g (by omega) (by omega))]
      simp only [Zm,e1,Int.toNat_natCast]
      rw [Z056 p hi (by unfold Zro; rw [if_pos h16])]
    · have m2:wrap .i64 ((i:Int)-2)=((i-2:Nat):Int):=m_of (k:=2) (by omega) (by omega)
      have m7:wrap .i64 ((i:Int)-7)=((i-7:Nat):Int):=m_of (k:=7) (by omega) (by omega)
      have m15:wrap .i64 ((i:Int)-15)=((i-15:Nat):Int):=m_of (k:=15) (by omega) (by omega)
      have m16:wrap .i64 ((i:Int)-16)=((i-16:Nat):Int):=m_of (k:=16) (by omega) (by omega)
      rw [Z0v (decide_eq_false (by omega))]
      simp only [Zm,m2,m7,m15,m16,e1,Int.toNat_natCast]
      rw [Z0p (Z3g (by omega) (by omega)),Z0p (Z3g (by omega) (by omega)),Z0p (Z3g (by omega) (by omega)),Z0p (Z3g (by omega) (by omega)),Z3 (Z0sb _),Z3 (Z0sa _),Z0p (Z3g (by omega) (by omega)),
        Z056 p hi (by unfold Zro; rw [if_neg h16,Zk5 p (by omega),Zk5 p (by omega),Zk5 p (by omega),Zk5 p (by omega)])]
  · intro f
    show Z35 p some _ _ _=_
    rw [Z35,Z0v (by decide)]
def rnd4 (s:LI) (k w:Int):LI :=
  let x:=wrap .u32 (wrap .u32 (wrap .u32 (wrap .u32 (s.getD 7 0+bt1 (s.getD 4 0))+Z8 .xor .u32 (Z8 .and .u32 (s.getD 4 0) (s.getD 5 0)) (Z8 .and .u32 (Z8 .xor .u32 4294967295 (s.getD 4 0)) (s.getD 6 0)))+k)+w)
  let y:=wrap .u32 (bt0 (s.getD 0 0)+Z8 .xor .u32 (Z8 .xor .u32 (Z8 .and .u32 (s.getD 0 0) (s.getD 1 0)) (Z8 .and .u32 (s.getD 0 0) (s.getD 2 0))) (Z8 .and .u32 (s.getD 1 0) (s.getD 2 0)))
  [wrap .u32 (x+y),s.getD 0 0,s.getD 1 0,s.getD 2 0,wrap .u32 (s.getD 3 0+x),s.getD 4 0,s.getD 5 0,s.getD 6 0]
def Zgq (w s:LI):Nat->LI
  | 0=>s
  | n+1=>rnd4 (Zgq w s n) (G_table256.getD n 0) (w.getD n 0)
theorem Z088 {w:LI} (s:LI) (k:Int->Int->Int->Int->Int->Int->Int->Int->Option (LI)) :
    Z3x w k big (s.getD 0 0) (s.getD 1 0) (s.getD 2 0) (s.getD 3 0) (s.getD 4 0) (s.getD 5 0) (s.getD 6 0) (s.getD 7 0) 0 =
    k ((Zgq w s 64).getD 0 0) ((Zgq w s 64).getD 1 0) ((Zgq w s 64).getD 2 0) ((Zgq w s 64).getD 3 0) ((Zgq w s 64).getD 4 0) ((Zgq w s 64).getD 5 0) ((Zgq w s 64).getD 6 0) ((Zgq w s 64).getD 7 0) :=
  walk (fun f i=>Z3x w k f ((Zgq w s i).getD 0 0) ((Zgq w s i).getD 1 0) ((Zgq w s i).getD 2 0) ((Zgq w s i).getD 3 0) ((Zgq w s i).getD 4 0) ((Zgq w s i).getD 5 0) ((Zgq w s i).getD 6 0) ((Zgq w s i).getD 7 0) (i:Int)) (j:=64) (by decide)
    (fun i f hi=>by
      have e1:=Z04a (i:=i) (by omega)
      show Z50 w k (Z3x w k f) _ _ _ _ _ _ _ _ _=_
      rw [Z50,Z1w (decide_eq_true (by omega)),Z0p (Z3g (by omega) (by omega))]
      simp only [Zm,e1,Int.toNat_natCast]
      rw [Z3 (Z0ga _),Z0p (Z3g (by omega) (by omega)),Z3 (Z0g9 _)]
      rfl)
    (fun f=>by
      show Z50 w k _ _ _ _ _ _ _ _ _ _=_
      rw [Z50,Z0v (by decide)])
def blk4 (s p:LI):LI :=
  let v:=Zgq (wl4 p 64) s 64
  [wrap .u32 (v.getD 0 0+s.getD 0 0),wrap .u32 (v.getD 1 0+s.getD 1 0),wrap .u32 (v.getD 2 0+s.getD 2 0),wrap .u32 (v.getD 3 0+s.getD 3 0),wrap .u32 (v.getD 4 0+s.getD 4 0),wrap .u32 (v.getD 5 0+s.getD 5 0),wrap .u32 (v.getD 6 0+s.getD 6 0),wrap .u32 (v.getD 7 0+s.getD 7 0)]
theorem Z0s9 (k:LI->Option (LI)) (s0 s1 s2 s3 s4 s5 s6 s7:Int) (a0 a1 a2 a3 a4 a5 a6 a7:Int):Z6k [a0,a1,a2,a3,a4,a5,a6,a7] k big 0 [s0,s1,s2,s3,s4,s5,s6,s7]=k [wrap .u32 (s0+a0),wrap .u32 (s1+a1),wrap .u32 (s2+a2),wrap .u32 (s3+a3),wrap .u32 (s4+a4),wrap .u32 (s5+a5),wrap .u32 (s6+a6),wrap .u32 (s7+a7)]:=by kernel_rfl
theorem Z081 {s p:LI} (hs:s.length=8) (h:Byt p) (l:p.length=64):Zco s p=some (blk4 s p):=by
  rw [Zco]
  simp only [Zm]
  rw [Z3 (Z0g8 h l)]
  simp only [Zm,Z20]
  rw [Z088]
  unfold blk4
  dsimp only
  generalize Zgq (wl4 p 64) s 64=v at *
  have e:=Z0s9 some (s.getD 0 0) (s.getD 1 0) (s.getD 2 0) (s.getD 3 0) (s.getD 4 0) (s.getD 5 0) (s.getD 6 0) (s.getD 7 0) (v.getD 0 0) (v.getD 1 0) (v.getD 2 0) (v.getD 3 0) (v.getD 4 0) (v.getD 5 0) (v.getD 6 0) (v.getD 7 0)
  rw [<- Zwr hs] at e
  refine e.trans ?_
  rw [Int.add_comm (s.getD 0 0),Int.add_comm (s.getD 1 0),Int.add_comm (s.getD 2 0),Int.add_comm (s.getD 3 0),Int.add_comm (s.getD 4 0),Int.add_comm (s.getD 5 0),Int.add_comm (s.getD 6 0),Int.add_comm (s.getD 7 0)]
def bk4 (M:LI) (n:Nat):LI:=(M.drop (64*n)).take 64
theorem Zsw {M:LI} {n:Nat} (h:64*n+64<=M.length):(bk4 M n).length=64:=by unfold bk4; rw [List.length_take,List.length_drop]; omega
theorem Zpu {M:LI} {n i:Nat} (hi:i<64):(bk4 M n).getD i 0=M.getD (64*n+i) 0:=by unfold bk4; rw [Zsj hi,Zr7]
theorem Z05g {M x:LI} {n:Nat} (h:64*n+64<=M.length):bk4 (M++x) n=bk4 M n :=
  Zmo (n:=64) (Zsw (by rw [List.length_append]; omega)) (Zsw h) (fun j hj=>by rw [Zpu hj,Zpu hj,Zka (by omega)])
def fb4 (M:LI):Nat->LI
  | 0=>G_first256
  | n+1=>blk4 (fb4 M n) (bk4 M n)
theorem Z06u (M:LI) : ∀ n,(fb4 M n).length=8
  | 0=>by show G_first256.length=8; decide
  | n+1=>rfl
theorem Zt5 {M x:LI} : ∀ n,64*n<=M.length->fb4 (M++x) n=fb4 M n
  | 0,_=>rfl
  | n+1,h=>by
    show blk4 (fb4 (M++x) n) (bk4 (M++x) n)=blk4 (fb4 M n) (bk4 M n)
    rw [Zt5 n (by omega),Z05g (by omega)]
structure Dst4 (M:LI) (a h:LI) (c:Int):Prop where
  st:a=fb4 M (M.length / 64)
  hv:c=(M.length:Int)
  hl:h.length=64
  hd : ∀ i,i<M.length%64->h.getD i 0=M.getD (64*(M.length / 64)+i) 0
  hb:Byt h
theorem Zxh (m:Nat) : ∀ (l a h:LI) (c:Int) (M:LI),l.length<=m->M.length+l.length<9223372036854775808->Byt l->Byt M->Dst4 M a h c->∀ n,∃ r,Z1b (n+1+m) l a h c=some r/\Dst4 (M++l) r.gstate r.grest r.glength:=by
  induction m with
  | zero =>
    intro l a h c M hl hlen hbl hbM hD n
    have e:l = []:=List.length_eq_zero_iff.1 (by omega)
    subst e
    refine ⟨⟨a,h,c⟩,?_,by rw [List.append_nil]; exact hD⟩
    rw [Nat.add_zero,Z1b,Z2j,Z0v (decide_eq_false (by simp))]
  | succ m ih =>
    intro l a h c M hl hlen hbl hbM hD n
    by_cases he:l.length=0
    · have e:l = []:=List.length_eq_zero_iff.1 he
      subst e
      refine ⟨⟨a,h,c⟩,?_,by rw [List.append_nil]; exact hD⟩
      rw [<- Nat.add_assoc,Z1b,Z2j,Z0v (decide_eq_false (by simp))]
    · have hr:=Nat.mod_lt M.length (show 0<64 by decide)
      have hdm:=Nat.div_add_mod M.length 64
      have hc:=hD.hv
      have ht:Int.tmod c 64=((M.length%64:Nat):Int):=by rw [Int.tmod_eq_emod_of_nonneg (by omega),hc]; omega
      obtain ⟨q,hq⟩ : ∃ q,q=Nat.min l.length (64-M.length%64):=⟨_,rfl⟩
      have hq1:0<q/\q<=l.length/\q<=64-M.length%64/\(q=l.length∨q=64-M.length%64):=by
        rw [hq]
        show 0<min l.length (64-M.length%64)/\min l.length (64-M.length%64)<=l.length/\min l.length (64-M.length%64)<=64-M.length%64/\(min l.length (64-M.length%64)=l.length∨min l.length (64-M.length%64)=64-M.length%64)
        omega
      have htake:l.take (64-M.length%64)=l.take q:=by
        rw [hq]
        rcases Nat.le_total l.length (64-M.length%64) with h1 | h1
        · rw [List.take_of_length_le h1,List.take_of_length_le (by show l.length<=min l.length (64-M.length%64); omega)]
        · congr 1; show _=min l.length (64-M.length%64); omega
      have hrest:(l.drop ((q:Int)).toNat).take (((l.length:Int)).toNat-((q:Int)).toNat)=l.drop q:=by
        rw [Int.toNat_natCast,Int.toNat_natCast,List.take_of_length_le (by rw [List.length_drop]; omega)]
      have hM:M++l=(M++l.take q)++l.drop q:=by rw [List.append_assoc,List.take_append_drop]
      have hlq:(l.take q).length=q:=by rw [List.length_take]; omega
      have hl1:(M++l.take q).length=M.length+q:=by rw [List.length_append,hlq]
      have hwl:(wr h (M.length%64) (l.take q)).length=64:=by rw [Z054 (by rw [hlq,hD.hl]; omega),hD.hl]
      have hwb:Byt (wr h (M.length%64) (l.take q)):=Z0k4 hD.hb (Zu0 hbl _)
      have hwd : ∀ i,i<M.length%64+q->(wr h (M.length%64) (l.take q)).getD i 0=(M++l.take q).getD (64*(M.length / 64)+i) 0:=by
        intro i hi
        rw [Zlr,hlq]
        by_cases h1:M.length%64<=i/\i<M.length%64+q
        · rw [if_pos h1,Zkb (by omega)]
          congr 1; omega
        · rw [if_neg h1,hD.hd i (by omega),Zka (by omega)]
      have ew:wrap .u64 (q:Int)=(q:Int):=Z0a (by omega) (by omega)
      have ew2:wrap .u64 (c+(q:Int))=((M.length+q:Nat):Int):=by rw [Z0a (by omega) (by omega)]; omega
      have et2:Int.tmod ((M.length+q:Nat):Int) 64=(((M.length+q)%64:Nat):Int):=by rw [Int.tmod_eq_emod_of_nonneg (by omega)]; omega
      have hbM1:Byt (M++l.take q):=Zhk hbM (Zu0 hbl _)
      have hlr:(l.drop q).length=l.length-q:=List.length_drop
      rw [<- Nat.add_assoc,Z1b,Z2j,Z1w (decide_eq_true (by omega)),Zm,ht,Z0p (by simp [Zlt]; omega),Zm]
      simp only [Int.toNat_natCast]
      rw [<- hq,Z0p (by simp [Zlt]; omega),Zm,ew,Zm,ew2,Zm,et2,htake]
      simp only [Int.toNat_natCast] at hrest
      rw [hrest]
      by_cases h64:(M.length+q)%64=0
      · have hblock:wr h (M.length%64) (l.take q)=bk4 (M++l.take q) (M.length / 64) :=
          Zmo hwl (Zsw (by rw [hl1]; omega)) (fun j hj=>by rw [hwd j (by omega),Zpu hj])
        have ha8:a.length=8:=by rw [hD.st]; exact Z06u _ _
        rw [Z1w (by rw [h64]; rfl),Z3 (Z081 ha8 hwb hwl)]
        have hdiv:(M.length+q) / 64=M.length / 64+1:=by omega
        have hD2:Dst4 (M++l.take q) (blk4 a (wr h (M.length%64) (l.take q))) (wr h (M.length%64) (l.take q)) ((M.length+q:Nat):Int):=by
          refine ⟨?_,by rw [hl1],hwl,?_,hwb⟩
          · rw [hl1,hdiv,hblock,hD.st]
            show _=blk4 (fb4 (M++l.take q) (M.length / 64)) _
            rw [Zt5 _ (by omega)]
          · intro i hi
            rw [hl1,h64] at hi
            omega
        obtain ⟨r,er,h2⟩:=ih (l.drop q) _ _ _ (M++l.take q) (by rw [hlr]; omega) (by rw [hl1,hlr]; omega) (Ztz hbl _) hbM1 hD2 n
        exact ⟨r,er,by rw [hM]; exact h2⟩
      · rw [Z0v (by simp; omega)]
        have hdiv:(M.length+q) / 64=M.length / 64:=by omega
        have hmod:(M.length+q)%64=M.length%64+q:=by omega
        have hD2:Dst4 (M++l.take q) a (wr h (M.length%64) (l.take q)) ((M.length+q:Nat):Int):=by
          refine ⟨?_,by rw [hl1],hwl,?_,hwb⟩
          · rw [hl1,hdiv,Zt5 _ (by omega)]; exact hD.st
          · intro i hi
            rw [hl1,hmod] at hi
            rw [hl1,hdiv]
            exact hwd i hi
        obtain ⟨r,er,h2⟩:=ih (l.drop q) _ _ _ (M++l.take q) (by rw [hlr]; omega) (by rw [hl1,hlr]; omega) (Ztz hbl _) hbM1 hD2 n
        exact ⟨r,er,by rw [hM]; exact h2⟩
theorem Zpi {d:Z0i} {M l:LI} (hl:M.length+l.length<9223372036854775808) (hbl:Byt l) (hbM:Byt M) (hD:Dst4 M d.gstate d.grest d.glength) : ∃ r,Z2s d l=some r/\Dst4 (M++l) r.gstate r.grest r.glength:=by
  obtain ⟨n,hn⟩ : ∃ n',big=n'+1+l.length:=⟨18446744073709551615-l.length,by have:big=18446744073709551616:=Z6r; omega⟩
  rw [Z2s,hn]
  exact Zxh l.length l d.gstate d.grest d.glength M (Nat.le_refl _) hl hbl hbM hD n
theorem Dst4.start:Dst4 [] G_first256 (replicate 64 0) 0:=⟨rfl,rfl,by simp,fun i hi=>by simp at hi,Zxo _⟩
def Zkl (x:Int):Nat:=((64-(x+9)%64)%64).toNat
def Zx1 (x:Int):LI:=([128]++replicate (Zkl x) 0)++be8 (wrap .u64 (x*8))
theorem Zzu (x:Int):(Zx1 x).length=9+Zkl x:=by
  unfold Zx1
  simp [Zsv]
  omega
theorem Zzt (x:Int):Byt (Zx1 x):=Zhk (Zhk (Zd2 (by decide)) (Zxo _)) (Zxy _)
theorem Z035 {x:Int} (h0:0<=x) (h1:x<9223372036854775808):Zg9 x=some (Zx1 x):=by
  have e1:Int.tmod x 64=x%64:=Int.tmod_eq_emod_of_nonneg h0
  have e2:wrap .i64 (x%64)=x%64:=Zu (by omega) (by omega)
  have e3:wrap .i64 (x%64+9)=x%64+9:=Zu (by omega) (by omega)
  have e4:Int.tmod (x%64+9) 64=(x+9)%64:=by rw [Int.tmod_eq_emod_of_nonneg (by omega)]; omega
  have e5:wrap .i64 (64-(x+9)%64)=64-(x+9)%64:=Zu (by omega) (by omega)
  have e6:Int.tmod (64-(x+9)%64) 64=(Zkl x:Int):=by rw [Int.tmod_eq_emod_of_nonneg (by omega)]; unfold Zkl; omega
  have hpz:Zkl x<64:=by unfold Zkl; omega
  have e7:wrap .i64 (1+(Zkl x:Int))=((1+Zkl x:Nat):Int):=by rw [Zu (by omega) (by omega)]; omega
  have e8:wrap .i64 (((1+Zkl x:Nat):Int)+8)=((9+Zkl x:Nat):Int):=by rw [Zu (by omega) (by omega)]; omega
  simp only [Zg9,Zm,e1,e2,e3,e4,e5,e6,e7,e8,Int.toNat_natCast]
  have hs:Zkv (0:Int) (replicate (1+Zkl x) 0) (0:Int).toNat 128 = [128]++replicate (Zkl x) 0:=by
    rw [Zed (by simp; omega),Nat.add_comm,List.replicate_succ]; rfl
  rw [Z0p (by unfold mkB; simp only [Bool.and_eq_true,decide_eq_true_eq]; omega),Z0p (Z3g (by decide) (by simp; omega)),hs,Z3 (Zlo _),Z0p (by simp [Zsv]; omega)]
  rfl
def Zw5 (M:LI):LI:=M++Zx1 (M.length:Int)
def Zu7 (x:Int):LI:=[wrap .u8 (Zt .u32 (Zt .u32 (Zt .u32 x 8) 8) 8),wrap .u8 (Zt .u32 (Zt .u32 x 8) 8),wrap .u8 (Zt .u32 x 8),wrap .u8 x]
def Z040 (s:LI):LI:=Zu7 (s.getD 0 0)++(Zu7 (s.getD 1 0)++(Zu7 (s.getD 2 0)++(Zu7 (s.getD 3 0)++(Zu7 (s.getD 4 0)++(Zu7 (s.getD 5 0)++(Zu7 (s.getD 6 0)++Zu7 (s.getD 7 0)))))))
def h256 (M:LI):LI:=Z040 (fb4 (Zw5 M) ((Zw5 M).length / 64))
theorem Z01o (x:Int) : ∀ y∈Zu7 x,0<=y/\y<256:=by
  unfold Zu7
  repeat' (first | exact List.forall_mem_nil _ | refine List.forall_mem_cons.2 ⟨Zpg _,?_⟩)
theorem Z012 (s:LI):Byt (Z040 s):=by
  apply Zd2
  unfold Z040
  intro x hx
  simp only [List.mem_append] at hx
  rcases hx with h | h | h | h | h | h | h | h <;> exact Z01o _ _ h
theorem Zuo (M:LI):Byt (h256 M):=Z012 _
theorem Zq1 (M:LI):(h256 M).length=32:=rfl
theorem Z000 (y d:Z0i):Z38 y (fun a70=>some (a70,d)) big 0 (replicate 32 0)=some (Z040 y.gstate,d):=by kernel_rfl
theorem Z001 {d:Z0i} {M:LI} (hM:M.length<9223372036854775000) (hb:Byt M) (hD:Dst4 M d.gstate d.grest d.glength):Z6l d=some (h256 M,d):=by
  have hz:Zkl (M.length:Int)<64:=by unfold Zkl; omega
  have hl:=hD.hv
  obtain ⟨r,er,hr⟩:=Zpi (d:=d) (l:=Zx1 d.glength) (by rw [Zzu,hl]; omega) (Zzt _) hb hD
  rw [Z6l,Z3 (Z035 (by omega) (by omega)),Z3 er,Z20,Z000]
  have e:r.gstate=fb4 (Zw5 M) ((Zw5 M).length / 64):=by
    have:=hr.st
    rw [hl] at this
    exact this
  rw [e]
  rfl
theorem Z0g4 {M:LI} (hM:M.length<9223372036854775000) (hb:Byt M):Zbu M=some (h256 M):=by
  obtain ⟨r,er,hr⟩:=Zpi (d:=⟨G_first256,replicate 64 0,0⟩) (l:=M) (M:=[]) (by simp; omega) hb Z057 Dst4.start
  rw [Zbu,Ziz,Z3 rfl]
  show opt (Z2s ⟨G_first256,replicate 64 0,0⟩ M) _=_
  rw [Z3 er,Z3 (Z001 hM hb hr)]
theorem Zuf {α:Type} {z:α} {l:List α} {i:Nat} (h:i<l.length):l.drop i=l.getD i z::l.drop (i+1):=by
  rw [List.drop_eq_getElem_cons h]
  congr 1
  simp [List.getD_eq_getElem?_getD,List.getElem?_eq_getElem h]
theorem Z03y {α:Type} {z:α} {l:List α} {i:Nat} (h:i<l.length):l.take (i+1)=l.take i ++ [l.getD i z]:=by
  rw [List.take_succ,List.getElem?_eq_getElem h]
  simp [List.getD_eq_getElem?_getD,List.getElem?_eq_getElem h]
theorem Z07a {α:Type} {z x:α} {t d:List α} {i:Nat} (h:i=t.length):(t++x::d).getD i z=x:=by subst h; simp [List.getD_eq_getElem?_getD]
theorem Z07b {α:Type} {x y:α} {t d:List α} {i:Nat} (h:i=t.length):(t++x::d).set i y=t++y::d:=by subst h; simp
theorem Z09p {f:Int->Int} {L:LI} {i:Nat} (h:i<L.length):((L.take i).map f++L.drop i).getD i 0=L.getD i 0:=by
  rw [Zuf (z:=0) h,Z07a (by simp; omega)]
theorem Z09q {f:Int->Int} {L:LI} {i:Nat} (h:i<L.length):Zkv 0 ((L.take i).map f++L.drop i) i (f (L.getD i 0))=(L.take (i+1)).map f++L.drop (i+1):=by
  rw [Zed (by simp; omega),Zuf (z:=0) h,Z07b (by simp; omega),Z03y (z:=0) h,List.map_append,List.append_assoc]
  rfl
def kz (key:LI):LI:=key++replicate (64-key.length) 0
def xr (c x:Int):Int:=Z8 .xor .u8 x c
def frm (c:Int) (key:LI):LI:=(kz key).map (xr c)
def mac4 (key m:LI):LI:=h256 (frm 92 key++h256 (frm 54 key++m))
theorem u8x (x y:Int):0<=Z8 .xor .u8 x y/\Z8 .xor .u8 x y<256:=by
  show 0<=IntKind.u8.wrap _/\IntKind.u8.wrap _<256
  rw [Z13]; omega
theorem Z04o {key:LI} (h:key.length<=64):(kz key).length=64:=by unfold kz; simp; omega
theorem Zyu {c:Int} {key:LI} (h:key.length<=64):(frm c key).length=64:=by unfold frm; rw [List.length_map,Z04o h]
theorem Zyt (c:Int) (key:LI):Byt (frm c key):=by
  apply Zd2
  intro x hx
  obtain ⟨y,_,rfl⟩:=List.mem_map.1 hx
  exact u8x _ _
theorem Zmp (k m:LI):(mac4 k m).length=32:=rfl
theorem Z02k (k m:LI):Byt (mac4 k m):=Zuo _
theorem Z04u {c:Int} {key:LI} (h:key.length<=64):Z2i c 64 key=some (frm c key):=by
  have e1:key.take (replicate (64:Int).toNat 0:LI).length++(replicate (64:Int).toNat 0:LI).drop key.length=kz key:=by
    show key.take (replicate 64 (0:Int)).length++(replicate 64 (0:Int)).drop key.length=kz key
    rw [List.length_replicate,List.take_of_length_le h,List.drop_replicate]; rfl
  rw [Z2i,Z0p (by decide),Z0p (by decide),e1,Zm,Z20]
  have hl:=Z04o h
  unfold frm
  generalize kz key=L at *
  refine (walk (fun f i=>Z15 c L some f ((L.take i).map (xr c)++L.drop i) (i:Int)) (j:=64) (R:=some (L.map (xr c))) (by decide) ?_ ?_)
  · intro i f hi
    have e2:=Z04a (i:=i) (by omega)
    have hlen:((L.take i).map (xr c)++L.drop i).length=64:=by simp; omega
    show Z1l c L some (Z15 c L some f) _ _=_
    rw [Z1l,Z1w (decide_eq_true (by omega)),Z0p (Z3g (by omega) (by omega))]
    simp only [Zm,Int.toNat_natCast,e2]
    rw [Z09p (by omega),Z0p (Z3g (by omega) (by omega))]
    exact congrArg (fun q=>Z15 c L some f q ((i+1:Nat):Int)) (Z09q (f:=xr c) (by omega))
  · intro f
    show Z1l c L some _ _ _=_
    rw [Z1l,Z0v (decide_eq_false (by omega)),List.drop_of_length_le (by omega),List.append_nil,List.take_of_length_le (by omega)]
theorem Zz6 (a b:LI):Z77 [a,b]=(bnd (wrap .i64 (0+(a.length:Int))) fun s1=>bnd (wrap .i64 (s1+(b.length:Int))) fun s2=>chk (mkB 1 0 s2)<|chk (decide (((replicate 0 0:LI).length+a.length)*1<=140737488355328))<|chk (decide ((((replicate 0 0:LI)++a).length+b.length)*1<=140737488355328))<|some (((replicate 0 0:LI)++a)++b)):=by kernel_rfl
theorem Zz7 (a b c:LI):Z77 [a,b,c]=(bnd (wrap .i64 (0+(a.length:Int))) fun s1=>bnd (wrap .i64 (s1+(b.length:Int))) fun s2=>bnd (wrap .i64 (s2+(c.length:Int))) fun s3=>chk (mkB 1 0 s3)<|chk (decide (((replicate 0 0:LI).length+a.length)*1<=140737488355328))<|chk (decide ((((replicate 0 0:LI)++a).length+b.length)*1<=140737488355328))<|chk (decide (((((replicate 0 0:LI)++a)++b).length+c.length)*1<=140737488355328))<|some ((((replicate 0 0:LI)++a)++b)++c)):=by kernel_rfl
theorem Z0b6 {a b:LI} (h:a.length+b.length<=1000000):Z77 [a,b]=some (a++b):=by
  have e1:wrap .i64 (0+(a.length:Int))=(a.length:Int):=by rw [Zu (by omega) (by omega)]; omega
  have e2:wrap .i64 ((a.length:Int)+(b.length:Int))=((a.length+b.length:Nat):Int):=by rw [Zu (by omega) (by omega)]; omega
  rw [Zz6]
  simp only [Zm,e1,e2,List.replicate_zero,List.nil_append]
  rw [Z0p (by unfold mkB; simp only [Bool.and_eq_true,decide_eq_true_eq]; omega),Z0p (by simp; omega),Z0p (by simp; omega)]
theorem Z0b7 {a b c:LI} (h:a.length+b.length+c.length<=1000000):Z77 [a,b,c]=some (a++(b++c)):=by
  have e1:wrap .i64 (0+(a.length:Int))=(a.length:Int):=by rw [Zu (by omega) (by omega)]; omega
  have e2:wrap .i64 ((a.length:Int)+(b.length:Int))=((a.length+b.length:Nat):Int):=by rw [Zu (by omega) (by omega)]; omega
  have e3:wrap .i64 (((a.length+b.length:Nat):Int)+(c.length:Int))=((a.length+b.length+c.length:Nat):Int):=by rw [Zu (by omega) (by omega)]; omega
  rw [Zz7]
  simp only [Zm,e1,e2,e3,List.replicate_zero,List.nil_append]
  rw [Z0p (by unfold mkB; simp only [Bool.and_eq_true,decide_eq_true_eq]; omega),Z0p (by simp; omega),Z0p (by simp; omega),Z0p (by simp; omega),List.append_assoc]
theorem pmac {key m:LI} (hk:key.length<=64) (hm:Byt m) (lm:m.length<=100000):Zfu key m=some (mac4 key m):=by
  have f1:=Zyu (c:=54) hk
  have f2:=Zyu (c:=92) hk
  rw [Zfu,Z69,Z20,Z0v (decide_eq_false (by omega))]
  dsimp only
  rw [Z20,Z3 (Z04u hk),Z3 (Z0b6 (by omega)),Z3 (Z0g4 (by rw [List.length_append]; omega) (Zhk (Zyt _ _) hm))]
  dsimp only
  rw [Z3 (Z04u hk),Zci,Zhd (Zq1 _),Z3 rfl,Z3 (Z0b6 (by rw [Zq1]; omega)),Z3 (Z0g4 (by rw [List.length_append,Zq1]; omega) (Zhk (Zyt _ _) (Zuo _)))]
  rfl
def Zrh (i:Int):LI:=[110,111,100,101]++([0]++be8 i)
theorem Zz2 (i:Int):(Zrh i).length=13:=rfl
theorem Zz1 (i:Int):Byt (Zrh i):=Zhk (Zd2 (by decide)) (Zhk (Zd2 (by decide)) (Zxy i))
def exp4 (s info:LI):LI:=mac4 s (info ++ [1])
def drv (s:LI) (i:Int):LI:=exp4 s (Zrh i)
theorem Z06b (s:LI) (i:Int):(drv s i).length=32:=rfl
theorem Z06a (s:LI) (i:Int):Byt (drv s i):=Z02k _ _
theorem Z07x:Byt [1]:=Zd2 (by decide)
theorem Z083 {s info:LI} (l:s.length=32) (hi:Byt info) (li:info.length<=1000):Zft s info 32=some (exp4 s info,true):=by
  have hj:Z77 [[],info,[1]]=some (info ++ [1]):=Z0b7 (by simp; omega)
  have hm:=pmac (key:=s) (m:=info ++ [1]) (by omega) (Zhk hi Z07x) (by simp; omega)
  obtain ⟨n,hn⟩ : ∃ n,big=n+1+1:=⟨18446744073709551614,Z6r⟩
  rw [Zft,Z0v (by decide),Zm,Z0p (by decide),Z20,hn,Z72,Zag,Z1w (by decide),Z20,Z3 hj,Zhd l,Z3 hm]
  dsimp only
  rw [Zhd (Zmp _ _),Z0p (by rw [Zmp]; decide),Zm,Zm,
    Z72,Zag,Z0v (by rw [List.length_append,Zmp]; decide),Z0p (by rw [List.length_append,Zmp]; decide)]
  rfl
abbrev Z07k:ByteArray:=⟨#[110,111,100,101]⟩
theorem Z0ni:strL Z07k = [110,111,100,101]:=by kernel_rfl
theorem Z082 {s:LI} {i:Int} (l:s.length=32) (h0:0<=i) (h1:i<=2147483647):Zdi s Z07k i=some (drv s i,true):=by
  have e1:wrap .u64 i=i:=Z0a h0 (by omega)
  have hj:Z77 [[110,111,100,101],[0],be8 i]=some (Zrh i):=Z0b7 (by simp [Zsv])
  rw [Zdi,Z0v (by simp [Z07k,ByteArray.size]; omega),Zm,e1,Z3 (Zlo i),Z0ni,Z3 hj,Z3 (Z083 l (Zz1 i) (by rw [Zz2]; decide)),Zm]
  have e2:wr (replicate 32 0) 0 ((exp4 s (Zrh i)).take 32)=exp4 s (Zrh i):=by
    have h32:(exp4 s (Zrh i)).length=32:=rfl
    rw [List.take_of_length_le (by omega)]
    refine Zmo (n:=32) (by rw [Z054 (by simp [h32]),List.length_replicate]) h32 ?_
    intro j hj
    rw [Zlr,if_pos (by omega)]
    rfl
  show some (wr (replicate 32 0) 0 ((exp4 s (Zrh i)).take 32),true)=_
  rw [e2]
  rfl
def Zme (n a b:Int):Bool:=(decide (n≥a))&&(decide (n<=b))
theorem Zo8 (n a b:Int):Z2e n a b=some (Zme n a b):=rfl
theorem Zso {n a b:Int}:Zme n a b=true↔a<=n/\n<=b:=by
  unfold Zme
  simp
def Zwy (c:Z0s):Bool:=(((Zme c.gGates 1 16&&Zme c.gWallets 1 8)&&Zme c.gRows 1 256)&&Zme c.gFlash 512 1048576)&&Zme c.gSerials 1 65535
theorem Zv5 (c:Z0s):Zbl c=some (bif Zwy c then 0 else 4):=by
  rw [Zbl]
  simp only [Zo8,Option.isSome_some,Option.getD_some]
  unfold Zwy
  generalize Zme c.gGates 1 16=a
  generalize Zme c.gWallets 1 8=b
  generalize Zme c.gRows 1 256=d
  generalize Zme c.gFlash 512 1048576=e
  generalize Zme c.gSerials 1 65535=f
  cases a <;> cases b <;> cases d <;> cases e <;> cases f <;> rfl
theorem Zuy {c:Z0s} (h:Zwy c=true):(1<=c.gGates/\c.gGates<=16)/\(1<=c.gWallets/\c.gWallets<=8):=by
  unfold Zwy at h
  simp only [Bool.and_eq_true] at h
  exact ⟨Zso.1 h.1.1.1.1,Zso.1 h.1.1.1.2⟩
abbrev k32:LI:=replicate 32 0
def Zvm (c:Z0s) (i:Int):LI×Bool:=bif Zwy c&&Zme i 0 (c.gGates+c.gWallets) then (drv c.gSecret i,true) else (k32,false)
theorem Z087 {c:Z0s} (l:c.gSecret.length=32) (i:Int):Z91 c i=some (Zvm c i):=by
  rw [Z91,Z3 (Zv5 c)]
  unfold Zvm
  cases h:Zwy c
  · rfl
  · have hc:=Zuy h
    have e1:wrap .i64 (c.gGates+c.gWallets)=c.gGates+c.gWallets:=Zu (by omega) (by omega)
    simp only [Zo8,e1,Option.isSome_some,Option.getD_some]
    cases h2:Zme i 0 (c.gGates+c.gWallets)
    · rfl
    · have h3:=Zso.1 h2
      have h4:Zdi c.gSecret (⟨#[110,111,100,101]⟩:ByteArray) i=some (drv c.gSecret i,true):=Z082 l h3.1 (by omega)
      rw [Z0p (by rfl),Z0v (by rfl),Z3 h4]
      rfl
theorem Znx {c:Z0s} {i:Int} (h:Zwy c=true) (h0:0<=i) (h1:i<=c.gGates):Zvm c i=(drv c.gSecret i,true):=by
  have hc:=Zuy h
  unfold Zvm
  rw [h,Zso.2 (by omega)]
  rfl
noncomputable def Zju (c:Z0s) (i:Nat):LI:=Z0dl (drv c.gSecret (i:Int))
noncomputable def Z6u (c:Z0s) (n:Nat):List (LI):=(List.range n).map fun i=>Zju c (i+1)
theorem Zld (c:Z0s) (n:Nat):(Z6u c n).length=n:=by simp [Z6u]
theorem Ztb (c:Z0s) (n:Nat):Z6u c (n+1)=Z6u c n ++ [Zju c (n+1)]:=by simp [Z6u,List.range_succ]
noncomputable def Zji (c:Z0s):Zp×Int:=bif Zwy c then (⟨Zju c 0,Z6u c c.gGates.toNat⟩,0) else (⟨k32,[]⟩,4)
theorem Z0g6 {c:Z0s} (l:c.gSecret.length=32):Ze4 c=some (Zji c):=by
  rw [Ze4,Z3 (Zv5 c)]
  unfold Zji
  cases h:Zwy c
  · rfl
  · have hc:=Zuy h
    obtain ⟨g,hg⟩ : ∃ g:Nat,c.gGates=g:=⟨c.gGates.toNat,by omega⟩
    have e1:wrap .i64 (c.gGates+1)=((g+1:Nat):Int):=by rw [Zu (by omega) (by omega)]; omega
    rw [Z0v (by rfl),Zm,e1,Z20]
    have hgn:c.gGates.toNat=g:=by omega
    show _=some ((⟨Zju c 0,Z6u c c.gGates.toNat⟩:Zp),(0:Int))
    rw [hgn]
    have one : ∀ i:Nat,i<=g->Z91 c (i:Int)=some (drv c.gSecret (i:Int),true):=fun i hi=>by
      rw [Z087 l,Znx h (by omega) (by omega)]
    have pub : ∀ i:Nat,Z63 (drv c.gSecret (i:Int))=some (Zju c i):=fun i=>Z085 (Z06a _ _) (Z06b _ _)
    refine (walk (fun f i=>Z6v c ((g+1:Nat):Int) (fun (a196:LI) (l199:List (LI))=>some ((⟨a196,l199⟩:Zp),(0:Int))) f (i:Int) (match i with | 0=>k32 | _+1=>Zju c 0) (Z6u c (i-1))) (j:=g+1) (R:=some ((⟨Zju c 0,Z6u c g⟩:Zp),(0:Int))) (by omega) ?_ ?_)
    · intro i f hi
      have e2:=Z04a (i:=i) (by omega)
      show Z89 c _ _ (Z6v c _ _ f) _ _ _=_
      rw [Z89,Z1w (decide_eq_true (by omega)),Z20,Z3 (one i (by omega)),Z3 (pub i)]
      cases i with
      | zero =>
        rw [Z1w (by rfl)]
        dsimp only
        rw [Zm,e2]
      | succ i =>
        have hl:=Zld c i
        rw [Z0v (by simp; omega)]
        show chk (decide (((Z6u c i).length+1)*32<=140737488355328)) _=_
        rw [Z0p (by rw [hl]; exact decide_eq_true (by omega)),Zm]
        dsimp only
        rw [Zm,e2]
        show _=Z6v c _ _ f _ (Zju c 0) (Z6u c (i+1))
        rw [Ztb]
        rfl
    · intro f
      show Z89 c _ _ _ _ _ _=_
      rw [Z89,Z0v (decide_eq_false (by omega))]
      rfl
end Go.Proofs.YteefpkhngighgaaGreatDoor
namespace Go.Proofs.YteefpkhngighgaaGreatDoor
open Go Go.Sx Go.RowKit
set_option linter.all false
set_option maxRecDepth 100000
set_option maxHeartbeats 1000000
section
variable {α β:Type}
def Zsp (f:Zb8 α) (x:α):Prop:=∀ w:Z05,w.gfault=0->w.gbytes.length<=1000000->∃ w',f.put w x=some w'/\w'.gfault=0/\w'.gbytes.length<=w.gbytes.length+65
theorem Ztc {w:Z05} {xs:LI} (h0:w.gfault=0) (hl:w.gbytes.length<=1000100) (hx:xs.length<=64):Z54 w xs=some ⟨w.gbytes++xs,0⟩:=by
 unfold Z54
 rw [h0,Z1w (by rfl),Z0p (decide_eq_true (by omega)),Zm]
theorem be32 (x:Int):Z4t x=some (Zu7 x):=by kernel_rfl
theorem Zrc {w:Z05} {xs:LI} (h0:w.gfault=0) (hl:w.gbytes.length<=1000100) (hx:xs.length<=64):Z3j w xs=some ⟨w.gbytes++xs,0⟩:=by
 unfold Z3j
 rw [Z3 (Ztc h0 hl hx)]
theorem Zd8 {get:α->Int} {lo:Int} {hi:α->Int} {x:α}:Zsp (Zyj get lo hi) x:=by
 intro w h0 hl
 refine ⟨⟨w.gbytes++Zu7 (IntKind.u32.wrap (get x)),0⟩,?_,rfl,by simp [Zu7]⟩
 show Z6n w _=_
 unfold Z6n
 rw [Z3 (be32 _),Z3 (Ztc h0 (by omega) (by simp [Zu7]))]
theorem Zuv {get:α->Int} {hi:Int} {x:α}:Zsp (fMon get hi) x:=by
 intro w h0 hl
 refine ⟨⟨w.gbytes++be8 (IntKind.u64.wrap (get x)),0⟩,?_,rfl,by simp [be8]⟩
 show Z6o w _=_
 unfold Z6o
 rw [Z3 (Zlo _),Z3 (Ztc h0 (by omega) (by simp [be8]))]
theorem Zc1 {get:α->LI} {n:Nat} {s:Bool} {x:α} (hn:n<=64):Zsp (Zxl get n s) x:=by
 intro w h0 hl
 refine ⟨⟨w.gbytes++tk (get x) 0 n,0⟩,Zrc h0 (by omega) (by rw [Z0k]; exact hn),rfl,by simp only [List.length_append,Z0k]; omega⟩
theorem Zuu {inn:α->β} {s:Zb8 β} {x:α} (h:Zsp s (inn x)):Zsp (fInn inn s) x:=h
theorem Z003 {x:α} {s:Bool} : ∀ (fs:List (Zb8 α)) (w:Z05),(∀ f∈fs,Zsp f x)->w.gfault=0->w.gbytes.length+65*fs.length<=1000000->∃ w',Ze1 fs s w x=some w'/\w'.gfault=0/\w'.gbytes.length<=w.gbytes.length+65*fs.length
 | [],w,_,h0,_=>⟨w,rfl,h0,by simp⟩
 | f::fs,w,hf,h0,hl=>by
  rw [List.length_cons] at hl ⊢
  have key : ∃ w1,br (f.sgn || !s) (f.put w x) (some w)=some w1/\w1.gfault=0/\w1.gbytes.length<=w.gbytes.length+65:=by
   cases f.sgn || !s
   ·exact ⟨w,rfl,h0,by omega⟩
   ·exact hf f List.mem_cons_self w h0 (by omega)
  obtain ⟨w1,e1,h1,l1⟩:=key
  obtain ⟨w2,e2,h2,l2⟩:=Z003 fs w1 (fun g hg=>hf g (List.mem_cons_of_mem _ hg)) h1 (by omega)
  exact ⟨w2,by show opt _ _=_; rw [Z3 e1,e2],h2,by omega⟩
theorem Z070 {d:Int} (h0:1<=d) (h1:d<=255):Zik d=some [70,66,1,IntKind.wrap .u8 d]:=by
 unfold Zik
 rw [Z0v (by simp; omega),Zm]
theorem Zr0 {fs:List (Zb8 α)} {d:Int} {s:Bool} {x:α} (hf : ∀ f∈fs,Zsp f x) (hn:fs.length<=100) (h0:1<=d) (h1:d<=255) : ∃ b,Ze0 fs d s x=some b/\b.length<=10000:=by
 obtain ⟨w,e,hw,hl⟩:=Z003 (s:=s) fs ⟨[] ++ [70,66,1,IntKind.wrap .u8 d],0⟩ hf rfl (by simp; omega)
 simp only [List.nil_append,List.length_cons,List.length_nil] at hl
 refine ⟨[]++w.gbytes,?_,by simp; omega⟩
 unfold Ze0
 rw [Z3 (show Zc4=some ⟨[],0⟩ from rfl),Z3 (Z070 h0 h1),Z3 (Zrc rfl (by simp) (by simp)),Z3 e]
 rw [Z3 (show Z4f w=some ([]++w.gbytes,0,w) by unfold Z4f; rw [Z0v (by rw [hw]; rfl),Z0p (decide_eq_true (by simp; omega)),Zm])]
theorem Zjq {fs:List (Zb8 α)} {d:Int} {x:α} (hf : ∀ f∈fs,Zsp f x) (hn:fs.length<=100) (h0:1<=d) (h1:d<=255) : ∃ b,Zcw fs d x=some (b,bif Z4a fs false x then 0 else 2):=by
 unfold Zcw
 cases Z4a fs false x
 ·exact ⟨[],rfl⟩
 ·obtain ⟨b,e,_⟩:=Zr0 (s:=false) hf hn h0 h1
  exact ⟨b,by rw [Z0v (by rfl),Z3 e]; rfl⟩
theorem Zjz {fs:List (Zb8 α)} {d:Int} {x:α} (hf : ∀ f∈fs,Zsp f x) (hn:fs.length<=100) (h0:1<=d) (h1:d<=255) : ∃ b,Z9f fs d x=some b/\b.length<=10000:=by
 unfold Z9f
 cases Z4a fs true x
 ·exact ⟨[],rfl,by decide⟩
 ·obtain ⟨b,e,l⟩:=Zr0 (s:=true) hf hn h0 h1
  exact ⟨b,by rw [Z0v (by rfl),Z3 e],l⟩
def Zfe (fs:List (Zb8 α)) (x y:α):Prop:=∀ f∈fs,f.sgn=true->f.may x=f.may y /\ ∀ w,f.put w x=f.put w y
theorem Zfe.app {fs gs:List (Zb8 α)} {x y:α} (h:Zfe fs x y) (h':Zfe gs x y):Zfe (fs++gs) x y:=fun f hf=>(List.mem_append.1 hf).elim (h f) (h' f)
theorem Zfe.inn {inn:α->β} {fs:List (Zb8 β)} {x y:α} (h:inn x=inn y):Zfe (fs.map (fInn inn)) x y:=by
 intro f hf _
 obtain ⟨g,_,rfl⟩:=List.mem_map.1 hf
 exact ⟨by show g.may (inn x)=g.may (inn y); rw [h],fun w=>by show g.put w (inn x)=g.put w (inn y); rw [h]⟩
theorem Zes {fs:List (Zb8 α)} {x y:α} (h:Zfe fs x y):Z4a fs true x=Z4a fs true y:=by
 unfold Z4a
 induction fs with
 | nil=>rfl
 | cons f fs ih =>
  rw [List.all_cons,List.all_cons,ih fun g hg=>h g (List.mem_cons_of_mem _ hg)]
  cases e:f.sgn
  ·rfl
  ·rw [(h f List.mem_cons_self e).1]
theorem Z03b {fs:List (Zb8 α)} {x y:α} (h:Zfe fs x y) (w:Z05):Ze1 fs true w x=Ze1 fs true w y:=by
 induction fs generalizing w with
 | nil=>rfl
 | cons f fs ih =>
  have ih:=fun w=>ih (fun g hg=>h g (List.mem_cons_of_mem _ hg)) w
  show opt (br (f.sgn || !true) (f.put w x) (some w)) _=opt (br (f.sgn || !true) (f.put w y) (some w)) _
  have e:br (f.sgn || !true) (f.put w x) (some w)=br (f.sgn || !true) (f.put w y) (some w):=by
   cases e:f.sgn
   ·rfl
   ·rw [(h f List.mem_cons_self e).2 w]
  rw [e]
  congr 1
  exact funext fun w=>ih w
theorem Zgs {fs:List (Zb8 α)} {d:Int} {x y:α} (h:Zfe fs x y):Z9f fs d x=Z9f fs d y:=by
 unfold Z9f Ze0
 rw [Zes h,show (fun w=>opt (Ze1 fs true w x) fun w=>opt (Z4f w) fun d=>some d.1)=(fun w=>opt (Ze1 fs true w y) fun w=>opt (Z4f w) fun d=>some d.1) from funext fun w=>by rw [Z03b h]]
theorem Zai {fs:List (Zb8 α)} {x:α} (h : ∀ f∈fs,f.sgn=false->f.may x=true):Z4a fs false x=Z4a fs true x:=by
 unfold Z4a
 induction fs with
 | nil=>rfl
 | cons f fs ih =>
  rw [List.all_cons,List.all_cons,ih fun g hg=>h g (List.mem_cons_of_mem _ hg)]
  cases e:f.sgn
  ·rw [h f List.mem_cons_self e]; rfl
  ·rfl
end
theorem Zkd (x:Z0m) : ∀ f∈F_Cert,Zsp f x:=by
 intro f hf
 simp only [F_Cert,List.mem_cons,List.not_mem_nil,or_false] at hf
 rcases hf with rfl | rfl | rfl | rfl | rfl
 ·exact Zd8
 ·exact Zd8
 ·exact Zuv
 ·exact Zc1 (by decide)
 ·exact Zc1 (by decide)
def Zf7 (x:Z0m):Bool:=Z4a F_Cert false x
theorem Zvi (x:Z0m) (sg:LI):Zfe F_Cert (⟨x.gSerial,x.gRides,x.gPrice,x.gAnchor,sg⟩:Z0m) x:=by
 intro f hf hs
 simp only [F_Cert,List.mem_cons,List.not_mem_nil,or_false] at hf
 rcases hf with rfl | rfl | rfl | rfl | rfl
 ·exact ⟨rfl,fun _=>rfl⟩
 ·exact ⟨rfl,fun _=>rfl⟩
 ·exact ⟨rfl,fun _=>rfl⟩
 ·exact ⟨rfl,fun _=>rfl⟩
 ·cases hs
theorem Zul (x:Z0m) : ∀ f∈F_Cert,f.sgn=false->f.may x=true:=by
 intro f hf hs
 simp only [F_Cert,List.mem_cons,List.not_mem_nil,or_false] at hf
 rcases hf with rfl | rfl | rfl | rfl | rfl
 ·first | rfl | cases hs
 ·first | rfl | cases hs
 ·first | rfl | cases hs
 ·first | rfl | cases hs
 ·rfl
theorem Z02m (x:Z0m) (sg:LI):Zf7 (⟨x.gSerial,x.gRides,x.gPrice,x.gAnchor,sg⟩:Z0m)=Zf7 x:=by
 unfold Zf7
 rw [Zai (Zul _),Zai (Zul _),Zes (Zvi x sg)]
theorem Zui (x:Z0m) : ∃ b,Z99 x=some (b,bif Zf7 x then 0 else 2):=Zjq (Zkd x) (by decide) (by decide) (by decide)
theorem Zvk (x:Z0m) : ∃ b,Z75 x=some b/\b.length<=10000 /\ ∀ sg,Z75 (⟨x.gSerial,x.gRides,x.gPrice,x.gAnchor,sg⟩:Z0m)=some b:=by
 obtain ⟨b,e,l⟩:=Zjz (d:=1) (Zkd x) (by decide) (by decide) (by decide)
 exact ⟨b,e,l,fun sg=>(Zgs (Zvi x sg)).trans e⟩
theorem Z00o (s:LI) (x:Z0m) : ∃ b sg,Z75 x=some b/\b.length<=10000/\Z8n s x=some (⟨x.gSerial,x.gRides,x.gPrice,x.gAnchor,sg⟩:Z0m)/\Z0t (Za2 s) b sg=some true/\Byt sg/\sg.length=64:=by
 obtain ⟨b,hb,lb,_⟩:=Zvk x
 obtain ⟨sg,h1,h2,h3,h4,_⟩:=Zie s (m:=b) (by omega)
 refine ⟨b,sg,hb,lb,?_,h2,h3,h4⟩
 rw [Z8n,Z3 (show Zdj=some () from rfl),Z4k,Z3 (Z3 hb |>.trans (Z3 h1))]
theorem Zwd (r:Zp) (x:Z0m) {b:LI} (hb:Z75 x=some b) {v:Bool} (hv:Z0t r.gIssuer b x.gSig=some v):Z7h r x=some (Zf7 x&&v):=by
 obtain ⟨e,he⟩:=Zui x
 rw [Z7h,Z3 (show Zdj=some () from rfl)]
 refine Z3 ?_
 rw [Z45,Z3 he,Z3 (show Z5t r x=some (r.gIssuer,true) from rfl),Z20]
 cases Zf7 x
 ·rfl
 ·rw [Z1w (by rfl),Z3 hb,Z3 hv]; rfl
theorem Zwn (r:Zp) (s:LI) (x:Z0m) (hr:r.gIssuer=Za2 s) : ∃ y,Z8n s x=some y/\Z7h r y=some (Zf7 x):=by
 obtain ⟨b,hb,lb,hs⟩:=Zvk x
 obtain ⟨b',sg,hb',_,e,hv,_⟩:=Z00o s x
 obtain rfl:b=b':=Option.some.inj (hb.symm.trans hb')
 refine ⟨_,e,?_⟩
 rw [Zwd r _ (hs sg) (v:=true) (by rw [hr]; exact hv),Z02m,Bool.and_true]
theorem Znd (x:Z0d) : ∀ f∈Zgf,Zsp f x:=by
 intro f hf
 rcases List.mem_append.1 hf with hf | hf
 ·obtain ⟨g,hg,rfl⟩:=List.mem_map.1 hf
  exact Zuu (Zkd _ g hg)
 ·simp only [List.mem_cons,List.not_mem_nil,or_false] at hf
  subst hf
  exact Zc1 (by decide)
def Z90 (x:Z0d):Bool:=Z4a Zgf false x
theorem Zpa (x:Z0d) (sg:LI):Zfe Zgf (⟨x.gCert,sg⟩:Z0d) x:=Zfe.app (Zfe.inn rfl) fun f hf hs=>by
  simp only [List.mem_cons,List.not_mem_nil,or_false] at hf
  subst hf
  cases hs
theorem Zoy (x:Z0d) : ∀ f∈Zgf,f.sgn=false->f.may x=true:=by
 intro f hf hs
 rcases List.mem_append.1 hf with hf | hf
 ·obtain ⟨g,hg,rfl⟩:=List.mem_map.1 hf
  cases hs
 ·simp only [List.mem_cons,List.not_mem_nil,or_false] at hf
  subst hf
  rfl
theorem Zwu (x:Z0d) (sg:LI):Z90 (⟨x.gCert,sg⟩:Z0d)=Z90 x:=by
 unfold Z90
 rw [Zai (Zoy _),Zai (Zoy _),Zes (Zpa x sg)]
theorem Zow (x:Z0d) : ∃ b,Z7s x=some (b,bif Z90 x then 0 else 2):=Zjq (Znd x) (by decide) (by decide) (by decide)
theorem Zpd (x:Z0d) : ∃ b,Z53 x=some b/\b.length<=10000 /\ ∀ sg,Z53 (⟨x.gCert,sg⟩:Z0d)=some b:=by
 obtain ⟨b,e,l⟩:=Zjz (d:=4) (Znd x) (by decide) (by decide) (by decide)
 exact ⟨b,e,l,fun sg=>(Zgs (Zpa x sg)).trans e⟩
theorem Ztr (s:LI) (x:Z0d) : ∃ b sg,Z53 x=some b/\b.length<=10000/\Z6j s x=some (⟨x.gCert,sg⟩:Z0d)/\Z0t (Za2 s) b sg=some true/\Byt sg/\sg.length=64:=by
 obtain ⟨b,hb,lb,_⟩:=Zpd x
 obtain ⟨sg,h1,h2,h3,h4,_⟩:=Zie s (m:=b) (by omega)
 refine ⟨b,sg,hb,lb,?_,h2,h3,h4⟩
 rw [Z6j,Z3 (show Z9w=some () from rfl),Z3n,Z3 (Z3 hb |>.trans (Z3 h1))]
theorem Zr1 (r:Zp) (x:Z0d) {b:LI} (hb:Z53 x=some b) {v:Bool} (hv:Z0t r.gIssuer b x.gSig=some v):Z5g r x=some (Z90 x&&v):=by
 obtain ⟨e,he⟩:=Zow x
 rw [Z5g,Z3 (show Z9w=some () from rfl)]
 refine Z3 ?_
 rw [Z3a,Z3 he,Z3 (show Z4i r x=some (r.gIssuer,true) from rfl),Z20]
 cases Z90 x
 ·rfl
 ·rw [Z1w (by rfl),Z3 hb,Z3 hv]; rfl
theorem Zre (r:Zp) (s:LI) (x:Z0d) (hr:r.gIssuer=Za2 s) : ∃ y,Z6j s x=some y/\Z5g r y=some (Z90 x):=by
 obtain ⟨b,hb,lb,hs⟩:=Zpd x
 obtain ⟨b',sg,hb',_,e,hv,_⟩:=Ztr s x
 obtain rfl:b=b':=Option.some.inj (hb.symm.trans hb')
 refine ⟨_,e,?_⟩
 rw [Zr1 r _ (hs sg) (v:=true) (by rw [hr]; exact hv),Zwu,Bool.and_true]
theorem Zu5 (x:Z19) : ∀ f∈Zof,Zsp f x:=by
 intro f hf
 simp only [Zof,List.mem_cons,List.not_mem_nil,or_false] at hf
 rcases hf with rfl | rfl | rfl | rfl | rfl
 ·exact Zd8
 ·exact Zd8
 ·exact Zd8
 ·exact Zc1 (by decide)
 ·exact Zc1 (by decide)
def Zh6 (x:Z19):Bool:=Z4a Zof false x
theorem Z00k (x:Z19) (sg:LI):Zfe Zof (⟨x.gSerial,x.gGate,x.gIndex,x.gValue,sg⟩:Z19) x:=by
 intro f hf hs
 simp only [Zof,List.mem_cons,List.not_mem_nil,or_false] at hf
 rcases hf with rfl | rfl | rfl | rfl | rfl
 ·exact ⟨rfl,fun _=>rfl⟩
 ·exact ⟨rfl,fun _=>rfl⟩
 ·exact ⟨rfl,fun _=>rfl⟩
 ·exact ⟨rfl,fun _=>rfl⟩
 ·cases hs
theorem Zys (x:Z19) : ∀ f∈Zof,f.sgn=false->f.may x=true:=by
 intro f hf hs
 simp only [Zof,List.mem_cons,List.not_mem_nil,or_false] at hf
 rcases hf with rfl | rfl | rfl | rfl | rfl
 ·first | rfl | cases hs
 ·first | rfl | cases hs
 ·first | rfl | cases hs
 ·first | rfl | cases hs
 ·rfl
theorem Z079 (x:Z19) (sg:LI):Zh6 (⟨x.gSerial,x.gGate,x.gIndex,x.gValue,sg⟩:Z19)=Zh6 x:=by
 unfold Zh6
 rw [Zai (Zys _),Zai (Zys _),Zes (Z00k x sg)]
theorem Zyh (x:Z19) : ∃ b,Zau x=some (b,bif Zh6 x then 0 else 2):=Zjq (Zu5 x) (by decide) (by decide) (by decide)
theorem Z00m (x:Z19) : ∃ b,Za0 x=some b/\b.length<=10000 /\ ∀ sg,Za0 (⟨x.gSerial,x.gGate,x.gIndex,x.gValue,sg⟩:Z19)=some b:=by
 obtain ⟨b,e,l⟩:=Zjz (d:=5) (Zu5 x) (by decide) (by decide) (by decide)
 exact ⟨b,e,l,fun sg=>(Zgs (Z00k x sg)).trans e⟩
theorem Z02f (r:Zp) (x:Z19) (h:r.gGates.length<=1000):Zg2 r x=some (bif Zme x.gGate 1 (r.gGates.length:Int) then (r.gGates.getD (x.gGate-1).toNat k32,true) else (k32,false)):=by
 rw [Zg2,Z3 (Zo8 _ _ _)]
 cases hw:Zme x.gGate 1 (r.gGates.length:Int)
 ·rfl
 ·have h1:=Zso.1 hw
  rw [Z0v (by rfl),show IntKind.wrap .i64 (x.gGate-1)=x.gGate-1 from Zu (by omega) (by omega),Zm,Z0p (by simp [inB]; omega),Zm]
  rfl
theorem Z03o (s:LI) (x:Z19) : ∃ b sg,Za0 x=some b/\b.length<=10000/\Z9v s x=some (⟨x.gSerial,x.gGate,x.gIndex,x.gValue,sg⟩:Z19)/\Z0t (Za2 s) b sg=some true:=by
 obtain ⟨b,hb,lb,_⟩:=Z00m x
 obtain ⟨sg,h1,h2,_⟩:=Zie s (m:=b) (by omega)
 refine ⟨b,sg,hb,lb,?_,h2⟩
 rw [Z9v,Z3 (show Zg0=some () from rfl),Z59,Z3 (Z3 hb |>.trans (Z3 h1))]
theorem Zyr (r:Zp) (s:LI) (x:Z19) (h:r.gGates.length<=1000) (hr:Zme x.gGate 1 (r.gGates.length:Int)=true->r.gGates.getD (x.gGate-1).toNat k32=Za2 s) :
  ∃ y,Z9v s x=some y/\Zam r y=some (Zme x.gGate 1 (r.gGates.length:Int)&&Zh6 x):=by
 obtain ⟨b,hb,lb,hs⟩:=Z00m x
 obtain ⟨b',sg,hb',_,e,hv⟩:=Z03o s x
 obtain rfl:b=b':=Option.some.inj (hb.symm.trans hb')
 refine ⟨_,e,?_⟩
 obtain ⟨m,he⟩:=Zyh (⟨x.gSerial,x.gGate,x.gIndex,x.gValue,sg⟩:Z19)
 rw [Z079] at he
 rw [Zam,Z3 (show Zg0=some () from rfl)]
 refine Z3 ?_
 rw [Z4j,Z3 he,Z3 (Z02f r _ h),Z20]
 cases hw:Zme x.gGate 1 (r.gGates.length:Int)
 ·cases Zh6 x <;> rfl
 ·cases Zh6 x
  ·rfl
  ·rw [Z1w (by rfl),Z3 (hs sg)]
   dsimp only [cond_true]
   rw [hr hw,Z3 hv]
   rfl
theorem Zi6 (x:Zk) : ∀ f∈Z7u,Zsp f x:=by
 intro f hf
 rcases List.mem_append.1 hf with hf | hf
 ·obtain ⟨g,hg,rfl⟩:=List.mem_map.1 hf
  exact Zuu (Zkd _ g hg)
 ·simp only [List.mem_cons,List.not_mem_nil,or_false] at hf
  subst hf
  exact Zc1 (by decide)
def Z3k (x:Zk):Bool:=Z4a Z7u false x
theorem Zjl (x:Zk) (sg:LI):Zfe Z7u (⟨x.gCert,sg⟩:Zk) x:=Zfe.app (Zfe.inn rfl) fun f hf hs=>by
  simp only [List.mem_cons,List.not_mem_nil,or_false] at hf
  subst hf
  cases hs
theorem Zjg (x:Zk) : ∀ f∈Z7u,f.sgn=false->f.may x=true:=by
 intro f hf hs
 rcases List.mem_append.1 hf with hf | hf
 ·obtain ⟨g,hg,rfl⟩:=List.mem_map.1 hf
  cases hs
 ·simp only [List.mem_cons,List.not_mem_nil,or_false] at hf
  subst hf
  rfl
theorem Zoo (x:Zk) (sg:LI):Z3k (⟨x.gCert,sg⟩:Zk)=Z3k x:=by
 unfold Z3k
 rw [Zai (Zjg _),Zai (Zjg _),Zes (Zjl x sg)]
theorem Zje (x:Zk) : ∃ b,Z5a x=some (b,bif Z3k x then 0 else 2):=Zjq (Zi6 x) (by decide) (by decide) (by decide)
theorem Zjm (x:Zk) : ∃ b,Z2t x=some b/\b.length<=10000 /\ ∀ sg,Z2t (⟨x.gCert,sg⟩:Zk)=some b:=by
 obtain ⟨b,e,l⟩:=Zjz (d:=6) (Zi6 x) (by decide) (by decide) (by decide)
 exact ⟨b,e,l,fun sg=>(Zgs (Zjl x sg)).trans e⟩
theorem Znw (s:LI) (x:Zk) : ∃ b sg,Z2t x=some b/\b.length<=10000/\Z3h s x=some (⟨x.gCert,sg⟩:Zk)/\Z0t (Za2 s) b sg=some true/\Byt sg/\sg.length=64:=by
 obtain ⟨b,hb,lb,_⟩:=Zjm x
 obtain ⟨sg,h1,h2,h3,h4,_⟩:=Zie s (m:=b) (by omega)
 refine ⟨b,sg,hb,lb,?_,h2,h3,h4⟩
 rw [Z3h,Z3 (show Z5i=some () from rfl),Z2r,Z3 (Z3 hb |>.trans (Z3 h1))]
theorem Zm5 (r:Zp) (x:Zk) {b:LI} (hb:Z2t x=some b) {v:Bool} (hv:Z0t r.gIssuer b x.gSig=some v):Z37 r x=some (Z3k x&&v):=by
 obtain ⟨e,he⟩:=Zje x
 rw [Z37,Z3 (show Z5i=some () from rfl)]
 refine Z3 ?_
 rw [Z2h,Z3 he,Z3 (show Z32 r x=some (r.gIssuer,true) from rfl),Z20]
 cases Z3k x
 ·rfl
 ·rw [Z1w (by rfl),Z3 hb,Z3 hv]; rfl
theorem Zm7 (r:Zp) (s:LI) (x:Zk) (hr:r.gIssuer=Za2 s) : ∃ y,Z3h s x=some y/\Z37 r y=some (Z3k x):=by
 obtain ⟨b,hb,lb,hs⟩:=Zjm x
 obtain ⟨b',sg,hb',_,e,hv,_⟩:=Znw s x
 obtain rfl:b=b':=Option.some.inj (hb.symm.trans hb')
 refine ⟨_,e,?_⟩
 rw [Zm5 r _ (hs sg) (v:=true) (by rw [hr]; exact hv),Zoo,Bool.and_true]
theorem Zox (x:Z0c) : ∀ f∈Zf0,Zsp f x:=by
 intro f hf
 simp only [Zf0,List.mem_cons,List.not_mem_nil,or_false] at hf
 rcases hf with rfl | rfl
 ·exact Zd8
 ·exact Zc1 (by decide)
def Zah (x:Z0c):Bool:=Z4a Zf0 false x
theorem Zs5 (x:Z0c) (sg:LI):Zfe Zf0 (⟨x.gFloor,sg⟩:Z0c) x:=by
 intro f hf hs
 simp only [Zf0,List.mem_cons,List.not_mem_nil,or_false] at hf
 rcases hf with rfl | rfl
 ·exact ⟨rfl,fun _=>rfl⟩
 ·cases hs
theorem Zrf (x:Z0c) : ∀ f∈Zf0,f.sgn=false->f.may x=true:=by
 intro f hf hs
 simp only [Zf0,List.mem_cons,List.not_mem_nil,or_false] at hf
 rcases hf with rfl | rfl
 ·first | rfl | cases hs
 ·rfl
theorem Zza (x:Z0c) (sg:LI):Zah (⟨x.gFloor,sg⟩:Z0c)=Zah x:=by
 unfold Zah
 rw [Zai (Zrf _),Zai (Zrf _),Zes (Zs5 x sg)]
theorem Zr8 (x:Z0c) : ∃ b,Z8q x=some (b,bif Zah x then 0 else 2):=Zjq (Zox x) (by decide) (by decide) (by decide)
theorem Zs6 (x:Z0c) : ∃ b,Z66 x=some b/\b.length<=10000 /\ ∀ sg,Z66 (⟨x.gFloor,sg⟩:Z0c)=some b:=by
 obtain ⟨b,e,l⟩:=Zjz (d:=7) (Zox x) (by decide) (by decide) (by decide)
 exact ⟨b,e,l,fun sg=>(Zgs (Zs5 x sg)).trans e⟩
theorem Zx9 (s:LI) (x:Z0c) : ∃ b sg,Z66 x=some b/\b.length<=10000/\Z2m s x=some (⟨x.gFloor,sg⟩:Z0c)/\Z0t (Za2 s) b sg=some true/\Byt sg/\sg.length=64:=by
 obtain ⟨b,hb,lb,_⟩:=Zs6 x
 obtain ⟨sg,h1,h2,h3,h4,_⟩:=Zie s (m:=b) (by omega)
 refine ⟨b,sg,hb,lb,?_,h2,h3,h4⟩
 rw [Z2m,Z3 (show Zbm=some () from rfl),Z46,Z3 (Z3 hb |>.trans (Z3 h1))]
theorem Zsz (r:Zp) (x:Z0c) {b:LI} (hb:Z66 x=some b) {v:Bool} (hv:Z0t r.gIssuer b x.gSig=some v):Z22 r x=some (Zah x&&v):=by
 obtain ⟨e,he⟩:=Zr8 x
 rw [Z22,Z3 (show Zbm=some () from rfl)]
 refine Z3 ?_
 rw [Z3m,Z3 he,Z3 (show Z58 r x=some (r.gIssuer,true) from rfl),Z20]
 cases Zah x
 ·rfl
 ·rw [Z1w (by rfl),Z3 hb,Z3 hv]; rfl
theorem Znb (r:Zp) (s:LI) (x:Z0c) (hr:r.gIssuer=Za2 s) : ∃ y,Z2m s x=some y/\Z22 r y=some (Zah x):=by
 obtain ⟨b,hb,lb,hs⟩:=Zs6 x
 obtain ⟨b',sg,hb',_,e,hv,_⟩:=Zx9 s x
 obtain rfl:b=b':=Option.some.inj (hb.symm.trans hb')
 refine ⟨_,e,?_⟩
 rw [Zsz r _ (hs sg) (v:=true) (by rw [hr]; exact hv),Zza,Bool.and_true]
theorem Zm1 (x:Z02) : ∀ f∈Z8y,Zsp f x:=by
 intro f hf
 simp only [Z8y,List.mem_cons,List.not_mem_nil,or_false] at hf
 rcases hf with rfl | rfl | rfl | rfl
 ·exact Zd8
 ·exact Zd8
 ·exact Zuv
 ·exact Zc1 (by decide)
def Z7f (x:Z02):Bool:=Z4a Z8y false x
theorem Zns (x:Z02) (sg:LI):Zfe Z8y (⟨x.gSerial,x.gRides,x.gAmount,sg⟩:Z02) x:=by
 intro f hf hs
 simp only [Z8y,List.mem_cons,List.not_mem_nil,or_false] at hf
 rcases hf with rfl | rfl | rfl | rfl
 ·exact ⟨rfl,fun _=>rfl⟩
 ·exact ⟨rfl,fun _=>rfl⟩
 ·exact ⟨rfl,fun _=>rfl⟩
 ·cases hs
theorem Znc (x:Z02) : ∀ f∈Z8y,f.sgn=false->f.may x=true:=by
 intro f hf hs
 simp only [Z8y,List.mem_cons,List.not_mem_nil,or_false] at hf
 rcases hf with rfl | rfl | rfl | rfl
 ·first | rfl | cases hs
 ·first | rfl | cases hs
 ·first | rfl | cases hs
 ·rfl
theorem Ztg (x:Z02) (sg:LI):Z7f (⟨x.gSerial,x.gRides,x.gAmount,sg⟩:Z02)=Z7f x:=by
 unfold Z7f
 rw [Zai (Znc _),Zai (Znc _),Zes (Zns x sg)]
theorem Zna (x:Z02) : ∃ b,Z74 x=some (b,bif Z7f x then 0 else 2):=Zjq (Zm1 x) (by decide) (by decide) (by decide)
theorem Znt (x:Z02) : ∃ b,Z4e x=some b/\b.length<=10000 /\ ∀ sg,Z4e (⟨x.gSerial,x.gRides,x.gAmount,sg⟩:Z02)=some b:=by
 obtain ⟨b,e,l⟩:=Zjz (d:=8) (Zm1 x) (by decide) (by decide) (by decide)
 exact ⟨b,e,l,fun sg=>(Zgs (Zns x sg)).trans e⟩
theorem Zs7 (s:LI) (x:Z02) : ∃ b sg,Z4e x=some b/\b.length<=10000/\Z5h s x=some (⟨x.gSerial,x.gRides,x.gAmount,sg⟩:Z02)/\Z0t (Za2 s) b sg=some true/\Byt sg/\sg.length=64:=by
 obtain ⟨b,hb,lb,_⟩:=Znt x
 obtain ⟨sg,h1,h2,h3,h4,_⟩:=Zie s (m:=b) (by omega)
 refine ⟨b,sg,hb,lb,?_,h2,h3,h4⟩
 rw [Z5h,Z3 (show Z8p=some () from rfl),Z3b,Z3 (Z3 hb |>.trans (Z3 h1))]
theorem Zpw (r:Zp) (x:Z02) {b:LI} (hb:Z4e x=some b) {v:Bool} (hv:Z0t r.gIssuer b x.gSig=some v):Z4s r x=some (Z7f x&&v):=by
 obtain ⟨e,he⟩:=Zna x
 rw [Z4s,Z3 (show Z8p=some () from rfl)]
 refine Z3 ?_
 rw [Z33,Z3 he,Z3 (show Z44 r x=some (r.gIssuer,true) from rfl),Z20]
 cases Z7f x
 ·rfl
 ·rw [Z1w (by rfl),Z3 hb,Z3 hv]; rfl
theorem Zq0 (r:Zp) (s:LI) (x:Z02) (hr:r.gIssuer=Za2 s) : ∃ y,Z5h s x=some y/\Z4s r y=some (Z7f x):=by
 obtain ⟨b,hb,lb,hs⟩:=Znt x
 obtain ⟨b',sg,hb',_,e,hv,_⟩:=Zs7 s x
 obtain rfl:b=b':=Option.some.inj (hb.symm.trans hb')
 refine ⟨_,e,?_⟩
 rw [Zpw r _ (hs sg) (v:=true) (by rw [hr]; exact hv),Ztg,Bool.and_true]
theorem Zrg (x:Z0u) : ∀ f∈Zjc,Zsp f x:=by
 intro f hf
 simp only [Zjc,List.mem_cons,List.not_mem_nil,or_false] at hf
 rcases hf with rfl | rfl | rfl
 ·exact Zd8
 ·exact Zc1 (by decide)
 ·exact Zc1 (by decide)
def Zf8 (x:Z0u):Bool:=Z4a Zjc false x
theorem Zvj (x:Z0u) (sg:LI):Zfe Zjc (⟨x.gSize,x.gRoot,sg⟩:Z0u) x:=by
 intro f hf hs
 simp only [Zjc,List.mem_cons,List.not_mem_nil,or_false] at hf
 rcases hf with rfl | rfl | rfl
 ·exact ⟨rfl,fun _=>rfl⟩
 ·exact ⟨rfl,fun _=>rfl⟩
 ·cases hs
theorem Zum (x:Z0u) : ∀ f∈Zjc,f.sgn=false->f.may x=true:=by
 intro f hf hs
 simp only [Zjc,List.mem_cons,List.not_mem_nil,or_false] at hf
 rcases hf with rfl | rfl | rfl
 ·first | rfl | cases hs
 ·first | rfl | cases hs
 ·rfl
theorem Z02n (x:Z0u) (sg:LI):Zf8 (⟨x.gSize,x.gRoot,sg⟩:Z0u)=Zf8 x:=by
 unfold Zf8
 rw [Zai (Zum _),Zai (Zum _),Zes (Zvj x sg)]
theorem Zuj (x:Z0u) : ∃ b,Z9a x=some (b,bif Zf8 x then 0 else 2):=Zjq (Zrg x) (by decide) (by decide) (by decide)
theorem Zvl (x:Z0u) : ∃ b,Z76 x=some b/\b.length<=10000 /\ ∀ sg,Z76 (⟨x.gSize,x.gRoot,sg⟩:Z0u)=some b:=by
 obtain ⟨b,e,l⟩:=Zjz (d:=10) (Zrg x) (by decide) (by decide) (by decide)
 exact ⟨b,e,l,fun sg=>(Zgs (Zvj x sg)).trans e⟩
theorem Z00p (s:LI) (x:Z0u) : ∃ b sg,Z76 x=some b/\b.length<=10000/\Z8o s x=some (⟨x.gSize,x.gRoot,sg⟩:Z0u)/\Z0t (Za2 s) b sg=some true/\Byt sg/\sg.length=64:=by
 obtain ⟨b,hb,lb,_⟩:=Zvl x
 obtain ⟨sg,h1,h2,h3,h4,_⟩:=Zie s (m:=b) (by omega)
 refine ⟨b,sg,hb,lb,?_,h2,h3,h4⟩
 rw [Z8o,Z3 (show Zdk=some () from rfl),Z4l,Z3 (Z3 hb |>.trans (Z3 h1))]
theorem Zwe (r:Zp) (x:Z0u) {b:LI} (hb:Z76 x=some b) {v:Bool} (hv:Z0t r.gIssuer b x.gSig=some v):Z7i r x=some (Zf8 x&&v):=by
 obtain ⟨e,he⟩:=Zuj x
 rw [Z7i,Z3 (show Zdk=some () from rfl)]
 refine Z3 ?_
 rw [Z47,Z3 he,Z3 (show Z5u r x=some (r.gIssuer,true) from rfl),Z20]
 cases Zf8 x
 ·rfl
 ·rw [Z1w (by rfl),Z3 hb,Z3 hv]; rfl
theorem Zwo (r:Zp) (s:LI) (x:Z0u) (hr:r.gIssuer=Za2 s) : ∃ y,Z8o s x=some y/\Z7i r y=some (Zf8 x):=by
 obtain ⟨b,hb,lb,hs⟩:=Zvl x
 obtain ⟨b',sg,hb',_,e,hv,_⟩:=Z00p s x
 obtain rfl:b=b':=Option.some.inj (hb.symm.trans hb')
 refine ⟨_,e,?_⟩
 rw [Zwe r _ (hs sg) (v:=true) (by rw [hr]; exact hv),Z02n,Bool.and_true]
theorem Zjp (m:Bool):((bif m then (0:Int) else 2)==0)=m:=by cases m <;> rfl
theorem Zx3 {x:Z07} (hk:x.gKind=1):Zl x=some (Zf7 x.gCert):=by
 obtain ⟨b,e⟩:=Zui x.gCert
 rw [Zl,Z20,Z1w (by rw [hk]; rfl),Z3 e]
 show some ((bif Zf7 x.gCert then (0:Int) else 2)==0)=_
 rw [Zjp]
theorem Z02c {r:Zp} {s:LI} {x:Z07} (hk:x.gKind=1) (hr:r.gIssuer=Za2 s):Zz r s x=some (Zf7 x.gCert):=by
 obtain ⟨y,e1,e2⟩:=Zwn r s x.gCert hr
 rw [Zz,Z1w (by rw [hk]; rfl),Z3 e1,Z3 e2]
theorem Zry {x:Z07} (hk:x.gKind=2):Zl x=some (Z90 x.gFreeze):=by
 obtain ⟨b,e⟩:=Zow x.gFreeze
 rw [Zl,Z20,Z0v (by rw [hk]; rfl),Z1w (by rw [hk]; rfl),Z3 e]
 show some ((bif Z90 x.gFreeze then (0:Int) else 2)==0)=_
 rw [Zjp]
theorem Zwl {r:Zp} {s:LI} {x:Z07} (hk:x.gKind=2) (hr:r.gIssuer=Za2 s):Zz r s x=some (Z90 x.gFreeze):=by
 obtain ⟨y,e1,e2⟩:=Zre r s x.gFreeze hr
 rw [Zz,Z0v (by rw [hk]; rfl),Z1w (by rw [hk]; rfl),Z3 e1,Z3 e2]
theorem Zrx {x:Z07} (hk:x.gKind=3):Zl x=some (Zh6 x.gAck):=by
 obtain ⟨b,e⟩:=Zyh x.gAck
 rw [Zl,Z20,Z0v (by rw [hk]; rfl),Z0v (by rw [hk]; rfl),Z1w (by rw [hk]; rfl),Z3 e]
 show some ((bif Zh6 x.gAck then (0:Int) else 2)==0)=_
 rw [Zjp]
theorem Zyp {r:Zp} {s:LI} {x:Z07} (hk:x.gKind=3) (h:r.gGates.length<=1000) (hr:Zme x.gAck.gGate 1 (r.gGates.length:Int)=true->r.gGates.getD (x.gAck.gGate-1).toNat k32=Za2 s) :
  Zz r s x=some (Zme x.gAck.gGate 1 (r.gGates.length:Int)&&Zh6 x.gAck):=by
 obtain ⟨y,e1,e2⟩:=Zyr r s x.gAck h hr
 rw [Zz,Z0v (by rw [hk]; rfl),Z0v (by rw [hk]; rfl),Z1w (by rw [hk]; rfl),Z3 e1,Z3 e2]
theorem Zmb {x:Z07} (hk:x.gKind=4):Zl x=some (Z3k x.gRevocation):=by
 obtain ⟨b,e⟩:=Zje x.gRevocation
 rw [Zl,Z20,Z0v (by rw [hk]; rfl),Z0v (by rw [hk]; rfl),Z0v (by rw [hk]; rfl),Z1w (by rw [hk]; rfl),Z3 e]
 show some ((bif Z3k x.gRevocation then (0:Int) else 2)==0)=_
 rw [Zjp]
theorem Zok {r:Zp} {s:LI} {x:Z07} (hk:x.gKind=4) (hr:r.gIssuer=Za2 s):Zz r s x=some (Z3k x.gRevocation):=by
 obtain ⟨y,e1,e2⟩:=Zm7 r s x.gRevocation hr
 rw [Zz,Z0v (by rw [hk]; rfl),Z0v (by rw [hk]; rfl),Z0v (by rw [hk]; rfl),Z1w (by rw [hk]; rfl),Z3 e1,Z3 e2]
theorem Ztn {x:Z07} (hk:x.gKind=5):Zl x=some (Zah x.gFloor):=by
 obtain ⟨b,e⟩:=Zr8 x.gFloor
 rw [Zl,Z20,Z0v (by rw [hk]; rfl),Z0v (by rw [hk]; rfl),Z0v (by rw [hk]; rfl),Z0v (by rw [hk]; rfl),Z1w (by rw [hk]; rfl),Z3 e]
 show some ((bif Zah x.gFloor then (0:Int) else 2)==0)=_
 rw [Zjp]
theorem Zyq {r:Zp} {s:LI} {x:Z07} (hk:x.gKind=5) (hr:r.gIssuer=Za2 s):Zz r s x=some (Zah x.gFloor):=by
 obtain ⟨y,e1,e2⟩:=Znb r s x.gFloor hr
 rw [Zz,Z0v (by rw [hk]; rfl),Z0v (by rw [hk]; rfl),Z0v (by rw [hk]; rfl),Z0v (by rw [hk]; rfl),Z1w (by rw [hk]; rfl),Z3 e1,Z3 e2]
theorem Zqd {x:Z07} (hk:x.gKind=6):Zl x=some (Z7f x.gReceipt):=by
 obtain ⟨b,e⟩:=Zna x.gReceipt
 rw [Zl,Z20,Z0v (by rw [hk]; rfl),Z0v (by rw [hk]; rfl),Z0v (by rw [hk]; rfl),Z0v (by rw [hk]; rfl),Z0v (by rw [hk]; rfl),Z1w (by rw [hk]; rfl),Z3 e]
 show some ((bif Z7f x.gReceipt then (0:Int) else 2)==0)=_
 rw [Zjp]
theorem Zt9 {r:Zp} {s:LI} {x:Z07} (hk:x.gKind=6) (hr:r.gIssuer=Za2 s):Zz r s x=some (Z7f x.gReceipt):=by
 obtain ⟨y,e1,e2⟩:=Zq0 r s x.gReceipt hr
 rw [Zz,Z0v (by rw [hk]; rfl),Z0v (by rw [hk]; rfl),Z0v (by rw [hk]; rfl),Z0v (by rw [hk]; rfl),Z0v (by rw [hk]; rfl),Z1w (by rw [hk]; rfl),Z3 e1,Z3 e2]
theorem Zx4 {x:Z07} (hk:x.gKind=7):Zl x=some (Zf8 x.gHead):=by
 obtain ⟨b,e⟩:=Zuj x.gHead
 rw [Zl,Z20,Z0v (by rw [hk]; rfl),Z0v (by rw [hk]; rfl),Z0v (by rw [hk]; rfl),Z0v (by rw [hk]; rfl),Z0v (by rw [hk]; rfl),Z0v (by rw [hk]; rfl),Z1w (by rw [hk]; rfl),Z3 e]
 show some ((bif Zf8 x.gHead then (0:Int) else 2)==0)=_
 rw [Zjp]
theorem Z02d {r:Zp} {s:LI} {x:Z07} (hk:x.gKind=7) (hr:r.gIssuer=Za2 s):Zz r s x=some (Zf8 x.gHead):=by
 obtain ⟨y,e1,e2⟩:=Zwo r s x.gHead hr
 rw [Zz,Z0v (by rw [hk]; rfl),Z0v (by rw [hk]; rfl),Z0v (by rw [hk]; rfl),Z0v (by rw [hk]; rfl),Z0v (by rw [hk]; rfl),Z0v (by rw [hk]; rfl),Z1w (by rw [hk]; rfl),Z3 e1,Z3 e2]
theorem Zwm {r:Zp} {s:LI} {x:Z07} (h1:1<=x.gKind) (h7:x.gKind<=7) (h3:x.gKind≠3) (hr:r.gIssuer=Za2 s) : ∃ m,Zz r s x=some m/\Zl x=some m:=by
 have:x.gKind=1∨x.gKind=2∨x.gKind=4∨x.gKind=5∨x.gKind=6∨x.gKind=7:=by omega
 rcases this with hk | hk | hk | hk | hk | hk
 ·exact ⟨_,Z02c hk hr,Zx3 hk⟩
 ·exact ⟨_,Zwl hk hr,Zry hk⟩
 ·exact ⟨_,Zok hk hr,Zmb hk⟩
 ·exact ⟨_,Zyq hk hr,Ztn hk⟩
 ·exact ⟨_,Zt9 hk hr,Zqd hk⟩
 ·exact ⟨_,Z02d hk hr,Zx4 hk⟩
theorem Zkn {c:Z0s} (h:Zwy c=true):Zji c=(⟨Zju c 0,Z6u c c.gGates.toNat⟩,0):=by unfold Zji; rw [h]; rfl
theorem Z00f {c:Z0s} (h:Zwy c=false):Zji c=(⟨k32,[]⟩,4):=by unfold Zji; rw [h]; rfl
theorem Z02h {c:Z0s} {n i:Nat} (h:i<n):(Z6u c n).getD i k32=Za2 (drv c.gSecret ((i+1:Nat):Int)):=by
 unfold Z6u
 rw [List.getD_eq_getElem?_getD,List.getElem?_map,List.getElem?_range h,Option.map_some,Option.getD_some,Zju]
theorem Z018 {a:Int} {b:Int} {o:Option Z0c} {z y:Z0c} {R:Zp} (h0:(a==0)=true) (hl:(b==2)=true) (e6:o.isSome=true) (e5:o.getD z=y) (e4:Z22 R y=some true) :
  (chk (imp (((a==0)&&true)&&(b==2)) ((o.isSome&&(Z22 R (o.getD z)).isSome)))<|some ((((a==0)&&true)&&(b==2))&&((Z22 R (o.getD z)).getD false)))=some true:=by
 rw [h0,hl,e6,e5,e4]
 rfl
theorem Z047:Z1s=some true:=by
 obtain ⟨c,hc⟩ : ∃ c:Z0s,c=⟨2,1,4,4096,9,List.replicate 32 0⟩:=⟨_,rfl⟩
 have hs:Z7o=some c:=by rw [hc]; rfl
 have ok:Zwy c=true:=by rw [hc]; rfl
 have l:c.gSecret.length=32:=by rw [hc]; rfl
 have hg:c.gGates=2:=by rw [hc]
 have e1:Ze4 c=some (Zji c):=Z0g6 l
 have e2:Z91 c 0=some (drv c.gSecret 0,true):=by rw [Z087 l,Znx ok (by omega) (by omega)]
 obtain ⟨y,e3,e4⟩:=Znb (Zji c).1 (drv c.gSecret 0) ⟨4,List.replicate 64 0⟩ (by rw [Zkn ok]; rfl)
 have em:Zah ⟨4,List.replicate 64 0⟩=true:=rfl
 rw [em] at e4
 rw [Z1s,Z3 hs,Z3 e1,Z3 e2]
 have hl:(((Zji c).1.gGates.length:Int)==2)=true:=by
  rw [Zkn ok]
  show (((Z6u c c.gGates.toNat).length:Int)==2)=true
  rw [Zld,hg]; rfl
 have h0:((Zji c).2==0)=true:=by rw [Zkn ok]; rfl
 have e5:(Z2m (drv c.gSecret 0) (⟨4,List.replicate 64 0⟩:Z0c)).getD Zgg=y:=by rw [e3,Option.getD_some]
 have e6:(Z2m (drv c.gSecret 0) (⟨4,List.replicate 64 0⟩:Z0c)).isSome=true:=by rw [e3,Option.isSome_some]
 exact Z018 h0 hl e6 e5 e4
theorem ringHolds_eq {c:Z0s} (l:c.gSecret.length=32) (x:Z07):Z57 c x=some true:=by
 rw [Z57,Z3 (Z0g6 l)]
 have hw:=Z047
 cases ok:Zwy c
 ·rw [Z00f ok,Z1w (by rfl),Z3 (Zv5 c),ok]
  simp only [hw,Option.isSome_some,Option.getD_some]
  rfl
 ·have hc:=Zuy ok
  rw [Zkn ok]
  by_cases hk:1<=x.gKind/\x.gKind<=7
  ·rw [Z0v (by simp; omega),Z20]
   have fin : ∀ (i:Int) (t m:Bool),0<=i->i<=c.gGates->Zz ⟨Zju c 0,Z6u c c.gGates.toNat⟩ (drv c.gSecret i) x=some (t&&m)->Zl x=some m ->
     (opt (Z91 c i) fun y36=>chk (imp y36.2 (((Zz ⟨Zju c 0,Z6u c c.gGates.toNat⟩ y36.1 x).isSome&&imp t ((Zl x).isSome)))) <|
      chk (imp (y36.2&&(((Zz ⟨Zju c 0,Z6u c c.gGates.toNat⟩ y36.1 x).getD false)==(t&&((Zl x).getD false)))) ((Z1s).isSome)) <|
      some ((y36.2&&(((Zz ⟨Zju c 0,Z6u c c.gGates.toNat⟩ y36.1 x).getD false)==(t&&((Zl x).getD false))))&&((Z1s).getD false)))=some true:=by
    intro i t m h0 h1 hf hm
    rw [Z3 (by rw [Z087 l,Znx ok h0 h1])]
    dsimp only
    simp only [hf,hm,hw,Option.isSome_some,Option.getD_some]
    cases t <;> cases m <;> rfl
   by_cases h3:x.gKind=3
   ·rw [Z1w (by rw [h3]; rfl)]
    have hlen:(Z6u c c.gGates.toNat).length=c.gGates.toNat:=Zld _ _
    have hlI:((Z6u c c.gGates.toNat).length:Int)=c.gGates:=by rw [hlen]; omega
    have hin:((decide (x.gAck.gGate≥1))&&(decide (x.gAck.gGate<=c.gGates)))=Zme x.gAck.gGate 1 ((Z6u c c.gGates.toNat).length:Int):=by rw [hlI]; rfl
    cases hg:(decide (x.gAck.gGate≥1))&&(decide (x.gAck.gGate<=c.gGates))
    ·rw [Z1w (by rfl)]
     refine fin 0 false (Zh6 x.gAck) (Int.le_refl _) (by omega) ?_ (Zrx h3)
     rw [Zyp h3 (by rw [hlen]; omega) (fun h=>by rw [<- hin,hg] at h; cases h)]
     show some (Zme x.gAck.gGate 1 ((Z6u c c.gGates.toNat).length:Int)&&_)=_
     rw [<- hin,hg]
    ·rw [Z0v (by rfl)]
     have hg2:1<=x.gAck.gGate/\x.gAck.gGate<=c.gGates:=by simpa using hg
     refine fin x.gAck.gGate true (Zh6 x.gAck) (by omega) hg2.2 ?_ (Zrx h3)
     rw [Zyp h3 (by rw [hlen]; omega) (fun _=>?_)]
     ·show some (Zme x.gAck.gGate 1 ((Z6u c c.gGates.toNat).length:Int)&&_)=_
      rw [<- hin,hg]
     ·show (Z6u c c.gGates.toNat).getD (x.gAck.gGate-1).toNat k32=_
      rw [Z02h (by omega)]
      congr 2
      omega
   ·rw [Z0v (by simpa using h3)]
    obtain ⟨m,e1,e2⟩:=Zwm (r:=⟨Zju c 0,Z6u c c.gGates.toNat⟩) (s:=drv c.gSecret 0) hk.1 hk.2 h3 rfl
    exact fin 0 true m (Int.le_refl _) (by omega) (by rw [e1]; rfl) e2
  ·rw [Z1w (by simp; omega),Z3 (Zv5 c),ok]
   simp only [hw,Option.isSome_some,Option.getD_some]
   rfl
end Go.Proofs.YteefpkhngighgaaGreatDoor
namespace Go.Sx
open Go Go.RowKit
set_option linter.all false
end Go.Sx
namespace Go.Sx
open Go Go.RowKit Go.ChangeShapes
set_option linter.all false
def rowL (P:Program) (w:World):List TypeId->List Value->Bool
  | [],[]=>true
  | t::ts,v::vs=>Cell.okWideB P w t v&&rowL P w ts vs
  | _,_=>false
theorem Zs2 {P:Program} {w:World} {base:Nat} : ∀ {ts:List TypeId} {vs:List Value},rowL P w ts vs=true->ts.length=vs.length /\ ∀ (i:Nat) v,vs[i]? = some v->∃ u,ts[i]? = some u/\Cell.okWide P w .any base u v
  | [],[],_=>⟨rfl,fun i v h=>by simp at h⟩
  | t::ts,v::vs,h=>by
    simp only [rowL,Bool.and_eq_true] at h
    obtain ⟨h1,h2⟩:=Zs2 (base:=base) h.2
    refine ⟨by simp [h1],fun i x hx=>?_⟩
    cases i with
    | zero => obtain rfl : v = x := by simpa using hx
              exact ⟨t,rfl,Cell.okWide_of_okWideB h.1⟩
    | succ i=>exact h2 i x (by simpa using hx)
  | [],_::_,h=>by simp [rowL] at h
  | _::_,[],h=>by simp [rowL] at h
def Z00h (P:Program) (w:World) (t:TypeId) (cs:Array Value):Bool:=match P.cellTypes P.depth t with
  | some ts=>rowL P w ts cs.toList
  | none=>false
theorem Zvg {P:Program} {w:World} {base:Nat} {t:TypeId} {cs:Array Value} (h:Z00h P w t cs=true):Row.okWide P w .any base t cs:=by
  unfold Z00h at h
  split at h
  · rename_i ts hts
    obtain ⟨h1,h2⟩:=Zs2 (base:=base) h
    refine ⟨ts,hts,⟨1,by rw [h1]; simp⟩,fun i v hv=>?_⟩
    have hi:i<cs.size:=(Array.getElem?_eq_some_iff.1 hv).1
    obtain ⟨u,hu,ho⟩:=h2 i v (by rw [<- hv]; simp)
    exact ⟨u,by rw [Nat.mod_eq_of_lt (by rw [h1]; simpa using hi)]; exact hu,ho⟩
  · cases h
def valL (P:Program) (w:World) (t:TypeId) (v:Value):Bool:=match P.underlying t with
  | some (.struct _) | some (.array _ _)=>match v with
    | .agg cs=>cs.size==P.cellsOf t&&Z00h P w t cs
    | _=>false
  | _=>Cell.okWideB P w t v
theorem Z043 {P:Program} {w:World} {base:Nat} {t:TypeId} {v:Value} (h:valL P w t v=true):Value.okWide P w .any base t v:=by
  unfold valL at h
  unfold Value.okWide
  split at h
  · rename_i fs hu
    simp only [hu]
    cases v <;> simp at h
    exact ⟨_,rfl,h.1,Zvg h.2⟩
  · rename_i n e hu
    simp only [hu]
    cases v <;> simp at h
    exact ⟨_,rfl,h.1,Zvg h.2⟩
  · rename_i h1 h2
    split
    · rename_i fs hu; exact absurd hu (h1 fs)
    · rename_i n e hu; exact absurd hu (h2 n e)
    · exact Cell.okWide_of_okWideB h
def Zsu (P:Program) (w:World):List TypeId->List Value->Bool
  | [],[]=>true
  | t::ts,v::vs=>valL P w t v&&Zsu P w ts vs
  | _,_=>false
theorem Zot {P:Program} {w:World} {base:Nat} : ∀ {ts:List TypeId} {vs:List Value},Zsu P w ts vs=true->vs.length=ts.length /\ ∀ (j:Nat) t v,ts[j]? = some t->vs[j]? = some v->Value.okWide P w .any base t v
  | [],[],_=>⟨rfl,fun j t v h=>by simp at h⟩
  | t::ts,v::vs,h=>by
    simp only [Zsu,Bool.and_eq_true] at h
    obtain ⟨h1,h2⟩:=Zot (base:=base) h.2
    refine ⟨by simp [h1],fun j u x hu hx=>?_⟩
    cases j with
    | zero => obtain rfl : t = u := by simpa using hu
              obtain rfl:v=x:=by simpa using hx
              exact Z043 h.1
    | succ j=>exact h2 j u x (by simpa using hu) (by simpa using hx)
  | [],_::_,h=>by simp [Zsu] at h
  | _::_,[],h=>by simp [Zsu] at h
theorem Z073 {P:Program} {w:World} {base:Nat} {f:FuncId} {fn:Func} {args:Array Value} (hi:P.inits.idxOf? f=none) (hfn:P.funcs[f]? = some fn) (hb:fn.body.isSome=true) (ho:fn.ours=false) (hf:fn.nfree=0)
    (h:Zsu P w fn.params.toList args.toList=true):Input.okWide P w .any base f ⟨#[],args,[]⟩:=by
  obtain ⟨h1,h2⟩:=Zot (base:=base) h
  refine ⟨fun o ho=>by simp at ho,fun gv hg=>by simp at hg,hi,fn,hfn,hb,ho,hf,by simpa using h1,fun j t v ht hv=>h2 j t v ?_ ?_⟩
  · simpa using ht
  · simpa using hv
section
variable {H:Type} {enc:TypeId×Value->H}
theorem witness_L {C:Checked} {os:Os} {f:FuncId} {fn:Func} {s:ChangeSpec} {conds:List PathCond} {apart:Bool} {X:World->Array Value->Prop} (w0:World) (args:Array Value) (fuel:Nat) (hos:w0.os=os)
    (hv:(w0.forCall (fun _ _=>0) ⟨#[],args,[]⟩).variablesB C.prog=true)
    (hr:((w0.forCall (fun _ _=>0) ⟨#[],args,[]⟩).heap.toList.drop C.prog.globals.size).take ((begin C.prog (fun _ _=>0) default).world.heap.size-C.prog.globals.size) =
      (begin C.prog (fun _ _=>0) default).world.heap.toList.drop C.prog.globals.size)
    (hi:C.prog.inits.idxOf? f=none) (hfn:C.prog.funcs[f]? = some fn) (hb:fn.body.isSome=true) (ho:fn.ours=false) (hf:fn.nfree=0) (hok:Zsu C.prog (w0.forCall (fun _ _=>0) ⟨#[],args,[]⟩) fn.params.toList args.toList=true)
    (hpre:s.preB enc C.prog fn conds apart (w0.forCall (fun _ _=>0) ⟨#[],args,[]⟩).memory args fuel=true)
    (hsz:s.sizedB enc C.prog fn apart (w0.forCall (fun _ _=>0) ⟨#[],args,[]⟩).memory args fuel=true)
    (hx:X (w0.forCall (fun _ _=>0) ⟨#[],args,[]⟩).memory args) :
    ∃ (w:World) (tape:Tape) (i:Input),w.os=os/\(w.forCall tape i).Shaped C.prog/\i.vars = []/\Input.okWide C.prog (w.forCall tape i) .any w.heap.size f i /\
      ((s.pre enc C.prog fn conds apart (w.forCall tape i).memory i.args/\X (w.forCall tape i).memory i.args)/\sizedMet enc C.prog fn (OpenSpec.ofChange s) apart (w.forCall tape i).memory i.args)/\({}:Assume).holds C.prog (lone (Frame.enter C.prog f i.args .normal) [] (w.forCall tape i)) :=
  ⟨w0,fun _ _=>0,⟨#[],args,[]⟩,hos,World.shaped_of_B hv hr,rfl,Z073 hi hfn hb ho hf hok,⟨⟨ChangeSpec.pre_of_preB hpre,hx⟩,sizedMet_of_sizedB hsz⟩,by
    simp only [Assume.holds]
    exact ⟨by simp,by simp,fun h=>by simp at h,by simp,by simp⟩⟩
end
abbrev Zyl (P:Program) (fn:Func) (s:ChangeSpec) (c:OpenClaim):Bool:=c.wf (OpenSpec.ofChange s)&&laidOutB P&&mapsRowed P&&fn.params.all (P.readableRec ·)&&namedTie P c.named s.vars
abbrev Z06l (P:Program) (c:OpenClaim):Bool:=(c.stops == [])&&(P.stops == [])&&(c.knobs == [])&&(P.stopKnobs == [])
abbrev Z06m (P:Program) (f:FuncId) (c:OpenClaim):Bool:=c.inPlace==P.inPlace f
abbrev Z06n (P:Program) (f:FuncId) (c:OpenClaim):Bool:=c.unfollowed==P.unfollowed f
abbrev Z06o (P:Program) (f:FuncId) (c:OpenClaim):Bool:=c.recurses==P.recurses f
abbrev Z06p (P:Program) (f:FuncId) (c:OpenClaim):Bool:=c.named==P.varsNamed f
abbrev Z06q (P:Program) (fn:Func) (s:ChangeSpec) (c:OpenClaim):Bool :=
  (c.maps==(fn.params.toList++s.plain.varTypes P).any (P.mapsRec ·))&&(c.ifaces==(fn.params.toList++s.plain.varTypes P).any (P.ifacesRec ·))&&(c.mapsOut==P.mapsAmong fn.resultTypes.toList) &&
  (c.loops==(fn.params.toList++s.plain.varTypes P).any (P.loopsFrom ·))&&(c.wideKeys==(fn.params.toList++s.plain.varTypes P++fn.resultTypes.toList).any (P.wideKeysFrom ·))
abbrev Z06r (P:Program) (c:OpenClaim):Bool:=(c.plainKeys==P.plainKeys)&&c.shortTexts.isNone&&P.stopsHeard&&P.mayEnter
abbrev Z06s (P:Program) (c:OpenClaim):Bool:=(c.lifted==P.liftsFinal)&&(P.make==some c.make)&&(c.pinned==c.pinnedBy)
abbrev Z06t (P:Program) (fn:Func) (s:ChangeSpec) (c:OpenClaim):Bool :=
  s.vars.all (P.varReadable ·)&&fn.resultTypes.all (fun t=>P.readableRec t&&decide (t<P.types.size))&&(c.ifacesOut==fn.resultTypes.toList.any (P.ifacesRec ·))&&(c.loopsOut==fn.resultTypes.toList.any (P.loopsFrom ·)) &&
  (c.kinds==(if c.domain.isEmpty then [] else fn.params.toList.map fun t=>match P.underlying t with | some (.int k)=>some k | _=>none)) &&
  (c.veiled==(fn.params.toList++s.plain.varTypes P++fn.resultTypes.toList).any (P.veiledRec ·))&&c.veiledFits P fn.params.toList (fn.params.toList++s.plain.varTypes P++fn.resultTypes.toList)
theorem facts_of {P:Program} {f:FuncId} {fn:Func} {s:ChangeSpec} {c:OpenClaim} (a:Zyl P fn s c=true) (b:Z06l P c=true) (hc:Z06m P f c=true) (d:Z06n P f c=true) (e:Z06o P f c=true) (hf:Z06p P f c=true)
    (g:Z06q P fn s c=true) (h:Z06r P c=true) (i:Z06s P c=true) (k:Z06t P fn s c=true):joinedFacts P f fn s c=true:=by
  unfold joinedFacts
  simp only [Zyl,Z06l,Z06m,Z06n,Z06o,Z06p,Z06q,Z06r,Z06s,Z06t,Bool.and_eq_true] at a b hc d e hf g h i k ⊢
  obtain ⟨⟨⟨⟨a1,a2⟩,a3⟩,a4⟩,a5⟩:=a
  obtain ⟨⟨⟨b1,b2⟩,b3⟩,b4⟩:=b
  obtain ⟨⟨⟨⟨g1,g2⟩,g3⟩,g4⟩,g5⟩:=g
  obtain ⟨⟨⟨h1,h2⟩,h3⟩,h4⟩:=h
  obtain ⟨⟨i1,i2⟩,i3⟩:=i
  obtain ⟨⟨⟨⟨⟨⟨k1,k2⟩,k3⟩,k4⟩,k5⟩,k6⟩,k7⟩:=k
  repeat' apply And.intro
  all_goals assumption
theorem laid_of {P:Program} {fn:Func} {s:ChangeSpec} {c:OpenClaim} (a:Zyl P fn s c=true):laidOutB P=true:=by
  simp only [Zyl,Bool.and_eq_true] at a
  exact a.1.1.1.2
end Go.Sx
namespace Go.Proofs.YteefpkhngighgaaGreatDoor
open Go Go.Sx Go.RowKit
set_option linter.all false
set_option maxRecDepth 100000
theorem ringHolds_fA:Zyl Tryz.prog Tryz.f3 Rows.ringHoldsSpec Rows.ringHoldsRow=true:=by kernel_rfl
theorem ringHolds_fB:Z06l Tryz.prog Rows.ringHoldsRow=true:=by kernel_rfl
theorem ringHolds_fC:Z06m Tryz.prog 3 Rows.ringHoldsRow=true:=by kernel_rfl
theorem ringHolds_fD:Z06n Tryz.prog 3 Rows.ringHoldsRow=true:=by kernel_rfl
theorem ringHolds_fE:Z06o Tryz.prog 3 Rows.ringHoldsRow=true:=by kernel_rfl
theorem ringHolds_fF:Z06p Tryz.prog 3 Rows.ringHoldsRow=true:=by kernel_rfl
theorem ringHolds_fG:Z06q Tryz.prog Tryz.f3 Rows.ringHoldsSpec Rows.ringHoldsRow=true:=by kernel_rfl
theorem ringHolds_fH:Z06r Tryz.prog Rows.ringHoldsRow=true:=by kernel_rfl
theorem ringHolds_fI:Z06s Tryz.prog Rows.ringHoldsRow=true:=by kernel_rfl
theorem ringHolds_fK:Z06t Tryz.prog Tryz.f3 Rows.ringHoldsSpec Rows.ringHoldsRow=true:=by kernel_rfl
end Go.Proofs.YteefpkhngighgaaGreatDoor
