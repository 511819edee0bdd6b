/- Texts of a proof, one behind the other: SR3 SG3 SH3 SR4 SR5 SR6 SR7 SR8 SRT1 SRT2 SK1 SK2 SK3 SG5 SG8 E32. -/
import Derived.Test.YtkjfpenagcdmcaaGreatDoorMS6
namespace Go.Proofs.YtkjfpenagcdmcaaGreatDoor
open Go Go.Sx Go.RowKit
open Go.IntKind (wrap)
set_option linter.all false
set_option maxRecDepth 100000
set_option maxHeartbeats 1000000
theorem Z05h {w m b i j:Nat} (hw:0<w) (hm:m<2^i) (hb:b<=1):(m+b*2^i) / 2^(w*j)%2^w=m / 2^(w*j)%2^w+(if j=i / w then b*2^(i%w) else 0):=by
 have hpos:0<2^(w*j):=Nat.pow_pos (by decide)
 by_cases h:j=i / w
 ·rw [if_pos h]
  have hi:i=w*j+i%w:=by rw [h]; exact (Nat.div_add_mod i w).symm
  have ht:i%w<w:=Nat.mod_lt _ hw
  generalize i%w=t at *
  have hq:m / 2^(w*j)<2^t:=by
   rw [Nat.div_lt_iff_lt_mul hpos,<- Nat.pow_add,Nat.add_comm t,<- hi]; exact hm
  have e:m+b*2^i=m+b*2^t*2^(w*j):=by
   rw [hi,Nat.pow_add,Nat.mul_assoc,Nat.mul_comm (2^t)]
  rw [e,Nat.add_mul_div_right _ _ hpos]
  have h2:2^(t+1)<=2^w:=Nat.pow_le_pow_right (by decide) (by omega)
  have h3:b*2^t<=1*2^t:=Nat.mul_le_mul_right _ hb
  rw [Nat.pow_succ] at h2
  generalize 2^t=p at *
  generalize b*p=bp at *
  rw [Nat.mod_eq_of_lt (by omega),Nat.mod_eq_of_lt (by omega)]
 ·rw [if_neg h,Nat.add_zero]
  rcases Nat.lt_or_gt_of_ne h with h1 | h1
  ·have hle:w*(j+1)<=i:=by
    have h5:w*(j+1)<=w*(i / w):=Nat.mul_le_mul_left _ h1
    have h6:=Nat.mul_div_le i w
    omega
   obtain ⟨r,hr⟩:=Nat.exists_eq_add_of_le hle
   have e:m+b*2^i=m+b*2^r*2^w*2^(w*j):=by
    rw [hr,Nat.pow_add,Nat.mul_succ,Nat.pow_add]
    congr 1
    generalize 2^(w*j)=x
    generalize 2^w=y
    generalize 2^r=z
    ac_rfl
   rw [e,Nat.add_mul_div_right _ _ hpos,Nat.add_mul_mod_self_right]
  ·have hle:i+1<=w*j:=by
    have h5:i<w*(i / w+1):=by
     have:=Nat.div_add_mod i w
     have:=Nat.mod_lt i hw
     rw [Nat.mul_succ]
     omega
    have h6:w*(i / w+1)<=w*j:=Nat.mul_le_mul_left _ h1
    omega
   have h7:2^(i+1)<=2^(w*j):=Nat.pow_le_pow_right (by decide) hle
   have h8:b*2^i<=1*2^i:=Nat.mul_le_mul_right _ hb
   rw [Nat.pow_succ] at h7
   rw [Nat.div_eq_of_lt (by omega),Nat.div_eq_of_lt (by omega)]
theorem Zzj {w N i j:Nat} (hw:0<w):N%2^(i+1) / 2^(w*j)%2^w=N%2^i / 2^(w*j)%2^w+(if j=i / w then (N / 2^i%2)*2^(i%w) else 0):=by
 rw [Nat.mod_pow_succ,Nat.mul_comm (2^i)]
 exact Z05h hw (Nat.mod_lt _ (Nat.pow_pos (by decide))) (by omega)
theorem Z0dp {w N j t:Nat} (ht:t<w):N / 2^(w*j)%2^w / 2^t%2=N / 2^(w*j+t)%2:=by
 have e:2^w=2^t*2^(w-t):=by rw [<- Nat.pow_add]; congr 1; omega
 rw [e,Nat.mod_mul_right_div_self,Nat.div_div_eq_div_mul,<- Nat.pow_add]
 refine Nat.mod_mod_of_dvd _ ?_
 have:w-t=(w-t-1)+1:=by omega
 rw [this,Nat.pow_succ]
 exact Nat.dvd_mul_left 2 _
structure Dgs (w L N i:Nat) (a:LI):Prop where
 len:a.length=L
 dig : ∀ j,j<L->a.getD j 0=((N%2^i / 2^(w*j)%2^w:Nat):Int)
theorem Dgs.start (w L N:Nat):Dgs w L N 0 (List.replicate L 0):=by
 refine ⟨by simp,fun j hj=>?_⟩
 rw [Nat.pow_zero,Nat.mod_one,Nat.zero_div,Nat.zero_mod]
 simp [List.getD_eq_getElem?_getD,hj]
theorem Dgs.put {w L N i:Nat} {a:LI} (h:Dgs w L N i a) (hw:0<w) (hi:i<w*L):Dgs w L N (i+1) (Z2g a (i / w) (a.getD (i / w) 0+((N / 2^i%2*2^(i%w):Nat):Int))):=by
 have hj:i / w<L:=by rw [Nat.div_lt_iff_lt_mul hw,Nat.mul_comm]; exact hi
 refine ⟨by rw [Z5k (by rw [h.len]; exact hj),h.len],fun j hjl=>?_⟩
 rw [Z1a,Zzj hw]
 by_cases e:j=i / w
 ·subst e
  rw [if_pos rfl,if_pos rfl,h.dig _ hjl,<- Int.natCast_add]
 ·rw [if_neg e,if_neg e,Nat.add_zero,h.dig _ hjl]
theorem Dgs.bound {w L N i:Nat} {a:LI} (h:Dgs w L N i a) (hw:0<w) (hi:i<w*L):0<=a.getD (i / w) 0+((N / 2^i%2*2^(i%w):Nat):Int)/\a.getD (i / w) 0+((N / 2^i%2*2^(i%w):Nat):Int)<((2^w:Nat):Int):=by
 have hj:i / w<L:=by rw [Nat.div_lt_iff_lt_mul hw,Nat.mul_comm]; exact hi
 have h2:=(h.put hw hi).dig _ hj
 rw [Z1a,if_pos rfl] at h2
 rw [h2]
 have:=Nat.mod_lt (N%2^(i+1) / 2^(w*(i / w))) (Nat.pow_pos (n:=w) (show 0<2 by decide))
 omega
theorem Zx6 {w N:Nat} {l:LI} {i:Nat} {L:Nat} (hw:0<w) (hl : ∀ j,j<L->l.getD j 0=((N / 2^(w*j)%2^w:Nat):Int)) (hi:i<w*L) :
  l.getD (i / w) 0 / ((2^(i%w):Nat):Int)%2=((N / 2^i%2:Nat):Int):=by
 have hj:i / w<L:=by rw [Nat.div_lt_iff_lt_mul hw,Nat.mul_comm]; exact hi
 rw [hl _ hj]
 have e:=Z0dp (w:=w) (N:=N) (j:=i / w) (t:=i%w) (Nat.mod_lt _ hw)
 rw [Nat.div_add_mod] at e
 rw [<- e]
 rfl
theorem Z04a {k:IntKind} {b t:Nat} (hk:t<=k.bits) (hb:wrap k ((b*2^t:Nat):Int)=((b*2^t:Nat):Int)):Zn k (b:Int) (t:Int)=((b*2^t:Nat):Int):=by
 rw [Zis k hk,<- Int.natCast_mul,hb]
theorem Z01f {b t:Nat} (hb:b<=1) (ht:t<26):b*2^t<67108864:=by
 have h1:2^t<=2^25:=Nat.pow_le_pow_right (by decide) (by omega)
 have h2:b*2^t<=1*2^t:=Nat.mul_le_mul_right _ hb
 omega
theorem Zzd {b t:Nat} (hb:b<=1) (ht:t<8):b*2^t<256:=by
 have h1:2^t<=2^7:=Nat.pow_le_pow_right (by decide) (by omega)
 have h2:b*2^t<=1*2^t:=Nat.mul_le_mul_right _ hb
 omega
theorem Z01q {i:Nat} (h:i<1000):wrap .i64 (Int.tdiv (i:Int) 8)=((i / 8:Nat):Int):=by
 rw [Int.tdiv_eq_ediv_of_nonneg (by omega),Zk (by omega) (by omega)]; omega
theorem Zsj (i:Nat):Int.tmod (i:Int) 8=((i%8:Nat):Int):=by
 rw [Int.tmod_eq_emod_of_nonneg (by omega)]; omega
theorem Zxq {i:Nat} (h:i<1000):wrap .i64 (Int.tdiv (i:Int) 26)=((i / 26:Nat):Int):=by
 rw [Int.tdiv_eq_ediv_of_nonneg (by omega),Zk (by omega) (by omega)]; omega
theorem Zy6 (i:Nat):Int.tmod (i:Int) 26=((i%26:Nat):Int):=by
 rw [Int.tmod_eq_emod_of_nonneg (by omega)]; omega
theorem Z007 {p:LI} (hp:Byt p) {N:Nat} (hN : ∀ j,j<32->p.getD j 0=((N / 2^(8*j)%2^8:Nat):Int)) (k:LI->Option (LI)) (m:Nat) : ∀ (n i:Nat) (a:LI),i+m=255->Dgs 26 10 N i a ->
  ∃ c,Z3z p k (n+1+m) (i:Int) a=k c/\Dgs 26 10 N 255 c:=by
 induction m with
 | zero =>
  intro n i a hi ha
  have e:i=255:=by omega
  subst e
  refine ⟨a,?_,ha⟩
  rw [Nat.add_zero,Z3z,Z7i,Z1e (by decide)]
 | succ m ih =>
  intro n i a hi ha
  have e1:=Z2u (i:=i) (by omega)
  have hb:=ha.bound (by decide) (i:=i) (by omega)
  have hs:=Zx6 (w:=8) (by decide) hN (i:=i) (by omega)
  have hpb:=hp (i / 8)
  have hpp:(0:Int)<((2^(i%8):Nat):Int):=by have:=Nat.pow_pos (n:=i%8) (show 0<2 by decide); omega
  have hq0:=Int.ediv_nonneg hpb.1 (Int.le_of_lt hpp)
  have hq1:p.getD (i / 8) 0 / ((2^(i%8):Nat):Int)<256:=Int.lt_of_le_of_lt (Int.ediv_le_self _ hpb.1) hpb.2
  have hbit:N / 2^i%2<=1:=by omega
  have hsm:=Z01f hbit (Nat.mod_lt i (show 0<26 by decide))
  obtain ⟨c,ec,hc⟩:=ih n (i+1) _ (by omega) (ha.put (by decide) (by omega))
  refine ⟨c,?_,hc⟩
  rw [<- Nat.add_assoc,Z3z,Z7i,Z1s (decide_eq_true (by omega))]
  simp only [Zr,e1,Z01q (show i<1000 by omega),Zsj,Zxq (show i<1000 by omega),Zy6,Int.toNat_natCast]
  have w1:wrap .u64 ((N / 2^i%2:Nat):Int)=((N / 2^i%2:Nat):Int):=Ze (by omega) (by omega)
  have w2:wrap .u64 ((N / 2^i%2*2^(i%26):Nat):Int)=((N / 2^i%2*2^(i%26):Nat):Int):=Ze (by omega) (by omega)
  have w3:wrap .u64 (a.getD (i / 26) 0+((N / 2^i%2*2^(i%26):Nat):Int))=a.getD (i / 26) 0+((N / 2^i%2*2^(i%26):Nat):Int):=by
   have h26:((2^26:Nat):Int)=67108864:=by decide
   have:=hb.2
   exact Ze hb.1 (by omega)
  rw [Z9z .u8 (n:=i%8) (by show i%8<=8; omega),Z016 hq0 hq1,hs,w1,Z04a (by show i%26<=64; omega) w2,w3]
  rw [Z0b (Z19 (by omega) (by omega)),Z0b (by simp; omega),Z0b (Z19 (by omega) (by omega)),Z0b (by simp; omega),Z0b (Z19 (by omega) (by omega))]
  exact ec
theorem pow8 (j:Nat):2^(8*j)=256^j:=by rw [Nat.pow_mul]
theorem Z04f {p:LI} (hp:Byt p) (l:p.length=32) : ∀ j,j<32->p.getD j 0=(((Zci p).toNat / 2^(8*j)%2^8:Nat):Int):=by
 intro j hj
 rw [Z0ad hp l hj,pow8]
 have h:=Zgu hp
 obtain ⟨n,hn⟩:=Int.eq_ofNat_of_zero_le h
 rw [hn]
 rfl
theorem Zzi {N:Nat} {c:LI} (h:Dgs 26 10 N 255 c):rV c 10=((N%2^255:Nat):Int):=by
 have e:c=rdig ((N%2^255:Nat):Int):=by
  rw [Zo0 h.len]
  unfold rdig
  have hh:=h.dig
  generalize N%2^255=M at *
  rw [hh 0 (by decide),hh 1 (by decide),hh 2 (by decide),hh 3 (by decide),hh 4 (by decide),hh 5 (by decide),hh 6 (by decide),hh 7 (by decide),hh 8 (by decide),hh 9 (by decide)]
  simp only [List.cons.injEq,and_true]
  refine ⟨?_,rfl,rfl,rfl,rfl,rfl,rfl,rfl,rfl,rfl⟩
  show ((M / 1%67108864:Nat):Int)=(M:Int)%67108864
  rw [Nat.div_one]; rfl
 have hlt:N%2^255<2^255:=Nat.mod_lt _ (by decide)
 have e2:(2^255:Nat)=57896044618658097711785492504343953926634992332820282019728792003956564819968:=by decide
 generalize N%2^255=M at *
 rw [e,Z03b (by omega) (by omega)]
theorem Z0ak {N i:Nat} {c:LI} (h:Dgs 26 10 N i c) : ∀ j,0<=c.getD j 0/\c.getD j 0<1152921504606846976:=by
 intro j
 by_cases hj:j<10
 ·rw [h.dig j hj]
  have:=Nat.mod_lt (N%2^i / 2^(26*j)) (Nat.pow_pos (n:=26) (show 0<2 by decide))
  omega
 ·have:c.getD j 0=0:=by simp [List.getD_eq_getElem?_getD,List.getElem?_eq_none (show c.length<=j by have:=h.len; omega)]
  omega
theorem Z01g (p:LI):Zze p=Zci p-p.getD 31 0 / 128*57896044618658097711785492504343953926634992332820282019728792003956564819968:=by
 unfold Zze Zci
 omega
theorem Z084 {p:LI} (hp:Byt p):(((Zci p).toNat%2^255:Nat):Int)=Zze p:=by
 have h:=Zgu hp
 have hb:0<=Zze p/\Zze p<57896044618658097711785492504343953926634992332820282019728792003956564819968:=by
  have h2:=Zgu (Zjg hp (j:=31) (v:=p.getD 31 0%128) (by omega))
  have h3:=Zry (Zjg hp (j:=31) (v:=p.getD 31 0%128) (by omega))
  have e:Zci (Z2g p 31 (p.getD 31 0%128))=Zze p:=by
   unfold Zze Zci
   simp only [Z1a]
   simp [-List.getD_eq_getElem?_getD]
  have h31:=hp 31
  rw [e] at h2
  refine ⟨h2,?_⟩
  have:Zp1 (Z2g p 31 (p.getD 31 0%128)) 32<128*(256:Int)^31:=by
   have key : ∀ j,j<32->Zp1 (Z2g p 31 (p.getD 31 0%128)) (j+1)<128*(256:Int)^j:=by
    intro j
    induction j with
    | zero =>
     intro _
     show 0*256+(Z2g p 31 (p.getD 31 0%128)).getD 31 0<128*1
     rw [Z1a,if_pos rfl]; omega
    | succ j ih =>
     intro hj
     have i1:=ih (by omega)
     have i2:=Zjg hp (j:=31) (v:=p.getD 31 0%128) (by omega) (31-(j+1))
     show Zp1 _ (j+1)*256+(Z2g p 31 (p.getD 31 0%128)).getD (31-(j+1)) 0<_
     rw [Int.pow_succ]
     omega
   exact key 31 (by decide)
  rw [Zk8,e] at this
  have e3:128*(256:Int)^31=57896044618658097711785492504343953926634992332820282019728792003956564819968:=by decide
  omega
 have e:=Z01g p
 have e2:(2^255:Nat)=57896044618658097711785492504343953926634992332820282019728792003956564819968:=by decide
 obtain ⟨n,hn⟩:=Int.eq_ofNat_of_zero_le h
 rw [e2,hn]
 rw [hn] at e
 have h31:=hp 31
 generalize p.getD 31 0 / 128=q at *
 generalize Zze p=b at *
 show ((n%57896044618658097711785492504343953926634992332820282019728792003956564819968:Nat):Int)=b
 clear hn h h31 e2
 omega
theorem Z10h {p:LI} (hp:Byt p) (l:p.length=32):Zbb p=some (rn (Zze p)):=by
 obtain ⟨n,hn⟩ : ∃ n,big=n+1+255:=⟨18446744073709551360,Z21⟩
 obtain ⟨c,ec,hc⟩:=Z007 hp (Z04f hp l) (fun (a73:LI)=>opt (Z9o a73) fun y142=>some y142) 255 n 0 _ (by omega) (Dgs.start 26 10 _)
 rw [Zbb,Z1v,hn]
 refine ec.trans ?_
 rw [Z3 (Znz hc.len (Z0ak hc)),Zzi hc,Z084 hp]
theorem Zwv {p:LI} {N:Nat} (hp : ∀ j,0<=p.getD j 0/\p.getD j 0<67108864) (hN : ∀ j,j<10->p.getD j 0=((N / 2^(26*j)%2^26:Nat):Int)) (k:LI->Option (LI)) (m:Nat) : ∀ (n i:Nat) (a:LI),i+m=255->Dgs 8 32 N i a ->
  ∃ c,Z7h p k (n+1+m) (i:Int) a=k c/\Dgs 8 32 N 255 c:=by
 induction m with
 | zero =>
  intro n i a hi ha
  have e:i=255:=by omega
  subst e
  refine ⟨a,?_,ha⟩
  rw [Nat.add_zero,Z7h,Zdg,Z1e (by decide)]
 | succ m ih =>
  intro n i a hi ha
  have e1:=Z2u (i:=i) (by omega)
  have hb:=ha.bound (by decide) (i:=i) (by omega)
  have hs:=Zx6 (w:=26) (by decide) hN (i:=i) (by omega)
  have hpb:=hp (i / 26)
  have hpp:(0:Int)<((2^(i%26):Nat):Int):=by have:=Nat.pow_pos (n:=i%26) (show 0<2 by decide); omega
  have hq0:=Int.ediv_nonneg hpb.1 (Int.le_of_lt hpp)
  have hq1:p.getD (i / 26) 0 / ((2^(i%26):Nat):Int)<67108864:=Int.lt_of_le_of_lt (Int.ediv_le_self _ hpb.1) hpb.2
  have hbit:N / 2^i%2<=1:=by omega
  have hsm:=Zzd hbit (Nat.mod_lt i (show 0<8 by decide))
  obtain ⟨c,ec,hc⟩:=ih n (i+1) _ (by omega) (ha.put (by decide) (by omega))
  refine ⟨c,?_,hc⟩
  rw [<- Nat.add_assoc,Z7h,Zdg,Z1s (decide_eq_true (by omega))]
  simp only [Zr,e1,Z01q (show i<1000 by omega),Zsj,Zxq (show i<1000 by omega),Zy6,Int.toNat_natCast]
  have w1:wrap .u8 ((N / 2^i%2:Nat):Int)=((N / 2^i%2:Nat):Int):=by rw [Z0u]; omega
  have w2:wrap .u8 ((N / 2^i%2*2^(i%8):Nat):Int)=((N / 2^i%2*2^(i%8):Nat):Int):=by rw [Z0u]; omega
  have w3:wrap .u8 (a.getD (i / 8) 0+((N / 2^i%2*2^(i%8):Nat):Int))=a.getD (i / 8) 0+((N / 2^i%2*2^(i%8):Nat):Int):=by
   rw [Z0u]
   have h8:((2^8:Nat):Int)=256:=by decide
   have:=hb.2
   exact Int.emod_eq_of_lt hb.1 (by omega)
  rw [Z9z .u64 (n:=i%26) (by show i%26<=64; omega),Zvw hq0 (by omega),hs,w1,Z04a (by show i%8<=8; omega) w2,w3]
  rw [Z0b (Z19 (by omega) (by omega)),Z0b (by simp; omega),Z0b (Z19 (by omega) (by omega)),Z0b (by simp; omega),Z0b (Z19 (by omega) (by omega))]
  exact ec
theorem Z00m (n:Int) : ∀ j,j<10->(rn n).getD j 0=(((n%PP).toNat / 2^(26*j)%2^26:Nat):Int):=by
 intro j hj
 have h:=(Zoj n).1
 unfold rn
 obtain ⟨m,hm⟩:=Int.eq_ofNat_of_zero_le h
 rw [hm]
 match j,hj with
 | 0,_=>show (m:Int)%67108864=((m / 1%67108864:Nat):Int); rw [Nat.div_one]; rfl
 | 1,_=>rfl
 | 2,_=>rfl
 | 3,_=>rfl
 | 4,_=>rfl
 | 5,_=>rfl
 | 6,_=>rfl
 | 7,_=>rfl
 | 8,_=>rfl
 | 9,_=>rfl
 | j+10,h=>exact absurd h (by omega)
theorem Zsh {l:LI} {i:Nat} (h:i<l.length):l.getD i 0=l[i]:=by simp [List.getD_eq_getElem?_getD,List.getElem?_eq_getElem h]
theorem Z0om (n:Int):Zl8 (rn n)=some (byt (n%PP)):=by
 obtain ⟨f,hf⟩ : ∃ n,big=n+1+255:=⟨18446744073709551360,Z21⟩
 obtain ⟨c,ec,hc⟩:=Zwv (Zpw n) (Z00m n) some 255 f 0 _ (by omega) (Dgs.start 8 32 _)
 rw [Zl8,Z1v,hf]
 refine ec.trans ?_
 congr 1
 have h:=Zoj n
 obtain ⟨m,hm⟩:=Int.eq_ofNat_of_zero_le h.1
 have e:(n%PP).toNat=m:=by rw [hm]; rfl
 have h1:m<57896044618658097711785492504343953926634992332820282019728792003956564819949:=by
  have:=h.2
  rw [hm] at this
  unfold PP at this
  omega
 have e2:(2^255:Nat)=57896044618658097711785492504343953926634992332820282019728792003956564819968:=by decide
 rw [hm]
 apply List.ext_getElem
 ·rw [hc.len]; rfl
 ·intro i h2 h3
  have hi:i<32:=by rw [hc.len] at h2; exact h2
  have hd:=hc.dig i hi
  rw [e,Nat.mod_eq_of_lt (a:=m) (b:=2^255) (by rw [e2]; omega),pow8] at hd
  have hb:=Zxk (m:Int) i hi
  rw [<- Zsh h2,<- Zsh h3,hd,hb]
  rfl
end Go.Proofs.YtkjfpenagcdmcaaGreatDoor
namespace Go.Proofs.YtkjfpenagcdmcaaGreatDoor
open Go Go.Sx Go.RowKit
set_option linter.all false
set_option maxRecDepth 100000
theorem Zk2 {p:LI} (h:Byt p) (o n:Nat):Byt (tk p o n):=by
 intro i
 rw [Zmq]
 split
 ·exact h _
 ·decide
end Go.Proofs.YtkjfpenagcdmcaaGreatDoor
namespace Go.Proofs.YtkjfpenagcdmcaaGreatDoor
open Go Go.Sx Go.RowKit
open Go.IntKind (wrap)
set_option linter.all false
set_option maxRecDepth 100000
noncomputable def Z09p:G:=⟨fi BX,fi BY,⟨by decide +kernel⟩⟩
theorem Z075:Rep Z0c6 Z09p:=by
 constructor
 ·show fi 1≠0; decide +kernel
 ·show fi BX=fi BX*fi 1; decide +kernel
 ·show fi BY=fi BY*fi 1; decide +kernel
 ·show fi (BX*BY)=fi BX*fi BY*fi 1; decide +kernel
def VLn:Nat:=7237005577332262213973186563042994240857116359379907606001950938285454250989
theorem Zth:VL=(VLn:Int):=by decide
def be8 (x:Int):LI:=[wrap .u8 (Zx .u64 (Zx .u64 (Zx .u64 (Zx .u64 (Zx .u64 (Zx .u64 (Zx .u64 x 8) 8) 8) 8) 8) 8) 8),wrap .u8 (Zx .u64 (Zx .u64 (Zx .u64 (Zx .u64 (Zx .u64 (Zx .u64 x 8) 8) 8) 8) 8) 8),wrap .u8 (Zx .u64 (Zx .u64 (Zx .u64 (Zx .u64 (Zx .u64 x 8) 8) 8) 8) 8),wrap .u8 (Zx .u64 (Zx .u64 (Zx .u64 (Zx .u64 x 8) 8) 8) 8),wrap .u8 (Zx .u64 (Zx .u64 (Zx .u64 x 8) 8) 8),wrap .u8 (Zx .u64 (Zx .u64 x 8) 8),wrap .u8 (Zx .u64 x 8),wrap .u8 x]
theorem Zmo (x:Int):Z2m x=some (be8 x):=by kernel_rfl
theorem Zvz (x:Int) : ∀ y∈be8 x,0<=y/\y<256:=by
 unfold be8
 repeat' (first | exact List.forall_mem_nil _ | refine List.forall_mem_cons.2 ⟨Zvo _,?_⟩)
def told (s:LI):LI:=be8 (s.getD 0 0)++(be8 (s.getD 1 0)++(be8 (s.getD 2 0)++(be8 (s.getD 3 0)++(be8 (s.getD 4 0)++(be8 (s.getD 5 0)++(be8 (s.getD 6 0)++be8 (s.getD 7 0)))))))
theorem Z082 (y d:Z00):Z39 y (fun a74=>some (a74,d)) big 0 (List.replicate 64 0)=some (told y.gstate,d):=by kernel_rfl
theorem Z087 (s:LI):Byt (told s):=by
 apply byt_of
 unfold told
 intro x hx
 simp only [List.mem_append] at hx
 rcases hx with h | h | h | h | h | h | h | h <;> exact Zvz _ _ h
theorem Ztp (o:BinOp) (x y:Int) (h:o = .and∨o = .or∨o = .andNot):0<=Z4 o .u8 x y/\Z4 o .u8 x y<256:=by
 rcases h with h | h | h <;> subst h
 ·show 0<=IntKind.u8.wrap _/\IntKind.u8.wrap _<_; exact Zvo _
 ·show 0<=IntKind.u8.wrap _/\IntKind.u8.wrap _<_; exact Zvo _
 ·show 0<=IntKind.u8.wrap _/\IntKind.u8.wrap _<_; exact Zvo _
def Zoq (p:LI):LI:=Z2g (Z2g p 0 (Z4 .andNot .u8 (p.getD 0 0) 7)) 31 (Z4 .or .u8 (Z4 .and .u8 ((Z2g p 0 (Z4 .andNot .u8 (p.getD 0 0) 7)).getD 31 0) 127) 64)
theorem Z05n (p:LI):Zbq p=some (Zoq p):=by
 rw [Zbq]
 simp only [Zr]
 rfl
theorem Z01l {p:LI} (h:Byt p):Byt (Zoq p):=Zjg (Zjg h (Ztp _ _ _ (.inr (.inr rfl)))) (Ztp _ _ _ (.inr (.inl rfl)))
noncomputable def pB (a:LI):G:=Zp6 (Zci a).toNat Z09p
theorem Zp5 {a:LI} (h:Byt a) : ∃ q,Z6e a=some (pt q)/\Rep q (pB a):=by
 refine ⟨_,Zzu h,?_⟩
 have:=Zyo a Z075 64
 rw [Z0ba h] at this
 exact this
theorem Zrb {q:Q4} {P:G} (h:Rep q P):Z78 (pt q)=some (Ztw P):=by rw [Z01t,Z0aq h]
theorem Zsd (P:G):Byt (Ztw P):=Z0ap _ _
theorem Zac (P:G):(Ztw P).length=32:=Zzl _ _
theorem Zz4 (P:G):tk (Ztw P) 0 32=Ztw P:=Zbt (Zac P)
theorem Z0pb {x y:LI} (hx:x.length=32) (hy:y.length=32):wr (wr (List.replicate 64 0) 0 (x.take 32)) 32 (y.take (64-32))=x++y:=by
 have h1:x.take 32=x:=List.take_of_length_le (by omega)
 have h2:y.take (64-32)=y:=List.take_of_length_le (by omega)
 rw [h1,h2]
 have h3:wr (List.replicate 64 0) 0 x=x++List.replicate 32 0:=by
  unfold wr
  rw [hx]
  rfl
 have h4:tk (x++List.replicate 32 0) 0 32=x:=by
  apply List.ext_getElem
  ·rw [Z0o,hx]
  ·intro i h1 h2
   simp only [tk,List.getElem_map,List.getElem_range,Nat.zero_add]
   rw [List.getD_eq_getElem?_getD,List.getElem?_append_left h2,List.getElem?_eq_getElem h2]
   rfl
 have h5:(x++List.replicate 32 (0:Int)).drop (32+32) = []:=List.drop_eq_nil_of_le (by simp [hx])
 rw [h3]
 unfold wr
 rw [h4,hy,h5,List.append_nil]
end Go.Proofs.YtkjfpenagcdmcaaGreatDoor
namespace Go.Proofs.YtkjfpenagcdmcaaGreatDoor
open Go Go.Sx Go.RowKit
set_option linter.all false
set_option maxRecDepth 100000
structure Q3 where
 x:Int
 y:Int
 z:Int
def rp (q:Q3):Z25:=⟨rn q.x,rn q.y,rn q.z⟩
structure Zr1 (q:Q3) (P:G):Prop where
 z:fi q.z≠0
 x:fi q.x=P.x*fi q.z
 y:fi q.y=P.y*fi q.z
theorem rD:q7_D=some (rn DD):=by
 rw [q7_D,Zr,Z3 (Z10h (byt_of (by decide)) rfl)]
 decide
def Zv9 (p q:Q3):Q3 :=
 let a:=p.z*q.z
 let b:=a*a
 let c:=p.x*q.x
 let d:=p.y*q.y
 let e:=DD*(c*d)
 let f:=b-e
 let g:=b+e
 let s:=p.x*q.y+p.y*q.x
 ⟨a*f*s,a*g*(d+c),f*g⟩
theorem Zt5 (p q:Q3):Zpk (rp p) (rp q)=some (rp (Zv9 p q)):=by
 rw [Zpk]
 show opt (Z24 (rn p.z) (rn q.z)) _=_
 rw [Z3 (Zki _ _),Z3 (Zki _ _)]
 show opt (Z24 (rn p.x) (rn q.x)) _=_
 rw [Z3 (Zki _ _)]
 show opt (Z24 (rn p.y) (rn q.y)) _=_
 rw [Z3 (Zki _ _),Z3 rD,Z3 (Zki _ _),Z3 (Zki _ _),Z3 (rsub _ _),Z3 (radd _ _)]
 show opt (Z24 (rn p.x) (rn q.y)) _=_
 rw [Z3 (Zki _ _)]
 show opt (Z24 (rn p.y) (rn q.x)) _=_
 rw [Z3 (Zki _ _),Z3 (radd _ _),Z3 (Zki _ _),Z3 (Zki _ _),Z3 (Zki _ _),Z3 (radd _ _),Z3 (Zki _ _),Z3 (Zki _ _)]
 rfl
def Zlj (p:Q3):Q3 :=
 let xx:=p.x*p.x
 let yy:=p.y*p.y
 let zz:=p.z*p.z
 let l:=yy-xx
 let m:=zz+zz-l
 let xy:=p.x*p.y
 ⟨(xy+xy)*m,(xx+yy)*l,l*m⟩
theorem Zeg (p:Q3):Z6n (rp p)=some (rp (Zlj p)):=by
 rw [Z6n]
 show opt (Z24 (rn p.x) (rn p.x)) _=_
 rw [Z3 (Zki _ _)]
 show opt (Z24 (rn p.y) (rn p.y)) _=_
 rw [Z3 (Zki _ _)]
 show opt (Z24 (rn p.z) (rn p.z)) _=_
 rw [Z3 (Zki _ _),Z3 (rsub _ _),Z3 (radd _ _),Z3 (rsub _ _)]
 show opt (Z24 (rn p.x) (rn p.y)) _=_
 rw [Z3 (Zki _ _),Z3 (radd _ _),Z3 (Zki _ _),Z3 (radd _ _),Z3 (Zki _ _),Z3 (Zki _ _)]
 rfl
theorem Zt1 {p q:Q3} {P Q:G} (hp:Zr1 p P) (hq:Zr1 q Q):Zr1 (Zv9 p q) (Zg9 P Q):=by
 have d1:=den1 P.on Q.on
 have d2:=den2 P.on Q.on
 have ax:=Zxe P Q
 have ay:=Zxf P Q
 have hz:=Zb7 hp.z hq.z
 have hb:=Zb7 hz hz
 have ef:fi (p.z*q.z*(p.z*q.z)-DD*(p.x*q.x*(p.y*q.y)))=(fi p.z*fi q.z*(fi p.z*fi q.z))*(1-dF*P.x*Q.x*P.y*Q.y):=by
  simp only [Z2l,Zhk,Z0ed,hp.x,hq.x,hp.y,hq.y]
  generalize dF=d at *
  clear d1 d2 ax ay hz hb
  grind -lia -linarith (splits:=0)
 have eg:fi (p.z*q.z*(p.z*q.z)+DD*(p.x*q.x*(p.y*q.y)))=(fi p.z*fi q.z*(fi p.z*fi q.z))*(1+dF*P.x*Q.x*P.y*Q.y):=by
  simp only [Z2l,Zd6,Z0ed,hp.x,hq.x,hp.y,hq.y]
  generalize dF=d at *
  clear d1 d2 ax ay hz hb
  grind -lia -linarith (splits:=0)
 constructor
 ·show fi ((p.z*q.z*(p.z*q.z)-DD*(p.x*q.x*(p.y*q.y)))*(p.z*q.z*(p.z*q.z)+DD*(p.x*q.x*(p.y*q.y))))≠0
  rw [Z2l,ef,eg]
  exact Zb7 (Zb7 hb d2) (Zb7 hb d1)
 ·show fi (p.z*q.z*(p.z*q.z*(p.z*q.z)-DD*(p.x*q.x*(p.y*q.y)))*(p.x*q.y+p.y*q.x))=(Zg9 P Q).x*fi ((p.z*q.z*(p.z*q.z)-DD*(p.x*q.x*(p.y*q.y)))*(p.z*q.z*(p.z*q.z)+DD*(p.x*q.x*(p.y*q.y))))
  rw [Z2l (p.z*q.z*(p.z*q.z)-_),Z2l,Z2l,ef,eg]
  simp only [Z2l,Zd6,hp.x,hq.x,hp.y,hq.y]
  generalize (Zg9 P Q).x=X at *
  generalize dF=d at *
  clear d1 d2 ay hz hb ef eg
  grind -lia -linarith (splits:=0)
 ·show fi (p.z*q.z*(p.z*q.z*(p.z*q.z)+DD*(p.x*q.x*(p.y*q.y)))*(p.y*q.y+p.x*q.x))=(Zg9 P Q).y*fi ((p.z*q.z*(p.z*q.z)-DD*(p.x*q.x*(p.y*q.y)))*(p.z*q.z*(p.z*q.z)+DD*(p.x*q.x*(p.y*q.y))))
  rw [Z2l (p.z*q.z*(p.z*q.z)-_),Z2l,Z2l,ef,eg]
  simp only [Z2l,Zd6,hp.x,hq.x,hp.y,hq.y]
  generalize (Zg9 P Q).y=Y at *
  generalize dF=d at *
  clear d1 d2 ax hz hb ef eg
  grind -lia -linarith (splits:=0)
theorem Zo8 {p:Q3} {P:G} (hp:Zr1 p P):Zr1 (Zlj p) (Zg9 P P):=by
 have d1:=den1 P.on P.on
 have d2:=den2 P.on P.on
 have ax:=Zxe P P
 have ay:=Zxf P P
 have on:=P.on.eq
 have hz:=Zb7 hp.z hp.z
 have el:fi (p.y*p.y-p.x*p.x)=(fi p.z*fi p.z)*(1+dF*P.x*P.x*P.y*P.y):=by
  simp only [Z2l,Zhk,hp.x,hp.y]
  generalize dF=d at *
  clear d1 d2 ax ay hz
  grind -lia -linarith (splits:=0)
 have em:fi (p.z*p.z+p.z*p.z-(p.y*p.y-p.x*p.x))=(fi p.z*fi p.z)*(1-dF*P.x*P.x*P.y*P.y):=by
  simp only [Z2l,Zhk,Zd6,hp.x,hp.y]
  generalize dF=d at *
  clear d1 d2 ax ay hz el
  grind -lia -linarith (splits:=0)
 constructor
 ·show fi ((p.y*p.y-p.x*p.x)*(p.z*p.z+p.z*p.z-(p.y*p.y-p.x*p.x)))≠0
  rw [Z2l,el,em]
  exact Zb7 (Zb7 hz d1) (Zb7 hz d2)
 ·show fi ((p.x*p.y+p.x*p.y)*(p.z*p.z+p.z*p.z-(p.y*p.y-p.x*p.x)))=(Zg9 P P).x*fi ((p.y*p.y-p.x*p.x)*(p.z*p.z+p.z*p.z-(p.y*p.y-p.x*p.x)))
  rw [Z2l,Z2l (p.y*p.y-p.x*p.x),el,em]
  simp only [Z2l,Zd6,hp.x,hp.y]
  generalize (Zg9 P P).x=X at *
  generalize dF=d at *
  clear d1 d2 ay hz el em
  grind -lia -linarith (splits:=0)
 ·show fi ((p.x*p.x+p.y*p.y)*(p.y*p.y-p.x*p.x))=(Zg9 P P).y*fi ((p.y*p.y-p.x*p.x)*(p.z*p.z+p.z*p.z-(p.y*p.y-p.x*p.x)))
  rw [Z2l,Z2l (p.y*p.y-p.x*p.x),el,em]
  simp only [Z2l,Zd6,hp.x,hp.y]
  generalize (Zg9 P P).y=Y at *
  generalize dF=d at *
  clear d1 d2 ax hz el em
  grind -lia -linarith (splits:=0)
def Zva:Q3:=⟨0,1,1⟩
theorem Zyv:Zmb=some (rp Zva):=by
 rw [Zmb,Z3 (Zk1 (by decide) (by decide)),Z3 (Zk1 (by decide) (by decide)),Z3 (Zk1 (by decide) (by decide))]
 rfl
theorem Zv2:Zr1 Zva Ziz:=by
 constructor
 ·show fi 1≠0; decide +kernel
 ·show fi 0=0*fi 1; decide +kernel
 ·show fi 1=1*fi 1; decide +kernel
def Zyt (p:Q3):Nat->Q3
 | 0=>Zva
 | i+1=>Zv9 (Zyt p i) p
theorem Zt2 {p:Q3} {P:G} (hp:Zr1 p P) : ∀ j,Zr1 (Zyt p j) (Zp6 j P)
 | 0=>Zv2
 | j+1=>Zt1 (Zt2 hp j) hp
def Zmj (f:Nat->Z25) (i:Nat):List Z25:=(List.range 16).map fun j=>if j<=i then f j else Z7l
theorem Z03z (f:Nat->Z25) {i:Nat} (hi:i<15):Zh7 Z7l (Zmj f i) (i+1) (f (i+1))=Zmj f (i+1):=by
 rw [Zgs (by simp [Zmj]; omega)]
 apply List.ext_getElem
 ·simp [Zmj]
 ·intro j h1 h2
  simp only [Zmj,List.getElem_set,List.getElem_map,List.getElem_range]
  by_cases hj:i+1=j
  ·subst hj; simp
  ·rw [if_neg hj]
   by_cases h:j<=i
   ·rw [if_pos h,if_pos (by omega)]
   ·rw [if_neg h,if_neg (by omega)]
theorem Zpy (f:Nat->Z25) {i j:Nat} (hj:j<=i) (hi:i<16):(Zmj f i).getD j Z7l=f j:=by
 simp only [Zmj,List.getD,List.getElem?_map,List.getElem?_range (show j<16 by omega),Option.map_some,Option.getD_some,if_pos hj]
theorem Zrt (p:Q3) (k:List Z25->Option (List Z25)) : ∀ (m n i:Nat),i+m=15->Z6b (rp p) k (n+1+m) ((i+1:Nat):Int) (Zmj (fun j=>rp (Zyt p j)) i)=k (Zmj (fun j=>rp (Zyt p j)) 15)
 | 0,n,i,hi=>by
  have e:i=15:=by omega
  subst e
  rw [Nat.add_zero,Z6b,Zbj,Z1e (by decide)]
 | m+1,n,i,hi=>by
  have ih:=Zrt p k m n (i+1) (by omega)
  have e1:=Z2u (i:=i+1) (by omega)
  have e2:IntKind.wrap .i64 (((i+1:Nat):Int)-1)=(i:Int):=by rw [Zk (by omega) (by omega)]; omega
  rw [<- Nat.add_assoc,Z6b,Zbj,Z1s (decide_eq_true (by omega))]
  simp only [Zr,e1,e2,Int.toNat_natCast]
  rw [Z0b (Z19 (by omega) (by omega)),Zpy _ (Nat.le_refl i) (by omega),Z3 (Zt5 _ _),Z0b (Z19 (by omega) (by omega))]
  have:=Z03z (fun j=>rp (Zyt p j)) (i:=i) (by omega)
  rw [show rp (Zv9 (Zyt p i) p)=rp (Zyt p (i+1)) from rfl,this]
  exact ih
theorem Z10l (p:Q3):Zid (rp p)=some (Zmj (fun j=>rp (Zyt p j)) 15):=by
 obtain ⟨n,hn⟩ : ∃ n,big=n+1+15:=⟨18446744073709551600,Z21⟩
 rw [Zid,Z3 Zyv,Zr,Z1v,hn]
 have e:Zh7 Z7l (List.replicate 16 Z7l) 0 (rp Zva)=Zmj (fun j=>rp (Zyt p j)) 0:=by
  simp [Zh7,Zmj,List.range,List.range.loop,List.replicate]
  rfl
 rw [e]
 exact Zrt p some 15 n 0 (by omega)
def Z0cn (q:Q3):Q3:=Zlj (Zlj (Zlj (Zlj q)))
theorem Zv0 {p:Q3} {P:G} (hp:Zr1 p P):Zr1 (Z0cn p) (Zp6 16 P):=by
 have h:=Zo8 (Zo8 (Zo8 (Zo8 hp)))
 rw [<- Zeb,<- Zeb,<- Zeb,<- Zeb,<- Zca,<- Zca,<- Zca] at h
 exact h
def Z03u (p q:Q3) (b:Int):Q3:=Zv9 (Z0cn (Zv9 (Z0cn q) (Zyt p (b / 16).toNat))) (Zyt p (b%16).toNat)
theorem Z006 {p q:Q3} {P:G} {n:Nat} (hp:Zr1 p P) (hq:Zr1 q (Zp6 n P)) {b:Int} (hb:0<=b/\b<256):Zr1 (Z03u p q b) (Zp6 (n*256+b.toNat) P):=by
 have h:=Zt1 (Zv0 (Zt1 (Zv0 hq) (Zt2 hp (b / 16).toNat))) (Zt2 hp (b%16).toNat)
 rw [<- Zca,<- Zo1,<- Zca,<- Zo1] at h
 have e:16*(16*n+(b / 16).toNat)+(b%16).toNat=n*256+b.toNat:=by omega
 rw [e] at h
 exact h
def Zuz (k:LI) (p:Q3):Nat->Q3
 | 0=>Zva
 | j+1=>Z03u p (Zuz k p j) (k.getD (31-j) 0)
theorem Zp2 {k:LI} (hk:Byt k) : ∀ j,0<=Zp1 k j
 | 0=>Int.le_refl _
 | j+1=>by
  have h1:=Zp2 hk j
  have h2:=hk (31-j)
  show 0<=Zp1 k j*256+k.getD (31-j) 0
  omega
theorem Zv1 {k:LI} (hk:Byt k) {p:Q3} {P:G} (hp:Zr1 p P) : ∀ j,Zr1 (Zuz k p j) (Zp6 (Zp1 k j).toNat P)
 | 0=>Zv2
 | j+1=>by
  have h:=Z006 hp (Zv1 hk hp j) (hk (31-j))
  have h1:=Zp2 hk j
  have h2:=hk (31-j)
  have e:(Zp1 k j).toNat*256+(k.getD (31-j) 0).toNat=(Zp1 k (j+1)).toNat:=by
   show _=(Zp1 k j*256+k.getD (31-j) 0).toNat
   omega
  rw [e] at h
  exact h
theorem Zv5 {k:LI} (hk:Byt k) (p:Q3) (kk:LI->LI->LI->Option Z25) : ∀ (m n j:Nat),j+m=32->Zbi k (Zmj (fun j=>rp (Zyt p j)) 15) kk (n+1+m) ((m:Int)-1) (rp (Zuz k p j)).gX (rp (Zuz k p j)).gY (rp (Zuz k p j)).gZ=kk (rp (Zuz k p 32)).gX (rp (Zuz k p 32)).gY (rp (Zuz k p 32)).gZ
 | 0,n,j,hj=>by
  have e:j=32:=by omega
  subst e
  rw [Nat.add_zero,Zbi,Zib,Z1e (by decide)]
 | m+1,n,j,hj=>by
  have ih:=Zv5 hk p kk m n (j+1) (by omega)
  have hb:=hk m
  have e0:((m+1:Nat):Int)-1=(m:Int):=by omega
  have e1:IntKind.wrap .i64 ((m:Int)-1)=(m:Int)-1:=Zk (by omega) (by omega)
  have e2:IntKind.wrap .u8 (Int.tdiv (k.getD m 0) 16)=k.getD m 0 / 16:=by
   rw [Int.tdiv_eq_ediv_of_nonneg hb.1,Z0u]; omega
  have e3:Int.tmod (k.getD m 0) 16=k.getD m 0%16:=Int.tmod_eq_emod_of_nonneg hb.1
  have em:31-j=m:=by omega
  rw [e0,<- Nat.add_assoc,Zbi,Zib,Z1s (decide_eq_true (by omega)),Z0b (Z19 (by omega) (by omega))]
  rw [show (⟨(rp (Zuz k p j)).gX,(rp (Zuz k p j)).gY,(rp (Zuz k p j)).gZ⟩:Z25)=rp (Zuz k p j) from rfl]
  rw [Z3 (Zeg _),Z3 (Zeg _),Z3 (Zeg _),Z3 (Zeg _)]
  simp only [Zr,e1,e2,e3,Int.toNat_natCast]
  rw [Z0b (Z19 (by omega) (by omega)),Zpy _ (by omega) (by decide),Z3 (Zt5 _ _),Z0b (Z19 (by omega) (by omega))]
  rw [Z3 (Zeg _),Z3 (Zeg _),Z3 (Zeg _),Z3 (Zeg _),Z0b (Z19 (by omega) (by omega)),Zpy _ (by omega) (by decide),Z3 (Zt5 _ _)]
  have er:rp (Zv9 (Zlj (Zlj (Zlj (Zlj (Zv9 (Zlj (Zlj (Zlj (Zlj (Zuz k p j))))) (Zyt p (k.getD m 0 / 16).toNat)))))) (Zyt p (k.getD m 0%16).toNat))=rp (Zuz k p (j+1)):=by
   show _=rp (Z03u p (Zuz k p j) (k.getD (31-j) 0))
   rw [em]; rfl
  rw [er]
  exact ih
theorem Z10j {k:LI} (hk:Byt k) (p:Q3):Zuq k (rp p)=some (rp (Zuz k p 32)):=by
 obtain ⟨n,hn⟩ : ∃ n,big=n+1+32:=⟨18446744073709551583,Z21⟩
 rw [Zuq,Z3 (Z10l p),Z3 Zyv,Z1v,hn]
 exact Zv5 hk p _ 32 n 0 (by omega)
theorem Z074 {k:LI} (hk:Byt k) {p:Q3} {P:G} (hp:Zr1 p P):Zr1 (Zuz k p 32) (Zp6 (Zci k).toNat P):=by
 have h:=Zv1 hk hp 32
 rw [Zk8] at h
 exact h
theorem Z0cj (y:Int):Zic (rn y)=some (rn (rsqr (y*y-1) (DD*(y*y)+1)).1,(rsqr (y*y-1) (DD*(y*y)+1)).2):=by
 rw [Zic,Z3 (Zki _ _),Z3 (Zk1 (by decide) (by decide)),Z3 (rsub _ _),Z3 rD,Z3 (Zki _ _),Z3 (Zk1 (by decide) (by decide)),Z3 (radd _ _),Z3 (Z07h _ _)]
theorem Z0ck (x y:Int):Zfv (rn x) (rn y)=some (rp ⟨x,y,1⟩):=by
 rw [Zfv,Z3 (Zk1 (by decide) (by decide))]
 rfl
theorem Z0dn:(4*pw 5 Zvr 256)%PP=BY:=by decide +kernel
theorem Z0dm:(rsqr (BY*BY-1) (DD*(BY*BY)+1)).1%PP=BX:=by decide +kernel
def Z097:Q3:=⟨(rsqr (BY*BY-1) (DD*(BY*BY)+1)).1,BY,1⟩
theorem Z070:Zpl=some (rp Z097):=by
 have e:rn (4*pw 5 Zvr 256)=rn BY:=by rw [<- Z03n,Z0dn]
 rw [Zpl,Z3 (Zk1 (by decide) (by decide)),Z3 (Zk1 (by decide) (by decide)),Z3 (rinv _),Z3 (Zki _ _),e,Z3 (Z0cj _)]
 show opt (Zfv (rn (rsqr (BY*BY-1) (DD*(BY*BY)+1)).1) (rn BY)) _=_
 rw [Z3 (Z0ck _ _)]
 rfl
theorem Z03i:Zr1 Z097 Z09p:=by
 constructor
 ·show fi 1≠0; decide +kernel
 ·show fi (rsqr (BY*BY-1) (DD*(BY*BY)+1)).1=fi BX*fi 1
  rw [<- Zh3,show (rsqr (BY*BY-1) (DD*(BY*BY)+1)).1%57896044618658097711785492504343953926634992332820282019728792003956564819949=BX from Z0dm]
  decide +kernel
 ·show fi BY=fi BY*fi 1; decide +kernel
theorem Zyq {k:LI} (hk:Byt k) : ∃ q,Zcn k=some (rp q)/\Zr1 q (pB k):=by
 refine ⟨_,?_,Z074 hk Z03i⟩
 rw [Zcn,Z3 Z070,Z3 (Z10j hk _)]
theorem Z03h {q:Q3} {P:G} (h:Zr1 q P):Zfu (rp q)=some (Ztw P):=by
 have hi:=Z023 Zxj h.z
 have hx:fi (q.x*pw q.z Zvr 256)=P.x:=by
  rw [Z2l,Z062,h.x]
  generalize pwF (fi q.z) (bnum Zvr 256)=i at *
  generalize fi q.z=z at *
  grind -lia -linarith (splits:=0)
 have hy:fi (q.y*pw q.z Zvr 256)=P.y:=by
  rw [Z2l,Z062,h.y]
  generalize pwF (fi q.z) (bnum Zvr 256)=i at *
  generalize fi q.z=z at *
  grind -lia -linarith (splits:=0)
 have ex:q.x*pw q.z Zvr 256%PP=fv P.x:=by rw [<- hx,Z064]
 have ey:q.y*pw q.z Zvr 256%PP=fv P.y:=by rw [<- hy,Z064]
 rw [Zfu]
 show opt (Zbc (rn q.z)) _=_
 rw [Z3 (rinv _)]
 show opt (Z24 (rn q.y) _) _=_
 rw [Z3 (Zki _ _),Z3 (Z0om _)]
 show opt (Z24 (rn q.x) _) _=_
 rw [Z3 (Zki _ _),Z3 (Z095 _),Z1v,ex,ey]
 have h31:=Z08j (n:=fv P.y) (Zxx _).1 (Zxx _).2
 unfold Ztw Zox
 rw [Zxw,Zxw]
 by_cases ho:fv P.x%2=1
 ·rw [Z1s (by simpa using ho),if_pos ho,Z0ln h31.1 h31.2,Zr,Zr,Zr,Z0u,Int.emod_eq_of_lt (by omega) (by omega)]
 ·rw [Z1e (by simpa using ho),if_neg ho]
end Go.Proofs.YtkjfpenagcdmcaaGreatDoor
namespace Go.Proofs.YtkjfpenagcdmcaaGreatDoor
open Go Go.Sx Go.RowKit
open List (replicate)
open Go.IntKind (wrap)
set_option linter.all false
set_option maxRecDepth 100000
set_option maxHeartbeats 1000000
def qV (l:LI):Nat->Int
  | 0=>0
  | n+1=>qV l n+l.getD n 0*(256:Int)^n
theorem Z56 (l:LI) (n:Nat):qV l (n+1)=qV l n+l.getD n 0*(256:Int)^n:=rfl
theorem Zym (n:Nat):0<(256:Int)^n:=Int.pow_pos (by decide)
theorem Zo6 {l r:LI} : ∀ n,(∀ i,i<n->l.getD i 0=r.getD i 0)->qV l n=qV r n
  | 0,_=>rfl
  | n+1,h=>by rw [Z56,Z56,Zo6 n (fun i hi=>h i (by omega)),h n (by omega)]
theorem Zut (l:LI) (i:Nat) (v:Int) (n:Nat) (h:n<=i):qV (Zh7 0 l i v) n=qV l n :=
  Zo6 n (fun j hj=>by rw [Z3w,if_neg (by omega)])
theorem Z034 (l:LI) (i:Nat) (v:Int) : ∀ n,i<n->qV (Zh7 0 l i v) n=qV l n+(v-l.getD i 0)*(256:Int)^i
  | 0,h=>by omega
  | n+1,h=>by
    rw [Z56,Z56,Z3w]
    by_cases hi:n=i
    · subst hi
      rw [if_pos rfl,Zut l n v n (Nat.le_refl _),Int.sub_mul]
      omega
    · rw [if_neg hi,Z034 l i v n (by omega)]
      omega
theorem Z08y {l:LI} {m:Nat} (h:l.length<=m) : ∀ n,m<=n->qV l n=qV l m
  | 0,hn=>by rw [show m=0 by omega]
  | n+1,hn=>by
    by_cases e:m=n+1
    · rw [e]
    · rw [Z56,Ze9 (show l.length<=n by omega),Z08y h n (by omega)]; omega
theorem Zjz {l:LI} (h:Byt l) : ∀ n,0<=qV l n/\qV l n<(256:Int)^n
  | 0=>by show (0:Int)<=0/\(0:Int)<1; omega
  | n+1=>by
    have ih:=Zjz h n
    have h1:=h n
    have hp:=Zym n
    rw [Z56,Int.pow_succ]
    generalize (256:Int)^n=w at *
    generalize l.getD n 0=x at *
    generalize qV l n=v at *
    have a:0<=x*w:=Int.mul_nonneg h1.1 (by omega)
    have b:x*w<=255*w:=Int.mul_le_mul_of_nonneg_right (by omega) (by omega)
    omega
theorem Zs1 {l:LI} {v:Int} (h:Byt l) (hv:0<=v/\v<256):Byt (l ++ [v]):=by
  intro i
  by_cases hi:i<l.length
  · have:(l ++ [v]).getD i 0=l.getD i 0:=by simp [List.getD_eq_getElem?_getD,List.getElem?_append_left hi]
    rw [this]; exact h i
  · by_cases h2:i=l.length
    · have:(l ++ [v]).getD i 0=v:=by subst h2; simp [List.getD_eq_getElem?_getD]
      rw [this]; exact hv
    · rw [Ze9 (by simp; omega)]; decide
theorem Z5n:Byt []:=fun i=>by
  have:([]:LI).getD i 0=0:=rfl
  rw [this]; decide
theorem Zs4 {l:LI} {i:Nat} {v:Int} (h:Byt l) (hv:0<=v/\v<256):Byt (Zh7 0 l i v):=by
  intro j; rw [Z3w]; split
  · exact hv
  · exact h j
theorem Zs3 (n:Nat):Byt (replicate n 0):=by
  intro t
  have:(replicate n (0:Int)).getD t 0=0:=by
    simp only [List.getD]
    cases hi:(replicate n (0:Int))[t]? with
    | none=>rfl
    | some v=>simpa using (List.mem_replicate.1 (List.mem_of_getElem? hi)).2
  rw [this]; decide
theorem Z033 (m:Nat) : ∀ n,qV (replicate m 0) n=0
  | 0=>rfl
  | n+1=>by
    have:(replicate m (0:Int)).getD n 0=0:=by
      simp only [List.getD]
      cases hi:(replicate m (0:Int))[n]? with
      | none=>rfl
      | some v=>simpa using (List.mem_replicate.1 (List.mem_of_getElem? hi)).2
    rw [Z56,Z033 m n,this]; omega
theorem Zyj (l:LI) (v:Int):qV (l ++ [v]) (l.length+1)=qV l l.length+v*(256:Int)^l.length:=by
  have e:(l ++ [v]).getD l.length 0=v:=by simp [List.getD_eq_getElem?_getD]
  rw [Z56,e]
  congr 1
  exact Zo6 _ (fun i hi=>by simp [List.getD_eq_getElem?_getD,List.getElem?_append_left hi])
theorem Zt8 {l:LI} {i:Nat} {v:Int} (h:i<l.length):(Zh7 0 l i v).length=l.length:=by rw [Zgs h,List.length_set]
theorem Zsb (p:LI) (i:Nat):Zma p (i:Int)=some (p.getD i 0):=by
  rw [Zma]
  by_cases h:i<p.length
  · rw [Z1s (decide_eq_true (by omega)),Z0b (Z19 (by omega) (by omega)),Zr,Int.toNat_natCast]
  · rw [Z1e (decide_eq_false (by omega)),Ze9 (by omega)]
theorem Zp4 (p q:LI):Zft p q=some ((max p.length q.length:Nat):Int):=by
  rw [Zft]
  by_cases h:(p.length:Int)<(q.length:Int)
  · rw [Z1s (decide_eq_true h)]; congr 2; omega
  · rw [Z1e (decide_eq_false h)]; congr 2; omega
theorem Z0bk {p:LI} (hp:Byt p) (hb:p.length<1000000) (k:LI->Option (LI)) (m:Nat) : ∀ (n i:Nat),i+m=p.length->Zed p k (n+1+m) (p.take i) (i:Int)=k p:=by
  induction m with
  | zero =>
    intro n i hi
    rw [Nat.add_zero,Zed,Zlc,Z1e (decide_eq_false (by omega)),List.take_of_length_le (by omega)]
  | succ m ih =>
    intro n i hi
    have e1:=Z2u (i:=i) (by omega)
    have hx:=hp i
    have hlt:i<p.length:=by omega
    have ht:p.take i ++ [p.getD i 0]=p.take (i+1):=by
      rw [List.take_add_one,List.getD_eq_getElem?_getD,List.getElem?_eq_getElem hlt]; rfl
    rw [<- Nat.add_assoc,Zed,Zlc,Z1s (decide_eq_true (by omega)),Z0b (Z19 (by omega) (by omega))]
    simp only [Zr,e1,Int.toNat_natCast]
    rw [Zk (by omega) (by omega),Z0b (decide_eq_true (by simp only [List.length_take,List.length_singleton]; omega)),ht]
    exact ih n (i+1) (by omega)
theorem Z06j {p:LI} (hp:Byt p) (hb:p.length<1000000):Zul p=some p:=by
  obtain ⟨n,hn⟩ : ∃ n',big=n'+1+p.length:=⟨18446744073709551615-p.length,by have:big=18446744073709551616:=Z21; omega⟩
  rw [Zul,Z1v,hn]
  exact Z0bk hp hb some p.length n 0 (by omega)
def Zli:LI:=[237,211,245,92,26,99,18,88,214,156,247,162,222,249,222,20,0,0,0,0,0,0,0,0,0,0,0,0,0,0,0,16]
theorem Z03o:Zo5=some Zli:=rfl
theorem Zrp:Byt Zli:=byt_of (by decide)
theorem Zim:qV Zli 33=VL:=by decide
theorem Zrf {a b:LI} (ha:Byt a) (hb:Byt b) (k:Unit->Option Bool) (hk:k ()=some false) : ∀ (m n:Nat),m<1000000 ->
    Z9c a b k (n+1+m) ((m:Int)-1)=some (decide (qV a m<qV b m))
  | 0,n,_=>by
    rw [Nat.add_zero,Z9c,Zfp,Z1e (by decide),hk]
    simp [qV]
  | m+1,n,hm=>by
    have ih:=Zrf ha hb k hk m n (by omega)
    have e0:((m+1:Nat):Int)-1=(m:Int):=by omega
    have e1:wrap .i64 ((m:Int)-1)=(m:Int)-1:=Zk (by omega) (by omega)
    have ra:=Zjz ha m
    have rb:=Zjz hb m
    rw [e0,<- Nat.add_assoc,Z9c,Zfp,Z1s (decide_eq_true (by omega)),Z3 (Zsb _ _),Z3 (Zsb _ _)]
    rw [Z56,Z56]
    by_cases h:a.getD m 0=b.getD m 0
    · rw [Z1e (by rw [h]; simp),Zr,e1,ih,h]
      congr 1
      by_cases h2:qV a m<qV b m
      · rw [decide_eq_true h2,decide_eq_true (by omega)]
      · rw [decide_eq_false h2,decide_eq_false (by omega)]
    · rw [Z1s (by simpa using h),Z3 (Zsb _ _),Z3 (Zsb _ _)]
      congr 1
      generalize a.getD m 0=x at *
      generalize b.getD m 0=y at *
      generalize qV a m=v at *
      generalize qV b m=u at *
      have hp:=Zym m
      generalize (256:Int)^m=w at *
      by_cases h2:x<y
      · have h3:(x+1)*w<=y*w:=Int.mul_le_mul_of_nonneg_right (by omega) (by omega)
        rw [Int.add_mul,Int.one_mul] at h3
        rw [decide_eq_true h2,decide_eq_true (by omega)]
      · have h3:(y+1)*w<=x*w:=Int.mul_le_mul_of_nonneg_right (by omega) (by omega)
        rw [Int.add_mul,Int.one_mul] at h3
        rw [decide_eq_false h2,decide_eq_false (by omega)]
theorem Z0rc {a b:LI} (ha:Byt a) (hb:Byt b) (la:a.length<1000000) (lb:b.length<1000000):Zm8 a b=some (decide (qV a (max a.length b.length)<qV b (max a.length b.length))):=by
  have hm:max a.length b.length<1000000:=by omega
  have h:=Zrf ha hb (fun _=>some false) rfl
  obtain ⟨n,hn⟩ : ∃ n',big=n'+1+max a.length b.length:=⟨18446744073709551615-max a.length b.length,by have:big=18446744073709551616:=Z21; omega⟩
  rw [Zm8,Z3 (Zp4 a b),Zr,Z1v,Zk (by omega) (by omega),hn]
  exact h _ n hm
theorem Z081 {a b:LI} (ha:Byt a) (hb:Byt b) {M:Nat} (hM:M=max a.length b.length) (hl:M<1000000) (k:LI->Int->Option (LI)) (m:Nat) : ∀ (n i:Nat) (l:LI) (c:Int),i+m=M->l.length=i->Byt l->(c=0∨c=1)->qV l i+c*(256:Int)^i=qV a i+qV b i ->
    ∃ r c',Zbg a b k (n+1+m) l c (i:Int)=k r c'/\r.length=M/\Byt r/\(c'=0∨c'=1)/\qV r M+c'*(256:Int)^M=qV a M+qV b M:=by
  induction m with
  | zero =>
    intro n i l c hi hli hb' hc hv
    have e:i=M:=by omega
    subst e
    refine ⟨l,c,?_,hli,hb',hc,hv⟩
    rw [Nat.add_zero,Zbg,Zi8,Z3 (Zp4 a b),<- hM,Z1e (decide_eq_false (by omega))]
  | succ m ih =>
    intro n i l c hi hli hbl hc hv
    have e1:=Z2u (i:=i) (by omega)
    have x:=ha i
    have y:=hb i
    have w1:wrap .i64 (a.getD i 0+b.getD i 0)=a.getD i 0+b.getD i 0:=Zk (by omega) (by omega)
    have w2:wrap .i64 (a.getD i 0+b.getD i 0+c)=a.getD i 0+b.getD i 0+c:=Zk (by omega) (by omega)
    have w3:Int.tmod (a.getD i 0+b.getD i 0+c) 256=(a.getD i 0+b.getD i 0+c)%256:=Int.tmod_eq_emod_of_nonneg (by omega)
    have w4:wrap .i64 (Int.tdiv (a.getD i 0+b.getD i 0+c) 256)=(a.getD i 0+b.getD i 0+c) / 256:=by
      rw [Int.tdiv_eq_ediv_of_nonneg (by omega),Zk (by omega) (by omega)]
    obtain ⟨r,c',er,h1,h2,h3,h4⟩:=ih n (i+1) (l ++ [(a.getD i 0+b.getD i 0+c)%256]) ((a.getD i 0+b.getD i 0+c) / 256) (by omega) (by simp; omega) (Zs1 hbl (by omega)) (by omega) (by
      have:=Zyj l ((a.getD i 0+b.getD i 0+c)%256)
      rw [hli] at this
      rw [this,Z56 a,Z56 b,Int.pow_succ]
      have hd:=Int.mul_ediv_add_emod (a.getD i 0+b.getD i 0+c) 256
      generalize (a.getD i 0+b.getD i 0+c) / 256=d at *
      generalize (a.getD i 0+b.getD i 0+c)%256=q at *
      generalize a.getD i 0=xa at *
      generalize b.getD i 0=xb at *
      generalize (256:Int)^i=w at *
      generalize qV l i=v1 at *
      generalize qV a i=v2 at *
      generalize qV b i=v3 at *
      clear ih w1 w2 w3 w4 e1 this hM hl hi hc
      grind -lia -linarith (splits:=0))
    refine ⟨r,c',?_,h1,h2,h3,h4⟩
    rw [<- Nat.add_assoc,Zbg,Zi8,Z3 (Zp4 a b),<- hM,Z1s (decide_eq_true (by omega)),Z3 (Zsb _ _),Z3 (Zsb _ _)]
    simp only [Zr,e1,w1,w2,w3,w4]
    rw [Z0b (decide_eq_true (by simp only [List.length_singleton]; omega))]
    exact er
theorem sum6 {a b:LI} (ha:Byt a) (hb:Byt b) (la:a.length<100000) (lb:b.length<100000) : ∃ r,Zum a b=some r/\r.length=max a.length b.length+1/\Byt r/\qV r r.length=qV a (max a.length b.length)+qV b (max a.length b.length):=by
  obtain ⟨n,hn⟩ : ∃ n',big=n'+1+max a.length b.length:=⟨18446744073709551615-max a.length b.length,by have:big=18446744073709551616:=Z21; omega⟩
  obtain ⟨r,c,er,h1,h2,h3,h4⟩:=Z081 ha hb rfl (by omega) (fun (l86:LI) (i88:Int)=>chk (decide ((l86.length+([i88]:LI).length)*8<=140737488355328)) <|
 bnd (l86++([i88]:LI)) fun l174 =>
 some l174) (max a.length b.length) n 0 [] 0 (by omega) rfl Z5n (.inl rfl) (by show (0:Int)+0*1=0+0; omega)
  refine ⟨r ++ [c],?_,by simp [h1],Zs1 h2 (by omega),?_⟩
  · rw [Zum,Z1v,hn]
    refine er.trans ?_
    rw [Z0b (decide_eq_true (by simp only [List.length_singleton]; omega)),Zr]
  · have:=Zyj r c
    rw [h1] at this
    rw [List.length_append,h1]
    show qV (r ++ [c]) (max a.length b.length+1)=_
    rw [this,h4]
theorem Zzt {a b:LI} (ha:Byt a) (hb:Byt b) (hl:a.length<1000000) (k:LI->Option (LI)) (m:Nat) : ∀ (n i:Nat) (l:LI) (c:Int),i+m=a.length->l.length=i->Byt l->(c=0∨c=1)->qV l i=qV a i-qV b i+c*(256:Int)^i ->
    ∃ r c',Z7k a b k (n+1+m) l c (i:Int)=k r/\r.length=a.length/\Byt r/\(c'=0∨c'=1)/\qV r a.length=qV a a.length-qV b a.length+c'*(256:Int)^a.length:=by
  induction m with
  | zero =>
    intro n i l c hi hli hbl hc hv
    have e:i=a.length:=by omega
    subst e
    refine ⟨l,c,?_,hli,hbl,hc,hv⟩
    rw [Nat.add_zero,Z7k,Zdl,Z1e (decide_eq_false (by omega))]
  | succ m ih =>
    intro n i l c hi hli hbl hc hv
    have e1:=Z2u (i:=i) (by omega)
    have x:=ha i
    have y:=hb i
    have w1:wrap .i64 (a.getD i 0-b.getD i 0)=a.getD i 0-b.getD i 0:=Zk (by omega) (by omega)
    have w2:wrap .i64 (a.getD i 0-b.getD i 0-c)=a.getD i 0-b.getD i 0-c:=Zk (by omega) (by omega)
    rw [<- Nat.add_assoc,Z7k,Zdl,Z1s (decide_eq_true (by omega)),Z0b (Z19 (by omega) (by omega))]
    simp only [Zr,e1,Int.toNat_natCast]
    rw [Z3 (Zsb _ _),w1,w2,Z1v]
    by_cases hn:a.getD i 0-b.getD i 0-c<0
    · have w3:wrap .i64 (a.getD i 0-b.getD i 0-c+256)=a.getD i 0-b.getD i 0-c+256:=Zk (by omega) (by omega)
      rw [Z1s (decide_eq_true hn),w3]
      dsimp only
      rw [Z0b (decide_eq_true (by simp only [List.length_singleton]; omega))]
      refine ih n (i+1) (l ++ [a.getD i 0-b.getD i 0-c+256]) 1 (by omega) (by simp; omega) (Zs1 hbl (by omega)) (.inr rfl) ?_
      have:=Zyj l (a.getD i 0-b.getD i 0-c+256)
      rw [hli] at this
      rw [this,Z56 a,Z56 b,Int.pow_succ,hv]
      generalize a.getD i 0=xa at *
      generalize b.getD i 0=xb at *
      generalize (256:Int)^i=w at *
      generalize qV a i=v2 at *
      generalize qV b i=v3 at *
      clear ih w1 w2 w3 e1 this hl hi hc hv
      grind -lia -linarith (splits:=0)
    · rw [Z1e (decide_eq_false hn)]
      dsimp only
      rw [Z0b (decide_eq_true (by simp only [List.length_singleton]; omega))]
      refine ih n (i+1) (l ++ [a.getD i 0-b.getD i 0-c]) 0 (by omega) (by simp; omega) (Zs1 hbl (by omega)) (.inl rfl) ?_
      have:=Zyj l (a.getD i 0-b.getD i 0-c)
      rw [hli] at this
      rw [this,Z56 a,Z56 b,Int.pow_succ,hv]
      generalize a.getD i 0=xa at *
      generalize b.getD i 0=xb at *
      generalize (256:Int)^i=w at *
      generalize qV a i=v2 at *
      generalize qV b i=v3 at *
      clear ih w1 w2 e1 this hl hi hc hv
      grind -lia -linarith (splits:=0)
theorem Z0kp {a b:LI} (ha:Byt a) (hb:Byt b) (hl:a.length<1000000) (hle:qV b a.length<=qV a a.length) : ∃ r,Zjc a b=some r/\r.length=a.length/\Byt r/\qV r a.length=qV a a.length-qV b a.length:=by
  obtain ⟨n,hn⟩ : ∃ n',big=n'+1+a.length:=⟨18446744073709551615-a.length,by have:big=18446744073709551616:=Z21; omega⟩
  obtain ⟨r,c,er,h1,h2,h3,h4⟩:=Zzt ha hb hl some a.length n 0 [] 0 (by omega) rfl Z5n (.inl rfl) (by show (0:Int)=0-0+0*1; omega)
  have rr:=Zjz h2 a.length
  have ra:=Zjz ha a.length
  have rb:=Zjz hb a.length
  refine ⟨r,?_,h1,h2,?_⟩
  · rw [Zjc,Z1v,hn]; exact er
  · generalize (256:Int)^a.length=w at *
    rcases h3 with h | h <;> subst h <;> omega
theorem Z000 {p q:LI} (hp:Byt p) (hq:Byt q) {i:Nat} (hi:i<p.length) {L:Nat} (hL:i+q.length<=L) (hb:L<1000000) (m:Nat) : ∀ (n j:Nat) (l:LI) (c:Int),j+m=q.length->l.length=L->Byt l->(0<=c/\c<256) ->
    ∃ l' c',(∀ k,Z5i p q (i:Int) k (n+1+m) l c (j:Int)=k l' c')/\l'.length=L/\Byt l'/\(0<=c'/\c'<256) /\
      qV l' L+c'*(256:Int)^(i+q.length)+p.getD i 0*qV q j*(256:Int)^i=qV l L+c*(256:Int)^(i+j)+p.getD i 0*qV q q.length*(256:Int)^i/\(∀ t,i+q.length<=t->l'.getD t 0=l.getD t 0):=by
  induction m with
  | zero =>
    intro n j l c hj hl hw hc
    refine ⟨l,c,fun k=>?_,hl,hw,hc,?_,fun _ _=>rfl⟩
    · rw [Nat.add_zero,Z5i,Z9u,Z1e (decide_eq_false (by omega))]
    · rw [show j=q.length by omega]
  | succ m ih =>
    intro n j l c hj hl hw hc
    have e1:=Z2u (i:=j) (by omega)
    have e2:wrap .i64 ((i:Int)+(j:Int))=((i+j:Nat):Int):=by rw [Zk (by omega) (by omega)]; omega
    have x:=hp i
    have y:=hq j
    have z:=hw (i+j)
    have p0:0<=p.getD i 0*q.getD j 0:=Int.mul_nonneg x.1 y.1
    have p1:p.getD i 0*q.getD j 0<=255*255:=Int.mul_le_mul (by omega) (by omega) y.1 (by omega)
    have w1:wrap .i64 (p.getD i 0*q.getD j 0)=p.getD i 0*q.getD j 0:=Zk (by omega) (by omega)
    have w2:wrap .i64 (l.getD (i+j) 0+p.getD i 0*q.getD j 0)=l.getD (i+j) 0+p.getD i 0*q.getD j 0:=Zk (by omega) (by omega)
    have w3:wrap .i64 (l.getD (i+j) 0+p.getD i 0*q.getD j 0+c)=l.getD (i+j) 0+p.getD i 0*q.getD j 0+c:=Zk (by omega) (by omega)
    have w4:Int.tmod (l.getD (i+j) 0+p.getD i 0*q.getD j 0+c) 256=(l.getD (i+j) 0+p.getD i 0*q.getD j 0+c)%256:=Int.tmod_eq_emod_of_nonneg (by omega)
    have w5:wrap .i64 (Int.tdiv (l.getD (i+j) 0+p.getD i 0*q.getD j 0+c) 256)=(l.getD (i+j) 0+p.getD i 0*q.getD j 0+c) / 256:=by
      rw [Int.tdiv_eq_ediv_of_nonneg (by omega),Zk (by omega) (by omega)]
    obtain ⟨l',c',e,h1,h2,h3,h4,h5⟩:=ih n (j+1) (Zh7 0 l (i+j) ((l.getD (i+j) 0+p.getD i 0*q.getD j 0+c)%256)) ((l.getD (i+j) 0+p.getD i 0*q.getD j 0+c) / 256) (by omega) (by rw [Zt8 (by omega),hl]) (Zs4 hw (by omega)) (by omega)
    refine ⟨l',c',fun k=>?_,h1,h2,h3,?_,?_⟩
    · rw [<- Nat.add_assoc,Z5i,Z9u,Z1s (decide_eq_true (by omega))]
      simp only [Zr,e1,e2,Int.toNat_natCast,w1,w2,w3,w4,w5]
      rw [Z0b (Z19 (by omega) (by omega)),Z0b (Z19 (by omega) (by omega)),Z0b (Z19 (by omega) (by omega)),Z0b (Z19 (by omega) (by omega))]
      exact e k
    · rw [Z034 _ _ _ _ (by omega),Z56 q j,<- Nat.add_assoc,Int.pow_succ,Int.pow_add 256 i j] at h4
      rw [Int.pow_add 256 i j]
      have hd:=Int.mul_ediv_add_emod (l.getD (i+j) 0+p.getD i 0*q.getD j 0+c) 256
      generalize (l.getD (i+j) 0+p.getD i 0*q.getD j 0+c) / 256=d at *
      generalize (l.getD (i+j) 0+p.getD i 0*q.getD j 0+c)%256=r at *
      generalize (256:Int)^(i+q.length)=u1 at *
      generalize (256:Int)^i=u2 at *
      generalize (256:Int)^j=u3 at *
      generalize q.getD j 0=qj at *
      generalize p.getD i 0=pi at *
      generalize l.getD (i+j) 0=oo at *
      generalize qV l' L=a1 at *
      generalize qV l L=a2 at *
      generalize qV q j=a3 at *
      generalize qV q q.length=a4 at *
      clear e ih w1 w2 w3 w4 w5 e1 e2 hL hb hi hj h5 p0 p1 hw hp hq
      grind -lia -linarith (splits:=0)
    · intro t ht
      rw [h5 t ht,Z3w,if_neg (by omega)]
theorem Z001 {p q:LI} (hp:Byt p) (hq:Byt q) {L:Nat} (hL:p.length+q.length=L) (hb:L<1000000) (k:LI->Option (LI)) (m:Nat) : ∀ (n i:Nat) (l:LI),i+m=p.length->l.length=L->Byt l->(∀ t,i+q.length<=t->l.getD t 0=0)->qV l L=qV p i*qV q q.length ->
    ∃ l',Z5h p q k (n+1+m) l (i:Int)=k l'/\l'.length=L/\Byt l'/\qV l' L=qV p p.length*qV q q.length:=by
  induction m with
  | zero =>
    intro n i l hi hl hw hz hv
    refine ⟨l,?_,hl,hw,by rw [hv,show i=p.length by omega]⟩
    rw [Nat.add_zero,Z5h,Z9t,Z1e (decide_eq_false (by omega))]
  | succ m ih =>
    intro n i l hi hl hw hz hv
    obtain ⟨n',hn⟩ : ∃ n',big=n'+1+q.length:=⟨18446744073709551615-q.length,by have:big=18446744073709551616:=Z21; omega⟩
    obtain ⟨l',c',e,hl',hw',hc',v',z'⟩:=Z000 hp hq (i:=i) (by omega) (L:=L) (by omega) hb q.length n' 0 l 0 (by omega) hl hw (by decide)
    have e1:=Z2u (i:=i) (by omega)
    have e2:wrap .i64 ((i:Int)+(q.length:Int))=((i+q.length:Nat):Int):=by rw [Zk (by omega) (by omega)]; omega
    have hz0:l'.getD (i+q.length) 0=0:=by rw [z' _ (Nat.le_refl _),hz _ (Nat.le_refl _)]
    obtain ⟨l2,e3,hl2,hw2,v2⟩:=ih n (i+1) (Zh7 0 l' (i+q.length) c') (by omega) (by rw [Zt8 (by omega),hl']) (Zs4 hw' hc') (by
      intro t ht
      rw [Z3w,if_neg (by omega),z' t (by omega),hz t (by omega)]) (by
      rw [Z034 _ _ _ _ (by omega),hz0,Z56 p i]
      rw [hv] at v'
      have e0:qV q 0=0:=rfl
      rw [e0] at v'
      generalize (256:Int)^(i+q.length)=u1 at *
      generalize (256:Int)^i=u2 at *
      generalize qV l' L=a1 at *
      generalize qV q q.length=a4 at *
      generalize qV p i=a5 at *
      generalize p.getD i 0=a6 at *
      clear e ih e1 e2 hz hz0 z' hL hb hi hw hw' hp hq hv
      grind -lia -linarith (splits:=0))
    refine ⟨l2,?_,hl2,hw2,v2⟩
    rw [<- Nat.add_assoc,Z5h,Z9t,Z1s (decide_eq_true (by omega)),Z1v,hn]
    refine (e _).trans ?_
    simp only [Zr,e1,e2,Int.toNat_natCast]
    rw [Z0b (Z19 (by omega) (by omega))]
    exact e3
theorem Z06t {p q:LI} (hp:Byt p) (hq:Byt q) (hb:p.length+q.length<100000) : ∃ r,Zfr p q=some r/\r.length=p.length+q.length/\Byt r/\qV r r.length=qV p p.length*qV q q.length:=by
  have e1:wrap .i64 ((p.length:Int)+(q.length:Int))=((p.length+q.length:Nat):Int):=by rw [Zk (by omega) (by omega)]; omega
  obtain ⟨n,hn⟩ : ∃ n',big=n'+1+p.length:=⟨18446744073709551615-p.length,by have:big=18446744073709551616:=Z21; omega⟩
  have hz : ∀ t,(replicate (p.length+q.length) (0:Int)).getD t 0=0:=by
    intro t
    simp only [List.getD]
    cases hi:(replicate (p.length+q.length) (0:Int))[t]? with
    | none=>rfl
    | some v=>simpa using (List.mem_replicate.1 (List.mem_of_getElem? hi)).2
  obtain ⟨r,e,h1,h2,h3⟩:=Z001 hp hq (L:=p.length+q.length) rfl (by omega) some p.length n 0 (replicate (p.length+q.length) 0) (by omega) (by simp) (Zs3 _) (fun t _=>hz t) (by
    rw [Z033]
    show 0=0*_
    omega)
  refine ⟨r,?_,h1,h2,by rw [h1]; exact h3⟩
  rw [Zfr,Zr,e1,Z0b (by unfold mkB; simp; omega),Z1v,Int.toNat_natCast,hn]
  exact e
theorem Zwc (i:Nat) (k:Int->Option Int) (m:Nat) : ∀ (n t:Nat) (d:Int),t+m=i%8->(0<=d/\d<256)->Zbh (i:Int) k (n+1+m) d (t:Int)=k (d / ((2^m:Nat):Int)):=by
  induction m with
  | zero =>
    intro n t d ht hd
    rw [Nat.add_zero,Zbh,Zi9,Zr,Zsj,Z1e (decide_eq_false (by omega))]
    show k d=k (d / 1)
    rw [Int.ediv_one]
  | succ m ih =>
    intro n t d ht hd
    have e1:=Z2u (i:=t) (by omega)
    have w1:wrap .i64 (Int.tdiv d 2)=d / 2:=by rw [Int.tdiv_eq_ediv_of_nonneg hd.1,Zk (by omega) (by omega)]
    rw [<- Nat.add_assoc,Zbh,Zi9,Zr,Zsj,Z1s (decide_eq_true (by omega))]
    simp only [Zr,e1,w1]
    rw [ih n (t+1) (d / 2) (by omega) (by omega),Nat.pow_succ,Int.natCast_mul,Int.mul_comm,<- Int.ediv_ediv_of_nonneg (by decide)]
    rfl
theorem bit6 {p:LI} (hp:Byt p) {i:Nat} (hi:i<1000000):Zun p (i:Int)=some (p.getD (i / 8) 0 / ((2^(i%8):Nat):Int)%2):=by
  have hb:=hp (i / 8)
  obtain ⟨n,hn⟩ : ∃ n',big=n'+1+i%8:=⟨18446744073709551615-i%8,by have:big=18446744073709551616:=Z21; omega⟩
  have e1:wrap .i64 (Int.tdiv (i:Int) 8)=((i / 8:Nat):Int):=by
    rw [Int.tdiv_eq_ediv_of_nonneg (by omega),Zk (by omega) (by omega)]; omega
  have hpp:(0:Int)<((2^(i%8):Nat):Int):=by have:=Nat.pow_pos (n:=i%8) (show 0<2 by decide); omega
  have hq0:=Int.ediv_nonneg hb.1 (Int.le_of_lt hpp)
  rw [Zun,Zr,e1,Z3 (Zsb _ _),Z1v,hn]
  refine (Zwc i _ (i%8) n 0 _ (by omega) hb).trans ?_
  rw [Zr,Int.tmod_eq_emod_of_nonneg hq0]
theorem Z05w {b:Int} (hb:b=0∨b=1) {l0:LI} (k:LI->Option (LI)) (m:Nat) : ∀ (n i:Nat) (l:LI) (c:Int),i+m=33->l.length=33->Byt l->(c=0∨c=1)->(∀ j,i<=j->l.getD j 0=l0.getD j 0)->qV l i+c*(256:Int)^i=2*qV l0 i+b ->
    ∃ r c',Z9s k (n+1+m) l c (i:Int)=k r/\r.length=33/\Byt r/\(c'=0∨c'=1)/\qV r 33+c'*(256:Int)^33=2*qV l0 33+b:=by
  induction m with
  | zero =>
    intro n i l c hi hl hbl hc hj hv
    have e:i=33:=by omega
    subst e
    refine ⟨l,c,?_,hl,hbl,hc,hv⟩
    rw [Nat.add_zero,Z9s,Zi7,Z1e (by decide)]
  | succ m ih =>
    intro n i l c hi hl hbl hc hj hv
    have e1:=Z2u (i:=i) (by omega)
    have x:=hbl i
    have w1:wrap .i64 (2*l.getD i 0)=2*l.getD i 0:=Zk (by omega) (by omega)
    have w2:wrap .i64 (2*l.getD i 0+c)=2*l.getD i 0+c:=Zk (by omega) (by omega)
    have w3:Int.tmod (2*l.getD i 0+c) 256=(2*l.getD i 0+c)%256:=Int.tmod_eq_emod_of_nonneg (by omega)
    have w4:wrap .i64 (Int.tdiv (2*l.getD i 0+c) 256)=(2*l.getD i 0+c) / 256:=by
      rw [Int.tdiv_eq_ediv_of_nonneg (by omega),Zk (by omega) (by omega)]
    obtain ⟨r,c',er,h1,h2,h3,h4⟩:=ih n (i+1) (Zh7 0 l i ((2*l.getD i 0+c)%256)) ((2*l.getD i 0+c) / 256) (by omega) (by rw [Zt8 (by omega),hl]) (Zs4 hbl (by omega)) (by omega)
      (by intro j hji; rw [Z3w,if_neg (by omega)]; exact hj j (by omega)) (by
      rw [Z56 (Zh7 0 l i _),Zut _ _ _ _ (Nat.le_refl _),Z3w,if_pos rfl,Z56 l0,Int.pow_succ,<- hj i (Nat.le_refl _)]
      have hd:=Int.mul_ediv_add_emod (2*l.getD i 0+c) 256
      generalize (2*l.getD i 0+c) / 256=d at *
      generalize (2*l.getD i 0+c)%256=q at *
      generalize l.getD i 0=xa at *
      generalize (256:Int)^i=w at *
      generalize qV l i=v1 at *
      generalize qV l0 i=v2 at *
      clear ih w1 w2 w3 w4 e1 hj hi hc hb hbl
      grind -lia -linarith (splits:=0))
    refine ⟨r,c',?_,h1,h2,h3,h4⟩
    rw [<- Nat.add_assoc,Z9s,Zi7,Z1s (decide_eq_true (by omega))]
    simp only [Zr,e1,Int.toNat_natCast,w1,w2,w3,w4]
    rw [Z0b (Z19 (by omega) (by omega)),Z0b (Z19 (by omega) (by omega))]
    exact er
theorem Z0aj {b:Int} (hb:b=0∨b=1) {l:LI} (hl:l.length=33) (hbl:Byt l) (hs:qV l 33<VL) (k:LI->Option (LI)) : ∃ r,Z9s k big l b 0=k r/\r.length=33/\Byt r/\qV r 33=2*qV l 33+b:=by
  obtain ⟨n,hn⟩ : ∃ n,big=n+1+33:=⟨18446744073709551582,Z21⟩
  obtain ⟨r,c',er,h1,h2,h3,h4⟩:=Z05w hb (l0:=l) k 33 n 0 l b (by omega) hl hbl hb (fun _ _=>rfl) (by show 0+b*1=2*0+b; omega)
  have rr:=Zjz h2 33
  have e33:(256:Int)^33=29642774844752946028434172162224104410437116074403984394101141506025761187823616:=by decide
  refine ⟨r,by rw [hn]; exact er,h1,h2,?_⟩
  rw [e33] at h4 rr
  unfold VL at hs
  rcases h3 with h | h <;> subst h <;> omega
theorem Zsk {p:LI} (hp:Byt p) (hl:p.length<10000) {V:Nat} (hV : ∀ j,j<p.length->p.getD j 0=((V / 2^(8*j)%2^8:Nat):Int)) (k:LI->Option (LI)) : ∀ (m n:Nat) (l:LI),m<=8*p.length->l.length=33->Byt l->qV l 33=((V / 2^m%VLn:Nat):Int) ->
    ∃ r,Z8l p Zli k (n+1+m) l ((m:Int)-1)=k r/\r.length=33/\Byt r/\qV r 33=((V%VLn:Nat):Int)
  | 0,n,l,hm,h1,h2,h3=>by
    refine ⟨l,?_,h1,h2,?_⟩
    · rw [Nat.add_zero,Z8l,Zi6,Z1e (by decide)]
    · rw [h3,Nat.pow_zero,Nat.div_one]
  | m+1,n,l,hm,h1,h2,h3=>by
    have e0:((m+1:Nat):Int)-1=(m:Int):=by omega
    have e1:wrap .i64 ((m:Int)-1)=(m:Int)-1:=Zk (by omega) (by omega)
    have hbit:=Zx6 (w:=8) (N:=V) (l:=p) (L:=p.length) (i:=m) (by decide) hV (by omega)
    have hlt:qV l 33<VL:=by
      rw [h3,Zth]
      have:=Nat.mod_lt (V / 2^(m+1)) (show 0<VLn by decide)
      omega
    have hV2:V / 2^m=2*(V / 2^(m+1))+V / 2^m%2:=by
      have e:V / 2^(m+1)=V / 2^m / 2:=by rw [Nat.pow_succ,Nat.div_div_eq_div_mul]
      rw [e]; omega
    rw [e0,<- Nat.add_assoc,Z8l,Zi6,Z1s (decide_eq_true (by omega)),Z1v,Z3 (bit6 hp (by omega)),Z1v,hbit]
    have hb01:((V / 2^m%2:Nat):Int)=0∨((V / 2^m%2:Nat):Int)=1:=by omega
    obtain ⟨r,er,r1,r2,r3⟩:=Z0aj hb01 h1 h2 hlt (fun (l1750:LI)=>opt (Zm8 l1750 Zli) fun y1817 =>
 br ((!y1817)) (
 opt (Zjc l1750 Zli) fun y1820 =>
 (fun (l1679:LI)=>bnd (wrap .i64 ((m:Int)-1)) fun z1827 =>
 Z8l p Zli k (n+1+m) l1679 z1827) y1820
 ) (
 (fun (l1679:LI)=>bnd (wrap .i64 ((m:Int)-1)) fun z1827 =>
 Z8l p Zli k (n+1+m) l1679 z1827) l1750
 ))
    refine (?_ : ∃ q,_/\_)
    have hless:=Z0rc r2 Zrp (by omega) (by decide)
    have e33:max r.length Zli.length=33:=by rw [r1]; rfl
    rw [e33,Zim] at hless
    rw [h3] at r3
    by_cases hc:qV r 33<VL
    · have hv:qV r 33=((V / 2^m%VLn:Nat):Int):=by
        rw [Zth,r3] at hc
        rw [r3,hV2]
        generalize V / 2^m%2=bb at *
        generalize V / 2^(m+1)=x at *
        unfold VLn at *
        omega
      obtain ⟨q,eq,q1,q2,q3⟩:=Zsk hp hl hV k m n r (by omega) r1 r2 hv
      refine ⟨q,?_,q1,q2,q3⟩
      refine er.trans ?_
      dsimp only
      rw [Z3 hless,decide_eq_true hc,Z1e (c := !true) rfl,Zr,e1]
      exact eq
    · obtain ⟨s,es,s1,s2,s3⟩:=Z0kp r2 Zrp (by omega) (by rw [r1,Zim]; omega)
      rw [r1,Zim] at s3
      have hv:qV s 33=((V / 2^m%VLn:Nat):Int):=by
        rw [Zth,r3] at hc
        rw [Zth] at s3
        rw [s3,r3,hV2]
        generalize V / 2^m%2=bb at *
        generalize V / 2^(m+1)=x at *
        unfold VLn at *
        omega
      obtain ⟨q,eq,q1,q2,q3⟩:=Zsk hp hl hV k m n s (by omega) (by rw [s1,r1]) s2 hv
      refine ⟨q,?_,q1,q2,q3⟩
      refine er.trans ?_
      dsimp only
      rw [Z3 hless,decide_eq_false hc,Z1s (c := !false) rfl,Z3 es,Zr,e1]
      exact eq
theorem Z08x {p:LI} (hp:Byt p) : ∀ (n j:Nat),j<n->p.getD j 0=(((qV p n).toNat / 2^(8*j)%2^8:Nat):Int)
  | 0,j,h=>by omega
  | n+1,j,h=>by
    have hr:=Zjz hp n
    have hb:=hp n
    obtain ⟨v,hv⟩:=Int.eq_ofNat_of_zero_le hr.1
    obtain ⟨x,hx⟩:=Int.eq_ofNat_of_zero_le hb.1
    have hpw:(256:Int)^n=((256^n:Nat):Int):=by rw [Int.natCast_pow]; rfl
    have hvlt:v<256^n:=by
      have:=hr.2
      rw [hv,hpw] at this
      exact Int.ofNat_lt.1 this
    have hxlt:x<256:=by
      have:=hb.2
      rw [hx] at this
      exact Int.ofNat_lt.1 this
    have e:(qV p (n+1)).toNat=v+x*256^n:=by
      rw [Z56,hv,hx,hpw,<- Int.natCast_mul,<- Int.natCast_add,Int.toNat_natCast]
    rw [e,pow8]
    by_cases hj:j=n
    · subst hj
      rw [Nat.add_mul_div_right _ _ (Nat.pow_pos (by decide)),Nat.div_eq_of_lt hvlt,Nat.zero_add,hx]
      show (x:Int)=((x%256:Nat):Int)
      rw [Nat.mod_eq_of_lt hxlt]
    · have ih:=Z08x hp n j (by omega)
      rw [hv,Int.toNat_natCast,pow8] at ih
      have hs:n=j+1+(n-j-1):=by omega
      have e2:x*256^n=x*256^(n-j-1)*256*256^j:=by
        conv=>lhs; rw [hs,Nat.pow_add,Nat.pow_succ]
        ac_rfl
      rw [e2,Nat.add_mul_div_right _ _ (Nat.pow_pos (by decide))]
      rw [ih]
      show ((v / 256^j%256:Nat):Int)=(((v / 256^j+x*256^(n-j-1)*256)%256:Nat):Int)
      rw [Nat.add_mul_mod_self_right]
theorem mod6 {p:LI} (hp:Byt p) (hl:p.length<10000) : ∃ r,Zrl p=some r/\r.length=33/\Byt r/\qV r 33=qV p p.length%VL:=by
  obtain ⟨n,hn⟩ : ∃ n',big=n'+1+8*p.length:=⟨18446744073709551615-8*p.length,by have:big=18446744073709551616:=Z21; omega⟩
  have hr:=Zjz hp p.length
  obtain ⟨v,hv⟩:=Int.eq_ofNat_of_zero_le hr.1
  have hpw:(256:Int)^p.length=((256^p.length:Nat):Int):=by rw [Int.natCast_pow]; rfl
  have hvlt:v<2^(8*p.length):=by
    have:=hr.2
    rw [hv,hpw] at this
    rw [pow8]
    exact Int.ofNat_lt.1 this
  have hd:=Z08x hp p.length
  rw [hv,Int.toNat_natCast] at hd
  obtain ⟨r,er,r1,r2,r3⟩:=Zsk hp hl hd some (8*p.length) n (replicate 33 0) (Nat.le_refl _) (by simp) (Zs3 _) (by
    rw [Z033,Nat.div_eq_of_lt hvlt]; rfl)
  refine ⟨r,?_,r1,r2,?_⟩
  · have e1:wrap .i64 (8*(p.length:Int))=((8*p.length:Nat):Int):=by rw [Zk (by omega) (by omega)]; omega
    have e2:wrap .i64 (((8*p.length:Nat):Int)-1)=((8*p.length:Nat):Int)-1:=Zk (by omega) (by omega)
    rw [Zrl,Z3 Z03o,Z0b (by decide),Zr,Zr,Z1v,e1,e2,hn]
    exact er
  · rw [r3,hv,Zth]; rfl
theorem Z04m {p:LI} (hp:Byt p) (k:LI->Option (LI)) (m:Nat) : ∀ (n i:Nat) (a:LI),i+m=32->a.length=32->(∀ j,a.getD j 0=if j<i then p.getD j 0 else 0) ->
    ∃ r,Z9d p k (n+1+m) (i:Int) a=k r/\r.length=32/\(∀ j,r.getD j 0=if j<32 then p.getD j 0 else 0):=by
  induction m with
  | zero =>
    intro n i a hi hl h
    have e:i=32:=by omega
    subst e
    refine ⟨a,?_,hl,h⟩
    rw [Nat.add_zero,Z9d,Zfs,Z1e (by decide)]
  | succ m ih =>
    intro n i a hi hl h
    have e1:=Z2u (i:=i) (by omega)
    have x:=hp i
    have w1:wrap .u8 (p.getD i 0)=p.getD i 0:=by rw [Z0u]; omega
    rw [<- Nat.add_assoc,Z9d,Zfs,Z1s (decide_eq_true (by omega)),Z3 (Zsb _ _)]
    simp only [Zr,e1,w1,Int.toNat_natCast]
    rw [Z0b (Z19 (by omega) (by omega))]
    refine ih n (i+1) _ (by omega) (by rw [Z5k (by omega),hl]) ?_
    intro j
    rw [Z1a,h j]
    by_cases hj:j=i
    · subst hj; rw [if_pos rfl,if_pos (by omega)]
    · rw [if_neg hj]
      by_cases h2:j<i
      · rw [if_pos h2,if_pos (by omega)]
      · rw [if_neg h2,if_neg (by omega)]
theorem Zsz (p:LI):qV p 32=Zci p:=by
  simp only [qV]
  have e0:(256:Int)^0=1:=by decide
  have e1:(256:Int)^1=256:=by decide
  have e2:(256:Int)^2=65536:=by decide
  have e3:(256:Int)^3=16777216:=by decide
  have e4:(256:Int)^4=4294967296:=by decide
  have e5:(256:Int)^5=1099511627776:=by decide
  have e6:(256:Int)^6=281474976710656:=by decide
  have e7:(256:Int)^7=72057594037927936:=by decide
  have e8:(256:Int)^8=18446744073709551616:=by decide
  have e9:(256:Int)^9=4722366482869645213696:=by decide
  have e10:(256:Int)^10=1208925819614629174706176:=by decide
  have e11:(256:Int)^11=309485009821345068724781056:=by decide
  have e12:(256:Int)^12=79228162514264337593543950336:=by decide
  have e13:(256:Int)^13=20282409603651670423947251286016:=by decide
  have e14:(256:Int)^14=5192296858534827628530496329220096:=by decide
  have e15:(256:Int)^15=1329227995784915872903807060280344576:=by decide
  have e16:(256:Int)^16=340282366920938463463374607431768211456:=by decide
  have e17:(256:Int)^17=87112285931760246646623899502532662132736:=by decide
  have e18:(256:Int)^18=22300745198530623141535718272648361505980416:=by decide
  have e19:(256:Int)^19=5708990770823839524233143877797980545530986496:=by decide
  have e20:(256:Int)^20=1461501637330902918203684832716283019655932542976:=by decide
  have e21:(256:Int)^21=374144419156711147060143317175368453031918731001856:=by decide
  have e22:(256:Int)^22=95780971304118053647396689196894323976171195136475136:=by decide
  have e23:(256:Int)^23=24519928653854221733733552434404946937899825954937634816:=by decide
  have e24:(256:Int)^24=6277101735386680763835789423207666416102355444464034512896:=by decide
  have e25:(256:Int)^25=1606938044258990275541962092341162602522202993782792835301376:=by decide
  have e26:(256:Int)^26=411376139330301510538742295639337626245683966408394965837152256:=by decide
  have e27:(256:Int)^27=105312291668557186697918027683670432318895095400549111254310977536:=by decide
  have e28:(256:Int)^28=26959946667150639794667015087019630673637144422540572481103610249216:=by decide
  have e29:(256:Int)^29=6901746346790563787434755862277025452451108972170386555162524223799296:=by decide
  have e30:(256:Int)^30=1766847064778384329583297500742918515827483896875618958121606201292619776:=by decide
  have e31:(256:Int)^31=452312848583266388373324160190187140051835877600158453279131187530910662656:=by decide
  rw [e0,e1,e2,e3,e4,e5,e6,e7,e8,e9,e10,e11,e12,e13,e14,e15,e16,e17,e18,e19,e20,e21,e22,e23,e24,e25,e26,e27,e28,e29,e30,e31]
  unfold Zci
  omega
theorem Z0c3 (p:LI):qV p 64=wval p:=by
  simp only [qV]
  have e0:(256:Int)^0=1:=by decide
  have e1:(256:Int)^1=256:=by decide
  have e2:(256:Int)^2=65536:=by decide
  have e3:(256:Int)^3=16777216:=by decide
  have e4:(256:Int)^4=4294967296:=by decide
  have e5:(256:Int)^5=1099511627776:=by decide
  have e6:(256:Int)^6=281474976710656:=by decide
  have e7:(256:Int)^7=72057594037927936:=by decide
  have e8:(256:Int)^8=18446744073709551616:=by decide
  have e9:(256:Int)^9=4722366482869645213696:=by decide
  have e10:(256:Int)^10=1208925819614629174706176:=by decide
  have e11:(256:Int)^11=309485009821345068724781056:=by decide
  have e12:(256:Int)^12=79228162514264337593543950336:=by decide
  have e13:(256:Int)^13=20282409603651670423947251286016:=by decide
  have e14:(256:Int)^14=5192296858534827628530496329220096:=by decide
  have e15:(256:Int)^15=1329227995784915872903807060280344576:=by decide
  have e16:(256:Int)^16=340282366920938463463374607431768211456:=by decide
  have e17:(256:Int)^17=87112285931760246646623899502532662132736:=by decide
  have e18:(256:Int)^18=22300745198530623141535718272648361505980416:=by decide
  have e19:(256:Int)^19=5708990770823839524233143877797980545530986496:=by decide
  have e20:(256:Int)^20=1461501637330902918203684832716283019655932542976:=by decide
  have e21:(256:Int)^21=374144419156711147060143317175368453031918731001856:=by decide
  have e22:(256:Int)^22=95780971304118053647396689196894323976171195136475136:=by decide
  have e23:(256:Int)^23=24519928653854221733733552434404946937899825954937634816:=by decide
  have e24:(256:Int)^24=6277101735386680763835789423207666416102355444464034512896:=by decide
  have e25:(256:Int)^25=1606938044258990275541962092341162602522202993782792835301376:=by decide
  have e26:(256:Int)^26=411376139330301510538742295639337626245683966408394965837152256:=by decide
  have e27:(256:Int)^27=105312291668557186697918027683670432318895095400549111254310977536:=by decide
  have e28:(256:Int)^28=26959946667150639794667015087019630673637144422540572481103610249216:=by decide
  have e29:(256:Int)^29=6901746346790563787434755862277025452451108972170386555162524223799296:=by decide
  have e30:(256:Int)^30=1766847064778384329583297500742918515827483896875618958121606201292619776:=by decide
  have e31:(256:Int)^31=452312848583266388373324160190187140051835877600158453279131187530910662656:=by decide
  have e32:(256:Int)^32=115792089237316195423570985008687907853269984665640564039457584007913129639936:=by decide
  have e33:(256:Int)^33=29642774844752946028434172162224104410437116074403984394101141506025761187823616:=by decide
  have e34:(256:Int)^34=7588550360256754183279148073529370729071901715047420004889892225542594864082845696:=by decide
  have e35:(256:Int)^35=1942668892225729070919461906823518906642406839052139521251812409738904285205208498176:=by decide
  have e36:(256:Int)^36=497323236409786642155382248146820840100456150797347717440463976893159497012533375533056:=by decide
  have e37:(256:Int)^37=127314748520905380391777855525586135065716774604121015664758778084648831235208544136462336:=by decide
  have e38:(256:Int)^38=32592575621351777380295131014550050576823494298654980010178247189670100796213387298934358016:=by decide
  have e39:(256:Int)^39=8343699359066055009355553539724812947666814540455674882605631280555545803830627148527195652096:=by decide
  have e40:(256:Int)^40=2135987035920910082395021706169552114602704522356652769947041607822219725780640550022962086936576:=by decide
  have e41:(256:Int)^41=546812681195752981093125556779405341338292357723303109106442651602488249799843980805878294255763456:=by decide
  have e42:(256:Int)^42=139984046386112763159840142535527767382602843577165595931249318810236991948760059086304843329475444736:=by decide
  have e43:(256:Int)^43=35835915874844867368919076489095108449946327955754392558399825615420669938882575126094039892345713852416:=by decide
  have e44:(256:Int)^44=9173994463960286046443283581208347763186259956673124494950355357547691504353939232280074212440502746218496:=by decide
  have e45:(256:Int)^45=2348542582773833227889480596789337027375682548908319870707290971532209025114608443463698998384768703031934976:=by decide
  have e46:(256:Int)^46=601226901190101306339707032778070279008174732520529886901066488712245510429339761526706943586500787976175353856:=by decide
  have e47:(256:Int)^47=153914086704665934422965000391185991426092731525255651046673021110334850669910978950836977558144201721900890587136:=by decide
  have e48:(256:Int)^48=39402006196394479212279040100143613805079739270465446667948293404245721771497210611414266254884915640806627990306816:=by decide
  have e49:(256:Int)^49=10086913586276986678343434265636765134100413253239154346994763111486904773503285916522052161250538404046496765518544896:=by decide
  have e50:(256:Int)^50=2582249878086908589655919172003011874329705792829223512830659356540647622016841194629645353280137831435903171972747493376:=by decide
  have e51:(256:Int)^51=661055968790248598951915308032771039828404682964281219284648795274405791236311345825189210439715284847591212025023358304256:=by decide
  have e52:(256:Int)^52=169230328010303641331690318856389386196071598838855992136870091590247882556495704531248437872567112920983350278405979725889536:=by decide
  have e53:(256:Int)^53=43322963970637732180912721627235682866194329302747133987038743447103457934462900359999600095377180907771737671271930809827721216:=by decide
  have e54:(256:Int)^54=11090678776483259438313656736572334813745748301503266300681918322458485231222502492159897624416558312389564843845614287315896631296:=by decide
  have e55:(256:Int)^55=2839213766779714416208296124562517712318911565184836172974571090549372219192960637992933791850638927971728600024477257552869537611776:=by decide
  have e56:(256:Int)^56=726838724295606890549323807888004534353641360687318060281490199180639288113397923326191050713763565560762521606266177933534601628614656:=by decide
  have e57:(256:Int)^57=186070713419675363980626894819329160794532188335953423432061490990243657757029868371504908982723472783555205531204141550984858016925351936:=by decide
  have e58:(256:Int)^58=47634102635436893179040485073748265163400240214004076398607741693502376385799646303105256699577209032590132615988260237052123652332890095616:=by decide
  have e59:(256:Int)^59=12194330274671844653834364178879555881830461494785043558043581873536608354764709453594945715091765512343073949692994620685343654997219864477696:=by decide
  have e60:(256:Int)^60=3121748550315992231381597229793166305748598142664971150859156959625371738819765620120306103063491971159826931121406622895447975679288285306290176:=by decide
  have e61:(256:Int)^61=799167628880894011233688890827050574271641124522232614619944181664095165137859998750798362384253944616915694367080095461234681773897801038410285056:=by decide
  have e62:(256:Int)^62=204586912993508866875824356051724947013540127877691549342705710506008362275292159680204380770369009821930417757972504438076078534117837065833032974336:=by decide
  have e63:(256:Int)^63=52374249726338269920211035149241586435466272736689036631732661889538140742474792878132321477214466514414186946040961136147476104734166288853256441430016:=by decide
  rw [e0,e1,e2,e3,e4,e5,e6,e7,e8,e9,e10,e11,e12,e13,e14,e15,e16,e17,e18,e19,e20,e21,e22,e23,e24,e25,e26,e27,e28,e29,e30,e31,e32,e33,e34,e35,e36,e37,e38,e39,e40,e41,e42,e43,e44,e45,e46,e47,e48,e49,e50,e51,e52,e53,e54,e55,e56,e57,e58,e59,e60,e61,e62,e63]
  unfold wval
  omega
theorem Z0p2 {p:LI} (hp:Byt p) (hl:p.length=33) (hs:qV p 33<VL):Zm9 p=some (byt (qV p 33)):=by
  obtain ⟨n,hn⟩ : ∃ n,big=n+1+32:=⟨18446744073709551583,Z21⟩
  obtain ⟨r,er,r1,r2⟩:=Z04m hp some 32 n 0 (replicate 32 0) (by omega) (by simp) (by
    intro j
    rw [if_neg (by omega)]
    simp only [List.getD]
    cases hi:(replicate 32 (0:Int))[j]? with
    | none=>rfl
    | some v=>simpa using (List.mem_replicate.1 (List.mem_of_getElem? hi)).2)
  rw [Zm9,Z1v,hn]
  refine er.trans ?_
  congr 1
  have br:Byt r:=by
    intro j; rw [r2]; split
    · exact hp j
    · decide
  have hr:=Zjz hp 32
  have h33:qV p 33=qV p 32+p.getD 32 0*(256:Int)^32:=Z56 p 32
  have e32:(256:Int)^32=115792089237316195423570985008687907853269984665640564039457584007913129639936:=by decide
  have hb:=hp 32
  rw [e32] at h33 hr
  have h0:qV p 33=qV p 32:=by
    unfold VL at hs
    omega
  have hv:Zci r=qV p 33:=by
    rw [h0,<- Zsz]
    exact Zo6 32 (fun i hi=>by rw [r2,if_pos hi])
  rw [<- hv,Zxl br r1]
theorem Z0ci {p:LI} (hp:Byt p) (l:p.length=64):Zdk p=some (byt (wval p%VL)):=by
  have e:tk p 0 64=p:=Zbt l
  obtain ⟨r,er,r1,r2,r3⟩:=mod6 hp (by omega)
  have h:=Zti (qV p p.length)
  rw [Zdk,e,Z3 (Z06j hp (by omega)),Z3 er,Z3 (Z0p2 r2 r1 (by rw [r3]; exact h.2)),r3,l,Z0c3]
theorem Z0cg {p q r:LI} (hp:Byt p) (hq:Byt q) (hr:Byt r) (lp:p.length=32) (lq:q.length=32) (lr:r.length=32):Zfq p q r=some (byt ((Zci p*Zci q+Zci r)%VL)):=by
  have e1:tk p 0 32=p:=Zbt lp
  have e2:tk q 0 32=q:=Zbt lq
  have e3:tk r 0 32=r:=Zbt lr
  obtain ⟨a,ea,a1,a2,a3⟩:=Z06t hp hq (by omega)
  obtain ⟨b,eb,b1,b2,b3⟩:=sum6 a2 hr (by omega) (by omega)
  obtain ⟨c,ec,c1,c2,c3⟩:=mod6 b2 (by omega)
  have h:=Zti (qV b b.length)
  rw [Zfq,e1,e2,e3,Z3 (Z06j hp (by omega)),Z3 (Z06j hq (by omega)),Z3 ea,Z3 (Z06j hr (by omega)),Z3 eb,Z3 ec,Z3 (Z0p2 c2 c1 (by rw [c3]; exact h.2)),c3,b3]
  have m1:max a.length r.length=64:=by rw [a1,lp,lq,lr]; rfl
  have v1:qV a 64=Zci p*Zci q:=by
    rw [a1,lp,lq] at a3
    have:qV a 64=qV p 32*qV q 32:=a3
    rw [this,Zsz,Zsz]
  have v2:qV r 64=Zci r:=by rw [Z08y (l:=r) (m:=32) (by omega) 64 (by omega),Zsz]
  rw [m1,v1,v2]
end Go.Proofs.YtkjfpenagcdmcaaGreatDoor
namespace Go.Proofs.YtkjfpenagcdmcaaGreatDoor
open Go Go.Sx Go.RowKit
open Go.IntKind (wrap)
set_option linter.all false
set_option maxRecDepth 100000
set_option maxHeartbeats 1000000
def beV (l:LI) (o:Nat):Int:=(((((((l.getD o 0*256+l.getD (o+1) 0)*256+l.getD (o+2) 0)*256+l.getD (o+3) 0)*256+l.getD (o+4) 0)*256+l.getD (o+5) 0)*256+l.getD (o+6) 0)*256+l.getD (o+7) 0)
theorem Z0qe {x b:Int} (hx:0<=x/\x<72057594037927936) (hb:0<=b/\b<256):Z4 .or .u64 (Zn .u64 x 8) b=x*256+b:=by
 have h:=Zis .u64 (x:=x) (n:=8) (by decide)
 have e:((2^8:Nat):Int)=256:=by decide
 rw [e,Ze (by omega) (by omega)] at h
 have h2:Zn .u64 x 8=x*256:=h
 rw [h2]
 exact Zyd 8 (a:=x) rfl hx.1 hb.1 hb.2 (by omega)
theorem Z02b (y:Bool×LI) (hy:y.2.length=8) (hb:Byt y.2):Z15 y (fun i49=>some (i49,(!y.1))) big 0 0=some (beV y.2 0,!y.1):=by
 obtain ⟨n,hn⟩ : ∃ n,big=n+1+1+1+1+1+1+1+1+1:=⟨18446744073709551607,Z21⟩
 have step : ∀ (n i:Nat) (x:Int),i<8->(0<=x/\x<72057594037927936)->Z15 y (fun i49=>some (i49,(!y.1))) (n+1) x (i:Int)=Z15 y (fun i49=>some (i49,(!y.1))) n (x*256+y.2.getD i 0) ((i+1:Nat):Int):=by
  intro n i x hi hx
  have b:=hb i
  have e1:=Z2u (i:=i) (by omega)
  rw [Z15,Z3o,Z1s (decide_eq_true (by omega)),Z0b (Z19 (by omega) (by omega))]
  simp only [Zr,e1,Int.toNat_natCast]
  rw [Ze b.1 (by omega),Z0qe hx b]
 have b0:=hb 0
 have b1:=hb 1
 have b2:=hb 2
 have b3:=hb 3
 have b4:=hb 4
 have b5:=hb 5
 have b6:=hb 6
 have b7:=hb 7
 rw [hn]
 have s0:=step (n+1+1+1+1+1+1+1+1) 0 0 (by decide) (by decide)
 have s1:=step (n+1+1+1+1+1+1+1) 1 (0*256+y.2.getD 0 0) (by decide) (by omega)
 have s2:=step (n+1+1+1+1+1+1) 2 ((0*256+y.2.getD 0 0)*256+y.2.getD 1 0) (by decide) (by omega)
 have s3:=step (n+1+1+1+1+1) 3 (((0*256+y.2.getD 0 0)*256+y.2.getD 1 0)*256+y.2.getD 2 0) (by decide) (by omega)
 have s4:=step (n+1+1+1+1) 4 ((((0*256+y.2.getD 0 0)*256+y.2.getD 1 0)*256+y.2.getD 2 0)*256+y.2.getD 3 0) (by decide) (by omega)
 have s5:=step (n+1+1+1) 5 (((((0*256+y.2.getD 0 0)*256+y.2.getD 1 0)*256+y.2.getD 2 0)*256+y.2.getD 3 0)*256+y.2.getD 4 0) (by decide) (by omega)
 have s6:=step (n+1+1) 6 ((((((0*256+y.2.getD 0 0)*256+y.2.getD 1 0)*256+y.2.getD 2 0)*256+y.2.getD 3 0)*256+y.2.getD 4 0)*256+y.2.getD 5 0) (by decide) (by omega)
 have s7:=step (n+1) 7 (((((((0*256+y.2.getD 0 0)*256+y.2.getD 1 0)*256+y.2.getD 2 0)*256+y.2.getD 3 0)*256+y.2.getD 4 0)*256+y.2.getD 5 0)*256+y.2.getD 6 0) (by decide) (by omega)
 refine s0.trans (s1.trans (s2.trans (s3.trans (s4.trans (s5.trans (s6.trans (s7.trans ?_)))))))
 rw [Z15,Z3o,Z1e (decide_eq_false (by rw [hy]; omega))]
 unfold beV
 simp only [Nat.zero_add]
 congr 2
 omega
theorem Z04u {l:LI} (hl:l.length=8) (hb:Byt l):Zpd l=some (beV l 0):=by
 obtain ⟨n,hn⟩ : ∃ n,big=n+1+1+1+1+1+1+1+1+1:=⟨18446744073709551607,Z21⟩
 have step : ∀ (n i:Nat) (x:Int),i<8->(0<=x/\x<72057594037927936)->Z83 l some (n+1) x (i:Int)=Z83 l some n (x*256+l.getD i 0) ((i+1:Nat):Int):=by
  intro n i x hi hx
  have b:=hb i
  have e1:=Z2u (i:=i) (by omega)
  rw [Z83,Zfl,Z1s (decide_eq_true (by omega))]
  simp only [Zr,e1,Int.toNat_natCast]
  rw [Z0b (Z19 (by omega) (by omega)),Ze (x:=x*256) (by omega) (by omega),Ze b.1 (by omega),Ze (by omega) (by omega)]
 have b0:=hb 0
 have b1:=hb 1
 have b2:=hb 2
 have b3:=hb 3
 have b4:=hb 4
 have b5:=hb 5
 have b6:=hb 6
 have b7:=hb 7
 rw [Zpd,Z1v,hn]
 have s0:=step (n+1+1+1+1+1+1+1+1) 0 0 (by decide) (by decide)
 have s1:=step (n+1+1+1+1+1+1+1) 1 (0*256+l.getD 0 0) (by decide) (by omega)
 have s2:=step (n+1+1+1+1+1+1) 2 ((0*256+l.getD 0 0)*256+l.getD 1 0) (by decide) (by omega)
 have s3:=step (n+1+1+1+1+1) 3 (((0*256+l.getD 0 0)*256+l.getD 1 0)*256+l.getD 2 0) (by decide) (by omega)
 have s4:=step (n+1+1+1+1) 4 ((((0*256+l.getD 0 0)*256+l.getD 1 0)*256+l.getD 2 0)*256+l.getD 3 0) (by decide) (by omega)
 have s5:=step (n+1+1+1) 5 (((((0*256+l.getD 0 0)*256+l.getD 1 0)*256+l.getD 2 0)*256+l.getD 3 0)*256+l.getD 4 0) (by decide) (by omega)
 have s6:=step (n+1+1) 6 ((((((0*256+l.getD 0 0)*256+l.getD 1 0)*256+l.getD 2 0)*256+l.getD 3 0)*256+l.getD 4 0)*256+l.getD 5 0) (by decide) (by omega)
 have s7:=step (n+1) 7 (((((((0*256+l.getD 0 0)*256+l.getD 1 0)*256+l.getD 2 0)*256+l.getD 3 0)*256+l.getD 4 0)*256+l.getD 5 0)*256+l.getD 6 0) (by decide) (by omega)
 refine s0.trans (s1.trans (s2.trans (s3.trans (s4.trans (s5.trans (s6.trans (s7.trans ?_)))))))
 rw [Z83,Zfl,Z1e (by decide)]
 unfold beV
 simp only [Nat.zero_add]
 congr 1
 omega
theorem Z9m (p:LI) (o i:Nat) (hi:i<8):((p.drop o).take 8).getD i 0=p.getD (o+i) 0:=by
 simp [List.getD_eq_getElem?_getD,List.getElem?_take,hi,List.getElem?_drop]
theorem Zxo {p:LI} (h:Byt p) (o:Nat):Byt ((p.drop o).take 8):=by
 intro i
 by_cases hi:i<8
 ·rw [Z9m p o i hi]; exact h _
 ·rw [Ze9 (by rw [List.length_take]; omega)]; decide
theorem Z01d (p:LI) (o:Nat):beV ((p.drop o).take 8) 0=beV p o:=by
 unfold beV
 simp only [Z9m _ _ _ (show 0<8 by decide),Z9m _ _ (0+1) (by decide),Z9m _ _ (0+2) (by decide),Z9m _ _ (0+3) (by decide),Z9m _ _ (0+4) (by decide),Z9m _ _ (0+5) (by decide),Z9m _ _ (0+6) (by decide),Z9m _ _ (0+7) (by decide),Nat.zero_add,Nat.add_zero]
theorem Z08e:Z3h=some 64:=by kernel_rfl
theorem Z02a {p:LI} (h:Byt p) (l:p.length=128) {t:Nat} (ht:t<16):Z5a p ((8*t:Nat):Int)=some (beV p (8*t),true):=by
 have e1:wrap .i64 (Int.tdiv 64 8)=8:=by decide
 have e2:wrap .i64 ((p.length:Int)-8)=120:=by rw [l]; decide
 have e3:wrap .i64 (((8*t:Nat):Int)+8)=((8*t+8:Nat):Int):=by rw [Zk (by omega) (by omega)]; omega
 have hlen:((p.drop (8*t)).take (8*t+8-8*t)).length=8:=by rw [List.length_take,List.length_drop,l]; omega
 have hp:Z4r p ((8*t:Nat):Int)=some (false,(p.drop (8*t)).take (8*t+8-8*t)):=by
  rw [Z4r,Z3 Z08e]
  simp only [Zr,e1,e2]
  rw [Z1e (by simp; omega)]
  simp only [e3,Int.toNat_natCast]
  rw [Z0b (by simp [Zqi]; omega),Z0b (decide_eq_true (by rw [hlen]; decide))]
 have e8:8*t+8-8*t=8:=by omega
 rw [Z5a,Z3 hp,Z1v,e8]
 have:=Z02b (false,(p.drop (8*t)).take 8) (by rw [e8] at hlen; exact hlen) (Zxo h _)
 refine this.trans ?_
 rw [Z01d]; rfl
theorem Z0p3 {p:LI} (l:p.length=128):tk p 0 128=p:=Zbt l
def rot (x:Int) (n m:Int):Int:=Z4 .or .u64 (Zx .u64 x n) (Zn .u64 x m)
def sg0 (x:Int):Int:=Z4 .xor .u64 (Z4 .xor .u64 (rot x 1 63) (rot x 8 56)) (Zx .u64 x 7)
def sg1 (x:Int):Int:=Z4 .xor .u64 (Z4 .xor .u64 (rot x 19 45) (rot x 61 3)) (Zx .u64 x 6)
def bs1 (x:Int):Int:=Z4 .xor .u64 (Z4 .xor .u64 (rot x 14 50) (rot x 18 46)) (rot x 41 23)
def bs0 (x:Int):Int:=Z4 .xor .u64 (Z4 .xor .u64 (rot x 28 36) (rot x 34 30)) (rot x 39 25)
theorem Z0qg (x:Int):Zao x 19 61 6=some (sg1 x):=by kernel_rfl
theorem Z0qf (x:Int):Zao x 1 8 7=some (sg0 x):=by kernel_rfl
theorem mix1 (x:Int):Zct x 14 18 41=some (bs1 x):=by kernel_rfl
theorem mix0 (x:Int):Zct x 28 34 39=some (bs0 x):=by kernel_rfl
theorem Z0or (x:Int):Z06u x=some (sg0 x):=by kernel_rfl
theorem Z0os (x:Int):Z06v x=some (sg1 x):=by kernel_rfl
def Zsn (p l:LI) (n:Nat):Int:=if n<16 then beV p (8*n) else wrap .u64 (wrap .u64 (wrap .u64 (sg1 (l.getD (n-2) 0)+l.getD (n-7) 0)+sg0 (l.getD (n-15) 0))+l.getD (n-16) 0)
def wl (p:LI):Nat->LI
 | 0=>[]
 | n+1=>wl p n ++ [Zsn p (wl p n) n]
theorem Zqa (p:LI) : ∀ n,(wl p n).length=n
 | 0=>rfl
 | n+1=>by show (wl p n ++ [_]).length=_; rw [List.length_append,Zqa p n]; rfl
theorem Z0d5 (p:LI) (n j:Nat) (h:j<n):(wl p (n+1)).getD j 0=(wl p n).getD j 0:=by
 show (wl p n ++ [_]).getD j 0=_
 simp [List.getD_eq_getElem?_getD,List.getElem?_append_left (show j<(wl p n).length by rw [Zqa]; exact h)]
theorem Z0d6 (p:LI) (n:Nat):(wl p (n+1)).getD n 0=Zsn p (wl p n) n:=by
 show (wl p n ++ [_]).getD n 0=_
 have:=Zqa p n
 simp [List.getD_eq_getElem?_getD,this]
theorem Zb3 {i k:Nat} (h:k<=i) (hi:i<1000000):wrap .i64 ((i:Int)-(k:Int))=((i-k:Nat):Int):=by rw [Zk (by omega) (by omega)]; omega
theorem Z00h {p:LI} (h:Byt p) (l:p.length=128) (k:LI->Option (LI)) (m:Nat) : ∀ (n i:Nat) (a:LI),i+m=80->a.length=80->(∀ j,j<i->a.getD j 0=(wl p i).getD j 0) ->
  ∃ c,Z1y p k (n+1+m) (i:Int) a=k c/\c.length=80/\(∀ j,j<80->c.getD j 0=(wl p 80).getD j 0):=by
 induction m with
 | zero =>
  intro n i a hi hl hj
  have e:i=80:=by omega
  subst e
  refine ⟨a,?_,hl,hj⟩
  rw [Nat.add_zero,Z1y,Z5l,Z1e (by decide)]
 | succ m ih =>
  intro n i a hi hl hj
  have e1:=Z2u (i:=i) (by omega)
  have fin : ∀ z,z=Zsn p (wl p i) i->∃ c,Z1y p k (n+1+m) ((i+1:Nat):Int) (Z2g a i z)=k c/\c.length=80/\(∀ j,j<80->c.getD j 0=(wl p 80).getD j 0):=by
   intro z hz
   refine ih n (i+1) (Z2g a i z) (by omega) (by rw [Z5k (by omega),hl]) ?_
   intro j hji
   rw [Z1a]
   by_cases hjj:j=i
   ·subst hjj; rw [if_pos rfl,Z0d6,hz]
   ·rw [if_neg hjj,Z0d5 p i j (by omega)]; exact hj j (by omega)
  rw [<- Nat.add_assoc,Z1y,Z5l,Z1s (decide_eq_true (by omega)),Z1v]
  by_cases h16:i<16
  ·have e8:wrap .i64 (8*(i:Int))=((8*i:Nat):Int):=by rw [Zk (by omega) (by omega)]; omega
   rw [Z1s (decide_eq_true (by omega)),Zr,e8,Z0p3 l,Z3 (Z02a h l h16),Z0b (Z19 (by omega) (by omega))]
   simp only [Zr,e1,Int.toNat_natCast]
   exact fin _ (by unfold Zsn; rw [if_pos h16])
  ·have m2:wrap .i64 ((i:Int)-2)=((i-2:Nat):Int):=Zb3 (k:=2) (by omega) (by omega)
   have m7:wrap .i64 ((i:Int)-7)=((i-7:Nat):Int):=Zb3 (k:=7) (by omega) (by omega)
   have m15:wrap .i64 ((i:Int)-15)=((i-15:Nat):Int):=Zb3 (k:=15) (by omega) (by omega)
   have m16:wrap .i64 ((i:Int)-16)=((i-16:Nat):Int):=Zb3 (k:=16) (by omega) (by omega)
   rw [Z1e (decide_eq_false (by omega))]
   simp only [Zr,m2,m7,m15,m16,e1,Int.toNat_natCast]
   rw [Z0b (Z19 (by omega) (by omega)),Z0b (Z19 (by omega) (by omega)),Z0b (Z19 (by omega) (by omega)),Z0b (Z19 (by omega) (by omega)),Z3 (Z0qg _),Z3 (Z0qf _),Z0b (Z19 (by omega) (by omega))]
   exact fin _ (by
    unfold Zsn
    rw [if_neg h16,hj (i-2) (by omega),hj (i-7) (by omega),hj (i-15) (by omega),hj (i-16) (by omega)])
theorem Zsi {a b:LI} {n:Nat} (ha:a.length=n) (hb:b.length=n) (h : ∀ j,j<n->a.getD j 0=b.getD j 0):a=b:=by
 apply List.ext_getElem
 ·rw [ha,hb]
 ·intro i h1 h2
  rw [<- Zsh h1,<- Zsh h2,h i (by omega)]
theorem Z07o {p:LI} (h:Byt p) (l:p.length=128):Z7z p=some (wl p 80):=by
 obtain ⟨n,hn⟩ : ∃ n,big=n+1+80:=⟨18446744073709551535,Z21⟩
 obtain ⟨c,ec,c1,c2⟩:=Z00h h l some 80 n 0 (List.replicate 80 0) (by omega) (by simp) (fun j hj=>by omega)
 rw [Z7z,Z1v,hn]
 exact ec.trans (congrArg some (Zsi c1 (Zqa p 80) c2))
theorem Zx8 {p:LI} (h:Byt p) (l:p.length=128) (k:LI->Option (LI)) (m:Nat) : ∀ (n i:Nat),i+m=16->Z6g p k (n+1+m) (wl p i) (i:Int)=k (wl p 16):=by
 induction m with
 | zero =>
  intro n i hi
  have e:i=16:=by omega
  subst e
  rw [Nat.add_zero,Z6g,Zde,Z1e (by decide)]
 | succ m ih =>
  intro n i hi
  have e1:=Z2u (i:=i) (by omega)
  have e8:wrap .i64 (8*(i:Int))=((8*i:Nat):Int):=by rw [Zk (by omega) (by omega)]; omega
  have e9:wrap .i64 (((8*i:Nat):Int)+8)=((8*i+8:Nat):Int):=by rw [Zk (by omega) (by omega)]; omega
  have e10:8*i+8-8*i=8:=by omega
  have hlen:((p.drop (8*i)).take 8).length=8:=by rw [List.length_take,List.length_drop,l]; omega
  have hw:=Zqa p i
  rw [<- Nat.add_assoc,Z6g,Zde,Z1s (decide_eq_true (by omega))]
  simp only [Zr,e8,e9,e1,Int.toNat_natCast,e10]
  rw [Z0b (by simp [Zqi]; omega),Z3 (Z04u hlen (Zxo h _)),Z0b (decide_eq_true (by simp only [List.length_singleton]; omega)),Z01d]
  have e:wl p i ++ [beV p (8*i)]=wl p (i+1):=by
   show _=wl p i ++ [Zsn p (wl p i) i]
   unfold Zsn
   rw [if_pos (by omega)]
  rw [e]
  exact ih n (i+1) (by omega)
theorem Zx9 {p:LI} (k:LI->Option (LI)) (m:Nat) : ∀ (n i:Nat),i+m=80->16<=i->Z6h k (n+1+m) (wl p i) (i:Int)=k (wl p 80):=by
 induction m with
 | zero =>
  intro n i hi h16
  have e:i=80:=by omega
  subst e
  rw [Nat.add_zero,Z6h,Zdf,Z1e (by decide)]
 | succ m ih =>
  intro n i hi h16
  have e1:=Z2u (i:=i) (by omega)
  have hw:=Zqa p i
  have m2:wrap .i64 ((i:Int)-2)=((i-2:Nat):Int):=Zb3 (k:=2) (by omega) (by omega)
  have m7:wrap .i64 ((i:Int)-7)=((i-7:Nat):Int):=Zb3 (k:=7) (by omega) (by omega)
  have m15:wrap .i64 ((i:Int)-15)=((i-15:Nat):Int):=Zb3 (k:=15) (by omega) (by omega)
  have m16:wrap .i64 ((i:Int)-16)=((i-16:Nat):Int):=Zb3 (k:=16) (by omega) (by omega)
  rw [<- Nat.add_assoc,Z6h,Zdf,Z1s (decide_eq_true (by omega))]
  simp only [Zr,m2,m7,m15,m16,e1,Int.toNat_natCast]
  rw [Z0b (Z19 (by omega) (by omega)),Z0b (Z19 (by omega) (by omega)),Z0b (Z19 (by omega) (by omega)),Z0b (Z19 (by omega) (by omega)),Z3 (Z0os _),Z3 (Z0or _),Z0b (decide_eq_true (by simp only [List.length_singleton]; omega))]
  have e:wl p i ++ [wrap .u64 (wrap .u64 (wrap .u64 (sg1 ((wl p i).getD (i-2) 0)+(wl p i).getD (i-7) 0)+sg0 ((wl p i).getD (i-15) 0))+(wl p i).getD (i-16) 0)]=wl p (i+1):=by
   show _=wl p i ++ [Zsn p (wl p i) i]
   unfold Zsn
   rw [if_neg (by omega)]
  rw [e]
  exact ih n (i+1) (by omega) (by omega)
theorem Z04v {p:LI} (k:LI->Option (LI)):Z6h k big (wl p 16) 16=k (wl p 80):=by
 obtain ⟨n,hn⟩ : ∃ n,big=n+1+64:=⟨18446744073709551551,Z21⟩
 rw [hn]
 exact Zx9 k 64 n 16 (by omega) (by omega)
theorem Z042 {p:LI} (h:Byt p) (l:p.length=128):Zl7 p=some (wl p 80):=by
 have key : ∀ k:LI->Option (LI),Z6g p k big [] 0=k (wl p 16):=by
  intro k
  obtain ⟨n,hn⟩ : ∃ n,big=n+1+16:=⟨18446744073709551599,Z21⟩
  rw [hn]
  exact Zx8 h l k 16 n 0 (by omega)
 rw [Zl7,Z1v,key,Z1v,Z04v]
def rnd (s:LI) (k w:Int):LI :=
 let x:=wrap .u64 (wrap .u64 (wrap .u64 (wrap .u64 (s.getD 7 0+bs1 (s.getD 4 0))+Z4 .xor .u64 (Z4 .and .u64 (s.getD 4 0) (s.getD 5 0)) (Z4 .and .u64 (Z4 .xor .u64 18446744073709551615 (s.getD 4 0)) (s.getD 6 0)))+k)+w)
 let y:=wrap .u64 (bs0 (s.getD 0 0)+Z4 .xor .u64 (Z4 .xor .u64 (Z4 .and .u64 (s.getD 0 0) (s.getD 1 0)) (Z4 .and .u64 (s.getD 0 0) (s.getD 2 0))) (Z4 .and .u64 (s.getD 1 0) (s.getD 2 0)))
 [wrap .u64 (x+y),s.getD 0 0,s.getD 1 0,s.getD 2 0,wrap .u64 (s.getD 3 0+x),s.getD 4 0,s.getD 5 0,s.getD 6 0]
def Zk0 (w s:LI):Nat->LI
 | 0=>s
 | n+1=>rnd (Zk0 w s n) (G_table.getD n 0) (w.getD n 0)
theorem Z03v (s:LI) (k w:Int):Zo4 s k w=some (rnd s k w):=by kernel_rfl
theorem Z04l:G_rtable=G_table:=by kernel_rfl
theorem Z01x:G_rfirst=G_first:=by kernel_rfl
theorem Z0ot {w:LI} (hw:w.length=80) (s:LI) (k:LI->Option (LI)) (m:Nat) : ∀ (n i:Nat),i+m=80->Z82 w k (n+1+m) (i:Int) (Zk0 w s i)=k (Zk0 w s 80):=by
 induction m with
 | zero =>
  intro n i hi
  have e:i=80:=by omega
  subst e
  rw [Nat.add_zero,Z82,Zfj,Z1e (by decide)]
 | succ m ih =>
  intro n i hi
  have e1:=Z2u (i:=i) (by omega)
  rw [<- Nat.add_assoc,Z82,Zfj,Z1s (decide_eq_true (by omega)),Z0b (Z19 (by omega) (by omega)),Z0b (Z19 (by omega) (by omega))]
  simp only [Zr,e1,Int.toNat_natCast]
  rw [Z3 (Z03v _ _ _),Z04l]
  exact ih n (i+1) (by omega)
theorem Z0lv {w:LI} (s:LI) (k:Int->Int->Int->Int->Int->Int->Int->Int->Option (LI)) (m:Nat) : ∀ (n i:Nat),i+m=80 ->
  Z34 w k (n+1+m) ((Zk0 w s i).getD 0 0) ((Zk0 w s i).getD 1 0) ((Zk0 w s i).getD 2 0) ((Zk0 w s i).getD 3 0) ((Zk0 w s i).getD 4 0) ((Zk0 w s i).getD 5 0) ((Zk0 w s i).getD 6 0) ((Zk0 w s i).getD 7 0) (i:Int) =
  k ((Zk0 w s 80).getD 0 0) ((Zk0 w s 80).getD 1 0) ((Zk0 w s 80).getD 2 0) ((Zk0 w s 80).getD 3 0) ((Zk0 w s 80).getD 4 0) ((Zk0 w s 80).getD 5 0) ((Zk0 w s 80).getD 6 0) ((Zk0 w s 80).getD 7 0):=by
 induction m with
 | zero =>
  intro n i hi
  have e:i=80:=by omega
  subst e
  rw [Nat.add_zero,Z34,Z7y,Z1e (by decide)]
 | succ m ih =>
  intro n i hi
  have e1:=Z2u (i:=i) (by omega)
  rw [<- Nat.add_assoc,Z34,Z7y,Z1s (decide_eq_true (by omega)),Z0b (Z19 (by omega) (by omega))]
  simp only [Zr,e1,Int.toNat_natCast]
  rw [Z3 (mix1 _),Z0b (Z19 (by omega) (by omega)),Z3 (mix0 _)]
  exact ih n (i+1) (by omega)
def blk (s p:LI):LI :=
 let v:=Zk0 (wl p 80) s 80
 [wrap .u64 (v.getD 0 0+s.getD 0 0),wrap .u64 (v.getD 1 0+s.getD 1 0),wrap .u64 (v.getD 2 0+s.getD 2 0),wrap .u64 (v.getD 3 0+s.getD 3 0),wrap .u64 (v.getD 4 0+s.getD 4 0),wrap .u64 (v.getD 5 0+s.getD 5 0),wrap .u64 (v.getD 6 0+s.getD 6 0),wrap .u64 (v.getD 7 0+s.getD 7 0)]
theorem Z06q (k:LI->Option (LI)) (v s0 s1 s2 s3 s4 s5 s6 s7:Int) (a0 a1 a2 a3 a4 a5 a6 a7:Int):Z62 [a0,a1,a2,a3,a4,a5,a6,a7] k big 0 [s0,s1,s2,s3,s4,s5,s6,s7]=k [wrap .u64 (s0+a0),wrap .u64 (s1+a1),wrap .u64 (s2+a2),wrap .u64 (s3+a3),wrap .u64 (s4+a4),wrap .u64 (s5+a5),wrap .u64 (s6+a6),wrap .u64 (s7+a7)]:=by kernel_rfl
theorem Z03d (k:LI->Option (LI)) (s:LI) (a0 a1 a2 a3 a4 a5 a6 a7:Int):Zcl s k big 0 [a0,a1,a2,a3,a4,a5,a6,a7]=k [wrap .u64 (a0+s.getD 0 0),wrap .u64 (a1+s.getD 1 0),wrap .u64 (a2+s.getD 2 0),wrap .u64 (a3+s.getD 3 0),wrap .u64 (a4+s.getD 4 0),wrap .u64 (a5+s.getD 5 0),wrap .u64 (a6+s.getD 6 0),wrap .u64 (a7+s.getD 7 0)]:=by kernel_rfl
theorem Zrg {l:LI} (h:l.length=8):l = [l.getD 0 0,l.getD 1 0,l.getD 2 0,l.getD 3 0,l.getD 4 0,l.getD 5 0,l.getD 6 0,l.getD 7 0]:=by
 match l,h with
 | [a0,a1,a2,a3,a4,a5,a6,a7],_=>rfl
theorem Z07a (w s:LI) (hs:s.length=8) : ∀ n,(Zk0 w s n).length=8
 | 0=>hs
 | n+1=>rfl
theorem Z05i {s p:LI} (hs:s.length=8) (h:Byt p) (l:p.length=128):Zbr s p=some (blk s p):=by
 have key : ∀ k,Z34 (wl p 80) k big (s.getD 0 0) (s.getD 1 0) (s.getD 2 0) (s.getD 3 0) (s.getD 4 0) (s.getD 5 0) (s.getD 6 0) (s.getD 7 0) 0=k ((Zk0 (wl p 80) s 80).getD 0 0) ((Zk0 (wl p 80) s 80).getD 1 0) ((Zk0 (wl p 80) s 80).getD 2 0) ((Zk0 (wl p 80) s 80).getD 3 0) ((Zk0 (wl p 80) s 80).getD 4 0) ((Zk0 (wl p 80) s 80).getD 5 0) ((Zk0 (wl p 80) s 80).getD 6 0) ((Zk0 (wl p 80) s 80).getD 7 0):=by
  intro k
  obtain ⟨n,hn⟩ : ∃ n,big=n+1+80:=⟨18446744073709551535,Z21⟩
  rw [hn]
  exact Z0lv s k 80 n 0 (by omega)
 rw [Zbr,Z3 (Z07o h l)]
 simp only [Zr,Z1v]
 rw [key]
 unfold blk
 dsimp only
 generalize Zk0 (wl p 80) s 80=v at *
 have e:=Z06q some 0 (s.getD 0 0) (s.getD 1 0) (s.getD 2 0) (s.getD 3 0) (s.getD 4 0) (s.getD 5 0) (s.getD 6 0) (s.getD 7 0) (v.getD 0 0) (v.getD 1 0) (v.getD 2 0) (v.getD 3 0) (v.getD 4 0) (v.getD 5 0) (v.getD 6 0) (v.getD 7 0)
 rw [<- Zrg hs] at e
 refine e.trans ?_
 rw [Int.add_comm (s.getD 0 0),Int.add_comm (s.getD 1 0),Int.add_comm (s.getD 2 0),Int.add_comm (s.getD 3 0),Int.add_comm (s.getD 4 0),Int.add_comm (s.getD 5 0),Int.add_comm (s.getD 6 0),Int.add_comm (s.getD 7 0)]
theorem Z0cy {s p:LI} (hs:s.length=8) (h:Byt p) (l:p.length=128):Zpc s p=some (blk s p):=by
 have key : ∀ k,Z82 (wl p 80) k big 0 s=k (Zk0 (wl p 80) s 80):=by
  intro k
  obtain ⟨n,hn⟩ : ∃ n,big=n+1+80:=⟨18446744073709551535,Z21⟩
  rw [hn]
  exact Z0ot (Zqa p 80) s k 80 n 0 (by omega)
 have hv:=Z07a (wl p 80) s hs 80
 rw [Zpc,Z3 (Z042 h l)]
 simp only [Z1v]
 rw [key]
 unfold blk
 dsimp only
 generalize Zk0 (wl p 80) s 80=v at *
 have e:=Z03d some s (v.getD 0 0) (v.getD 1 0) (v.getD 2 0) (v.getD 3 0) (v.getD 4 0) (v.getD 5 0) (v.getD 6 0) (v.getD 7 0)
 rw [<- Zrg hv] at e
 exact e
end Go.Proofs.YtkjfpenagcdmcaaGreatDoor
namespace Go.Proofs.YtkjfpenagcdmcaaGreatDoor
open Go Go.Sx Go.RowKit
open List (replicate)
open Go.IntKind (wrap)
set_option linter.all false
set_option maxRecDepth 100000
set_option maxHeartbeats 1000000
theorem Zom {M x:LI} {i:Nat} (h:i<M.length):(M++x).getD i 0=M.getD i 0:=by simp [List.getD_eq_getElem?_getD,List.getElem?_append_left h]
theorem Ztm {M x:LI} {i:Nat} (h:M.length<=i):(M++x).getD i 0=x.getD (i-M.length) 0:=by simp [List.getD_eq_getElem?_getD,List.getElem?_append_right h]
theorem Z74 {M x:LI} (h:Byt M) (hx:Byt x):Byt (M++x):=by
  intro i
  by_cases hi:i<M.length
  · rw [Zom hi]; exact h i
  · rw [Ztm (by omega)]; exact hx _
theorem Zvk {l:LI} {q i:Nat} (h:i<q):(l.take q).getD i 0=l.getD i 0:=by simp [List.getD_eq_getElem?_getD,List.getElem?_take,h]
theorem Ztv {l:LI} {q i:Nat}:(l.drop q).getD i 0=l.getD (q+i) 0:=by simp [List.getD_eq_getElem?_getD,List.getElem?_drop]
theorem Zs5 {l:LI} (h:Byt l) (q:Nat):Byt (l.take q):=by
  intro i
  by_cases hi:i<q
  · rw [Zvk hi]; exact h i
  · rw [Ze9 (by rw [List.length_take]; omega)]; decide
theorem Zs2 {l:LI} (h:Byt l) (q:Nat):Byt (l.drop q):=by
  intro i
  rw [Ztv]; exact h _
def bk (M:LI) (n:Nat):LI:=(M.drop (128*n)).take 128
theorem Zxi {M:LI} {n:Nat} (h:128*n+128<=M.length):(bk M n).length=128:=by unfold bk; rw [List.length_take,List.length_drop]; omega
theorem Zw0 {M:LI} {n i:Nat} (hi:i<128):(bk M n).getD i 0=M.getD (128*n+i) 0:=by unfold bk; rw [Zvk hi,Ztv]
theorem Z0dr {M:LI} (h:Byt M) (n:Nat):Byt (bk M n):=Zs5 (Zs2 h _) _
theorem Z0dq {M x:LI} {n:Nat} (h:128*n+128<=M.length):bk (M++x) n=bk M n :=
  Zsi (n:=128) (Zxi (by rw [List.length_append]; omega)) (Zxi h) (fun j hj=>by rw [Zw0 hj,Zw0 hj,Zom (by omega)])
def fbn (M:LI):Nat->LI
  | 0=>G_first
  | n+1=>blk (fbn M n) (bk M n)
theorem Z01u (M:LI) : ∀ n,(fbn M n).length=8
  | 0=>by show G_first.length=8; decide
  | n+1=>rfl
theorem Zw8 {M x:LI} : ∀ n,128*n<=M.length->fbn (M++x) n=fbn M n
  | 0,_=>rfl
  | n+1,h=>by
    show blk (fbn (M++x) n) (bk (M++x) n)=blk (fbn M n) (bk M n)
    rw [Zw8 n (by omega),Z0dq (by omega)]
structure Dst (M:LI) (a h:LI) (c:Int):Prop where
  st:a=fbn M (M.length / 128)
  hv:c=((M.length%128:Nat):Int)
  hl:h.length=128
  hd : ∀ i,i<M.length%128->h.getD i 0=M.getD (128*(M.length / 128)+i) 0
  hb:Byt h
theorem Z0pa {xs ys:LI} {i:Nat} (h:i+ys.length<=xs.length):(wr xs i ys).length=xs.length:=by
  unfold wr
  rw [List.length_append,List.length_append,Z0o,List.length_drop]; omega
theorem Z0p9 {xs ys:LI} {i:Nat} (hx:Byt xs) (hy:Byt ys):Byt (wr xs i ys):=by
  intro j
  rw [Ztb]
  split
  · exact hy _
  · exact hx _
theorem Z04x (z:Int) (m:Nat) : ∀ (l a h:LI) (c:Int) (M:LI),l.length<=m->Byt l->Byt M->Dst M a h c->∀ n,∃ r,Z18 z (n+1+m) l a h c=some r/\r.glength=z/\Dst (M++l) r.gstate r.gheld r.ghave:=by
  induction m with
  | zero =>
    intro l a h c M hl hbl hbM hD n
    have e:l = []:=List.length_eq_zero_iff.1 (by omega)
    subst e
    refine ⟨⟨a,h,c,z⟩,?_,rfl,by rw [List.append_nil]; exact hD⟩
    rw [Nat.add_zero,Z18,Z2d,Z1e (decide_eq_false (by simp))]
  | succ m ih =>
    intro l a h c M hl hbl hbM hD n
    by_cases he:l.length=0
    · have e:l = []:=List.length_eq_zero_iff.1 he
      subst e
      refine ⟨⟨a,h,c,z⟩,?_,rfl,by rw [List.append_nil]; exact hD⟩
      rw [<- Nat.add_assoc,Z18,Z2d,Z1e (decide_eq_false (by simp))]
    · have hr:=Nat.mod_lt M.length (show 0<128 by decide)
      have hdm:=Nat.div_add_mod M.length 128
      have hc:=hD.hv
      have hcn:c.toNat=M.length%128:=by rw [hc,Int.toNat_natCast]
      obtain ⟨q,hq⟩ : ∃ q,q=Nat.min l.length (128-c.toNat):=⟨_,rfl⟩
      have hq1:0<q/\q<=l.length/\q<=128-M.length%128/\(q=l.length∨q=128-M.length%128):=by
        rw [hq,hcn]
        show 0<min l.length (128-M.length%128)/\min l.length (128-M.length%128)<=l.length/\min l.length (128-M.length%128)<=128-M.length%128/\(min l.length (128-M.length%128)=l.length∨min l.length (128-M.length%128)=128-M.length%128)
        omega
      have htake:l.take (128-c.toNat)=l.take q:=by
        rw [hq]
        rcases Nat.le_total l.length (128-c.toNat) with h1 | h1
        · rw [List.take_of_length_le h1,List.take_of_length_le (by show l.length<=min l.length (128-c.toNat); omega)]
        · congr 1; show _=min l.length (128-c.toNat); omega
      have hrest:(l.drop ((q:Int)).toNat).take (((l.length:Int)).toNat-((q:Int)).toNat)=l.drop q:=by
        rw [Int.toNat_natCast,Int.toNat_natCast,List.take_of_length_le (by rw [List.length_drop]; omega)]
      have hM:M++l=(M++l.take q)++l.drop q:=by rw [List.append_assoc,List.take_append_drop]
      have hlq:(l.take q).length=q:=by rw [List.length_take]; omega
      have hl1:(M++l.take q).length=M.length+q:=by rw [List.length_append,hlq]
      have hwl:(wr h c.toNat (l.take q)).length=128:=by rw [Z0pa (by rw [hlq,hD.hl,hcn]; omega),hD.hl]
      have hwb:Byt (wr h c.toNat (l.take q)):=Z0p9 hD.hb (Zs5 hbl _)
      have hwd : ∀ i,i<M.length%128+q->(wr h c.toNat (l.take q)).getD i 0=(M++l.take q).getD (128*(M.length / 128)+i) 0:=by
        intro i hi
        rw [Ztb,hlq,hcn]
        by_cases h1:M.length%128<=i/\i<M.length%128+q
        · rw [if_pos h1,Ztm (by omega)]
          congr 1; omega
        · rw [if_neg h1,hD.hd i (by omega),Zom (by omega)]
      have ew:wrap .i64 (c+(q:Int))=c+(q:Int):=Zk (by omega) (by omega)
      have hbM1:Byt (M++l.take q):=Z74 hbM (Zs5 hbl _)
      rw [<- Nat.add_assoc,Z18,Z2d,Z1s (decide_eq_true (by omega)),Z0b (by simp [Zqi]; omega),Zr,<- hq,Z0b (by simp [Zqi]; omega),Zr,ew,htake,hrest]
      by_cases h128:c+(q:Int)=128
      · have hblock:wr h c.toNat (l.take q)=bk (M++l.take q) (M.length / 128) :=
          Zsi hwl (Zxi (by rw [hl1]; omega)) (fun j hj=>by rw [hwd j (by omega),Zw0 hj])
        have ha8:a.length=8:=by rw [hD.st]; exact Z01u _ _
        rw [Z1s (by simpa using h128),Z3 (Z05i ha8 hwb hwl)]
        have hdiv:(M.length+q) / 128=M.length / 128+1:=by omega
        have hmod:(M.length+q)%128=0:=by omega
        have hD2:Dst (M++l.take q) (blk a (wr h c.toNat (l.take q))) (wr h c.toNat (l.take q)) 0:=by
          refine ⟨?_,?_,hwl,?_,hwb⟩
          · rw [hl1,hdiv,hblock,hD.st]
            show _=blk (fbn (M++l.take q) (M.length / 128)) _
            rw [Zw8 _ (by omega)]
          · rw [hl1,hmod]; rfl
          · intro i hi
            rw [hl1,hmod] at hi
            omega
        obtain ⟨r,er,h1,h2⟩:=ih (l.drop q) _ _ 0 (M++l.take q) (by rw [List.length_drop]; omega) (Zs2 hbl _) hbM1 hD2 n
        exact ⟨r,er,h1,by rw [hM]; exact h2⟩
      · rw [Z1e (by simpa using h128)]
        have hdiv:(M.length+q) / 128=M.length / 128:=by omega
        have hmod:(M.length+q)%128=M.length%128+q:=by omega
        have hD2:Dst (M++l.take q) a (wr h c.toNat (l.take q)) (c+(q:Int)):=by
          refine ⟨?_,?_,hwl,?_,hwb⟩
          · rw [hl1,hdiv,Zw8 _ (by omega)]; exact hD.st
          · rw [hl1,hmod,hc]; omega
          · intro i hi
            rw [hl1,hmod] at hi
            rw [hl1,hdiv]
            exact hwd i hi
        obtain ⟨r,er,h1,h2⟩:=ih (l.drop q) _ _ _ (M++l.take q) (by rw [List.length_drop]; omega) (Zs2 hbl _) hbM1 hD2 n
        exact ⟨r,er,h1,by rw [hM]; exact h2⟩
theorem Zqc {d:Z00} {M l:LI} (hl:l.length<18446744073709551615) (hbl:Byt l) (hbM:Byt M) (hD:Dst M d.gstate d.gheld d.ghave) : ∃ r,Z1r d l=some r/\r.glength=wrap .u64 (d.glength+wrap .u64 (l.length:Int))/\Dst (M++l) r.gstate r.gheld r.ghave:=by
  obtain ⟨n,hn⟩ : ∃ n',big=n'+1+l.length:=⟨18446744073709551615-l.length,by have:big=18446744073709551616:=Z21; omega⟩
  rw [Z1r,Zr,Zr,hn]
  exact Z04x _ l.length l d.gstate d.gheld d.ghave M (Nat.le_refl _) hbl hbM hD n
theorem Dst.start:Dst [] G_first (replicate 128 0) 0:=⟨rfl,rfl,by simp,fun i hi=>by simp at hi,Zs3 _⟩
def Zl4 (x:Int):Nat:=((128-(x+17)%128)%128).toNat
def padL (x:Int):LI:=(([128]++replicate (Zl4 x) 0)++be8 (Zx .u64 x 61))++be8 (Zn .u64 x 3)
theorem Zek (x:Int):(be8 x).length=8:=rfl
theorem Zsp (x:Int):(padL x).length=17+Zl4 x:=by
  unfold padL
  simp [Zek]
  omega
theorem Z01c (x:Int):Byt (be8 x):=byt_of (Zvz x)
theorem Zyf (x:Int):Byt (padL x):=Z74 (Z74 (Z74 (byt_of (by decide)) (Zs3 _)) (Z01c _)) (Z01c _)
theorem Z0bx {x:Int} (h0:0<=x) (h1:x<18446744073709551616):Zcs x=some (padL x):=by
  have hz:wrap .u64 (x+17)%128=(x+17)%128:=by rw [Zh0]; omega
  have hz3:=Z0d4 (x+17)
  have et:Int.tmod (wrap .u64 (x+17)) 128=(x+17)%128:=by rw [Int.tmod_eq_emod_of_nonneg hz3.1,hz]
  have ew:wrap .i64 ((x+17)%128)=(x+17)%128:=Zk (by omega) (by omega)
  have ew2:wrap .i64 (128-(x+17)%128)=128-(x+17)%128:=Zk (by omega) (by omega)
  have et2:Int.tmod (128-(x+17)%128) 128=(128-(x+17)%128)%128:=Int.tmod_eq_emod_of_nonneg (by omega)
  have ew3:wrap .i64 (17+(128-(x+17)%128)%128)=17+(128-(x+17)%128)%128:=Zk (by omega) (by omega)
  simp only [Zcs,Zr,et,ew,ew2,et2,ew3]
  have hp:((128-(x+17)%128)%128).toNat=Zl4 x:=rfl
  rw [hp]
  have hpz:Zl4 x<128:=by unfold Zl4; omega
  rw [Z0b (by unfold mkB; simp only [Bool.and_eq_true,decide_eq_true_eq]; omega),Z0b (by simp),Z0b (by simp; omega),Z0b (by simp; omega),Z3 (Zmo _),Z0b (by simp [Zek]; omega),Z3 (Zmo _),Z0b (by simp [Zek]; omega)]
  rfl
theorem Z0ou (x:Int):Zka x=some [wrap .u8 (Zx .u64 x 56),wrap .u8 (Zx .u64 x 48),wrap .u8 (Zx .u64 x 40),wrap .u8 (Zx .u64 x 32),wrap .u8 (Zx .u64 x 24),wrap .u8 (Zx .u64 x 16),wrap .u8 (Zx .u64 x 8),wrap .u8 (Zx .u64 x 0)]:=by kernel_rfl
theorem shrl (x:Int) (n:Nat) (h:n<=64):Zx .u64 x (n:Int)=x / ((2^n:Nat):Int):=Z9z .u64 h
theorem Zt6 (x:Int):Zka x=some (be8 x):=by
  rw [Z0ou]
  have e56:Zx .u64 x 56=x / 72057594037927936:=shrl x 56 (by decide)
  have e48:Zx .u64 x 48=x / 281474976710656:=shrl x 48 (by decide)
  have e40:Zx .u64 x 40=x / 1099511627776:=shrl x 40 (by decide)
  have e32:Zx .u64 x 32=x / 4294967296:=shrl x 32 (by decide)
  have e24:Zx .u64 x 24=x / 16777216:=shrl x 24 (by decide)
  have e16:Zx .u64 x 16=x / 65536:=shrl x 16 (by decide)
  have e0:Zx .u64 x 0=x:=by
    have:Zx .u64 x 0=x / 1:=shrl x 0 (by decide)
    rw [this,Int.ediv_one]
  unfold be8
  simp only [Z2a,e56,e48,e40,e32,e24,e16,e0]
  congr 1
  simp only [List.cons.injEq,and_true,true_and]
  refine ⟨?_,?_,?_,?_,?_,?_⟩ <;> (congr 1; omega)
theorem Z03r (x:Int) (k:LI->Option (LI)) (hx:0<=x) (m:Nat) : ∀ (n t:Nat),t+m=Zl4 x->Zba (x%128) k (n+1+m) ([128]++replicate t 0)=k ([128]++replicate (Zl4 x) 0):=by
  have hz:Zl4 x<128:=by unfold Zl4; omega
  induction m with
  | zero =>
    intro n t ht
    have e:t=Zl4 x:=by omega
    subst e
    have el:((([128]++replicate (Zl4 x) 0:LI).length:Nat):Int)=1+(Zl4 x:Int):=by simp; omega
    have w1:wrap .i64 (x%128+(1+(Zl4 x:Int)))=x%128+(1+(Zl4 x:Int)):=Zk (by omega) (by omega)
    have w2:wrap .i64 (x%128+(1+(Zl4 x:Int))+16)=x%128+(1+(Zl4 x:Int))+16:=Zk (by omega) (by omega)
    have w3:Int.tmod (x%128+(1+(Zl4 x:Int))+16) 128=0:=by
      rw [Int.tmod_eq_emod_of_nonneg (by omega)]
      unfold Zl4
      omega
    rw [Nat.add_zero,Zba,Zhy]
    simp only [Zr,el,w1,w2,w3]
    rw [Z1e (by decide)]
  | succ m ih =>
    intro n t ht
    have el:((([128]++replicate t 0:LI).length:Nat):Int)=1+(t:Int):=by simp; omega
    have w1:wrap .i64 (x%128+(1+(t:Int)))=x%128+(1+(t:Int)):=Zk (by omega) (by omega)
    have w2:wrap .i64 (x%128+(1+(t:Int))+16)=x%128+(1+(t:Int))+16:=Zk (by omega) (by omega)
    have w3:Int.tmod (x%128+(1+(t:Int))+16) 128≠0:=by
      rw [Int.tmod_eq_emod_of_nonneg (by omega)]
      unfold Zl4 at ht
      omega
    have ea:([128]++replicate t 0:LI) ++ [0] = [128]++replicate (t+1) 0:=by
      rw [List.append_assoc,List.replicate_succ']
    rw [<- Nat.add_assoc,Zba,Zhy]
    simp only [Zr,el,w1,w2]
    rw [Z1s (by simpa using w3),Z0b (by simp; omega),ea]
    exact ih n (t+1) (by omega)
theorem Z07e {x:Int} (h0:0<=x) (h1:x<18446744073709551616):Zuh x=some (padL x):=by
  have hz:Zl4 x<128:=by unfold Zl4; omega
  obtain ⟨n,hn⟩ : ∃ n',big=n'+1+Zl4 x:=⟨18446744073709551615-Zl4 x,by have:big=18446744073709551616:=Z21; omega⟩
  have e1:Int.tmod x 128=x%128:=Int.tmod_eq_emod_of_nonneg h0
  have e2:wrap .i64 (x%128)=x%128:=Zk (by omega) (by omega)
  have e3:wrap .u64 (Int.tdiv x 2305843009213693952)=Zx .u64 x 61:=by
    have:Zx .u64 x 61=x / 2305843009213693952:=shrl x 61 (by decide)
    rw [this,Int.tdiv_eq_ediv_of_nonneg h0,Ze (by omega) (by omega)]
  have e4:wrap .u64 (x*8)=Zn .u64 x 3:=(Zis .u64 (x:=x) (n:=3) (by decide)).symm
  rw [Zuh]
  simp only [Zr,e1,e2,e3,e4,Z1v]
  rw [hn]
  refine (Z03r x _ h0 (Zl4 x) n 0 (by omega)).trans ?_
  rw [Z3 (Zt6 _),Z0b (by simp [Zek]; omega),Z3 (Zt6 _),Z0b (by simp [Zek]; omega)]
  rfl
def Zjq (M:LI):LI:=M++padL (M.length:Int)
def Zkw (M:LI):LI:=told (fbn (Zjq M) ((Zjq M).length / 128))
theorem Z04r (M:LI):(Zjq M).length%128=0:=by
  unfold Zjq padL
  rw [List.length_append]
  have:=Zsp (M.length:Int)
  unfold padL at this
  rw [this]
  unfold Zl4
  omega
theorem Zhs (M:LI):Byt (Zkw M):=Z087 _
theorem Z01y (M:LI):(Zkw M).length=64:=rfl
theorem Z04k {d:Z00} {M:LI} (hM:M.length<9223372036854775808) (hb:Byt M) (hD:Dst M d.gstate d.gheld d.ghave) (hl:d.glength=(M.length:Int)):Z3k d=some (Zkw M,d):=by
  obtain ⟨r,er,_,hr⟩:=Zqc (d:=d) (l:=padL d.glength) (by rw [Zsp]; unfold Zl4; omega) (Zyf _) hb hD
  rw [Z3k,Z6m,Z3 rfl]
  show opt (Zcs d.glength) _=_
  rw [Z3 (Z0bx (by omega) (by omega))]
  show opt (Z1r d (padL d.glength)) _=_
  rw [Z3 er,Z1v,Z082]
  have e:r.gstate=fbn (Zjq M) ((Zjq M).length / 128):=by
    have:=hr.st
    rw [hl] at this
    exact this
  rw [e]
  rfl
theorem Z09i {M:LI} (hM:M.length<9223372036854775808) (hb:Byt M):Zg6 M=some (Zkw M):=by
  obtain ⟨r,er,el,hr⟩:=Zqc (d:=⟨G_first,replicate 128 0,0,0⟩) (l:=M) (by omega) hb Z5n Dst.start
  have e1:r.glength=(M.length:Int):=by
    rw [el]
    show wrap .u64 (0+wrap .u64 (M.length:Int))=_
    rw [Int.zero_add,Ze (x:=(M.length:Int)) (by omega) (by omega),Ze (by omega) (by omega)]
  rw [Zg6,Zcr,Z3 rfl]
  show opt (Z1r ⟨G_first,replicate 128 0,0,0⟩ M) _=_
  rw [Z3 er,Z3 (Z04k hM hb hr e1)]
theorem Z03y {L:LI} (hb:Byt L) (h128:L.length%128=0) (hL:L.length<9223372036854775000) (k:LI->Option (LI)) (m:Nat) : ∀ (n j:Nat),128*(j+m)=L.length->Z8i L k (n+1+m) ((128*j:Nat):Int) (fbn L j)=k (fbn L (L.length / 128)):=by
  induction m with
  | zero =>
    intro n j hj
    have e:j=L.length / 128:=by omega
    rw [Nat.add_zero,Z8i,Zhz,Z1e (decide_eq_false (by omega)),<- e]
  | succ m ih =>
    intro n j hj
    have e1:wrap .i64 (((128*j:Nat):Int)+128)=((128*(j+1):Nat):Int):=by rw [Zk (by omega) (by omega)]; omega
    have e2:128*(j+1)-128*j=128:=by omega
    rw [<- Nat.add_assoc,Z8i,Zhz,Z1s (decide_eq_true (by omega))]
    simp only [Zr,e1,Int.toNat_natCast,e2]
    have hbk:(L.drop (128*j)).take 128=bk L j:=rfl
    rw [Z0b (by simp [Zqi]; omega),hbk,Z3 (Z0cy (Z01u L j) (Z0dr hb j) (Zxi (by omega)))]
    exact ih n (j+1) (by omega)
def Zta (x:Int):LI:=[wrap .u8 (Zx .u64 x 56),wrap .u8 (Zx .u64 x 48),wrap .u8 (Zx .u64 x 40),wrap .u8 (Zx .u64 x 32),wrap .u8 (Zx .u64 x 24),wrap .u8 (Zx .u64 x 16),wrap .u8 (Zx .u64 x 8),wrap .u8 (Zx .u64 x 0)]
theorem Z086 (x:Int):Zta x=be8 x:=by
  have h:=Zt6 x
  rw [Z0ou] at h
  exact Option.some.inj h
theorem Z040 (a:LI) (k:LI->Option (LI)):Zfi a k big 0 (replicate 64 0)=k (Zta (a.getD 0 0)++(Zta (a.getD 1 0)++(Zta (a.getD 2 0)++(Zta (a.getD 3 0)++(Zta (a.getD 4 0)++(Zta (a.getD 5 0)++(Zta (a.getD 6 0)++Zta (a.getD 7 0)))))))):=by kernel_rfl
theorem Zo7 {M:LI} (hM:M.length+145<=140737488355328) (hb:Byt M):Zn0 M=some (Zkw M):=by
  have hz:Zl4 (M.length:Int)<128:=by unfold Zl4; omega
  have hp:=Zsp (M.length:Int)
  have hw:(Zjq M).length=M.length+(17+Zl4 (M.length:Int)):=by unfold Zjq; rw [List.length_append,hp]
  have hm:=Z04r M
  have key : ∀ k,Z8i (Zjq M) k big 0 G_rfirst=k (fbn (Zjq M) ((Zjq M).length / 128)):=by
    intro k
    obtain ⟨n,hn⟩ : ∃ n',big=n'+1+(Zjq M).length / 128:=⟨18446744073709551615-(Zjq M).length / 128,by have:big=18446744073709551616:=Z21; omega⟩
    rw [hn,Z01x]
    exact Z03y (show Byt (Zjq M) from Z74 hb (Zyf _)) hm (by omega) k ((Zjq M).length / 128) n 0 (by omega)
  rw [Zn0,Z0b (by simp; omega),Zr,Zr,List.nil_append,Ze (by omega) (by omega),Z3 (Z07e (by omega) (by omega)),Z0b (by rw [hp]; simp; omega),Zr,Z1v]
  show Z8i (Zjq M) _ big 0 G_rfirst=_
  rw [key,Z1v,Z040]
  simp only [Z086]
  rfl
theorem Zwd {p:List (LI)} (hp : ∀ i,Byt (p.getD i [])) (hb:p.length<1000000) {k:LI->LI->Int->Int->Option (LI)} (m:Nat) : ∀ (n i:Nat) (a h:LI) (c:Int) (M:LI),i+m=p.length->Byt M->M.length+(p.drop i).flatten.length<9223372036854775808->Dst M a h c ->
    ∃ a' h' c',Z6c p k (n+1+m) (i:Int) a h c (M.length:Int)=k a' h' c' ((M++(p.drop i).flatten).length:Int)/\Dst (M++(p.drop i).flatten) a' h' c'/\Byt (M++(p.drop i).flatten):=by
  induction m with
  | zero =>
    intro n i a h c M hi hbM hlen hD
    have e:p.drop i = []:=List.drop_eq_nil_of_le (by omega)
    rw [e,List.flatten_nil,List.append_nil]
    refine ⟨a,h,c,?_,hD,hbM⟩
    rw [Nat.add_zero,Z6c,Zbs,Z1e (decide_eq_false (by omega))]
  | succ m ih =>
    intro n i a h c M hi hbM hlen hD
    have e1:=Z2u (i:=i) (by omega)
    have hlt:i<p.length:=by omega
    have hd:p.drop i=p.getD i []::p.drop (i+1):=by
      rw [List.drop_eq_getElem_cons hlt]
      congr 1
      simp [List.getD_eq_getElem?_getD,List.getElem?_eq_getElem hlt]
    rw [hd,List.flatten_cons] at hlen ⊢
    rw [List.length_append] at hlen
    obtain ⟨r,er,el,hr⟩:=Zqc (d:=⟨a,h,c,(M.length:Int)⟩) (l:=p.getD i []) (by omega) (hp i) hbM hD
    have el2:r.glength=((M++p.getD i []).length:Int):=by
      rw [el,List.length_append]
      show wrap .u64 ((M.length:Int)+wrap .u64 ((p.getD i []).length:Int))=_
      rw [Ze (x:=((p.getD i []).length:Int)) (by omega) (by omega),Ze (by omega) (by omega)]
      omega
    obtain ⟨a',h',c',e',hD',hb'⟩:=ih n (i+1) r.gstate r.gheld r.ghave (M++p.getD i []) (by omega) (Z74 hbM (hp i)) (by rw [List.length_append]; omega) hr
    refine ⟨a',h',c',?_,by rw [<- List.append_assoc]; exact hD',by rw [<- List.append_assoc]; exact hb'⟩
    rw [<- Nat.add_assoc,Z6c,Zbs,Z1s (decide_eq_true (by omega)),Z0b (Z19 (by omega) (by omega)),Int.toNat_natCast,Z3 er,Zr,e1,el2,e',List.append_assoc]
theorem Zy1 {p:List (LI)} (hp : ∀ i,Byt (p.getD i [])) (hb:p.length<1000000) (hl:p.flatten.length<9223372036854775808):Za0 p=some (byt (wval (Zkw p.flatten)%VL)):=by
  obtain ⟨n,hn⟩ : ∃ n',big=n'+1+p.length:=⟨18446744073709551615-p.length,by have:big=18446744073709551616:=Z21; omega⟩
  obtain ⟨a,h,c,e,hD,hbM⟩:=Zwd hp hb (k:=fun (a51:LI) (a52:LI) (i53:Int) (i54:Int)=>opt (Z3k (⟨a51,a52,i53,i54⟩:Z00)) fun y98 =>
 opt (Z6k y98.1) fun y101 =>
 some y101) p.length n 0 G_first (replicate 128 0) 0 [] (by omega) Z5n (by simpa using hl) Dst.start
  rw [List.drop_zero,List.nil_append] at e hD hbM
  rw [Za0,Zcr,Z3 rfl,Z1v,hn]
  refine e.trans ?_
  rw [Z3 (Z04k (d:=⟨a,h,c,(p.flatten.length:Int)⟩) hl hbM hD rfl)]
  show opt (Z6k (Zkw p.flatten)) _=_
  rw [Z3 (Zza (Zhs _))]
end Go.Proofs.YtkjfpenagcdmcaaGreatDoor
namespace Go.Proofs.YtkjfpenagcdmcaaGreatDoor
open Go Go.Sx Go.RowKit
open Go.IntKind (wrap)
set_option linter.all false
set_option maxRecDepth 100000
set_option maxHeartbeats 1000000
theorem Z0aw (p:LI):Zmd p false=some (tk p 0 32):=by kernel_rfl
theorem Z0av (p:LI):Zmd p true=some (tk p 32 32):=by kernel_rfl
theorem Z005 (p:LI) (k:LI->Option (LI)):Zag p k big 0 (List.replicate 32 0)=k (tk p 0 32):=by kernel_rfl
theorem Z05p {x:Int} (h0:0<=x) (h1:x<256):wrap .u8 (x-Int.tmod x 8)=Z4 .andNot .u8 x 7:=by
 have h : ∀ n:Fin 256,wrap .u8 ((n.val:Int)-Int.tmod (n.val:Int) 8)=Z4 .andNot .u8 (n.val:Int) 7:=by decide +kernel
 have:=h ⟨x.toNat,by omega⟩
 have e:((x.toNat:Nat):Int)=x:=by omega
 simp only [e] at this
 exact this
theorem Z05o {x:Int} (h0:0<=x) (h1:x<256):wrap .u8 (Int.tmod x 64+64)=Z4 .or .u8 (Z4 .and .u8 x 127) 64:=by
 have h : ∀ n:Fin 256,wrap .u8 (Int.tmod (n.val:Int) 64+64)=Z4 .or .u8 (Z4 .and .u8 (n.val:Int) 127) 64:=by decide +kernel
 have:=h ⟨x.toNat,by omega⟩
 have e:((x.toNat:Nat):Int)=x:=by omega
 simp only [e] at this
 exact this
theorem Z03e {p:LI} (h:Byt p) (l:p.length=32):Zlb p=some (Zoq p):=by
 have e0:tk p 0 32=p:=Zbt l
 have b0:=h 0
 have b31:=h 31
 rw [Zlb,Z1v,Z005,e0]
 simp only [Zr]
 rw [Z05p b0.1 b0.2]
 have g31:(Z2g p 0 (Z4 .andNot .u8 (p.getD 0 0) 7)).getD 31 0=p.getD 31 0:=by rw [Z1a,if_neg (by decide)]
 unfold Zoq
 rw [g31,Z05o b31.1 b31.2]
theorem Zzg {p:LI} (l:p.length=32):(Zoq p).length=32:=by
 unfold Zoq
 rw [Z5k (by rw [Z5k (by omega)]; omega),Z5k (by omega),l]
noncomputable def Zu5 (s:LI):LI:=Zoq (tk (Zkw s) 0 32)
noncomputable def Zsr (s:LI):LI:=tk (Zkw s) 32 32
noncomputable def Zwk (M:LI):LI:=byt (wval (Zkw M)%VL)
noncomputable def Zqm (s:LI):LI:=Ztw (pB (Zu5 s))
noncomputable def rOf (s m:LI):LI:=Zwk (Zsr s++m)
noncomputable def kOf (s m:LI):LI:=Zwk (Ztw (pB (rOf s m))++(Zqm s++m))
noncomputable def Z0oz (s m:LI):LI:=Ztw (pB (rOf s m))++byt ((Zci (kOf s m)*Zci (Zu5 s)+Zci (rOf s m))%VL)
theorem Zl0 (s:LI):Byt (Zu5 s):=Z01l (Zk2 (Zhs s) 0 32)
theorem Z02g (s:LI):(Zu5 s).length=32:=Zzg (Z0o _ _ _)
theorem Zuf (s:LI):Byt (Zsr s):=Zk2 (Zhs s) 32 32
theorem Zp8 (s:LI):(Zsr s).length=32:=Z0o _ _ _
theorem Zl1 (M:LI):Byt (Zwk M):=Zoo _
theorem Zu9 (M:LI):(Zwk M).length=32:=Z92 _
theorem Z03a (s m:LI):Byt (rOf s m):=Zl1 _
theorem Z0ch (s m:LI):(rOf s m).length=32:=Zu9 _
theorem Z026 (s m:LI):Byt (kOf s m):=Zl1 _
theorem Z0b2 (s m:LI):(kOf s m).length=32:=Zu9 _
theorem Zu3 (s:LI):Byt (Zqm s):=Zsd _
theorem Zkz (s:LI):(Zqm s).length=32:=Zac _
theorem Z0by {s:LI} (hs:Byt s) (l:s.length=32):Zdx s=some (Zu5 s,Zsr s):=by
 have e0:tk s 0 32=s:=Zbt l
 have e2:tk (tk (Zkw s) 0 32) 0 32=tk (Zkw s) 0 32:=Zbt (Z0o _ _ _)
 rw [Zdx,e0,Z3 (Z09i (by omega) hs),Z0b (by rw [Z0o]; rfl),Zr,e2,Z3 (Z05n _)]
 rfl
theorem byt3 {a b c:LI} (ha:Byt a) (hb:Byt b) (hc:Byt c) : ∀ i,Byt (([a,b,c]:List (LI)).getD i []):=by
 intro i
 match i with
 | 0=>exact ha
 | 1=>exact hb
 | 2=>exact hc
 | i+3=>exact Z5n
theorem byt2 {a b:LI} (ha:Byt a) (hb:Byt b) : ∀ i,Byt (([a,b]:List (LI)).getD i []):=by
 intro i
 match i with
 | 0=>exact ha
 | 1=>exact hb
 | i+2=>exact Z5n
theorem Z0lq {a m:LI} (ha:Byt a) (hm:Byt m) (h:a.length+m.length<9223372036854775808):Za0 [a,m]=some (Zwk (a++m)):=by
 have e:([a,m]:List (LI)).flatten=a++m:=by simp
 rw [Zy1 (byt2 ha hm) (by simp) (by rw [e,List.length_append]; exact h),e]
 rfl
theorem Z0lr {a b m:LI} (ha:Byt a) (hb:Byt b) (hm:Byt m) (h:a.length+(b.length+m.length)<9223372036854775808):Za0 [a,b,m]=some (Zwk (a++(b++m))):=by
 have e:([a,b,m]:List (LI)).flatten=a++(b++m):=by simp
 rw [Zy1 (byt3 ha hb hm) (by simp) (by rw [e,List.length_append,List.length_append]; exact h),e]
 rfl
theorem Zwo {s m:LI} (hs:Byt s) (l:s.length=32) (hm:Byt m) (lm:m.length<9223372036854775000):Z80 s m=some (Z0oz s m):=by
 obtain ⟨q,eq1,rq⟩:=Zp5 (Zl0 s)
 obtain ⟨q2,eq2,rq2⟩:=Zp5 (Zl1 (Zsr s++m))
 have hk:=Z0lr (Zsd (pB (rOf s m))) (Zu3 s) hm (by rw [Zac,Zkz]; omega)
 rw [Z80,Z3 (Z0by hs l)]
 dsimp only
 rw [Z3 eq1,Z3 (Zrb rq),Z3 (Z0lq (Zuf s) hm (by rw [Zp8]; omega)),Z3 eq2,Z3 (Zrb rq2),Z1v,Zz4,Zz4]
 show opt (Za0 [Ztw (pB (rOf s m)),Zqm s,m]) _=_
 rw [Z3 hk]
 show opt (Z87 (kOf s m) (Zu5 s) (rOf s m)) _=_
 rw [Z3 (Zwz (Z026 s m) (Zl0 s) (Z03a s m)),Zr,Zr,Zbt (Z92 _)]
 show some (wr (wr (List.replicate 64 0) 0 ((Ztw (pB (rOf s m))).take 32)) 32 ((byt _).take (64-32)))=_
 rw [Z0pb (Zac _) (Z92 _)]
 rfl
theorem Z03m {a b c:LI} (h:a.length+b.length+c.length<=140737488355328):Zdn a b c=some (a++(b++c)):=by
 rw [Zdn,Z0b (by simp; omega),Zr,List.nil_append,Z0b (by simp; omega),Zr,Z0b (by simp; omega),Zr,List.append_assoc]
theorem Zpv {s:LI} (hs:Byt s) (l:s.length=32):Z85 s=some (Zu5 s):=by
 have e0:tk s 0 32=s:=Zbt l
 rw [Z85,e0,Z3 (Zo7 (by omega) hs),Z3 (Z0aw _),Z3 (Z03e (Zk2 (Zhs s) 0 32) (Z0o _ _ _))]
 rfl
theorem Z0cs {s:LI} (hs:Byt s) (l:s.length=32):Zie s=some (Zqm s):=by
 obtain ⟨q,eq1,rq⟩:=Zyq (Zl0 s)
 rw [Zie,Z3 (Zpv hs l),Z3 eq1,Z3 (Z03h rq)]
 rfl
theorem Z07f (a b:LI) (k:LI->Option (LI)):Zco a b k big 0 (List.replicate 64 0)=k (tk a 0 32++tk b 0 32):=by kernel_rfl
theorem rred (M:LI):Zdk (Zkw M)=some (Zwk M):=Z0ci (Zhs _) (Z01y _)
theorem Zwx {s m:LI} (hs:Byt s) (l:s.length=32) (hm:Byt m) (lm:m.length+209<=140737488355328):Zdm s m=some (Z0oz s m):=by
 have e0:tk s 0 32=s:=Zbt l
 obtain ⟨q2,eq2,rq2⟩:=Zyq (Zl1 (Zsr s++m))
 have ep:tk (tk (Zkw s) 32 32) 0 32=Zsr s:=Zbt (Z0o _ _ _)
 have ek:tk (Zqm s) 0 32=Zqm s:=Zbt (Zkz s)
 have b1:Byt (Zsr s++m):=Z74 (Zuf s) hm
 have b2:Byt (Ztw (pB (rOf s m))++(Zqm s++m)):=Z74 (Zsd _) (Z74 (Zu3 s) hm)
 have l1:(Zsr s++m).length+145<=140737488355328:=by rw [List.length_append,Zp8]; omega
 have l2:(Ztw (pB (rOf s m))++(Zqm s++m)).length+145<=140737488355328:=by rw [List.length_append,List.length_append,Zac,Zkz]; omega
 rw [Zdm,Z3 (Zpv hs l),Z3 (Z0cs hs l),e0,Z3 (Zo7 (by omega) hs),Z3 (Z0av _),ep,Z3 (Z03m (by rw [Zp8]; simp; omega)),List.append_nil]
 rw [Z3 (Zo7 l1 b1),Z3 (rred _),Z3 eq2,Z3 (Z03h rq2),Z1v,Zz4,ek]
 show opt (Zdn (Ztw (pB (rOf s m))) (Zqm s) m) _=_
 rw [Z3 (Z03m (by rw [Zac,Zkz]; omega)),Z3 (Zo7 l2 b2),Z3 (rred _)]
 show opt (Zfq (kOf s m) (Zu5 s) (rOf s m)) _=_
 rw [Z3 (Z0cg (Z026 s m) (Zl0 s) (Z03a s m) (Z0b2 s m) (Z02g s) (Z0ch s m)),Z1v,Z07f]
 show some (tk (Ztw (pB (rOf s m))) 0 32++tk (byt _) 0 32)=_
 rw [Zz4,Zbt (Z92 _)]
 rfl
end Go.Proofs.YtkjfpenagcdmcaaGreatDoor
namespace Go.Proofs.YtkjfpenagcdmcaaGreatDoor
open Go Go.Sx Go.RowKit
set_option linter.all false
set_option maxRecDepth 100000
set_option maxHeartbeats 1000000
theorem Ztc (x:Int):IntKind.u32.wrap x=x%4294967296:=by simp [IntKind.wrap,IntKind.bits,IntKind.signed]
theorem Z00p {x:Int} (h0:0<=x) (h1:x<4294967296):IntKind.u32.wrap x=x:=by rw [Ztc]; omega
theorem Z04o (x:Int):0<=IntKind.wrap .u32 x/\IntKind.wrap .u32 x<4294967296:=by rw [Ztc]; omega
end Go.Proofs.YtkjfpenagcdmcaaGreatDoor
namespace Go.Proofs.YtkjfpenagcdmcaaGreatDoor
open Go Go.Sx Go.RowKit
open Go.IntKind (wrap)
set_option linter.all false
set_option maxRecDepth 100000
set_option maxHeartbeats 1000000
def Zlr (x:Int):LI:=[wrap .u8 (Zx .u32 (Zx .u32 (Zx .u32 x 8) 8) 8),wrap .u8 (Zx .u32 (Zx .u32 x 8) 8),wrap .u8 (Zx .u32 x 8),wrap .u8 x]
theorem Z05g (x:Int) : ∀ y∈Zlr x,0<=y/\y<256:=by
 unfold Zlr
 repeat' (first | exact List.forall_mem_nil _ | refine List.forall_mem_cons.2 ⟨Zvo _,?_⟩)
section
variable {α β:Type}
theorem Z0b3 {b xs:LI} (h:b.length+xs.length<=140737488355328):Z35 ⟨b,0⟩ xs=some ⟨b++xs,0⟩:=by
 unfold Z35
 rw [Z1s (by rfl),Z0b (decide_eq_true (by show (b.length+xs.length)*1<=_; omega)),Zr]
theorem Z0ee {b xs:LI} (h:b.length+xs.length<=140737488355328):Z2t ⟨b,0⟩ xs=some ⟨b++xs,0⟩:=by
 unfold Z2t
 rw [Z3 (Z0b3 h)]
theorem be32 (x:Int):Z6d x=some (Zlr x):=by kernel_rfl
theorem Z70 (x:Int):(Zlr x).length=4:=rfl
theorem pu32 {b:LI} (h:b.length+4<=140737488355328) (x:Int):Z64 ⟨b,0⟩ x=some ⟨b++Zlr x,0⟩:=by
 unfold Z64
 rw [Z3 (be32 x),Z3 (Z0b3 (by rw [Z70]; exact h))]
theorem pu64 {b:LI} (h:b.length+8<=140737488355328) (x:Int):Z65 ⟨b,0⟩ x=some ⟨b++be8 x,0⟩:=by
 unfold Z65
 rw [Z3 (Zmo x),Z3 (Z0b3 (by rw [Zek]; exact h))]
theorem dput {b xs:LI} (h:b.length+xs.length<=140737488355328):Zah ⟨b,0⟩ xs=some ⟨b++xs,0⟩:=by
 rw [Zah,Z1s (by rfl),Z0b (by simp; omega),Zr,Z0b (by simp; omega),Zr]; rfl
theorem dfix {b xs:LI} (h:b.length+xs.length<=140737488355328):Z5j ⟨b,0⟩ xs=some ⟨b++xs,0⟩:=by
 rw [Z5j,Z3 (dput h)]
theorem Z098 (x:Int):Zx .u32 x 8=x / 256:=Z9z .u32 (n:=8) (by decide)
theorem Z0ox (x:Int):Zx .u64 x 8=x / 256:=Z9z .u64 (n:=8) (by decide)
theorem Z09b {x:Int} (h:0<=x) (n:Int):Int.tdiv x n=x / n:=Int.tdiv_eq_ediv_of_nonneg h
theorem dd4 {x:Int} (h0:0<=x) (h1:x<4294967296):Zpn x=some (Zlr x):=by
 rw [Zpn]
 simp only [Zr,Zlr,Z098,Z09b h0,Z0u,Ztc]
 congr 1
 simp only [List.cons.injEq,and_true]
 omega
theorem dd8 {x:Int} (h0:0<=x) (h1:x<18446744073709551616):Zus x=some (be8 x):=by
 have e1:wrap .u32 (wrap .u64 (Int.tdiv x 4294967296))=x / 4294967296:=by rw [Z09b h0,Ze (by omega) (by omega),Z00p (by omega) (by omega)]
 have e2:wrap .u32 x=x%4294967296:=Ztc x
 rw [Zus]
 simp only [Zr,e1,e2]
 rw [Z3 (dd4 (by omega) (by omega)),Z3 (dd4 (by omega) (by omega)),Z0b (by simp [Z70])]
 congr 1
 simp only [Zlr,be8,Z098,Z0ox,Z0u,List.cons_append,List.nil_append,List.cons.injEq,and_true]
 omega
theorem du32 {b:LI} (h:b.length+4<=140737488355328) (x:Int):Z4s ⟨b,0⟩ (wrap .u32 x)=some ⟨b++Zlr (wrap .u32 x),0⟩:=by
 rw [Z4s,Z3 (dd4 (Z04o x).1 (Z04o x).2),Z3 (dput (by rw [Z70]; exact h))]
theorem Zy4 (x:Int):0<=wrap .u64 x/\wrap .u64 x<18446744073709551616:=by rw [show wrap .u64 x=x%18446744073709551616 by simp [wrap,IntKind.bits,IntKind.signed]]; omega
theorem du64 {b:LI} (h:b.length+8<=140737488355328) (x:Int):Zcp ⟨b,0⟩ (wrap .u64 x)=some ⟨b++be8 (wrap .u64 x),0⟩:=by
 rw [Zcp,Z3 (dd8 (Zy4 x).1 (Zy4 x).2),Z3 (dput (by rw [Zek]; exact h))]
def Lay (f:Zeh α) (bs:α->LI):Prop:=∀ (b:LI) (x:α),b.length<=1000000->f.put ⟨b,0⟩ x=some ⟨b++bs x,0⟩/\(bs x).length<=65
theorem Zgh {get:α->Int} {lo:Int} {hi:α->Int}:Lay (Zfc get lo hi) (fun x=>Zlr (IntKind.u32.wrap (get x))):=fun b x h=>⟨pu32 (by omega) _,by rw [Z70]; omega⟩
theorem Z028 {get:α->Int} {hi:Int}:Lay (Zlx get hi) (fun x=>be8 (IntKind.u64.wrap (get x))):=fun b x h=>⟨pu64 (by omega) _,by rw [Zek]; omega⟩
theorem Zet {get:α->LI} {n:Nat} {s:Bool} (hn:n<=64):Lay (Zem get n s) (fun x=>tk (get x) 0 n):=fun b x h=>⟨Z0ee (by rw [Z0o]; omega),by rw [Z0o]; omega⟩
theorem Z027 {inn:α->β} {s:Zeh β} {bs:β->LI} (h:Lay s bs):Lay (Zlp inn s) (fun x=>bs (inn x)):=fun b x hl=>h b (inn x) hl
abbrev PF (α:Type):=Zeh α×(α->LI)
abbrev innP (inn:α->β) (g:PF β):PF α:=(Zlp inn g.1,fun x=>g.2 (inn x))
def Zb4 (gs:List (PF α)) (s:Bool) (x:α):LI:=gs.flatMap fun g=>bif g.1.sgn || !s then g.2 x else []
theorem Zcc {s:Bool} {x:α} : ∀ (gs:List (PF α)) (b:LI),(∀ g∈gs,Lay g.1 g.2)->b.length+65*gs.length<=1000000->Zhr (gs.map (·.1)) s ⟨b,0⟩ x=some ⟨b++Zb4 gs s x,0⟩/\(Zb4 gs s x).length<=65*gs.length
 | [],b,_,_=>⟨by simp [Zb4,Zhr],by simp [Zb4]⟩
 | g::gs,b,hg,hl=>by
  rw [List.length_cons] at hl ⊢
  obtain ⟨h1,h2⟩:=hg g List.mem_cons_self b x (by omega)
  have key:br (g.1.sgn || !s) (g.1.put ⟨b,0⟩ x) (some ⟨b,0⟩)=some ⟨b++(bif g.1.sgn || !s then g.2 x else []),0⟩/\(bif g.1.sgn || !s then g.2 x else []).length<=65:=by
   cases g.1.sgn || !s
   ·exact ⟨by rw [cond_false,List.append_nil]; rfl,by simp⟩
   ·exact ⟨h1,h2⟩
  obtain ⟨k1,k2⟩:=key
  obtain ⟨e1,e2⟩:=Zcc (s:=s) (x:=x) gs (b++(bif g.1.sgn || !s then g.2 x else [])) (fun g' h'=>hg g' (List.mem_cons_of_mem _ h')) (by rw [List.length_append]; omega)
  refine ⟨?_,?_⟩
  ·show opt (br (g.1.sgn || !s) (g.1.put ⟨b,0⟩ x) (some ⟨b,0⟩)) _=_
   rw [Z3 k1,e1,List.append_assoc]
   rfl
  ·show ((bif g.1.sgn || !s then g.2 x else [])++Zb4 gs s x).length<=_
   rw [List.length_append]; omega
theorem Z0ax {d:Int} (h0:1<=d) (h1:d<=255):Ziw d=some [70,66,1,d]:=by
 unfold Ziw
 rw [Z1e (by simp; omega),Zr,Z0u,Int.emod_eq_of_lt (by omega) (by omega)]
theorem Zgc {d:Int} (h0:1<=d) (h1:d<=255):Z17 d=some ⟨[70,66,1,d],0⟩:=by
 rw [Z17,Z3 (show Zpm d=some [70,66,1,d] by rw [Zpm,Z1e (by simp; omega),Zr,Z0u,Int.emod_eq_of_lt (by omega) (by omega)]),Z3 (dfix (by simp))]
 rfl
theorem Zot (b:LI):Z1k ⟨b,0⟩=some (b,⟨b,0⟩):=rfl
theorem Zzf {gs:List (PF α)} {d:Int} {s:Bool} {x:α} (hg : ∀ g∈gs,Lay g.1 g.2) (hn:gs.length<=100) (h0:1<=d) (h1:d<=255) :
  Zhq (gs.map (·.1)) d s x=some ([70,66,1,d]++Zb4 gs s x):=by
 obtain ⟨e,l⟩:=Zcc (s:=s) (x:=x) gs ([] ++ [70,66,1,d]) hg (by simp; omega)
 unfold Zhq
 rw [Z3 (show Zau=some ⟨[],0⟩ from rfl),Z3 (Z0ax h0 h1),Z3 (Z0ee (by simp)),Z3 e]
 rw [Z3 (show Z6q ⟨[] ++ [70,66,1,d]++Zb4 gs s x,0⟩=some ([]++([] ++ [70,66,1,d]++Zb4 gs s x),0,⟨[] ++ [70,66,1,d]++Zb4 gs s x,0⟩) by
  unfold Z6q; rw [Z1e (by rfl),Z0b (decide_eq_true (by simp; omega)),Zr])]
 rfl
theorem Zgq {gs:List (PF α)} {d:Int} {x:α} (hg : ∀ g∈gs,Lay g.1 g.2) (hn:gs.length<=100) (h0:1<=d) (h1:d<=255) :
  Zbw (gs.map (·.1)) d x=some (bif Z1t (gs.map (·.1)) true x then [70,66,1,d]++Zb4 gs true x else []):=by
 unfold Zbw
 cases Z1t (gs.map (·.1)) true x
 ·rfl
 ·rw [Z1e (by rfl),Z3 (Zzf hg hn h0 h1)]; rfl
end
theorem Zab (a b c:Int):Z0f a b c=some (decide (a≥b)&&decide (a<=c)):=rfl
theorem b4 (x:Int):Byt (Zlr x):=byt_of (Z05g x)
theorem b8 (x:Int):Byt (be8 x):=byt_of (Zvz x)
theorem Zb5 {α:Type} {s:Bool} {x:α} : ∀ (gs:List (PF α)),(∀ g∈gs,Byt (bif g.1.sgn || !s then g.2 x else []))->Byt (Zb4 gs s x)
 | [],_=>Z5n
 | g::gs,h=>by
  show Byt ((bif g.1.sgn || !s then g.2 x else [])++Zb4 gs s x)
  exact Z74 (h g List.mem_cons_self) (Zb5 gs fun q hq=>h q (List.mem_cons_of_mem _ hq))
theorem Zgf {d:Int} (h0:0<=d) (h1:d<256):Byt [70,66,1,d]:=byt_of fun y hy=>by
 simp only [List.mem_cons,List.not_mem_nil,or_false] at hy
 rcases hy with rfl | rfl | rfl | rfl <;> omega
def G_Cert:List (PF Z09):=[(Zfc (fun x:Z09=>x.gSerial) (1) (fun _=>65535),(fun x:Z09=>Zlr (IntKind.u32.wrap (x.gSerial)))),(Zfc (fun x:Z09=>x.gRides) (1) (fun _=>4096),(fun x:Z09=>Zlr (IntKind.u32.wrap (x.gRides)))),(Zlx (fun x:Z09=>x.gPrice) 1000000000,(fun x:Z09=>be8 (IntKind.u64.wrap (x.gPrice)))),(Zem (fun x:Z09=>x.gAnchor) 32 true,(fun x:Z09=>tk (x.gAnchor) 0 32)),(Zem (fun x:Z09=>x.gSig) 64 false,(fun x:Z09=>tk (x.gSig) 0 64))]
theorem Z00x:F_Cert=G_Cert.map (·.1):=rfl
theorem Zj0 : ∀ g∈G_Cert,Lay g.1 g.2:=by
 intro g hg
 simp only [G_Cert,List.mem_cons,List.not_mem_nil,or_false] at hg
 ·rcases hg with rfl | rfl | rfl | rfl | rfl
  ·exact Zgh
  ·exact Zgh
  ·exact Z028
  ·exact Zet (by decide)
  ·exact Zet (by decide)
def Zeu (x:Z09):Bool:=Z1t F_Cert false x
theorem Z06b (x:Z09):Z1t F_Cert true x=Zeu x:=by simp only [Zeu,Z1t,F_Cert,List.all_cons,List.all_nil,Zfc,Zlx,Zem,Bool.true_or,Bool.or_true,Bool.not_true,Bool.true_and,Bool.not_not,Bool.and_true,Bool.not_false,Bool.false_or,Bool.false_and]
theorem Zwl (x:Z09):Z2n x=some (Zeu x):=by
 simp only [Zeu,Z1t,F_Cert,List.all_cons,List.all_nil,Zfc,Zlx,Zem,Bool.true_or,Bool.or_true,Bool.not_true,Bool.true_and,Bool.not_not,Bool.and_true,Bool.not_false,Bool.false_or,Bool.false_and]
 rw [Z2n,Z3 (Zab _ _ _),Z0b (by simp [imp,Zab]),Zab,Option.getD_some]
 simp only [Bool.and_assoc]
def Zkk (x:Z09):LI:=bif Zeu x then [70,66,1,1]++Zb4 G_Cert true x else []
theorem Z07k (x:Z09):Zgv x=some (Zkk x):=by
 have h:=Zgq (x:=x) (d:=1) Zj0 (by decide) (by decide) (by decide)
 rw [<- Z00x,Z06b] at h
 exact h
theorem Z044 (x:Z09):(Zkk x).length<=1000:=by
 unfold Zkk
 cases Zeu x
 ·simp
 ·have:=(Zcc (s:=true) (x:=x) G_Cert [] Zj0 (by decide)).2
  rw [cond_true,List.length_append]
  have e:G_Cert.length=5:=rfl
  rw [e] at this
  simp; omega
def G_Freeze:List (PF Z0e):=G_Cert.map (innP (fun x:Z0e=>x.gCert)) ++ [(Zem (fun x:Z0e=>x.gSig) 64 false,(fun x:Z0e=>tk (x.gSig) 0 64))]
theorem Zvu:Zg8=G_Freeze.map (·.1):=rfl
theorem Zms : ∀ g∈G_Freeze,Lay g.1 g.2:=by
 intro g hg
 rcases List.mem_append.1 hg with hg | hg
 ·obtain ⟨q,hq,rfl⟩:=List.mem_map.1 hg
  exact Z027 (Zj0 q hq)
 ·simp only [List.mem_cons,List.not_mem_nil,or_false] at hg
  rcases hg with rfl
  ·exact Zet (by decide)
def Zb6 (x:Z0e):Bool:=Z1t Zg8 false x
theorem Zzr (x:Z0e):Z1t Zg8 true x=Zb6 x:=by simp only [Zb6,Z1t,Zg8,F_Cert,List.map_cons,List.map_nil,List.cons_append,List.nil_append,List.all_append,List.all_cons,List.all_nil,Zfc,Zlx,Zem,Zse,Zlp,Bool.true_or,Bool.false_or,Bool.or_true,Bool.not_true,Bool.not_false,Bool.true_and,Bool.false_and,Bool.not_not,Bool.and_true]
theorem Z02p (x:Z0e):Z3r x=some (Zb6 x):=by
 rw [Z3r,Z3 (Zwl _)]
 simp only [Zb6,Zeu,Z1t,Zg8,F_Cert,List.map_cons,List.map_nil,List.cons_append,List.nil_append,List.all_append,List.all_cons,List.all_nil,Zfc,Zlx,Zem,Zse,Zlp,Bool.true_or,Bool.false_or,Bool.or_true,Bool.not_true,Bool.not_false,Bool.true_and,Bool.false_and,Bool.not_not,Bool.and_true]
def Zdr (x:Z0e):LI:=bif Zb6 x then [70,66,1,4]++Zb4 G_Freeze true x else []
theorem Z00f (x:Z0e):Zdz x=some (Zdr x):=by
 have h:=Zgq (x:=x) (d:=4) Zms (by decide) (by decide) (by decide)
 rw [<- Zvu,Zzr] at h
 exact h
theorem Zx1 (x:Z0e):(Zdr x).length<=1000:=by
 unfold Zdr
 cases Zb6 x
 ·simp
 ·have:=(Zcc (s:=true) (x:=x) G_Freeze [] Zms (by decide)).2
  rw [cond_true,List.length_append]
  have e:G_Freeze.length=6:=rfl
  rw [e] at this
  simp; omega
def G_Ack:List (PF Z0r):=[(Zfc (fun x:Z0r=>x.gSerial) (1) (fun _=>65535),(fun x:Z0r=>Zlr (IntKind.u32.wrap (x.gSerial)))),(Zfc (fun x:Z0r=>x.gGate) (1) (fun _=>16),(fun x:Z0r=>Zlr (IntKind.u32.wrap (x.gGate)))),(Zfc (fun x:Z0r=>x.gIndex) (0) (fun _=>4096),(fun x:Z0r=>Zlr (IntKind.u32.wrap (x.gIndex)))),(Zem (fun x:Z0r=>x.gValue) 32 true,(fun x:Z0r=>tk (x.gValue) 0 32)),(Zem (fun x:Z0r=>x.gSig) 64 false,(fun x:Z0r=>tk (x.gSig) 0 64))]
theorem Z058:Zvs=G_Ack.map (·.1):=rfl
theorem Zte : ∀ g∈G_Ack,Lay g.1 g.2:=by
 intro g hg
 simp only [G_Ack,List.mem_cons,List.not_mem_nil,or_false] at hg
 ·rcases hg with rfl | rfl | rfl | rfl | rfl
  ·exact Zgh
  ·exact Zgh
  ·exact Zgh
  ·exact Zet (by decide)
  ·exact Zet (by decide)
def Zmz (x:Z0r):Bool:=Z1t Zvs false x
theorem Z0b6 (x:Z0r):Z1t Zvs true x=Zmz x:=by simp only [Zmz,Z1t,Zvs,F_Cert,List.map_cons,List.map_nil,List.cons_append,List.nil_append,List.all_append,List.all_cons,List.all_nil,Zfc,Zlx,Zem,Zse,Zlp,Bool.true_or,Bool.false_or,Bool.or_true,Bool.not_true,Bool.not_false,Bool.true_and,Bool.false_and,Bool.not_not,Bool.and_true]
theorem Z0l3 (x:Z0r):Z5c x=some (Zmz x):=by
 simp only [Zmz,Z1t,Zvs,F_Cert,List.map_cons,List.map_nil,List.cons_append,List.nil_append,List.all_append,List.all_cons,List.all_nil,Zfc,Zlx,Zem,Zse,Zlp,Bool.true_or,Bool.false_or,Bool.or_true,Bool.not_true,Bool.not_false,Bool.true_and,Bool.false_and,Bool.not_not,Bool.and_true]
 rw [Z5c,Z3 (Zab _ _ _),Z0b (by simp [imp,Zab]),Z0b (by simp [imp,Zab]),Zab,Zab,Option.getD_some,Option.getD_some]
 simp only [Bool.and_assoc]
def Zq0 (x:Z0r):LI:=bif Zmz x then [70,66,1,5]++Zb4 G_Ack true x else []
theorem Z0cu (x:Z0r):Ziu x=some (Zq0 x):=by
 have h:=Zgq (x:=x) (d:=5) Zte (by decide) (by decide) (by decide)
 rw [<- Z058,Z0b6] at h
 exact h
theorem Z07n (x:Z0r):(Zq0 x).length<=1000:=by
 unfold Zq0
 cases Zmz x
 ·simp
 ·have:=(Zcc (s:=true) (x:=x) G_Ack [] Zte (by decide)).2
  rw [cond_true,List.length_append]
  have e:G_Ack.length=5:=rfl
  rw [e] at this
  simp; omega
def G_Revocation:List (PF Zs):=G_Cert.map (innP (fun x:Zs=>x.gCert)) ++ [(Zem (fun x:Zs=>x.gSig) 64 false,(fun x:Zs=>tk (x.gSig) 0 64))]
theorem Zof:Z75=G_Revocation.map (·.1):=rfl
theorem Zh1 : ∀ g∈G_Revocation,Lay g.1 g.2:=by
 intro g hg
 rcases List.mem_append.1 hg with hg | hg
 ·obtain ⟨q,hq,rfl⟩:=List.mem_map.1 hg
  exact Z027 (Zj0 q hq)
 ·simp only [List.mem_cons,List.not_mem_nil,or_false] at hg
  rcases hg with rfl
  ·exact Zet (by decide)
def Z5e (x:Zs):Bool:=Z1t Z75 false x
theorem Zqn (x:Zs):Z1t Z75 true x=Z5e x:=by simp only [Z5e,Z1t,Z75,F_Cert,List.map_cons,List.map_nil,List.cons_append,List.nil_append,List.all_append,List.all_cons,List.all_nil,Zfc,Zlx,Zem,Zse,Zlp,Bool.true_or,Bool.false_or,Bool.or_true,Bool.not_true,Bool.not_false,Bool.true_and,Bool.false_and,Bool.not_not,Bool.and_true]
theorem Zso (x:Zs):Z2e x=some (Z5e x):=by
 rw [Z2e,Z3 (Zwl _)]
 simp only [Z5e,Zeu,Z1t,Z75,F_Cert,List.map_cons,List.map_nil,List.cons_append,List.nil_append,List.all_append,List.all_cons,List.all_nil,Zfc,Zlx,Zem,Zse,Zlp,Bool.true_or,Bool.false_or,Bool.or_true,Bool.not_true,Bool.not_false,Bool.true_and,Bool.false_and,Bool.not_not,Bool.and_true]
def Z6j (x:Zs):LI:=bif Z5e x then [70,66,1,6]++Zb4 G_Revocation true x else []
theorem Zqv (x:Zs):Z8z x=some (Z6j x):=by
 have h:=Zgq (x:=x) (d:=6) Zh1 (by decide) (by decide) (by decide)
 rw [<- Zof,Zqn] at h
 exact h
theorem Zq2 (x:Zs):(Z6j x).length<=1000:=by
 unfold Z6j
 cases Z5e x
 ·simp
 ·have:=(Zcc (s:=true) (x:=x) G_Revocation [] Zh1 (by decide)).2
  rw [cond_true,List.length_append]
  have e:G_Revocation.length=6:=rfl
  rw [e] at this
  simp; omega
def G_Floor:List (PF Z0h):=[(Zfc (fun x:Z0h=>x.gFloor) (1) (fun _=>65536),(fun x:Z0h=>Zlr (IntKind.u32.wrap (x.gFloor)))),(Zem (fun x:Z0h=>x.gSig) 64 false,(fun x:Z0h=>tk (x.gSig) 0 64))]
theorem Zz8:Zk3=G_Floor.map (·.1):=rfl
theorem Zoe : ∀ g∈G_Floor,Lay g.1 g.2:=by
 intro g hg
 simp only [G_Floor,List.mem_cons,List.not_mem_nil,or_false] at hg
 ·rcases hg with rfl | rfl
  ·exact Zgh
  ·exact Zet (by decide)
def Zea (x:Z0h):Bool:=Z1t Zk3 false x
theorem Z02c (x:Z0h):Z1t Zk3 true x=Zea x:=by simp only [Zea,Z1t,Zk3,F_Cert,List.map_cons,List.map_nil,List.cons_append,List.nil_append,List.all_append,List.all_cons,List.all_nil,Zfc,Zlx,Zem,Zse,Zlp,Bool.true_or,Bool.false_or,Bool.or_true,Bool.not_true,Bool.not_false,Bool.true_and,Bool.false_and,Bool.not_not,Bool.and_true]
theorem Z06i (x:Z0h):Z4f x=some (Zea x):=by
 rw [Z4f,Z3 (Zab _ _ _)]
 simp only [Zea,Z1t,Zk3,F_Cert,List.map_cons,List.map_nil,List.cons_append,List.nil_append,List.all_append,List.all_cons,List.all_nil,Zfc,Zlx,Zem,Zse,Zlp,Bool.true_or,Bool.false_or,Bool.or_true,Bool.not_true,Bool.not_false,Bool.true_and,Bool.false_and,Bool.not_not,Bool.and_true]
def Zgp (x:Z0h):LI:=bif Zea x then [70,66,1,7]++Zb4 G_Floor true x else []
theorem Z043 (x:Z0h):Zf0 x=some (Zgp x):=by
 have h:=Zgq (x:=x) (d:=7) Zoe (by decide) (by decide) (by decide)
 rw [<- Zz8,Z02c] at h
 exact h
theorem Z00g (x:Z0h):(Zgp x).length<=1000:=by
 unfold Zgp
 cases Zea x
 ·simp
 ·have:=(Zcc (s:=true) (x:=x) G_Floor [] Zoe (by decide)).2
  rw [cond_true,List.length_append]
  have e:G_Floor.length=2:=rfl
  rw [e] at this
  simp; omega
def G_Receipt:List (PF Zw):=[(Zfc (fun x:Zw=>x.gSerial) (1) (fun _=>65535),(fun x:Zw=>Zlr (IntKind.u32.wrap (x.gSerial)))),(Zfc (fun x:Zw=>x.gRides) (0) (fun _=>4096),(fun x:Zw=>Zlr (IntKind.u32.wrap (x.gRides)))),(Zlx (fun x:Zw=>x.gAmount) 9223372036854775807,(fun x:Zw=>be8 (IntKind.u64.wrap (x.gAmount)))),(Zem (fun x:Zw=>x.gSig) 64 false,(fun x:Zw=>tk (x.gSig) 0 64))]
theorem Ztf:Zcu=G_Receipt.map (·.1):=rfl
theorem Zkq : ∀ g∈G_Receipt,Lay g.1 g.2:=by
 intro g hg
 simp only [G_Receipt,List.mem_cons,List.not_mem_nil,or_false] at hg
 ·rcases hg with rfl | rfl | rfl | rfl
  ·exact Zgh
  ·exact Zgh
  ·exact Z028
  ·exact Zet (by decide)
def Z9b (x:Zw):Bool:=Z1t Zcu false x
theorem Zwh (x:Zw):Z1t Zcu true x=Z9b x:=by simp only [Z9b,Z1t,Zcu,F_Cert,List.map_cons,List.map_nil,List.cons_append,List.nil_append,List.all_append,List.all_cons,List.all_nil,Zfc,Zlx,Zem,Zse,Zlp,Bool.true_or,Bool.false_or,Bool.or_true,Bool.not_true,Bool.not_false,Bool.true_and,Bool.false_and,Bool.not_not,Bool.and_true]
theorem Zzx (x:Zw) (h:x.gAmount<=9223372036854775807):Z3e x=some (Z9b x):=by
 have e:decide (x.gAmount<=9223372036854775807)=true:=decide_eq_true h
 simp only [Z9b,Z1t,Zcu,F_Cert,List.map_cons,List.map_nil,List.cons_append,List.nil_append,List.all_append,List.all_cons,List.all_nil,Zfc,Zlx,Zem,Zse,Zlp,Bool.true_or,Bool.false_or,Bool.or_true,Bool.not_true,Bool.not_false,Bool.true_and,Bool.false_and,Bool.not_not,Bool.and_true,e]
 rw [Z3e,Z3 (Zab _ _ _),Z0b (by simp [imp,Zab]),Zab,Option.getD_some]
 simp only [Bool.and_assoc]
def Zak (x:Zw):LI:=bif Z9b x then [70,66,1,8]++Zb4 G_Receipt true x else []
theorem Zx0 (x:Zw):Zc1 x=some (Zak x):=by
 have h:=Zgq (x:=x) (d:=8) Zkq (by decide) (by decide) (by decide)
 rw [<- Ztf,Zwh] at h
 exact h
theorem Zvf (x:Zw):(Zak x).length<=1000:=by
 unfold Zak
 cases Z9b x
 ·simp
 ·have:=(Zcc (s:=true) (x:=x) G_Receipt [] Zkq (by decide)).2
  rw [cond_true,List.length_append]
  have e:G_Receipt.length=4:=rfl
  rw [e] at this
  simp; omega
def G_Head:List (PF Z0n):=[(Zfc (fun x:Z0n=>x.gSize) (0) (fun _=>65536),(fun x:Z0n=>Zlr (IntKind.u32.wrap (x.gSize)))),(Zem (fun x:Z0n=>x.gRoot) 32 true,(fun x:Z0n=>tk (x.gRoot) 0 32)),(Zem (fun x:Z0n=>x.gSig) 64 false,(fun x:Z0n=>tk (x.gSig) 0 64))]
theorem Z00y:Zod=G_Head.map (·.1):=rfl
theorem Zqy : ∀ g∈G_Head,Lay g.1 g.2:=by
 intro g hg
 simp only [G_Head,List.mem_cons,List.not_mem_nil,or_false] at hg
 ·rcases hg with rfl | rfl | rfl
  ·exact Zgh
  ·exact Zet (by decide)
  ·exact Zet (by decide)
def Zhu (x:Z0n):Bool:=Z1t Zod false x
theorem Z06c (x:Z0n):Z1t Zod true x=Zhu x:=by simp only [Zhu,Z1t,Zod,F_Cert,List.map_cons,List.map_nil,List.cons_append,List.nil_append,List.all_append,List.all_cons,List.all_nil,Zfc,Zlx,Zem,Zse,Zlp,Bool.true_or,Bool.false_or,Bool.or_true,Bool.not_true,Bool.not_false,Bool.true_and,Bool.false_and,Bool.not_not,Bool.and_true]
theorem Z0bj (x:Z0n):Z4u x=some (Zhu x):=by
 rw [Z4u,Z3 (Zab _ _ _)]
 simp only [Zhu,Z1t,Zod,F_Cert,List.map_cons,List.map_nil,List.cons_append,List.nil_append,List.all_append,List.all_cons,List.all_nil,Zfc,Zlx,Zem,Zse,Zlp,Bool.true_or,Bool.false_or,Bool.or_true,Bool.not_true,Bool.not_false,Bool.true_and,Bool.false_and,Bool.not_not,Bool.and_true]
def Zkl (x:Z0n):LI:=bif Zhu x then [70,66,1,10]++Zb4 G_Head true x else []
theorem Z07l (x:Z0n):Zgw x=some (Zkl x):=by
 have h:=Zgq (x:=x) (d:=10) Zqy (by decide) (by decide) (by decide)
 rw [<- Z00y,Z06c] at h
 exact h
theorem Z045 (x:Z0n):(Zkl x).length<=1000:=by
 unfold Zkl
 cases Zhu x
 ·simp
 ·have:=(Zcc (s:=true) (x:=x) G_Head [] Zqy (by decide)).2
  rw [cond_true,List.length_append]
  have e:G_Head.length=3:=rfl
  rw [e] at this
  simp; omega
end Go.Proofs.YtkjfpenagcdmcaaGreatDoor
namespace Go.Proofs.YtkjfpenagcdmcaaGreatDoor
open Go Go.Sx Go.RowKit
set_option linter.all false
set_option maxRecDepth 100000
set_option maxHeartbeats 1000000
abbrev sc (c:Z09):LI:=Zlr (IntKind.u32.wrap c.gSerial)++(Zlr (IntKind.u32.wrap c.gRides)++(be8 (IntKind.u64.wrap c.gPrice)++tk c.gAnchor 0 32))
theorem Z0ov (c:Z09):(sc c).length=48:=by simp [sc,Z70,Zek,Z0o]
theorem Zxs {b:LI} (h:b.length<=1000000) (c:Z09):Z38 ⟨b,0⟩ c=some ⟨b++sc c,0⟩:=by
 rw [Z38,Zr,Z3 (du32 (by omega) _),Zr,Z3 (du32 (by simp [Z70]; omega) _),Zr,Z3 (du64 (by simp [Z70]; omega) _),Z3 (dfix (by simp [Z70,Zek,Z0o]; omega))]
 simp only [sc,List.append_assoc]
theorem Zxr {b:LI} (h:b.length<=1000000) (c:Z09):Z37 ⟨b,0⟩ c=some ⟨b++(sc c++tk c.gSig 0 64),0⟩:=by
 rw [Z37,Z3 (Zxs h c),Z3 (dfix (by rw [List.length_append,Z0ov,Z0o]; omega)),List.append_assoc]
theorem Z0al {b:LI} (h:b.length<=1000000) (x:Z0r):Z4w ⟨b,0⟩ x=some ⟨b++(Zlr (IntKind.u32.wrap x.gSerial)++(Zlr (IntKind.u32.wrap x.gGate)++(Zlr (IntKind.u32.wrap x.gIndex)++tk x.gValue 0 32))),0⟩:=by
 rw [Z4w,Zr,Z3 (du32 (by omega) _),Zr,Z3 (du32 (by simp [Z70]; omega) _),Zr,Z3 (du32 (by simp [Z70]; omega) _),Z3 (dfix (by simp [Z70,Z0o]; omega))]
 simp only [List.append_assoc]
theorem Zw5 {b:LI} (h:b.length<=1000000) (x:Zw):Z2y ⟨b,0⟩ x=some ⟨b++(Zlr (IntKind.u32.wrap x.gSerial)++(Zlr (IntKind.u32.wrap x.gRides)++be8 (IntKind.u64.wrap x.gAmount))),0⟩:=by
 rw [Z2y,Zr,Z3 (du32 (by omega) _),Zr,Z3 (du32 (by simp [Z70]; omega) _),Zr,Z3 (du64 (by simp [Z70]; omega) _)]
 simp only [List.append_assoc]
def Ztg (x:Z09):Prop:=Byt x.gAnchor/\Byt x.gSig
def Zs7 (x:Z0e):Prop:=Ztg x.gCert/\Byt x.gSig
def Z09h (x:Z0r):Prop:=Byt x.gValue/\Byt x.gSig
def Zhe (x:Zs):Prop:=Ztg x.gCert/\Byt x.gSig
def Zvv (x:Z0h):Prop:=Byt x.gSig
def Zoh (x:Zw):Prop:=Byt x.gSig/\x.gAmount<=9223372036854775807
def Z00z (x:Z0n):Prop:=Byt x.gRoot/\Byt x.gSig
theorem Z03w (x:Z09):Z4g x=some (Zkk x):=by
 rw [Z4g,Z3 (Zwl x)]
 unfold Zkk
 cases Zeu x
 ·rfl
 ·rw [Z1e (by rfl),Z3 (Zgc (by decide) (by decide)),Z3 (Zxs (by decide) _),Z3 (Zot _)]
  simp only [Zb4,G_Cert,List.map_cons,List.map_nil,List.cons_append,List.nil_append,List.flatMap_cons,List.flatMap_nil,Zfc,Zlx,Zem,Zse,Zlp,Bool.true_or,Bool.false_or,Bool.or_true,Bool.not_true,Bool.not_false,cond_true,cond_false,List.append_nil,List.append_assoc]
theorem Zvd {x:Z09} (hx:Ztg x):Byt (Zkk x):=by
 unfold Zkk
 cases Zeu x
 ·exact Z5n
 ·refine Z74 (Zgf (by decide) (by decide)) (Zb5 _ ?_)
  intro g hg
  simp only [G_Cert,List.mem_cons,List.not_mem_nil,or_false] at hg
  rcases hg with rfl | rfl | rfl | rfl | rfl
  ·exact b4 _
  ·exact b4 _
  ·exact b8 _
  ·exact Zk2 hx.1 0 32
  ·exact Z5n
theorem Z00i {s:LI} (hs:Byt s) (l:s.length=32) {x:Z09} (hx:Ztg x) : ∃ y,Z9v s x=some y/\Z3t s x=some y:=by
 have hl:=Z044 x
 refine ⟨_,?_,by rw [Z3t,Z3 (Z03w x),Z3 (Zwx hs l (Zvd hx) (by omega))]⟩
 rw [Z9v,Z3 (show Zjd=some () from rfl)]
 refine Z3 ?_
 rw [Z4k,Z3 (Z07k x),Z3 (Zwo hs l (Zvd hx) (by omega))]
theorem Zww (x:Z0e):Z3f x=some (Zdr x):=by
 rw [Z3f,Z3 (Z02p x)]
 unfold Zdr
 cases Zb6 x
 ·rfl
 ·rw [Z1e (by rfl),Z3 (Zgc (by decide) (by decide)),Z3 (Zxr (by decide) _),Z3 (Zot _)]
  simp only [Zb4,G_Freeze,G_Cert,List.map_cons,List.map_nil,List.cons_append,List.nil_append,List.flatMap_cons,List.flatMap_nil,Zfc,Zlx,Zem,Zse,Zlp,Bool.true_or,Bool.false_or,Bool.or_true,Bool.not_true,Bool.not_false,cond_true,cond_false,List.append_nil,List.append_assoc]
theorem Zq1 {x:Z0e} (hx:Zs7 x):Byt (Zdr x):=by
 unfold Zdr
 cases Zb6 x
 ·exact Z5n
 ·refine Z74 (Zgf (by decide) (by decide)) (Zb5 _ ?_)
  intro g hg
  rcases List.mem_append.1 hg with hg | hg
  ·obtain ⟨q,hq,rfl⟩:=List.mem_map.1 hg
   simp only [G_Cert,List.mem_cons,List.not_mem_nil,or_false] at hq
   rcases hq with rfl | rfl | rfl | rfl | rfl
   ·exact b4 _
   ·exact b4 _
   ·exact b8 _
   ·exact Zk2 hx.1.1 0 32
   ·exact Zk2 hx.1.2 0 64
  ·simp only [List.mem_cons,List.not_mem_nil,or_false] at hg
   subst hg
   exact Z5n
theorem Zvg {s:LI} (hs:Byt s) (l:s.length=32) {x:Z0e} (hx:Zs7 x) : ∃ y,Z7n s x=some y/\Z2z s x=some y:=by
 have hl:=Zx1 x
 refine ⟨_,?_,by rw [Z2z,Z3 (Zww x),Z3 (Zwx hs l (Zq1 hx) (by omega))]⟩
 rw [Z7n,Z3 (show Zef=some () from rfl)]
 refine Z3 ?_
 rw [Z3m,Z3 (Z00f x),Z3 (Zwo hs l (Zq1 hx) (by omega))]
theorem Z07g (x:Z0r):Z4v x=some (Zq0 x):=by
 rw [Z4v,Z3 (Z0l3 x)]
 unfold Zq0
 cases Zmz x
 ·rfl
 ·rw [Z1e (by rfl),Z3 (Zgc (by decide) (by decide)),Z3 (Z0al (by decide) _),Z3 (Zot _)]
  simp only [Zb4,G_Ack,G_Cert,List.map_cons,List.map_nil,List.cons_append,List.nil_append,List.flatMap_cons,List.flatMap_nil,Zfc,Zlx,Zem,Zse,Zlp,Bool.true_or,Bool.false_or,Bool.or_true,Bool.not_true,Bool.not_false,cond_true,cond_false,List.append_nil,List.append_assoc]
theorem Zyw {x:Z0r} (hx:Z09h x):Byt (Zq0 x):=by
 unfold Zq0
 cases Zmz x
 ·exact Z5n
 ·refine Z74 (Zgf (by decide) (by decide)) (Zb5 _ ?_)
  intro g hg
  simp only [G_Ack,List.mem_cons,List.not_mem_nil,or_false] at hg
  rcases hg with rfl | rfl | rfl | rfl | rfl
  ·exact b4 _
  ·exact b4 _
  ·exact b4 _
  ·exact Zk2 hx.1 0 32
  ·exact Z5n
theorem Z047 {s:LI} (hs:Byt s) (l:s.length=32) {x:Z0r} (hx:Z09h x) : ∃ y,Zbn s x=some y/\Z4i s x=some y:=by
 have hl:=Z07n x
 refine ⟨_,?_,by rw [Z4i,Z3 (Z07g x),Z3 (Zwx hs l (Zyw hx) (by omega))]⟩
 rw [Zbn,Z3 (show Zlf=some () from rfl)]
 refine Z3 ?_
 rw [Z55,Z3 (Z0cu x),Z3 (Zwo hs l (Zyw hx) (by omega))]
theorem Zpx (x:Zs):Z26 x=some (Z6j x):=by
 rw [Z26,Z3 (Zso x)]
 unfold Z6j
 cases Z5e x
 ·rfl
 ·rw [Z1e (by rfl),Z3 (Zgc (by decide) (by decide)),Z3 (Zxr (by decide) _),Z3 (Zot _)]
  simp only [Zb4,G_Revocation,G_Cert,List.map_cons,List.map_nil,List.cons_append,List.nil_append,List.flatMap_cons,List.flatMap_nil,Zfc,Zlx,Zem,Zse,Zlp,Bool.true_or,Bool.false_or,Bool.or_true,Bool.not_true,Bool.not_false,cond_true,cond_false,List.append_nil,List.append_assoc]
theorem Zin {x:Zs} (hx:Zhe x):Byt (Z6j x):=by
 unfold Z6j
 cases Z5e x
 ·exact Z5n
 ·refine Z74 (Zgf (by decide) (by decide)) (Zb5 _ ?_)
  intro g hg
  rcases List.mem_append.1 hg with hg | hg
  ·obtain ⟨q,hq,rfl⟩:=List.mem_map.1 hg
   simp only [G_Cert,List.mem_cons,List.not_mem_nil,or_false] at hq
   rcases hq with rfl | rfl | rfl | rfl | rfl
   ·exact b4 _
   ·exact b4 _
   ·exact b8 _
   ·exact Zk2 hx.1.1 0 32
   ·exact Zk2 hx.1.2 0 64
  ·simp only [List.mem_cons,List.not_mem_nil,or_false] at hg
   subst hg
   exact Z5n
theorem Zns {s:LI} (hs:Byt s) (l:s.length=32) {x:Zs} (hx:Zhe x) : ∃ y,Z4z s x=some y/\Z22 s x=some y:=by
 have hl:=Zq2 x
 refine ⟨_,?_,by rw [Z22,Z3 (Zpx x),Z3 (Zwx hs l (Zin hx) (by omega))]⟩
 rw [Z4z,Z3 (show Z8s=some () from rfl)]
 refine Z3 ?_
 rw [Z2j,Z3 (Zqv x),Z3 (Zwo hs l (Zin hx) (by omega))]
theorem Z00e (x:Z0h):Z3s x=some (Zgp x):=by
 rw [Z3s,Z3 (Z06i x)]
 unfold Zgp
 cases Zea x
 ·rfl
 ·rw [Z1e (by rfl),Z3 (Zgc (by decide) (by decide)),Zr,Z3 (du32 (by decide) _),Z3 (Zot _)]
  simp only [Zb4,G_Floor,G_Cert,List.map_cons,List.map_nil,List.cons_append,List.nil_append,List.flatMap_cons,List.flatMap_nil,Zfc,Zlx,Zem,Zse,Zlp,Bool.true_or,Bool.false_or,Bool.or_true,Bool.not_true,Bool.not_false,cond_true,cond_false,List.append_nil,List.append_assoc]
theorem Zrw {x:Z0h} (hx:Zvv x):Byt (Zgp x):=by
 unfold Zgp
 cases Zea x
 ·exact Z5n
 ·refine Z74 (Zgf (by decide) (by decide)) (Zb5 _ ?_)
  intro g hg
  simp only [G_Floor,List.mem_cons,List.not_mem_nil,or_false] at hg
  rcases hg with rfl | rfl
  ·exact b4 _
  ·exact Z5n
theorem Zx2 {s:LI} (hs:Byt s) (l:s.length=32) {x:Z0h} (hx:Zvv x) : ∃ y,Z8n s x=some y/\Z3g s x=some y:=by
 have hl:=Z00g x
 refine ⟨_,?_,by rw [Z3g,Z3 (Z00e x),Z3 (Zwx hs l (Zrw hx) (by omega))]⟩
 rw [Z8n,Z3 (show Zgn=some () from rfl)]
 refine Z3 ?_
 rw [Z49,Z3 (Z043 x),Z3 (Zwo hs l (Zrw hx) (by omega))]
theorem Zvb (x:Zw) (hx:x.gAmount<=9223372036854775807):Z2x x=some (Zak x):=by
 rw [Z2x,Z3 (Zzx x hx)]
 unfold Zak
 cases Z9b x
 ·rfl
 ·rw [Z1e (by rfl),Z3 (Zgc (by decide) (by decide)),Z3 (Zw5 (by decide) _),Z3 (Zot _)]
  simp only [Zb4,G_Receipt,G_Cert,List.map_cons,List.map_nil,List.cons_append,List.nil_append,List.flatMap_cons,List.flatMap_nil,Zfc,Zlx,Zem,Zse,Zlp,Bool.true_or,Bool.false_or,Bool.or_true,Bool.not_true,Bool.not_false,cond_true,cond_false,List.append_nil,List.append_assoc]
theorem Znb {x:Zw} (hx:Zoh x):Byt (Zak x):=by
 unfold Zak
 cases Z9b x
 ·exact Z5n
 ·refine Z74 (Zgf (by decide) (by decide)) (Zb5 _ ?_)
  intro g hg
  simp only [G_Receipt,List.mem_cons,List.not_mem_nil,or_false] at hg
  rcases hg with rfl | rfl | rfl | rfl
  ·exact b4 _
  ·exact b4 _
  ·exact b8 _
  ·exact Z5n
theorem Zt7 {s:LI} (hs:Byt s) (l:s.length=32) {x:Zw} (hx:Zoh x) : ∃ y,Z6o s x=some y/\Z2q s x=some y:=by
 have hl:=Zvf x
 refine ⟨_,?_,by rw [Z2q,Z3 (Zvb x hx.2),Z3 (Zwx hs l (Znb hx) (by omega))]⟩
 rw [Z6o,Z3 (show Zch=some () from rfl)]
 refine Z3 ?_
 rw [Z3a,Z3 (Zx0 x),Z3 (Zwo hs l (Znb hx) (by omega))]
theorem Z03x (x:Z0n):Z4h x=some (Zkl x):=by
 rw [Z4h,Z3 (Z0bj x)]
 unfold Zkl
 cases Zhu x
 ·rfl
 ·rw [Z1e (by rfl),Z3 (Zgc (by decide) (by decide)),Zr,Z3 (du32 (by decide) _),Z3 (dfix (by simp [Z70,Z0o])),Z3 (Zot _)]
  simp only [Zb4,G_Head,G_Cert,List.map_cons,List.map_nil,List.cons_append,List.nil_append,List.flatMap_cons,List.flatMap_nil,Zfc,Zlx,Zem,Zse,Zlp,Bool.true_or,Bool.false_or,Bool.or_true,Bool.not_true,Bool.not_false,cond_true,cond_false,List.append_nil,List.append_assoc]
theorem Zve {x:Z0n} (hx:Z00z x):Byt (Zkl x):=by
 unfold Zkl
 cases Zhu x
 ·exact Z5n
 ·refine Z74 (Zgf (by decide) (by decide)) (Zb5 _ ?_)
  intro g hg
  simp only [G_Head,List.mem_cons,List.not_mem_nil,or_false] at hg
  rcases hg with rfl | rfl | rfl
  ·exact b4 _
  ·exact Zk2 hx.1 0 32
  ·exact Z5n
theorem Z00j {s:LI} (hs:Byt s) (l:s.length=32) {x:Z0n} (hx:Z00z x) : ∃ y,Z9w s x=some y/\Z3u s x=some y:=by
 have hl:=Z045 x
 refine ⟨_,?_,by rw [Z3u,Z3 (Z03x x),Z3 (Zwx hs l (Zve hx) (by omega))]⟩
 rw [Z9w,Z3 (show Zje=some () from rfl)]
 refine Z3 ?_
 rw [Z4l,Z3 (Z07l x),Z3 (Zwo hs l (Zve hx) (by omega))]
theorem Z065 (n:Nat) (a:LI):ieq n a a=true:=by simp [ieq]
def OkTerm (x:Zc):Prop:=Ztg x.gCert/\Zs7 x.gFreeze/\Z09h x.gAck/\Zhe x.gRevocation/\Zvv x.gFloor/\Zoh x.gReceipt/\Z00z x.gHead
theorem Z048 {s:LI} (hs:Byt s) (l:s.length=32) {x:Zc} (hx:OkTerm x) : ∃ t,Z4t s x=some (t,t):=by
 obtain ⟨h1,h2,h3,h4,h5,h6,h7⟩:=hx
 obtain ⟨y1,a1,b1⟩:=Z00i hs l h1
 obtain ⟨y2,a2,b2⟩:=Zvg hs l h2
 obtain ⟨y3,a3,b3⟩:=Z047 hs l h3
 obtain ⟨y4,a4,b4⟩:=Zns hs l h4
 obtain ⟨y5,a5,b5⟩:=Zx2 hs l h5
 obtain ⟨y6,a6,b6⟩:=Zt7 hs l h6
 obtain ⟨y7,a7,b7⟩:=Z00j hs l h7
 rw [Z4t,Z1v]
 simp only [Z1v]
 cases e1:(x.gKind==1)
 ·rw [Z1e rfl]
  cases e2:(x.gKind==2)
  ·rw [Z1e rfl]
   cases e3:(x.gKind==3)
   ·rw [Z1e rfl]
    cases e4:(x.gKind==4)
    ·rw [Z1e rfl]
     cases e5:(x.gKind==5)
     ·rw [Z1e rfl]
      cases e6:(x.gKind==6)
      ·rw [Z1e rfl]
       cases e7:(x.gKind==7)
       ·rw [Z1e rfl]; exact ⟨_,rfl⟩
       ·rw [Z1s rfl,Z3 a7,Z3 b7]; exact ⟨_,rfl⟩
      ·rw [Z1s rfl,Z3 a6,Z3 b6]; exact ⟨_,rfl⟩
     ·rw [Z1s rfl,Z3 a5,Z3 b5]; exact ⟨_,rfl⟩
    ·rw [Z1s rfl,Z3 a4,Z3 b4]; exact ⟨_,rfl⟩
   ·rw [Z1s rfl,Z3 a3,Z3 b3]; exact ⟨_,rfl⟩
  ·rw [Z1s rfl,Z3 a2,Z3 b2]; exact ⟨_,rfl⟩
 ·rw [Z1s rfl,Z3 a1,Z3 b1]; exact ⟨_,rfl⟩
theorem ringSeals_eq {s:LI} (hs:Byt s) (l:s.length=32) {x:Zc} (hx:OkTerm x):Z53 s x=some true:=by
 obtain ⟨t,e⟩:=Z048 hs l hx
 rw [Z53,Z3 e]
 simp only [Z065,beq_self_eq_true,Bool.and_true]
abbrev k0:LI:=List.replicate 32 0
end Go.Proofs.YtkjfpenagcdmcaaGreatDoor
namespace Go.Sx
open Go Go.RowKit
set_option linter.all false
theorem goes_none {P:Program} (h:P.funcs.any Func.goes=false) {c:OpenClaim} (hs:c.start = .entering):false=c.goesBy P:=by
 have h1 : ∀ g:Nat,(P.funcs[g]?).any Func.goes=false:=by
  intro g
  cases e:P.funcs[g]? with
  | none=>rfl
  | some fn =>
   rw [Array.any_eq_false] at h
   obtain ⟨hg,rfl⟩:=Array.getElem?_eq_some_iff.1 e
   simpa using h g hg
 have h2 : ∀ f,P.goes f=false:=by
  intro f
  unfold Program.goes
  rw [h,Bool.and_false,Bool.or_false]
  rw [List.any_eq_false]
  intro g _
  rw [h1 g]
  decide
 unfold OpenClaim.goesBy Program.goesAt Program.goesFrom
 rw [hs]
 cases P.funcNamed c.func with
 | none=>rfl
 | some f=>simp [h2 f]
end Go.Sx
