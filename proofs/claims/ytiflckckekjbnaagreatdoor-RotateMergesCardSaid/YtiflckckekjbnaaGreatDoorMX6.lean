/- Texts of a proof, one behind the other: F3 F4 F5 F6 C1 C2 C3 G1 G2 V1 V2 N1 N2 N3 N7 N8 N9 N10 N11 N12 H1 H2 V3 G3. -/
import Derived.Test.YtiflckckekjbnaaGreatDoorMX5
import Derived.KernelRfl
namespace Go.Proofs.YtiflckckekjbnaaGreatDoor
open Go Go.Sx Go.RowKit
open Go.IntKind (wrap)
set_option linter.all false
set_option maxRecDepth 100000
def Zmk (S:Nat->Int):LI:=[Zjw (S 0),Zg9 (S 0),Zjw (S 1),Zg9 (S 1),Zjw (S 2),Zg9 (S 2),Zjw (S 3),Zg9 (S 3),Zjw (S 4),Zg9 (S 4)]
theorem Zw9 {S T:Nat->Int} (h : ∀ k,k<5->S k=T k):Zmk S=Zmk T:=by
  simp only [Zmk,h 0 (by decide),h 1 (by decide),h 2 (by decide),h 3 (by decide),h 4 (by decide)]
def updN (S:Nat->Int) (k:Nat) (v:Int):Nat->Int:=fun j=>if j=k then v else S j
theorem Zv3 {S:Nat->Int} {k:Nat} {a c:Int} (hk:k<5) (hs:0<=S k) (ha:0<=a/\a<18446744073709551616) (hc:0<=c/\c<18446744073709551616) (hb:S k+a*c<340282366920938463463374607431768211456) :
    Z2x (Zmk S) (0+k*2) 10 a c=some (Zmk (updN S k (S k+a*c))):=by
  have h1:(Zmk S).getD (0+k*2) 0=Zjw (S k):=by
    match k,hk with
    | 0,_=>rfl
    | 1,_=>rfl
    | 2,_=>rfl
    | 3,_=>rfl
    | 4,_=>rfl
  have h2:(Zmk S).getD (0+k*2+1) 0=Zg9 (S k):=by
    match k,hk with
    | 0,_=>rfl
    | 1,_=>rfl
    | 2,_=>rfl
    | 3,_=>rfl
    | 4,_=>rfl
  rw [Z00a hs h1 h2 (by omega) ha hc hb]
  congr 1
  match k,hk with
  | 0,_=>rfl
  | 1,_=>rfl
  | 2,_=>rfl
  | 3,_=>rfl
  | 4,_=>rfl
def Zox (x:Int) (y:LI) (i j:Nat):Int:=x*(if i+j<5 then y.getD j 0 else 19*y.getD j 0)
theorem Zy7 {y:LI} {i j:Nat} {kk:LI->Option (LI)} {k':Int->LI->Option (LI)} {x:Int} {S:Nat->Int} {T:Int} (hi:i<5) (hj:j<5) (hx:0<=x/\x<=2251799813947392) (hy : ∀ j,j<5->0<=y.getD j 0/\y.getD j 0<=2251799813947392)
    (hS : ∀ k,k<5->0<=S k/\S k<=T) (hT:T<=100000000000000000000000000000000000) :
    Z6v y (i:Int) x kk k' (j:Int) (Zmk S)=k' ((j+1:Nat):Int) (Zmk (updN S ((i+j)%5) (S ((i+j)%5)+Zox x y i j))):=by
  have hyj:=hy j hj
  rw [Z6v,Z0g (by simp; omega),Z13,Zo (Z0i (by omega) (by omega))]
  simp only [Zb,Int.toNat_natCast]
  have hij:wrap .i64 ((i:Int)+(j:Int))=((i+j:Nat):Int):=by rw [Zj (by omega) (by omega)]; omega
  have hj1:wrap .i64 ((j:Int)+1)=((j+1:Nat):Int):=by rw [Zj (by omega) (by omega)]; omega
  rw [hij,hj1]
  have hSk:=hS ((i+j)%5) (Nat.mod_lt _ (by decide))
  by_cases h:i+j<5
  · have hm:(i+j)%5=i+j:=Nat.mod_eq_of_lt h
    rw [hm] at hSk ⊢
    have hp:=Zf9 hx hyj
    rw [Z0g (by simp; omega),Zo (Z0i (by omega) (by omega)),Z3 (Zv3 (S:=S) (k:=((i+j:Nat):Int).toNat) (by omega) (by rw [Int.toNat_natCast]; exact hSk.1) (by omega) (by omega) (by rw [Int.toNat_natCast]; omega))]
    simp only [Int.toNat_natCast,Zox,if_pos h]
  · have hm:(i+j)%5=i+j-5:=by omega
    rw [hm] at hSk ⊢
    have h5:wrap .i64 (((i+j:Nat):Int)-5)=((i+j-5:Nat):Int):=by rw [Zj (by omega) (by omega)]; omega
    have h19:wrap .u64 (19*y.getD j 0)=19*y.getD j 0:=Zd (by omega) (by omega)
    rw [h5,h19]
    have hp:=Zf9 (b:=19*y.getD j 0) (B:=42784196465000448) hx (by omega)
    rw [Z08 (by simp; omega),Zo (Z0i (by omega) (by omega)),Z3 (Zv3 (S:=S) (k:=((i+j-5:Nat):Int).toNat) (by omega) (by rw [Int.toNat_natCast]; exact hSk.1) (by omega) (by omega) (by rw [Int.toNat_natCast]; omega))]
    simp only [Int.toNat_natCast,Zox,if_neg h]
theorem Z01q {y:LI} {i:Nat} {kk:LI->Option (LI)} {k':Int->LI->Option (LI)} {x:Int} {a:LI} (hi:i<5):Z6v y (i:Int) x kk k' 5 a=kk a:=by
  rw [Z6v,Z08 (by decide)]
theorem Z01o {x:Int} {y:LI} {i j:Nat} (hj:j<5) (hx:0<=x/\x<=2251799813947392) (hy : ∀ j,j<5->0<=y.getD j 0/\y.getD j 0<=2251799813947392):0<=Zox x y i j/\Zox x y i j<=96341445639776675308685928431616:=by
  have hyj:=hy j hj
  unfold Zox
  split
  · have:=Zf9 hx hyj; omega
  · have:=Zf9 (b:=19*y.getD j 0) (B:=42784196465000448) hx (by omega); omega
theorem Z0jc {S:Nat->Int} {T v:Int} {k:Nat} (hS : ∀ k,k<5->0<=S k/\S k<=T) (hv:0<=v/\v<=T+96341445639776675308685928431616) : ∀ j,j<5->0<=updN S k v j/\updN S k v j<=T+96341445639776675308685928431616:=by
  intro j hj
  have:=hS j hj
  unfold updN
  split <;> omega
def inn (S:Nat->Int) (x:Int) (y:LI) (i:Nat):Nat->Int:=fun k=>S k+x*(if i<=k then y.getD (k-i) 0 else 19*y.getD (k+5-i) 0)
theorem Zy5 {y:LI} {i:Nat} {kk:LI->Option (LI)} {x:Int} {S:Nat->Int} {T:Int} (hi:i<5) (hx:0<=x/\x<=2251799813947392) (hy : ∀ j,j<5->0<=y.getD j 0/\y.getD j 0<=2251799813947392)
    (hS : ∀ k,k<5->0<=S k/\S k<=T) (hT:T<=10000000000000000000000000000000000) :
    Z5x y (i:Int) x kk big 0 (Zmk S)=kk (Zmk (inn S x y i)):=by
  obtain ⟨n,hn⟩ : ∃ n,big=n+6:=⟨18446744073709551610,Z1t⟩
  rw [hn]
  have step : ∀ (n j:Nat) (S:Nat->Int) (T:Int),j<5->(∀ k,k<5->0<=S k/\S k<=T)->T<=100000000000000000000000000000000000 ->
      Z5x y (i:Int) x kk (n+1) (j:Int) (Zmk S)=Z5x y (i:Int) x kk n ((j+1:Nat):Int) (Zmk (updN S ((i+j)%5) (S ((i+j)%5)+Zox x y i j))) :=
    fun n j S T hj hS hT=>Zy7 hi hj hx hy hS hT
  have bd : ∀ (j:Nat) (S:Nat->Int) (T:Int),j<5->(∀ k,k<5->0<=S k/\S k<=T)->∀ k,k<5->0<=updN S ((i+j)%5) (S ((i+j)%5)+Zox x y i j) k/\updN S ((i+j)%5) (S ((i+j)%5)+Zox x y i j) k<=T+96341445639776675308685928431616 :=
    fun j S T hj hS=>Z0jc hS (by have:=Z01o (i:=i) hj hx hy; have:=hS ((i+j)%5) (Nat.mod_lt _ (by decide)); omega)
  have s0:=step (n+5) 0 S T (by decide) hS (by omega)
  have b0:=bd 0 S T (by decide) hS
  have s1:=step (n+4) 1 _ _ (by decide) b0 (by omega)
  have b1:=bd 1 _ _ (by decide) b0
  have s2:=step (n+3) 2 _ _ (by decide) b1 (by omega)
  have b2:=bd 2 _ _ (by decide) b1
  have s3:=step (n+2) 3 _ _ (by decide) b2 (by omega)
  have b3:=bd 3 _ _ (by decide) b2
  have s4:=step (n+1) 4 _ _ (by decide) b3 (by omega)
  refine (s0.trans (s1.trans (s2.trans (s3.trans (s4.trans ((Z01q hi).trans ?_))))))
  congr 1
  apply Zw9
  intro k hk
  clear s0 s1 s2 s3 s4 b0 b1 b2 b3 bd step hS hy hx hn
  match i,hi,k,hk with
  | 0,_,0,_ | 0,_,1,_ | 0,_,2,_ | 0,_,3,_ | 0,_,4,_ | 1,_,0,_ | 1,_,1,_ | 1,_,2,_ | 1,_,3,_ | 1,_,4,_ | 2,_,0,_ | 2,_,1,_ | 2,_,2,_ | 2,_,3,_ | 2,_,4,_
  | 3,_,0,_ | 3,_,1,_ | 3,_,2,_ | 3,_,3,_ | 3,_,4,_ | 4,_,0,_ | 4,_,1,_ | 4,_,2,_ | 4,_,3,_ | 4,_,4,_=>rfl
theorem Zi0 {S:Nat->Int} {x T:Int} {y:LI} {i:Nat} (hi:i<5) (hx:0<=x/\x<=2251799813947392) (hy : ∀ j,j<5->0<=y.getD j 0/\y.getD j 0<=2251799813947392) (hS : ∀ k,k<5->0<=S k/\S k<=T) :
    ∀ k,k<5->0<=inn S x y i k/\inn S x y i k<=T+96341445639776675308685928431616:=by
  intro k hk
  have h1:=hS k hk
  unfold inn
  split
  · have:=Zf9 hx (hy (k-i) (by omega)); omega
  · have:=Zf9 (b:=19*y.getD (k+5-i) 0) (B:=42784196465000448) hx (by have:=hy (k+5-i) (by omega); omega); omega
def Zms (x y:LI):Nat->Int:=inn (inn (inn (inn (inn (fun _=>0) (x.getD 0 0) y 0) (x.getD 1 0) y 1) (x.getD 2 0) y 2) (x.getD 3 0) y 3) (x.getD 4 0) y 4
theorem Z06c {x y:LI} (hx : ∀ j,j<5->0<=x.getD j 0/\x.getD j 0<=2251799813947392) (hy : ∀ j,j<5->0<=y.getD j 0/\y.getD j 0<=2251799813947392) : ∀ k,k<5->0<=Zms x y k/\Zms x y k<=481707228198883376543429642158080:=by
  have b0:=Zi0 (S:=fun _=>0) (T:=0) (i:=0) (by decide) (hx 0 (by decide)) hy (fun _ _=>by simp)
  have b1:=Zi0 (i:=1) (by decide) (hx 1 (by decide)) hy b0
  have b2:=Zi0 (i:=2) (by decide) (hx 2 (by decide)) hy b1
  have b3:=Zi0 (i:=3) (by decide) (hx 3 (by decide)) hy b2
  have b4:=Zi0 (i:=4) (by decide) (hx 4 (by decide)) hy b3
  intro k hk
  have:=b4 k hk
  unfold Zms
  omega
theorem Zd5 {x y : LI} (hx : ∀ j, j < 5 -> 0 <= x.getD j 0 /\ x.getD j 0 <= 2251799813947392) (hy : ∀ j, j < 5 -> 0 <= y.getD j 0 /\ y.getD j 0 <= 2251799813947392) (n i : Nat) (S : Nat -> Int) (T : Int) (hi : i < 5) (hS : ∀ k, k < 5 -> 0 <= S k /\ S k <= T) (hT : T <= 10000000000000000000000000000000000) (kk : LI -> Option (LI)) :
      Z3v x y kk (n+1) (i:Int) (Zmk S)=Z3v x y kk n ((i+1:Nat):Int) (Zmk (inn S (x.getD i 0) y i)):=by
  rw [Z3v,Zai,Z0g (by simp; omega),Zo (Z0i (by omega) (by omega))]
  simp only [Zb,Z13,Int.toNat_natCast]
  rw [Zy5 hi (hx i hi) hy hS hT,Zj (by omega) (by omega)]
  rfl
theorem Zvl {x y:LI} (n:Nat) (a:LI) (kk:LI->Option (LI)):Z3v x y kk (n+1) ((5:Nat):Int) a=kk a:=by
  rw [Z3v,Zai,Z08 (by decide)]
theorem Z0sw:(List.replicate 10 0:LI)=Zmk (fun _=>0):=by decide
theorem Zy6 {x y:LI} (hx : ∀ j,j<5->0<=x.getD j 0/\x.getD j 0<=2251799813947392) (hy : ∀ j,j<5->0<=y.getD j 0/\y.getD j 0<=2251799813947392) (kk:LI->Option (LI)) :
    Z3v x y kk big 0 (List.replicate 10 0)=kk (Zmk (Zms x y)):=by
  obtain ⟨n,hn⟩ : ∃ n,big=n+1+1+1+1+1+1:=⟨18446744073709551610,Z1t⟩
  have b0:=Zi0 (S:=fun _=>0) (T:=0) (i:=0) (by decide) (hx 0 (by decide)) hy (fun _ _=>by simp)
  have b1:=Zi0 (i:=1) (by decide) (hx 1 (by decide)) hy b0
  have b2:=Zi0 (i:=2) (by decide) (hx 2 (by decide)) hy b1
  have b3:=Zi0 (i:=3) (by decide) (hx 3 (by decide)) hy b2
  have s0:=Zd5 (kk:=kk) hx hy (n+1+1+1+1+1) 0 (fun _=>0) 0 (by decide) (fun _ _=>by simp) (by omega)
  have s1:=Zd5 (kk:=kk) hx hy (n+1+1+1+1) 1 _ _ (by decide) b0 (by omega)
  have s2:=Zd5 (kk:=kk) hx hy (n+1+1+1) 2 _ _ (by decide) b1 (by omega)
  have s3:=Zd5 (kk:=kk) hx hy (n+1+1) 3 _ _ (by decide) b2 (by omega)
  have s4:=Zd5 (kk:=kk) hx hy (n+1) 4 _ _ (by decide) b3 (by omega)
  have s5:=Zvl (x:=x) (y:=y) n (Zmk (Zms x y)) kk
  unfold Zms at s5 ⊢
  rw [<- hn] at s0
  rw [Z0sw]
  exact s0.trans (s1.trans (s2.trans (s3.trans (s4.trans s5))))
theorem Zy3 {S:Nat->Int} {kk:Int->LI->Option (LI)} {k':Int->Int->LI->Option (LI)} {i:Nat} {c:Int} {out:LI} (hi:i<5) (hS:0<=S i/\S i<=481707228198883376543429642158080) (hc:0<=c/\c<18446744073709551616) :
    Z8n (Zmk S) kk k' c (i:Int) out=k' ((S i+c) / 2251799813685248) ((i+1:Nat):Int) (Z2u out i ((S i+c)%2251799813685248)):=by
  have ht:tk (Zmk S) (i*2) 2 = [Zjw (S i),Zg9 (S i)]:=by
    match i,hi with
    | 0,_=>rfl
    | 1,_=>rfl
    | 2,_=>rfl
    | 3,_=>rfl
    | 4,_=>rfl
  rw [Z8n,Z0g (by simp; omega),Zo (Z0i (by omega) (by omega))]
  simp only [Zb,Int.toNat_natCast,ht,List.getD_cons_zero,List.getD_cons_succ]
  generalize S i=s at *
  have hl:0<=Zg9 s/\Zg9 s<18446744073709551616:=by unfold Zg9; omega
  rw [Zo (by simp [Zep]; omega),Zo (Z0i (by omega) (by omega))]
  simp only [Zoc,Zkr,Int.add_zero]
  rw [Zj (by omega) (by omega),Zw5,Z0j5,Zof (by omega) (by omega)]
  have hh:0<=Zjw s/\Zjw s<1000000000000000:=by unfold Zjw; omega
  have hcar:0<=(Zg9 s+c) / 18446744073709551616/\(Zg9 s+c) / 18446744073709551616<=1:=by omega
  rw [Zd (x:=Zjw s+(Zg9 s+c) / 18446744073709551616) (by omega) (by omega)]
  have hm:(Zjw s+(Zg9 s+c) / 18446744073709551616)*8192%18446744073709551616=(Zjw s+(Zg9 s+c) / 18446744073709551616)*8192:=by omega
  rw [hm,Zu8 13 (x:=(Zjw s+(Zg9 s+c) / 18446744073709551616)*8192) (a:=Zjw s+(Zg9 s+c) / 18446744073709551616) rfl (by omega) (by omega) (by omega) (by omega)]
  have e1:(Zg9 s+c)%18446744073709551616%2251799813685248=(s+c)%2251799813685248:=by unfold Zg9; omega
  have e2:(Zjw s+(Zg9 s+c) / 18446744073709551616)*8192+(Zg9 s+c)%18446744073709551616 / 2251799813685248=(s+c) / 2251799813685248:=by unfold Zjw Zg9; omega
  rw [e1,e2]
  rfl
theorem alg5 (x0 x1 x2 x3 x4 y0 y1 y2 y3 y4 m:Int):(x0+x1*m+x2*(m*m)+x3*(m*m*m)+x4*(m*m*m*m))*(y0+y1*m+y2*(m*m)+y3*(m*m*m)+y4*(m*m*m*m)) =
    x0*y0+(x0*y1+x1*y0)*m+(x0*y2+x1*y1+x2*y0)*(m*m)+(x0*y3+x1*y2+x2*y1+x3*y0)*(m*m*m)+(x0*y4+x1*y3+x2*y2+x3*y1+x4*y0)*(m*m*m*m)
     + ((x1*y4+x2*y3+x3*y2+x4*y1)+(x2*y4+x3*y3+x4*y2)*m+(x3*y4+x4*y3)*(m*m)+x4*y4*(m*m*m))*(m*m*m*m*m):=by grind
theorem Z01n (x y:LI) : ∃ q,Z6q x*Z6q y=Zms x y 0+Zms x y 1*2251799813685248+Zms x y 2*5070602400912917605986812821504+Zms x y 3*11417981541647679048466287755595961091061972992+Zms x y 4*25711008708143844408671393477458601640355247900524685364822016+q*PP:=by
  have h:=alg5 (x.getD 0 0) (x.getD 1 0) (x.getD 2 0) (x.getD 3 0) (x.getD 4 0) (y.getD 0 0) (y.getD 1 0) (y.getD 2 0) (y.getD 3 0) (y.getD 4 0) 2251799813685248
  have e0:Zms x y 0=x.getD 0 0*y.getD 0 0+19*(x.getD 1 0*y.getD 4 0+x.getD 2 0*y.getD 3 0+x.getD 3 0*y.getD 2 0+x.getD 4 0*y.getD 1 0):=by simp [Zms,inn] <;> grind
  have e1:Zms x y 1=x.getD 0 0*y.getD 1 0+x.getD 1 0*y.getD 0 0+19*(x.getD 2 0*y.getD 4 0+x.getD 3 0*y.getD 3 0+x.getD 4 0*y.getD 2 0):=by simp [Zms,inn] <;> grind
  have e2:Zms x y 2=x.getD 0 0*y.getD 2 0+x.getD 1 0*y.getD 1 0+x.getD 2 0*y.getD 0 0+19*(x.getD 3 0*y.getD 4 0+x.getD 4 0*y.getD 3 0):=by simp [Zms,inn] <;> grind
  have e3:Zms x y 3=x.getD 0 0*y.getD 3 0+x.getD 1 0*y.getD 2 0+x.getD 2 0*y.getD 1 0+x.getD 3 0*y.getD 0 0+19*(x.getD 4 0*y.getD 4 0):=by simp [Zms,inn] <;> grind
  have e4:Zms x y 4=x.getD 0 0*y.getD 4 0+x.getD 1 0*y.getD 3 0+x.getD 2 0*y.getD 2 0+x.getD 3 0*y.getD 1 0+x.getD 4 0*y.getD 0 0:=by simp [Zms,inn] <;> grind
  refine ⟨(x.getD 1 0*y.getD 4 0+x.getD 2 0*y.getD 3 0+x.getD 3 0*y.getD 2 0+x.getD 4 0*y.getD 1 0)+(x.getD 2 0*y.getD 4 0+x.getD 3 0*y.getD 3 0+x.getD 4 0*y.getD 2 0)*2251799813685248+(x.getD 3 0*y.getD 4 0+x.getD 4 0*y.getD 3 0)*5070602400912917605986812821504+x.getD 4 0*y.getD 4 0*11417981541647679048466287755595961091061972992,?_⟩
  rw [e0,e1,e2,e3,e4]
  simp only [Z6q,PP]
  simp only [Int.reduceMul] at h
  rw [h]
  omega
end Go.Proofs.YtiflckckekjbnaaGreatDoor
namespace Go.Proofs.YtiflckckekjbnaaGreatDoor
open Go Go.Sx Go.RowKit
open List (replicate)
set_option linter.all false
set_option maxRecDepth 100000
theorem U5.mk5 {d0 d1 d2 d3 d4:Int} (h0:0<=d0/\d0<18446744073709551616) (h1:0<=d1/\d1<18446744073709551616) (h2:0<=d2/\d2<18446744073709551616) (h3:0<=d3/\d3<18446744073709551616) (h4:0<=d4/\d4<18446744073709551616):U5 [d0,d1,d2,d3,d4] :=
 ⟨h0.1,h1.1,h2.1,h3.1,h4.1,h0.2,h1.2,h2.2,h3.2,h4.2⟩
theorem Z01r {c d0 d1 d2 d3 d4:Int} (hc:0<=c/\c<900000000000000000)
  (h0:0<=d0/\d0<2251799813685248) (h1:0<=d1/\d1<2251799813685248) (h2:0<=d2/\d2<2251799813685248) (h3:0<=d3/\d3<2251799813685248) (h4:0<=d4/\d4<2251799813685248) :
  (opt (Z2x (replicate 2 0) 0 2 c 19) fun y1819 =>
   bnd (y1819.getD 1 0) fun z1823 =>
   bnd ([d0,d1,d2,d3,d4].getD 0 0) fun z1824 =>
   chk (Zep z1823 z1824 0) <|
   bnd (Zae z1823 z1824 0) fun z1826 =>
   bnd (Zev z1823 z1824 0) fun z1827 =>
   bnd (Z4 .and .u64 z1826 2251799813685247) fun z1829 =>
   bnd (Z2u [d0,d1,d2,d3,d4] 0 z1829) fun l1830 =>
   bnd (l1830.getD 1 0) fun z1832 =>
   bnd (y1819.getD 0 0) fun z1833 =>
   bnd (IntKind.wrap .u64 (z1833+z1827)) fun z1834 =>
   bnd (Zl .u64 z1834 13) fun z1835 =>
   bnd (Zq .u64 z1826 51) fun z1836 =>
   bnd (Z4 .or .u64 z1835 z1836) fun z1837 =>
   bnd (IntKind.wrap .u64 (z1832+z1837)) fun z1838 =>
   bnd (Z2u l1830 1 z1838) fun l1839 =>
   opt (Z1v l1839) fun y1841 =>
   some y1841)=some (Zj1 ((d0+d1*2251799813685248+d2*5070602400912917605986812821504+d3*11417981541647679048466287755595961091061972992+d4*25711008708143844408671393477458601640355247900524685364822016+19*c)%PP)):=by
 have hw:Z2x (replicate 2 0) 0 2 c 19=some [Zjw (0+c*19),Zg9 (0+c*19)]:=Z00a (s:=0) (by decide) rfl rfl (by decide) (by omega) (by omega) (by omega)
 rw [Z3 hw]
 simp only [Zb,List.getD_cons_zero,List.getD_cons_succ]
 have hl:Zg9 (0+c*19)=c*19%18446744073709551616:=by unfold Zg9; rw [Int.zero_add]
 have hh:Zjw (0+c*19)=c*19 / 18446744073709551616:=by unfold Zjw; rw [Int.zero_add]
 rw [hl,hh]
 have hlt:c*19<18446744073709551616:=by omega
 rw [Int.emod_eq_of_lt (by omega) hlt,Int.ediv_eq_zero_of_lt (by omega) hlt]
 rw [Zo (by simp [Zep]; omega)]
 simp only [Zoc,Zkr,Int.add_zero,Int.zero_add]
 rw [Int.emod_eq_of_lt (a:=c*19+d0) (by omega) (by omega),Int.ediv_eq_zero_of_lt (a:=c*19+d0) (by omega) (by omega)]
 have ew:IntKind.wrap .u64 0=0:=by decide
 rw [ew,Zw5,Z0j5,Zof (by omega) (by omega)]
 have e0:(0:Int)*8192%18446744073709551616=0:=by decide
 rw [e0,Zu8 13 (x:=0) (a:=0) (by simp) (by omega) (by omega) (by omega) (by omega),Int.zero_add]
 have hs1:Z2u [d0,d1,d2,d3,d4] 0 ((c*19+d0)%2251799813685248) = [(c*19+d0)%2251799813685248,d1,d2,d3,d4]:=rfl
 rw [hs1]
 simp only [List.getD_cons_zero,List.getD_cons_succ]
 rw [Zd (by omega) (by omega)]
 have hs2:Z2u [(c*19+d0)%2251799813685248,d1,d2,d3,d4] 1 (d1+(c*19+d0) / 2251799813685248) = [(c*19+d0)%2251799813685248,d1+(c*19+d0) / 2251799813685248,d2,d3,d4]:=rfl
 rw [hs2,Z3 (Z5t (U5.mk5 (by omega) (by omega) (by omega) (by omega) (by omega)))]
 unfold Zmx
 congr 3
 simp only [Z6q,List.getD_cons_zero,List.getD_cons_succ]
 omega
theorem C5.le {x:LI} (h:C5 x 262144) : ∀ j,j<5->0<=x.getD j 0/\x.getD j 0<=2251799813947392:=by
 have ⟨a0,a1,a2,a3,a4,b0,b1,b2,b3,b4⟩:=h
 intro j hj
 match j,hj with
 | 0,_=>omega
 | 1,_=>omega
 | 2,_=>omega
 | 3,_=>omega
 | 4,_=>omega
theorem Zy4 {x y:LI} (hx:U5 x) (hy:U5 y):Z0y x y=some (Zj1 (Z6q x*Z6q y%PP)):=by
 have cx:=(Zx1 hx).le
 have cy:=(Zx1 hy).le
 rw [Z0y,Z3 (Zg6 hx),Z3 (Zg6 hy),Z13,Zy6 cx cy,Z13]
 have hb:=Z06c cx cy
 obtain ⟨q,hq⟩:=Z01n (Zbj x) (Zbj y)
 have hm:Z6q x*Z6q y%PP=Z6q (Zbj x)*Z6q (Zbj y)%PP:=by
  rw [Int.mul_emod,<- Ziw (x:=x),<- Ziw (x:=y),<- Int.mul_emod]
 rw [hm,hq,Int.add_mul_emod_self_right]
 generalize Zms (Zbj x) (Zbj y)=S at *
 obtain ⟨n,hn⟩ : ∃ n,big=n+1+1+1+1+1+1:=⟨18446744073709551610,Z1t⟩
 generalize hkk:(fun (i1740:Int) (a1741:LI)=>_)=kk
 have step : ∀ (n i:Nat) (c:Int) (out:LI),i<5->(0<=c/\c<18446744073709551616)->Z4h (Zmk S) kk (n+1) c (i:Int) out=Z4h (Zmk S) kk n ((S i+c) / 2251799813685248) ((i+1:Nat):Int) (Z2u out i ((S i+c)%2251799813685248)):=by
  intro n i c out hi hc
  rw [Z4h,Zy3 hi (hb i hi) hc]
 have c0:=hb 0 (by decide)
 have c1:=hb 1 (by decide)
 have c2:=hb 2 (by decide)
 have c3:=hb 3 (by decide)
 have c4:=hb 4 (by decide)
 have k1 : ∃ d,(S 0+0)%2251799813685248=d/\(0<=d/\d<2251799813685248):=⟨_,rfl,by omega⟩
 have s0:=step (n+1+1+1+1+1) 0 0 (replicate 5 0) (by decide) (by decide)
 generalize hd0:(S 0+0)%2251799813685248=d0 at s0
 generalize hv0:(S 0+0) / 2251799813685248=v0 at s0
 have s1:=step (n+1+1+1+1) 1 v0 (Z2u (replicate 5 0) 0 d0) (by decide) (by omega)
 generalize hd1:(S 1+v0)%2251799813685248=d1 at s1
 generalize hv1:(S 1+v0) / 2251799813685248=v1 at s1
 have s2:=step (n+1+1+1) 2 v1 (Z2u (Z2u (replicate 5 0) 0 d0) 1 d1) (by decide) (by omega)
 generalize hd2:(S 2+v1)%2251799813685248=d2 at s2
 generalize hv2:(S 2+v1) / 2251799813685248=v2 at s2
 have s3:=step (n+1+1) 3 v2 (Z2u (Z2u (Z2u (replicate 5 0) 0 d0) 1 d1) 2 d2) (by decide) (by omega)
 generalize hd3:(S 3+v2)%2251799813685248=d3 at s3
 generalize hv3:(S 3+v2) / 2251799813685248=v3 at s3
 have s4:=step (n+1) 4 v3 (Z2u (Z2u (Z2u (Z2u (replicate 5 0) 0 d0) 1 d1) 2 d2) 3 d3) (by decide) (by omega)
 generalize hd4:(S 4+v3)%2251799813685248=d4 at s4
 generalize hv4:(S 4+v3) / 2251799813685248=v4 at s4
 have hout:Z2u (Z2u (Z2u (Z2u (Z2u (replicate 5 0) 0 d0) 1 d1) 2 d2) 3 d3) 4 d4 = [d0,d1,d2,d3,d4]:=rfl
 rw [hout] at s4
 have s5:Z4h (Zmk S) kk (n+1) v4 ((4+1:Nat):Int) [d0,d1,d2,d3,d4]=kk v4 [d0,d1,d2,d3,d4]:=by rw [Z4h,Z8n,Z08 (by decide)]
 subst hkk
 have s5:=s5.trans (Z01r (c:=v4) (d0:=d0) (d1:=d1) (d2:=d2) (d3:=d3) (d4:=d4) (by omega) (by omega) (by omega) (by omega) (by omega) (by omega))
 rw [<- hn] at s0
 refine s0.trans (s1.trans (s2.trans (s3.trans (s4.trans (s5.trans ?_)))))
 congr 2
 clear s0 s1 s2 s3 s4 s5 step hout hb hn k1 cx cy
 have e0:S 0=v0*2251799813685248+d0:=by omega
 have e1:S 1+v0=v1*2251799813685248+d1:=by omega
 have e2:S 2+v1=v2*2251799813685248+d2:=by omega
 have e3:S 3+v2=v3*2251799813685248+d3:=by omega
 have e4:S 4+v3=v4*2251799813685248+d4:=by omega
 clear hd0 hd1 hd2 hd3 hd4 hv0 hv1 hv2 hv3 hv4
 have key:S 0+S 1*2251799813685248+S 2*5070602400912917605986812821504+S 3*11417981541647679048466287755595961091061972992+S 4*25711008708143844408671393477458601640355247900524685364822016 =
   d0+d1*2251799813685248+d2*5070602400912917605986812821504+d3*11417981541647679048466287755595961091061972992+d4*25711008708143844408671393477458601640355247900524685364822016+19*v4+v4*PP:=by
  simp only [PP]; omega
 rw [key,Int.add_mul_emod_self_right]
theorem Zri {x:LI} (hx:U5 x):Z1u x=some (Zj1 (Z6q x*Z6q x%PP)):=by
 rw [Z1u,Z3 (Zy4 hx hx)]
end Go.Proofs.YtiflckckekjbnaaGreatDoor
namespace Go.Proofs.YtiflckckekjbnaaGreatDoor
open Go Go.Sx Go.RowKit
open Go.IntKind (wrap)
set_option linter.all false
set_option maxRecDepth 100000
def fe (n:Int):LI:=Zj1 (n%PP)
theorem Zd1 (n:Int):U5 (fe n):=Zsb _
theorem Zju:(0:Int)<PP:=by decide
theorem Z5d (n:Int):Z6q (fe n)=n%PP:=Zf4 (Int.emod_nonneg _ (by decide)) (Int.emod_lt_of_pos _ Zju)
theorem Z03t (n:Int):fe (n%PP)=fe n:=by unfold fe; rw [Int.emod_emod_of_dvd _ (Int.dvd_refl _)]
theorem Zg7 {a b:Int} (h:a%PP=b%PP):fe a=fe b:=by unfold fe; rw [h]
theorem Z04z (k:LI->Option (LI)) (x0 x1 x2 x3 x4 y0 y1 y2 y3 y4:Int):Z8l [y0,y1,y2,y3,y4] k big 0 [x0,x1,x2,x3,x4] =
  k ([wrap .u64 (x0+y0),wrap .u64 (x1+y1),wrap .u64 (x2+y2),wrap .u64 (x3+y3),wrap .u64 (x4+y4)]):=by kernel_rfl
theorem Z03m {x y:LI} (hx:U5 x) (hy:U5 y):Z2s x y=some (fe (Z6q x+Z6q y)):=by
 have cx:=Zx1 hx
 have cy:=Zx1 hy
 have ex:=Ziw (x:=x)
 have ey:=Ziw (x:=y)
 rw [Z2s,Z3 (Zg6 hx),Z3 (Zg6 hy),Z13]
 have hlx:Zbj x = [(Zbj x).getD 0 0,(Zbj x).getD 1 0,(Zbj x).getD 2 0,(Zbj x).getD 3 0,(Zbj x).getD 4 0]:=rfl
 have hly:Zbj y = [(Zbj y).getD 0 0,(Zbj y).getD 1 0,(Zbj y).getD 2 0,(Zbj y).getD 3 0,(Zbj y).getD 4 0]:=rfl
 have hm:(Z6q x+Z6q y)%PP=(Z6q (Zbj x)+Z6q (Zbj y))%PP:=by rw [Int.add_emod,<- ex,<- ey,<- Int.add_emod]
 rw [Zg7 hm]
 generalize Zbj x=a at *
 generalize Zbj y=b at *
 have ⟨p0,p1,p2,p3,p4,q0,q1,q2,q3,q4⟩:=cx
 have ⟨r0,r1,r2,r3,r4,s0,s1,s2,s3,s4⟩:=cy
 rw [hlx,hly,Z04z]
 rw [Zd (by omega) (by omega),Zd (by omega) (by omega),Zd (by omega) (by omega),Zd (by omega) (by omega),Zd (by omega) (by omega)]
 rw [Z3 (Z5t (U5.mk5 (by omega) (by omega) (by omega) (by omega) (by omega)))]
 unfold Zmx fe
 congr 3
 simp only [Z6q,List.getD_cons_zero,List.getD_cons_succ]
 omega
theorem Z06d (k:LI->Option (LI)) (y0 y1 y2 y3 y4 z:Int):Z8o [y0,y1,y2,y3,y4] k big 1 [z,0,0,0,0] =
  k ([z,wrap .u64 (4503599627370494-y1),wrap .u64 (4503599627370494-y2),wrap .u64 (4503599627370494-y3),wrap .u64 (4503599627370494-y4)]):=by kernel_rfl
theorem Z03y {x:LI} (hx:U5 x):Z5o x=some (fe (- Z6q x)):=by
 rw [Z5o,Z3 (Z5t hx)]
 simp only [Zb,Z13]
 have hv:Z6q (Zmx x)=Z6q x%PP:=Z5d (Z6q x)
 have hl:Zmx x = [(Zmx x).getD 0 0,(Zmx x).getD 1 0,(Zmx x).getD 2 0,(Zmx x).getD 3 0,(Zmx x).getD 4 0]:=rfl
 have hb : ∀ j,j<5->0<=(Zmx x).getD j 0/\(Zmx x).getD j 0<2251799813685248:=by
  intro j hj
  unfold Zmx Zj1
  match j,hj with
  | 0,_=>simp only [M51,List.getD_cons_zero,List.getD_cons_succ]; omega
  | 1,_=>simp only [M51,List.getD_cons_zero,List.getD_cons_succ]; omega
  | 2,_=>simp only [M51,List.getD_cons_zero,List.getD_cons_succ]; omega
  | 3,_=>simp only [M51,List.getD_cons_zero,List.getD_cons_succ]; omega
  | 4,_=>simp only [M51,List.getD_cons_zero,List.getD_cons_succ]; omega
 have hm:(- Z6q x)%PP=(2*PP-Z6q (Zmx x))%PP:=by
  rw [hv]
  have e : - Z6q x=2*PP-Z6q x%PP+(-2-Z6q x / PP)*PP:=by
   have:=Int.emod_add_mul_ediv (Z6q x) PP
   rw [Int.mul_comm] at this
   have h2:(-2-Z6q x / PP)*PP = -2*PP-Z6q x / PP*PP:=by rw [Int.sub_mul]
   omega
  rw [e,Int.add_mul_emod_self_right]
 rw [Zg7 hm]
 generalize Zmx x=a at *
 have b0:=hb 0 (by decide)
 have b1:=hb 1 (by decide)
 have b2:=hb 2 (by decide)
 have b3:=hb 3 (by decide)
 have b4:=hb 4 (by decide)
 rw [hl]
 simp only [List.getD_cons_zero]
 rw [Z06d]
 rw [Zd (by omega) (by omega),Zd (by omega) (by omega),Zd (by omega) (by omega),Zd (by omega) (by omega),Zd (by omega) (by omega)]
 rw [Z3 (Z5t (U5.mk5 (by omega) (by omega) (by omega) (by omega) (by omega)))]
 unfold Zmx fe
 congr 3
 simp only [Z6q,PP,List.getD_cons_zero,List.getD_cons_succ]
 omega
theorem Z0j7 {x y:LI} (hx:U5 x) (hy:U5 y):Z56 x y=some (fe (Z6q x-Z6q y)):=by
 rw [Z56,Z3 (Z03y hy),Z3 (Z03m hx (Zd1 _)),Z5d]
 rw [Zg7 (a:=Z6q x + -Z6q y%PP) (b:=Z6q x-Z6q y)]
 rw [Int.sub_eq_add_neg,Int.add_emod,Int.emod_emod_of_dvd _ (Int.dvd_refl _),<- Int.add_emod]
theorem Zux {n:Int} (h:0<=n/\n<18446744073709551616):Z9v n=some (fe n):=by
 rw [Z9v]
 simp only [Zb]
 rw [Z3 (Z5t (U5.mk5 h (by omega) (by omega) (by omega) (by omega)))]
 unfold Zmx fe
 congr 3
 simp only [Z6q,List.getD_cons_zero,List.getD_cons_succ]
 omega
theorem Z01b {a b:Int} (ha:0<=a/\a<PP) (hb:0<=b/\b<PP) (h:Zj1 a=Zj1 b):a=b:=by
 rw [<- Zf4 ha.1 ha.2,<- Zf4 hb.1 hb.2,h]
theorem Z005 (n:Int):tk (Zj1 n) 0 5=Zj1 n:=rfl
theorem Z03w (a b:Int):ieq 5 (fe a) (fe b)=decide (a%PP=b%PP):=by
 unfold ieq fe
 rw [Z005,Z005]
 rw [decide_eq_decide]
 constructor
 ·exact Z01b ⟨Int.emod_nonneg _ (by decide),Int.emod_lt_of_pos _ Zju⟩ ⟨Int.emod_nonneg _ (by decide),Int.emod_lt_of_pos _ Zju⟩
 ·intro h; rw [h]
theorem Z01a {x y:LI} (hx:U5 x) (hy:U5 y):Z86 x y=some (decide (Z6q x%PP=Z6q y%PP)):=by
 rw [Z86,Z3 (Z5t hx),Z3 (Z5t hy)]
 show some (ieq 5 (fe (Z6q x)) (fe (Z6q y)))=_
 rw [Z03w]
theorem Zxr {x:LI} (hx:U5 x):Z54 x=some (decide (Z6q x%PP=0)):=by
 rw [Z54,Z3 (Z5t hx)]
 simp only [Zb]
 have e:([0,0,0,0,0]:LI)=fe 0:=by decide
 rw [e]
 show some (ieq 5 (fe (Z6q x)) (fe 0))=_
 rw [Z03w]
 rfl
theorem Zry {x:Int} (h0:0<=x) (h1:x<18446744073709551616):Z4 .and .u64 x 1=x%2:=Ziu 1 (by decide) (by decide) h0 h1
theorem Zu1 {x:LI} (hx:U5 x):Z87 x=some (Z6q x%PP%2==1):=by
 rw [Z87,Z3 (Z5t hx)]
 simp only [Zb]
 have e:(Zmx x).getD 0 0=Z6q x%PP%2251799813685248:=rfl
 rw [e,Zry (by omega) (by omega)]
 congr 2
 omega
theorem Zzm {b:Bool} {x y:LI} (hx:U5 x) (hy:U5 y):Z8q b x y=some (fe (bif b then Z6q x else Z6q y)):=by
 rw [Z8q]
 cases b
 ·rw [Z08 rfl,Z3 (Z5t hy)]; rfl
 ·rw [Z0g rfl,Z3 (Z5t hx)]; rfl
theorem and8 {x y:Int} (m n:Nat) (hx:x=m) (hy:y=n) (h1:m<256) (h2:n<256):Z4 .and .u8 x y=((m &&& n:Nat):Int):=by
 subst hx; subst hy
 show IntKind.u8.wrap (((BitVec.ofInt 8 (m:Int) &&& BitVec.ofInt 8 (n:Int)).toNat:Nat):Int)=_
 rw [BitVec.toNat_and,bv8 m h1,bv8 n h2,Z0s]
 have:m &&& n<=m:=Nat.and_le_left
 omega
theorem Zht (k:Nat) {x y:Int} (hy:y=((2^k-1:Nat):Int)) (hk:2^k<=256) (h0:0<=x) (h1:x<256):Z4 .and .u8 x y=x%((2^k:Nat):Int):=by
 have hp:0<2^k:=Nat.pow_pos (by decide)
 rw [and8 x.toNat (2^k-1) (by omega) hy (by omega) (by omega),Nat.and_two_pow_sub_one_eq_mod]
 rw [Int.natCast_emod]
 congr 1; omega
theorem Zwl {x:Int} (h0:0<=x) (h1:x<256):Z4 .and .u8 x 1=x%2:=Zht 1 (by decide) (by decide) h0 h1
def Byt (e:LI):Prop:=∀ i,0<=e.getD i 0/\e.getD i 0<256
def ebit (e:LI) (i:Nat):Bool:=(e.getD (i / 8) 0 / ((2^(i%8):Nat):Int))%2==1
def pw (x:Int) (e:LI):Nat->Int
 | 0=>1
 | k+1=>if ebit e (255-k) then pw x e k*pw x e k%PP*x%PP else pw x e k*pw x e k%PP
theorem Zyq (x:Int) (e:LI) (k:Nat):0<=pw x e k/\pw x e k<PP:=by
 cases k with
 | zero=>exact ⟨by show (0:Int)<=1; decide,by show (1:Int)<PP; decide⟩
 | succ k =>
  unfold pw
  split
  ·exact ⟨Int.emod_nonneg _ (by decide),Int.emod_lt_of_pos _ Zju⟩
  ·exact ⟨Int.emod_nonneg _ (by decide),Int.emod_lt_of_pos _ Zju⟩
theorem Z01c {n:Int} (h0:0<=n) (h1:n<PP):fe n=Zj1 n:=by unfold fe; rw [Int.emod_eq_of_lt h0 h1]
theorem Zyl {x e:LI} (hx:U5 x) (he:Byt e) {kk:LI->Option (LI)} {k':Int->LI->Option (LI)} {i:Nat} (hi:i<256) (a:Int) (ha:0<=a/\a<PP) :
  Z8p x e kk k' (i:Int) (Zj1 a)=k' ((i:Int)-1) (Zj1 (if ebit e i then a*a%PP*Z6q x%PP else a*a%PP)):=by
 have hsq:Z1u (Zj1 a)=some (Zj1 (a*a%PP)):=by rw [Zri (Zsb _),Zf4 ha.1 ha.2]
 rw [Z8p,Z0g (by simp),Z13,Z3 hsq]
 simp only [Zb]
 have hd:wrap .i64 (Int.tdiv (i:Int) 8)=((i / 8:Nat):Int):=by
  rw [Int.tdiv_eq_ediv_of_nonneg (by omega),Zj (by omega) (by omega)]; omega
 have hm:Int.tmod (i:Int) 8=((i%8:Nat):Int):=by
  rw [Int.tmod_eq_emod_of_nonneg (by omega)]; omega
 rw [hd,hm,Zo (Z0i (by omega) (by omega)),Zo (by simp; omega)]
 have hb:=he (i / 8)
 simp only [Int.toNat_natCast]
 rw [Z9p .u8 (n:=i%8) (by show i%8<=8; omega)]
 have hp:(0:Int)<((2^(i%8):Nat):Int):=by have:=Nat.pow_pos (n:=i%8) (show 0<2 by decide); omega
 have hq0:=Int.ediv_nonneg hb.1 (Int.le_of_lt hp)
 have hq1:e.getD (i / 8) 0 / ((2^(i%8):Nat):Int)<256:=Int.lt_of_le_of_lt (Int.ediv_le_self _ hb.1) hb.2
 rw [Zwl hq0 hq1]
 have hw:wrap .i64 ((i:Int)-1)=(i:Int)-1:=Zj (by omega) (by omega)
 by_cases hbit:ebit e i=true
 ·have hb':(e.getD (i / 8) 0 / ((2^(i%8):Nat):Int)%2==1)=true:=hbit
  rw [Z0g hb',if_pos hbit,Z3 (Zy4 (Zsb _) hx),Zf4 (Int.emod_nonneg _ (by decide)) (Int.emod_lt_of_pos _ Zju),hw]
 ·rw [Bool.not_eq_true] at hbit
  have hb':(e.getD (i / 8) 0 / ((2^(i%8):Nat):Int)%2==1)=false:=hbit
  rw [Z08 hb',if_neg (by rw [hbit]; decide),hw]
theorem Zud {x e:LI} (hx:U5 x) (he:Byt e) : ∀ (k n:Nat),k<=256->Z55 x e some (n+1+k) ((k:Int)-1) (Zj1 (pw (Z6q x) e (256-k)))=some (Zj1 (pw (Z6q x) e 256))
 | 0,n,_=>by
  show Z55 x e some (n+1) _ _=_
  rw [Z55,Z8p,Z08 (by decide)]
 | k+1,n,hk=>by
  have ih:=Zud hx he k n (by omega)
  rw [<- Nat.add_assoc,Z55]
  have hi:((k+1:Nat):Int)-1=(k:Int):=by omega
  rw [hi,Zyl hx he (by omega) _ (Zyq _ _ _)]
  have e1:256-k=(256-(k+1))+1:=by omega
  have e2:255-(256-(k+1))=k:=by omega
  rw [e1,pw,e2] at ih
  exact ih
theorem Z044 {x e:LI} (hx:U5 x) (he:Byt e):Zaj x e=some (Zj1 (pw (Z6q x) e 256)):=by
 rw [Zaj,Z3 (Zux (by decide)),Z13]
 obtain ⟨n,hn⟩ : ∃ n,big=n+1+256:=⟨18446744073709551359,Z1t⟩
 have:=Zud hx he 256 n (Nat.le_refl _)
 rw [<- hn] at this
 have e1:fe 1=Zj1 (pw (Z6q x) e (256-256)):=rfl
 rw [e1]
 exact this
set_option maxHeartbeats 1000000
theorem Z14 (k:Nat) {x y a:Int} (hx:x=a*((2^k:Nat):Int)) (ha:0<=a) (h0:0<=y) (hy:y<((2^k:Nat):Int)) (h1:y+x<18446744073709551616):Z4 .or .u64 y x=y+x:=by
 have hp:(0:Int)<=((2^k:Nat):Int):=Int.natCast_nonneg _
 have hx0:0<=x:=by rw [hx]; exact Int.mul_nonneg ha hp
 have:=Zu8 k hx ha h0 hy (by omega)
 rw [or64 y.toNat x.toNat (by omega) (by omega) (by omega) (by omega)]
 rw [or64 x.toNat y.toNat (by omega) (by omega) (by omega) (by omega)] at this
 rw [Nat.or_comm,this,Int.add_comm]
def byt (n:Int):LI:=[n%256,n / 256%256,n / 65536%256,n / 16777216%256,n / 4294967296%256,n / 1099511627776%256,n / 281474976710656%256,n / 72057594037927936%256,n / 18446744073709551616%256,n / 4722366482869645213696%256,n / 1208925819614629174706176%256,n / 309485009821345068724781056%256,n / 79228162514264337593543950336%256,n / 20282409603651670423947251286016%256,n / 5192296858534827628530496329220096%256,n / 1329227995784915872903807060280344576%256,n / 340282366920938463463374607431768211456%256,n / 87112285931760246646623899502532662132736%256,n / 22300745198530623141535718272648361505980416%256,n / 5708990770823839524233143877797980545530986496%256,n / 1461501637330902918203684832716283019655932542976%256,n / 374144419156711147060143317175368453031918731001856%256,n / 95780971304118053647396689196894323976171195136475136%256,n / 24519928653854221733733552434404946937899825954937634816%256,n / 6277101735386680763835789423207666416102355444464034512896%256,n / 1606938044258990275541962092341162602522202993782792835301376%256,n / 411376139330301510538742295639337626245683966408394965837152256%256,n / 105312291668557186697918027683670432318895095400549111254310977536%256,n / 26959946667150639794667015087019630673637144422540572481103610249216%256,n / 6901746346790563787434755862277025452451108972170386555162524223799296%256,n / 1766847064778384329583297500742918515827483896875618958121606201292619776%256,n / 452312848583266388373324160190187140051835877600158453279131187530910662656%256]
theorem Zwy (k:LI->Option (LI)) (y0 y1 y2 y3 y4:Int):Z6h [y0,y1,y2,y3,y4] k big 0 (List.replicate 32 0)=k [wrap .u8 (Zq .u64 y0 0),wrap .u8 (Zq .u64 y0 8),wrap .u8 (Zq .u64 y0 16),wrap .u8 (Zq .u64 y0 24),wrap .u8 (Zq .u64 y0 32),wrap .u8 (Zq .u64 y0 40),wrap .u8 (Z4 .or .u64 (Zq .u64 y0 48) (Zl .u64 y1 3)),wrap .u8 (Zq .u64 y1 5),wrap .u8 (Zq .u64 y1 13),wrap .u8 (Zq .u64 y1 21),wrap .u8 (Zq .u64 y1 29),wrap .u8 (Zq .u64 y1 37),wrap .u8 (Z4 .or .u64 (Zq .u64 y1 45) (Zl .u64 y2 6)),wrap .u8 (Zq .u64 y2 2),wrap .u8 (Zq .u64 y2 10),wrap .u8 (Zq .u64 y2 18),wrap .u8 (Zq .u64 y2 26),wrap .u8 (Zq .u64 y2 34),wrap .u8 (Zq .u64 y2 42),wrap .u8 (Z4 .or .u64 (Zq .u64 y2 50) (Zl .u64 y3 1)),wrap .u8 (Zq .u64 y3 7),wrap .u8 (Zq .u64 y3 15),wrap .u8 (Zq .u64 y3 23),wrap .u8 (Zq .u64 y3 31),wrap .u8 (Zq .u64 y3 39),wrap .u8 (Z4 .or .u64 (Zq .u64 y3 47) (Zl .u64 y4 4)),wrap .u8 (Zq .u64 y4 4),wrap .u8 (Zq .u64 y4 12),wrap .u8 (Zq .u64 y4 20),wrap .u8 (Zq .u64 y4 28),wrap .u8 (Zq .u64 y4 36),wrap .u8 (Zq .u64 y4 44)]:=by kernel_rfl
theorem Z2r (x:Int) (n:Nat) (h:n<=64):Zq .u64 x (n:Int)=x / ((2^n:Nat):Int):=Z9p .u64 h
theorem Z08u {n:Int} (h0:0<=n):wrap .u8 (Zq .u64 (n%2251799813685248) 0)=n%256:=by
 have:=Z2r (n%2251799813685248) 0 (by decide)
 rw [show ((2^0:Nat):Int)=1 from rfl] at this
 refine (congrArg _ this).trans ?_
 rw [Z0s]
 omega
theorem Z08v {n:Int} (h0:0<=n):wrap .u8 (Zq .u64 (n%2251799813685248) 8)=n / 256%256:=by
 have:=Z2r (n%2251799813685248) 8 (by decide)
 rw [show ((2^8:Nat):Int)=256 from rfl] at this
 refine (congrArg _ this).trans ?_
 rw [Z0s]
 omega
theorem Z08w {n:Int} (h0:0<=n):wrap .u8 (Zq .u64 (n%2251799813685248) 16)=n / 65536%256:=by
 have:=Z2r (n%2251799813685248) 16 (by decide)
 rw [show ((2^16:Nat):Int)=65536 from rfl] at this
 refine (congrArg _ this).trans ?_
 rw [Z0s]
 omega
theorem Z08x {n:Int} (h0:0<=n):wrap .u8 (Zq .u64 (n%2251799813685248) 24)=n / 16777216%256:=by
 have:=Z2r (n%2251799813685248) 24 (by decide)
 rw [show ((2^24:Nat):Int)=16777216 from rfl] at this
 refine (congrArg _ this).trans ?_
 rw [Z0s]
 omega
theorem Z08y {n:Int} (h0:0<=n):wrap .u8 (Zq .u64 (n%2251799813685248) 32)=n / 4294967296%256:=by
 have:=Z2r (n%2251799813685248) 32 (by decide)
 rw [show ((2^32:Nat):Int)=4294967296 from rfl] at this
 refine (congrArg _ this).trans ?_
 rw [Z0s]
 omega
theorem Z08z {n:Int} (h0:0<=n):wrap .u8 (Zq .u64 (n%2251799813685248) 40)=n / 1099511627776%256:=by
 have:=Z2r (n%2251799813685248) 40 (by decide)
 rw [show ((2^40:Nat):Int)=1099511627776 from rfl] at this
 refine (congrArg _ this).trans ?_
 rw [Z0s]
 omega
theorem Z090 {n:Int} (h0:0<=n):wrap .u8 (Z4 .or .u64 (Zq .u64 (n%2251799813685248) 48) (Zl .u64 (n / 2251799813685248%2251799813685248) 3))=n / 281474976710656%256:=by
 have e1:Zq .u64 (n%2251799813685248) 48=n / 281474976710656%8:=by
  have:=Z2r (n%2251799813685248) 48 (by decide)
  rw [show ((2^48:Nat):Int)=281474976710656 from rfl] at this
  refine this.trans ?_
  omega
 have e2:Zl .u64 (n / 2251799813685248%2251799813685248) 3=(n / 2251799813685248%2251799813685248)*8:=by
  have:=Zg0 .u64 (x:=n / 2251799813685248%2251799813685248) (n:=3) (by decide)
  rw [show ((2^3:Nat):Int)=8 from rfl] at this
  refine this.trans (Zd (by omega) (by omega))
 rw [e1,e2,Z14 3 (x:=(n / 2251799813685248%2251799813685248)*8) (y:=n / 281474976710656%8) (a:=n / 2251799813685248%2251799813685248) rfl (by omega) (by omega) (by show _<(8:Int); omega) (by omega),Z0s]
 omega
theorem Z091 {n:Int} (h0:0<=n):wrap .u8 (Zq .u64 (n / 2251799813685248%2251799813685248) 5)=n / 72057594037927936%256:=by
 have:=Z2r (n / 2251799813685248%2251799813685248) 5 (by decide)
 rw [show ((2^5:Nat):Int)=32 from rfl] at this
 refine (congrArg _ this).trans ?_
 rw [Z0s]
 omega
theorem Z092 {n:Int} (h0:0<=n):wrap .u8 (Zq .u64 (n / 2251799813685248%2251799813685248) 13)=n / 18446744073709551616%256:=by
 have:=Z2r (n / 2251799813685248%2251799813685248) 13 (by decide)
 rw [show ((2^13:Nat):Int)=8192 from rfl] at this
 refine (congrArg _ this).trans ?_
 rw [Z0s]
 omega
theorem Z093 {n:Int} (h0:0<=n):wrap .u8 (Zq .u64 (n / 2251799813685248%2251799813685248) 21)=n / 4722366482869645213696%256:=by
 have:=Z2r (n / 2251799813685248%2251799813685248) 21 (by decide)
 rw [show ((2^21:Nat):Int)=2097152 from rfl] at this
 refine (congrArg _ this).trans ?_
 rw [Z0s]
 omega
theorem Z053 {n:Int} (h0:0<=n):wrap .u8 (Zq .u64 (n / 2251799813685248%2251799813685248) 29)=n / 1208925819614629174706176%256:=by
 have:=Z2r (n / 2251799813685248%2251799813685248) 29 (by decide)
 rw [show ((2^29:Nat):Int)=536870912 from rfl] at this
 refine (congrArg _ this).trans ?_
 rw [Z0s]
 omega
theorem Z054 {n:Int} (h0:0<=n):wrap .u8 (Zq .u64 (n / 2251799813685248%2251799813685248) 37)=n / 309485009821345068724781056%256:=by
 have:=Z2r (n / 2251799813685248%2251799813685248) 37 (by decide)
 rw [show ((2^37:Nat):Int)=137438953472 from rfl] at this
 refine (congrArg _ this).trans ?_
 rw [Z0s]
 omega
theorem Z055 {n:Int} (h0:0<=n):wrap .u8 (Z4 .or .u64 (Zq .u64 (n / 2251799813685248%2251799813685248) 45) (Zl .u64 (n / 5070602400912917605986812821504%2251799813685248) 6))=n / 79228162514264337593543950336%256:=by
 have e1:Zq .u64 (n / 2251799813685248%2251799813685248) 45=n / 79228162514264337593543950336%64:=by
  have:=Z2r (n / 2251799813685248%2251799813685248) 45 (by decide)
  rw [show ((2^45:Nat):Int)=35184372088832 from rfl] at this
  refine this.trans ?_
  omega
 have e2:Zl .u64 (n / 5070602400912917605986812821504%2251799813685248) 6=(n / 5070602400912917605986812821504%2251799813685248)*64:=by
  have:=Zg0 .u64 (x:=n / 5070602400912917605986812821504%2251799813685248) (n:=6) (by decide)
  rw [show ((2^6:Nat):Int)=64 from rfl] at this
  refine this.trans (Zd (by omega) (by omega))
 rw [e1,e2,Z14 6 (x:=(n / 5070602400912917605986812821504%2251799813685248)*64) (y:=n / 79228162514264337593543950336%64) (a:=n / 5070602400912917605986812821504%2251799813685248) rfl (by omega) (by omega) (by show _<(64:Int); omega) (by omega),Z0s]
 omega
theorem Z056 {n:Int} (h0:0<=n):wrap .u8 (Zq .u64 (n / 5070602400912917605986812821504%2251799813685248) 2)=n / 20282409603651670423947251286016%256:=by
 have:=Z2r (n / 5070602400912917605986812821504%2251799813685248) 2 (by decide)
 rw [show ((2^2:Nat):Int)=4 from rfl] at this
 refine (congrArg _ this).trans ?_
 rw [Z0s]
 omega
theorem Z057 {n:Int} (h0:0<=n):wrap .u8 (Zq .u64 (n / 5070602400912917605986812821504%2251799813685248) 10)=n / 5192296858534827628530496329220096%256:=by
 have:=Z2r (n / 5070602400912917605986812821504%2251799813685248) 10 (by decide)
 rw [show ((2^10:Nat):Int)=1024 from rfl] at this
 refine (congrArg _ this).trans ?_
 rw [Z0s]
 omega
theorem Z058 {n:Int} (h0:0<=n):wrap .u8 (Zq .u64 (n / 5070602400912917605986812821504%2251799813685248) 18)=n / 1329227995784915872903807060280344576%256:=by
 have:=Z2r (n / 5070602400912917605986812821504%2251799813685248) 18 (by decide)
 rw [show ((2^18:Nat):Int)=262144 from rfl] at this
 refine (congrArg _ this).trans ?_
 rw [Z0s]
 omega
theorem Z059 {n:Int} (h0:0<=n):wrap .u8 (Zq .u64 (n / 5070602400912917605986812821504%2251799813685248) 26)=n / 340282366920938463463374607431768211456%256:=by
 have:=Z2r (n / 5070602400912917605986812821504%2251799813685248) 26 (by decide)
 rw [show ((2^26:Nat):Int)=67108864 from rfl] at this
 refine (congrArg _ this).trans ?_
 rw [Z0s]
 omega
theorem Z05a {n:Int} (h0:0<=n):wrap .u8 (Zq .u64 (n / 5070602400912917605986812821504%2251799813685248) 34)=n / 87112285931760246646623899502532662132736%256:=by
 have:=Z2r (n / 5070602400912917605986812821504%2251799813685248) 34 (by decide)
 rw [show ((2^34:Nat):Int)=17179869184 from rfl] at this
 refine (congrArg _ this).trans ?_
 rw [Z0s]
 omega
theorem Z05b {n:Int} (h0:0<=n):wrap .u8 (Zq .u64 (n / 5070602400912917605986812821504%2251799813685248) 42)=n / 22300745198530623141535718272648361505980416%256:=by
 have:=Z2r (n / 5070602400912917605986812821504%2251799813685248) 42 (by decide)
 rw [show ((2^42:Nat):Int)=4398046511104 from rfl] at this
 refine (congrArg _ this).trans ?_
 rw [Z0s]
 omega
theorem Z05c {n:Int} (h0:0<=n):wrap .u8 (Z4 .or .u64 (Zq .u64 (n / 5070602400912917605986812821504%2251799813685248) 50) (Zl .u64 (n / 11417981541647679048466287755595961091061972992%2251799813685248) 1))=n / 5708990770823839524233143877797980545530986496%256:=by
 have e1:Zq .u64 (n / 5070602400912917605986812821504%2251799813685248) 50=n / 5708990770823839524233143877797980545530986496%2:=by
  have:=Z2r (n / 5070602400912917605986812821504%2251799813685248) 50 (by decide)
  rw [show ((2^50:Nat):Int)=1125899906842624 from rfl] at this
  refine this.trans ?_
  omega
 have e2:Zl .u64 (n / 11417981541647679048466287755595961091061972992%2251799813685248) 1=(n / 11417981541647679048466287755595961091061972992%2251799813685248)*2:=by
  have:=Zg0 .u64 (x:=n / 11417981541647679048466287755595961091061972992%2251799813685248) (n:=1) (by decide)
  rw [show ((2^1:Nat):Int)=2 from rfl] at this
  refine this.trans (Zd (by omega) (by omega))
 rw [e1,e2,Z14 1 (x:=(n / 11417981541647679048466287755595961091061972992%2251799813685248)*2) (y:=n / 5708990770823839524233143877797980545530986496%2) (a:=n / 11417981541647679048466287755595961091061972992%2251799813685248) rfl (by omega) (by omega) (by show _<(2:Int); omega) (by omega),Z0s]
 omega
theorem Z05d {n:Int} (h0:0<=n):wrap .u8 (Zq .u64 (n / 11417981541647679048466287755595961091061972992%2251799813685248) 7)=n / 1461501637330902918203684832716283019655932542976%256:=by
 have:=Z2r (n / 11417981541647679048466287755595961091061972992%2251799813685248) 7 (by decide)
 rw [show ((2^7:Nat):Int)=128 from rfl] at this
 refine (congrArg _ this).trans ?_
 rw [Z0s]
 omega
theorem Z05e {n:Int} (h0:0<=n):wrap .u8 (Zq .u64 (n / 11417981541647679048466287755595961091061972992%2251799813685248) 15)=n / 374144419156711147060143317175368453031918731001856%256:=by
 have:=Z2r (n / 11417981541647679048466287755595961091061972992%2251799813685248) 15 (by decide)
 rw [show ((2^15:Nat):Int)=32768 from rfl] at this
 refine (congrArg _ this).trans ?_
 rw [Z0s]
 omega
theorem Z05f {n:Int} (h0:0<=n):wrap .u8 (Zq .u64 (n / 11417981541647679048466287755595961091061972992%2251799813685248) 23)=n / 95780971304118053647396689196894323976171195136475136%256:=by
 have:=Z2r (n / 11417981541647679048466287755595961091061972992%2251799813685248) 23 (by decide)
 rw [show ((2^23:Nat):Int)=8388608 from rfl] at this
 refine (congrArg _ this).trans ?_
 rw [Z0s]
 omega
theorem Z05g {n:Int} (h0:0<=n):wrap .u8 (Zq .u64 (n / 11417981541647679048466287755595961091061972992%2251799813685248) 31)=n / 24519928653854221733733552434404946937899825954937634816%256:=by
 have:=Z2r (n / 11417981541647679048466287755595961091061972992%2251799813685248) 31 (by decide)
 rw [show ((2^31:Nat):Int)=2147483648 from rfl] at this
 refine (congrArg _ this).trans ?_
 rw [Z0s]
 omega
theorem Z05h {n:Int} (h0:0<=n):wrap .u8 (Zq .u64 (n / 11417981541647679048466287755595961091061972992%2251799813685248) 39)=n / 6277101735386680763835789423207666416102355444464034512896%256:=by
 have:=Z2r (n / 11417981541647679048466287755595961091061972992%2251799813685248) 39 (by decide)
 rw [show ((2^39:Nat):Int)=549755813888 from rfl] at this
 refine (congrArg _ this).trans ?_
 rw [Z0s]
 omega
theorem Z05i {n:Int} (h0:0<=n):wrap .u8 (Z4 .or .u64 (Zq .u64 (n / 11417981541647679048466287755595961091061972992%2251799813685248) 47) (Zl .u64 (n / 25711008708143844408671393477458601640355247900524685364822016%2251799813685248) 4))=n / 1606938044258990275541962092341162602522202993782792835301376%256:=by
 have e1:Zq .u64 (n / 11417981541647679048466287755595961091061972992%2251799813685248) 47=n / 1606938044258990275541962092341162602522202993782792835301376%16:=by
  have:=Z2r (n / 11417981541647679048466287755595961091061972992%2251799813685248) 47 (by decide)
  rw [show ((2^47:Nat):Int)=140737488355328 from rfl] at this
  refine this.trans ?_
  omega
 have e2:Zl .u64 (n / 25711008708143844408671393477458601640355247900524685364822016%2251799813685248) 4=(n / 25711008708143844408671393477458601640355247900524685364822016%2251799813685248)*16:=by
  have:=Zg0 .u64 (x:=n / 25711008708143844408671393477458601640355247900524685364822016%2251799813685248) (n:=4) (by decide)
  rw [show ((2^4:Nat):Int)=16 from rfl] at this
  refine this.trans (Zd (by omega) (by omega))
 rw [e1,e2,Z14 4 (x:=(n / 25711008708143844408671393477458601640355247900524685364822016%2251799813685248)*16) (y:=n / 1606938044258990275541962092341162602522202993782792835301376%16) (a:=n / 25711008708143844408671393477458601640355247900524685364822016%2251799813685248) rfl (by omega) (by omega) (by show _<(16:Int); omega) (by omega),Z0s]
 omega
theorem Z05j {n:Int} (h0:0<=n) (h1:n<57896044618658097711785492504343953926634992332820282019728792003956564819949):wrap .u8 (Zq .u64 (n / 25711008708143844408671393477458601640355247900524685364822016%2251799813685248) 4)=n / 411376139330301510538742295639337626245683966408394965837152256%256:=by
 have:=Z2r (n / 25711008708143844408671393477458601640355247900524685364822016%2251799813685248) 4 (by decide)
 rw [show ((2^4:Nat):Int)=16 from rfl] at this
 refine (congrArg _ this).trans ?_
 rw [Z0s]
 omega
theorem Z05k {n:Int} (h0:0<=n) (h1:n<57896044618658097711785492504343953926634992332820282019728792003956564819949):wrap .u8 (Zq .u64 (n / 25711008708143844408671393477458601640355247900524685364822016%2251799813685248) 12)=n / 105312291668557186697918027683670432318895095400549111254310977536%256:=by
 have:=Z2r (n / 25711008708143844408671393477458601640355247900524685364822016%2251799813685248) 12 (by decide)
 rw [show ((2^12:Nat):Int)=4096 from rfl] at this
 refine (congrArg _ this).trans ?_
 rw [Z0s]
 omega
theorem Z05l {n:Int} (h0:0<=n) (h1:n<57896044618658097711785492504343953926634992332820282019728792003956564819949):wrap .u8 (Zq .u64 (n / 25711008708143844408671393477458601640355247900524685364822016%2251799813685248) 20)=n / 26959946667150639794667015087019630673637144422540572481103610249216%256:=by
 have:=Z2r (n / 25711008708143844408671393477458601640355247900524685364822016%2251799813685248) 20 (by decide)
 rw [show ((2^20:Nat):Int)=1048576 from rfl] at this
 refine (congrArg _ this).trans ?_
 rw [Z0s]
 omega
theorem Z05m {n:Int} (h0:0<=n) (h1:n<57896044618658097711785492504343953926634992332820282019728792003956564819949):wrap .u8 (Zq .u64 (n / 25711008708143844408671393477458601640355247900524685364822016%2251799813685248) 28)=n / 6901746346790563787434755862277025452451108972170386555162524223799296%256:=by
 have:=Z2r (n / 25711008708143844408671393477458601640355247900524685364822016%2251799813685248) 28 (by decide)
 rw [show ((2^28:Nat):Int)=268435456 from rfl] at this
 refine (congrArg _ this).trans ?_
 rw [Z0s]
 omega
theorem Z05n {n:Int} (h0:0<=n) (h1:n<57896044618658097711785492504343953926634992332820282019728792003956564819949):wrap .u8 (Zq .u64 (n / 25711008708143844408671393477458601640355247900524685364822016%2251799813685248) 36)=n / 1766847064778384329583297500742918515827483896875618958121606201292619776%256:=by
 have:=Z2r (n / 25711008708143844408671393477458601640355247900524685364822016%2251799813685248) 36 (by decide)
 rw [show ((2^36:Nat):Int)=68719476736 from rfl] at this
 refine (congrArg _ this).trans ?_
 rw [Z0s]
 omega
theorem Z05o {n:Int} (h0:0<=n) (h1:n<57896044618658097711785492504343953926634992332820282019728792003956564819949):wrap .u8 (Zq .u64 (n / 25711008708143844408671393477458601640355247900524685364822016%2251799813685248) 44)=n / 452312848583266388373324160190187140051835877600158453279131187530910662656%256:=by
 have:=Z2r (n / 25711008708143844408671393477458601640355247900524685364822016%2251799813685248) 44 (by decide)
 rw [show ((2^44:Nat):Int)=17592186044416 from rfl] at this
 refine (congrArg _ this).trans ?_
 rw [Z0s]
 omega
theorem Ztm {x:LI} (hx:U5 x):Z9t x=some (byt (Z6q x%PP)):=by
 rw [Z9t,Z3 (Z5t hx),Z13]
 have h0:0<=Z6q x%PP:=Int.emod_nonneg _ (by decide)
 have h1:Z6q x%PP<PP:=Int.emod_lt_of_pos _ Zju
 unfold Zmx
 generalize Z6q x%PP=n at *
 have e:Zj1 n = [n%2251799813685248,n / 2251799813685248%2251799813685248,n / 5070602400912917605986812821504%2251799813685248,n / 11417981541647679048466287755595961091061972992%2251799813685248,n / 25711008708143844408671393477458601640355247900524685364822016%2251799813685248]:=rfl
 rw [e,Zwy,Z08u h0,Z08v h0,Z08w h0,Z08x h0,Z08y h0,Z08z h0,Z090 h0,Z091 h0,Z092 h0,Z093 h0,Z053 h0,Z054 h0,Z055 h0,Z056 h0,Z057 h0,Z058 h0,Z059 h0,Z05a h0,Z05b h0,Z05c h0,Z05d h0,Z05e h0,Z05f h0,Z05g h0,Z05h h0,Z05i h0,Z05j h0 h1,Z05k h0 h1,Z05l h0 h1,Z05m h0 h1,Z05n h0 h1,Z05o h0 h1]
 rfl
theorem Z099 (k:LI->Option (LI)) (x:LI):Z44 x k big 0 (List.replicate 5 0)=k [Z4 .or .u64 (Z4 .or .u64 (Z4 .or .u64 (Z4 .or .u64 (Z4 .or .u64 (Z4 .or .u64 (Z4 .or .u64 (0) (Z4 .and .u64 (Zl .u64 (wrap .u64 (x.getD 0 0)) 0) 2251799813685247)) (Z4 .and .u64 (Zl .u64 (wrap .u64 (x.getD 1 0)) 8) 2251799813685247)) (Z4 .and .u64 (Zl .u64 (wrap .u64 (x.getD 2 0)) 16) 2251799813685247)) (Z4 .and .u64 (Zl .u64 (wrap .u64 (x.getD 3 0)) 24) 2251799813685247)) (Z4 .and .u64 (Zl .u64 (wrap .u64 (x.getD 4 0)) 32) 2251799813685247)) (Z4 .and .u64 (Zl .u64 (wrap .u64 (x.getD 5 0)) 40) 2251799813685247)) (Z4 .and .u64 (Zl .u64 (wrap .u64 (x.getD 6 0)) 48) 2251799813685247),
 Z4 .or .u64 (Z4 .or .u64 (Z4 .or .u64 (Z4 .or .u64 (Z4 .or .u64 (Z4 .or .u64 (Z4 .or .u64 (0) (Zq .u64 (wrap .u64 (x.getD 6 0)) 3)) (Z4 .and .u64 (Zl .u64 (wrap .u64 (x.getD 7 0)) 5) 2251799813685247)) (Z4 .and .u64 (Zl .u64 (wrap .u64 (x.getD 8 0)) 13) 2251799813685247)) (Z4 .and .u64 (Zl .u64 (wrap .u64 (x.getD 9 0)) 21) 2251799813685247)) (Z4 .and .u64 (Zl .u64 (wrap .u64 (x.getD 10 0)) 29) 2251799813685247)) (Z4 .and .u64 (Zl .u64 (wrap .u64 (x.getD 11 0)) 37) 2251799813685247)) (Z4 .and .u64 (Zl .u64 (wrap .u64 (x.getD 12 0)) 45) 2251799813685247),
 Z4 .or .u64 (Z4 .or .u64 (Z4 .or .u64 (Z4 .or .u64 (Z4 .or .u64 (Z4 .or .u64 (Z4 .or .u64 (Z4 .or .u64 (0) (Zq .u64 (wrap .u64 (x.getD 12 0)) 6)) (Z4 .and .u64 (Zl .u64 (wrap .u64 (x.getD 13 0)) 2) 2251799813685247)) (Z4 .and .u64 (Zl .u64 (wrap .u64 (x.getD 14 0)) 10) 2251799813685247)) (Z4 .and .u64 (Zl .u64 (wrap .u64 (x.getD 15 0)) 18) 2251799813685247)) (Z4 .and .u64 (Zl .u64 (wrap .u64 (x.getD 16 0)) 26) 2251799813685247)) (Z4 .and .u64 (Zl .u64 (wrap .u64 (x.getD 17 0)) 34) 2251799813685247)) (Z4 .and .u64 (Zl .u64 (wrap .u64 (x.getD 18 0)) 42) 2251799813685247)) (Z4 .and .u64 (Zl .u64 (wrap .u64 (x.getD 19 0)) 50) 2251799813685247),
 Z4 .or .u64 (Z4 .or .u64 (Z4 .or .u64 (Z4 .or .u64 (Z4 .or .u64 (Z4 .or .u64 (Z4 .or .u64 (0) (Zq .u64 (wrap .u64 (x.getD 19 0)) 1)) (Z4 .and .u64 (Zl .u64 (wrap .u64 (x.getD 20 0)) 7) 2251799813685247)) (Z4 .and .u64 (Zl .u64 (wrap .u64 (x.getD 21 0)) 15) 2251799813685247)) (Z4 .and .u64 (Zl .u64 (wrap .u64 (x.getD 22 0)) 23) 2251799813685247)) (Z4 .and .u64 (Zl .u64 (wrap .u64 (x.getD 23 0)) 31) 2251799813685247)) (Z4 .and .u64 (Zl .u64 (wrap .u64 (x.getD 24 0)) 39) 2251799813685247)) (Z4 .and .u64 (Zl .u64 (wrap .u64 (x.getD 25 0)) 47) 2251799813685247),
 Z4 .or .u64 (Z4 .or .u64 (Z4 .or .u64 (Z4 .or .u64 (Z4 .or .u64 (Z4 .or .u64 (Z4 .or .u64 (0) (Zq .u64 (wrap .u64 (x.getD 25 0)) 4)) (Z4 .and .u64 (Zl .u64 (wrap .u64 (x.getD 26 0)) 4) 2251799813685247)) (Z4 .and .u64 (Zl .u64 (wrap .u64 (x.getD 27 0)) 12) 2251799813685247)) (Z4 .and .u64 (Zl .u64 (wrap .u64 (x.getD 28 0)) 20) 2251799813685247)) (Z4 .and .u64 (Zl .u64 (wrap .u64 (x.getD 29 0)) 28) 2251799813685247)) (Z4 .and .u64 (Zl .u64 (wrap .u64 (x.getD 30 0)) 36) 2251799813685247)) (Z4 .and .u64 (Zl .u64 (wrap .u64 (Z4 .and .u8 (x.getD 31 0) 127)) 44) 2251799813685247)]:=by kernel_rfl
theorem Z20 (k:Nat) {b:Int} (hk:k<=51) (hb:0<=b/\b<256):Z4 .and .u64 (Zl .u64 (wrap .u64 b) (k:Int)) 2251799813685247=b%((2^(51-k):Nat):Int)*((2^k:Nat):Int):=by
 have hp:(0:Int)<((2^k:Nat):Int):=by have:=Nat.pow_pos (n:=k) (show 0<2 by decide); omega
 have hq:(0:Int)<((2^(51-k):Nat):Int):=by have:=Nat.pow_pos (n:=51-k) (show 0<2 by decide); omega
 have hle:((2^k:Nat):Int)<=2251799813685248:=by
  have:=Nat.pow_le_pow_right (show 0<2 by decide) hk
  have e:(2^51:Nat)=2251799813685248:=by decide
  omega
 have hprod:((2^k:Nat):Int)*((2^(51-k):Nat):Int)=2251799813685248:=by
  rw [<- Int.natCast_mul,<- Nat.pow_add,show k+(51-k)=51 by omega]; rfl
 have hbk:b*((2^k:Nat):Int)<=256*2251799813685248:=Int.mul_le_mul (by omega) hle (by omega) (by omega)
 have hbk0:0<=b*((2^k:Nat):Int):=Int.mul_nonneg hb.1 (by omega)
 rw [Zd hb.1 (by omega),Zg0 .u64 (n:=k) (by show k<=64; omega),Zd hbk0 (by omega),Zof hbk0 (by omega)]
 rw [<- hprod,Int.mul_comm b,Int.mul_emod_mul_of_pos _ _ hp,Int.mul_comm]
theorem Zkw (k:Nat) {b:Int} (hk:k<=64) (hb:0<=b/\b<256):Zq .u64 (wrap .u64 b) (k:Int)=b / ((2^k:Nat):Int):=by
 rw [Zd hb.1 (by omega),Z9p .u64 hk]
theorem Z0ei {b0 b1 b2 b3 b4 b5 b6:Int} (h0:0<=b0/\b0<256) (h1:0<=b1/\b1<256) (h2:0<=b2/\b2<256) (h3:0<=b3/\b3<256) (h4:0<=b4/\b4<256) (h5:0<=b5/\b5<256) (h6:0<=b6/\b6<256):Z4 .or .u64 (Z4 .or .u64 (Z4 .or .u64 (Z4 .or .u64 (Z4 .or .u64 (Z4 .or .u64 (Z4 .or .u64 (0) (Z4 .and .u64 (Zl .u64 (wrap .u64 b0) 0) 2251799813685247)) (Z4 .and .u64 (Zl .u64 (wrap .u64 b1) 8) 2251799813685247)) (Z4 .and .u64 (Zl .u64 (wrap .u64 b2) 16) 2251799813685247)) (Z4 .and .u64 (Zl .u64 (wrap .u64 b3) 24) 2251799813685247)) (Z4 .and .u64 (Zl .u64 (wrap .u64 b4) 32) 2251799813685247)) (Z4 .and .u64 (Zl .u64 (wrap .u64 b5) 40) 2251799813685247)) (Z4 .and .u64 (Zl .u64 (wrap .u64 b6) 48) 2251799813685247)=0+b0*1+b1*256+b2*65536+b3*16777216+b4*4294967296+b5*1099511627776+b6%8*281474976710656:=by
 have p0:Z4 .and .u64 (Zl .u64 (wrap .u64 b0) 0) 2251799813685247=b0*1:=by
  have:=Z20 0 (by decide) h0
  refine this.trans ?_
  rw [show ((2^(51-0):Nat):Int)=2251799813685248 from rfl,show ((2^0:Nat):Int)=1 from rfl]
  rw [Int.emod_eq_of_lt h0.1 (by omega)]
 rw [p0,Z14 0 (x:=b0*1) (y:=0) (a:=b0) (by simp) (by omega) (by omega) (by show _<(1:Int); omega) (by omega)]
 have p1:Z4 .and .u64 (Zl .u64 (wrap .u64 b1) 8) 2251799813685247=b1*256:=by
  have:=Z20 8 (by decide) h1
  refine this.trans ?_
  rw [show ((2^(51-8):Nat):Int)=8796093022208 from rfl,show ((2^8:Nat):Int)=256 from rfl]
  rw [Int.emod_eq_of_lt h1.1 (by omega)]
 rw [p1,Z14 8 (x:=b1*256) (y:=0+b0*1) (a:=b1) (by simp) (by omega) (by omega) (by show _<(256:Int); omega) (by omega)]
 have p2:Z4 .and .u64 (Zl .u64 (wrap .u64 b2) 16) 2251799813685247=b2*65536:=by
  have:=Z20 16 (by decide) h2
  refine this.trans ?_
  rw [show ((2^(51-16):Nat):Int)=34359738368 from rfl,show ((2^16:Nat):Int)=65536 from rfl]
  rw [Int.emod_eq_of_lt h2.1 (by omega)]
 rw [p2,Z14 16 (x:=b2*65536) (y:=0+b0*1+b1*256) (a:=b2) (by simp) (by omega) (by omega) (by show _<(65536:Int); omega) (by omega)]
 have p3:Z4 .and .u64 (Zl .u64 (wrap .u64 b3) 24) 2251799813685247=b3*16777216:=by
  have:=Z20 24 (by decide) h3
  refine this.trans ?_
  rw [show ((2^(51-24):Nat):Int)=134217728 from rfl,show ((2^24:Nat):Int)=16777216 from rfl]
  rw [Int.emod_eq_of_lt h3.1 (by omega)]
 rw [p3,Z14 24 (x:=b3*16777216) (y:=0+b0*1+b1*256+b2*65536) (a:=b3) (by simp) (by omega) (by omega) (by show _<(16777216:Int); omega) (by omega)]
 have p4:Z4 .and .u64 (Zl .u64 (wrap .u64 b4) 32) 2251799813685247=b4*4294967296:=by
  have:=Z20 32 (by decide) h4
  refine this.trans ?_
  rw [show ((2^(51-32):Nat):Int)=524288 from rfl,show ((2^32:Nat):Int)=4294967296 from rfl]
  rw [Int.emod_eq_of_lt h4.1 (by omega)]
 rw [p4,Z14 32 (x:=b4*4294967296) (y:=0+b0*1+b1*256+b2*65536+b3*16777216) (a:=b4) (by simp) (by omega) (by omega) (by show _<(4294967296:Int); omega) (by omega)]
 have p5:Z4 .and .u64 (Zl .u64 (wrap .u64 b5) 40) 2251799813685247=b5*1099511627776:=by
  have:=Z20 40 (by decide) h5
  refine this.trans ?_
  rw [show ((2^(51-40):Nat):Int)=2048 from rfl,show ((2^40:Nat):Int)=1099511627776 from rfl]
  rw [Int.emod_eq_of_lt h5.1 (by omega)]
 rw [p5,Z14 40 (x:=b5*1099511627776) (y:=0+b0*1+b1*256+b2*65536+b3*16777216+b4*4294967296) (a:=b5) (by simp) (by omega) (by omega) (by show _<(1099511627776:Int); omega) (by omega)]
 have p6:Z4 .and .u64 (Zl .u64 (wrap .u64 b6) 48) 2251799813685247=b6%8*281474976710656:=by
  have:=Z20 48 (by decide) h6
  refine this.trans ?_
  rw [show ((2^(51-48):Nat):Int)=8 from rfl,show ((2^48:Nat):Int)=281474976710656 from rfl]
 rw [p6,Z14 48 (x:=b6%8*281474976710656) (y:=0+b0*1+b1*256+b2*65536+b3*16777216+b4*4294967296+b5*1099511627776) (a:=b6%8) (by simp) (by omega) (by omega) (by show _<(281474976710656:Int); omega) (by omega)]
theorem Z0ej {b6 b7 b8 b9 b10 b11 b12:Int} (h6:0<=b6/\b6<256) (h7:0<=b7/\b7<256) (h8:0<=b8/\b8<256) (h9:0<=b9/\b9<256) (h10:0<=b10/\b10<256) (h11:0<=b11/\b11<256) (h12:0<=b12/\b12<256):Z4 .or .u64 (Z4 .or .u64 (Z4 .or .u64 (Z4 .or .u64 (Z4 .or .u64 (Z4 .or .u64 (Z4 .or .u64 (0) (Zq .u64 (wrap .u64 b6) 3)) (Z4 .and .u64 (Zl .u64 (wrap .u64 b7) 5) 2251799813685247)) (Z4 .and .u64 (Zl .u64 (wrap .u64 b8) 13) 2251799813685247)) (Z4 .and .u64 (Zl .u64 (wrap .u64 b9) 21) 2251799813685247)) (Z4 .and .u64 (Zl .u64 (wrap .u64 b10) 29) 2251799813685247)) (Z4 .and .u64 (Zl .u64 (wrap .u64 b11) 37) 2251799813685247)) (Z4 .and .u64 (Zl .u64 (wrap .u64 b12) 45) 2251799813685247)=0+b6 / 8+b7*32+b8*8192+b9*2097152+b10*536870912+b11*137438953472+b12%64*35184372088832:=by
 have p0:Zq .u64 (wrap .u64 b6) 3=b6 / 8:=by
  have:=Zkw 3 (by decide) h6
  refine this.trans ?_
  rw [show ((2^3:Nat):Int)=8 from rfl]
 rw [p0,Z14 0 (x:=b6 / 8) (y:=0) (a:=b6 / 8) (by simp) (by omega) (by omega) (by show _<(1:Int); omega) (by omega)]
 have p1:Z4 .and .u64 (Zl .u64 (wrap .u64 b7) 5) 2251799813685247=b7*32:=by
  have:=Z20 5 (by decide) h7
  refine this.trans ?_
  rw [show ((2^(51-5):Nat):Int)=70368744177664 from rfl,show ((2^5:Nat):Int)=32 from rfl]
  rw [Int.emod_eq_of_lt h7.1 (by omega)]
 rw [p1,Z14 5 (x:=b7*32) (y:=0+b6 / 8) (a:=b7) (by simp) (by omega) (by omega) (by show _<(32:Int); omega) (by omega)]
 have p2:Z4 .and .u64 (Zl .u64 (wrap .u64 b8) 13) 2251799813685247=b8*8192:=by
  have:=Z20 13 (by decide) h8
  refine this.trans ?_
  rw [show ((2^(51-13):Nat):Int)=274877906944 from rfl,show ((2^13:Nat):Int)=8192 from rfl]
  rw [Int.emod_eq_of_lt h8.1 (by omega)]
 rw [p2,Z14 13 (x:=b8*8192) (y:=0+b6 / 8+b7*32) (a:=b8) (by simp) (by omega) (by omega) (by show _<(8192:Int); omega) (by omega)]
 have p3:Z4 .and .u64 (Zl .u64 (wrap .u64 b9) 21) 2251799813685247=b9*2097152:=by
  have:=Z20 21 (by decide) h9
  refine this.trans ?_
  rw [show ((2^(51-21):Nat):Int)=1073741824 from rfl,show ((2^21:Nat):Int)=2097152 from rfl]
  rw [Int.emod_eq_of_lt h9.1 (by omega)]
 rw [p3,Z14 21 (x:=b9*2097152) (y:=0+b6 / 8+b7*32+b8*8192) (a:=b9) (by simp) (by omega) (by omega) (by show _<(2097152:Int); omega) (by omega)]
 have p4:Z4 .and .u64 (Zl .u64 (wrap .u64 b10) 29) 2251799813685247=b10*536870912:=by
  have:=Z20 29 (by decide) h10
  refine this.trans ?_
  rw [show ((2^(51-29):Nat):Int)=4194304 from rfl,show ((2^29:Nat):Int)=536870912 from rfl]
  rw [Int.emod_eq_of_lt h10.1 (by omega)]
 rw [p4,Z14 29 (x:=b10*536870912) (y:=0+b6 / 8+b7*32+b8*8192+b9*2097152) (a:=b10) (by simp) (by omega) (by omega) (by show _<(536870912:Int); omega) (by omega)]
 have p5:Z4 .and .u64 (Zl .u64 (wrap .u64 b11) 37) 2251799813685247=b11*137438953472:=by
  have:=Z20 37 (by decide) h11
  refine this.trans ?_
  rw [show ((2^(51-37):Nat):Int)=16384 from rfl,show ((2^37:Nat):Int)=137438953472 from rfl]
  rw [Int.emod_eq_of_lt h11.1 (by omega)]
 rw [p5,Z14 37 (x:=b11*137438953472) (y:=0+b6 / 8+b7*32+b8*8192+b9*2097152+b10*536870912) (a:=b11) (by simp) (by omega) (by omega) (by show _<(137438953472:Int); omega) (by omega)]
 have p6:Z4 .and .u64 (Zl .u64 (wrap .u64 b12) 45) 2251799813685247=b12%64*35184372088832:=by
  have:=Z20 45 (by decide) h12
  refine this.trans ?_
  rw [show ((2^(51-45):Nat):Int)=64 from rfl,show ((2^45:Nat):Int)=35184372088832 from rfl]
 rw [p6,Z14 45 (x:=b12%64*35184372088832) (y:=0+b6 / 8+b7*32+b8*8192+b9*2097152+b10*536870912+b11*137438953472) (a:=b12%64) (by simp) (by omega) (by omega) (by show _<(35184372088832:Int); omega) (by omega)]
theorem Z0ek {b12 b13 b14 b15 b16 b17 b18 b19:Int} (h12:0<=b12/\b12<256) (h13:0<=b13/\b13<256) (h14:0<=b14/\b14<256) (h15:0<=b15/\b15<256) (h16:0<=b16/\b16<256) (h17:0<=b17/\b17<256) (h18:0<=b18/\b18<256) (h19:0<=b19/\b19<256):Z4 .or .u64 (Z4 .or .u64 (Z4 .or .u64 (Z4 .or .u64 (Z4 .or .u64 (Z4 .or .u64 (Z4 .or .u64 (Z4 .or .u64 (0) (Zq .u64 (wrap .u64 b12) 6)) (Z4 .and .u64 (Zl .u64 (wrap .u64 b13) 2) 2251799813685247)) (Z4 .and .u64 (Zl .u64 (wrap .u64 b14) 10) 2251799813685247)) (Z4 .and .u64 (Zl .u64 (wrap .u64 b15) 18) 2251799813685247)) (Z4 .and .u64 (Zl .u64 (wrap .u64 b16) 26) 2251799813685247)) (Z4 .and .u64 (Zl .u64 (wrap .u64 b17) 34) 2251799813685247)) (Z4 .and .u64 (Zl .u64 (wrap .u64 b18) 42) 2251799813685247)) (Z4 .and .u64 (Zl .u64 (wrap .u64 b19) 50) 2251799813685247)=0+b12 / 64+b13*4+b14*1024+b15*262144+b16*67108864+b17*17179869184+b18*4398046511104+b19%2*1125899906842624:=by
 have p0:Zq .u64 (wrap .u64 b12) 6=b12 / 64:=by
  have:=Zkw 6 (by decide) h12
  refine this.trans ?_
  rw [show ((2^6:Nat):Int)=64 from rfl]
 rw [p0,Z14 0 (x:=b12 / 64) (y:=0) (a:=b12 / 64) (by simp) (by omega) (by omega) (by show _<(1:Int); omega) (by omega)]
 have p1:Z4 .and .u64 (Zl .u64 (wrap .u64 b13) 2) 2251799813685247=b13*4:=by
  have:=Z20 2 (by decide) h13
  refine this.trans ?_
  rw [show ((2^(51-2):Nat):Int)=562949953421312 from rfl,show ((2^2:Nat):Int)=4 from rfl]
  rw [Int.emod_eq_of_lt h13.1 (by omega)]
 rw [p1,Z14 2 (x:=b13*4) (y:=0+b12 / 64) (a:=b13) (by simp) (by omega) (by omega) (by show _<(4:Int); omega) (by omega)]
 have p2:Z4 .and .u64 (Zl .u64 (wrap .u64 b14) 10) 2251799813685247=b14*1024:=by
  have:=Z20 10 (by decide) h14
  refine this.trans ?_
  rw [show ((2^(51-10):Nat):Int)=2199023255552 from rfl,show ((2^10:Nat):Int)=1024 from rfl]
  rw [Int.emod_eq_of_lt h14.1 (by omega)]
 rw [p2,Z14 10 (x:=b14*1024) (y:=0+b12 / 64+b13*4) (a:=b14) (by simp) (by omega) (by omega) (by show _<(1024:Int); omega) (by omega)]
 have p3:Z4 .and .u64 (Zl .u64 (wrap .u64 b15) 18) 2251799813685247=b15*262144:=by
  have:=Z20 18 (by decide) h15
  refine this.trans ?_
  rw [show ((2^(51-18):Nat):Int)=8589934592 from rfl,show ((2^18:Nat):Int)=262144 from rfl]
  rw [Int.emod_eq_of_lt h15.1 (by omega)]
 rw [p3,Z14 18 (x:=b15*262144) (y:=0+b12 / 64+b13*4+b14*1024) (a:=b15) (by simp) (by omega) (by omega) (by show _<(262144:Int); omega) (by omega)]
 have p4:Z4 .and .u64 (Zl .u64 (wrap .u64 b16) 26) 2251799813685247=b16*67108864:=by
  have:=Z20 26 (by decide) h16
  refine this.trans ?_
  rw [show ((2^(51-26):Nat):Int)=33554432 from rfl,show ((2^26:Nat):Int)=67108864 from rfl]
  rw [Int.emod_eq_of_lt h16.1 (by omega)]
 rw [p4,Z14 26 (x:=b16*67108864) (y:=0+b12 / 64+b13*4+b14*1024+b15*262144) (a:=b16) (by simp) (by omega) (by omega) (by show _<(67108864:Int); omega) (by omega)]
 have p5:Z4 .and .u64 (Zl .u64 (wrap .u64 b17) 34) 2251799813685247=b17*17179869184:=by
  have:=Z20 34 (by decide) h17
  refine this.trans ?_
  rw [show ((2^(51-34):Nat):Int)=131072 from rfl,show ((2^34:Nat):Int)=17179869184 from rfl]
  rw [Int.emod_eq_of_lt h17.1 (by omega)]
 rw [p5,Z14 34 (x:=b17*17179869184) (y:=0+b12 / 64+b13*4+b14*1024+b15*262144+b16*67108864) (a:=b17) (by simp) (by omega) (by omega) (by show _<(17179869184:Int); omega) (by omega)]
 have p6:Z4 .and .u64 (Zl .u64 (wrap .u64 b18) 42) 2251799813685247=b18*4398046511104:=by
  have:=Z20 42 (by decide) h18
  refine this.trans ?_
  rw [show ((2^(51-42):Nat):Int)=512 from rfl,show ((2^42:Nat):Int)=4398046511104 from rfl]
  rw [Int.emod_eq_of_lt h18.1 (by omega)]
 rw [p6,Z14 42 (x:=b18*4398046511104) (y:=0+b12 / 64+b13*4+b14*1024+b15*262144+b16*67108864+b17*17179869184) (a:=b18) (by simp) (by omega) (by omega) (by show _<(4398046511104:Int); omega) (by omega)]
 have p7:Z4 .and .u64 (Zl .u64 (wrap .u64 b19) 50) 2251799813685247=b19%2*1125899906842624:=by
  have:=Z20 50 (by decide) h19
  refine this.trans ?_
  rw [show ((2^(51-50):Nat):Int)=2 from rfl,show ((2^50:Nat):Int)=1125899906842624 from rfl]
 rw [p7,Z14 50 (x:=b19%2*1125899906842624) (y:=0+b12 / 64+b13*4+b14*1024+b15*262144+b16*67108864+b17*17179869184+b18*4398046511104) (a:=b19%2) (by simp) (by omega) (by omega) (by show _<(1125899906842624:Int); omega) (by omega)]
theorem Z0el {b19 b20 b21 b22 b23 b24 b25:Int} (h19:0<=b19/\b19<256) (h20:0<=b20/\b20<256) (h21:0<=b21/\b21<256) (h22:0<=b22/\b22<256) (h23:0<=b23/\b23<256) (h24:0<=b24/\b24<256) (h25:0<=b25/\b25<256):Z4 .or .u64 (Z4 .or .u64 (Z4 .or .u64 (Z4 .or .u64 (Z4 .or .u64 (Z4 .or .u64 (Z4 .or .u64 (0) (Zq .u64 (wrap .u64 b19) 1)) (Z4 .and .u64 (Zl .u64 (wrap .u64 b20) 7) 2251799813685247)) (Z4 .and .u64 (Zl .u64 (wrap .u64 b21) 15) 2251799813685247)) (Z4 .and .u64 (Zl .u64 (wrap .u64 b22) 23) 2251799813685247)) (Z4 .and .u64 (Zl .u64 (wrap .u64 b23) 31) 2251799813685247)) (Z4 .and .u64 (Zl .u64 (wrap .u64 b24) 39) 2251799813685247)) (Z4 .and .u64 (Zl .u64 (wrap .u64 b25) 47) 2251799813685247)=0+b19 / 2+b20*128+b21*32768+b22*8388608+b23*2147483648+b24*549755813888+b25%16*140737488355328:=by
 have p0:Zq .u64 (wrap .u64 b19) 1=b19 / 2:=by
  have:=Zkw 1 (by decide) h19
  refine this.trans ?_
  rw [show ((2^1:Nat):Int)=2 from rfl]
 rw [p0,Z14 0 (x:=b19 / 2) (y:=0) (a:=b19 / 2) (by simp) (by omega) (by omega) (by show _<(1:Int); omega) (by omega)]
 have p1:Z4 .and .u64 (Zl .u64 (wrap .u64 b20) 7) 2251799813685247=b20*128:=by
  have:=Z20 7 (by decide) h20
  refine this.trans ?_
  rw [show ((2^(51-7):Nat):Int)=17592186044416 from rfl,show ((2^7:Nat):Int)=128 from rfl]
  rw [Int.emod_eq_of_lt h20.1 (by omega)]
 rw [p1,Z14 7 (x:=b20*128) (y:=0+b19 / 2) (a:=b20) (by simp) (by omega) (by omega) (by show _<(128:Int); omega) (by omega)]
 have p2:Z4 .and .u64 (Zl .u64 (wrap .u64 b21) 15) 2251799813685247=b21*32768:=by
  have:=Z20 15 (by decide) h21
  refine this.trans ?_
  rw [show ((2^(51-15):Nat):Int)=68719476736 from rfl,show ((2^15:Nat):Int)=32768 from rfl]
  rw [Int.emod_eq_of_lt h21.1 (by omega)]
 rw [p2,Z14 15 (x:=b21*32768) (y:=0+b19 / 2+b20*128) (a:=b21) (by simp) (by omega) (by omega) (by show _<(32768:Int); omega) (by omega)]
 have p3:Z4 .and .u64 (Zl .u64 (wrap .u64 b22) 23) 2251799813685247=b22*8388608:=by
  have:=Z20 23 (by decide) h22
  refine this.trans ?_
  rw [show ((2^(51-23):Nat):Int)=268435456 from rfl,show ((2^23:Nat):Int)=8388608 from rfl]
  rw [Int.emod_eq_of_lt h22.1 (by omega)]
 rw [p3,Z14 23 (x:=b22*8388608) (y:=0+b19 / 2+b20*128+b21*32768) (a:=b22) (by simp) (by omega) (by omega) (by show _<(8388608:Int); omega) (by omega)]
 have p4:Z4 .and .u64 (Zl .u64 (wrap .u64 b23) 31) 2251799813685247=b23*2147483648:=by
  have:=Z20 31 (by decide) h23
  refine this.trans ?_
  rw [show ((2^(51-31):Nat):Int)=1048576 from rfl,show ((2^31:Nat):Int)=2147483648 from rfl]
  rw [Int.emod_eq_of_lt h23.1 (by omega)]
 rw [p4,Z14 31 (x:=b23*2147483648) (y:=0+b19 / 2+b20*128+b21*32768+b22*8388608) (a:=b23) (by simp) (by omega) (by omega) (by show _<(2147483648:Int); omega) (by omega)]
 have p5:Z4 .and .u64 (Zl .u64 (wrap .u64 b24) 39) 2251799813685247=b24*549755813888:=by
  have:=Z20 39 (by decide) h24
  refine this.trans ?_
  rw [show ((2^(51-39):Nat):Int)=4096 from rfl,show ((2^39:Nat):Int)=549755813888 from rfl]
  rw [Int.emod_eq_of_lt h24.1 (by omega)]
 rw [p5,Z14 39 (x:=b24*549755813888) (y:=0+b19 / 2+b20*128+b21*32768+b22*8388608+b23*2147483648) (a:=b24) (by simp) (by omega) (by omega) (by show _<(549755813888:Int); omega) (by omega)]
 have p6:Z4 .and .u64 (Zl .u64 (wrap .u64 b25) 47) 2251799813685247=b25%16*140737488355328:=by
  have:=Z20 47 (by decide) h25
  refine this.trans ?_
  rw [show ((2^(51-47):Nat):Int)=16 from rfl,show ((2^47:Nat):Int)=140737488355328 from rfl]
 rw [p6,Z14 47 (x:=b25%16*140737488355328) (y:=0+b19 / 2+b20*128+b21*32768+b22*8388608+b23*2147483648+b24*549755813888) (a:=b25%16) (by simp) (by omega) (by omega) (by show _<(140737488355328:Int); omega) (by omega)]
theorem Z0em {b25 b26 b27 b28 b29 b30 b31:Int} (h25:0<=b25/\b25<256) (h26:0<=b26/\b26<256) (h27:0<=b27/\b27<256) (h28:0<=b28/\b28<256) (h29:0<=b29/\b29<256) (h30:0<=b30/\b30<256) (h31:0<=b31/\b31<256):Z4 .or .u64 (Z4 .or .u64 (Z4 .or .u64 (Z4 .or .u64 (Z4 .or .u64 (Z4 .or .u64 (Z4 .or .u64 (0) (Zq .u64 (wrap .u64 b25) 4)) (Z4 .and .u64 (Zl .u64 (wrap .u64 b26) 4) 2251799813685247)) (Z4 .and .u64 (Zl .u64 (wrap .u64 b27) 12) 2251799813685247)) (Z4 .and .u64 (Zl .u64 (wrap .u64 b28) 20) 2251799813685247)) (Z4 .and .u64 (Zl .u64 (wrap .u64 b29) 28) 2251799813685247)) (Z4 .and .u64 (Zl .u64 (wrap .u64 b30) 36) 2251799813685247)) (Z4 .and .u64 (Zl .u64 (wrap .u64 b31) 44) 2251799813685247)=0+b25 / 16+b26*16+b27*4096+b28*1048576+b29*268435456+b30*68719476736+b31%128*17592186044416:=by
 have p0:Zq .u64 (wrap .u64 b25) 4=b25 / 16:=by
  have:=Zkw 4 (by decide) h25
  refine this.trans ?_
  rw [show ((2^4:Nat):Int)=16 from rfl]
 rw [p0,Z14 0 (x:=b25 / 16) (y:=0) (a:=b25 / 16) (by simp) (by omega) (by omega) (by show _<(1:Int); omega) (by omega)]
 have p1:Z4 .and .u64 (Zl .u64 (wrap .u64 b26) 4) 2251799813685247=b26*16:=by
  have:=Z20 4 (by decide) h26
  refine this.trans ?_
  rw [show ((2^(51-4):Nat):Int)=140737488355328 from rfl,show ((2^4:Nat):Int)=16 from rfl]
  rw [Int.emod_eq_of_lt h26.1 (by omega)]
 rw [p1,Z14 4 (x:=b26*16) (y:=0+b25 / 16) (a:=b26) (by simp) (by omega) (by omega) (by show _<(16:Int); omega) (by omega)]
 have p2:Z4 .and .u64 (Zl .u64 (wrap .u64 b27) 12) 2251799813685247=b27*4096:=by
  have:=Z20 12 (by decide) h27
  refine this.trans ?_
  rw [show ((2^(51-12):Nat):Int)=549755813888 from rfl,show ((2^12:Nat):Int)=4096 from rfl]
  rw [Int.emod_eq_of_lt h27.1 (by omega)]
 rw [p2,Z14 12 (x:=b27*4096) (y:=0+b25 / 16+b26*16) (a:=b27) (by simp) (by omega) (by omega) (by show _<(4096:Int); omega) (by omega)]
 have p3:Z4 .and .u64 (Zl .u64 (wrap .u64 b28) 20) 2251799813685247=b28*1048576:=by
  have:=Z20 20 (by decide) h28
  refine this.trans ?_
  rw [show ((2^(51-20):Nat):Int)=2147483648 from rfl,show ((2^20:Nat):Int)=1048576 from rfl]
  rw [Int.emod_eq_of_lt h28.1 (by omega)]
 rw [p3,Z14 20 (x:=b28*1048576) (y:=0+b25 / 16+b26*16+b27*4096) (a:=b28) (by simp) (by omega) (by omega) (by show _<(1048576:Int); omega) (by omega)]
 have p4:Z4 .and .u64 (Zl .u64 (wrap .u64 b29) 28) 2251799813685247=b29*268435456:=by
  have:=Z20 28 (by decide) h29
  refine this.trans ?_
  rw [show ((2^(51-28):Nat):Int)=8388608 from rfl,show ((2^28:Nat):Int)=268435456 from rfl]
  rw [Int.emod_eq_of_lt h29.1 (by omega)]
 rw [p4,Z14 28 (x:=b29*268435456) (y:=0+b25 / 16+b26*16+b27*4096+b28*1048576) (a:=b29) (by simp) (by omega) (by omega) (by show _<(268435456:Int); omega) (by omega)]
 have p5:Z4 .and .u64 (Zl .u64 (wrap .u64 b30) 36) 2251799813685247=b30*68719476736:=by
  have:=Z20 36 (by decide) h30
  refine this.trans ?_
  rw [show ((2^(51-36):Nat):Int)=32768 from rfl,show ((2^36:Nat):Int)=68719476736 from rfl]
  rw [Int.emod_eq_of_lt h30.1 (by omega)]
 rw [p5,Z14 36 (x:=b30*68719476736) (y:=0+b25 / 16+b26*16+b27*4096+b28*1048576+b29*268435456) (a:=b30) (by simp) (by omega) (by omega) (by show _<(68719476736:Int); omega) (by omega)]
 have p6:Z4 .and .u64 (Zl .u64 (wrap .u64 b31) 44) 2251799813685247=b31%128*17592186044416:=by
  have:=Z20 44 (by decide) h31
  refine this.trans ?_
  rw [show ((2^(51-44):Nat):Int)=128 from rfl,show ((2^44:Nat):Int)=17592186044416 from rfl]
 rw [p6,Z14 44 (x:=b31%128*17592186044416) (y:=0+b25 / 16+b26*16+b27*4096+b28*1048576+b29*268435456+b30*68719476736) (a:=b31%128) (by simp) (by omega) (by omega) (by show _<(17592186044416:Int); omega) (by omega)]
def Z8b (x:LI):Int:=x.getD 0 0+x.getD 1 0*256+x.getD 2 0*65536+x.getD 3 0*16777216+x.getD 4 0*4294967296+x.getD 5 0*1099511627776+x.getD 6 0*281474976710656+x.getD 7 0*72057594037927936+x.getD 8 0*18446744073709551616+x.getD 9 0*4722366482869645213696+x.getD 10 0*1208925819614629174706176+x.getD 11 0*309485009821345068724781056+x.getD 12 0*79228162514264337593543950336+x.getD 13 0*20282409603651670423947251286016+x.getD 14 0*5192296858534827628530496329220096+x.getD 15 0*1329227995784915872903807060280344576+x.getD 16 0*340282366920938463463374607431768211456+x.getD 17 0*87112285931760246646623899502532662132736+x.getD 18 0*22300745198530623141535718272648361505980416+x.getD 19 0*5708990770823839524233143877797980545530986496+x.getD 20 0*1461501637330902918203684832716283019655932542976+x.getD 21 0*374144419156711147060143317175368453031918731001856+x.getD 22 0*95780971304118053647396689196894323976171195136475136+x.getD 23 0*24519928653854221733733552434404946937899825954937634816+x.getD 24 0*6277101735386680763835789423207666416102355444464034512896+x.getD 25 0*1606938044258990275541962092341162602522202993782792835301376+x.getD 26 0*411376139330301510538742295639337626245683966408394965837152256+x.getD 27 0*105312291668557186697918027683670432318895095400549111254310977536+x.getD 28 0*26959946667150639794667015087019630673637144422540572481103610249216+x.getD 29 0*6901746346790563787434755862277025452451108972170386555162524223799296+x.getD 30 0*1766847064778384329583297500742918515827483896875618958121606201292619776+x.getD 31 0%128*452312848583266388373324160190187140051835877600158453279131187530910662656
theorem Zc8 {x:LI} (h:Byt x):Z2z x=some (fe (Z8b x)):=by
 rw [Z2z,Z13,Z099]
 have e31:Z4 .and .u8 (x.getD 31 0) 127=x.getD 31 0%128:=Zht 7 (by decide) (by decide) (h 31).1 (h 31).2
 have h31:0<=x.getD 31 0%128/\x.getD 31 0%128<256:=by have:=h 31; omega
 rw [e31,Z0ei (h 0) (h 1) (h 2) (h 3) (h 4) (h 5) (h 6),Z0ej (h 6) (h 7) (h 8) (h 9) (h 10) (h 11) (h 12),Z0ek (h 12) (h 13) (h 14) (h 15) (h 16) (h 17) (h 18) (h 19),Z0el (h 19) (h 20) (h 21) (h 22) (h 23) (h 24) (h 25),Z0em (h 25) (h 26) (h 27) (h 28) (h 29) (h 30) h31]
 have g0:=h 0
 have g1:=h 1
 have g2:=h 2
 have g3:=h 3
 have g4:=h 4
 have g5:=h 5
 have g6:=h 6
 have g7:=h 7
 have g8:=h 8
 have g9:=h 9
 have g10:=h 10
 have g11:=h 11
 have g12:=h 12
 have g13:=h 13
 have g14:=h 14
 have g15:=h 15
 have g16:=h 16
 have g17:=h 17
 have g18:=h 18
 have g19:=h 19
 have g20:=h 20
 have g21:=h 21
 have g22:=h 22
 have g23:=h 23
 have g24:=h 24
 have g25:=h 25
 have g26:=h 26
 have g27:=h 27
 have g28:=h 28
 have g29:=h 29
 have g30:=h 30
 have g31:=h 31
 rw [Z3 (Z5t (U5.mk5 (by omega) (by omega) (by omega) (by omega) (by omega)))]
 unfold Zmx fe
 congr 3
 simp only [Z6q,Z8b,List.getD_cons_zero,List.getD_cons_succ]
 omega
end Go.Proofs.YtiflckckekjbnaaGreatDoor
namespace Go.Proofs.YtiflckckekjbnaaGreatDoor
open Go Go.Sx Go.RowKit
set_option linter.all false
set_option maxRecDepth 100000
theorem Zez (a:Int):a%PP%PP=a%PP:=Int.emod_emod_of_dvd _ (Int.dvd_refl _)
theorem Zmr (a b:Int):Z0y (fe a) (fe b)=some (fe (a*b)):=by
 rw [Zy4 (Zd1 a) (Zd1 b),Z5d,Z5d,<- Int.mul_emod]; rfl
theorem Zf3 (a:Int):Z1u (fe a)=some (fe (a*a)):=by
 rw [Zri (Zd1 a),Z5d,<- Int.mul_emod]; rfl
theorem fadd (a b:Int):Z2s (fe a) (fe b)=some (fe (a+b)):=by
 rw [Z03m (Zd1 a) (Zd1 b),Z5d,Z5d,Zg7]
 exact (Int.add_emod _ _ _).symm
theorem fsub (a b:Int):Z56 (fe a) (fe b)=some (fe (a-b)):=by
 rw [Z0j7 (Zd1 a) (Zd1 b),Z5d,Z5d,Zg7]
 exact (Int.sub_emod _ _ _).symm
theorem fneg (a:Int):Z5o (fe a)=some (fe (-a)):=by
 rw [Z03y (Zd1 a),Z5d,Zg7]
 have h:=Int.sub_emod 0 a PP
 simp only [Int.zero_sub] at h
 rw [h]
 simp
structure Q4 where
 x:Int
 y:Int
 z:Int
 t:Int
 deriving DecidableEq
def pt (q:Q4):Zh:=⟨fe q.x,fe q.y,fe q.z,fe q.t⟩
def qred (q:Q4):Q4:=⟨q.x%PP,q.y%PP,q.z%PP,q.t%PP⟩
theorem Z045 (q:Q4):pt (qred q)=pt q:=by simp only [pt,qred,Z03t]
def D2:Int:=16295367250680780974490674513165176452449235426866156013048779062215315747161
def Zpa (e f g h:Int):Q4:=⟨e*f,g*h,f*g,e*h⟩
def qadd (p q:Q4):Q4 :=
 let a:=(p.y-p.x)*(q.y-q.x)
 let b:=(p.y+p.x)*(q.y+q.x)
 let c:=p.t*D2*q.t
 let d:=(p.z+p.z)*q.z
 Zpa (b-a) (d-c) (d+c) (b+a)
def qdbl (p:Q4):Q4 :=
 let a:=p.x*p.x
 let b:=p.y*p.y
 let z:=p.z*p.z
 let h:=a+b
 let e:=h-(p.x+p.y)*(p.x+p.y)
 let g:=a-b
 Zpa e (z+z+g) g h
theorem Zpw (e f g h:Int):Z8e (fe e) (fe f) (fe g) (fe h)=some (pt (Zpa e f g h)):=by
 rw [Z8e,Z3 (Zmr e f),Z3 (Zmr g h),Z3 (Zmr f g),Z3 (Zmr e h)]; rfl
theorem Zva:Z94=some (fe D2):=by
 rw [Z94,Zb]
 congr 1
theorem Z05q (p q:Q4):Zaf (pt p) (pt q)=some (pt (qadd p q)):=by
 rw [Zaf]
 show opt (Z56 (fe p.y) (fe p.x)) _=_
 rw [Z3 (fsub p.y p.x)]
 show opt (Z56 (fe q.y) (fe q.x)) _=_
 rw [Z3 (fsub q.y q.x),Z3 (Zmr _ _)]
 show opt (Z2s (fe p.y) (fe p.x)) _=_
 rw [Z3 (fadd p.y p.x)]
 show opt (Z2s (fe q.y) (fe q.x)) _=_
 rw [Z3 (fadd q.y q.x),Z3 (Zmr _ _),Z3 Zva]
 show opt (Z0y (fe p.t) (fe D2)) _=_
 rw [Z3 (Zmr _ _)]
 show opt (Z0y (fe (p.t*D2)) (fe q.t)) _=_
 rw [Z3 (Zmr _ _)]
 show opt (Z2s (fe p.z) (fe p.z)) _=_
 rw [Z3 (fadd _ _)]
 show opt (Z0y (fe (p.z+p.z)) (fe q.z)) _=_
 rw [Z3 (Zmr _ _),Z3 (fsub _ _),Z3 (fsub _ _),Z3 (fadd _ _),Z3 (fadd _ _),Z3 (Zpw _ _ _ _)]
 rfl
theorem Z05s (p:Q4):Z8c (pt p)=some (pt (qdbl p)):=by
 rw [Z8c]
 show opt (Z1u (fe p.x)) _=_
 rw [Z3 (Zf3 _)]
 show opt (Z1u (fe p.y)) _=_
 rw [Z3 (Zf3 _)]
 show opt (Z1u (fe p.z)) _=_
 rw [Z3 (Zf3 _),Z3 (fadd _ _)]
 show opt (Z2s (fe p.x) (fe p.y)) _=_
 rw [Z3 (fadd _ _),Z3 (Zf3 _),Z3 (fsub _ _),Z3 (fsub _ _),Z3 (fadd _ _),Z3 (fadd _ _),Z3 (Zpw _ _ _ _)]
 rfl
def Zvq:Q4:=⟨0,1,1,0⟩
theorem Zpo:Z8g=some (fe 1):=by rw [Z8g,Zb]; congr 1
theorem Z00k:Zbb=some (pt Zvq):=by
 rw [Zbb,Z3 Zpo,Z3 Zpo]
 have:(List.replicate 5 0:LI)=fe 0:=by decide
 rw [this]; rfl
theorem Zx4 (p:Q4):Zbk (pt p)=some (pt ⟨-p.x,p.y,p.z,-p.t⟩):=by
 rw [Zbk]
 show opt (Z5o (fe p.x)) _=_
 rw [Z3 (fneg _)]
 show opt (Z5o (fe p.t)) _=_
 rw [Z3 (fneg _)]
 rfl
def Zn4 (p q:Q4):Q4:=qred (qadd p q)
def Zfu (p:Q4):Q4:=qred (qdbl p)
theorem Zoi (p q:Q4):Zaf (pt p) (pt q)=some (pt (Zn4 p q)):=by rw [Z05q]; unfold Zn4; rw [Z045]
theorem Z00z (p:Q4):Z8c (pt p)=some (pt (Zfu p)):=by rw [Z05s]; unfold Zfu; rw [Z045]
def tab (p:Q4):Nat->Q4
 | 0=>Zvq
 | i+1=>Zn4 (tab p i) p
def Zt4 (f:Nat->Zh) (i:Nat):List Zh:=(List.range 16).map fun j=>if j<=i then f j else Z1l
theorem Z03a (f:Nat->Zh) {i:Nat} (hi:i<15):Zdu Z1l (Zt4 f i) (i+1) (f (i+1))=Zt4 f (i+1):=by
 rw [Za5 (by simp [Zt4]; omega)]
 apply List.ext_getElem
 ·simp [Zt4]
 ·intro j h1 h2
  simp only [Zt4,List.getElem_set,List.getElem_map,List.getElem_range]
  by_cases hj:i+1=j
  ·subst hj; simp
  ·rw [if_neg hj]
   by_cases h:j<=i
   ·rw [if_pos h,if_pos (by omega)]
   ·rw [if_neg h,if_neg (by omega)]
theorem Zpl (f:Nat->Zh) {i j:Nat} (hj:j<=i) (hi:i<16):(Zt4 f i).getD j Z1l=f j:=by
 simp only [Zt4,List.getD,List.getElem?_map,List.getElem?_range (show j<16 by omega),Option.map_some,Option.getD_some,if_pos hj]
theorem Zvk (p:Q4) {kk:List Zh->Option (List Zh)} {k':Int->List Zh->Option (List Zh)} {i:Nat} (hi:i<15) :
  Z41 (pt p) kk k' (i:Int) (Zt4 (fun j=>pt (tab p j)) i)=k' ((i+1:Nat):Int) (Zt4 (fun j=>pt (tab p j)) (i+1)):=by
 rw [Z41,Z0g (by simp; omega)]
 simp only [Zb]
 rw [Zj (by omega) (by omega),Zo (Z0i (by omega) (by omega)),Int.toNat_natCast,Zpl _ (Nat.le_refl i) (by omega),Z3 (Zoi _ _),Zo (Z0i (by omega) (by omega))]
 have e:((i:Int)+1).toNat=i+1:=by omega
 have e2:(i:Int)+1=((i+1:Nat):Int):=by omega
 rw [e]
 have:=Z03a (fun j=>pt (tab p j)) hi
 rw [show pt (Zn4 (tab p i) p)=pt (tab p (i+1)) from rfl,this,e2]
theorem Zqd (p:Q4) : ∀ (k n:Nat),k<=15->Z2o (pt p) some (n+1+k) ((15-k:Nat):Int) (Zt4 (fun j=>pt (tab p j)) (15-k))=some (Zt4 (fun j=>pt (tab p j)) 15)
 | 0,n,_=>by
  rw [show n+1+0=n+1 from rfl,Z2o,Z41,Z08 (by decide)]
 | k+1,n,hk=>by
  have ih:=Zqd p k n (by omega)
  rw [<- Nat.add_assoc,Z2o,Zvk p (by omega)]
  rw [show 15-(k+1)+1=15-k by omega]
  exact ih
theorem Zjy (p:Q4):Z5l (pt p)=some (Zt4 (fun j=>pt (tab p j)) 15):=by
 rw [Z5l,Z3 Z00k,Zb,Z13]
 obtain ⟨n,hn⟩ : ∃ n,big=n+1+15:=⟨18446744073709551600,Z1t⟩
 have:=Zqd p 15 n (by decide)
 rw [<- hn] at this
 have e:Zdu Z1l (List.replicate 16 Z1l) 0 (pt Zvq)=Zt4 (fun j=>pt (tab p j)) (15-15):=by
  rw [Za5 (by simp)]
  rfl
 rw [e]
 exact this
def nib (k:LI) (i:Nat):Int:=if i%2=0 then k.getD (31-i / 2) 0 / 16%16 else k.getD (31-i / 2) 0%16
theorem Zqe {k:LI} (hk:Byt k) {i:Nat} (hi:i<64):Z8f k (i:Int)=some (nib k i):=by
 rw [Z8f]
 simp only [Zb]
 have h1:IntKind.wrap .i64 (Int.tdiv (i:Int) 2)=((i / 2:Nat):Int):=by
  rw [Int.tdiv_eq_ediv_of_nonneg (by omega),Zj (by omega) (by omega)]; omega
 have h2:Int.tmod (i:Int) 2=((i%2:Nat):Int):=by
  rw [Int.tmod_eq_emod_of_nonneg (by omega)]; omega
 rw [h1,h2,Zj (x:=31-((i / 2:Nat):Int)) (by omega) (by omega),Zo (Z0i (by omega) (by omega))]
 have h3:(31-((i / 2:Nat):Int)).toNat=31-i / 2:=by omega
 rw [h3]
 have hb:=hk (31-i / 2)
 rw [Zj (x:=1-((i%2:Nat):Int)) (by omega) (by omega),Zj (by omega) (by omega)]
 rcases Nat.mod_two_eq_zero_or_one i with h | h
 ·rw [h,Zo (by decide)]
  have e:Zq .u8 (k.getD (31-i / 2) 0) (4*(1-((0:Nat):Int)))=k.getD (31-i / 2) 0 / 16:=Z9p .u8 (n:=4) (by decide)
  rw [e]
  have e2:Z4 .and .u8 (k.getD (31-i / 2) 0 / 16) 15=k.getD (31-i / 2) 0 / 16%16:=Zht 4 (by decide) (by decide) (by omega) (by omega)
  rw [e2,nib,if_pos h]
 ·rw [h,Zo (by decide)]
  have e:Zq .u8 (k.getD (31-i / 2) 0) (4*(1-((1:Nat):Int)))=k.getD (31-i / 2) 0:=by
   have:=Z9p .u8 (x:=k.getD (31-i / 2) 0) (n:=0) (by decide)
   simpa using this
  rw [e]
  have e2:Z4 .and .u8 (k.getD (31-i / 2) 0) 15=k.getD (31-i / 2) 0%16:=Zht 4 (by decide) (by decide) (by omega) (by omega)
  rw [e2,nib,if_neg (by omega)]
theorem Zy9 (k:LI) (i:Nat):0<=nib k i/\nib k i<16:=by unfold nib; split <;> omega
def dbl4 (q:Q4):Q4:=Zfu (Zfu (Zfu (Zfu q)))
theorem byt_of {l:LI} (h : ∀ x∈l,0<=x/\x<256):Byt l:=by
 intro i
 simp only [List.getD]
 cases hi:l[i]? with
 | none=>simp
 | some v=>exact h v (List.mem_of_getElem? hi)
def BX:Int:=15112221349535400772501151409588531511454012693041857206046113283949847762202
def BY:Int:=46316835694926478169428394003475163141307993866256225615783033603165251855960
def Zyw:Q4:=⟨BX,BY,1,BX*BY⟩
theorem Zzw (k:LI->Option Zh):Z6g k big 0 [88,0,0,0,0,0,0,0,0,0,0,0,0,0,0,0,0,0,0,0,0,0,0,0,0,0,0,0,0,0,0,0]=k [88,102,102,102,102,102,102,102,102,102,102,102,102,102,102,102,102,102,102,102,102,102,102,102,102,102,102,102,102,102,102,102]:=by kernel_rfl
theorem Z033:Zbm=some (pt Zyw):=by
 rw [Zbm,Zb,Z3 (Zc8 (byt_of (by decide))),Zb,Z13,Zzw,Z3 (Zc8 (byt_of (by decide))),Z3 Zpo]
 have e1:Z8b [26,213,37,143,96,45,86,201,178,167,37,149,96,199,44,105,92,220,214,253,49,226,164,192,254,83,110,205,211,54,105,33]=BX:=by decide
 have e2:Z8b [88,102,102,102,102,102,102,102,102,102,102,102,102,102,102,102,102,102,102,102,102,102,102,102,102,102,102,102,102,102,102,102]=BY:=by decide
 rw [e1,e2,Z3 (Zmr _ _)]
 rfl
def Zq3:LI:=[235,255,255,255,255,255,255,255,255,255,255,255,255,255,255,255,255,255,255,255,255,255,255,255,255,255,255,255,255,255,255,127]
theorem Zym:Z6x 235 127=some Zq3:=by kernel_rfl
theorem Zts:Byt Zq3:=byt_of (by decide)
def Zxh (a:Int):Int:=pw (a%PP) Zq3 256
theorem Z03u {n:Int} (h:0<=n/\n<PP):Zj1 n=fe n:=(Z01c h.1 h.2).symm
theorem Z09g (a:Int):Z8m (fe a)=some (fe (Zxh a)):=by
 rw [Z8m,Z3 Zym,Z3 (Z044 (Zd1 _) Zts),Z5d,Z03u (Zyq _ _ _)]
 rfl
def Zom (x y:Int):LI:=if x%PP%2=1 then Z2u (byt (y%PP)) 31 (Z4 .or .u8 ((byt (y%PP)).getD 31 0) 128) else byt (y%PP)
def encQ (q:Q4):LI:=Zom (q.x*Zxh q.z) (q.y*Zxh q.z)
theorem Zq4 (q:Q4):Z8d (pt q)=some (encQ q):=by
 rw [Z8d]
 show opt (Z8m (fe q.z)) _=_
 rw [Z3 (Z09g _)]
 show opt (Z0y (fe q.y) (fe (Zxh q.z))) _=_
 rw [Z3 (Zmr _ _),Z3 (Ztm (Zd1 _))]
 show opt (Z0y (fe q.x) (fe (Zxh q.z))) _=_
 rw [Z3 (Zmr _ _),Z3 (Zu1 (Zd1 _)),Z13,Z5d,Z5d]
 simp only [Zb,Zez]
 unfold encQ Zom
 by_cases h:q.x*Zxh q.z%PP%2=1
 ·rw [Z0g (by rw [h]; rfl),if_pos h]
 ·rw [Z08 (by simpa using h),if_neg h]
theorem Zs7 (q:Q4) {kk:LI->LI->LI->LI->Option Zh} :
  Z2h kk big 0 (pt q).gX (pt q).gY (pt q).gZ (pt q).gT=kk (pt (dbl4 q)).gX (pt (dbl4 q)).gY (pt (dbl4 q)).gZ (pt (dbl4 q)).gT:=by
 obtain ⟨n,hn⟩ : ∃ n,big=n+1+1+1+1+1:=⟨18446744073709551611,Z1t⟩
 have step : ∀ (n j:Nat) (q:Q4),j<4->Z2h kk (n+1) (j:Int) (pt q).gX (pt q).gY (pt q).gZ (pt q).gT =
   Z2h kk n ((j+1:Nat):Int) (pt (Zfu q)).gX (pt (Zfu q)).gY (pt (Zfu q)).gZ (pt (Zfu q)).gT:=by
  intro n j q hj
  rw [Z2h,Z6d,Z0g (by simp; omega)]
  have:=Z00z q
  rw [show (⟨(pt q).gX,(pt q).gY,(pt q).gZ,(pt q).gT⟩:Zh)=pt q from rfl,Z3 this]
  simp only [Zb]
  rw [Zj (by omega) (by omega)]
  rfl
 rw [hn]
 have s0:=step (n+1+1+1+1) 0 q (by decide)
 have s1:=step (n+1+1+1) 1 (Zfu q) (by decide)
 have s2:=step (n+1+1) 2 (Zfu (Zfu q)) (by decide)
 have s3:=step (n+1) 3 (Zfu (Zfu (Zfu q))) (by decide)
 refine s0.trans (s1.trans (s2.trans (s3.trans ?_)))
 rw [Z2h,Z6d,Z08 (by decide)]
 rfl
def Z06t (k l:LI) (p r:Q4) (q:Q4) (i:Nat):Q4:=Zn4 (Zn4 (dbl4 q) (tab p (nib k i).toNat)) (tab r (nib l i).toNat)
def Zkj (k l:LI) (p r:Q4):Nat->Q4
 | 0=>Zvq
 | i+1=>Z06t k l p r (Zkj k l p r i) i
theorem Z029 (q:Q4):(⟨(pt q).gX,(pt q).gY,(pt q).gZ,(pt q).gT⟩:Zh)=pt q:=rfl
theorem Zld {k l:LI} (hk:Byt k) (hl:Byt l) (p r:Q4) : ∀ (j n:Nat),j<=64->Z35 k l (Zt4 (fun j=>pt (tab p j)) 15) (Zt4 (fun j=>pt (tab r j)) 15) (fun a b c d=>some ⟨a,b,c,d⟩) (n+1+j) ((64-j:Nat):Int) (pt (Zkj k l p r (64-j))).gX (pt (Zkj k l p r (64-j))).gY (pt (Zkj k l p r (64-j))).gZ (pt (Zkj k l p r (64-j))).gT=some (pt (Zkj k l p r 64))
 | 0,n,_=>by
  rw [show n+1+0=n+1 from rfl,Z35,Z6c,Z08 (by decide)]
 | j+1,n,hj=>by
  have ih:=Zld hk hl p r j n (by omega)
  have hr:=Zy9 k (64-(j+1))
  have hr2:=Zy9 l (64-(j+1))
  rw [<- Nat.add_assoc,Z35,Z6c,Z0g (by simp; omega),Z13,Zs7]
  rw [Z3 (Zqe hk (by omega)),Zo (Z0i hr.1 hr.2),Zb,Zpl _ (by omega) (by decide)]
  have hadd:=Zoi (dbl4 (Zkj k l p r (64-(j+1)))) (tab p (nib k (64-(j+1))).toNat)
  rw [Z029,Z3 hadd]
  rw [Z3 (Zqe hl (by omega)),Zo (Z0i hr2.1 hr2.2),Zb,Zpl _ (by omega) (by decide)]
  have hadd2:=Zoi (Zn4 (dbl4 (Zkj k l p r (64-(j+1)))) (tab p (nib k (64-(j+1))).toNat)) (tab r (nib l (64-(j+1))).toNat)
  rw [Z3 hadd2,Zb,Zj (by omega) (by omega)]
  have ei:((64-(j+1):Nat):Int)+1=((64-(j+1)+1:Nat):Int):=by omega
  rw [ei]
  have e:64-(j+1)+1=64-j:=by omega
  rw [e]
  have e2:Zn4 (Zn4 (dbl4 (Zkj k l p r (64-(j+1)))) (tab p (nib k (64-(j+1))).toNat)) (tab r (nib l (64-(j+1))).toNat)=Zkj k l p r (64-j):=by rw [<- e]; rfl
  rw [e2]
  exact ih
theorem Zne {k l:LI} (hk:Byt k) (hl:Byt l) (p:Q4):Z93 k (pt p) l=some (pt (Zkj k l p Zyw 64)):=by
 rw [Z93,Z3 Z033,Z13,Z3 (Zjy p),Z3 (Zjy Zyw)]
 dsimp only
 rw [Z3 Z00k,Z13]
 obtain ⟨n,hn⟩ : ∃ n,big=n+1+64:=⟨18446744073709551551,Z1t⟩
 have:=Zld hk hl p Zyw 64 n (by decide)
 rw [<- hn] at this
 exact this
theorem Zx0 {x:LI} (h:Byt x):Z5n x=some (ieq 32 (byt (Z6q (fe (Z8b x))%PP)) x):=by
 rw [Z5n,Z3 (Zc8 h),Z3 (Ztm (Zd1 _))]
def esq:LI:=[253,255,255,255,255,255,255,255,255,255,255,255,255,255,255,255,255,255,255,255,255,255,255,255,255,255,255,255,255,255,255,15]
def ert:LI:=[251,255,255,255,255,255,255,255,255,255,255,255,255,255,255,255,255,255,255,255,255,255,255,255,255,255,255,255,255,255,255,31]
theorem Z026:Z6x 253 15=some esq:=by kernel_rfl
theorem Z025:Z6x 251 31=some ert:=by kernel_rfl
theorem fpow (a:Int) {e:LI} (he:Byt e):Zaj (fe a) e=some (fe (pw (a%PP) e 256)):=by
 rw [Z044 (Zd1 _) he,Z03u (Zyq _ _ _),Z5d]
theorem fodd (a:Int):Z87 (fe a)=some (a%PP%2==1):=by rw [Zu1 (Zd1 _),Z5d,Zez]
theorem Z067 (a:Int):Z54 (fe a)=some (decide (a%PP=0)):=by rw [Zxr (Zd1 _),Z5d,Zez]
theorem feq (a b:Int):Z86 (fe a) (fe b)=some (decide (a%PP=b%PP)):=by rw [Z01a (Zd1 _) (Zd1 _),Z5d,Z5d,Zez,Zez]
theorem Zxj (c:Bool) (a b:Int):Z8q c (fe a) (fe b)=some (fe (bif c then a else b)):=by
 rw [Zzm (Zd1 _) (Zd1 _),Z5d,Z5d]; cases c <;> simp [Z03t]
def Zxc (a:Int):Int:=bif a%PP%2==1 then -a else a
def Zpp (a b:Int):Int:=a*(b*b*b)*pw ((a*((b*b*b)*(b*b*b))*b)%PP) esq 256
def Zmj:Int:=pw (2%PP) ert 256
def Zwg (a b:Int):Int×Bool :=
 if b%PP=0 then (0,decide (a%PP=0))
 else if (b*(Zpp a b*Zpp a b))%PP=a%PP then (Zxc (Zpp a b),true)
 else if (b*(Zpp a b*Zpp a b))%PP=(-a)%PP then (Zxc (Zpp a b*Zmj),true)
 else (0,false)
theorem fe0:([0,0,0,0,0]:LI)=fe 0:=by decide
theorem Z07y (a b:Int):Z6w (fe a) (fe b)=some (fe (Zwg a b).1,(Zwg a b).2):=by
 rw [Z6w,Z3 (Z067 b)]
 unfold Zwg
 by_cases h:b%PP=0
 ·rw [if_pos h,Z0g (by simpa using h),Zb,Z3 (Z067 a),fe0]
 ·rw [if_neg h,Z08 (by simpa using h),Z3 (Zf3 b),Z3 (Zmr _ _),Z3 (Zf3 _),Z3 (Zmr _ _),Z3 (Zmr _ _),Z3 (Zmr _ _),Z3 Z026,Z3 (fpow _ (byt_of (by decide))),Z3 (Zmr _ _)]
  have e0:a*(b*b*b)*pw ((a*((b*b*b)*(b*b*b))*b)%PP) esq 256=Zpp a b:=rfl
  rw [e0,Z3 (Zf3 _),Z3 (Zmr _ _),Z13,Z3 (feq _ _)]
  by_cases h1:(b*(Zpp a b*Zpp a b))%PP=a%PP
  ·rw [if_pos h1,Z0g (by simpa using h1)]
   dsimp only
   rw [Z3 (fodd _),Z3 (fneg _),Z3 (Zxj _ _ _)]
   rfl
  ·rw [if_neg h1,Z08 (by simpa using h1),Z3 (fneg _),Z3 (feq _ _)]
   by_cases h2:(b*(Zpp a b*Zpp a b))%PP=(-a)%PP
   ·rw [if_pos h2,Z0g (by simpa using h2),Z3 (Zux (n:=2) (by decide)),Z3 Z025,Z3 (fpow _ (byt_of (by decide))),Z3 (Zmr _ _)]
    dsimp only
    rw [Z3 (fodd _),Z3 (fneg _),Z3 (Zxj _ _ _)]
    rfl
   ·rw [if_neg h2,Z08 (by simpa using h2),Zb,fe0]
def DD:Int:=37095705934669439343138083508754565189542113879843219016388785533085940283555
theorem Z01i:Zbl=some (fe DD):=by rw [Zbl,Zb]; decide
def Z1k (p:LI):LI:=Z2u p 31 (p.getD 31 0%128)
def Zq2 (p:LI):Int:=p.getD 31 0 / 128
def dcan (p:LI):Bool:=ieq 32 (byt (Z6q (fe (Z8b (Z1k p)))%PP)) (Z1k p)
def Z7h (y:Int):Int×Bool:=Zwg (y*y-1) (DD*(y*y)+1)
def dx (p:LI):Int:=if Zq2 p=1 then-(Z7h (Z8b (Z1k p))).1 else (Z7h (Z8b (Z1k p))).1
def dok (p:LI):Bool:=dcan p&&(Z7h (Z8b (Z1k p))).2 && !(Zq2 p==1&&decide ((Z7h (Z8b (Z1k p))).1%PP=0))
def dpt (p:LI):Q4:=⟨dx p,Z8b (Z1k p),1,dx p*Z8b (Z1k p)⟩
theorem Zio {p:LI} (h:Byt p) {j:Nat} {v:Int} (hv:0<=v/\v<256):Byt (Z2u p j v):=by
 intro i
 rw [Z1h]
 split
 ·exact hv
 ·exact h i
theorem Z08n {x:Int} (h0:0<=x) (h1:x<256):Z4 .and .u8 x 127=x%128:=Zht 7 (by decide) (by decide) h0 h1
theorem Zq0 {p:LI} (h:Byt p):Zag p=some (if dok p then (pt (dpt p),true) else (Z1l,false)):=by
 have h31:=h 31
 have hy:Byt (Z1k p):=Zio h (by omega)
 have hs:Zq .u8 (p.getD 31 0) 7=Zq2 p:=by have:=Z9p .u8 (x:=p.getD 31 0) (n:=7) (by decide); simpa [Zq2] using this
 rw [Zag,Zb,Zb,Zb,Zb,Zb,Z08n h31.1 h31.2,hs]
 show opt (Z5n (Z1k p)) _=_
 rw [Z3 (Zx0 hy)]
 have ec:ieq 32 (byt (Z6q (fe (Z8b (Z1k p)))%PP)) (Z1k p)=dcan p:=rfl
 rw [ec]
 unfold dok
 cases hc:dcan p
 ·rw [Z0g (by rfl)]; rfl
 ·rw [Z08 (by rfl)]
  show opt (Z2z (Z1k p)) _=_
  rw [Z3 (Zc8 hy),Z3 (Zf3 _),Z3 Zpo,Z3 (fsub _ _),Z3 Z01i,Z3 (Zmr _ _),Z3 (fadd _ _),Z3 (Z07y _ _)]
  have er:Zwg (Z8b (Z1k p)*Z8b (Z1k p)-1) (DD*(Z8b (Z1k p)*Z8b (Z1k p))+1)=Z7h (Z8b (Z1k p)):=rfl
  rw [er]
  simp only [Z067]
  cases hd:(Z7h (Z8b (Z1k p))).2
  ·rw [Zo (by simp [imp]),Z0g (by simp)]; rfl
  ·rw [Zo (by simp [imp])]
   by_cases hz:(Zq2 p==1&&decide ((Z7h (Z8b (Z1k p))).1%PP=0))=true
   ·rw [Z0g (by simpa using hz),if_neg (by simp [hz])]; rfl
   ·have hz':(Zq2 p==1&&decide ((Z7h (Z8b (Z1k p))).1%PP=0))=false:=by simpa using hz
    rw [Z08 (by simpa using hz'),if_pos (by simp [hz']),Z13]
    unfold dpt dx
    by_cases ht:Zq2 p=1
    ·rw [Z0g (by simp [ht]),Z3 (fneg _),if_pos ht]
     dsimp only
     rw [Z3 (Zmr _ _)]; rfl
    ·rw [Z08 (by simpa using ht),if_neg ht]
     dsimp only
     rw [Z3 (Zmr _ _)]; rfl
def W64 (l:LI):Prop:=∀ i,0<=l.getD i 0/\l.getD i 0<18446744073709551616
def V4 (l:LI):Int:=l.getD 0 0+l.getD 1 0*18446744073709551616+l.getD 2 0*340282366920938463463374607431768211456+l.getD 3 0*6277101735386680763835789423207666416102355444464034512896
def B4:Int:=115792089237316195423570985008687907853269984665640564039457584007913129639936
def VL:Int:=7237005577332262213973186563042994240857116359379907606001950938285454250989
theorem Zo9:V4 G_order=VL:=by decide
theorem Zkc {l:LI} (h : ∀ x∈l,0<=x/\x<18446744073709551616):W64 l:=by
 intro i
 simp only [List.getD]
 cases hi:l[i]? with
 | none=>simp
 | some v=>exact h v (List.mem_of_getElem? hi)
theorem Zbh:W64 G_order:=Zkc (by decide)
theorem Zbi {l:LI} (h:W64 l) {i:Nat} {z:Int} (hz:0<=z/\z<18446744073709551616):W64 (Z2u l i z):=by
 intro j; rw [Z1h]; split
 ·exact hz
 ·exact h j
theorem Zkq {l:LI} (h:W64 l) {i:Nat} {z:Int} (hz:0<=z/\z<18446744073709551616):W64 (Zdu 0 l i z):=by
 intro j; rw [Z4o]; split
 ·exact hz
 ·exact h j
theorem Z51 (n:Nat):W64 (List.replicate n 0):=Zkc (by intro x hx; rw [List.mem_replicate] at hx; omega)
theorem Znn (x y:Int):0<=Z4 .or .u64 x y/\Z4 .or .u64 x y<18446744073709551616:=by
 show 0<=IntKind.u64.wrap _/\IntKind.u64.wrap _<_
 rw [Zed]; omega
theorem Zrz (x y:Int):0<=Z4 .and .u64 x y/\Z4 .and .u64 x y<18446744073709551616:=by
 show 0<=IntKind.u64.wrap _/\IntKind.u64.wrap _<_
 rw [Zed]; omega
theorem Z04y {x y c:Int} (hx:0<=x/\x<18446744073709551616) (hy:0<=y/\y<18446744073709551616) (hc:c=0∨c=1):Zep x y c=true:=by
 unfold Zep
 rw [decide_eq_true hx.1,decide_eq_true hy.1,decide_eq_true (show 0<=c by omega),decide_eq_true (show c<=1 by omega)]; rfl
theorem Z081 {x y c:Int} (hx:0<=x/\x<18446744073709551616) (hy:0<=y/\y<18446744073709551616) (hc:c=0∨c=1):Zzz x y c=true:=by
 unfold Zzz
 rw [decide_eq_true hx.1,decide_eq_true hy.1,decide_eq_true hy.2,decide_eq_true (show 0<=c by omega),decide_eq_true (show c<=1 by omega)]; rfl
theorem Zgb {q:LI} {k:Int->LI->Option (LI×Int)} {a:LI} {c:Int} (n:Nat) {i:Nat} (hi:i<4) (ha:W64 a) (hq:W64 q) (hc:c=0∨c=1) :
  ∃ c' lo,Z32 q k (n+1) c (i:Int) a=Z32 q k n c' ((i+1:Nat):Int) (Z2u a i lo)/\0<=lo/\lo<18446744073709551616/\(c'=0∨c'=1)/\lo=a.getD i 0-q.getD i 0-c+c'*18446744073709551616:=by
 have h1:=ha i
 have h2:=hq i
 refine ⟨Z034 (a.getD i 0) (q.getD i 0) c,Z035 (a.getD i 0) (q.getD i 0) c,?_,?_⟩
 ·rw [Z32,Z7a,Z0g (by simp; omega),Zo (Z0i (by omega) (by omega)),Zo (Z0i (by omega) (by omega)),Zb,Zb]
  simp only [Int.toNat_natCast]
  rw [Zo (Z081 h1 h2 hc),Zb,Zb,Zo (Z0i (by omega) (by omega)),Zb,Zb,Zj (by omega) (by omega)]
  rfl
 ·unfold Z034 Z035
  generalize a.getD i 0=x at *
  generalize q.getD i 0=y at *
  split <;> omega
theorem Zi1 {p q:LI} (hp:W64 p) (hq:W64 q) : ∃ a c,Z61 p q=some (a,c)/\W64 a/\(c=0∨c=1)/\V4 a=V4 p-V4 q+c*B4:=by
 obtain ⟨n,hn⟩ : ∃ n,big=n+1+1+1+1+1:=⟨18446744073709551611,Z1t⟩
 rw [Z61,Z13,hn]
 obtain ⟨c0,l0,e0,b0,b0',hc0,v0⟩:=Zgb (k:=fun i a=>some (a,i)) (n+1+1+1+1) (i:=0) (by decide) hp hq (.inl rfl)
 have w0:=Zbi hp (i:=0) ⟨b0,b0'⟩
 obtain ⟨c1,l1,e1,b1,b1',hc1,v1⟩:=Zgb (k:=fun i a=>some (a,i)) (n+1+1+1) (i:=1) (by decide) w0 hq hc0
 have w1:=Zbi w0 (i:=1) ⟨b1,b1'⟩
 obtain ⟨c2,l2,e2,b2,b2',hc2,v2⟩:=Zgb (k:=fun i a=>some (a,i)) (n+1+1) (i:=2) (by decide) w1 hq hc1
 have w2:=Zbi w1 (i:=2) ⟨b2,b2'⟩
 obtain ⟨c3,l3,e3,b3,b3',hc3,v3⟩:=Zgb (k:=fun i a=>some (a,i)) (n+1) (i:=3) (by decide) w2 hq hc2
 have w3:=Zbi w2 (i:=3) ⟨b3,b3'⟩
 refine ⟨_,c3,(e0.trans (e1.trans (e2.trans (e3.trans ?_)))),w3,hc3,?_⟩
 ·rw [Z32,Z7a,Z08 (by decide)]
 ·simp only [V4,Z1h] at v1 v2 v3 ⊢
  simp [-List.getD_eq_getElem?_getD] at v1 v2 v3 ⊢
  unfold B4
  omega
theorem Zi5 {q:LI} {k:Int->LI->Option (LI×Int)} {a:LI} {c:Int} (n:Nat) {i:Nat} (hi:i<4) (ha:W64 a) (hq:W64 q) (hc:c=0∨c=1) :
  ∃ c' lo,Z3r q k (n+1) c (i:Int) a=Z3r q k n c' ((i+1:Nat):Int) (Z2u a i lo)/\0<=lo/\lo<18446744073709551616/\(c'=0∨c'=1)/\lo=a.getD i 0+q.getD i 0+c-c'*18446744073709551616:=by
 have h1:=ha i
 have h2:=hq i
 refine ⟨Zev (a.getD i 0) (q.getD i 0) c,Zae (a.getD i 0) (q.getD i 0) c,?_,?_⟩
 ·rw [Z3r,Z80,Z0g (by simp; omega),Zo (Z0i (by omega) (by omega)),Zo (Z0i (by omega) (by omega)),Zb,Zb]
  simp only [Int.toNat_natCast]
  rw [Zo (Z04y h1 h2 hc),Zb,Zb,Zo (Z0i (by omega) (by omega)),Zb,Zb,Zj (by omega) (by omega)]
  rfl
 ·unfold Zev Zae
  generalize a.getD i 0=x at *
  generalize q.getD i 0=y at *
  omega
theorem Zj8 {p q:LI} (hp:W64 p) (hq:W64 q) : ∃ a c,Z69 p q=some (a,c)/\W64 a/\(c=0∨c=1)/\V4 a=V4 p+V4 q-c*B4:=by
 obtain ⟨n,hn⟩ : ∃ n,big=n+1+1+1+1+1:=⟨18446744073709551611,Z1t⟩
 rw [Z69,Z13,hn]
 obtain ⟨c0,l0,e0,b0,b0',hc0,v0⟩:=Zi5 (k:=fun i a=>some (a,i)) (n+1+1+1+1) (i:=0) (by decide) hp hq (.inl rfl)
 have w0:=Zbi hp (i:=0) ⟨b0,b0'⟩
 obtain ⟨c1,l1,e1,b1,b1',hc1,v1⟩:=Zi5 (k:=fun i a=>some (a,i)) (n+1+1+1) (i:=1) (by decide) w0 hq hc0
 have w1:=Zbi w0 (i:=1) ⟨b1,b1'⟩
 obtain ⟨c2,l2,e2,b2,b2',hc2,v2⟩:=Zi5 (k:=fun i a=>some (a,i)) (n+1+1) (i:=2) (by decide) w1 hq hc1
 have w2:=Zbi w1 (i:=2) ⟨b2,b2'⟩
 obtain ⟨c3,l3,e3,b3,b3',hc3,v3⟩:=Zi5 (k:=fun i a=>some (a,i)) (n+1) (i:=3) (by decide) w2 hq hc2
 have w3:=Zbi w2 (i:=3) ⟨b3,b3'⟩
 refine ⟨_,c3,(e0.trans (e1.trans (e2.trans (e3.trans ?_)))),w3,hc3,?_⟩
 ·rw [Z3r,Z80,Z08 (by decide)]
 ·simp only [V4,Z1h] at v1 v2 v3 ⊢
  simp [-List.getD_eq_getElem?_getD] at v1 v2 v3 ⊢
  unfold B4
  omega
theorem Zee {l:LI} (h:W64 l):0<=V4 l/\V4 l<B4:=by
 have h0:=h 0
 have h1:=h 1
 have h2:=h 2
 have h3:=h 3
 unfold V4 B4
 omega
theorem Zg4 {k2:LI->Option (LI)} {k5:Unit->Option (LI)} {a:LI} (n:Nat) {i:Nat} (hi:i<4) :
  Z0z k2 a k5 (n+1) (i:Int)=if a.getD i 0<G_order.getD i 0 then k2 a else if a.getD i 0>G_order.getD i 0 then k5 () else Z0z k2 a k5 n ((i:Int)-1):=by
 rw [Z0z,Z79,Z0g (by simp),Zo (Z0i (by omega) (by omega)),Zo (Z0i (by omega) (by omega)),Zb,Zb]
 simp only [Int.toNat_natCast]
 by_cases h1:a.getD i 0<G_order.getD i 0
 ·rw [Z0g (by simpa using h1),if_pos h1]
 ·rw [Z08 (by simpa using h1),if_neg h1,Zo (Z0i (by omega) (by omega)),Zo (Z0i (by omega) (by omega)),Zb,Zb]
  by_cases h2:a.getD i 0>G_order.getD i 0
  ·rw [Z0g (by simpa using h2),if_pos h2]
  ·rw [Z08 (by simpa using h2),if_neg h2,Zb,Zj (by omega) (by omega)]
theorem Zpu {k2:LI->Option (LI)} {k5:Unit->Option (LI)} {a:LI} (ha:W64 a):Z0z k2 a k5 big 3=if V4 a<VL then k2 a else k5 ():=by
 obtain ⟨n,hn⟩ : ∃ n,big=n+1+1+1+1+1:=⟨18446744073709551611,Z1t⟩
 rw [hn]
 have s3:=Zg4 (k2:=k2) (k5:=k5) (a:=a) (n+1+1+1+1) (i:=3) (by decide)
 have s2:=Zg4 (k2:=k2) (k5:=k5) (a:=a) (n+1+1+1) (i:=2) (by decide)
 have s1:=Zg4 (k2:=k2) (k5:=k5) (a:=a) (n+1+1) (i:=1) (by decide)
 have s0:=Zg4 (k2:=k2) (k5:=k5) (a:=a) (n+1) (i:=0) (by decide)
 have e:Z0z k2 a k5 (n+1) (-1)=k5 ():=by
  rw [Z0z,Z79,Z08 (by decide)]
 have o0:G_order.getD 0 0=6346243789798364141:=rfl
 have o1:G_order.getD 1 0=1503914060200516822:=rfl
 have o2:G_order.getD 2 0=0:=rfl
 have o3:G_order.getD 3 0=1152921504606846976:=rfl
 rw [o0] at s0
 rw [o1] at s1
 rw [o2] at s2
 rw [o3] at s3
 have s0':Z0z k2 a k5 (n+1+1) (1-1)=_:=s0
 have s1':Z0z k2 a k5 (n+1+1+1) (2-1)=_:=s1
 have s2':Z0z k2 a k5 (n+1+1+1+1) (3-1)=_:=s2
 have e':Z0z k2 a k5 (n+1) (0-1)=k5 ():=e
 have f3:Z0z k2 a k5 (n+1+1+1+1+1) 3=_:=s3
 rw [f3]
 rw [show ((3:Nat):Int)-1=3-1 from rfl,s2',show ((2:Nat):Int)-1=2-1 from rfl,s1',show ((1:Nat):Int)-1=1-1 from rfl,s0',show ((0:Nat):Int)-1=0-1 from rfl,e']
 have h0:=ha 0
 have h1:=ha 1
 have h2:=ha 2
 have h3:=ha 3
 unfold V4 VL
 generalize a.getD 0 0=a0 at *
 generalize a.getD 1 0=a1 at *
 generalize a.getD 2 0=a2 at *
 generalize a.getD 3 0=a3 at *
 by_cases hv:a0+a1*18446744073709551616+a2*340282366920938463463374607431768211456+a3*6277101735386680763835789423207666416102355444464034512896<7237005577332262213973186563042994240857116359379907606001950938285454250989
 ·rw [if_pos hv]
  repeat' split
  all_goals first | rfl | (exfalso; omega)
 ·rw [if_neg hv]
  repeat' split
  all_goals first | rfl | (exfalso; omega)
theorem Zv6 (m:Nat) : ∀ (n:Nat) {a:LI},W64 a->V4 a<((m:Int)+1)*VL->∃ r,Z3z some (n+1+m) a=some r/\W64 r/\V4 r=V4 a%VL:=by
 induction m with
 | zero =>
  intro n a ha hv
  have h0:=Zee ha
  have hv':V4 a<VL:=by omega
  refine ⟨a,?_,ha,?_⟩
  ·rw [Nat.add_zero,Z3z,Z78,Z13,Zpu ha,if_pos hv']
  ·rw [Int.emod_eq_of_lt h0.1 hv']
 | succ m ih =>
  intro n a ha hv
  have h0:=Zee ha
  rw [<- Nat.add_assoc,Z3z,Z78,Z13,Zpu ha]
  by_cases h:V4 a<VL
  ·rw [if_pos h]
   exact ⟨a,rfl,ha,by rw [Int.emod_eq_of_lt h0.1 h]⟩
  ·rw [if_neg h]
   obtain ⟨b,c,e,hb,hc,hv2⟩:=Zi1 ha Zbh
   have hbr:=Zee hb
   rw [Zo9] at hv2
   have hc0:c=0:=by
    unfold B4 VL at *
    rcases hc with h | h
    ·exact h
    ·exfalso; subst h; omega
   rw [Z3 e]
   have hv3:V4 b=V4 a-VL:=by rw [hv2,hc0]; omega
   have hlt:V4 b<((m:Int)+1)*VL:=by
    rw [hv3]
    have:((m+1:Nat):Int)+1=((m:Int)+1)+1:=by omega
    rw [this,Int.add_mul ((m:Int)+1) 1 VL] at hv
    omega
   obtain ⟨r,er,hr,vr⟩:=ih n hb hlt
   exact ⟨r,er,hr,by rw [vr,hv3,Int.sub_emod_right]⟩
theorem Zti {a:LI} (ha:W64 a) : ∃ r,Z8w a=some r/\W64 r/\V4 r=V4 a%VL:=by
 rw [Z8w,Z13]
 obtain ⟨n,hn⟩ : ∃ n,big=n+1+16:=⟨18446744073709551599,Z1t⟩
 rw [hn]
 have h:=Zee ha
 exact Zv6 16 n ha (by unfold B4 at h; unfold VL; omega)
end Go.Proofs.YtiflckckekjbnaaGreatDoor
namespace Go.Proofs.YtiflckckekjbnaaGreatDoor
open Go Go.Sx Go.RowKit
open List (replicate)
open Go.IntKind (wrap)
set_option linter.all false
set_option maxRecDepth 100000
theorem Znm (p:LI):Za1 p=some [Z4 .or .u64 (Z4 .or .u64 (Z4 .or .u64 (Z4 .or .u64 (Z4 .or .u64 (Z4 .or .u64 (Z4 .or .u64 (Z4 .or .u64 (0) (Zl .u64 (wrap .u64 (p.getD 0 0)) 0)) (Zl .u64 (wrap .u64 (p.getD 1 0)) 8)) (Zl .u64 (wrap .u64 (p.getD 2 0)) 16)) (Zl .u64 (wrap .u64 (p.getD 3 0)) 24)) (Zl .u64 (wrap .u64 (p.getD 4 0)) 32)) (Zl .u64 (wrap .u64 (p.getD 5 0)) 40)) (Zl .u64 (wrap .u64 (p.getD 6 0)) 48)) (Zl .u64 (wrap .u64 (p.getD 7 0)) 56),Z4 .or .u64 (Z4 .or .u64 (Z4 .or .u64 (Z4 .or .u64 (Z4 .or .u64 (Z4 .or .u64 (Z4 .or .u64 (Z4 .or .u64 (0) (Zl .u64 (wrap .u64 (p.getD 8 0)) 0)) (Zl .u64 (wrap .u64 (p.getD 9 0)) 8)) (Zl .u64 (wrap .u64 (p.getD 10 0)) 16)) (Zl .u64 (wrap .u64 (p.getD 11 0)) 24)) (Zl .u64 (wrap .u64 (p.getD 12 0)) 32)) (Zl .u64 (wrap .u64 (p.getD 13 0)) 40)) (Zl .u64 (wrap .u64 (p.getD 14 0)) 48)) (Zl .u64 (wrap .u64 (p.getD 15 0)) 56),Z4 .or .u64 (Z4 .or .u64 (Z4 .or .u64 (Z4 .or .u64 (Z4 .or .u64 (Z4 .or .u64 (Z4 .or .u64 (Z4 .or .u64 (0) (Zl .u64 (wrap .u64 (p.getD 16 0)) 0)) (Zl .u64 (wrap .u64 (p.getD 17 0)) 8)) (Zl .u64 (wrap .u64 (p.getD 18 0)) 16)) (Zl .u64 (wrap .u64 (p.getD 19 0)) 24)) (Zl .u64 (wrap .u64 (p.getD 20 0)) 32)) (Zl .u64 (wrap .u64 (p.getD 21 0)) 40)) (Zl .u64 (wrap .u64 (p.getD 22 0)) 48)) (Zl .u64 (wrap .u64 (p.getD 23 0)) 56),Z4 .or .u64 (Z4 .or .u64 (Z4 .or .u64 (Z4 .or .u64 (Z4 .or .u64 (Z4 .or .u64 (Z4 .or .u64 (Z4 .or .u64 (0) (Zl .u64 (wrap .u64 (p.getD 24 0)) 0)) (Zl .u64 (wrap .u64 (p.getD 25 0)) 8)) (Zl .u64 (wrap .u64 (p.getD 26 0)) 16)) (Zl .u64 (wrap .u64 (p.getD 27 0)) 24)) (Zl .u64 (wrap .u64 (p.getD 28 0)) 32)) (Zl .u64 (wrap .u64 (p.getD 29 0)) 40)) (Zl .u64 (wrap .u64 (p.getD 30 0)) 48)) (Zl .u64 (wrap .u64 (p.getD 31 0)) 56)]:=by kernel_rfl
theorem Zn6 (p:LI) (k:LI->Option (LI)):Z50 p k big 0 (replicate 8 0)=k [Z4 .or .u64 (Z4 .or .u64 (Z4 .or .u64 (Z4 .or .u64 (Z4 .or .u64 (Z4 .or .u64 (Z4 .or .u64 (Z4 .or .u64 (0) (Zl .u64 (wrap .u64 (p.getD 0 0)) 0)) (Zl .u64 (wrap .u64 (p.getD 1 0)) 8)) (Zl .u64 (wrap .u64 (p.getD 2 0)) 16)) (Zl .u64 (wrap .u64 (p.getD 3 0)) 24)) (Zl .u64 (wrap .u64 (p.getD 4 0)) 32)) (Zl .u64 (wrap .u64 (p.getD 5 0)) 40)) (Zl .u64 (wrap .u64 (p.getD 6 0)) 48)) (Zl .u64 (wrap .u64 (p.getD 7 0)) 56),Z4 .or .u64 (Z4 .or .u64 (Z4 .or .u64 (Z4 .or .u64 (Z4 .or .u64 (Z4 .or .u64 (Z4 .or .u64 (Z4 .or .u64 (0) (Zl .u64 (wrap .u64 (p.getD 8 0)) 0)) (Zl .u64 (wrap .u64 (p.getD 9 0)) 8)) (Zl .u64 (wrap .u64 (p.getD 10 0)) 16)) (Zl .u64 (wrap .u64 (p.getD 11 0)) 24)) (Zl .u64 (wrap .u64 (p.getD 12 0)) 32)) (Zl .u64 (wrap .u64 (p.getD 13 0)) 40)) (Zl .u64 (wrap .u64 (p.getD 14 0)) 48)) (Zl .u64 (wrap .u64 (p.getD 15 0)) 56),Z4 .or .u64 (Z4 .or .u64 (Z4 .or .u64 (Z4 .or .u64 (Z4 .or .u64 (Z4 .or .u64 (Z4 .or .u64 (Z4 .or .u64 (0) (Zl .u64 (wrap .u64 (p.getD 16 0)) 0)) (Zl .u64 (wrap .u64 (p.getD 17 0)) 8)) (Zl .u64 (wrap .u64 (p.getD 18 0)) 16)) (Zl .u64 (wrap .u64 (p.getD 19 0)) 24)) (Zl .u64 (wrap .u64 (p.getD 20 0)) 32)) (Zl .u64 (wrap .u64 (p.getD 21 0)) 40)) (Zl .u64 (wrap .u64 (p.getD 22 0)) 48)) (Zl .u64 (wrap .u64 (p.getD 23 0)) 56),Z4 .or .u64 (Z4 .or .u64 (Z4 .or .u64 (Z4 .or .u64 (Z4 .or .u64 (Z4 .or .u64 (Z4 .or .u64 (Z4 .or .u64 (0) (Zl .u64 (wrap .u64 (p.getD 24 0)) 0)) (Zl .u64 (wrap .u64 (p.getD 25 0)) 8)) (Zl .u64 (wrap .u64 (p.getD 26 0)) 16)) (Zl .u64 (wrap .u64 (p.getD 27 0)) 24)) (Zl .u64 (wrap .u64 (p.getD 28 0)) 32)) (Zl .u64 (wrap .u64 (p.getD 29 0)) 40)) (Zl .u64 (wrap .u64 (p.getD 30 0)) 48)) (Zl .u64 (wrap .u64 (p.getD 31 0)) 56),Z4 .or .u64 (Z4 .or .u64 (Z4 .or .u64 (Z4 .or .u64 (Z4 .or .u64 (Z4 .or .u64 (Z4 .or .u64 (Z4 .or .u64 (0) (Zl .u64 (wrap .u64 (p.getD 32 0)) 0)) (Zl .u64 (wrap .u64 (p.getD 33 0)) 8)) (Zl .u64 (wrap .u64 (p.getD 34 0)) 16)) (Zl .u64 (wrap .u64 (p.getD 35 0)) 24)) (Zl .u64 (wrap .u64 (p.getD 36 0)) 32)) (Zl .u64 (wrap .u64 (p.getD 37 0)) 40)) (Zl .u64 (wrap .u64 (p.getD 38 0)) 48)) (Zl .u64 (wrap .u64 (p.getD 39 0)) 56),Z4 .or .u64 (Z4 .or .u64 (Z4 .or .u64 (Z4 .or .u64 (Z4 .or .u64 (Z4 .or .u64 (Z4 .or .u64 (Z4 .or .u64 (0) (Zl .u64 (wrap .u64 (p.getD 40 0)) 0)) (Zl .u64 (wrap .u64 (p.getD 41 0)) 8)) (Zl .u64 (wrap .u64 (p.getD 42 0)) 16)) (Zl .u64 (wrap .u64 (p.getD 43 0)) 24)) (Zl .u64 (wrap .u64 (p.getD 44 0)) 32)) (Zl .u64 (wrap .u64 (p.getD 45 0)) 40)) (Zl .u64 (wrap .u64 (p.getD 46 0)) 48)) (Zl .u64 (wrap .u64 (p.getD 47 0)) 56),Z4 .or .u64 (Z4 .or .u64 (Z4 .or .u64 (Z4 .or .u64 (Z4 .or .u64 (Z4 .or .u64 (Z4 .or .u64 (Z4 .or .u64 (0) (Zl .u64 (wrap .u64 (p.getD 48 0)) 0)) (Zl .u64 (wrap .u64 (p.getD 49 0)) 8)) (Zl .u64 (wrap .u64 (p.getD 50 0)) 16)) (Zl .u64 (wrap .u64 (p.getD 51 0)) 24)) (Zl .u64 (wrap .u64 (p.getD 52 0)) 32)) (Zl .u64 (wrap .u64 (p.getD 53 0)) 40)) (Zl .u64 (wrap .u64 (p.getD 54 0)) 48)) (Zl .u64 (wrap .u64 (p.getD 55 0)) 56),Z4 .or .u64 (Z4 .or .u64 (Z4 .or .u64 (Z4 .or .u64 (Z4 .or .u64 (Z4 .or .u64 (Z4 .or .u64 (Z4 .or .u64 (0) (Zl .u64 (wrap .u64 (p.getD 56 0)) 0)) (Zl .u64 (wrap .u64 (p.getD 57 0)) 8)) (Zl .u64 (wrap .u64 (p.getD 58 0)) 16)) (Zl .u64 (wrap .u64 (p.getD 59 0)) 24)) (Zl .u64 (wrap .u64 (p.getD 60 0)) 32)) (Zl .u64 (wrap .u64 (p.getD 61 0)) 40)) (Zl .u64 (wrap .u64 (p.getD 62 0)) 48)) (Zl .u64 (wrap .u64 (p.getD 63 0)) 56)]:=by kernel_rfl
theorem Zrj (p:LI):Z8x p=some [wrap .u8 (p.getD 0 0),wrap .u8 (Zq .u64 (p.getD 0 0) 8),wrap .u8 (Zq .u64 (Zq .u64 (p.getD 0 0) 8) 8),wrap .u8 (Zq .u64 (Zq .u64 (Zq .u64 (p.getD 0 0) 8) 8) 8),wrap .u8 (Zq .u64 (Zq .u64 (Zq .u64 (Zq .u64 (p.getD 0 0) 8) 8) 8) 8),wrap .u8 (Zq .u64 (Zq .u64 (Zq .u64 (Zq .u64 (Zq .u64 (p.getD 0 0) 8) 8) 8) 8) 8),wrap .u8 (Zq .u64 (Zq .u64 (Zq .u64 (Zq .u64 (Zq .u64 (Zq .u64 (p.getD 0 0) 8) 8) 8) 8) 8) 8),wrap .u8 (Zq .u64 (Zq .u64 (Zq .u64 (Zq .u64 (Zq .u64 (Zq .u64 (Zq .u64 (p.getD 0 0) 8) 8) 8) 8) 8) 8) 8),wrap .u8 (p.getD 1 0),wrap .u8 (Zq .u64 (p.getD 1 0) 8),wrap .u8 (Zq .u64 (Zq .u64 (p.getD 1 0) 8) 8),wrap .u8 (Zq .u64 (Zq .u64 (Zq .u64 (p.getD 1 0) 8) 8) 8),wrap .u8 (Zq .u64 (Zq .u64 (Zq .u64 (Zq .u64 (p.getD 1 0) 8) 8) 8) 8),wrap .u8 (Zq .u64 (Zq .u64 (Zq .u64 (Zq .u64 (Zq .u64 (p.getD 1 0) 8) 8) 8) 8) 8),wrap .u8 (Zq .u64 (Zq .u64 (Zq .u64 (Zq .u64 (Zq .u64 (Zq .u64 (p.getD 1 0) 8) 8) 8) 8) 8) 8),wrap .u8 (Zq .u64 (Zq .u64 (Zq .u64 (Zq .u64 (Zq .u64 (Zq .u64 (Zq .u64 (p.getD 1 0) 8) 8) 8) 8) 8) 8) 8),wrap .u8 (p.getD 2 0),wrap .u8 (Zq .u64 (p.getD 2 0) 8),wrap .u8 (Zq .u64 (Zq .u64 (p.getD 2 0) 8) 8),wrap .u8 (Zq .u64 (Zq .u64 (Zq .u64 (p.getD 2 0) 8) 8) 8),wrap .u8 (Zq .u64 (Zq .u64 (Zq .u64 (Zq .u64 (p.getD 2 0) 8) 8) 8) 8),wrap .u8 (Zq .u64 (Zq .u64 (Zq .u64 (Zq .u64 (Zq .u64 (p.getD 2 0) 8) 8) 8) 8) 8),wrap .u8 (Zq .u64 (Zq .u64 (Zq .u64 (Zq .u64 (Zq .u64 (Zq .u64 (p.getD 2 0) 8) 8) 8) 8) 8) 8),wrap .u8 (Zq .u64 (Zq .u64 (Zq .u64 (Zq .u64 (Zq .u64 (Zq .u64 (Zq .u64 (p.getD 2 0) 8) 8) 8) 8) 8) 8) 8),wrap .u8 (p.getD 3 0),wrap .u8 (Zq .u64 (p.getD 3 0) 8),wrap .u8 (Zq .u64 (Zq .u64 (p.getD 3 0) 8) 8),wrap .u8 (Zq .u64 (Zq .u64 (Zq .u64 (p.getD 3 0) 8) 8) 8),wrap .u8 (Zq .u64 (Zq .u64 (Zq .u64 (Zq .u64 (p.getD 3 0) 8) 8) 8) 8),wrap .u8 (Zq .u64 (Zq .u64 (Zq .u64 (Zq .u64 (Zq .u64 (p.getD 3 0) 8) 8) 8) 8) 8),wrap .u8 (Zq .u64 (Zq .u64 (Zq .u64 (Zq .u64 (Zq .u64 (Zq .u64 (p.getD 3 0) 8) 8) 8) 8) 8) 8),wrap .u8 (Zq .u64 (Zq .u64 (Zq .u64 (Zq .u64 (Zq .u64 (Zq .u64 (Zq .u64 (p.getD 3 0) 8) 8) 8) 8) 8) 8) 8)]:=by kernel_rfl
theorem Z04s (x:Int):0<=wrap .u8 x/\wrap .u8 x<256:=by rw [Z0s]; omega
theorem Zzx (p:LI) : ∃ r,Z8x p=some r/\Byt r/\r.length=32:=by
  refine ⟨_,Zrj p,byt_of ?_,rfl⟩
  repeat' (first | exact Z04s _ | exact List.forall_mem_nil _ | refine List.forall_mem_cons.2 ⟨?_,?_⟩)
theorem Z01k (p:LI) : ∃ r,Za1 p=some r/\W64 r:=by
  refine ⟨_,Znm p,Zkc ?_⟩
  repeat' (first | exact Znn _ _ | exact List.forall_mem_nil _ | refine List.forall_mem_cons.2 ⟨?_,?_⟩)
theorem Zoj (p:LI) : ∃ b,Z37 p=some b:=by
  obtain ⟨r,e,hr⟩:=Z01k p
  obtain ⟨a,c,e2,_⟩:=Zi1 hr Zbh
  exact ⟨_,by rw [Z37,Z3 e,Z3 e2]⟩
theorem Zks {x y:Int} (hx:0<=x) (hy:0<=y):Zep x y 0=true:=by
  unfold Zep
  rw [decide_eq_true hx,decide_eq_true hy]; rfl
theorem Zt8 (x:Int):0<=wrap .u64 x/\wrap .u64 x<18446744073709551616:=by rw [Zed]; omega
theorem Zhs (x y c:Int):0<=Zae x y c/\Zae x y c<18446744073709551616:=by unfold Zae; omega
theorem Zt5 {q:LI} (hq:W64 q) {i:Nat} {z:Int} (hz:0<=z/\z<18446744073709551616) {L:Nat} (hL:i+q.length<=L) (hb:L<1000000) (m:Nat) : ∀ (n:Nat) (j:Nat) (l:LI) (c:Int),j+m=q.length->l.length=L->W64 l->(0<=c/\c<18446744073709551616) ->
    ∃ l' c',(∀ k,Z2g q (i:Int) z k (n+1+m) l c (j:Int)=k l' c')/\l'.length=L/\W64 l'/\(0<=c'/\c'<18446744073709551616):=by
  induction m with
  | zero =>
    intro n j l c hj hl hw hc
    refine ⟨l,c,fun k=>?_,hl,hw,hc⟩
    rw [Nat.add_zero,Z2g,Z4r,Z08 (by simp; omega)]
  | succ m ih =>
    intro n j l c hj hl hw hc
    have hqj:=hq j
    have hmul:=Zoy hz hqj
    have hlj:=hw (i+j)
    have hp:0<=z*q.getD j 0:=Int.mul_nonneg hz.1 hqj.1
    have e1:wrap .i64 ((i:Int)+(j:Int))=((i+j:Nat):Int):=by rw [Zj (by omega) (by omega)]; omega
    have e2:wrap .i64 ((j:Int)+1)=((j+1:Nat):Int):=by rw [Zj (by omega) (by omega)]; rfl
    have hj':j<q.length:=by omega
    have hbr:decide ((j:Int)<(q.length:Int))=true:=by simp; omega
    have hlo:0<=z*q.getD j 0%18446744073709551616:=by omega
    obtain ⟨l',c',e,h1,h2,h3⟩:=ih n (j+1) (Zdu 0 l (i+j) (Zae (Zae (z*q.getD j 0%18446744073709551616) (l.getD (i+j) 0) 0) c 0)) (wrap .u64 (wrap .u64 (z*q.getD j 0 / 18446744073709551616+Zev (z*q.getD j 0%18446744073709551616) (l.getD (i+j) 0) 0)+Zev (Zae (z*q.getD j 0%18446744073709551616) (l.getD (i+j) 0) 0) c 0)) (by omega) (by rw [Za5 (by omega),List.length_set,hl]) (Zkq hw (Zhs _ _ _)) (Zt8 _)
    refine ⟨l',c',fun k=>?_,h1,h2,h3⟩
    rw [<- Nat.add_assoc,Z2g,Z4r,Z0g hbr,Zo (Z0i (by omega) (by omega)),Zb]
    simp only [Int.toNat_natCast]
    rw [Z3 hmul,Zb,e1,Zo (Z0i (by omega) (by omega)),Zb]
    simp only [Int.toNat_natCast]
    rw [Zo (Zks hlo hlj.1),Zb,Zb,Zb,Zo (Zks (Zhs _ _ _).1 hc.1),Zb,Zb,Zb,Zb,Zo (Z0i (by omega) (by omega)),Zb,Zb,e2]
    exact e k
theorem Zt6 {p q:LI} (hp:W64 p) (hq:W64 q) {L:Nat} (hL:p.length+q.length=L) (hb:L<1000000) (m:Nat) : ∀ (n:Nat) (i:Nat) (l:LI),i+m=p.length->l.length=L->W64 l ->
    ∃ l',Z2f p q some (n+1+m) l (i:Int)=some l'/\l'.length=L/\W64 l':=by
  induction m with
  | zero =>
    intro n i l hi hl hw
    refine ⟨l,?_,hl,hw⟩
    rw [Nat.add_zero,Z2f,Z4q,Z08 (by simp; omega)]
  | succ m ih =>
    intro n i l hi hl hw
    have hbr:decide ((i:Int)<(p.length:Int))=true:=by simp; omega
    obtain ⟨n',hn⟩ : ∃ n',big=n'+1+q.length:=⟨18446744073709551615-q.length,by have:big=18446744073709551616:=Z1t; omega⟩
    obtain ⟨l',c',e,hl',hw',hc'⟩:=Zt5 hq (i:=i) (hp i) (L:=L) (by omega) hb q.length n' 0 l 0 (by omega) hl hw (by decide)
    have e1:wrap .i64 ((i:Int)+(q.length:Int))=((i+q.length:Nat):Int):=by rw [Zj (by omega) (by omega)]; omega
    have e2:wrap .i64 ((i:Int)+1)=((i+1:Nat):Int):=by rw [Zj (by omega) (by omega)]; rfl
    obtain ⟨l2,e3,hl2,hw2⟩:=ih n (i+1) (Zdu 0 l' (i+q.length) c') (by omega) (by rw [Za5 (by omega),List.length_set,hl']) (Zkq hw' hc')
    refine ⟨l2,?_,hl2,hw2⟩
    rw [<- Nat.add_assoc,Z2f,Z4q,Z0g hbr,Zo (Z0i (by omega) (by omega)),Zb,Z13]
    simp only [Int.toNat_natCast]
    rw [hn]
    refine (e _).trans ?_
    simp only [Zb,e1,e2]
    rw [Zo (Z0i (by omega) (by omega))]
    exact e3
theorem Z003 {p q:LI} (hp:W64 p) (hq:W64 q) (hb:p.length+q.length<1000000) : ∃ r,Z7c p q=some r/\r.length=p.length+q.length/\W64 r:=by
  have e1:wrap .i64 ((p.length:Int)+(q.length:Int))=((p.length+q.length:Nat):Int):=by rw [Zj (by omega) (by omega)]; omega
  obtain ⟨n,hn⟩ : ∃ n',big=n'+1+p.length:=⟨18446744073709551615-p.length,by have:big=18446744073709551616:=Z1t; omega⟩
  obtain ⟨r,e,h1,h2⟩:=Zt6 hp hq (L:=p.length+q.length) rfl hb p.length n 0 (replicate (p.length+q.length) 0) (by omega) (by simp) (Z51 _)
  refine ⟨r,?_,h1,h2⟩
  rw [Z7c,Zb,e1,Zo (by unfold mkB; simp; omega),Z13,Int.toNat_natCast,hn]
  exact e
theorem Zrg {x:Int} (h:0<=x/\x<18446744073709551616):0<=Zq .u64 x 60/\Zq .u64 x 60<18446744073709551616:=by
  have:=Z9p .u64 (x:=x) (n:=60) (by decide)
  rw [show ((60:Nat):Int)=60 from rfl] at this
  rw [this]
  have:((2^60:Nat):Int)=1152921504606846976:=by decide
  rw [this]; omega
theorem Zoa {l r:LI} (h:W64 l) (hr:W64 r):W64 (l++r):=by
  intro i
  by_cases hi:i<l.length
  · have:(l++r).getD i 0=l.getD i 0:=by simp [List.getD_eq_getElem?_getD,List.getElem?_append_left hi]
    rw [this]; exact h i
  · have:(l++r).getD i 0=r.getD (i-l.length) 0:=by simp [List.getD_eq_getElem?_getD,List.getElem?_append_right (Nat.le_of_not_lt hi)]
    rw [this]; exact hr _
theorem Zob {z:Int} (h:0<=z/\z<18446744073709551616):W64 [z]:=Zkc (by simpa using h)
theorem Zw7 {p:LI} (hp:W64 p) (hb:p.length<1000000) {k:LI->Option (LI×LI)} (m:Nat) : ∀ (n i:Nat) (l:LI),i+m=p.length->l.length<=i->W64 l ->
    ∃ l',Z1i p k (n+1+m) l (i:Int)=k l'/\l'.length=l.length+m/\W64 l':=by
  induction m with
  | zero =>
    intro n i l hi hl hw
    refine ⟨l,?_,rfl,hw⟩
    rw [Nat.add_zero,Z1i,Z2q,Z08 (by simp; omega)]
  | succ m ih =>
    intro n i l hi hl hw
    have hbr:decide ((i:Int)<(p.length:Int))=true:=by simp; omega
    have e2:wrap .i64 ((i:Int)+1)=((i+1:Nat):Int):=by rw [Zj (by omega) (by omega)]; rfl
    have hs:=Zrg (hp i)
    by_cases h:i+1<p.length
    · obtain ⟨l',e,h1,h2⟩:=ih n (i+1) (l ++ [Z4 .or .u64 (Zq .u64 (p.getD i 0) 60) (Zl .u64 (p.getD (i+1) 0) 4)]) (by omega) (by simp; omega) (Zoa hw (Zob (Znn _ _)))
      refine ⟨l',?_,by rw [h1]; simp; omega,h2⟩
      rw [<- Nat.add_assoc,Z1i,Z2q,Z0g hbr,Zo (Z0i (by omega) (by omega))]
      simp only [Zb,e2,Z13,Int.toNat_natCast]
      rw [Z0g (by simp; omega),Zo (Z0i (by omega) (by omega))]
      rw [Zo (by simp; omega)]
      exact e
    · obtain ⟨l',e,h1,h2⟩:=ih n (i+1) (l ++ [Zq .u64 (p.getD i 0) 60]) (by omega) (by simp; omega) (Zoa hw (Zob hs))
      refine ⟨l',?_,by rw [h1]; simp; omega,h2⟩
      rw [<- Nat.add_assoc,Z1i,Z2q,Z0g hbr,Zo (Z0i (by omega) (by omega))]
      simp only [Zb,e2,Z13,Int.toNat_natCast]
      rw [Z08 (by simp; omega)]
      rw [Zo (by simp; omega)]
      exact e
theorem Zzt {p:LI} (hp:W64 p) (h4:4<=p.length) (hb:p.length<1000000) : ∃ a h,Z62 p=some (a,h)/\W64 a/\W64 h/\h.length=p.length-3:=by
  obtain ⟨n,hn⟩ : ∃ n',big=n'+1+(p.length-3):=⟨18446744073709551615-(p.length-3),by have:big=18446744073709551616:=Z1t; omega⟩
  have hw0:W64 (wr (replicate 4 0) 0 (p.take 4)):=by
    intro i
    rw [Zmp]
    split
    · rename_i h
      have:(p.take 4).getD (i-0) 0=p.getD i 0:=by
        simp only [List.length_take] at h
        have h4':i<4:=by omega
        simp [List.getD_eq_getElem?_getD,List.getElem?_take,h4']
      rw [this]; exact hp i
    · exact Z51 4 i
  obtain ⟨l',e,h1,h2⟩:=Zw7 hp hb (k:=fun l128=>some (Z2u (wr (replicate 4 0) 0 (p.take 4)) 3 (Z4 .and .u64 ((wr (replicate 4 0) 0 (p.take 4)).getD 3 0) 1152921504606846975),l128)) (p.length-3) n 3 [] (by omega) (by simp) (Z51 0)
  refine ⟨Z2u (wr (replicate 4 0) 0 (p.take 4)) 3 (Z4 .and .u64 ((wr (replicate 4 0) 0 (p.take 4)).getD 3 0) 1152921504606846975),l',?_,Zbi hw0 (Zrz _ _),h2,by simpa using h1⟩
  simp only [Z62,Zb,Z13]
  rw [hn]
  exact e
theorem Ztf:W64 [6346243789798364141,1503914060200516822]:=Zkc (by decide)
theorem Zcd {l:LI} (n:Nat) {i:Nat} {a:List (LI)} {k:List (LI)->Option (LI)} (hi:i<4) (hl:W64 l) (h4:4<=l.length) (hb:l.length<1000) (ha : ∀ i,W64 (a.getD i (replicate 4 0))) :
    ∃ l' a',Z1g k (n+1) l (i:Int) a=Z1g k n l' ((i+1:Nat):Int) a'/\W64 l'/\l'.length=l.length-1/\(∀ i,W64 (a'.getD i (replicate 4 0))):=by
  obtain ⟨lo,h,e,w1,w2,w3⟩:=Zzt hl h4 (by omega)
  obtain ⟨s,c,e2,ws,_,_⟩:=Zj8 (ha (i%2)) w1
  obtain ⟨t,e3,l3,wt⟩:=Z003 w2 Ztf (by simp; omega)
  have em:Int.tmod (i:Int) 2=((i%2:Nat):Int):=by rw [Int.tmod_eq_emod_of_nonneg (by omega)]; omega
  have e1:wrap .i64 ((i:Int)+1)=((i+1:Nat):Int):=by rw [Zj (by omega) (by omega)]; rfl
  refine ⟨t,Zdu (replicate 4 0) a (i%2) s,?_,wt,by rw [l3,w3]; simp; omega,?_⟩
  · rw [Z1g,Z4b,Z0g (by simp; omega),Z3 e]
    simp only [Zb,em,e1,Int.toNat_natCast]
    rw [Zo (Z0i (by omega) (by omega)),Z3 e2,Zo (Z0i (by omega) (by omega)),Zc1,Z3 rfl,Z3 e3]
  · intro j
    rw [Z4o]
    split
    · exact ws
    · exact ha j
theorem Zvr {p:LI} (hp:W64 p) (h8:p.length=8) : ∃ r,Z6a p=some r/\W64 r/\0<=V4 r/\V4 r<VL:=by
  obtain ⟨n,hn⟩ : ∃ n,big=n+1+1+1+1+1:=⟨18446744073709551611,Z1t⟩
  rw [Z6a,Z13,hn]
  have ha0 : ∀ i,W64 ((replicate 2 (replicate 4 0):List (LI)).getD i (replicate 4 0)):=by
    intro i
    have:(replicate 2 (replicate 4 0):List (LI)).getD i (replicate 4 0)=replicate 4 0:=by
      match i with
      | 0=>rfl
      | 1=>rfl
      | i+2=>rfl
    rw [this]; exact Z51 4
  obtain ⟨l1,a1,f1,w1,n1,h1⟩:=Zcd (n+1+1+1+1) (i:=0) (k:=fun (a121:List (LI))=>opt (Z69 G_order G_order) fun y239 =>
 bnd (a121.getD 0 (replicate 4 0)) fun x242 =>
 opt (Z69 x242 y239.1) fun y243 =>
 bnd (a121.getD 1 (replicate 4 0)) fun x246 =>
 opt (Z61 y243.1 x246) fun y247 =>
 opt (Z8w y247.1) fun y249 =>
 some y249) (by decide) hp (by omega) (by omega) ha0
  obtain ⟨l2,a2,f2,w2,n2,h2⟩:=Zcd (n+1+1+1) (i:=1) (k:=_) (by decide) w1 (by omega) (by omega) h1
  obtain ⟨l3,a3,f3,w3,n3,h3⟩:=Zcd (n+1+1) (i:=2) (k:=_) (by decide) w2 (by omega) (by omega) h2
  obtain ⟨l4,a4,f4,w4,n4,h4⟩:=Zcd (n+1) (i:=3) (k:=_) (by decide) w3 (by omega) (by omega) h3
  obtain ⟨g1,c1,q1,v1,_,_⟩:=Zj8 Zbh Zbh
  obtain ⟨g2,c2,q2,v2,_,_⟩:=Zj8 (h4 0) v1
  obtain ⟨g3,c3,q3,v3,_,_⟩:=Zi1 v2 (h4 1)
  obtain ⟨r,q4,v4,v5⟩:=Zti v3
  refine ⟨r,?_,v4,(Zee v4).1,by rw [v5]; exact Int.emod_lt_of_pos _ (by decide)⟩
  refine f1.trans (f2.trans (f3.trans (f4.trans ?_)))
  rw [Z1g,Z4b,Z08 (by decide),Z3 q1,Zb,Z3 q2,Zb,Z3 q3,Z3 q4]
theorem tk8 (a b c d e f g h:Int):tk [a,b,c,d,e,f,g,h] 0 8 = [a,b,c,d,e,f,g,h]:=rfl
theorem Zv4 (p:LI) : ∃ r,Z4g p=some r/\Byt r/\r.length=32:=by
  rw [Z4g,Z13,Zn6]
  obtain ⟨r,e,w,_⟩:=Zvr (p:=[Z4 .or .u64 (Z4 .or .u64 (Z4 .or .u64 (Z4 .or .u64 (Z4 .or .u64 (Z4 .or .u64 (Z4 .or .u64 (Z4 .or .u64 (0) (Zl .u64 (wrap .u64 (p.getD 0 0)) 0)) (Zl .u64 (wrap .u64 (p.getD 1 0)) 8)) (Zl .u64 (wrap .u64 (p.getD 2 0)) 16)) (Zl .u64 (wrap .u64 (p.getD 3 0)) 24)) (Zl .u64 (wrap .u64 (p.getD 4 0)) 32)) (Zl .u64 (wrap .u64 (p.getD 5 0)) 40)) (Zl .u64 (wrap .u64 (p.getD 6 0)) 48)) (Zl .u64 (wrap .u64 (p.getD 7 0)) 56),Z4 .or .u64 (Z4 .or .u64 (Z4 .or .u64 (Z4 .or .u64 (Z4 .or .u64 (Z4 .or .u64 (Z4 .or .u64 (Z4 .or .u64 (0) (Zl .u64 (wrap .u64 (p.getD 8 0)) 0)) (Zl .u64 (wrap .u64 (p.getD 9 0)) 8)) (Zl .u64 (wrap .u64 (p.getD 10 0)) 16)) (Zl .u64 (wrap .u64 (p.getD 11 0)) 24)) (Zl .u64 (wrap .u64 (p.getD 12 0)) 32)) (Zl .u64 (wrap .u64 (p.getD 13 0)) 40)) (Zl .u64 (wrap .u64 (p.getD 14 0)) 48)) (Zl .u64 (wrap .u64 (p.getD 15 0)) 56),Z4 .or .u64 (Z4 .or .u64 (Z4 .or .u64 (Z4 .or .u64 (Z4 .or .u64 (Z4 .or .u64 (Z4 .or .u64 (Z4 .or .u64 (0) (Zl .u64 (wrap .u64 (p.getD 16 0)) 0)) (Zl .u64 (wrap .u64 (p.getD 17 0)) 8)) (Zl .u64 (wrap .u64 (p.getD 18 0)) 16)) (Zl .u64 (wrap .u64 (p.getD 19 0)) 24)) (Zl .u64 (wrap .u64 (p.getD 20 0)) 32)) (Zl .u64 (wrap .u64 (p.getD 21 0)) 40)) (Zl .u64 (wrap .u64 (p.getD 22 0)) 48)) (Zl .u64 (wrap .u64 (p.getD 23 0)) 56),Z4 .or .u64 (Z4 .or .u64 (Z4 .or .u64 (Z4 .or .u64 (Z4 .or .u64 (Z4 .or .u64 (Z4 .or .u64 (Z4 .or .u64 (0) (Zl .u64 (wrap .u64 (p.getD 24 0)) 0)) (Zl .u64 (wrap .u64 (p.getD 25 0)) 8)) (Zl .u64 (wrap .u64 (p.getD 26 0)) 16)) (Zl .u64 (wrap .u64 (p.getD 27 0)) 24)) (Zl .u64 (wrap .u64 (p.getD 28 0)) 32)) (Zl .u64 (wrap .u64 (p.getD 29 0)) 40)) (Zl .u64 (wrap .u64 (p.getD 30 0)) 48)) (Zl .u64 (wrap .u64 (p.getD 31 0)) 56),Z4 .or .u64 (Z4 .or .u64 (Z4 .or .u64 (Z4 .or .u64 (Z4 .or .u64 (Z4 .or .u64 (Z4 .or .u64 (Z4 .or .u64 (0) (Zl .u64 (wrap .u64 (p.getD 32 0)) 0)) (Zl .u64 (wrap .u64 (p.getD 33 0)) 8)) (Zl .u64 (wrap .u64 (p.getD 34 0)) 16)) (Zl .u64 (wrap .u64 (p.getD 35 0)) 24)) (Zl .u64 (wrap .u64 (p.getD 36 0)) 32)) (Zl .u64 (wrap .u64 (p.getD 37 0)) 40)) (Zl .u64 (wrap .u64 (p.getD 38 0)) 48)) (Zl .u64 (wrap .u64 (p.getD 39 0)) 56),Z4 .or .u64 (Z4 .or .u64 (Z4 .or .u64 (Z4 .or .u64 (Z4 .or .u64 (Z4 .or .u64 (Z4 .or .u64 (Z4 .or .u64 (0) (Zl .u64 (wrap .u64 (p.getD 40 0)) 0)) (Zl .u64 (wrap .u64 (p.getD 41 0)) 8)) (Zl .u64 (wrap .u64 (p.getD 42 0)) 16)) (Zl .u64 (wrap .u64 (p.getD 43 0)) 24)) (Zl .u64 (wrap .u64 (p.getD 44 0)) 32)) (Zl .u64 (wrap .u64 (p.getD 45 0)) 40)) (Zl .u64 (wrap .u64 (p.getD 46 0)) 48)) (Zl .u64 (wrap .u64 (p.getD 47 0)) 56),Z4 .or .u64 (Z4 .or .u64 (Z4 .or .u64 (Z4 .or .u64 (Z4 .or .u64 (Z4 .or .u64 (Z4 .or .u64 (Z4 .or .u64 (0) (Zl .u64 (wrap .u64 (p.getD 48 0)) 0)) (Zl .u64 (wrap .u64 (p.getD 49 0)) 8)) (Zl .u64 (wrap .u64 (p.getD 50 0)) 16)) (Zl .u64 (wrap .u64 (p.getD 51 0)) 24)) (Zl .u64 (wrap .u64 (p.getD 52 0)) 32)) (Zl .u64 (wrap .u64 (p.getD 53 0)) 40)) (Zl .u64 (wrap .u64 (p.getD 54 0)) 48)) (Zl .u64 (wrap .u64 (p.getD 55 0)) 56),Z4 .or .u64 (Z4 .or .u64 (Z4 .or .u64 (Z4 .or .u64 (Z4 .or .u64 (Z4 .or .u64 (Z4 .or .u64 (Z4 .or .u64 (0) (Zl .u64 (wrap .u64 (p.getD 56 0)) 0)) (Zl .u64 (wrap .u64 (p.getD 57 0)) 8)) (Zl .u64 (wrap .u64 (p.getD 58 0)) 16)) (Zl .u64 (wrap .u64 (p.getD 59 0)) 24)) (Zl .u64 (wrap .u64 (p.getD 60 0)) 32)) (Zl .u64 (wrap .u64 (p.getD 61 0)) 40)) (Zl .u64 (wrap .u64 (p.getD 62 0)) 48)) (Zl .u64 (wrap .u64 (p.getD 63 0)) 56)]) (Zkc (by
    repeat' (first | exact Znn _ _ | exact List.forall_mem_nil _ | refine List.forall_mem_cons.2 ⟨?_,?_⟩))) rfl
  obtain ⟨s,e2,b⟩:=Zzx r
  refine ⟨s,?_,b⟩
  rw [tk8,Z3 e,Z3 e2]
end Go.Proofs.YtiflckckekjbnaaGreatDoor
namespace Go.Proofs.YtiflckckekjbnaaGreatDoor
open Go Go.Sx Go.RowKit
open Go.IntKind (wrap)
set_option linter.all false
set_option maxRecDepth 100000
def pV (l:LI):Nat->Int
 | 0=>0
 | n+1=>pV l n+l.getD n 0*(18446744073709551616:Int)^n
theorem Z9w (l:LI) (n:Nat):pV l (n+1)=pV l n+l.getD n 0*(18446744073709551616:Int)^n:=rfl
theorem Zqj (l:LI) (i:Nat) (v:Int) : ∀ n,n<=i->pV (Zdu 0 l i v) n=pV l n
 | 0,_=>rfl
 | n+1,h=>by rw [Z9w,Z9w,Zqj l i v n (by omega),Z4o,if_neg (by omega)]
theorem Zyf (l:LI) (i:Nat) (v:Int) : ∀ n,i<n->pV (Zdu 0 l i v) n=pV l n+(v-l.getD i 0)*(18446744073709551616:Int)^i
 | 0,h=>by omega
 | n+1,h=>by
  rw [Z9w,Z9w,Z4o]
  by_cases hi:n=i
  ·subst hi
   rw [if_pos rfl,Zqj l n v n (Nat.le_refl _),Int.sub_mul]
   omega
  ·rw [if_neg hi,Zyf l i v n (by omega)]
   omega
theorem Zyg {l:LI} {m:Nat} (h : ∀ t,m<=t->l.getD t 0=0) : ∀ n,m<=n->pV l n=pV l m
 | 0,hn=>by rw [show m=0 by omega]
 | n+1,hn=>by
  by_cases e:m=n+1
  ·rw [e]
  ·rw [Z9w,h n (by omega),Zyg h n (by omega)]; omega
theorem Zqi (n m:Nat):pV (List.replicate m 0) n=0:=by
 induction n with
 | zero=>rfl
 | succ n ih =>
  have:(List.replicate m (0:Int)).getD n 0=0:=by
   simp only [List.getD]
   cases hi:(List.replicate m (0:Int))[n]? with
   | none=>rfl
   | some v=>simpa using (List.mem_replicate.1 (List.mem_of_getElem? hi)).2
  rw [Z9w,ih,this]; omega
theorem Zyk (n:Nat):0<(18446744073709551616:Int)^n:=Int.pow_pos (by decide)
theorem Z042 {l:LI} (h:W64 l) : ∀ n,0<=pV l n/\pV l n<(18446744073709551616:Int)^n
 | 0=>by show (0:Int)<=0/\(0:Int)<1; omega
 | n+1=>by
  have ih:=Z042 h n
  have h1:=h n
  have hp:=Zyk n
  rw [Z9w,Int.pow_succ]
  generalize (18446744073709551616:Int)^n=w at *
  generalize l.getD n 0=x at *
  generalize pV l n=v at *
  have a:0<=x*w:=Int.mul_nonneg h1.1 (by omega)
  have b:x*w<=18446744073709551615*w:=Int.mul_le_mul_of_nonneg_right (by omega) (by omega)
  omega
theorem Zx2 {z q o c:Int} (hz:0<=z/\z<18446744073709551616) (hq:0<=q/\q<18446744073709551616) (ho:0<=o/\o<18446744073709551616) (hc:0<=c/\c<18446744073709551616) :
  ∃ n,wrap .u64 (wrap .u64 (z*q / 18446744073709551616+Zev (z*q%18446744073709551616) o 0)+Zev (Zae (z*q%18446744073709551616) o 0) c 0)=n/\0<=n/\n<18446744073709551616/\Zae (Zae (z*q%18446744073709551616) o 0) c 0+n*18446744073709551616=z*q+o+c:=by
 have h0:0<=z*q:=Int.mul_nonneg hz.1 hq.1
 have h1:z*q<=18446744073709551615*18446744073709551615:=Int.mul_le_mul (by omega) (by omega) hq.1 (by omega)
 generalize z*q=p at *
 refine ⟨_,rfl,?_⟩
 unfold Zae Zev
 have e1:wrap .u64 (p / 18446744073709551616+(p%18446744073709551616+o+0) / 18446744073709551616)=p / 18446744073709551616+(p%18446744073709551616+o+0) / 18446744073709551616:=Zd (by omega) (by omega)
 rw [e1]
 rw [Zd (by omega) (by omega)]
 omega
theorem Zrm {q:LI} (hq:W64 q) {i:Nat} {z:Int} (hz:0<=z/\z<18446744073709551616) {L:Nat} (hL:i+q.length<=L) (hb:L<1000000) (m:Nat) : ∀ (n:Nat) (j:Nat) (l:LI) (c:Int),j+m=q.length->l.length=L->W64 l->(0<=c/\c<18446744073709551616) ->
  ∃ l' c',(∀ k,Z2g q (i:Int) z k (n+1+m) l c (j:Int)=k l' c')/\l'.length=L/\W64 l'/\(0<=c'/\c'<18446744073709551616) /\
   pV l' L+c'*(18446744073709551616:Int)^(i+q.length)+z*pV q j*(18446744073709551616:Int)^i=pV l L+c*(18446744073709551616:Int)^(i+j)+z*pV q q.length*(18446744073709551616:Int)^i/\(∀ t,i+q.length<=t->l'.getD t 0=l.getD t 0):=by
 induction m with
 | zero =>
  intro n j l c hj hl hw hc
  refine ⟨l,c,fun k=>?_,hl,hw,hc,?_,fun _ _=>rfl⟩
  ·rw [Nat.add_zero,Z2g,Z4r,Z08 (by simp; omega)]
  ·rw [show j=q.length by omega]
 | succ m ih =>
  intro n j l c hj hl hw hc
  have hqj:=hq j
  have hmul:=Zoy hz hqj
  have hlj:=hw (i+j)
  have hp:0<=z*q.getD j 0:=Int.mul_nonneg hz.1 hqj.1
  have e1:wrap .i64 ((i:Int)+(j:Int))=((i+j:Nat):Int):=by rw [Zj (by omega) (by omega)]; omega
  have e2:wrap .i64 ((j:Int)+1)=((j+1:Nat):Int):=by rw [Zj (by omega) (by omega)]; rfl
  have hj':j<q.length:=by omega
  have hbr:decide ((j:Int)<(q.length:Int))=true:=by simp; omega
  have hlo:0<=z*q.getD j 0%18446744073709551616:=by omega
  obtain ⟨c1,ec,c1a,c1b,ev⟩:=Zx2 hz hqj hlj hc
  obtain ⟨l',c',e,h1,h2,h3,h4,h5⟩:=ih n (j+1) (Zdu 0 l (i+j) (Zae (Zae (z*q.getD j 0%18446744073709551616) (l.getD (i+j) 0) 0) c 0)) c1 (by omega) (by rw [Za5 (by omega),List.length_set,hl]) (Zkq hw (Zhs _ _ _)) ⟨c1a,c1b⟩
  refine ⟨l',c',fun k=>?_,h1,h2,h3,?_,?_⟩
  ·rw [<- Nat.add_assoc,Z2g,Z4r,Z0g hbr,Zo (Z0i (by omega) (by omega)),Zb]
   simp only [Int.toNat_natCast]
   rw [Z3 hmul,Zb,e1,Zo (Z0i (by omega) (by omega)),Zb]
   simp only [Int.toNat_natCast]
   rw [Zo (Zks hlo hlj.1),Zb,Zb,Zb,Zo (Zks (Zhs _ _ _).1 hc.1),Zb,Zb,Zb,Zb,Zo (Z0i (by omega) (by omega)),Zb,Zb,e2,ec]
   exact e k
  ·rw [Zyf _ _ _ _ (by omega),Z9w,<- Nat.add_assoc,Int.pow_succ,Int.pow_add 18446744073709551616 i j] at h4
   rw [Int.pow_add 18446744073709551616 i j]
   generalize (18446744073709551616:Int)^(i+q.length)=w1 at *
   generalize (18446744073709551616:Int)^i=w2 at *
   generalize (18446744073709551616:Int)^j=w3 at *
   generalize Zae (Zae (z*q.getD j 0%18446744073709551616) (l.getD (i+j) 0) 0) c 0=lo at *
   generalize q.getD j 0=qj at *
   generalize l.getD (i+j) 0=o at *
   generalize pV l' L=a1 at *
   generalize pV l L=a2 at *
   generalize pV q j=a3 at *
   generalize pV q q.length=a4 at *
   clear e ec ih
   grind -lia -linarith (splits:=0)
  ·intro t ht
   rw [h5 t ht,Z4o,if_neg (by omega)]
theorem Zrn {p q:LI} (hp:W64 p) (hq:W64 q) {L:Nat} (hL:p.length+q.length=L) (hb:L<1000000) (m:Nat) : ∀ (n:Nat) (i:Nat) (l:LI),i+m=p.length->l.length=L->W64 l->(∀ t,i+q.length<=t->l.getD t 0=0)->pV l L=pV p i*pV q q.length ->
  ∃ l',Z2f p q some (n+1+m) l (i:Int)=some l'/\l'.length=L/\W64 l'/\pV l' L=pV p p.length*pV q q.length:=by
 induction m with
 | zero =>
  intro n i l hi hl hw hz hv
  refine ⟨l,?_,hl,hw,by rw [hv,show i=p.length by omega]⟩
  rw [Nat.add_zero,Z2f,Z4q,Z08 (by simp; omega)]
 | succ m ih =>
  intro n i l hi hl hw hz hv
  have hbr:decide ((i:Int)<(p.length:Int))=true:=by simp; omega
  obtain ⟨n',hn⟩ : ∃ n',big=n'+1+q.length:=⟨18446744073709551615-q.length,by have:big=18446744073709551616:=Z1t; omega⟩
  obtain ⟨l',c',e,hl',hw',hc',v',z'⟩:=Zrm hq (i:=i) (hp i) (L:=L) (by omega) hb q.length n' 0 l 0 (by omega) hl hw (by decide)
  have e1:wrap .i64 ((i:Int)+(q.length:Int))=((i+q.length:Nat):Int):=by rw [Zj (by omega) (by omega)]; omega
  have e2:wrap .i64 ((i:Int)+1)=((i+1:Nat):Int):=by rw [Zj (by omega) (by omega)]; rfl
  have hz0:l'.getD (i+q.length) 0=0:=by rw [z' _ (Nat.le_refl _),hz _ (Nat.le_refl _)]
  obtain ⟨l2,e3,hl2,hw2,v2⟩:=ih n (i+1) (Zdu 0 l' (i+q.length) c') (by omega) (by rw [Za5 (by omega),List.length_set,hl']) (Zkq hw' hc') (by
   intro t ht
   rw [Z4o,if_neg (by omega),z' t (by omega),hz t (by omega)]) (by
   rw [Zyf _ _ _ _ (by omega),hz0,Z9w]
   rw [hv] at v'
   have e0:pV q 0=0:=rfl
   rw [e0] at v'
   generalize (18446744073709551616:Int)^(i+q.length)=w1 at *
   generalize (18446744073709551616:Int)^i=w2 at *
   generalize pV l' L=a1 at *
   generalize pV q q.length=a4 at *
   generalize pV p i=a5 at *
   generalize p.getD i 0=a6 at *
   clear e ih
   grind -lia -linarith (splits:=0))
  refine ⟨l2,?_,hl2,hw2,v2⟩
  rw [<- Nat.add_assoc,Z2f,Z4q,Z0g hbr,Zo (Z0i (by omega) (by omega)),Zb,Z13]
  simp only [Int.toNat_natCast]
  rw [hn]
  refine (e _).trans ?_
  simp only [Zb,e1,e2]
  rw [Zo (Z0i (by omega) (by omega))]
  exact e3
theorem Z004 {p q:LI} (hp:W64 p) (hq:W64 q) (hb:p.length+q.length<1000000) : ∃ r,Z7c p q=some r/\r.length=p.length+q.length/\W64 r/\pV r r.length=pV p p.length*pV q q.length:=by
 have e1:wrap .i64 ((p.length:Int)+(q.length:Int))=((p.length+q.length:Nat):Int):=by rw [Zj (by omega) (by omega)]; omega
 obtain ⟨n,hn⟩ : ∃ n',big=n'+1+p.length:=⟨18446744073709551615-p.length,by have:big=18446744073709551616:=Z1t; omega⟩
 obtain ⟨r,e,h1,h2,h3⟩:=Zrn hp hq (L:=p.length+q.length) rfl hb p.length n 0 (List.replicate (p.length+q.length) 0) (by omega) (by simp) (Z51 _) (by
  intro t _
  simp only [List.getD]
  cases hi:(List.replicate (p.length+q.length) (0:Int))[t]? with
  | none=>rfl
  | some v=>simpa using (List.mem_replicate.1 (List.mem_of_getElem? hi)).2) (by
  rw [Zqi]
  show 0=0*_
  omega)
 refine ⟨r,?_,h1,h2,by rw [h1]; exact h3⟩
 rw [Z7c,Zb,e1,Zo (by unfold mkB; simp; omega),Z13,Int.toNat_natCast,hn]
 exact e
theorem Zuv (x:Int):Zq .u64 x 60=x / 1152921504606846976:=by
 have:=Z9p .u64 (x:=x) (n:=60) (by decide)
 simpa using this
theorem Z07x (x:Int):Zl .u64 x 4=(x*16)%18446744073709551616:=by
 have:=Zg0 .u64 (x:=x) (n:=4) (by decide); rw [Zed] at this; simpa using this
theorem Zxs {x y:Int} (hx:0<=x/\x<18446744073709551616) (hy:0<=y/\y<18446744073709551616):Z4 .or .u64 (Zq .u64 x 60) (Zl .u64 y 4)=x / 1152921504606846976+y%1152921504606846976*16:=by
 rw [Zuv,Z07x]
 have e:y*16%18446744073709551616=y%1152921504606846976*16:=by omega
 rw [e]
 exact Z14 4 (x:=y%1152921504606846976*16) (a:=y%1152921504606846976) rfl (by omega) (by omega) (by
  show _<(16:Int)
  omega) (by omega)
theorem Z0er (l:LI) (v:Int):pV (l ++ [v]) l.length=pV l l.length:=by
 have h : ∀ n,n<=l.length->pV (l ++ [v]) n=pV l n:=by
  intro n
  induction n with
  | zero=>intro _; rfl
  | succ n ih =>
   intro hn
   have:(l ++ [v]).getD n 0=l.getD n 0:=by simp [List.getD_eq_getElem?_getD,List.getElem?_append_left (show n<l.length by omega)]
   rw [Z9w,Z9w,ih (by omega),this]
 exact h _ (Nat.le_refl _)
theorem Z06l (l:LI) (v:Int):pV (l ++ [v]) (l ++ [v]).length=pV l l.length+v*(18446744073709551616:Int)^l.length:=by
 have e:(l ++ [v]).length=l.length+1:=by simp
 rw [e,Z9w,Z0er]
 have:(l ++ [v]).getD l.length 0=v:=by simp [List.getD_eq_getElem?_getD]
 rw [this]
theorem Zzs (x d r y w2 w3 b1 b2 b3:Int) {b4:Int} (hx:1152921504606846976*d+r=x)
  (h:b1+w3*1152921504606846976*(b2+(d+y*16)*w2)=b4+x*(w3*w2)+y*(w3*w2*18446744073709551616)+w3*1152921504606846976*b3) :
  b1+w3*1152921504606846976*b2=b4+r*(w3*w2)+w3*1152921504606846976*b3:=by grind -lia -linarith (splits:=0)
theorem Zt1 {p:LI} (hp:W64 p) (hb:p.length<1000000) {k:LI->Option (LI×LI)} (m:Nat) : ∀ (n i:Nat) (l:LI),3+i+m=p.length->l.length=i->W64 l ->
  ∃ l',Z1i p k (n+1+m) l ((3+i:Nat):Int)=k l'/\l'.length=i+m/\W64 l' /\
   pV p p.length+7237005577332262213973186563042994240829374041602535252466099000494570602496*pV l l.length=pV p (3+i)+p.getD (3+i) 0%1152921504606846976*(18446744073709551616:Int)^(3+i)+7237005577332262213973186563042994240829374041602535252466099000494570602496*pV l' l'.length:=by
 induction m with
 | zero =>
  intro n i l hi hl hw
  refine ⟨l,?_,by omega,hw,?_⟩
  ·rw [Nat.add_zero,Z1i,Z2q,Z08 (by simp; omega)]
  ·have e:p.getD (3+i) 0=0:=by simp [List.getD_eq_getElem?_getD,List.getElem?_eq_none (show p.length<=3+i by omega)]
   rw [e,show 3+i=p.length by omega]
   omega
 | succ m ih =>
  intro n i l hi hl hw
  have hbr:decide (((3+i:Nat):Int)<(p.length:Int))=true:=by simp; omega
  have e2:wrap .i64 (((3+i:Nat):Int)+1)=((3+(i+1):Nat):Int):=by rw [Zj (by omega) (by omega)]; omega
  have hs:=Zrg (hp (3+i))
  have e3:((3+(i+1):Nat):Int).toNat=3+i+1:=by omega
  have hw3:(18446744073709551616:Int)^3*1152921504606846976=7237005577332262213973186563042994240829374041602535252466099000494570602496:=by decide
  have fin : ∀ (w:Int) (l':LI),w=p.getD (3+i) 0 / 1152921504606846976+p.getD (3+i+1) 0%1152921504606846976*16 ->
    pV p p.length+7237005577332262213973186563042994240829374041602535252466099000494570602496*pV (l ++ [w]) (l ++ [w]).length=pV p (3+(i+1))+p.getD (3+(i+1)) 0%1152921504606846976*(18446744073709551616:Int)^(3+(i+1))+7237005577332262213973186563042994240829374041602535252466099000494570602496*pV l' l'.length ->
    pV p p.length+7237005577332262213973186563042994240829374041602535252466099000494570602496*pV l l.length=pV p (3+i)+p.getD (3+i) 0%1152921504606846976*(18446744073709551616:Int)^(3+i)+7237005577332262213973186563042994240829374041602535252466099000494570602496*pV l' l'.length:=by
   intro w l' hw' h
   rw [Z06l,hl,<- Nat.add_assoc,Z9w,Int.pow_succ,Int.pow_add 18446744073709551616 3 i,hw',<- hw3] at h
   rw [hl,Int.pow_add 18446744073709551616 3 i,<- hw3]
   exact Zzs _ _ _ _ _ _ _ _ _ (Int.mul_ediv_add_emod (p.getD (3+i) 0) 1152921504606846976) h
  by_cases h:3+i+1<p.length
  ·obtain ⟨l',e,h1,h2,h3⟩:=ih n (i+1) (l ++ [Z4 .or .u64 (Zq .u64 (p.getD (3+i) 0) 60) (Zl .u64 (p.getD (3+i+1) 0) 4)]) (by omega) (by simp; omega) (Zoa hw (Zob (Znn _ _)))
   refine ⟨l',?_,by omega,h2,fin _ _ (Zxs (hp _) (hp _)) h3⟩
   rw [<- Nat.add_assoc,Z1i,Z2q,Z0g hbr,Zo (Z0i (by omega) (by omega))]
   simp only [Zb,e2,Z13,Int.toNat_natCast,e3]
   rw [Z0g (by simp; omega),Zo (Z0i (by omega) (by omega))]
   rw [Zo (by simp; omega)]
   exact e
  ·obtain ⟨l',e,h1,h2,h3⟩:=ih n (i+1) (l ++ [Zq .u64 (p.getD (3+i) 0) 60]) (by omega) (by simp; omega) (Zoa hw (Zob hs))
   have e0:p.getD (3+i+1) 0=0:=by simp [List.getD_eq_getElem?_getD,List.getElem?_eq_none (show p.length<=3+i+1 by omega)]
   refine ⟨l',?_,by omega,h2,fin _ _ (by rw [e0,Zuv]; omega) h3⟩
   rw [<- Nat.add_assoc,Z1i,Z2q,Z0g hbr,Zo (Z0i (by omega) (by omega))]
   simp only [Zb,e2,Z13,Int.toNat_natCast]
   rw [Z08 (by simp; omega)]
   rw [Zo (by simp; omega)]
   exact e
end Go.Proofs.YtiflckckekjbnaaGreatDoor
namespace Go.Proofs.YtiflckckekjbnaaGreatDoor
open Go Go.Sx Go.RowKit
open List (replicate)
set_option linter.all false
set_option maxRecDepth 100000
theorem Ze0 {l:LI} {i:Nat} (h:l.length<=i):l.getD i 0=0:=by simp [List.getD_eq_getElem?_getD,List.getElem?_eq_none h]
theorem Zye {l:LI} {n:Nat} (h:l.length<=n):pV l n=pV l l.length:=Zyg (fun t ht=>Ze0 ht) n h
theorem Zzu {p:LI} (hp:W64 p) (hb:p.length<1000000) : ∃ a h,Z62 p=some (a,h)/\W64 a/\W64 h/\h.length=p.length-3 /\
  V4 a=pV p p.length%7237005577332262213973186563042994240829374041602535252466099000494570602496/\pV h h.length=pV p p.length / 7237005577332262213973186563042994240829374041602535252466099000494570602496:=by
 obtain ⟨n,hn⟩ : ∃ n',big=n'+1+(p.length-3):=⟨18446744073709551615-(p.length-3),by have:big=18446744073709551616:=Z1t; omega⟩
 have hw0g : ∀ i,(wr (replicate 4 0) 0 (p.take 4)).getD i 0=if i<4 then p.getD i 0 else 0:=by
  intro i
  rw [Zmp]
  have hr:(replicate 4 (0:Int)).getD i 0=0:=by
   match i with
   | 0=>rfl
   | 1=>rfl
   | 2=>rfl
   | 3=>rfl
   | i+4=>rfl
  by_cases h:0<=i/\i<0+(p.take 4).length
  ·rw [if_pos h]
   simp only [List.length_take] at h
   have h4':i<4:=by omega
   rw [if_pos h4']
   simp [List.getD_eq_getElem?_getD,List.getElem?_take,h4']
  ·rw [if_neg h,hr]
   simp only [List.length_take] at h
   split
   ·rw [Ze0 (by omega)]
   ·rfl
 have hw0:W64 (wr (replicate 4 0) 0 (p.take 4)):=by
  intro i
  rw [hw0g]
  split
  ·exact hp i
  ·decide
 have hmask:Z4 .and .u64 ((wr (replicate 4 0) 0 (p.take 4)).getD 3 0) 1152921504606846975=p.getD 3 0%1152921504606846976:=by
  rw [hw0g,if_pos (by decide)]
  exact Ziu 60 (by decide) (by decide) (hp 3).1 (hp 3).2
 have hlow:V4 (Z2u (wr (replicate 4 0) 0 (p.take 4)) 3 (Z4 .and .u64 ((wr (replicate 4 0) 0 (p.take 4)).getD 3 0) 1152921504606846975))=p.getD 0 0+p.getD 1 0*18446744073709551616+p.getD 2 0*340282366920938463463374607431768211456+(p.getD 3 0%1152921504606846976)*6277101735386680763835789423207666416102355444464034512896:=by
  unfold V4
  rw [hmask]
  simp only [Z1h,hw0g]
  simp
 have h3:pV p 3=p.getD 0 0+p.getD 1 0*18446744073709551616+p.getD 2 0*340282366920938463463374607431768211456:=by
  simp only [pV]
  omega
 have hr0:=hp 0
 have hr1:=hp 1
 have hr2:=hp 2
 have hr3:=hp 3
 by_cases hlen:3<=p.length
 ·obtain ⟨l',e,h1,h2,h4⟩:=Zt1 hp hb (k:=fun l128=>some (Z2u (wr (replicate 4 0) 0 (p.take 4)) 3 (Z4 .and .u64 ((wr (replicate 4 0) 0 (p.take 4)).getD 3 0) 1152921504606846975),l128)) (p.length-3) n 0 [] (by omega) rfl (Z51 0)
  refine ⟨(Z2u (wr (replicate 4 0) 0 (p.take 4)) 3 (Z4 .and .u64 ((wr (replicate 4 0) 0 (p.take 4)).getD 3 0) 1152921504606846975)),l',?_,Zbi hw0 (Zrz _ _),h2,by omega,?_⟩
  ·simp only [Z62,Zb,Z13]
   rw [hn]
   exact e
  ·rw [hlow]
   rw [Nat.add_zero,h3] at h4
   have e0:pV ([]:LI) ([]:LI).length=0:=rfl
   have e3:(18446744073709551616:Int)^3=6277101735386680763835789423207666416102355444464034512896:=by decide
   rw [e0,e3] at h4
   generalize pV p p.length=X at *
   generalize pV l' l'.length=Y at *
   omega
 ·have e3:p.getD 3 0=0:=Ze0 (by omega)
  have hx:pV p p.length=pV p 3:=(Zye (by omega)).symm
  refine ⟨(Z2u (wr (replicate 4 0) 0 (p.take 4)) 3 (Z4 .and .u64 ((wr (replicate 4 0) 0 (p.take 4)).getD 3 0) 1152921504606846975)),[],?_,Zbi hw0 (Zrz _ _),Z51 0,by simp; omega,?_⟩
  ·simp only [Z62,Zb,Z13]
   rw [hn,show p.length-3=0 by omega,Nat.add_zero,Z1i,Z2q,Z08 (by simp; omega)]
  ·rw [hlow,hx,h3,e3]
   have e0:pV ([]:LI) ([]:LI).length=0:=rfl
   rw [e0]
   omega
theorem Zb9 {l:LI} (n:Nat) {i:Nat} {a:List (LI)} (hi:i<4) (hl:W64 l) (hb:l.length<1000) (ha : ∀ i,W64 (a.getD i (replicate 4 0)))
  (hs:V4 (a.getD (i%2) (replicate 4 0))+pV l l.length%7237005577332262213973186563042994240829374041602535252466099000494570602496<B4) :
  ∃ l' a',(∀ k:List (LI)->Option (LI),Z1g k (n+1) l (i:Int) a=Z1g k n l' ((i+1:Nat):Int) a')/\W64 l'/\l'.length=l.length-3+2/\(∀ i,W64 (a'.getD i (replicate 4 0))) /\
   pV l' l'.length=pV l l.length / 7237005577332262213973186563042994240829374041602535252466099000494570602496*27742317777372353535851937790883648493 /\
   V4 (a'.getD (i%2) (replicate 4 0))=V4 (a.getD (i%2) (replicate 4 0))+pV l l.length%7237005577332262213973186563042994240829374041602535252466099000494570602496 /\
   (∀ j,j≠i%2->a'.getD j (replicate 4 0)=a.getD j (replicate 4 0)):=by
 obtain ⟨lo,h,e,w1,w2,w3,v1,v2⟩:=Zzu hl (by omega)
 obtain ⟨s,c,e2,ws,hc,vs⟩:=Zj8 (ha (i%2)) w1
 obtain ⟨t,e3,l3,wt,vt⟩:=Z004 w2 Ztf (by simp; omega)
 have em:Int.tmod (i:Int) 2=((i%2:Nat):Int):=by rw [Int.tmod_eq_emod_of_nonneg (by omega)]; omega
 have e1:IntKind.wrap .i64 ((i:Int)+1)=((i+1:Nat):Int):=by rw [Zj (by omega) (by omega)]; rfl
 refine ⟨t,Zdu (replicate 4 0) a (i%2) s,?_,wt,by rw [l3,w3]; rfl,?_,?_,?_,?_⟩
 ·intro k
  rw [Z1g,Z4b,Z0g (by simp; omega),Z3 e]
  simp only [Zb,em,e1,Int.toNat_natCast]
  rw [Zo (Z0i (by omega) (by omega)),Z3 e2,Zo (Z0i (by omega) (by omega)),Zc1,Z3 rfl,Z3 e3]
 ·intro j
  rw [Z4o]
  split
  ·exact ws
  ·exact ha j
 ·rw [vt,v2]; rfl
 ·rw [Z4o,if_pos rfl]
  have hr:=Zee ws
  have hr2:=Zee (ha (i%2))
  rw [<- v1] at hs ⊢
  have hc0:c=0:=by
   unfold B4 at *
   rcases hc with h | h
   ·exact h
   ·exfalso; subst h; omega
  rw [vs,hc0]; omega
 ·intro j hj
  rw [Z4o,if_neg hj]
theorem Zte:V4 (replicate 4 0)=0:=by decide
theorem Zvs {p:LI} (hp:W64 p) (h8:p.length<=8) : ∃ r,Z6a p=some r/\W64 r/\V4 r=pV p p.length%VL:=by
 obtain ⟨n,hn⟩ : ∃ n,big=n+1+1+1+1+1:=⟨18446744073709551611,Z1t⟩
 rw [Z6a,Z13,hn]
 have ha0 : ∀ i,(replicate 2 (replicate 4 0):List (LI)).getD i (replicate 4 0)=replicate 4 0:=by
  intro i
  match i with
  | 0=>rfl
  | 1=>rfl
  | i+2=>rfl
 have hX:=Z042 hp 8
 rw [Zye h8] at hX
 have e8:(18446744073709551616:Int)^8=13407807929942597099574024998205846127479365820592393377723561443721764030073546976801874298166903427690031858186486050853753882811946569946433649006084096:=by decide
 rw [e8] at hX
 obtain ⟨l1,a1,f1,w1,n1,h1,x1,s1,o1⟩:=Zb9 (n+1+1+1+1) (i:=0) (l:=p) (a:=replicate 2 (replicate 4 0)) (by decide) hp (by omega) (by intro i; rw [ha0]; exact Z51 4) (by
  rw [ha0,Zte]
  generalize pV p p.length=X at *
  unfold B4
  omega)
 rw [ha0,Zte] at s1
 have t1:=o1 1 (by decide)
 rw [ha0] at t1
 obtain ⟨l2,a2,f2,w2,n2,h2,x2,s2,o2⟩:=Zb9 (n+1+1+1) (i:=1) (by decide) w1 (by omega) h1 (by
  rw [t1,Zte]
  generalize pV l1 l1.length=X at *
  unfold B4
  omega)
 rw [t1,Zte] at s2
 have t2:=o2 0 (by decide)
 obtain ⟨l3,a3,f3,w3,n3,h3,x3,s3,o3⟩:=Zb9 (n+1+1) (i:=2) (by decide) w2 (by omega) h2 (by
  have e:a2.getD (2%2) (replicate 4 0)=a1.getD 0 (replicate 4 0):=t2
  have s1':V4 (a1.getD 0 (replicate 4 0))=_:=s1
  rw [e,s1']
  generalize pV p p.length=X at *
  generalize pV l2 l2.length=Y at *
  unfold B4
  omega)
 have t3:=o3 1 (by decide)
 obtain ⟨l4,a4,f4,w4,n4,h4,x4,s4,o4⟩:=Zb9 (n+1) (i:=3) (by decide) w3 (by omega) h3 (by
  have e:a3.getD (3%2) (replicate 4 0)=a2.getD 1 (replicate 4 0):=t3
  have s2':V4 (a2.getD 1 (replicate 4 0))=_:=s2
  rw [e,s2']
  generalize pV l1 l1.length=X at *
  generalize pV l3 l3.length=Y at *
  unfold B4
  omega)
 have t4:=o4 0 (by decide)
 have v0:V4 (a4.getD 0 (replicate 4 0))=pV p p.length%7237005577332262213973186563042994240829374041602535252466099000494570602496+pV l2 l2.length%7237005577332262213973186563042994240829374041602535252466099000494570602496:=by
  have s3':V4 (a3.getD 0 (replicate 4 0))=V4 (a2.getD 0 (replicate 4 0))+_:=s3
  have s1':V4 (a1.getD 0 (replicate 4 0))=_:=s1
  rw [t4,s3',t2,s1']
  omega
 have v1:V4 (a4.getD 1 (replicate 4 0))=pV l1 l1.length%7237005577332262213973186563042994240829374041602535252466099000494570602496+pV l3 l3.length%7237005577332262213973186563042994240829374041602535252466099000494570602496:=by
  have s4':V4 (a4.getD 1 (replicate 4 0))=V4 (a3.getD 1 (replicate 4 0))+_:=s4
  have s2':V4 (a2.getD 1 (replicate 4 0))=_:=s2
  rw [s4',t3,s2']
  omega
 obtain ⟨g1,c1,q1,z1,hc1,y1⟩:=Zj8 Zbh Zbh
 obtain ⟨g2,c2,q2,z2,hc2,y2⟩:=Zj8 (h4 0) z1
 obtain ⟨g3,c3,q3,z3,hc3,y3⟩:=Zi1 z2 (h4 1)
 obtain ⟨r,q4,z4,y4⟩:=Zti z3
 refine ⟨r,?_,z4,?_⟩
 ·refine (f1 _).trans ((f2 _).trans ((f3 _).trans ((f4 _).trans ?_)))
  rw [Z1g,Z4b,Z08 (by decide),Z3 q1,Zb,Z3 q2,Zb,Z3 q3,Z3 q4]
 ·have r1:=Zee z1
  have r2:=Zee z2
  have r3:=Zee z3
  rw [y4]
  rw [Zo9] at y1
  rw [v0] at y2
  rw [v1] at y3
  generalize V4 g1=G1 at *
  generalize V4 g2=G2 at *
  generalize V4 g3=G3 at *
  generalize pV p p.length=X at *
  generalize pV l1 l1.length=X1 at *
  generalize pV l2 l2.length=X2 at *
  generalize pV l3 l3.length=X3 at *
  clear f1 f2 f3 f4 q1 q2 q3 q4 e8
  unfold VL at *
  unfold B4 at *
  have k1:c1=0:=by rcases hc1 with h | h <;> omega
  subst k1
  have b1:X1<51397454971639728862728594851412511588645886491167898648663828096174877345658614143171087801555262538602929264263168:=by omega
  have b2:X2<197026866089141791222560432227205258386878298291626920115022677913390379788544:=by omega
  have b3:X3<776784897766425899003854258144742157804:=by omega
  have k2:c2=0:=by rcases hc2 with h | h <;> omega
  subst k2
  have k3:c3=0:=by rcases hc3 with h | h <;> omega
  subst k3
  have e:G3=X-7237005577332262213973186563042994240857116359379907606001950938285454250989*(X / 7237005577332262213973186563042994240829374041602535252466099000494570602496-X1 / 7237005577332262213973186563042994240829374041602535252466099000494570602496+X2 / 7237005577332262213973186563042994240829374041602535252466099000494570602496-2):=by omega
  rw [e,Int.sub_mul_emod_self_left]
end Go.Proofs.YtiflckckekjbnaaGreatDoor
namespace Go.Proofs.YtiflckckekjbnaaGreatDoor
set_option linter.all false
set_option maxRecDepth 100000
def Prm (n:Nat):Prop:=2<=n /\ ∀ d,d∣n->d=1∨d=n
theorem Z043 (n:Nat) : ∀ (m:Nat) (f:Nat->Nat),(∀ i,i<n->f i<m)->(∀ i j,i<n->j<n->f i=f j->i=j)->n<=m:=by
 induction n with
 | zero=>intros; omega
 | succ n ih =>
  intro m f h1 h2
  have hm:=h1 n (by omega)
  have:=ih (m-1) (fun i=>if f i=m-1 then f n else f i) (by
   intro i hi
   have a1:=h1 i (by omega)
   have a2:f i≠f n:=fun e=>by have:=h2 i n (by omega) (by omega) e; omega
   split <;> omega) (by
   intro i j hi hj e
   have a1:f i≠f n:=fun e=>by have:=h2 i n (by omega) (by omega) e; omega
   have a2:f j≠f n:=fun e=>by have:=h2 j n (by omega) (by omega) e; omega
   split at e <;> split at e
   ·rename_i x y; exact h2 i j (by omega) (by omega) (x.trans y.symm)
   ·exact absurd e.symm a2
   ·exact absurd e a1
   ·exact h2 i j (by omega) (by omega) e)
  omega
theorem surj {n:Nat} {f:Nat->Nat} (h1 : ∀ i,i<n->f i<n) (h2 : ∀ i j,i<n->j<n->f i=f j->i=j) {v:Nat} (hv:v<n) : ∃ i,i<n/\f i=v:=by
 false_or_by_contra
 rename_i hc
 have hc : ∀ i,i<n->f i≠v:=fun i hi e=>hc ⟨i,hi,e⟩
 have:=Z043 (n+1) n (fun i=>if i=n then v else f i) (by
  intro i hi
  split
  ·exact hv
  ·exact h1 i (by omega)) (by
  intro i j hi hj e
  split at e <;> split at e
  ·omega
  ·exact absurd e.symm (hc j (by omega))
  ·exact absurd e (hc i (by omega))
  ·exact h2 i j (by omega) (by omega) e)
 omega
theorem Zkx {a n e:Nat}:(a%n)^e%n=a^e%n:=by rw [<- Nat.pow_mod]
def One (a m k:Nat):Prop:=a^k%m=1%m
theorem One.mul {a m k:Nat} (h:One a m k) (l:Nat):One a m (k*l):=by
 unfold One at *
 rw [Nat.pow_mul,Nat.pow_mod,h,<- Nat.pow_mod,Nat.one_pow]
theorem One.rest {a m k l:Nat} (h:One a m k) (h2:One a m l):One a m (k%l):=by
 have h3:=h2.mul (k / l)
 unfold One at *
 have e:k=l*(k / l)+k%l:=(Nat.div_add_mod k l).symm
 rw [e,Nat.pow_add,Nat.mul_mod,h3,<- Nat.mul_mod,Nat.one_mul] at h
 exact h
theorem One.gcd {a m:Nat} (k:Nat) : ∀ l,One a m k->One a m l->One a m (Nat.gcd k l):=by
 induction k using Nat.strongRecOn with
 | ind k ih =>
  intro l h h2
  by_cases hk:k=0
  ·subst hk; rw [Nat.gcd_zero_left]; exact h2
  ·rw [Nat.gcd_rec]
   exact ih (l%k) (Nat.mod_lt _ (by omega)) k (h2.rest h) h
def Zso:List Nat->Nat
 | []=>1
 | r::rs=>r*Zso rs
theorem Zue {m:Nat} (hm:1<m) : ∀ (rs:List Nat),(∀ r∈rs,Prm r)->m∣Zso rs->∃ r,r∈rs/\r∣m
 | [],_,h=>by
  have:=Nat.le_of_dvd (by decide) h
  simp [Zso] at this
  omega
 | r::rs,hp,h=>by
  have hr:=hp r List.mem_cons_self
  rcases hr.2 (Nat.gcd m r) (Nat.gcd_dvd_right m r) with h1 | h1
  ·have h2:m∣Zso rs:=Nat.Coprime.dvd_of_dvd_mul_left h1 h
   obtain ⟨s,hs,hd⟩:=Zue hm rs (fun x hx=>hp x (List.mem_cons_of_mem _ hx)) h2
   exact ⟨s,List.mem_cons_of_mem _ hs,hd⟩
  ·exact ⟨r,List.mem_cons_self,by rw [<- h1]; exact Nat.gcd_dvd_left m r⟩
theorem Zu9 {a m n:Nat} {rs:List Nat} (hp : ∀ r∈rs,Prm r) (hn:Zso rs=n) (h0:0<n) (h1:One a m n) (hr : ∀ r∈rs,¬ One a m (n / r)) {k:Nat} (hk:0<k) (hkn:k<n) : ¬ One a m k:=by
 intro h
 have hg:=One.gcd k n h h1
 have hd:Nat.gcd k n∣n:=Nat.gcd_dvd_right k n
 have hle:Nat.gcd k n<=k:=Nat.le_of_dvd hk (Nat.gcd_dvd_left k n)
 obtain ⟨q,hq⟩:=hd
 generalize Nat.gcd k n=g at *
 have hq1:1<q:=by
  rcases Nat.lt_or_ge 1 q with h | h
  ·exact h
  ·have:g*q<=g*1:=Nat.mul_le_mul_left g h
   omega
 obtain ⟨r,hrm,s,hs⟩:=Zue hq1 rs hp (by rw [hn,hq]; exact Nat.dvd_mul_left q g)
 have hr0:0<r:=by have:=(hp r hrm).1; omega
 apply hr r hrm
 have e:n / r=g*s:=by
  rw [hq,hs,<- Nat.mul_assoc,Nat.mul_comm g r,Nat.mul_assoc,Nat.mul_div_cancel_left _ hr0]
 rw [e]
 exact hg.mul s
theorem Zno {a m n:Nat} (h1:One a m n) (ho : ∀ k,0<k->k<n->¬ One a m k) {i j:Nat} (hi:i<n) (hj:j<n) (e:a^i%m=a^j%m):i=j:=by
 have key : ∀ i j,i<j->j<n->a^i%m=a^j%m->False:=by
  intro i j hij hj e
  apply ho (j-i) (by omega) (by omega)
  have e2:a^(n-i)*a^i%m=a^(n-i)*a^j%m:=by rw [Nat.mul_mod,e,<- Nat.mul_mod]
  rw [<- Nat.pow_add,<- Nat.pow_add,show n-i+i=n by omega,show n-i+j=n+(j-i) by omega] at e2
  unfold One at h1 ⊢
  rw [h1,Nat.pow_add,Nat.mul_mod,h1,<- Nat.mul_mod,Nat.one_mul] at e2
  exact e2.symm
 rcases Nat.lt_trichotomy i j with h | h | h
 ·exact (key i j h hj e).elim
 ·exact h
 ·exact (key j i h hi e.symm).elim
theorem One.dvd {a m l k:Nat} (h:One a m k) (hl:l∣m):One a l k:=by
 unfold One at *
 obtain ⟨q,rfl⟩:=hl
 have:=congrArg (· % l) h
 simpa [Nat.mod_mul_right_mod] using this
theorem pock {n F c:Nat} {rs:List Nat} (h2:2<=n) (hp : ∀ r∈rs,Prm r) (hF:Zso rs=F) (hF0:0<F) (hFn:n<F*F) (h1:One c n F) (hr : ∀ r∈rs,Nat.gcd (c^(F / r)%n+(n-1)) n=1):Prm n:=by
 have key : ∀ l,l∣n->2<=l->F<=l:=by
  intro l hl h2l
  have h1l:=h1.dvd hl
  have hol : ∀ k,0<k->k<F->¬ One c l k:=fun k hk hkF=>Zu9 hp hF hF0 h1l (fun r hrm hone=>by
   have hg:=hr r hrm
   have hd:l∣c^(F / r)%n+(n-1):=by
    unfold One at hone
    have e1:c^(F / r)%n%l=1%l:=by
     obtain ⟨q,rfl⟩:=hl
     rw [Nat.mod_mul_right_mod]; exact hone
    obtain ⟨q,rfl⟩:=hl
    apply Nat.dvd_of_mod_eq_zero
    rw [Nat.add_mod,e1,<- Nat.add_mod,show 1+(l*q-1)=l*q by omega,Nat.mul_mod_right]
   have:=Nat.dvd_gcd hd hl
   rw [hg] at this
   have:=Nat.le_of_dvd (by decide) this
   omega) hk hkF
  exact Z043 F l (fun i=>c^i%l) (fun i _=>Nat.mod_lt _ (by omega)) (fun i j hi hj e=>Zno h1l hol hi hj e)
 refine ⟨h2,fun d hd=>?_⟩
 obtain ⟨q,hq⟩:=hd
 by_cases hd1:d=1
 ·exact .inl hd1
 by_cases hq1:q=1
 ·subst hq1; exact .inr (by omega)
 exfalso
 have hd0:d≠0:=fun h=>by subst h; simp at hq; omega
 have hq0:q≠0:=fun h=>by subst h; simp at hq; omega
 have a1:=key d ⟨q,hq⟩ (by omega)
 have a2:=key q ⟨d,by rw [hq,Nat.mul_comm]⟩ (by omega)
 have:=Nat.mul_le_mul a1 a2
 omega
def pm (m:Nat):Nat->Nat->Nat->Nat->Nat
  | 0,_,_,acc=>acc
  | f+1,a,e,acc=>pm m f (a*a%m) (e / 2) (if e%2=0 then acc else acc*a%m)
theorem Z06o (m f:Nat) : ∀ (a e acc:Nat),e<2^f->pm m f a e acc%m=acc*a^e%m:=by
  induction f with
  | zero => intro a e acc h; have : e = 0 := by simpa using h
            subst this; simp [pm]
  | succ f ih =>
    intro a e acc h
    have h2:e / 2<2^f:=by rw [Nat.pow_succ] at h; omega
    rw [pm,ih _ _ _ h2]
    have e1:e=2*(e / 2)+e%2:=(Nat.div_add_mod e 2).symm
    have e2:(a*a%m)^(e / 2)%m=a^(2*(e / 2))%m:=by rw [<- Nat.pow_mod,<- Nat.pow_two,<- Nat.pow_mul]
    by_cases hz:e%2=0
    · rw [if_pos hz,Nat.mul_mod,e2,<- Nat.mul_mod,show 2*(e / 2)=e by omega]
    · have e3:a^e=a*a^(2*(e / 2)):=by
        conv=>lhs; rw [e1,show e%2=1 by omega,Nat.pow_succ,Nat.mul_comm]
      rw [if_neg hz,Nat.mul_mod,e2,Nat.mod_mod,<- Nat.mul_mod,e3,Nat.mul_assoc]
theorem Z041 {a m e:Nat} (f:Nat) (h:e<2^f) (h1:(pm m f a e 1%m==1%m)=true):One a m e:=by
  have:=Z06o m f a e 1 h
  unfold One
  rw [Nat.one_mul] at this
  rw [<- this]
  simpa using h1
def chkP (n F c:Nat) (rs:List Nat):Bool :=
  Nat.ble 2 n&&(Zso rs==F)&&Nat.ble 1 F&&Nat.blt n (F*F)&&Nat.blt F (2^256)&&(pm n 256 c F 1%n==1%n)&&rs.all fun r=>Nat.blt (F / r) (2^256)&&Nat.gcd (pm n 256 c (F / r) 1%n+(n-1)) n==1
theorem Zql {n F c:Nat} {rs:List Nat} (hp : ∀ r∈rs,Prm r) (h:chkP n F c rs=true):Prm n:=by
  unfold chkP at h
  simp only [Bool.and_eq_true,List.all_eq_true] at h
  obtain ⟨⟨⟨⟨⟨⟨h1,h2⟩,h3⟩,h4⟩,h5⟩,h6⟩,h7⟩:=h
  refine pock (F:=F) (c:=c) (rs:=rs) (Nat.le_of_ble_eq_true h1) hp (by simpa using h2) (Nat.le_of_ble_eq_true h3) (Nat.le_of_ble_eq_true h4) (Z041 256 (Nat.le_of_ble_eq_true h5) h6) ?_
  intro r hr
  obtain ⟨a1,a2⟩:=h7 r hr
  have:=Z06o n 256 c (F / r) 1 (Nat.le_of_ble_eq_true a1)
  rw [Nat.one_mul] at this
  rw [<- this]
  simpa using a2
def tryD (n:Nat):Nat->Nat->Bool
  | 0,_=>true
  | f+1,d => !(n%d==0)&&tryD n f (d+1)
theorem Z086 (n f:Nat) : ∀ d,tryD n f d=true->∀ i,i<f->n%(d+i)≠0:=by
  induction f with
  | zero=>intros; omega
  | succ f ih =>
    intro d h i hi
    simp only [tryD,Bool.and_eq_true] at h
    cases i with
    | zero=>simpa using h.1
    | succ i=>have:=ih (d+1) h.2 i (by omega); rwa [show d+(i+1)=d+1+i by omega]
theorem Zan (n f:Nat) (h:(Nat.ble 2 n&&tryD n f 2&&Nat.blt n ((f+2)*(f+2)))=true):Prm n:=by
  simp only [Bool.and_eq_true] at h
  obtain ⟨⟨h1,h2⟩,h3⟩:=h
  have h1:=Nat.le_of_ble_eq_true h1
  have h3:n<(f+2)*(f+2):=Nat.le_of_ble_eq_true h3
  have key : ∀ d,2<=d->d<f+2->¬ d∣n:=fun d a b hd=>by
    have:=Z086 n f 2 h2 (d-2) (by omega)
    rw [show 2+(d-2)=d by omega] at this
    exact this (Nat.mod_eq_zero_of_dvd hd)
  refine ⟨h1,fun d hd=>?_⟩
  obtain ⟨q,hq⟩:=hd
  by_cases hd1:d=1
  · exact .inl hd1
  by_cases hq1:q=1
  · subst hq1; exact .inr (by omega)
  exfalso
  have hd0:d≠0:=fun h=>by subst h; simp at hq; omega
  have hq0:q≠0:=fun h=>by subst h; simp at hq; omega
  have a1:f+2<=d:=by
    rcases Nat.lt_or_ge d (f+2) with h | h
    · exact absurd ⟨q,hq⟩ (key d (by omega) h)
    · exact h
  have a2:f+2<=q:=by
    rcases Nat.lt_or_ge q (f+2) with h | h
    · exact absurd ⟨d,by rw [hq,Nat.mul_comm]⟩ (key q (by omega) h)
    · exact h
  have:=Nat.mul_le_mul a1 a2
  omega
theorem Z050 {P:Nat->Prop} {a:Nat} (h:P a) : ∀ r ∈ [a],P r:=by intro r hr; rw [List.mem_singleton] at hr; subst hr; exact h
theorem Zoe {P:Nat->Prop} {a b:Nat} (h:P a) (h2:P b) : ∀ r ∈ [a,b],P r:=by
  intro r hr
  simp only [List.mem_cons,List.not_mem_nil,or_false] at hr
  rcases hr with rfl | rfl
  · exact h
  · exact h2
theorem Zmy:Prm 2773320623:=Zan 2773320623 52662 (by decide +kernel)
theorem Zlr:Prm 72106336199:=Zql (F:=2773320623) (c:=67108864) (rs:=[2773320623]) (Z050 Zmy) (by decide +kernel)
theorem Zsn:Prm 8574133:=Zan 8574133 2928 (by decide +kernel)
theorem Z06p:Prm 127:=Zan 127 11 (by decide +kernel)
theorem Zgt:Prm 1919519569386763:=Zql (F:=1088914891) (c:=354538099852037) (rs:=[8574133,127]) (Zoe Zsn Z06p) (by decide +kernel)
theorem Zvm:Prm 430751:=Zan 430751 656 (by decide +kernel)
theorem Z028:Prm 4153:=Zan 4153 64 (by decide +kernel)
theorem Zfa:Prm 31757755568855353:=Zql (F:=1788908903) (c:=26222887164197666) (rs:=[430751,4153]) (Zoe Zvm Z028) (by decide +kernel)
theorem Z70:Prm 75445702479781427272750846543864801:=Zql (F:=138409523410761641138333837) (c:=23520671056837248616447561120497838) (rs:=[1919519569386763,72106336199]) (Zoe Zgt Zlr) (by decide +kernel)
theorem Z2e:Prm 74058212732561358302231226437062788676166966415465897661863160754340907:=Zql (F:=2395986178073482737347378734667165195040796357129753) (c:=32917242187670345156894797748588826076355976820526874250530785709567478) (rs:=[75445702479781427272750846543864801,31757755568855353]) (Zoe Z70 Zfa) (by decide +kernel)
abbrev pN:Nat:=57896044618658097711785492504343953926634992332820282019728792003956564819949
abbrev qN:Nat:=74058212732561358302231226437062788676166966415465897661863160754340907
theorem Z0ey:Prm 2:=Zan 2 0 (by decide +kernel)
theorem Z0pg:Prm 3:=Zan 3 1 (by decide +kernel)
theorem Zyn:Prm 65147:=Zan 65147 255 (by decide +kernel)
theorem Zyb {a m e:Nat} (f:Nat) (h:e<2^f) (h1:(pm m f a e 1%m==1%m)=false) : ¬ One a m e:=by
 have:=Z06o m f a e 1 h
 intro h2
 unfold One at h2
 rw [Nat.one_mul,h2] at this
 rw [this] at h1
 simp at h1
theorem Zih:One 2 pN (pN-1):=Z041 256 (by decide +kernel) (by decide +kernel)
theorem Zvx {k:Nat} (hk:0<k) (hk2:k<pN-1) : ¬ One 2 pN k:=by
 refine Zu9 (rs:=[2,2,3,65147,qN]) ?_ (by decide +kernel) (by decide +kernel) Zih ?_ hk hk2
 ·intro r hr
  simp only [List.mem_cons,List.not_mem_nil,or_false] at hr
  rcases hr with rfl | rfl | rfl | rfl | rfl
  ·exact Z0ey
  ·exact Z0ey
  ·exact Z0pg
  ·exact Zyn
  ·exact Z2e
 ·intro r hr
  simp only [List.mem_cons,List.not_mem_nil,or_false] at hr
  rcases hr with rfl | rfl | rfl | rfl | rfl
  all_goals exact Zyb 256 (by decide +kernel) (by decide +kernel)
theorem Zpg {i:Nat} (hi:i<pN-1):2^i%pN≠0:=by
 intro h
 have h1:=Zih
 unfold One at h1
 rw [show pN-1=i+(pN-1-i) by omega,Nat.pow_add,Nat.mul_mod,h,Nat.zero_mul,Nat.zero_mod] at h1
 exact absurd h1 (by decide +kernel)
theorem Z02u {a:Nat} (ha:a%pN≠0) : ∃ i,i<pN-1/\2^i%pN=a%pN:=by
 have hlt : ∀ x,x%pN<pN:=fun x=>Nat.mod_lt _ (by decide +kernel)
 obtain ⟨i,hi,e⟩:=surj (n:=pN-1) (f:=fun i=>2^i%pN-1) (fun i hi=>by
  have:=hlt (2^i)
  have:=Zpg hi
  omega) (fun i j hi hj e=>by
  have:=Zpg hi
  have:=Zpg hj
  exact Zno Zih (fun k a b=>Zvx a b) hi hj (by omega)) (v:=a%pN-1) (by have:=hlt a; omega)
 refine ⟨i,hi,?_⟩
 have:=Zpg hi
 omega
theorem Zxe {a:Nat} (ha:a%pN≠0):One a pN (pN-1):=by
 obtain ⟨i,_,e⟩:=Z02u ha
 have h:=Zih.mul i
 unfold One at h ⊢
 rw [<- Zkx,<- e,Zkx,<- Nat.pow_mul,Nat.mul_comm]
 exact h
theorem Z06a {a:Nat} (ha:a%pN≠0):a*a^(pN-2)%pN=1:=by
 have h:=Zxe ha
 unfold One at h
 rw [show pN-1=(pN-2)+1 by decide +kernel,Nat.pow_succ,Nat.mul_comm] at h
 rw [h]
 decide +kernel
theorem Z06e {d:Nat} (hd:(pm pN 256 d ((pN-1) / 2) 1%pN==1%pN)=false) (x:Nat) (hx:x%pN≠0):x*x%pN≠d%pN:=by
 intro e
 refine Zyb 256 (by decide +kernel) hd ?_
 have h:=Zxe hx
 unfold One at h ⊢
 rw [<- Zkx,<- e,Zkx,<- Nat.pow_two,<- Nat.pow_mul,show 2*((pN-1) / 2)=pN-1 by decide +kernel]
 exact h
abbrev dN:Nat:=37095705934669439343138083508754565189542113879843219016388785533085940283555
theorem Zx5 (x:Nat) (hx:x%pN≠0):x*x%pN≠dN%pN:=Z06e (by decide +kernel) x hx
abbrev F:=Fin pN
theorem Zwi (a:F) (ha:a≠0) : ∃ i:F,a*i=1:=by
 have h0:a.val%pN≠0:=by
  intro h
  apply ha
  rw [Nat.mod_eq_of_lt a.isLt] at h
  exact Fin.ext h
 have h:=Z06a h0
 refine ⟨⟨a.val^(pN-2)%pN,Nat.mod_lt _ (by decide +kernel)⟩,Fin.ext ?_⟩
 rw [Fin.val_mul]
 show a.val*(a.val^(pN-2)%pN)%pN=_
 generalize a.val^(pN-2)=z at *
 rw [Nat.mul_mod,Nat.mod_mod,<- Nat.mul_mod,h]
 decide +kernel
theorem Zdv {a b:F} (h:a*b=0):a=0∨b=0:=by
 by_cases ha:a=0
 ·exact .inl ha
 ·obtain ⟨i,hi⟩:=Zwi a ha
  exact .inr (by grind -lia -linarith (splits:=0))
def dF:F:=⟨dN,by decide +kernel⟩
def iF:F:=⟨19681161376707505956807079304988542015446066515923890162744021073123829784752,by decide +kernel⟩
theorem Z09f:iF*iF+1=0:=by decide +kernel
theorem Zpy (s t:F) (h:s*s=dF*(t*t)):t=0:=by
 false_or_by_contra
 rename_i ht
 obtain ⟨i,hi⟩:=Zwi t ht
 have hx:(s*i)*(s*i)=dF:=by grind -lia -linarith (splits:=0)
 have h1:(s*i).val*(s*i).val%pN=dN%pN:=by
  have:=congrArg Fin.val hx
  rw [Fin.val_mul] at this
  rw [this]
  decide +kernel
 by_cases hz:(s*i).val%pN=0
 ·rw [Nat.mul_mod,hz] at h1
  exact absurd h1 (by decide +kernel)
 ·exact Zx5 _ hz h1
structure On (x y:F):Prop where
 eq:y*y-x*x=1+dF*x*x*y*y
theorem Z0ja (a:F) (h:a+a=0):a=0:=by
 obtain ⟨i,hi⟩:=Zwi 2 (by decide +kernel)
 grind -lia -linarith (splits:=0)
theorem Z03o {x1 y1 x2 y2:F} (h1:On x1 y1) (h2:On x2 y2):dF*x1*x2*y1*y2*(dF*x1*x2*y1*y2)≠1:=by
 intro h3
 have e1:=h1.eq
 have e2:=h2.eq
 have hi:=Z09f
 obtain ⟨j,hj⟩ : ∃ j,j=iF:=⟨_,rfl⟩
 rw [<- hj] at hi
 obtain ⟨d,hd⟩ : ∃ d,d=dF:=⟨_,rfl⟩
 have nr : ∀ s t:F,s*s=d*(t*t)->t=0:=by rw [hd]; exact Zpy
 rw [<- hd] at e1 e2 h3
 clear hd hj h1 h2
 obtain ⟨e,he⟩ : ∃ e,e=d*x1*x2*y1*y2:=⟨_,rfl⟩
 rw [<- he] at h3
 -- with u = j x the curve is u u + y y = 1 - d u u y y
 have a1:x1*y1*(j*x2+y2)=0:=by
  refine nr (j*x1+e*y1) _ ?_
  grind -lia -linarith (splits:=0)
 have a2:x1*y1*(j*x2-y2)=0:=by
  refine nr (j*x1-e*y1) _ ?_
  grind -lia -linarith (splits:=0)
 have n1:x1*y1≠0:=fun h=>absurd (show (1:F)=0 by grind -lia -linarith (splits:=0)) (by decide +kernel)
 have b1:=(Zdv a1).resolve_left n1
 have b2:=(Zdv a2).resolve_left n1
 have b3:y2=0:=Z0ja y2 (by grind -lia -linarith (splits:=0))
 exact absurd (show (1:F)=0 by grind -lia -linarith (splits:=0)) (by decide +kernel)
noncomputable def Zu0 (a:F):F:=if h:a=0 then 0 else Classical.choose (Zwi a h)
theorem Z6r {a:F} (ha:a≠0):a*Zu0 a=1:=by
 unfold Zu0
 rw [dif_neg ha]
 exact Classical.choose_spec (Zwi a ha)
theorem Zx7 {x1 y1 x2 y2:F} (h1:On x1 y1) (h2:On x2 y2):1+dF*x1*x2*y1*y2≠0:=by
 intro h
 refine Z03o h1 h2 ?_
 generalize dF*x1*x2*y1*y2=e at *
 grind -lia -linarith (splits:=0)
theorem Zx8 {x1 y1 x2 y2:F} (h1:On x1 y1) (h2:On x2 y2):1-dF*x1*x2*y1*y2≠0:=by
 intro h
 refine Z03o h1 h2 ?_
 generalize dF*x1*x2*y1*y2=e at *
 grind -lia -linarith (splits:=0)
structure G where
 x:F
 y:F
 on:On x y
theorem Z04v {P Q:G} (hx:P.x=Q.x) (hy:P.y=Q.y):P=Q:=by
 cases P; cases Q
 simp only at hx hy
 subst hx; subst hy; rfl
theorem Z06j (a b u v d:F) (h1:b*b-a*a=1+d*a*a*b*b) (h2:v*v-u*u=1+d*u*u*v*v) :
  (b*v+a*u)*(b*v+a*u)*(1+d*a*u*b*v)*(1+d*a*u*b*v)-(a*v+b*u)*(a*v+b*u)*(1-d*a*u*b*v)*(1-d*a*u*b*v)-(1+d*a*u*b*v)*(1+d*a*u*b*v)*(1-d*a*u*b*v)*(1-d*a*u*b*v)-d*(a*v+b*u)*(a*v+b*u)*(b*v+a*u)*(b*v+a*u)=0:=by
 grind -lia -linarith (splits:=0)
theorem Z06i (A B C D i1 i2 d:F) (hB:B*i1=1) (hD:D*i2=1) (h:C*C*B*B-A*A*D*D-B*B*D*D-d*A*A*C*C=0) :
  C*i2*(C*i2)-A*i1*(A*i1)=1+d*(A*i1)*(A*i1)*(C*i2)*(C*i2):=by
 grind -lia -linarith (splits:=0)
noncomputable def Z9m (P Q:G):G :=
 ⟨(P.x*Q.y+P.y*Q.x)*Zu0 (1+dF*P.x*Q.x*P.y*Q.y),(P.y*Q.y+P.x*Q.x)*Zu0 (1-dF*P.x*Q.x*P.y*Q.y),
  ⟨Z06i _ _ _ _ _ _ _ (Z6r (Zx7 P.on Q.on)) (Z6r (Zx8 P.on Q.on)) (Z06j P.x P.y Q.x Q.y dF P.on.eq Q.on.eq)⟩⟩
def Zdt:G:=⟨0,1,⟨by decide +kernel⟩⟩
theorem Zpr (P Q:G):Z9m P Q=Z9m Q P:=by
 have e1:dF*P.x*Q.x*P.y*Q.y=dF*Q.x*P.x*Q.y*P.y:=by generalize dF=d; grind -lia -linarith (splits:=0)
 refine Z04v ?_ ?_
 ·show (P.x*Q.y+P.y*Q.x)*_=(Q.x*P.y+Q.y*P.x)*_
  rw [e1]; generalize Zu0 _=i; grind -lia -linarith (splits:=0)
 ·show (P.y*Q.y+P.x*Q.x)*_=(Q.y*P.y+Q.x*P.x)*_
  rw [e1]; generalize Zu0 _=i; grind -lia -linarith (splits:=0)
theorem Z00t (a b u v x y d:F) (h1:b*b-a*a=1+d*a*a*b*b) (h2:v*v-u*u=1+d*u*u*v*v) (h3:y*y-x*x=1+d*x*x*y*y):((a*v+b*u)*(1-d*a*u*b*v)*y+(b*v+a*u)*(1+d*a*u*b*v)*x)*((1+d*u*x*v*y)*(1-d*u*x*v*y)+d*(u*y+v*x)*(v*y+u*x)*a*b)-((u*y+v*x)*(1-d*u*x*v*y)*b+(v*y+u*x)*(1+d*u*x*v*y)*a)*((1+d*a*u*b*v)*(1-d*a*u*b*v)+d*(a*v+b*u)*(b*v+a*u)*x*y)=0:=by
 grind -lia -linarith (splits:=0)
theorem Z00u (a b u v x y d:F) (h1:b*b-a*a=1+d*a*a*b*b) (h2:v*v-u*u=1+d*u*u*v*v) (h3:y*y-x*x=1+d*x*x*y*y):((b*v+a*u)*(1+d*a*u*b*v)*y+(a*v+b*u)*(1-d*a*u*b*v)*x)*((1+d*u*x*v*y)*(1-d*u*x*v*y)-d*(u*y+v*x)*(v*y+u*x)*a*b)-((v*y+u*x)*(1+d*u*x*v*y)*b+(u*y+v*x)*(1-d*u*x*v*y)*a)*((1+d*a*u*b*v)*(1-d*a*u*b*v)-d*(a*v+b*u)*(b*v+a*u)*x*y)=0:=by
 grind -lia -linarith (splits:=0)
theorem Z09b (A B C D A2 B2 C2 D2 i1 i2 i3 i4 x1 y1 x3 y3 d j k:F) (hB:B*i1=1) (hD:D*i2=1) (hB2:B2*i3=1) (hD2:D2*i4=1)
  (h:(A*D*y3+C*B*x3)*(B2*D2+d*A2*C2*x1*y1)-(A2*D2*y1+C2*B2*x1)*(B*D+d*A*C*x3*y3)=0) :
  (A*i1*y3+C*i2*x3)*(1+d*(A2*i3)*(C2*i4)*x1*y1)=(A2*i3*y1+C2*i4*x1)*(1+d*(A*i1)*(C*i2)*x3*y3):=by
 grind -lia -linarith (splits:=0)
theorem Z09c (A B C D A2 B2 C2 D2 i1 i2 i3 i4 x1 y1 x3 y3 d j k:F) (hB:B*i1=1) (hD:D*i2=1) (hB2:B2*i3=1) (hD2:D2*i4=1)
  (h:(C*B*y3+A*D*x3)*(B2*D2-d*A2*C2*x1*y1)-(C2*B2*y1+A2*D2*x1)*(B*D-d*A*C*x3*y3)=0) :
  (C*i2*y3+A*i1*x3)*(1-d*(A2*i3)*(C2*i4)*x1*y1)=(C2*i4*y1+A2*i3*x1)*(1-d*(A*i1)*(C*i2)*x3*y3):=by
 grind -lia -linarith (splits:=0)
theorem Z0k8 (X Y U V x1 y1 x3 y3 d j k:F) (h:(X*y3+Y*x3)*(1+d*U*V*x1*y1)=(U*y1+V*x1)*(1+d*X*Y*x3*y3)) (hj:(1+d*X*x3*Y*y3)*j=1) (hk:(1+d*x1*U*y1*V)*k=1) :
  (X*y3+Y*x3)*j=(x1*V+y1*U)*k:=by grind -lia -linarith (splits:=0)
theorem Z0k9 (X Y U V x1 y1 x3 y3 d j k:F) (h:(Y*y3+X*x3)*(1-d*U*V*x1*y1)=(V*y1+U*x1)*(1-d*X*Y*x3*y3)) (hj:(1-d*X*x3*Y*y3)*j=1) (hk:(1-d*x1*U*y1*V)*k=1) :
  (Y*y3+X*x3)*j=(y1*V+x1*U)*k:=by grind -lia -linarith (splits:=0)
theorem Zba (P Q R:G):Z9m (Z9m P Q) R=Z9m P (Z9m Q R):=by
 have b1:=Z6r (Zx7 P.on Q.on)
 have b2:=Z6r (Zx8 P.on Q.on)
 have b3:=Z6r (Zx7 Q.on R.on)
 have b4:=Z6r (Zx8 Q.on R.on)
 refine Z04v ?_ ?_
 ·refine Z0k8 _ _ _ _ P.x P.y R.x R.y dF _ _ ?_ (Z6r (Zx7 (Z9m P Q).on R.on)) (Z6r (Zx7 P.on (Z9m Q R).on))
  exact Z09b _ _ _ _ _ _ _ _ _ _ _ _ P.x P.y R.x R.y dF 0 0 b1 b2 b3 b4 (Z00t P.x P.y Q.x Q.y R.x R.y dF P.on.eq Q.on.eq R.on.eq)
 ·refine Z0k9 _ _ _ _ P.x P.y R.x R.y dF _ _ ?_ (Z6r (Zx8 (Z9m P Q).on R.on)) (Z6r (Zx8 P.on (Z9m Q R).on))
  exact Z09c _ _ _ _ _ _ _ _ _ _ _ _ P.x P.y R.x R.y dF 0 0 b1 b2 b3 b4 (Z00u P.x P.y Q.x Q.y R.x R.y dF P.on.eq Q.on.eq R.on.eq)
theorem Zhr (P:G):Z9m P Zdt=P:=by
 have b1:=Z6r (Zx7 P.on Zdt.on)
 have b2:=Z6r (Zx8 P.on Zdt.on)
 have z1:Zdt.x=0:=rfl
 have z2:Zdt.y=1:=rfl
 refine Z04v ?_ ?_
 ·show (P.x*Zdt.y+P.y*Zdt.x)*Zu0 _=P.x
  generalize Zu0 (1+dF*P.x*Zdt.x*P.y*Zdt.y)=i at *
  rw [z1,z2] at *
  generalize dF=d at *
  grind -lia -linarith (splits:=0)
 ·show (P.y*Zdt.y+P.x*Zdt.x)*Zu0 _=P.y
  generalize Zu0 (1-dF*P.x*Zdt.x*P.y*Zdt.y)=i at *
  rw [z1,z2] at *
  generalize dF=d at *
  grind -lia -linarith (splits:=0)
theorem Z00j (P:G):Z9m Zdt P=P:=by rw [Zpr,Zhr]
noncomputable def Zgs:Nat->G->G
 | 0,_=>Zdt
 | n+1,P=>Z9m (Zgs n P) P
theorem Zi2 (m n:Nat) (P:G):Zgs (m+n) P=Z9m (Zgs m P) (Zgs n P):=by
 induction n with
 | zero=>exact (Zhr _).symm
 | succ n ih =>
  show Z9m (Zgs (m+n) P) P=Z9m (Zgs m P) (Z9m (Zgs n P) P)
  rw [ih,Zba]
theorem Za9 (m n:Nat) (P:G):Zgs (m*n) P=Zgs m (Zgs n P):=by
 induction m with
 | zero=>rw [Nat.zero_mul]; rfl
 | succ m ih=>rw [Nat.succ_mul,Zi2,ih]; rfl
theorem Zps (P Q R S:G):Z9m (Z9m P Q) (Z9m R S)=Z9m (Z9m P R) (Z9m Q S):=by
 rw [Zba,<- Zba Q R S,Zpr Q R,Zba R Q S,<- Zba]
theorem Zy2 (n:Nat) (P Q:G):Zgs n (Z9m P Q)=Z9m (Zgs n P) (Zgs n Q):=by
 induction n with
 | zero=>exact (Zhr _).symm
 | succ n ih =>
  show Z9m (Zgs n (Z9m P Q)) (Z9m P Q)=Z9m (Z9m (Zgs n P) P) (Z9m (Zgs n Q) Q)
  rw [ih,Zps]
def fi (n:Int):F:=⟨(n%57896044618658097711785492504343953926634992332820282019728792003956564819949).toNat,by
 show _<57896044618658097711785492504343953926634992332820282019728792003956564819949
 omega⟩
theorem Zeg (n:Int):((fi n).val:Int)=n%57896044618658097711785492504343953926634992332820282019728792003956564819949:=by
 show (((n%_).toNat:Nat):Int)=_
 omega
theorem Z06k:(pN:Int)=57896044618658097711785492504343953926634992332820282019728792003956564819949:=by decide +kernel
theorem Zmw {a b:Int}:fi a=fi b↔a%57896044618658097711785492504343953926634992332820282019728792003956564819949=b%57896044618658097711785492504343953926634992332820282019728792003956564819949:=by
 constructor
 ·intro h
  rw [<- Zeg,<- Zeg,h]
 ·intro h
  apply Fin.ext
  have:((fi a).val:Int)=((fi b).val:Int):=by rw [Zeg,Zeg,h]
  omega
theorem Z9o (a b:Int):fi (a+b)=fi a+fi b:=by
 apply Fin.ext
 rw [Fin.val_add]
 apply Int.ofNat_inj.1
 rw [Zeg,Int.natCast_emod,Int.natCast_add,Zeg,Zeg,Z06k]
 exact Int.add_emod _ _ _
theorem Z1b (a b:Int):fi (a*b)=fi a*fi b:=by
 apply Fin.ext
 rw [Fin.val_mul]
 apply Int.ofNat_inj.1
 rw [Zeg,Int.natCast_emod,Int.natCast_mul,Zeg,Zeg,Z06k]
 exact Int.mul_emod _ _ _
theorem fi_0:fi 0=0:=by decide +kernel
theorem Zxg:fi 1=1:=by decide +kernel
theorem Zef (a b:Int):fi (a-b)=fi a-fi b:=by
 have h:=Z9o (a-b) b
 rw [Int.sub_add_cancel] at h
 grind -lia -linarith (splits:=0)
theorem Zgz (a:Int):fi (-a) = - fi a:=by
 have h:=Z9o (-a) a
 rw [Int.add_left_neg,fi_0] at h
 grind -lia -linarith (splits:=0)
theorem Zd2 (a:Int):fi (a%57896044618658097711785492504343953926634992332820282019728792003956564819949)=fi a:=by
 rw [Zmw]; exact Int.emod_emod_of_dvd _ (Int.dvd_refl _)
def fv (x:F):Int:=(x.val:Int)
theorem Zli (x:F):0<=fv x/\fv x<57896044618658097711785492504343953926634992332820282019728792003956564819949:=by
 have:=x.isLt
 have h:=Z06k
 unfold fv
 omega
theorem Z065 (x:F):fi (fv x)=x:=by
 apply Fin.ext
 have h1:=Zeg (fv x)
 have h:=Zli x
 rw [Int.emod_eq_of_lt h.1 h.2] at h1
 unfold fv at *
 omega
theorem Zsf (n:Int):fv (fi n)=n%57896044618658097711785492504343953926634992332820282019728792003956564819949:=Zeg n
theorem Z09d {x y:F} (h:fv x=fv y):x=y:=by rw [<- Z065 x,<- Z065 y,h]
def pwF (x:F):Nat->F
 | 0=>1
 | n+1=>pwF x n*x
theorem Zp4 (x:F):pwF x 0=1:=rfl
theorem Zab (x:F) (n:Nat):pwF x (n+1)=pwF x n*x:=rfl
theorem Zls (x:F) (m n:Nat):pwF x (m+n)=pwF x m*pwF x n:=by
 induction n with
 | zero=>rw [Nat.add_zero,Zp4]; generalize pwF x m=z; grind -lia -linarith (splits:=0)
 | succ n ih=>rw [<- Nat.add_assoc,Zab,Zab,ih]; generalize pwF x m=z; generalize pwF x n=w; grind -lia -linarith (splits:=0)
theorem Zyo (x:F) (m n:Nat):pwF x (m*n)=pwF (pwF x m) n:=by
 induction n with
 | zero=>rfl
 | succ n ih=>rw [Nat.mul_succ,Zls,ih,Zab]
theorem Zyp (x:F):pwF x 2=x*x:=by rw [show 2=0+1+1 from rfl,Zab,Zab,Zp4]; grind -lia -linarith (splits:=0)
theorem Z06s (x:F) (n:Nat):(pwF x n).val=x.val^n%pN:=by
 induction n with
 | zero=>rw [Zp4,Nat.pow_zero]; decide +kernel
 | succ n ih=>rw [Zab,Fin.val_mul,ih,Nat.mod_mul_mod,Nat.pow_succ]
theorem Zxf {x:F} {n:Nat} (hn:n=pN-1) (hx:x≠0):pwF x n=1:=by
 have h0:x.val%pN≠0:=by
  intro h
  apply hx
  rw [Nat.mod_eq_of_lt x.isLt] at h
  exact Fin.ext h
 have h:=Zxe h0
 rw [<- hn] at h
 unfold One at h
 apply Fin.ext
 rw [Z06s,h]
 decide +kernel
theorem Zsj {x:F} {n:Nat} (hn:n+2=pN) (hx:x≠0):x*pwF x n=1:=by
 have h:=Zxf (n:=n+1) (by omega) hx
 rw [Zab] at h
 rw [<- h]
 generalize pwF x n=z
 grind -lia -linarith (splits:=0)
theorem Zyx {s:F} {n:Nat} (hn:4*n=pN-1) (hs:s≠0):pwF (s*s) n=1∨pwF (s*s) n = -1:=by
 have h:=Zxf (n:=4*n) hn hs
 have e:pwF (s*s) n*pwF (s*s) n=1:=by
  rw [<- Zyp s,<- Zyo,<- Zls,<- h]
  congr 1
  omega
 generalize pwF (s*s) n=w at *
 have h2:(w-1)*(w+1)=0:=by grind -lia -linarith (splits:=0)
 rcases Zdv h2 with h3 | h3
 ·exact .inl (by grind -lia -linarith (splits:=0))
 ·exact .inr (by grind -lia -linarith (splits:=0))
theorem cand {u v:F} {n m:Nat} (hn:8*n+5=pN) (hm:m=2*n+1) :
  v*(u*(v*v*v)*pwF (u*((v*v*v)*(v*v*v))*v) n*(u*(v*v*v)*pwF (u*((v*v*v)*(v*v*v))*v) n))=u*pwF (u*((v*v*v)*(v*v*v))*v) m:=by
 obtain ⟨a,ha⟩ : ∃ a,a=u*((v*v*v)*(v*v*v))*v:=⟨_,rfl⟩
 rw [<- ha,hm,Zab,Nat.mul_comm,Zyo,Zyp]
 generalize pwF a n=z
 rw [ha]
 grind -lia -linarith (splits:=0)
end Go.Proofs.YtiflckckekjbnaaGreatDoor
namespace Go.Proofs.YtiflckckekjbnaaGreatDoor
open Go Go.Sx Go.RowKit
set_option linter.all false
set_option maxRecDepth 100000
structure Rep (q:Q4) (P:G):Prop where
 z:fi q.z≠0
 x:fi q.x=P.x*fi q.z
 y:fi q.y=P.y*fi q.z
 t:fi q.t=P.x*P.y*fi q.z
theorem Z09a:fi D2=dF+dF:=by decide +kernel
theorem Z01d:fi DD=dF:=by decide +kernel
theorem Z7s {a b:F} (ha:a≠0) (hb:b≠0):a*b≠0:=fun h=>(Zdv h).elim ha hb
theorem Z0sz:(1:F)+1≠0:=by decide +kernel
theorem Znt {e f g h:Int} {P:G} (hf:fi f≠0) (hg:fi g≠0) (he:fi e=P.x*fi g) (hh:fi h=P.y*fi f):Rep (Zpa e f g h) P:=by
 constructor
 ·show fi (f*g)≠0
  rw [Z1b]; exact Z7s hf hg
 ·show fi (e*f)=_*fi (f*g)
  rw [Z1b,Z1b,he]; grind -lia -linarith (splits:=0)
 ·show fi (g*h)=_*fi (f*g)
  rw [Z1b,Z1b,hh]; grind -lia -linarith (splits:=0)
 ·show fi (e*h)=_*fi (f*g)
  rw [Z1b,Z1b,he,hh]; grind -lia -linarith (splits:=0)
theorem Ztg (P Q:G):(Z9m P Q).x*(1+dF*P.x*Q.x*P.y*Q.y)=P.x*Q.y+P.y*Q.x:=by
 have h:=Z6r (Zx7 P.on Q.on)
 show (P.x*Q.y+P.y*Q.x)*Zu0 (1+dF*P.x*Q.x*P.y*Q.y)*_=_
 generalize Zu0 (1+dF*P.x*Q.x*P.y*Q.y)=i at *
 generalize dF=d at *
 grind -lia -linarith (splits:=0)
theorem Zth (P Q:G):(Z9m P Q).y*(1-dF*P.x*Q.x*P.y*Q.y)=P.y*Q.y+P.x*Q.x:=by
 have h:=Z6r (Zx8 P.on Q.on)
 show (P.y*Q.y+P.x*Q.x)*Zu0 (1-dF*P.x*Q.x*P.y*Q.y)*_=_
 generalize Zu0 (1-dF*P.x*Q.x*P.y*Q.y)=i at *
 generalize dF=d at *
 grind -lia -linarith (splits:=0)
theorem Z07m {p q:Q4} {P Q:G} (hp:Rep p P) (hq:Rep q Q):Rep (qadd p q) (Z9m P Q):=by
 have d1:=Zx7 P.on Q.on
 have d2:=Zx8 P.on Q.on
 have ax:=Ztg P Q
 have ay:=Zth P Q
 have hz:=Z7s Z0sz (Z7s hp.z hq.z)
 have ef:fi ((p.z+p.z)*q.z-p.t*D2*q.t)=(1+1)*(fi p.z*fi q.z)*(1-dF*P.x*Q.x*P.y*Q.y):=by
  simp only [Z1b,Zef,Z9o,Z09a,hp.t,hq.t]
  generalize dF=d at *
  grind -lia -linarith (splits:=0)
 have eg:fi ((p.z+p.z)*q.z+p.t*D2*q.t)=(1+1)*(fi p.z*fi q.z)*(1+dF*P.x*Q.x*P.y*Q.y):=by
  simp only [Z1b,Zef,Z9o,Z09a,hp.t,hq.t]
  generalize dF=d at *
  grind -lia -linarith (splits:=0)
 refine Znt ?_ ?_ ?_ ?_
 ·rw [ef]; exact Z7s hz d2
 ·rw [eg]; exact Z7s hz d1
 ·rw [eg]
  simp only [Z1b,Zef,Z9o,hp.x,hq.x,hp.y,hq.y]
  generalize dF=d at *
  generalize (Z9m P Q).x=X at *
  grind -lia -linarith (splits:=0)
 ·rw [ef]
  simp only [Z1b,Zef,Z9o,hp.x,hq.x,hp.y,hq.y]
  generalize dF=d at *
  generalize (Z9m P Q).y=Y at *
  grind -lia -linarith (splits:=0)
theorem Z07o {p:Q4} {P:G} (hp:Rep p P):Rep (qdbl p) (Z9m P P):=by
 have d1:=Zx7 P.on P.on
 have d2:=Zx8 P.on P.on
 have ax:=Ztg P P
 have ay:=Zth P P
 have on:=P.on.eq
 have ef:fi (p.z*p.z+p.z*p.z+(p.x*p.x-p.y*p.y))=(fi p.z*fi p.z)*(1-dF*P.x*P.x*P.y*P.y):=by
  simp only [Z1b,Zef,Z9o,hp.x,hp.y]
  generalize dF=d at *
  grind -lia -linarith (splits:=0)
 have eg:fi (p.x*p.x-p.y*p.y) = - (fi p.z*fi p.z)*(1+dF*P.x*P.x*P.y*P.y):=by
  simp only [Z1b,Zef,Z9o,hp.x,hp.y]
  generalize dF=d at *
  grind -lia -linarith (splits:=0)
 have hz:=Z7s hp.z hp.z
 have hz' : - (fi p.z*fi p.z)≠0:=by
  intro h; apply hz
  grind -lia -linarith (splits:=0)
 refine Znt ?_ ?_ ?_ ?_
 ·rw [ef]; exact Z7s hz d2
 ·rw [eg]; exact Z7s hz' d1
 ·rw [eg]
  simp only [Z1b,Zef,Z9o,hp.x,hp.y]
  generalize dF=d at *
  generalize (Z9m P P).x=X at *
  grind -lia -linarith (splits:=0)
 ·rw [ef]
  simp only [Z1b,Zef,Z9o,hp.x,hp.y]
  generalize dF=d at *
  generalize (Z9m P P).y=Y at *
  grind -lia -linarith (splits:=0)
theorem Zz5 {q:Q4} {P:G} (h:Rep q P):Rep (qred q) P:=by
 constructor
 ·show fi (q.z%PP)≠0; rw [Zd2]; exact h.z
 ·show fi (q.x%PP)=_*fi (q.z%PP); rw [Zd2,Zd2]; exact h.x
 ·show fi (q.y%PP)=_*fi (q.z%PP); rw [Zd2,Zd2]; exact h.y
 ·show fi (q.t%PP)=_*fi (q.z%PP); rw [Zd2,Zd2]; exact h.t
theorem Zum:Rep Zvq Zdt:=by
 constructor
 ·show fi 1≠0; decide +kernel
 ·show fi 0=0*fi 1; decide +kernel
 ·show fi 1=1*fi 1; decide +kernel
 ·show fi 0=0*1*fi 1; decide +kernel
def negG (P:G):G:=⟨-P.x,P.y,⟨by have h:=P.on.eq; generalize dF=d at *; grind -lia -linarith (splits:=0)⟩⟩
theorem Z07p {p:Q4} {P:G} (h:Rep p P):Rep ⟨-p.x,p.y,p.z,-p.t⟩ (negG P):=by
 constructor
 ·exact h.z
 ·show fi (-p.x) = -P.x*_; rw [Zgz,h.x]; grind -lia -linarith (splits:=0)
 ·exact h.y
 ·show fi (-p.t) = -P.x*P.y*_; rw [Zgz,h.t]; grind -lia -linarith (splits:=0)
theorem Zpe {p q:Q4} {P Q:G} (hp:Rep p P) (hq:Rep q Q):Rep (Zn4 p q) (Z9m P Q):=Zz5 (Z07m hp hq)
theorem Zl3 {p:Q4} {P:G} (hp:Rep p P):Rep (Zfu p) (Z9m P P):=Zz5 (Z07o hp)
theorem Zsw {p:Q4} {P:G} (hp:Rep p P) : ∀ j,Rep (tab p j) (Zgs j P)
 | 0=>Zum
 | j+1=>Zpe (Zsw hp j) hp
theorem Z01p (P:G):Zgs 1 P=P:=Z00j P
theorem Zc9 (P:G):Zgs 2 P=Z9m P P:=by
 show Z9m (Zgs 1 P) P=_
 rw [Z01p]
theorem Z02n {p:Q4} {P:G} (hp:Rep p P):Rep (dbl4 p) (Zgs 16 P):=by
 have h:=Zl3 (Zl3 (Zl3 (Zl3 hp)))
 rw [<- Zc9,<- Zc9,<- Zc9,<- Zc9,<- Za9,<- Za9,<- Za9] at h
 exact h
def nacc (k:LI):Nat->Nat
 | 0=>0
 | i+1=>16*nacc k i+(nib k i).toNat
theorem Zr6 {p r:Q4} {P R:G} (k l:LI) (hp:Rep p P) (hr:Rep r R) : ∀ i,Rep (Zkj k l p r i) (Z9m (Zgs (nacc k i) P) (Zgs (nacc l i) R))
 | 0=>by
  show Rep Zvq (Z9m Zdt Zdt)
  rw [Zhr]; exact Zum
 | i+1=>by
  have h:=Zpe (Zpe (Z02n (Zr6 k l hp hr i)) (Zsw hp (nib k i).toNat)) (Zsw hr (nib l i).toNat)
  rw [Zy2,<- Za9,<- Za9,Zba,Zps,<- Zi2,<- Zi2] at h
  exact h
def Zlj (k:LI):Nat->Int
 | 0=>0
 | j+1=>Zlj k j*256+k.getD (31-j) 0
theorem Zoz {k:LI} (hk:Byt k) : ∀ j,(nacc k (2*j):Int)=Zlj k j
 | 0=>rfl
 | j+1=>by
  have ih:=Zoz hk j
  have hb:=hk (31-j)
  have e1:nib k (2*j)=k.getD (31-j) 0 / 16%16:=by unfold nib; rw [if_pos (by omega),show 2*j / 2=j by omega]
  have e2:nib k (2*j+1)=k.getD (31-j) 0%16:=by unfold nib; rw [if_neg (by omega),show (2*j+1) / 2=j by omega]
  show ((16*(16*nacc k (2*j)+(nib k (2*j)).toNat)+(nib k (2*j+1)).toNat:Nat):Int)=Zlj k j*256+k.getD (31-j) 0
  rw [e1,e2]
  generalize k.getD (31-j) 0=b at *
  generalize nacc k (2*j)=n at *
  generalize Zlj k j=m at *
  omega
def Zgo (x:LI):Int:=x.getD 0 0+x.getD 1 0*256+x.getD 2 0*65536+x.getD 3 0*16777216+x.getD 4 0*4294967296+x.getD 5 0*1099511627776+x.getD 6 0*281474976710656+x.getD 7 0*72057594037927936+x.getD 8 0*18446744073709551616+x.getD 9 0*4722366482869645213696+x.getD 10 0*1208925819614629174706176+x.getD 11 0*309485009821345068724781056+x.getD 12 0*79228162514264337593543950336+x.getD 13 0*20282409603651670423947251286016+x.getD 14 0*5192296858534827628530496329220096+x.getD 15 0*1329227995784915872903807060280344576+x.getD 16 0*340282366920938463463374607431768211456+x.getD 17 0*87112285931760246646623899502532662132736+x.getD 18 0*22300745198530623141535718272648361505980416+x.getD 19 0*5708990770823839524233143877797980545530986496+x.getD 20 0*1461501637330902918203684832716283019655932542976+x.getD 21 0*374144419156711147060143317175368453031918731001856+x.getD 22 0*95780971304118053647396689196894323976171195136475136+x.getD 23 0*24519928653854221733733552434404946937899825954937634816+x.getD 24 0*6277101735386680763835789423207666416102355444464034512896+x.getD 25 0*1606938044258990275541962092341162602522202993782792835301376+x.getD 26 0*411376139330301510538742295639337626245683966408394965837152256+x.getD 27 0*105312291668557186697918027683670432318895095400549111254310977536+x.getD 28 0*26959946667150639794667015087019630673637144422540572481103610249216+x.getD 29 0*6901746346790563787434755862277025452451108972170386555162524223799296+x.getD 30 0*1766847064778384329583297500742918515827483896875618958121606201292619776+x.getD 31 0*452312848583266388373324160190187140051835877600158453279131187530910662656
theorem Zhc (k:LI):Zlj k 32=Zgo k:=by
 simp only [Zlj,Zgo]
 simp only [Nat.reduceSub]
 omega
theorem Zy8 {k:LI} (hk:Byt k):nacc k 64=(Zgo k).toNat:=by
 have h:(nacc k 64:Int)=Zlj k 32:=Zoz hk 32
 rw [Zhc] at h
 omega
theorem Zea {k:LI} (hk:Byt k):0<=Zgo k:=by
 have h:(nacc k 64:Int)=Zlj k 32:=Zoz hk 32
 rw [Zhc] at h
 omega
def Znc (e:LI):Nat->Nat
 | 0=>0
 | k+1=>if ebit e (255-k) then 2*Znc e k+1 else 2*Znc e k
theorem Zsd (x:Int) (e:LI) : ∀ k,fi (pw x e k)=pwF (fi x) (Znc e k)
 | 0=>Zxg
 | k+1=>by
  have ih:=Zsd x e k
  simp only [pw,Znc]
  split
  ·rw [Zd2,Z1b,Zd2,Z1b,ih,Zab,Nat.two_mul,Zls]
  ·rw [Zd2,Z1b,ih,Nat.two_mul,Zls]
theorem Zoh:Znc Zq3 256+2=pN:=by decide +kernel
theorem Zs3:8*Znc esq 256+5=pN:=by decide +kernel
theorem Z064 {a:Int} (h:fi a≠0):fi a*fi (Zxh a)=1:=by
 unfold Zxh
 rw [Zsd,Zd2]
 exact Zsj Zoh h
theorem Ztu:fi Zmj*fi Zmj = -1:=by decide +kernel
def encG (P:G):LI:=Zom (fv P.x) (fv P.y)
theorem Zs9 {x y u v:Int} (h1:x%PP=u%PP) (h2:y%PP=v%PP):Zom x y=Zom u v:=by
 unfold Zom; rw [h1,h2]
theorem Z07n {q:Q4} {P:G} (h:Rep q P):fi (q.x*Zxh q.z)=P.x/\fi (q.y*Zxh q.z)=P.y:=by
 have hi:=Z064 h.z
 rw [Z1b,Z1b,h.x,h.y]
 generalize fi (Zxh q.z)=i at *
 generalize fi q.z=z at *
 exact ⟨by grind -lia -linarith (splits:=0),by grind -lia -linarith (splits:=0)⟩
theorem Ztw (x:F):fv x%PP=fv x:=Int.emod_eq_of_lt (Zli x).1 (Zli x).2
theorem Z060 {q:Q4} {P:G} (h:Rep q P):encQ q=encG P:=by
 have ha:=Z07n h
 refine Zs9 ?_ ?_
 ·rw [Ztw,<- ha.1,Zsf]
 ·rw [Ztw,<- ha.2,Zsf]
theorem Zwx (n:Int):Byt (byt n):=byt_of (by
 unfold byt
 repeat' (first | exact List.forall_mem_nil _ | refine List.forall_mem_cons.2 ⟨?_,?_⟩)
 all_goals omega)
theorem Zg5 (n:Int):(byt n).length=32:=rfl
theorem Z0pd {x:Int} (h0:0<=x) (h1:x<128):Z4 .or .u8 x 128=x+128:=by
 have:x=((x.toNat:Nat):Int):=by omega
 rw [this]
 have hx:x.toNat<128:=by omega
 generalize x.toNat=n at *
 have h : ∀ n:Fin 128,Z4 .or .u8 ((n.val:Nat):Int) 128=(n.val:Int)+128:=by decide +kernel
 exact h ⟨n,hx⟩
theorem Z08t {n:Int} (h0:0<=n) (h1:n<PP):0<=(byt n).getD 31 0/\(byt n).getD 31 0<128:=by
 have e:(byt n).getD 31 0=n / 452312848583266388373324160190187140051835877600158453279131187530910662656%256:=rfl
 rw [e]
 unfold PP at h1
 omega
theorem Zsz {l:LI} {i:Nat} {v:Int} (h:i<l.length):(Z2u l i v).length=l.length:=by rw [Zzn h,List.length_set]
theorem Zvb (x y:Int):(Zom x y).length=32:=by
 unfold Zom
 split
 ·rw [Zsz (by rw [Zg5]; decide),Zg5]
 ·exact Zg5 _
theorem Z09e (y:F):fv (-y)=(- fv y)%57896044618658097711785492504343953926634992332820282019728792003956564819949:=by
 have h:=Zsf (- fv y)
 rw [Zgz,Z065] at h
 exact h
theorem Z01t {b:Int} (hy:0<=b/\b<57896044618658097711785492504343953926634992332820282019728792003956564819949) (h0 : ¬ b=0) : -b%57896044618658097711785492504343953926634992332820282019728792003956564819949=57896044618658097711785492504343953926634992332820282019728792003956564819949-b:=by
 rw [<- Int.add_emod_right,Int.emod_eq_of_lt (by omega) (by omega)]; omega
theorem par {x y:F} (h:fv x%2=fv y%2) (h2:x = -y):x=y:=by
 have e:=Z09e y
 rw [<- h2] at e
 have hx:=Zli x
 have hy:=Zli y
 apply Z09d
 clear h2
 generalize fv x=a at *
 generalize fv y=b at *
 by_cases h0:b=0
 ·subst h0; rw [e]; rfl
 ·rw [Z01t hy h0] at e
  omega
theorem Z015 (y d j:F) (h:1+d*y*y=0) (hj:j*j+1=0):j*j=d*(y*y):=by grind -lia -linarith (splits:=0)
theorem Z021 (y d:F) (hy:y=0) (h:1+d*y*y=0):(1:F)=0:=by grind -lia -linarith (splits:=0)
theorem Z0k4 (y:F):1+dF*y*y≠0:=by
 intro h
 have:=Zpy _ _ (Z015 y dF iF h Z09f)
 exact absurd (Z021 y dF this h) (by decide +kernel)
theorem Zmm (a b:F) (h:a-b=0):a=b:=by grind -lia -linarith (splits:=0)
theorem Zrx (a b:F) (h:a+b=0):a = -b:=by grind -lia -linarith (splits:=0)
theorem Z9s {a:Int}:fi a=0↔a%PP=0:=by
 rw [<- fi_0,Zmw]; rfl
theorem Zxb {a:Int} (h0 : ¬ a%57896044618658097711785492504343953926634992332820282019728792003956564819949=0) : -a%57896044618658097711785492504343953926634992332820282019728792003956564819949=57896044618658097711785492504343953926634992332820282019728792003956564819949-a%57896044618658097711785492504343953926634992332820282019728792003956564819949:=by omega
theorem Zkt (a:Int):Zxc a%PP%2=0:=by
 unfold Zxc PP
 by_cases h:a%57896044618658097711785492504343953926634992332820282019728792003956564819949%2=1
 ·have hb:(a%57896044618658097711785492504343953926634992332820282019728792003956564819949%2==1)=true:=by simpa using h
  rw [hb]
  show -a%57896044618658097711785492504343953926634992332820282019728792003956564819949%2=0
  rw [Zxb (by intro h0; rw [h0] at h; exact absurd h (by decide))]
  generalize a%57896044618658097711785492504343953926634992332820282019728792003956564819949=b at *
  clear hb
  omega
 ·have hb:(a%57896044618658097711785492504343953926634992332820282019728792003956564819949%2==1)=false:=by simpa using h
  rw [hb]
  show a%57896044618658097711785492504343953926634992332820282019728792003956564819949%2=0
  generalize a%57896044618658097711785492504343953926634992332820282019728792003956564819949=b at *
  clear hb
  omega
theorem Zoo (a:Int):fi (Zxc a)*fi (Zxc a)=fi a*fi a:=by
 unfold Zxc
 cases h:(a%PP%2==1)
 ·rfl
 ·show fi (-a)*fi (-a)=_
  rw [Zgz]; grind -lia -linarith (splits:=0)
theorem Zmi {a b:Int} (hb:fi b≠0) (h:(Zwg a b).2=true):fi b*(fi (Zwg a b).1*fi (Zwg a b).1)=fi a/\(Zwg a b).1%PP%2=0:=by
 have hb' : ¬ b%PP=0:=fun e=>hb (Z9s.2 e)
 unfold Zwg at h ⊢
 rw [if_neg hb'] at h ⊢
 split
 ·next h1 =>
  refine ⟨?_,Zkt _⟩
  rw [Zoo,<- Z1b,<- Z1b]
  exact Zmw.2 h1
 ·next h1 =>
  rw [if_neg h1] at h
  split
  ·next h2 =>
   refine ⟨?_,Zkt _⟩
   rw [Zoo]
   have e:=Zmw.2 h2
   have e2:=Ztu
   rw [Z1b,Z1b,Zgz] at e
   rw [Z1b]
   generalize fi Zmj=j at *
   generalize fi (Zpp a b)=r at *
   grind -lia -linarith (splits:=0)
  ·next h2 =>
   rw [if_neg h2] at h
   cases h
theorem Zrh {a b:Int} (hb:fi b≠0) {x:F} (hx:fi b*(x*x)=fi a):(Zwg a b).2=true:=by
 have hb' : ¬ b%PP=0:=fun e=>hb (Z9s.2 e)
 have hc:=cand (u:=fi a) (v:=fi b) (m:=2*Znc esq 256+1) Zs3 rfl
 have er:fi (Zpp a b)=fi a*(fi b*fi b*fi b)*pwF (fi a*((fi b*fi b*fi b)*(fi b*fi b*fi b))*fi b) (Znc esq 256):=by
  unfold Zpp
  simp only [Z1b,Zsd,Zd2]
 rw [<- er] at hc
 have hq:fi b*(fi (Zpp a b)*fi (Zpp a b))=fi a∨fi b*(fi (Zpp a b)*fi (Zpp a b)) = - fi a:=by
  rw [hc]
  by_cases hx0:x=0
  ·left
   have:fi a=0:=by rw [<- hx,hx0]; generalize fi b=v; grind -lia -linarith (splits:=0)
   rw [this]
   generalize pwF _ _=z
   grind -lia -linarith (splits:=0)
  ·have hs:fi a*((fi b*fi b*fi b)*(fi b*fi b*fi b))*fi b=(x*(fi b*fi b*fi b*fi b))*(x*(fi b*fi b*fi b*fi b)):=by
    rw [<- hx]; generalize fi b=v; grind -lia -linarith (splits:=0)
   rw [hs]
   have hn:x*(fi b*fi b*fi b*fi b)≠0:=Z7s hx0 (Z7s (Z7s (Z7s hb hb) hb) hb)
   rcases Zyx (n:=2*Znc esq 256+1) (by have:=Zs3; omega) hn with e | e
   ·left; rw [e]; grind -lia -linarith (splits:=0)
   ·right; rw [e]; grind -lia -linarith (splits:=0)
 unfold Zwg
 rw [if_neg hb']
 split
 ·rfl
 ·next h1 =>
  split
  ·rfl
  ·next h2 =>
   exfalso
   rcases hq with e | e
   ·apply h1; apply Zmw.1; rw [Z1b,Z1b]; exact e
   ·apply h2; apply Zmw.1; rw [Z1b,Z1b,Zgz]; exact e
theorem Zuo (y:Int):fi (DD*(y*y)+1)≠0:=by
 have h:=Z0k4 (fi y)
 intro e
 apply h
 rw [Z9o,Z1b,Z1b,Z01d,Zxg] at e
 generalize dF=d at *
 grind -lia -linarith (splits:=0)
theorem Z07t {y:Int} (h:(Z7h y).2=true):On (fi (Z7h y).1) (fi y):=by
 have hs:=(Zmi (Zuo y) h).1
 constructor
 have e:fi (DD*(y*y)+1)*(fi (Z7h y).1*fi (Z7h y).1)=fi (y*y-1):=hs
 rw [Z9o,Z1b,Z1b,Z01d,Zxg,Zef,Z1b,Zxg] at e
 generalize dF=d at *
 generalize fi (Z7h y).1=x at *
 grind -lia -linarith (splits:=0)
theorem Z0eq {x y:F} (h:On x y):On (-x) y:=⟨by have e:=h.eq; generalize dF=d at *; grind -lia -linarith (splits:=0)⟩
theorem Zpz {p:LI} (h:dok p=true):dcan p=true/\(Z7h (Z8b (Z1k p))).2=true /\ ¬ (Zq2 p=1/\(Z7h (Z8b (Z1k p))).1%PP=0):=by
 unfold dok at h
 simp only [Bool.and_eq_true,Bool.not_eq_true'] at h
 refine ⟨h.1.1,h.1.2,?_⟩
 intro hh
 have:=h.2
 simp [hh.1,hh.2] at this
theorem Zx6 {p:LI} (h:dok p=true) : ∃ P:G,Rep (dpt p) P/\P.y=fi (Z8b (Z1k p))/\P.x=fi (dx p):=by
 obtain ⟨_,h2,_⟩:=Zpz h
 have on:=Z07t h2
 have on2:On (fi (dx p)) (fi (Z8b (Z1k p))):=by
  unfold dx
  split
  ·rw [Zgz]; exact Z0eq on
  ·exact on
 refine ⟨⟨_,_,on2⟩,⟨?_,?_,?_,?_⟩,rfl,rfl⟩
 ·show fi 1≠0; decide +kernel
 ·show fi (dx p)=fi (dx p)*fi 1; rw [Zxg]; grind -lia -linarith (splits:=0)
 ·show fi (Z8b (Z1k p))=fi (Z8b (Z1k p))*fi 1; rw [Zxg]; grind -lia -linarith (splits:=0)
 ·show fi (dx p*Z8b (Z1k p))=fi (dx p)*fi (Z8b (Z1k p))*fi 1; rw [Zxg,Z1b]; grind -lia -linarith (splits:=0)
end Go.Proofs.YtiflckckekjbnaaGreatDoor
namespace Go.Proofs.YtiflckckekjbnaaGreatDoor
open Go Go.Sx Go.RowKit
open Go.IntKind (wrap)
set_option linter.all false
set_option maxRecDepth 100000
set_option maxHeartbeats 1000000
theorem Zrf (k:Nat) {b:Int} (hk:k<=56) (h:0<=b/\b<256):Zl .u64 (wrap .u64 b) (k:Int)=b*((2^k:Nat):Int):=by
 have hp:(0:Int)<((2^k:Nat):Int):=by have:=Nat.pow_pos (n:=k) (show 0<2 by decide); omega
 have hle:((2^k:Nat):Int)<=72057594037927936:=by
  have:=Nat.pow_le_pow_right (show 0<2 by decide) hk
  have e:(2^56:Nat)=72057594037927936:=by decide
  omega
 have h1:b*((2^k:Nat):Int)<=255*72057594037927936:=Int.mul_le_mul (by omega) hle (by omega) (by omega)
 have h0:0<=b*((2^k:Nat):Int):=Int.mul_nonneg h.1 (by omega)
 rw [Zd h.1 (by omega),Zg0 .u64 (n:=k) (by show k<=64; omega),Zd h0 (by omega)]
theorem Zb2 {b0 b1 b2 b3 b4 b5 b6 b7:Int} (h0:0<=b0/\b0<256) (h1:0<=b1/\b1<256) (h2:0<=b2/\b2<256) (h3:0<=b3/\b3<256) (h4:0<=b4/\b4<256) (h5:0<=b5/\b5<256) (h6:0<=b6/\b6<256) (h7:0<=b7/\b7<256):Z4 .or .u64 (Z4 .or .u64 (Z4 .or .u64 (Z4 .or .u64 (Z4 .or .u64 (Z4 .or .u64 (Z4 .or .u64 (Z4 .or .u64 (0) (Zl .u64 (wrap .u64 (b0)) 0)) (Zl .u64 (wrap .u64 (b1)) 8)) (Zl .u64 (wrap .u64 (b2)) 16)) (Zl .u64 (wrap .u64 (b3)) 24)) (Zl .u64 (wrap .u64 (b4)) 32)) (Zl .u64 (wrap .u64 (b5)) 40)) (Zl .u64 (wrap .u64 (b6)) 48)) (Zl .u64 (wrap .u64 (b7)) 56)=b0+b1*256+b2*65536+b3*16777216+b4*4294967296+b5*1099511627776+b6*281474976710656+b7*72057594037927936:=by
 have s0:=Zrf 0 (by decide) h0
 have s1:=Zrf 8 (by decide) h1
 have s2:=Zrf 16 (by decide) h2
 have s3:=Zrf 24 (by decide) h3
 have s4:=Zrf 32 (by decide) h4
 have s5:=Zrf 40 (by decide) h5
 have s6:=Zrf 48 (by decide) h6
 have s7:=Zrf 56 (by decide) h7
 have t0:Zl .u64 (wrap .u64 b0) 0=b0*1:=s0
 have t1:Zl .u64 (wrap .u64 b1) 8=b1*256:=s1
 have t2:Zl .u64 (wrap .u64 b2) 16=b2*65536:=s2
 have t3:Zl .u64 (wrap .u64 b3) 24=b3*16777216:=s3
 have t4:Zl .u64 (wrap .u64 b4) 32=b4*4294967296:=s4
 have t5:Zl .u64 (wrap .u64 b5) 40=b5*1099511627776:=s5
 have t6:Zl .u64 (wrap .u64 b6) 48=b6*281474976710656:=s6
 have t7:Zl .u64 (wrap .u64 b7) 56=b7*72057594037927936:=s7
 rw [t0,t1,t2,t3,t4,t5,t6,t7]
 rw [Z14 0 (x:=b0*1) (y:=0) (a:=b0) rfl (by omega) (by omega) (by decide) (by omega)]
 rw [Z14 8 (x:=b1*256) (a:=b1) rfl (by omega) (by omega) (by show _<(256:Int); omega) (by omega)]
 rw [Z14 16 (x:=b2*65536) (a:=b2) rfl (by omega) (by omega) (by show _<(65536:Int); omega) (by omega)]
 rw [Z14 24 (x:=b3*16777216) (a:=b3) rfl (by omega) (by omega) (by show _<(16777216:Int); omega) (by omega)]
 rw [Z14 32 (x:=b4*4294967296) (a:=b4) rfl (by omega) (by omega) (by show _<(4294967296:Int); omega) (by omega)]
 rw [Z14 40 (x:=b5*1099511627776) (a:=b5) rfl (by omega) (by omega) (by show _<(1099511627776:Int); omega) (by omega)]
 rw [Z14 48 (x:=b6*281474976710656) (a:=b6) rfl (by omega) (by omega) (by show _<(281474976710656:Int); omega) (by omega)]
 rw [Z14 56 (x:=b7*72057594037927936) (a:=b7) rfl (by omega) (by omega) (by show _<(72057594037927936:Int); omega) (by omega)]
 omega
theorem Z01l {p:LI} (h:Byt p) : ∃ r,Za1 p=some r/\W64 r/\r.length=4/\V4 r=Zgo p:=by
 refine ⟨_,Znm p,Zkc ?_,rfl,?_⟩
 ·repeat' (first | exact Znn _ _ | exact List.forall_mem_nil _ | refine List.forall_mem_cons.2 ⟨?_,?_⟩)
 ·unfold V4
  simp only [List.getD_cons_zero,List.getD_cons_succ]
  rw [Zb2 (h 0) (h 1) (h 2) (h 3) (h 4) (h 5) (h 6) (h 7)]
  rw [Zb2 (h 8) (h 9) (h 10) (h 11) (h 12) (h 13) (h 14) (h 15)]
  rw [Zb2 (h 16) (h 17) (h 18) (h 19) (h 20) (h 21) (h 22) (h 23)]
  rw [Zb2 (h 24) (h 25) (h 26) (h 27) (h 28) (h 29) (h 30) (h 31)]
  unfold Zgo
  omega
theorem Z2n (x:Int):Zq .u64 x 8=x / 256:=by have:=Z9p .u64 (x:=x) (n:=8) (by decide); simpa using this
theorem Z04x {p:LI} (h:W64 p):V4 p%18446744073709551616=p.getD 0 0/\V4 p / 18446744073709551616%18446744073709551616=p.getD 1 0/\V4 p / 340282366920938463463374607431768211456%18446744073709551616=p.getD 2 0/\V4 p / 6277101735386680763835789423207666416102355444464034512896%18446744073709551616=p.getD 3 0:=by
 have h0:=h 0
 have h1:=h 1
 have h2:=h 2
 have h3:=h 3
 unfold V4
 refine ⟨by omega,by omega,by omega,by omega⟩
theorem sb_0 {n x:Int} (h:n%18446744073709551616=x):wrap .u8 (x)=n%256:=by
 simp only [Z2n,Z0s]
 omega
theorem sb_1 {n x:Int} (h:n%18446744073709551616=x):wrap .u8 (Zq .u64 (x) 8)=n / 256%256:=by
 simp only [Z2n,Z0s]
 omega
theorem sb_2 {n x:Int} (h:n%18446744073709551616=x):wrap .u8 (Zq .u64 (Zq .u64 (x) 8) 8)=n / 65536%256:=by
 simp only [Z2n,Z0s]
 omega
theorem sb_3 {n x:Int} (h:n%18446744073709551616=x):wrap .u8 (Zq .u64 (Zq .u64 (Zq .u64 (x) 8) 8) 8)=n / 16777216%256:=by
 simp only [Z2n,Z0s]
 omega
theorem sb_4 {n x:Int} (h:n%18446744073709551616=x):wrap .u8 (Zq .u64 (Zq .u64 (Zq .u64 (Zq .u64 (x) 8) 8) 8) 8)=n / 4294967296%256:=by
 simp only [Z2n,Z0s]
 omega
theorem sb_5 {n x:Int} (h:n%18446744073709551616=x):wrap .u8 (Zq .u64 (Zq .u64 (Zq .u64 (Zq .u64 (Zq .u64 (x) 8) 8) 8) 8) 8)=n / 1099511627776%256:=by
 simp only [Z2n,Z0s]
 omega
theorem sb_6 {n x:Int} (h:n%18446744073709551616=x):wrap .u8 (Zq .u64 (Zq .u64 (Zq .u64 (Zq .u64 (Zq .u64 (Zq .u64 (x) 8) 8) 8) 8) 8) 8)=n / 281474976710656%256:=by
 simp only [Z2n,Z0s]
 omega
theorem sb_7 {n x:Int} (h:n%18446744073709551616=x):wrap .u8 (Zq .u64 (Zq .u64 (Zq .u64 (Zq .u64 (Zq .u64 (Zq .u64 (Zq .u64 (x) 8) 8) 8) 8) 8) 8) 8)=n / 72057594037927936%256:=by
 simp only [Z2n,Z0s]
 omega
theorem sb_8 {n x:Int} (h:n / 18446744073709551616%18446744073709551616=x):wrap .u8 (x)=n / 18446744073709551616%256:=by
 simp only [Z2n,Z0s]
 omega
theorem sb_9 {n x:Int} (h:n / 18446744073709551616%18446744073709551616=x):wrap .u8 (Zq .u64 (x) 8)=n / 4722366482869645213696%256:=by
 simp only [Z2n,Z0s]
 omega
theorem Z0s7 {n x:Int} (h:n / 18446744073709551616%18446744073709551616=x):wrap .u8 (Zq .u64 (Zq .u64 (x) 8) 8)=n / 1208925819614629174706176%256:=by
 simp only [Z2n,Z0s]
 omega
theorem Z0s8 {n x:Int} (h:n / 18446744073709551616%18446744073709551616=x):wrap .u8 (Zq .u64 (Zq .u64 (Zq .u64 (x) 8) 8) 8)=n / 309485009821345068724781056%256:=by
 simp only [Z2n,Z0s]
 omega
theorem Z0s9 {n x:Int} (h:n / 18446744073709551616%18446744073709551616=x):wrap .u8 (Zq .u64 (Zq .u64 (Zq .u64 (Zq .u64 (x) 8) 8) 8) 8)=n / 79228162514264337593543950336%256:=by
 simp only [Z2n,Z0s]
 omega
theorem Z0sa {n x:Int} (h:n / 18446744073709551616%18446744073709551616=x):wrap .u8 (Zq .u64 (Zq .u64 (Zq .u64 (Zq .u64 (Zq .u64 (x) 8) 8) 8) 8) 8)=n / 20282409603651670423947251286016%256:=by
 simp only [Z2n,Z0s]
 omega
theorem Z0sb {n x:Int} (h:n / 18446744073709551616%18446744073709551616=x):wrap .u8 (Zq .u64 (Zq .u64 (Zq .u64 (Zq .u64 (Zq .u64 (Zq .u64 (x) 8) 8) 8) 8) 8) 8)=n / 5192296858534827628530496329220096%256:=by
 simp only [Z2n,Z0s]
 omega
theorem Z0sc {n x:Int} (h:n / 18446744073709551616%18446744073709551616=x):wrap .u8 (Zq .u64 (Zq .u64 (Zq .u64 (Zq .u64 (Zq .u64 (Zq .u64 (Zq .u64 (x) 8) 8) 8) 8) 8) 8) 8)=n / 1329227995784915872903807060280344576%256:=by
 simp only [Z2n,Z0s]
 omega
theorem Z0sd {n x:Int} (h:n / 340282366920938463463374607431768211456%18446744073709551616=x):wrap .u8 (x)=n / 340282366920938463463374607431768211456%256:=by
 simp only [Z2n,Z0s]
 omega
theorem Z0se {n x:Int} (h:n / 340282366920938463463374607431768211456%18446744073709551616=x):wrap .u8 (Zq .u64 (x) 8)=n / 87112285931760246646623899502532662132736%256:=by
 simp only [Z2n,Z0s]
 omega
theorem Z0sf {n x:Int} (h:n / 340282366920938463463374607431768211456%18446744073709551616=x):wrap .u8 (Zq .u64 (Zq .u64 (x) 8) 8)=n / 22300745198530623141535718272648361505980416%256:=by
 simp only [Z2n,Z0s]
 omega
theorem Z0sg {n x:Int} (h:n / 340282366920938463463374607431768211456%18446744073709551616=x):wrap .u8 (Zq .u64 (Zq .u64 (Zq .u64 (x) 8) 8) 8)=n / 5708990770823839524233143877797980545530986496%256:=by
 simp only [Z2n,Z0s]
 omega
theorem Z0sh {n x:Int} (h:n / 340282366920938463463374607431768211456%18446744073709551616=x):wrap .u8 (Zq .u64 (Zq .u64 (Zq .u64 (Zq .u64 (x) 8) 8) 8) 8)=n / 1461501637330902918203684832716283019655932542976%256:=by
 simp only [Z2n,Z0s]
 omega
theorem Z0si {n x:Int} (h:n / 340282366920938463463374607431768211456%18446744073709551616=x):wrap .u8 (Zq .u64 (Zq .u64 (Zq .u64 (Zq .u64 (Zq .u64 (x) 8) 8) 8) 8) 8)=n / 374144419156711147060143317175368453031918731001856%256:=by
 simp only [Z2n,Z0s]
 omega
theorem Z0sj {n x:Int} (h:n / 340282366920938463463374607431768211456%18446744073709551616=x):wrap .u8 (Zq .u64 (Zq .u64 (Zq .u64 (Zq .u64 (Zq .u64 (Zq .u64 (x) 8) 8) 8) 8) 8) 8)=n / 95780971304118053647396689196894323976171195136475136%256:=by
 simp only [Z2n,Z0s]
 omega
theorem Z0sk {n x:Int} (h:n / 340282366920938463463374607431768211456%18446744073709551616=x):wrap .u8 (Zq .u64 (Zq .u64 (Zq .u64 (Zq .u64 (Zq .u64 (Zq .u64 (Zq .u64 (x) 8) 8) 8) 8) 8) 8) 8)=n / 24519928653854221733733552434404946937899825954937634816%256:=by
 simp only [Z2n,Z0s]
 omega
theorem Z0sl {n x:Int} (h:n / 6277101735386680763835789423207666416102355444464034512896%18446744073709551616=x):wrap .u8 (x)=n / 6277101735386680763835789423207666416102355444464034512896%256:=by
 simp only [Z2n,Z0s]
 omega
theorem Z0sm {n x:Int} (h:n / 6277101735386680763835789423207666416102355444464034512896%18446744073709551616=x):wrap .u8 (Zq .u64 (x) 8)=n / 1606938044258990275541962092341162602522202993782792835301376%256:=by
 simp only [Z2n,Z0s]
 omega
theorem Z0sn {n x:Int} (h:n / 6277101735386680763835789423207666416102355444464034512896%18446744073709551616=x):wrap .u8 (Zq .u64 (Zq .u64 (x) 8) 8)=n / 411376139330301510538742295639337626245683966408394965837152256%256:=by
 simp only [Z2n,Z0s]
 omega
theorem Z0so {n x:Int} (h:n / 6277101735386680763835789423207666416102355444464034512896%18446744073709551616=x):wrap .u8 (Zq .u64 (Zq .u64 (Zq .u64 (x) 8) 8) 8)=n / 105312291668557186697918027683670432318895095400549111254310977536%256:=by
 simp only [Z2n,Z0s]
 omega
theorem Z0sp {n x:Int} (h:n / 6277101735386680763835789423207666416102355444464034512896%18446744073709551616=x):wrap .u8 (Zq .u64 (Zq .u64 (Zq .u64 (Zq .u64 (x) 8) 8) 8) 8)=n / 26959946667150639794667015087019630673637144422540572481103610249216%256:=by
 simp only [Z2n,Z0s]
 omega
theorem Z0sq {n x:Int} (h:n / 6277101735386680763835789423207666416102355444464034512896%18446744073709551616=x):wrap .u8 (Zq .u64 (Zq .u64 (Zq .u64 (Zq .u64 (Zq .u64 (x) 8) 8) 8) 8) 8)=n / 6901746346790563787434755862277025452451108972170386555162524223799296%256:=by
 simp only [Z2n,Z0s]
 omega
theorem Z0sr {n x:Int} (h:n / 6277101735386680763835789423207666416102355444464034512896%18446744073709551616=x):wrap .u8 (Zq .u64 (Zq .u64 (Zq .u64 (Zq .u64 (Zq .u64 (Zq .u64 (x) 8) 8) 8) 8) 8) 8)=n / 1766847064778384329583297500742918515827483896875618958121606201292619776%256:=by
 simp only [Z2n,Z0s]
 omega
theorem Z0ss {n x:Int} (h:n / 6277101735386680763835789423207666416102355444464034512896%18446744073709551616=x):wrap .u8 (Zq .u64 (Zq .u64 (Zq .u64 (Zq .u64 (Zq .u64 (Zq .u64 (Zq .u64 (x) 8) 8) 8) 8) 8) 8) 8)=n / 452312848583266388373324160190187140051835877600158453279131187530910662656%256:=by
 simp only [Z2n,Z0s]
 omega
theorem Zzy {p:LI} (h:W64 p):Z8x p=some (byt (V4 p)):=by
 obtain ⟨e0,e1,e2,e3⟩:=Z04x h
 rw [Zrj]
 unfold byt
 rw [sb_0 e0,sb_1 e0,sb_2 e0,sb_3 e0,sb_4 e0,sb_5 e0,sb_6 e0,sb_7 e0,sb_8 e1,sb_9 e1,Z0s7 e1,Z0s8 e1,Z0s9 e1,Z0sa e1,Z0sb e1,Z0sc e1,Z0sd e2,Z0se e2,Z0sf e2,Z0sg e2,Z0sh e2,Z0si e2,Z0sj e2,Z0sk e2,Z0sl e3,Z0sm e3,Z0sn e3,Z0so e3,Z0sp e3,Z0sq e3,Z0sr e3,Z0ss e3]
theorem Z037 {n:Int} (h0:0<=n) (h1:n<115792089237316195423570985008687907853269984665640564039457584007913129639936):Zgo (byt n)=n:=by
 simp only [Zgo,byt,List.getD_cons_zero,List.getD_cons_succ]
 omega
theorem Z08m (n:Int):0<=n%VL/\n%VL<VL:=⟨Int.emod_nonneg _ (by decide),Int.emod_lt_of_pos _ (by decide)⟩
theorem Zw2 {p:LI} (h:Byt p):Z37 p=some (decide (Zgo p<VL)):=by
 obtain ⟨r,e,w,l,v⟩:=Z01l h
 obtain ⟨a,c,e2,wa,hc,va⟩:=Zi1 w Zbh
 have ha:=Zee wa
 have hr:=Zee w
 rw [Zo9] at va
 rw [Z37,Z3 e,Z3 e2,<- v]
 rcases hc with h | h
 ·subst h
  rw [decide_eq_false (by omega)]; rfl
 ·subst h
  rw [decide_eq_true (by unfold B4 at *; omega)]; rfl
def wval (x:LI):Int:=x.getD 0 0+x.getD 1 0*256+x.getD 2 0*65536+x.getD 3 0*16777216+x.getD 4 0*4294967296+x.getD 5 0*1099511627776+x.getD 6 0*281474976710656+x.getD 7 0*72057594037927936+x.getD 8 0*18446744073709551616+x.getD 9 0*4722366482869645213696+x.getD 10 0*1208925819614629174706176+x.getD 11 0*309485009821345068724781056+x.getD 12 0*79228162514264337593543950336+x.getD 13 0*20282409603651670423947251286016+x.getD 14 0*5192296858534827628530496329220096+x.getD 15 0*1329227995784915872903807060280344576+x.getD 16 0*340282366920938463463374607431768211456+x.getD 17 0*87112285931760246646623899502532662132736+x.getD 18 0*22300745198530623141535718272648361505980416+x.getD 19 0*5708990770823839524233143877797980545530986496+x.getD 20 0*1461501637330902918203684832716283019655932542976+x.getD 21 0*374144419156711147060143317175368453031918731001856+x.getD 22 0*95780971304118053647396689196894323976171195136475136+x.getD 23 0*24519928653854221733733552434404946937899825954937634816+x.getD 24 0*6277101735386680763835789423207666416102355444464034512896+x.getD 25 0*1606938044258990275541962092341162602522202993782792835301376+x.getD 26 0*411376139330301510538742295639337626245683966408394965837152256+x.getD 27 0*105312291668557186697918027683670432318895095400549111254310977536+x.getD 28 0*26959946667150639794667015087019630673637144422540572481103610249216+x.getD 29 0*6901746346790563787434755862277025452451108972170386555162524223799296+x.getD 30 0*1766847064778384329583297500742918515827483896875618958121606201292619776+x.getD 31 0*452312848583266388373324160190187140051835877600158453279131187530910662656+x.getD 32 0*115792089237316195423570985008687907853269984665640564039457584007913129639936+x.getD 33 0*29642774844752946028434172162224104410437116074403984394101141506025761187823616+x.getD 34 0*7588550360256754183279148073529370729071901715047420004889892225542594864082845696+x.getD 35 0*1942668892225729070919461906823518906642406839052139521251812409738904285205208498176+x.getD 36 0*497323236409786642155382248146820840100456150797347717440463976893159497012533375533056+x.getD 37 0*127314748520905380391777855525586135065716774604121015664758778084648831235208544136462336+x.getD 38 0*32592575621351777380295131014550050576823494298654980010178247189670100796213387298934358016+x.getD 39 0*8343699359066055009355553539724812947666814540455674882605631280555545803830627148527195652096+x.getD 40 0*2135987035920910082395021706169552114602704522356652769947041607822219725780640550022962086936576+x.getD 41 0*546812681195752981093125556779405341338292357723303109106442651602488249799843980805878294255763456+x.getD 42 0*139984046386112763159840142535527767382602843577165595931249318810236991948760059086304843329475444736+x.getD 43 0*35835915874844867368919076489095108449946327955754392558399825615420669938882575126094039892345713852416+x.getD 44 0*9173994463960286046443283581208347763186259956673124494950355357547691504353939232280074212440502746218496+x.getD 45 0*2348542582773833227889480596789337027375682548908319870707290971532209025114608443463698998384768703031934976+x.getD 46 0*601226901190101306339707032778070279008174732520529886901066488712245510429339761526706943586500787976175353856+x.getD 47 0*153914086704665934422965000391185991426092731525255651046673021110334850669910978950836977558144201721900890587136+x.getD 48 0*39402006196394479212279040100143613805079739270465446667948293404245721771497210611414266254884915640806627990306816+x.getD 49 0*10086913586276986678343434265636765134100413253239154346994763111486904773503285916522052161250538404046496765518544896+x.getD 50 0*2582249878086908589655919172003011874329705792829223512830659356540647622016841194629645353280137831435903171972747493376+x.getD 51 0*661055968790248598951915308032771039828404682964281219284648795274405791236311345825189210439715284847591212025023358304256+x.getD 52 0*169230328010303641331690318856389386196071598838855992136870091590247882556495704531248437872567112920983350278405979725889536+x.getD 53 0*43322963970637732180912721627235682866194329302747133987038743447103457934462900359999600095377180907771737671271930809827721216+x.getD 54 0*11090678776483259438313656736572334813745748301503266300681918322458485231222502492159897624416558312389564843845614287315896631296+x.getD 55 0*2839213766779714416208296124562517712318911565184836172974571090549372219192960637992933791850638927971728600024477257552869537611776+x.getD 56 0*726838724295606890549323807888004534353641360687318060281490199180639288113397923326191050713763565560762521606266177933534601628614656+x.getD 57 0*186070713419675363980626894819329160794532188335953423432061490990243657757029868371504908982723472783555205531204141550984858016925351936+x.getD 58 0*47634102635436893179040485073748265163400240214004076398607741693502376385799646303105256699577209032590132615988260237052123652332890095616+x.getD 59 0*12194330274671844653834364178879555881830461494785043558043581873536608354764709453594945715091765512343073949692994620685343654997219864477696+x.getD 60 0*3121748550315992231381597229793166305748598142664971150859156959625371738819765620120306103063491971159826931121406622895447975679288285306290176+x.getD 61 0*799167628880894011233688890827050574271641124522232614619944181664095165137859998750798362384253944616915694367080095461234681773897801038410285056+x.getD 62 0*204586912993508866875824356051724947013540127877691549342705710506008362275292159680204380770369009821930417757972504438076078534117837065833032974336+x.getD 63 0*52374249726338269920211035149241586435466272736689036631732661889538140742474792878132321477214466514414186946040961136147476104734166288853256441430016
theorem Zv5 {p:LI} (h:Byt p):Z4g p=some (byt (wval p%VL)):=by
 rw [Z4g,Z13,Zn6]
 have hw:W64 ([Z4 .or .u64 (Z4 .or .u64 (Z4 .or .u64 (Z4 .or .u64 (Z4 .or .u64 (Z4 .or .u64 (Z4 .or .u64 (Z4 .or .u64 (0) (Zl .u64 (wrap .u64 (p.getD 0 0)) 0)) (Zl .u64 (wrap .u64 (p.getD 1 0)) 8)) (Zl .u64 (wrap .u64 (p.getD 2 0)) 16)) (Zl .u64 (wrap .u64 (p.getD 3 0)) 24)) (Zl .u64 (wrap .u64 (p.getD 4 0)) 32)) (Zl .u64 (wrap .u64 (p.getD 5 0)) 40)) (Zl .u64 (wrap .u64 (p.getD 6 0)) 48)) (Zl .u64 (wrap .u64 (p.getD 7 0)) 56),Z4 .or .u64 (Z4 .or .u64 (Z4 .or .u64 (Z4 .or .u64 (Z4 .or .u64 (Z4 .or .u64 (Z4 .or .u64 (Z4 .or .u64 (0) (Zl .u64 (wrap .u64 (p.getD 8 0)) 0)) (Zl .u64 (wrap .u64 (p.getD 9 0)) 8)) (Zl .u64 (wrap .u64 (p.getD 10 0)) 16)) (Zl .u64 (wrap .u64 (p.getD 11 0)) 24)) (Zl .u64 (wrap .u64 (p.getD 12 0)) 32)) (Zl .u64 (wrap .u64 (p.getD 13 0)) 40)) (Zl .u64 (wrap .u64 (p.getD 14 0)) 48)) (Zl .u64 (wrap .u64 (p.getD 15 0)) 56),Z4 .or .u64 (Z4 .or .u64 (Z4 .or .u64 (Z4 .or .u64 (Z4 .or .u64 (Z4 .or .u64 (Z4 .or .u64 (Z4 .or .u64 (0) (Zl .u64 (wrap .u64 (p.getD 16 0)) 0)) (Zl .u64 (wrap .u64 (p.getD 17 0)) 8)) (Zl .u64 (wrap .u64 (p.getD 18 0)) 16)) (Zl .u64 (wrap .u64 (p.getD 19 0)) 24)) (Zl .u64 (wrap .u64 (p.getD 20 0)) 32)) (Zl .u64 (wrap .u64 (p.getD 21 0)) 40)) (Zl .u64 (wrap .u64 (p.getD 22 0)) 48)) (Zl .u64 (wrap .u64 (p.getD 23 0)) 56),Z4 .or .u64 (Z4 .or .u64 (Z4 .or .u64 (Z4 .or .u64 (Z4 .or .u64 (Z4 .or .u64 (Z4 .or .u64 (Z4 .or .u64 (0) (Zl .u64 (wrap .u64 (p.getD 24 0)) 0)) (Zl .u64 (wrap .u64 (p.getD 25 0)) 8)) (Zl .u64 (wrap .u64 (p.getD 26 0)) 16)) (Zl .u64 (wrap .u64 (p.getD 27 0)) 24)) (Zl .u64 (wrap .u64 (p.getD 28 0)) 32)) (Zl .u64 (wrap .u64 (p.getD 29 0)) 40)) (Zl .u64 (wrap .u64 (p.getD 30 0)) 48)) (Zl .u64 (wrap .u64 (p.getD 31 0)) 56),Z4 .or .u64 (Z4 .or .u64 (Z4 .or .u64 (Z4 .or .u64 (Z4 .or .u64 (Z4 .or .u64 (Z4 .or .u64 (Z4 .or .u64 (0) (Zl .u64 (wrap .u64 (p.getD 32 0)) 0)) (Zl .u64 (wrap .u64 (p.getD 33 0)) 8)) (Zl .u64 (wrap .u64 (p.getD 34 0)) 16)) (Zl .u64 (wrap .u64 (p.getD 35 0)) 24)) (Zl .u64 (wrap .u64 (p.getD 36 0)) 32)) (Zl .u64 (wrap .u64 (p.getD 37 0)) 40)) (Zl .u64 (wrap .u64 (p.getD 38 0)) 48)) (Zl .u64 (wrap .u64 (p.getD 39 0)) 56),Z4 .or .u64 (Z4 .or .u64 (Z4 .or .u64 (Z4 .or .u64 (Z4 .or .u64 (Z4 .or .u64 (Z4 .or .u64 (Z4 .or .u64 (0) (Zl .u64 (wrap .u64 (p.getD 40 0)) 0)) (Zl .u64 (wrap .u64 (p.getD 41 0)) 8)) (Zl .u64 (wrap .u64 (p.getD 42 0)) 16)) (Zl .u64 (wrap .u64 (p.getD 43 0)) 24)) (Zl .u64 (wrap .u64 (p.getD 44 0)) 32)) (Zl .u64 (wrap .u64 (p.getD 45 0)) 40)) (Zl .u64 (wrap .u64 (p.getD 46 0)) 48)) (Zl .u64 (wrap .u64 (p.getD 47 0)) 56),Z4 .or .u64 (Z4 .or .u64 (Z4 .or .u64 (Z4 .or .u64 (Z4 .or .u64 (Z4 .or .u64 (Z4 .or .u64 (Z4 .or .u64 (0) (Zl .u64 (wrap .u64 (p.getD 48 0)) 0)) (Zl .u64 (wrap .u64 (p.getD 49 0)) 8)) (Zl .u64 (wrap .u64 (p.getD 50 0)) 16)) (Zl .u64 (wrap .u64 (p.getD 51 0)) 24)) (Zl .u64 (wrap .u64 (p.getD 52 0)) 32)) (Zl .u64 (wrap .u64 (p.getD 53 0)) 40)) (Zl .u64 (wrap .u64 (p.getD 54 0)) 48)) (Zl .u64 (wrap .u64 (p.getD 55 0)) 56),Z4 .or .u64 (Z4 .or .u64 (Z4 .or .u64 (Z4 .or .u64 (Z4 .or .u64 (Z4 .or .u64 (Z4 .or .u64 (Z4 .or .u64 (0) (Zl .u64 (wrap .u64 (p.getD 56 0)) 0)) (Zl .u64 (wrap .u64 (p.getD 57 0)) 8)) (Zl .u64 (wrap .u64 (p.getD 58 0)) 16)) (Zl .u64 (wrap .u64 (p.getD 59 0)) 24)) (Zl .u64 (wrap .u64 (p.getD 60 0)) 32)) (Zl .u64 (wrap .u64 (p.getD 61 0)) 40)) (Zl .u64 (wrap .u64 (p.getD 62 0)) 48)) (Zl .u64 (wrap .u64 (p.getD 63 0)) 56)]):=Zkc (by
  repeat' (first | exact Znn _ _ | exact List.forall_mem_nil _ | refine List.forall_mem_cons.2 ⟨?_,?_⟩))
 have hv:pV ([Z4 .or .u64 (Z4 .or .u64 (Z4 .or .u64 (Z4 .or .u64 (Z4 .or .u64 (Z4 .or .u64 (Z4 .or .u64 (Z4 .or .u64 (0) (Zl .u64 (wrap .u64 (p.getD 0 0)) 0)) (Zl .u64 (wrap .u64 (p.getD 1 0)) 8)) (Zl .u64 (wrap .u64 (p.getD 2 0)) 16)) (Zl .u64 (wrap .u64 (p.getD 3 0)) 24)) (Zl .u64 (wrap .u64 (p.getD 4 0)) 32)) (Zl .u64 (wrap .u64 (p.getD 5 0)) 40)) (Zl .u64 (wrap .u64 (p.getD 6 0)) 48)) (Zl .u64 (wrap .u64 (p.getD 7 0)) 56),Z4 .or .u64 (Z4 .or .u64 (Z4 .or .u64 (Z4 .or .u64 (Z4 .or .u64 (Z4 .or .u64 (Z4 .or .u64 (Z4 .or .u64 (0) (Zl .u64 (wrap .u64 (p.getD 8 0)) 0)) (Zl .u64 (wrap .u64 (p.getD 9 0)) 8)) (Zl .u64 (wrap .u64 (p.getD 10 0)) 16)) (Zl .u64 (wrap .u64 (p.getD 11 0)) 24)) (Zl .u64 (wrap .u64 (p.getD 12 0)) 32)) (Zl .u64 (wrap .u64 (p.getD 13 0)) 40)) (Zl .u64 (wrap .u64 (p.getD 14 0)) 48)) (Zl .u64 (wrap .u64 (p.getD 15 0)) 56),Z4 .or .u64 (Z4 .or .u64 (Z4 .or .u64 (Z4 .or .u64 (Z4 .or .u64 (Z4 .or .u64 (Z4 .or .u64 (Z4 .or .u64 (0) (Zl .u64 (wrap .u64 (p.getD 16 0)) 0)) (Zl .u64 (wrap .u64 (p.getD 17 0)) 8)) (Zl .u64 (wrap .u64 (p.getD 18 0)) 16)) (Zl .u64 (wrap .u64 (p.getD 19 0)) 24)) (Zl .u64 (wrap .u64 (p.getD 20 0)) 32)) (Zl .u64 (wrap .u64 (p.getD 21 0)) 40)) (Zl .u64 (wrap .u64 (p.getD 22 0)) 48)) (Zl .u64 (wrap .u64 (p.getD 23 0)) 56),Z4 .or .u64 (Z4 .or .u64 (Z4 .or .u64 (Z4 .or .u64 (Z4 .or .u64 (Z4 .or .u64 (Z4 .or .u64 (Z4 .or .u64 (0) (Zl .u64 (wrap .u64 (p.getD 24 0)) 0)) (Zl .u64 (wrap .u64 (p.getD 25 0)) 8)) (Zl .u64 (wrap .u64 (p.getD 26 0)) 16)) (Zl .u64 (wrap .u64 (p.getD 27 0)) 24)) (Zl .u64 (wrap .u64 (p.getD 28 0)) 32)) (Zl .u64 (wrap .u64 (p.getD 29 0)) 40)) (Zl .u64 (wrap .u64 (p.getD 30 0)) 48)) (Zl .u64 (wrap .u64 (p.getD 31 0)) 56),Z4 .or .u64 (Z4 .or .u64 (Z4 .or .u64 (Z4 .or .u64 (Z4 .or .u64 (Z4 .or .u64 (Z4 .or .u64 (Z4 .or .u64 (0) (Zl .u64 (wrap .u64 (p.getD 32 0)) 0)) (Zl .u64 (wrap .u64 (p.getD 33 0)) 8)) (Zl .u64 (wrap .u64 (p.getD 34 0)) 16)) (Zl .u64 (wrap .u64 (p.getD 35 0)) 24)) (Zl .u64 (wrap .u64 (p.getD 36 0)) 32)) (Zl .u64 (wrap .u64 (p.getD 37 0)) 40)) (Zl .u64 (wrap .u64 (p.getD 38 0)) 48)) (Zl .u64 (wrap .u64 (p.getD 39 0)) 56),Z4 .or .u64 (Z4 .or .u64 (Z4 .or .u64 (Z4 .or .u64 (Z4 .or .u64 (Z4 .or .u64 (Z4 .or .u64 (Z4 .or .u64 (0) (Zl .u64 (wrap .u64 (p.getD 40 0)) 0)) (Zl .u64 (wrap .u64 (p.getD 41 0)) 8)) (Zl .u64 (wrap .u64 (p.getD 42 0)) 16)) (Zl .u64 (wrap .u64 (p.getD 43 0)) 24)) (Zl .u64 (wrap .u64 (p.getD 44 0)) 32)) (Zl .u64 (wrap .u64 (p.getD 45 0)) 40)) (Zl .u64 (wrap .u64 (p.getD 46 0)) 48)) (Zl .u64 (wrap .u64 (p.getD 47 0)) 56),Z4 .or .u64 (Z4 .or .u64 (Z4 .or .u64 (Z4 .or .u64 (Z4 .or .u64 (Z4 .or .u64 (Z4 .or .u64 (Z4 .or .u64 (0) (Zl .u64 (wrap .u64 (p.getD 48 0)) 0)) (Zl .u64 (wrap .u64 (p.getD 49 0)) 8)) (Zl .u64 (wrap .u64 (p.getD 50 0)) 16)) (Zl .u64 (wrap .u64 (p.getD 51 0)) 24)) (Zl .u64 (wrap .u64 (p.getD 52 0)) 32)) (Zl .u64 (wrap .u64 (p.getD 53 0)) 40)) (Zl .u64 (wrap .u64 (p.getD 54 0)) 48)) (Zl .u64 (wrap .u64 (p.getD 55 0)) 56),Z4 .or .u64 (Z4 .or .u64 (Z4 .or .u64 (Z4 .or .u64 (Z4 .or .u64 (Z4 .or .u64 (Z4 .or .u64 (Z4 .or .u64 (0) (Zl .u64 (wrap .u64 (p.getD 56 0)) 0)) (Zl .u64 (wrap .u64 (p.getD 57 0)) 8)) (Zl .u64 (wrap .u64 (p.getD 58 0)) 16)) (Zl .u64 (wrap .u64 (p.getD 59 0)) 24)) (Zl .u64 (wrap .u64 (p.getD 60 0)) 32)) (Zl .u64 (wrap .u64 (p.getD 61 0)) 40)) (Zl .u64 (wrap .u64 (p.getD 62 0)) 48)) (Zl .u64 (wrap .u64 (p.getD 63 0)) 56)]) 8=wval p:=by
  simp only [pV,List.getD_cons_zero,List.getD_cons_succ]
  rw [Zb2 (h 0) (h 1) (h 2) (h 3) (h 4) (h 5) (h 6) (h 7)]
  rw [Zb2 (h 8) (h 9) (h 10) (h 11) (h 12) (h 13) (h 14) (h 15)]
  rw [Zb2 (h 16) (h 17) (h 18) (h 19) (h 20) (h 21) (h 22) (h 23)]
  rw [Zb2 (h 24) (h 25) (h 26) (h 27) (h 28) (h 29) (h 30) (h 31)]
  rw [Zb2 (h 32) (h 33) (h 34) (h 35) (h 36) (h 37) (h 38) (h 39)]
  rw [Zb2 (h 40) (h 41) (h 42) (h 43) (h 44) (h 45) (h 46) (h 47)]
  rw [Zb2 (h 48) (h 49) (h 50) (h 51) (h 52) (h 53) (h 54) (h 55)]
  rw [Zb2 (h 56) (h 57) (h 58) (h 59) (h 60) (h 61) (h 62) (h 63)]
  have e0:(18446744073709551616:Int)^0=1:=by decide
  have e1:(18446744073709551616:Int)^1=18446744073709551616:=by decide
  have e2:(18446744073709551616:Int)^2=340282366920938463463374607431768211456:=by decide
  have e3:(18446744073709551616:Int)^3=6277101735386680763835789423207666416102355444464034512896:=by decide
  have e4:(18446744073709551616:Int)^4=115792089237316195423570985008687907853269984665640564039457584007913129639936:=by decide
  have e5:(18446744073709551616:Int)^5=2135987035920910082395021706169552114602704522356652769947041607822219725780640550022962086936576:=by decide
  have e6:(18446744073709551616:Int)^6=39402006196394479212279040100143613805079739270465446667948293404245721771497210611414266254884915640806627990306816:=by decide
  have e7:(18446744073709551616:Int)^7=726838724295606890549323807888004534353641360687318060281490199180639288113397923326191050713763565560762521606266177933534601628614656:=by decide
  rw [e0,e1,e2,e3,e4,e5,e6,e7]
  unfold wval
  omega
 obtain ⟨r,e,w,v⟩:=Zvs hw (Nat.le_refl _)
 rw [tk8,Z3 e,Z3 (Zzy w),v]
 rw [show pV ([Z4 .or .u64 (Z4 .or .u64 (Z4 .or .u64 (Z4 .or .u64 (Z4 .or .u64 (Z4 .or .u64 (Z4 .or .u64 (Z4 .or .u64 (0) (Zl .u64 (wrap .u64 (p.getD 0 0)) 0)) (Zl .u64 (wrap .u64 (p.getD 1 0)) 8)) (Zl .u64 (wrap .u64 (p.getD 2 0)) 16)) (Zl .u64 (wrap .u64 (p.getD 3 0)) 24)) (Zl .u64 (wrap .u64 (p.getD 4 0)) 32)) (Zl .u64 (wrap .u64 (p.getD 5 0)) 40)) (Zl .u64 (wrap .u64 (p.getD 6 0)) 48)) (Zl .u64 (wrap .u64 (p.getD 7 0)) 56),Z4 .or .u64 (Z4 .or .u64 (Z4 .or .u64 (Z4 .or .u64 (Z4 .or .u64 (Z4 .or .u64 (Z4 .or .u64 (Z4 .or .u64 (0) (Zl .u64 (wrap .u64 (p.getD 8 0)) 0)) (Zl .u64 (wrap .u64 (p.getD 9 0)) 8)) (Zl .u64 (wrap .u64 (p.getD 10 0)) 16)) (Zl .u64 (wrap .u64 (p.getD 11 0)) 24)) (Zl .u64 (wrap .u64 (p.getD 12 0)) 32)) (Zl .u64 (wrap .u64 (p.getD 13 0)) 40)) (Zl .u64 (wrap .u64 (p.getD 14 0)) 48)) (Zl .u64 (wrap .u64 (p.getD 15 0)) 56),Z4 .or .u64 (Z4 .or .u64 (Z4 .or .u64 (Z4 .or .u64 (Z4 .or .u64 (Z4 .or .u64 (Z4 .or .u64 (Z4 .or .u64 (0) (Zl .u64 (wrap .u64 (p.getD 16 0)) 0)) (Zl .u64 (wrap .u64 (p.getD 17 0)) 8)) (Zl .u64 (wrap .u64 (p.getD 18 0)) 16)) (Zl .u64 (wrap .u64 (p.getD 19 0)) 24)) (Zl .u64 (wrap .u64 (p.getD 20 0)) 32)) (Zl .u64 (wrap .u64 (p.getD 21 0)) 40)) (Zl .u64 (wrap .u64 (p.getD 22 0)) 48)) (Zl .u64 (wrap .u64 (p.getD 23 0)) 56),Z4 .or .u64 (Z4 .or .u64 (Z4 .or .u64 (Z4 .or .u64 (Z4 .or .u64 (Z4 .or .u64 (Z4 .or .u64 (Z4 .or .u64 (0) (Zl .u64 (wrap .u64 (p.getD 24 0)) 0)) (Zl .u64 (wrap .u64 (p.getD 25 0)) 8)) (Zl .u64 (wrap .u64 (p.getD 26 0)) 16)) (Zl .u64 (wrap .u64 (p.getD 27 0)) 24)) (Zl .u64 (wrap .u64 (p.getD 28 0)) 32)) (Zl .u64 (wrap .u64 (p.getD 29 0)) 40)) (Zl .u64 (wrap .u64 (p.getD 30 0)) 48)) (Zl .u64 (wrap .u64 (p.getD 31 0)) 56),Z4 .or .u64 (Z4 .or .u64 (Z4 .or .u64 (Z4 .or .u64 (Z4 .or .u64 (Z4 .or .u64 (Z4 .or .u64 (Z4 .or .u64 (0) (Zl .u64 (wrap .u64 (p.getD 32 0)) 0)) (Zl .u64 (wrap .u64 (p.getD 33 0)) 8)) (Zl .u64 (wrap .u64 (p.getD 34 0)) 16)) (Zl .u64 (wrap .u64 (p.getD 35 0)) 24)) (Zl .u64 (wrap .u64 (p.getD 36 0)) 32)) (Zl .u64 (wrap .u64 (p.getD 37 0)) 40)) (Zl .u64 (wrap .u64 (p.getD 38 0)) 48)) (Zl .u64 (wrap .u64 (p.getD 39 0)) 56),Z4 .or .u64 (Z4 .or .u64 (Z4 .or .u64 (Z4 .or .u64 (Z4 .or .u64 (Z4 .or .u64 (Z4 .or .u64 (Z4 .or .u64 (0) (Zl .u64 (wrap .u64 (p.getD 40 0)) 0)) (Zl .u64 (wrap .u64 (p.getD 41 0)) 8)) (Zl .u64 (wrap .u64 (p.getD 42 0)) 16)) (Zl .u64 (wrap .u64 (p.getD 43 0)) 24)) (Zl .u64 (wrap .u64 (p.getD 44 0)) 32)) (Zl .u64 (wrap .u64 (p.getD 45 0)) 40)) (Zl .u64 (wrap .u64 (p.getD 46 0)) 48)) (Zl .u64 (wrap .u64 (p.getD 47 0)) 56),Z4 .or .u64 (Z4 .or .u64 (Z4 .or .u64 (Z4 .or .u64 (Z4 .or .u64 (Z4 .or .u64 (Z4 .or .u64 (Z4 .or .u64 (0) (Zl .u64 (wrap .u64 (p.getD 48 0)) 0)) (Zl .u64 (wrap .u64 (p.getD 49 0)) 8)) (Zl .u64 (wrap .u64 (p.getD 50 0)) 16)) (Zl .u64 (wrap .u64 (p.getD 51 0)) 24)) (Zl .u64 (wrap .u64 (p.getD 52 0)) 32)) (Zl .u64 (wrap .u64 (p.getD 53 0)) 40)) (Zl .u64 (wrap .u64 (p.getD 54 0)) 48)) (Zl .u64 (wrap .u64 (p.getD 55 0)) 56),Z4 .or .u64 (Z4 .or .u64 (Z4 .or .u64 (Z4 .or .u64 (Z4 .or .u64 (Z4 .or .u64 (Z4 .or .u64 (Z4 .or .u64 (0) (Zl .u64 (wrap .u64 (p.getD 56 0)) 0)) (Zl .u64 (wrap .u64 (p.getD 57 0)) 8)) (Zl .u64 (wrap .u64 (p.getD 58 0)) 16)) (Zl .u64 (wrap .u64 (p.getD 59 0)) 24)) (Zl .u64 (wrap .u64 (p.getD 60 0)) 32)) (Zl .u64 (wrap .u64 (p.getD 61 0)) 40)) (Zl .u64 (wrap .u64 (p.getD 62 0)) 48)) (Zl .u64 (wrap .u64 (p.getD 63 0)) 56)]) ([Z4 .or .u64 (Z4 .or .u64 (Z4 .or .u64 (Z4 .or .u64 (Z4 .or .u64 (Z4 .or .u64 (Z4 .or .u64 (Z4 .or .u64 (0) (Zl .u64 (wrap .u64 (p.getD 0 0)) 0)) (Zl .u64 (wrap .u64 (p.getD 1 0)) 8)) (Zl .u64 (wrap .u64 (p.getD 2 0)) 16)) (Zl .u64 (wrap .u64 (p.getD 3 0)) 24)) (Zl .u64 (wrap .u64 (p.getD 4 0)) 32)) (Zl .u64 (wrap .u64 (p.getD 5 0)) 40)) (Zl .u64 (wrap .u64 (p.getD 6 0)) 48)) (Zl .u64 (wrap .u64 (p.getD 7 0)) 56),Z4 .or .u64 (Z4 .or .u64 (Z4 .or .u64 (Z4 .or .u64 (Z4 .or .u64 (Z4 .or .u64 (Z4 .or .u64 (Z4 .or .u64 (0) (Zl .u64 (wrap .u64 (p.getD 8 0)) 0)) (Zl .u64 (wrap .u64 (p.getD 9 0)) 8)) (Zl .u64 (wrap .u64 (p.getD 10 0)) 16)) (Zl .u64 (wrap .u64 (p.getD 11 0)) 24)) (Zl .u64 (wrap .u64 (p.getD 12 0)) 32)) (Zl .u64 (wrap .u64 (p.getD 13 0)) 40)) (Zl .u64 (wrap .u64 (p.getD 14 0)) 48)) (Zl .u64 (wrap .u64 (p.getD 15 0)) 56),Z4 .or .u64 (Z4 .or .u64 (Z4 .or .u64 (Z4 .or .u64 (Z4 .or .u64 (Z4 .or .u64 (Z4 .or .u64 (Z4 .or .u64 (0) (Zl .u64 (wrap .u64 (p.getD 16 0)) 0)) (Zl .u64 (wrap .u64 (p.getD 17 0)) 8)) (Zl .u64 (wrap .u64 (p.getD 18 0)) 16)) (Zl .u64 (wrap .u64 (p.getD 19 0)) 24)) (Zl .u64 (wrap .u64 (p.getD 20 0)) 32)) (Zl .u64 (wrap .u64 (p.getD 21 0)) 40)) (Zl .u64 (wrap .u64 (p.getD 22 0)) 48)) (Zl .u64 (wrap .u64 (p.getD 23 0)) 56),Z4 .or .u64 (Z4 .or .u64 (Z4 .or .u64 (Z4 .or .u64 (Z4 .or .u64 (Z4 .or .u64 (Z4 .or .u64 (Z4 .or .u64 (0) (Zl .u64 (wrap .u64 (p.getD 24 0)) 0)) (Zl .u64 (wrap .u64 (p.getD 25 0)) 8)) (Zl .u64 (wrap .u64 (p.getD 26 0)) 16)) (Zl .u64 (wrap .u64 (p.getD 27 0)) 24)) (Zl .u64 (wrap .u64 (p.getD 28 0)) 32)) (Zl .u64 (wrap .u64 (p.getD 29 0)) 40)) (Zl .u64 (wrap .u64 (p.getD 30 0)) 48)) (Zl .u64 (wrap .u64 (p.getD 31 0)) 56),Z4 .or .u64 (Z4 .or .u64 (Z4 .or .u64 (Z4 .or .u64 (Z4 .or .u64 (Z4 .or .u64 (Z4 .or .u64 (Z4 .or .u64 (0) (Zl .u64 (wrap .u64 (p.getD 32 0)) 0)) (Zl .u64 (wrap .u64 (p.getD 33 0)) 8)) (Zl .u64 (wrap .u64 (p.getD 34 0)) 16)) (Zl .u64 (wrap .u64 (p.getD 35 0)) 24)) (Zl .u64 (wrap .u64 (p.getD 36 0)) 32)) (Zl .u64 (wrap .u64 (p.getD 37 0)) 40)) (Zl .u64 (wrap .u64 (p.getD 38 0)) 48)) (Zl .u64 (wrap .u64 (p.getD 39 0)) 56),Z4 .or .u64 (Z4 .or .u64 (Z4 .or .u64 (Z4 .or .u64 (Z4 .or .u64 (Z4 .or .u64 (Z4 .or .u64 (Z4 .or .u64 (0) (Zl .u64 (wrap .u64 (p.getD 40 0)) 0)) (Zl .u64 (wrap .u64 (p.getD 41 0)) 8)) (Zl .u64 (wrap .u64 (p.getD 42 0)) 16)) (Zl .u64 (wrap .u64 (p.getD 43 0)) 24)) (Zl .u64 (wrap .u64 (p.getD 44 0)) 32)) (Zl .u64 (wrap .u64 (p.getD 45 0)) 40)) (Zl .u64 (wrap .u64 (p.getD 46 0)) 48)) (Zl .u64 (wrap .u64 (p.getD 47 0)) 56),Z4 .or .u64 (Z4 .or .u64 (Z4 .or .u64 (Z4 .or .u64 (Z4 .or .u64 (Z4 .or .u64 (Z4 .or .u64 (Z4 .or .u64 (0) (Zl .u64 (wrap .u64 (p.getD 48 0)) 0)) (Zl .u64 (wrap .u64 (p.getD 49 0)) 8)) (Zl .u64 (wrap .u64 (p.getD 50 0)) 16)) (Zl .u64 (wrap .u64 (p.getD 51 0)) 24)) (Zl .u64 (wrap .u64 (p.getD 52 0)) 32)) (Zl .u64 (wrap .u64 (p.getD 53 0)) 40)) (Zl .u64 (wrap .u64 (p.getD 54 0)) 48)) (Zl .u64 (wrap .u64 (p.getD 55 0)) 56),Z4 .or .u64 (Z4 .or .u64 (Z4 .or .u64 (Z4 .or .u64 (Z4 .or .u64 (Z4 .or .u64 (Z4 .or .u64 (Z4 .or .u64 (0) (Zl .u64 (wrap .u64 (p.getD 56 0)) 0)) (Zl .u64 (wrap .u64 (p.getD 57 0)) 8)) (Zl .u64 (wrap .u64 (p.getD 58 0)) 16)) (Zl .u64 (wrap .u64 (p.getD 59 0)) 24)) (Zl .u64 (wrap .u64 (p.getD 60 0)) 32)) (Zl .u64 (wrap .u64 (p.getD 61 0)) 40)) (Zl .u64 (wrap .u64 (p.getD 62 0)) 48)) (Zl .u64 (wrap .u64 (p.getD 63 0)) 56)]).length=wval p from hv]
theorem Zzr {α:Type} {o:Option α} (h:o.isSome=true) : ∃ r,o=some r:=by
 cases o with
 | none=>cases h
 | some r=>exact ⟨r,rfl⟩
theorem Zwv (s h:LI):(Z8y s h).isSome=true:=by kernel_rfl
theorem Zml (x:Int) : ∃ r,Z24 x=some r/\r.length=8:=by
 have:((Z24 x).map (·.length))=some 8:=by kernel_rfl
 cases h:Z24 x with
 | none=>rw [h] at this; cases this
 | some r=>exact ⟨r,rfl,by rw [h] at this; simpa using this⟩
theorem Zwd (z:Int) (m:Nat) : ∀ (l a h:LI) (c:Int),l.length<=m->0<=c->c<128->∀ n,∃ r,Z07 z (n+1+m) l a h c=some r/\r.glength=z/\0<=r.ghave/\r.ghave<128:=by
 induction m with
 | zero =>
  intro l a h c hl h0 h1 n
  refine ⟨⟨a,h,c,z⟩,?_,rfl,h0,h1⟩
  rw [Nat.add_zero,Z07,Z1c,Z08 (decide_eq_false (by omega))]
 | succ m ih =>
  intro l a h c hl h0 h1 n
  by_cases he:l.length=0
  ·refine ⟨⟨a,h,c,z⟩,?_,rfl,h0,h1⟩
   rw [<- Nat.add_assoc,Z07,Z1c,Z08 (decide_eq_false (by omega))]
  ·have hmin:0<Nat.min l.length (128-c.toNat)/\Nat.min l.length (128-c.toNat)<=l.length/\Nat.min l.length (128-c.toNat)<=128-c.toNat:=by
    refine ⟨?_,Nat.min_le_left _ _,Nat.min_le_right _ _⟩
    show 0<min l.length (128-c.toNat)
    omega
   have ew:wrap .i64 (c+((Nat.min l.length (128-c.toNat):Nat):Int))=c+((Nat.min l.length (128-c.toNat):Nat):Int):=Zj (by omega) (by omega)
   have hlen:(((l.drop (((Nat.min l.length (128-c.toNat):Nat):Int)).toNat).take (((l.length:Int)).toNat-(((Nat.min l.length (128-c.toNat):Nat):Int)).toNat))).length<=m:=by
    simp only [List.length_take,List.length_drop,Int.toNat_natCast]; omega
   rw [<- Nat.add_assoc,Z07,Z1c,Z0g (decide_eq_true (by omega)),Zo (by unfold Z97; simp; omega),Zb,Zo (by unfold Z97; simp only [Bool.and_eq_true,decide_eq_true_eq]; omega),Zb,ew]
   by_cases h128:c+((Nat.min l.length (128-c.toNat):Nat):Int)=128
   ·obtain ⟨b,eb⟩:=Zzr (Zwv a (wr h c.toNat (l.take (128-c.toNat))))
    rw [Z0g (by simpa using h128),Z3 eb]
    exact ih _ _ _ 0 hlen (by omega) (by omega) n
   ·rw [Z08 (by simpa using h128)]
    exact ih _ _ _ _ hlen (by omega) (by omega) n
theorem Zrq (d:Zu) (l:LI) (hl:l.length<18446744073709551615) (h0:0<=d.ghave) (h1:d.ghave<128) : ∃ r,Z1r d l=some r/\0<=r.ghave/\r.ghave<128/\r.glength=wrap .u64 (d.glength+wrap .u64 (l.length:Int)):=by
 obtain ⟨n,hn⟩ : ∃ n',big=n'+1+l.length:=⟨18446744073709551615-l.length,by have:big=18446744073709551616:=Z1t; omega⟩
 rw [Z1r,Zb,Zb,hn]
 obtain ⟨r,e,hz,hh⟩:=Zwd (wrap .u64 (d.glength+wrap .u64 (l.length:Int))) l.length l d.gstate d.gheld d.ghave (Nat.le_refl _) h0 h1 n
 exact ⟨r,e,hh.1,hh.2,hz⟩
theorem Z06m (x:Int) : ∃ r,Z7m x=some r/\r.length<=1000:=by
 have hz3:=Zt8 (x+17)
 obtain ⟨y1,e1,l1⟩:=Zml (Zq .u64 x 61)
 obtain ⟨y2,e2,l2⟩:=Zml (Zl .u64 x 3)
 generalize hz:wrap .u64 (x+17)=z3 at hz3
 have et:Int.tmod z3 128=z3%128:=Int.tmod_eq_emod_of_nonneg hz3.1
 have ew:wrap .i64 (z3%128)=z3%128:=Zj (by omega) (by omega)
 have ew2:wrap .i64 (128-z3%128)=128-z3%128:=Zj (by omega) (by omega)
 have et2:Int.tmod (128-z3%128) 128=(128-z3%128)%128:=Int.tmod_eq_emod_of_nonneg (by omega)
 simp only [Z7m,Zb,hz,et,ew,ew2,et2]
 have hr:0<=(128-z3%128)%128/\(128-z3%128)%128<128:=by omega
 generalize (128-z3%128)%128=w at hr
 have ew3:wrap .i64 (17+w)=17+w:=Zj (by omega) (by omega)
 simp only [ew3]
 refine ⟨(((List.replicate 0 0 ++ [128])++List.replicate w.toNat 0)++y1)++y2,?_,?_⟩
 ·rw [Zo (by unfold mkB; simp only [Bool.and_eq_true,decide_eq_true_eq]; omega),Zo (by simp),Zo (by simp; omega),Zo (by simp; omega),Z3 e1,Zo (by simp [l1]; omega),Z3 e2,Zo (by simp [l1,l2]; omega)]
 ·simp [l1,l2]; omega
theorem Z082 (y d:Zu):(Z2m y (fun a74=>some (a74,d)) big 0 (List.replicate 64 0)).isSome=true:=by kernel_rfl
theorem Z083 (d:Zu) (h0:0<=d.ghave) (h1:d.ghave<128) : ∃ r,Z2v d=some r:=by
 obtain ⟨p,e,hl⟩:=Z06m d.glength
 obtain ⟨y,e2,_⟩:=Zrq d p (by omega) h0 h1
 obtain ⟨r,e3⟩:=Zzr (Z082 y d)
 refine ⟨r,?_⟩
 rw [Z2v,Z4s,Z3 rfl]
 show opt (Z7m d.glength) _=_
 rw [Z3 e]
 show opt (Z1r d p) _=_
 rw [Z3 e2,Z13,e3]
theorem Zxm {p:List (LI)} (hp : ∀ i,(p.getD i []).length<18446744073709551615) (hb:p.length<1000000) {k:LI->LI->Int->Int->Option (LI)} (hk : ∀ a b c d,0<=c->c<128->∃ r,k a b c d=some r/\Byt r/\r.length=32) (m:Nat) : ∀ (n i:Nat) (a b:LI) (c d:Int),i+m=p.length->0<=c->c<128 ->
  ∃ r,Z40 p k (n+1+m) (i:Int) a b c d=some r/\Byt r/\r.length=32:=by
 induction m with
 | zero =>
  intro n i a b c d hi h0 h1
  rw [Nat.add_zero,Z40,Z7f,Z08 (decide_eq_false (by omega))]
  exact hk a b c d h0 h1
 | succ m ih =>
  intro n i a b c d hi h0 h1
  have e1:wrap .i64 ((i:Int)+1)=((i+1:Nat):Int):=by rw [Zj (by omega) (by omega)]; rfl
  obtain ⟨y,e,g0,g1,_⟩:=Zrq ⟨a,b,c,d⟩ (p.getD i []) (hp i) h0 h1
  rw [<- Nat.add_assoc,Z40,Z7f,Z0g (decide_eq_true (by omega)),Zo (Z0i (by omega) (by omega)),Int.toNat_natCast,Z3 e,Zb,e1]
  exact ih n (i+1) _ _ _ _ (by omega) g0 g1
theorem Z01f {p:List (LI)} (hp : ∀ i,(p.getD i []).length<18446744073709551615) (hb:p.length<1000000) : ∃ r,Z9i p=some r/\Byt r/\r.length=32:=by
 obtain ⟨n,hn⟩ : ∃ n',big=n'+1+p.length:=⟨18446744073709551615-p.length,by have:big=18446744073709551616:=Z1t; omega⟩
 rw [Z9i,Zdq,Z3 rfl,Z13,hn]
 refine Zxm hp hb ?_ p.length n 0 _ _ _ _ (by omega) (by decide) (by decide)
 intro a b c d h0 h1
 obtain ⟨r,e⟩:=Z083 ⟨a,b,c,d⟩ h0 h1
 obtain ⟨s,e2,hs⟩:=Zv4 r.1
 refine ⟨s,?_,hs⟩
 rw [Z3 e,Z3 e2]
theorem Zkb {p:LI} (h:Byt p) (o n:Nat):Byt (tk p o n):=by
 intro i
 rw [Zpn]
 split
 ·exact h _
 ·decide
theorem Zwa {k m s:LI} (hk:Byt k) (hm:m.length<18446744073709551615) (hs:Byt s) : ∃ b,Z4t k m s=some b:=by
 rw [Z4t,Z3 (Zq0 hk)]
 obtain ⟨c,hc⟩:=Zoj (tk (tk s 32 (64-32)) 0 32)
 rw [Zo (by rw [Z0x]; decide),Zb,hc,Zo (by simp [imp])]
 by_cases hd:dok k=true
 ·rw [if_pos hd]
  cases c
  ·exact ⟨false,Z0g rfl⟩
  ·obtain ⟨h,eh,hb,hl⟩:=Z01f (p:=[(tk s 0 32),(tk k 0 32),m]) (by
    intro i
    match i with
    | 0=>show (tk s 0 32).length<_; rw [Z0x]; decide
    | 1=>show (tk k 0 32).length<_; rw [Z0x]; decide
    | 2=>exact hm
    | i+3=>show ([]:LI).length<_; decide) (by simp)
   rw [Z08 (c:=(!(pt (dpt k),true).snd || !(some true).getD false)) rfl,Z13,Z3 eh]
   show ∃ b,opt (Zbk (pt (dpt k))) _=some b
   rw [Z3 (Zx4 _),Z3 (Zne hb (Zkb (Zkb hs _ _) _ _) _),Z3 (Zq4 _),Zo (by rw [Z0x]; decide),Zb]
   exact ⟨_,rfl⟩
 ·rw [if_neg hd]
  exact ⟨false,Z0g rfl⟩
end Go.Proofs.YtiflckckekjbnaaGreatDoor
