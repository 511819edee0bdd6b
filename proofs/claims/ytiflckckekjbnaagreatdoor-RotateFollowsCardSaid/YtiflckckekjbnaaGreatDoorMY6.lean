/- Texts of a proof, one behind the other: F3 F4 F5 F6 C1 C2 C3 G1 G2 V1 V2 N1 N2 N3 N7 N8 N9 N10 N11 N12 H1 H2 V3 G3. -/
import Derived.Test.YtiflckckekjbnaaGreatDoorMY5
import Derived.KernelRfl
namespace Go.Proofs.YtiflckckekjbnaaGreatDoor
open Go Go.Sx Go.RowKit
open Go.IntKind (wrap)
set_option linter.all false
set_option maxRecDepth 100000
def Zmb (S:Nat->Int):LI:=[Zjn (S 0),Zg3 (S 0),Zjn (S 1),Zg3 (S 1),Zjn (S 2),Zg3 (S 2),Zjn (S 3),Zg3 (S 3),Zjn (S 4),Zg3 (S 4)]
theorem Zvy {S T:Nat->Int} (h : ∀ k,k<5->S k=T k):Zmb S=Zmb T:=by
  simp only [Zmb,h 0 (by decide),h 1 (by decide),h 2 (by decide),h 3 (by decide),h 4 (by decide)]
def updN (S:Nat->Int) (k:Nat) (v:Int):Nat->Int:=fun j=>if j=k then v else S j
theorem Zuq {S:Nat->Int} {k:Nat} {a c:Int} (hk:k<5) (hs:0<=S k) (ha:0<=a/\a<18446744073709551616) (hc:0<=c/\c<18446744073709551616) (hb:S k+a*c<340282366920938463463374607431768211456) :
    Z33 (Zmb S) (0+k*2) 10 a c=some (Zmb (updN S k (S k+a*c))):=by
  have h1:(Zmb S).getD (0+k*2) 0=Zjn (S k):=by
    match k,hk with
    | 0,_=>rfl
    | 1,_=>rfl
    | 2,_=>rfl
    | 3,_=>rfl
    | 4,_=>rfl
  have h2:(Zmb S).getD (0+k*2+1) 0=Zg3 (S k):=by
    match k,hk with
    | 0,_=>rfl
    | 1,_=>rfl
    | 2,_=>rfl
    | 3,_=>rfl
    | 4,_=>rfl
  rw [Zzr hs h1 h2 (by omega) ha hc hb]
  congr 1
  match k,hk with
  | 0,_=>rfl
  | 1,_=>rfl
  | 2,_=>rfl
  | 3,_=>rfl
  | 4,_=>rfl
def Zok (x:Int) (y:LI) (i j:Nat):Int:=x*(if i+j<5 then y.getD j 0 else 19*y.getD j 0)
theorem Zxu {y:LI} {i j:Nat} {kk:LI->Option (LI)} {k':Int->LI->Option (LI)} {x:Int} {S:Nat->Int} {T:Int} (hi:i<5) (hj:j<5) (hx:0<=x/\x<=2251799813947392) (hy : ∀ j,j<5->0<=y.getD j 0/\y.getD j 0<=2251799813947392)
    (hS : ∀ k,k<5->0<=S k/\S k<=T) (hT:T<=100000000000000000000000000000000000) :
    Z6w y (i:Int) x kk k' (j:Int) (Zmb S)=k' ((j+1:Nat):Int) (Zmb (updN S ((i+j)%5) (S ((i+j)%5)+Zok x y i j))):=by
  have hyj:=hy j hj
  rw [Z6w,Z0n (by simp; omega),Z17,Zp (Z0i (by omega) (by omega))]
  simp only [Zb,Int.toNat_natCast]
  have hij:wrap .i64 ((i:Int)+(j:Int))=((i+j:Nat):Int):=by rw [Zl (by omega) (by omega)]; omega
  have hj1:wrap .i64 ((j:Int)+1)=((j+1:Nat):Int):=by rw [Zl (by omega) (by omega)]; omega
  rw [hij,hj1]
  have hSk:=hS ((i+j)%5) (Nat.mod_lt _ (by decide))
  by_cases h:i+j<5
  · have hm:(i+j)%5=i+j:=Nat.mod_eq_of_lt h
    rw [hm] at hSk ⊢
    have hp:=Zf5 hx hyj
    rw [Z0n (by simp; omega),Zp (Z0i (by omega) (by omega)),Z3 (Zuq (S:=S) (k:=((i+j:Nat):Int).toNat) (by omega) (by rw [Int.toNat_natCast]; exact hSk.1) (by omega) (by omega) (by rw [Int.toNat_natCast]; omega))]
    simp only [Int.toNat_natCast,Zok,if_pos h]
  · have hm:(i+j)%5=i+j-5:=by omega
    rw [hm] at hSk ⊢
    have h5:wrap .i64 (((i+j:Nat):Int)-5)=((i+j-5:Nat):Int):=by rw [Zl (by omega) (by omega)]; omega
    have h19:wrap .u64 (19*y.getD j 0)=19*y.getD j 0:=Zd (by omega) (by omega)
    rw [h5,h19]
    have hp:=Zf5 (b:=19*y.getD j 0) (B:=42784196465000448) hx (by omega)
    rw [Z08 (by simp; omega),Zp (Z0i (by omega) (by omega)),Z3 (Zuq (S:=S) (k:=((i+j-5:Nat):Int).toNat) (by omega) (by rw [Int.toNat_natCast]; exact hSk.1) (by omega) (by omega) (by rw [Int.toNat_natCast]; omega))]
    simp only [Int.toNat_natCast,Zok,if_neg h]
theorem Z019 {y:LI} {i:Nat} {kk:LI->Option (LI)} {k':Int->LI->Option (LI)} {x:Int} {a:LI} (hi:i<5):Z6w y (i:Int) x kk k' 5 a=kk a:=by
  rw [Z6w,Z08 (by decide)]
theorem Z017 {x:Int} {y:LI} {i j:Nat} (hj:j<5) (hx:0<=x/\x<=2251799813947392) (hy : ∀ j,j<5->0<=y.getD j 0/\y.getD j 0<=2251799813947392):0<=Zok x y i j/\Zok x y i j<=96341445639776675308685928431616:=by
  have hyj:=hy j hj
  unfold Zok
  split
  · have:=Zf5 hx hyj; omega
  · have:=Zf5 (b:=19*y.getD j 0) (B:=42784196465000448) hx (by omega); omega
theorem Z0j2 {S:Nat->Int} {T v:Int} {k:Nat} (hS : ∀ k,k<5->0<=S k/\S k<=T) (hv:0<=v/\v<=T+96341445639776675308685928431616) : ∀ j,j<5->0<=updN S k v j/\updN S k v j<=T+96341445639776675308685928431616:=by
  intro j hj
  have:=hS j hj
  unfold updN
  split <;> omega
def inn (S:Nat->Int) (x:Int) (y:LI) (i:Nat):Nat->Int:=fun k=>S k+x*(if i<=k then y.getD (k-i) 0 else 19*y.getD (k+5-i) 0)
theorem Zxs {y:LI} {i:Nat} {kk:LI->Option (LI)} {x:Int} {S:Nat->Int} {T:Int} (hi:i<5) (hx:0<=x/\x<=2251799813947392) (hy : ∀ j,j<5->0<=y.getD j 0/\y.getD j 0<=2251799813947392)
    (hS : ∀ k,k<5->0<=S k/\S k<=T) (hT:T<=10000000000000000000000000000000000) :
    Z5x y (i:Int) x kk big 0 (Zmb S)=kk (Zmb (inn S x y i)):=by
  obtain ⟨n,hn⟩ : ∃ n,big=n+6:=⟨18446744073709551610,Z25⟩
  rw [hn]
  have step : ∀ (n j:Nat) (S:Nat->Int) (T:Int),j<5->(∀ k,k<5->0<=S k/\S k<=T)->T<=100000000000000000000000000000000000 ->
      Z5x y (i:Int) x kk (n+1) (j:Int) (Zmb S)=Z5x y (i:Int) x kk n ((j+1:Nat):Int) (Zmb (updN S ((i+j)%5) (S ((i+j)%5)+Zok x y i j))) :=
    fun n j S T hj hS hT=>Zxu hi hj hx hy hS hT
  have bd : ∀ (j:Nat) (S:Nat->Int) (T:Int),j<5->(∀ k,k<5->0<=S k/\S k<=T)->∀ k,k<5->0<=updN S ((i+j)%5) (S ((i+j)%5)+Zok x y i j) k/\updN S ((i+j)%5) (S ((i+j)%5)+Zok x y i j) k<=T+96341445639776675308685928431616 :=
    fun j S T hj hS=>Z0j2 hS (by have:=Z017 (i:=i) hj hx hy; have:=hS ((i+j)%5) (Nat.mod_lt _ (by decide)); omega)
  have s0:=step (n+5) 0 S T (by decide) hS (by omega)
  have b0:=bd 0 S T (by decide) hS
  have s1:=step (n+4) 1 _ _ (by decide) b0 (by omega)
  have b1:=bd 1 _ _ (by decide) b0
  have s2:=step (n+3) 2 _ _ (by decide) b1 (by omega)
  have b2:=bd 2 _ _ (by decide) b1
  have s3:=step (n+2) 3 _ _ (by decide) b2 (by omega)
  have b3:=bd 3 _ _ (by decide) b2
  have s4:=step (n+1) 4 _ _ (by decide) b3 (by omega)
  refine (s0.trans (s1.trans (s2.trans (s3.trans (s4.trans ((Z019 hi).trans ?_))))))
  congr 1
  apply Zvy
  intro k hk
  clear s0 s1 s2 s3 s4 b0 b1 b2 b3 bd step hS hy hx hn
  match i,hi,k,hk with
  | 0,_,0,_ | 0,_,1,_ | 0,_,2,_ | 0,_,3,_ | 0,_,4,_ | 1,_,0,_ | 1,_,1,_ | 1,_,2,_ | 1,_,3,_ | 1,_,4,_ | 2,_,0,_ | 2,_,1,_ | 2,_,2,_ | 2,_,3,_ | 2,_,4,_
  | 3,_,0,_ | 3,_,1,_ | 3,_,2,_ | 3,_,3,_ | 3,_,4,_ | 4,_,0,_ | 4,_,1,_ | 4,_,2,_ | 4,_,3,_ | 4,_,4,_=>rfl
theorem Zhr {S:Nat->Int} {x T:Int} {y:LI} {i:Nat} (hi:i<5) (hx:0<=x/\x<=2251799813947392) (hy : ∀ j,j<5->0<=y.getD j 0/\y.getD j 0<=2251799813947392) (hS : ∀ k,k<5->0<=S k/\S k<=T) :
    ∀ k,k<5->0<=inn S x y i k/\inn S x y i k<=T+96341445639776675308685928431616:=by
  intro k hk
  have h1:=hS k hk
  unfold inn
  split
  · have:=Zf5 hx (hy (k-i) (by omega)); omega
  · have:=Zf5 (b:=19*y.getD (k+5-i) 0) (B:=42784196465000448) hx (by have:=hy (k+5-i) (by omega); omega); omega
def Zmk (x y:LI):Nat->Int:=inn (inn (inn (inn (inn (fun _=>0) (x.getD 0 0) y 0) (x.getD 1 0) y 1) (x.getD 2 0) y 2) (x.getD 3 0) y 3) (x.getD 4 0) y 4
theorem Z05y {x y:LI} (hx : ∀ j,j<5->0<=x.getD j 0/\x.getD j 0<=2251799813947392) (hy : ∀ j,j<5->0<=y.getD j 0/\y.getD j 0<=2251799813947392) : ∀ k,k<5->0<=Zmk x y k/\Zmk x y k<=481707228198883376543429642158080:=by
  have b0:=Zhr (S:=fun _=>0) (T:=0) (i:=0) (by decide) (hx 0 (by decide)) hy (fun _ _=>by simp)
  have b1:=Zhr (i:=1) (by decide) (hx 1 (by decide)) hy b0
  have b2:=Zhr (i:=2) (by decide) (hx 2 (by decide)) hy b1
  have b3:=Zhr (i:=3) (by decide) (hx 3 (by decide)) hy b2
  have b4:=Zhr (i:=4) (by decide) (hx 4 (by decide)) hy b3
  intro k hk
  have:=b4 k hk
  unfold Zmk
  omega
theorem Zcx {x y : LI} (hx : ∀ j, j < 5 -> 0 <= x.getD j 0 /\ x.getD j 0 <= 2251799813947392) (hy : ∀ j, j < 5 -> 0 <= y.getD j 0 /\ y.getD j 0 <= 2251799813947392) (n i : Nat) (S : Nat -> Int) (T : Int) (hi : i < 5) (hS : ∀ k, k < 5 -> 0 <= S k /\ S k <= T) (hT : T <= 10000000000000000000000000000000000) (kk : LI -> Option (LI)) :
      Z3v x y kk (n+1) (i:Int) (Zmb S)=Z3v x y kk n ((i+1:Nat):Int) (Zmb (inn S (x.getD i 0) y i)):=by
  rw [Z3v,Zae,Z0n (by simp; omega),Zp (Z0i (by omega) (by omega))]
  simp only [Zb,Z17,Int.toNat_natCast]
  rw [Zxs hi (hx i hi) hy hS hT,Zl (by omega) (by omega)]
  rfl
theorem Zv9 {x y:LI} (n:Nat) (a:LI) (kk:LI->Option (LI)):Z3v x y kk (n+1) ((5:Nat):Int) a=kk a:=by
  rw [Z3v,Zae,Z08 (by decide)]
theorem Z0sb:(List.replicate 10 0:LI)=Zmb (fun _=>0):=by decide
theorem Zxt {x y:LI} (hx : ∀ j,j<5->0<=x.getD j 0/\x.getD j 0<=2251799813947392) (hy : ∀ j,j<5->0<=y.getD j 0/\y.getD j 0<=2251799813947392) (kk:LI->Option (LI)) :
    Z3v x y kk big 0 (List.replicate 10 0)=kk (Zmb (Zmk x y)):=by
  obtain ⟨n,hn⟩ : ∃ n,big=n+1+1+1+1+1+1:=⟨18446744073709551610,Z25⟩
  have b0:=Zhr (S:=fun _=>0) (T:=0) (i:=0) (by decide) (hx 0 (by decide)) hy (fun _ _=>by simp)
  have b1:=Zhr (i:=1) (by decide) (hx 1 (by decide)) hy b0
  have b2:=Zhr (i:=2) (by decide) (hx 2 (by decide)) hy b1
  have b3:=Zhr (i:=3) (by decide) (hx 3 (by decide)) hy b2
  have s0:=Zcx (kk:=kk) hx hy (n+1+1+1+1+1) 0 (fun _=>0) 0 (by decide) (fun _ _=>by simp) (by omega)
  have s1:=Zcx (kk:=kk) hx hy (n+1+1+1+1) 1 _ _ (by decide) b0 (by omega)
  have s2:=Zcx (kk:=kk) hx hy (n+1+1+1) 2 _ _ (by decide) b1 (by omega)
  have s3:=Zcx (kk:=kk) hx hy (n+1+1) 3 _ _ (by decide) b2 (by omega)
  have s4:=Zcx (kk:=kk) hx hy (n+1) 4 _ _ (by decide) b3 (by omega)
  have s5:=Zv9 (x:=x) (y:=y) n (Zmb (Zmk x y)) kk
  unfold Zmk at s5 ⊢
  rw [<- hn] at s0
  rw [Z0sb]
  exact s0.trans (s1.trans (s2.trans (s3.trans (s4.trans s5))))
theorem Zxq {S:Nat->Int} {kk:Int->LI->Option (LI)} {k':Int->Int->LI->Option (LI)} {i:Nat} {c:Int} {out:LI} (hi:i<5) (hS:0<=S i/\S i<=481707228198883376543429642158080) (hc:0<=c/\c<18446744073709551616) :
    Z8j (Zmb S) kk k' c (i:Int) out=k' ((S i+c) / 2251799813685248) ((i+1:Nat):Int) (Z2z out i ((S i+c)%2251799813685248)):=by
  have ht:tk (Zmb S) (i*2) 2 = [Zjn (S i),Zg3 (S i)]:=by
    match i,hi with
    | 0,_=>rfl
    | 1,_=>rfl
    | 2,_=>rfl
    | 3,_=>rfl
    | 4,_=>rfl
  rw [Z8j,Z0n (by simp; omega),Zp (Z0i (by omega) (by omega))]
  simp only [Zb,Int.toNat_natCast,ht,List.getD_cons_zero,List.getD_cons_succ]
  generalize S i=s at *
  have hl:0<=Zg3 s/\Zg3 s<18446744073709551616:=by unfold Zg3; omega
  rw [Zp (by simp [Zek]; omega),Zp (Z0i (by omega) (by omega))]
  simp only [Zo1,Zkj,Int.add_zero]
  rw [Zl (by omega) (by omega),Zvu,Z0iv,Zo3 (by omega) (by omega)]
  have hh:0<=Zjn s/\Zjn s<1000000000000000:=by unfold Zjn; omega
  have hcar:0<=(Zg3 s+c) / 18446744073709551616/\(Zg3 s+c) / 18446744073709551616<=1:=by omega
  rw [Zd (x:=Zjn s+(Zg3 s+c) / 18446744073709551616) (by omega) (by omega)]
  have hm:(Zjn s+(Zg3 s+c) / 18446744073709551616)*8192%18446744073709551616=(Zjn s+(Zg3 s+c) / 18446744073709551616)*8192:=by omega
  rw [hm,Ztz 13 (x:=(Zjn s+(Zg3 s+c) / 18446744073709551616)*8192) (a:=Zjn s+(Zg3 s+c) / 18446744073709551616) rfl (by omega) (by omega) (by omega) (by omega)]
  have e1:(Zg3 s+c)%18446744073709551616%2251799813685248=(s+c)%2251799813685248:=by unfold Zg3; omega
  have e2:(Zjn s+(Zg3 s+c) / 18446744073709551616)*8192+(Zg3 s+c)%18446744073709551616 / 2251799813685248=(s+c) / 2251799813685248:=by unfold Zjn Zg3; omega
  rw [e1,e2]
  rfl
theorem alg5 (x0 x1 x2 x3 x4 y0 y1 y2 y3 y4 m:Int):(x0+x1*m+x2*(m*m)+x3*(m*m*m)+x4*(m*m*m*m))*(y0+y1*m+y2*(m*m)+y3*(m*m*m)+y4*(m*m*m*m)) =
    x0*y0+(x0*y1+x1*y0)*m+(x0*y2+x1*y1+x2*y0)*(m*m)+(x0*y3+x1*y2+x2*y1+x3*y0)*(m*m*m)+(x0*y4+x1*y3+x2*y2+x3*y1+x4*y0)*(m*m*m*m)
     + ((x1*y4+x2*y3+x3*y2+x4*y1)+(x2*y4+x3*y3+x4*y2)*m+(x3*y4+x4*y3)*(m*m)+x4*y4*(m*m*m))*(m*m*m*m*m):=by grind
theorem Z016 (x y:LI) : ∃ q,Z6r x*Z6r y=Zmk x y 0+Zmk x y 1*2251799813685248+Zmk x y 2*5070602400912917605986812821504+Zmk x y 3*11417981541647679048466287755595961091061972992+Zmk x y 4*25711008708143844408671393477458601640355247900524685364822016+q*PP:=by
  have h:=alg5 (x.getD 0 0) (x.getD 1 0) (x.getD 2 0) (x.getD 3 0) (x.getD 4 0) (y.getD 0 0) (y.getD 1 0) (y.getD 2 0) (y.getD 3 0) (y.getD 4 0) 2251799813685248
  have e0:Zmk x y 0=x.getD 0 0*y.getD 0 0+19*(x.getD 1 0*y.getD 4 0+x.getD 2 0*y.getD 3 0+x.getD 3 0*y.getD 2 0+x.getD 4 0*y.getD 1 0):=by simp [Zmk,inn] <;> grind
  have e1:Zmk x y 1=x.getD 0 0*y.getD 1 0+x.getD 1 0*y.getD 0 0+19*(x.getD 2 0*y.getD 4 0+x.getD 3 0*y.getD 3 0+x.getD 4 0*y.getD 2 0):=by simp [Zmk,inn] <;> grind
  have e2:Zmk x y 2=x.getD 0 0*y.getD 2 0+x.getD 1 0*y.getD 1 0+x.getD 2 0*y.getD 0 0+19*(x.getD 3 0*y.getD 4 0+x.getD 4 0*y.getD 3 0):=by simp [Zmk,inn] <;> grind
  have e3:Zmk x y 3=x.getD 0 0*y.getD 3 0+x.getD 1 0*y.getD 2 0+x.getD 2 0*y.getD 1 0+x.getD 3 0*y.getD 0 0+19*(x.getD 4 0*y.getD 4 0):=by simp [Zmk,inn] <;> grind
  have e4:Zmk x y 4=x.getD 0 0*y.getD 4 0+x.getD 1 0*y.getD 3 0+x.getD 2 0*y.getD 2 0+x.getD 3 0*y.getD 1 0+x.getD 4 0*y.getD 0 0:=by simp [Zmk,inn] <;> grind
  refine ⟨(x.getD 1 0*y.getD 4 0+x.getD 2 0*y.getD 3 0+x.getD 3 0*y.getD 2 0+x.getD 4 0*y.getD 1 0)+(x.getD 2 0*y.getD 4 0+x.getD 3 0*y.getD 3 0+x.getD 4 0*y.getD 2 0)*2251799813685248+(x.getD 3 0*y.getD 4 0+x.getD 4 0*y.getD 3 0)*5070602400912917605986812821504+x.getD 4 0*y.getD 4 0*11417981541647679048466287755595961091061972992,?_⟩
  rw [e0,e1,e2,e3,e4]
  simp only [Z6r,PP]
  simp only [Int.reduceMul] at h
  rw [h]
  omega
end Go.Proofs.YtiflckckekjbnaaGreatDoor
namespace Go.Proofs.YtiflckckekjbnaaGreatDoor
open Go Go.Sx Go.RowKit
open List (replicate)
set_option linter.all false
set_option maxRecDepth 100000
theorem U5.mk5 {d0 d1 d2 d3 d4:Int} (h0:0<=d0/\d0<18446744073709551616) (h1:0<=d1/\d1<18446744073709551616) (h2:0<=d2/\d2<18446744073709551616) (h3:0<=d3/\d3<18446744073709551616) (h4:0<=d4/\d4<18446744073709551616):U5 [d0,d1,d2,d3,d4] :=
 ⟨h0.1,h1.1,h2.1,h3.1,h4.1,h0.2,h1.2,h2.2,h3.2,h4.2⟩
theorem Z01a {c d0 d1 d2 d3 d4:Int} (hc:0<=c/\c<900000000000000000)
  (h0:0<=d0/\d0<2251799813685248) (h1:0<=d1/\d1<2251799813685248) (h2:0<=d2/\d2<2251799813685248) (h3:0<=d3/\d3<2251799813685248) (h4:0<=d4/\d4<2251799813685248) :
  (opt (Z33 (replicate 2 0) 0 2 c 19) fun y1819 =>
   bnd (y1819.getD 1 0) fun z1823 =>
   bnd ([d0,d1,d2,d3,d4].getD 0 0) fun z1824 =>
   chk (Zek z1823 z1824 0) <|
   bnd (Zaa z1823 z1824 0) fun z1826 =>
   bnd (Zer z1823 z1824 0) fun z1827 =>
   bnd (Z4 .and .u64 z1826 2251799813685247) fun z1829 =>
   bnd (Z2z [d0,d1,d2,d3,d4] 0 z1829) fun l1830 =>
   bnd (l1830.getD 1 0) fun z1832 =>
   bnd (y1819.getD 0 0) fun z1833 =>
   bnd (IntKind.wrap .u64 (z1833+z1827)) fun z1834 =>
   bnd (Zj .u64 z1834 13) fun z1835 =>
   bnd (Zq .u64 z1826 51) fun z1836 =>
   bnd (Z4 .or .u64 z1835 z1836) fun z1837 =>
   bnd (IntKind.wrap .u64 (z1832+z1837)) fun z1838 =>
   bnd (Z2z l1830 1 z1838) fun l1839 =>
   opt (Z1u l1839) fun y1841 =>
   some y1841)=some (Zir ((d0+d1*2251799813685248+d2*5070602400912917605986812821504+d3*11417981541647679048466287755595961091061972992+d4*25711008708143844408671393477458601640355247900524685364822016+19*c)%PP)):=by
 have hw:Z33 (replicate 2 0) 0 2 c 19=some [Zjn (0+c*19),Zg3 (0+c*19)]:=Zzr (s:=0) (by decide) rfl rfl (by decide) (by omega) (by omega) (by omega)
 rw [Z3 hw]
 simp only [Zb,List.getD_cons_zero,List.getD_cons_succ]
 have hl:Zg3 (0+c*19)=c*19%18446744073709551616:=by unfold Zg3; rw [Int.zero_add]
 have hh:Zjn (0+c*19)=c*19 / 18446744073709551616:=by unfold Zjn; rw [Int.zero_add]
 rw [hl,hh]
 have hlt:c*19<18446744073709551616:=by omega
 rw [Int.emod_eq_of_lt (by omega) hlt,Int.ediv_eq_zero_of_lt (by omega) hlt]
 rw [Zp (by simp [Zek]; omega)]
 simp only [Zo1,Zkj,Int.add_zero,Int.zero_add]
 rw [Int.emod_eq_of_lt (a:=c*19+d0) (by omega) (by omega),Int.ediv_eq_zero_of_lt (a:=c*19+d0) (by omega) (by omega)]
 have ew:IntKind.wrap .u64 0=0:=by decide
 rw [ew,Zvu,Z0iv,Zo3 (by omega) (by omega)]
 have e0:(0:Int)*8192%18446744073709551616=0:=by decide
 rw [e0,Ztz 13 (x:=0) (a:=0) (by simp) (by omega) (by omega) (by omega) (by omega),Int.zero_add]
 have hs1:Z2z [d0,d1,d2,d3,d4] 0 ((c*19+d0)%2251799813685248) = [(c*19+d0)%2251799813685248,d1,d2,d3,d4]:=rfl
 rw [hs1]
 simp only [List.getD_cons_zero,List.getD_cons_succ]
 rw [Zd (by omega) (by omega)]
 have hs2:Z2z [(c*19+d0)%2251799813685248,d1,d2,d3,d4] 1 (d1+(c*19+d0) / 2251799813685248) = [(c*19+d0)%2251799813685248,d1+(c*19+d0) / 2251799813685248,d2,d3,d4]:=rfl
 rw [hs2,Z3 (Z5r (U5.mk5 (by omega) (by omega) (by omega) (by omega) (by omega)))]
 unfold Zmp
 congr 3
 simp only [Z6r,List.getD_cons_zero,List.getD_cons_succ]
 omega
theorem C5.le {x:LI} (h:C5 x 262144) : ∀ j,j<5->0<=x.getD j 0/\x.getD j 0<=2251799813947392:=by
 have ⟨a0,a1,a2,a3,a4,b0,b1,b2,b3,b4⟩:=h
 intro j hj
 match j,hj with
 | 0,_=>omega
 | 1,_=>omega
 | 2,_=>omega
 | 3,_=>omega
 | 4,_=>omega
theorem Zxr {x y:LI} (hx:U5 x) (hy:U5 y):Z13 x y=some (Zir (Z6r x*Z6r y%PP)):=by
 have cx:=(Zwr hx).le
 have cy:=(Zwr hy).le
 rw [Z13,Z3 (Zg1 hx),Z3 (Zg1 hy),Z17,Zxt cx cy,Z17]
 have hb:=Z05y cx cy
 obtain ⟨q,hq⟩:=Z016 (Zbd x) (Zbd y)
 have hm:Z6r x*Z6r y%PP=Z6r (Zbd x)*Z6r (Zbd y)%PP:=by
  rw [Int.mul_emod,<- Zim (x:=x),<- Zim (x:=y),<- Int.mul_emod]
 rw [hm,hq,Int.add_mul_emod_self_right]
 generalize Zmk (Zbd x) (Zbd y)=S at *
 obtain ⟨n,hn⟩ : ∃ n,big=n+1+1+1+1+1+1:=⟨18446744073709551610,Z25⟩
 generalize hkk:(fun (i1740:Int) (a1741:LI)=>_)=kk
 have step : ∀ (n i:Nat) (c:Int) (out:LI),i<5->(0<=c/\c<18446744073709551616)->Z4h (Zmb S) kk (n+1) c (i:Int) out=Z4h (Zmb S) kk n ((S i+c) / 2251799813685248) ((i+1:Nat):Int) (Z2z out i ((S i+c)%2251799813685248)):=by
  intro n i c out hi hc
  rw [Z4h,Zxq hi (hb i hi) hc]
 have c0:=hb 0 (by decide)
 have c1:=hb 1 (by decide)
 have c2:=hb 2 (by decide)
 have c3:=hb 3 (by decide)
 have c4:=hb 4 (by decide)
 have k1 : ∃ d,(S 0+0)%2251799813685248=d/\(0<=d/\d<2251799813685248):=⟨_,rfl,by omega⟩
 have s0:=step (n+1+1+1+1+1) 0 0 (replicate 5 0) (by decide) (by decide)
 generalize hd0:(S 0+0)%2251799813685248=d0 at s0
 generalize hv0:(S 0+0) / 2251799813685248=v0 at s0
 have s1:=step (n+1+1+1+1) 1 v0 (Z2z (replicate 5 0) 0 d0) (by decide) (by omega)
 generalize hd1:(S 1+v0)%2251799813685248=d1 at s1
 generalize hv1:(S 1+v0) / 2251799813685248=v1 at s1
 have s2:=step (n+1+1+1) 2 v1 (Z2z (Z2z (replicate 5 0) 0 d0) 1 d1) (by decide) (by omega)
 generalize hd2:(S 2+v1)%2251799813685248=d2 at s2
 generalize hv2:(S 2+v1) / 2251799813685248=v2 at s2
 have s3:=step (n+1+1) 3 v2 (Z2z (Z2z (Z2z (replicate 5 0) 0 d0) 1 d1) 2 d2) (by decide) (by omega)
 generalize hd3:(S 3+v2)%2251799813685248=d3 at s3
 generalize hv3:(S 3+v2) / 2251799813685248=v3 at s3
 have s4:=step (n+1) 4 v3 (Z2z (Z2z (Z2z (Z2z (replicate 5 0) 0 d0) 1 d1) 2 d2) 3 d3) (by decide) (by omega)
 generalize hd4:(S 4+v3)%2251799813685248=d4 at s4
 generalize hv4:(S 4+v3) / 2251799813685248=v4 at s4
 have hout:Z2z (Z2z (Z2z (Z2z (Z2z (replicate 5 0) 0 d0) 1 d1) 2 d2) 3 d3) 4 d4 = [d0,d1,d2,d3,d4]:=rfl
 rw [hout] at s4
 have s5:Z4h (Zmb S) kk (n+1) v4 ((4+1:Nat):Int) [d0,d1,d2,d3,d4]=kk v4 [d0,d1,d2,d3,d4]:=by rw [Z4h,Z8j,Z08 (by decide)]
 subst hkk
 have s5:=s5.trans (Z01a (c:=v4) (d0:=d0) (d1:=d1) (d2:=d2) (d3:=d3) (d4:=d4) (by omega) (by omega) (by omega) (by omega) (by omega) (by omega))
 rw [<- hn] at s0
 refine s0.trans (s1.trans (s2.trans (s3.trans (s4.trans (s5.trans ?_)))))
 congr 2
 clear s0 s1 s2 s3 s4 s5 step hout hb hn k1 cx cy
 have e0:S 0=v0*2251799813685248+d0:=by omega
 have e1:S 1+v0=v1*2251799813685248+d1:=by omega
 have e2:S 2+v1=v2*2251799813685248+d2:=by omega
 have e3:S 3+v2=v3*2251799813685248+d3:=by omega
 have e4:S 4+v3=v4*2251799813685248+d4:=by omega
 clear hd0 hd1 hd2 hd3 hd4 hv0 hv1 hv2 hv3 hv4
 have key:S 0+S 1*2251799813685248+S 2*5070602400912917605986812821504+S 3*11417981541647679048466287755595961091061972992+S 4*25711008708143844408671393477458601640355247900524685364822016 =
   d0+d1*2251799813685248+d2*5070602400912917605986812821504+d3*11417981541647679048466287755595961091061972992+d4*25711008708143844408671393477458601640355247900524685364822016+19*v4+v4*PP:=by
  simp only [PP]; omega
 rw [key,Int.add_mul_emod_self_right]
theorem Zr4 {x:LI} (hx:U5 x):Z1t x=some (Zir (Z6r x*Z6r x%PP)):=by
 rw [Z1t,Z3 (Zxr hx hx)]
end Go.Proofs.YtiflckckekjbnaaGreatDoor
namespace Go.Proofs.YtiflckckekjbnaaGreatDoor
open Go Go.Sx Go.RowKit
open Go.IntKind (wrap)
set_option linter.all false
set_option maxRecDepth 100000
def fe (n:Int):LI:=Zir (n%PP)
theorem Zcs (n:Int):U5 (fe n):=Zrz _
theorem Zjk:(0:Int)<PP:=by decide
theorem Z5d (n:Int):Z6r (fe n)=n%PP:=Zf0 (Int.emod_nonneg _ (by decide)) (Int.emod_lt_of_pos _ Zjk)
theorem Z03c (n:Int):fe (n%PP)=fe n:=by unfold fe; rw [Int.emod_emod_of_dvd _ (Int.dvd_refl _)]
theorem Zg2 {a b:Int} (h:a%PP=b%PP):fe a=fe b:=by unfold fe; rw [h]
theorem Z04i (k:LI->Option (LI)) (x0 x1 x2 x3 x4 y0 y1 y2 y3 y4:Int):Z8h [y0,y1,y2,y3,y4] k big 0 [x0,x1,x2,x3,x4] =
  k ([wrap .u64 (x0+y0),wrap .u64 (x1+y1),wrap .u64 (x2+y2),wrap .u64 (x3+y3),wrap .u64 (x4+y4)]):=by kernel_rfl
theorem Z034 {x y:LI} (hx:U5 x) (hy:U5 y):Z2y x y=some (fe (Z6r x+Z6r y)):=by
 have cx:=Zwr hx
 have cy:=Zwr hy
 have ex:=Zim (x:=x)
 have ey:=Zim (x:=y)
 rw [Z2y,Z3 (Zg1 hx),Z3 (Zg1 hy),Z17]
 have hlx:Zbd x = [(Zbd x).getD 0 0,(Zbd x).getD 1 0,(Zbd x).getD 2 0,(Zbd x).getD 3 0,(Zbd x).getD 4 0]:=rfl
 have hly:Zbd y = [(Zbd y).getD 0 0,(Zbd y).getD 1 0,(Zbd y).getD 2 0,(Zbd y).getD 3 0,(Zbd y).getD 4 0]:=rfl
 have hm:(Z6r x+Z6r y)%PP=(Z6r (Zbd x)+Z6r (Zbd y))%PP:=by rw [Int.add_emod,<- ex,<- ey,<- Int.add_emod]
 rw [Zg2 hm]
 generalize Zbd x=a at *
 generalize Zbd y=b at *
 have ⟨p0,p1,p2,p3,p4,q0,q1,q2,q3,q4⟩:=cx
 have ⟨r0,r1,r2,r3,r4,s0,s1,s2,s3,s4⟩:=cy
 rw [hlx,hly,Z04i]
 rw [Zd (by omega) (by omega),Zd (by omega) (by omega),Zd (by omega) (by omega),Zd (by omega) (by omega),Zd (by omega) (by omega)]
 rw [Z3 (Z5r (U5.mk5 (by omega) (by omega) (by omega) (by omega) (by omega)))]
 unfold Zmp fe
 congr 3
 simp only [Z6r,List.getD_cons_zero,List.getD_cons_succ]
 omega
theorem Z05z (k:LI->Option (LI)) (y0 y1 y2 y3 y4 z:Int):Z8k [y0,y1,y2,y3,y4] k big 1 [z,0,0,0,0] =
  k ([z,wrap .u64 (4503599627370494-y1),wrap .u64 (4503599627370494-y2),wrap .u64 (4503599627370494-y3),wrap .u64 (4503599627370494-y4)]):=by kernel_rfl
theorem Z03i {x:LI} (hx:U5 x):Z5m x=some (fe (- Z6r x)):=by
 rw [Z5m,Z3 (Z5r hx)]
 simp only [Zb,Z17]
 have hv:Z6r (Zmp x)=Z6r x%PP:=Z5d (Z6r x)
 have hl:Zmp x = [(Zmp x).getD 0 0,(Zmp x).getD 1 0,(Zmp x).getD 2 0,(Zmp x).getD 3 0,(Zmp x).getD 4 0]:=rfl
 have hb : ∀ j,j<5->0<=(Zmp x).getD j 0/\(Zmp x).getD j 0<2251799813685248:=by
  intro j hj
  unfold Zmp Zir
  match j,hj with
  | 0,_=>simp only [M51,List.getD_cons_zero,List.getD_cons_succ]; omega
  | 1,_=>simp only [M51,List.getD_cons_zero,List.getD_cons_succ]; omega
  | 2,_=>simp only [M51,List.getD_cons_zero,List.getD_cons_succ]; omega
  | 3,_=>simp only [M51,List.getD_cons_zero,List.getD_cons_succ]; omega
  | 4,_=>simp only [M51,List.getD_cons_zero,List.getD_cons_succ]; omega
 have hm:(- Z6r x)%PP=(2*PP-Z6r (Zmp x))%PP:=by
  rw [hv]
  have e : - Z6r x=2*PP-Z6r x%PP+(-2-Z6r x / PP)*PP:=by
   have:=Int.emod_add_mul_ediv (Z6r x) PP
   rw [Int.mul_comm] at this
   have h2:(-2-Z6r x / PP)*PP = -2*PP-Z6r x / PP*PP:=by rw [Int.sub_mul]
   omega
  rw [e,Int.add_mul_emod_self_right]
 rw [Zg2 hm]
 generalize Zmp x=a at *
 have b0:=hb 0 (by decide)
 have b1:=hb 1 (by decide)
 have b2:=hb 2 (by decide)
 have b3:=hb 3 (by decide)
 have b4:=hb 4 (by decide)
 rw [hl]
 simp only [List.getD_cons_zero]
 rw [Z05z]
 rw [Zd (by omega) (by omega),Zd (by omega) (by omega),Zd (by omega) (by omega),Zd (by omega) (by omega),Zd (by omega) (by omega)]
 rw [Z3 (Z5r (U5.mk5 (by omega) (by omega) (by omega) (by omega) (by omega)))]
 unfold Zmp fe
 congr 3
 simp only [Z6r,PP,List.getD_cons_zero,List.getD_cons_succ]
 omega
theorem Z0ix {x y:LI} (hx:U5 x) (hy:U5 y):Z55 x y=some (fe (Z6r x-Z6r y)):=by
 rw [Z55,Z3 (Z03i hy),Z3 (Z034 hx (Zcs _)),Z5d]
 rw [Zg2 (a:=Z6r x + -Z6r y%PP) (b:=Z6r x-Z6r y)]
 rw [Int.sub_eq_add_neg,Int.add_emod,Int.emod_emod_of_dvd _ (Int.dvd_refl _),<- Int.add_emod]
theorem Zul {n:Int} (h:0<=n/\n<18446744073709551616):Z9s n=some (fe n):=by
 rw [Z9s]
 simp only [Zb]
 rw [Z3 (Z5r (U5.mk5 h (by omega) (by omega) (by omega) (by omega)))]
 unfold Zmp fe
 congr 3
 simp only [Z6r,List.getD_cons_zero,List.getD_cons_succ]
 omega
theorem Z00r {a b:Int} (ha:0<=a/\a<PP) (hb:0<=b/\b<PP) (h:Zir a=Zir b):a=b:=by
 rw [<- Zf0 ha.1 ha.2,<- Zf0 hb.1 hb.2,h]
theorem Zzn (n:Int):tk (Zir n) 0 5=Zir n:=rfl
theorem Z03g (a b:Int):ieq 5 (fe a) (fe b)=decide (a%PP=b%PP):=by
 unfold ieq fe
 rw [Zzn,Zzn]
 rw [decide_eq_decide]
 constructor
 ·exact Z00r ⟨Int.emod_nonneg _ (by decide),Int.emod_lt_of_pos _ Zjk⟩ ⟨Int.emod_nonneg _ (by decide),Int.emod_lt_of_pos _ Zjk⟩
 ·intro h; rw [h]
theorem Z00q {x y:LI} (hx:U5 x) (hy:U5 y):Z86 x y=some (decide (Z6r x%PP=Z6r y%PP)):=by
 rw [Z86,Z3 (Z5r hx),Z3 (Z5r hy)]
 show some (ieq 5 (fe (Z6r x)) (fe (Z6r y)))=_
 rw [Z03g]
theorem Zxi {x:LI} (hx:U5 x):Z53 x=some (decide (Z6r x%PP=0)):=by
 rw [Z53,Z3 (Z5r hx)]
 simp only [Zb]
 have e:([0,0,0,0,0]:LI)=fe 0:=by decide
 rw [e]
 show some (ieq 5 (fe (Z6r x)) (fe 0))=_
 rw [Z03g]
 rfl
theorem Zrm {x:Int} (h0:0<=x) (h1:x<18446744073709551616):Z4 .and .u64 x 1=x%2:=Zik 1 (by decide) (by decide) h0 h1
theorem Zts {x:LI} (hx:U5 x):Z87 x=some (Z6r x%PP%2==1):=by
 rw [Z87,Z3 (Z5r hx)]
 simp only [Zb]
 have e:(Zmp x).getD 0 0=Z6r x%PP%2251799813685248:=rfl
 rw [e,Zrm (by omega) (by omega)]
 congr 2
 omega
theorem Zz5 {b:Bool} {x y:LI} (hx:U5 x) (hy:U5 y):Z8m b x y=some (fe (bif b then Z6r x else Z6r y)):=by
 rw [Z8m]
 cases b
 ·rw [Z08 rfl,Z3 (Z5r hy)]; rfl
 ·rw [Z0n rfl,Z3 (Z5r hx)]; rfl
theorem and8 {x y:Int} (m n:Nat) (hx:x=m) (hy:y=n) (h1:m<256) (h2:n<256):Z4 .and .u8 x y=((m &&& n:Nat):Int):=by
 subst hx; subst hy
 show IntKind.u8.wrap (((BitVec.ofInt 8 (m:Int) &&& BitVec.ofInt 8 (n:Int)).toNat:Nat):Int)=_
 rw [BitVec.toNat_and,bv8 m h1,bv8 n h2,Z0u]
 have:m &&& n<=m:=Nat.and_le_left
 omega
theorem Zhl (k:Nat) {x y:Int} (hy:y=((2^k-1:Nat):Int)) (hk:2^k<=256) (h0:0<=x) (h1:x<256):Z4 .and .u8 x y=x%((2^k:Nat):Int):=by
 have hp:0<2^k:=Nat.pow_pos (by decide)
 rw [and8 x.toNat (2^k-1) (by omega) hy (by omega) (by omega),Nat.and_two_pow_sub_one_eq_mod]
 rw [Int.natCast_emod]
 congr 1; omega
theorem Zwb {x:Int} (h0:0<=x) (h1:x<256):Z4 .and .u8 x 1=x%2:=Zhl 1 (by decide) (by decide) h0 h1
def Byt (e:LI):Prop:=∀ i,0<=e.getD i 0/\e.getD i 0<256
def ebit (e:LI) (i:Nat):Bool:=(e.getD (i / 8) 0 / ((2^(i%8):Nat):Int))%2==1
def pw (x:Int) (e:LI):Nat->Int
 | 0=>1
 | k+1=>if ebit e (255-k) then pw x e k*pw x e k%PP*x%PP else pw x e k*pw x e k%PP
theorem Zya (x:Int) (e:LI) (k:Nat):0<=pw x e k/\pw x e k<PP:=by
 cases k with
 | zero=>exact ⟨by show (0:Int)<=1; decide,by show (1:Int)<PP; decide⟩
 | succ k =>
  unfold pw
  split
  ·exact ⟨Int.emod_nonneg _ (by decide),Int.emod_lt_of_pos _ Zjk⟩
  ·exact ⟨Int.emod_nonneg _ (by decide),Int.emod_lt_of_pos _ Zjk⟩
theorem Z00s {n:Int} (h0:0<=n) (h1:n<PP):fe n=Zir n:=by unfold fe; rw [Int.emod_eq_of_lt h0 h1]
theorem Zy5 {x e:LI} (hx:U5 x) (he:Byt e) {kk:LI->Option (LI)} {k':Int->LI->Option (LI)} {i:Nat} (hi:i<256) (a:Int) (ha:0<=a/\a<PP) :
  Z8l x e kk k' (i:Int) (Zir a)=k' ((i:Int)-1) (Zir (if ebit e i then a*a%PP*Z6r x%PP else a*a%PP)):=by
 have hsq:Z1t (Zir a)=some (Zir (a*a%PP)):=by rw [Zr4 (Zrz _),Zf0 ha.1 ha.2]
 rw [Z8l,Z0n (by simp),Z17,Z3 hsq]
 simp only [Zb]
 have hd:wrap .i64 (Int.tdiv (i:Int) 8)=((i / 8:Nat):Int):=by
  rw [Int.tdiv_eq_ediv_of_nonneg (by omega),Zl (by omega) (by omega)]; omega
 have hm:Int.tmod (i:Int) 8=((i%8:Nat):Int):=by
  rw [Int.tmod_eq_emod_of_nonneg (by omega)]; omega
 rw [hd,hm,Zp (Z0i (by omega) (by omega)),Zp (by simp; omega)]
 have hb:=he (i / 8)
 simp only [Int.toNat_natCast]
 rw [Z9m .u8 (n:=i%8) (by show i%8<=8; omega)]
 have hp:(0:Int)<((2^(i%8):Nat):Int):=by have:=Nat.pow_pos (n:=i%8) (show 0<2 by decide); omega
 have hq0:=Int.ediv_nonneg hb.1 (Int.le_of_lt hp)
 have hq1:e.getD (i / 8) 0 / ((2^(i%8):Nat):Int)<256:=Int.lt_of_le_of_lt (Int.ediv_le_self _ hb.1) hb.2
 rw [Zwb hq0 hq1]
 have hw:wrap .i64 ((i:Int)-1)=(i:Int)-1:=Zl (by omega) (by omega)
 by_cases hbit:ebit e i=true
 ·have hb':(e.getD (i / 8) 0 / ((2^(i%8):Nat):Int)%2==1)=true:=hbit
  rw [Z0n hb',if_pos hbit,Z3 (Zxr (Zrz _) hx),Zf0 (Int.emod_nonneg _ (by decide)) (Int.emod_lt_of_pos _ Zjk),hw]
 ·rw [Bool.not_eq_true] at hbit
  have hb':(e.getD (i / 8) 0 / ((2^(i%8):Nat):Int)%2==1)=false:=hbit
  rw [Z08 hb',if_neg (by rw [hbit]; decide),hw]
theorem Zu4 {x e:LI} (hx:U5 x) (he:Byt e) : ∀ (k n:Nat),k<=256->Z54 x e some (n+1+k) ((k:Int)-1) (Zir (pw (Z6r x) e (256-k)))=some (Zir (pw (Z6r x) e 256))
 | 0,n,_=>by
  show Z54 x e some (n+1) _ _=_
  rw [Z54,Z8l,Z08 (by decide)]
 | k+1,n,hk=>by
  have ih:=Zu4 hx he k n (by omega)
  rw [<- Nat.add_assoc,Z54]
  have hi:((k+1:Nat):Int)-1=(k:Int):=by omega
  rw [hi,Zy5 hx he (by omega) _ (Zya _ _ _)]
  have e1:256-k=(256-(k+1))+1:=by omega
  have e2:255-(256-(k+1))=k:=by omega
  rw [e1,pw,e2] at ih
  exact ih
theorem Z03o {x e:LI} (hx:U5 x) (he:Byt e):Zaf x e=some (Zir (pw (Z6r x) e 256)):=by
 rw [Zaf,Z3 (Zul (by decide)),Z17]
 obtain ⟨n,hn⟩ : ∃ n,big=n+1+256:=⟨18446744073709551359,Z25⟩
 have:=Zu4 hx he 256 n (Nat.le_refl _)
 rw [<- hn] at this
 have e1:fe 1=Zir (pw (Z6r x) e (256-256)):=rfl
 rw [e1]
 exact this
set_option maxHeartbeats 1000000
theorem Z15 (k:Nat) {x y a:Int} (hx:x=a*((2^k:Nat):Int)) (ha:0<=a) (h0:0<=y) (hy:y<((2^k:Nat):Int)) (h1:y+x<18446744073709551616):Z4 .or .u64 y x=y+x:=by
 have hp:(0:Int)<=((2^k:Nat):Int):=Int.natCast_nonneg _
 have hx0:0<=x:=by rw [hx]; exact Int.mul_nonneg ha hp
 have:=Ztz k hx ha h0 hy (by omega)
 rw [or64 y.toNat x.toNat (by omega) (by omega) (by omega) (by omega)]
 rw [or64 x.toNat y.toNat (by omega) (by omega) (by omega) (by omega)] at this
 rw [Nat.or_comm,this,Int.add_comm]
def byt (n:Int):LI:=[n%256,n / 256%256,n / 65536%256,n / 16777216%256,n / 4294967296%256,n / 1099511627776%256,n / 281474976710656%256,n / 72057594037927936%256,n / 18446744073709551616%256,n / 4722366482869645213696%256,n / 1208925819614629174706176%256,n / 309485009821345068724781056%256,n / 79228162514264337593543950336%256,n / 20282409603651670423947251286016%256,n / 5192296858534827628530496329220096%256,n / 1329227995784915872903807060280344576%256,n / 340282366920938463463374607431768211456%256,n / 87112285931760246646623899502532662132736%256,n / 22300745198530623141535718272648361505980416%256,n / 5708990770823839524233143877797980545530986496%256,n / 1461501637330902918203684832716283019655932542976%256,n / 374144419156711147060143317175368453031918731001856%256,n / 95780971304118053647396689196894323976171195136475136%256,n / 24519928653854221733733552434404946937899825954937634816%256,n / 6277101735386680763835789423207666416102355444464034512896%256,n / 1606938044258990275541962092341162602522202993782792835301376%256,n / 411376139330301510538742295639337626245683966408394965837152256%256,n / 105312291668557186697918027683670432318895095400549111254310977536%256,n / 26959946667150639794667015087019630673637144422540572481103610249216%256,n / 6901746346790563787434755862277025452451108972170386555162524223799296%256,n / 1766847064778384329583297500742918515827483896875618958121606201292619776%256,n / 452312848583266388373324160190187140051835877600158453279131187530910662656%256]
theorem Zwo (k:LI->Option (LI)) (y0 y1 y2 y3 y4:Int):Z6h [y0,y1,y2,y3,y4] k big 0 (List.replicate 32 0)=k [wrap .u8 (Zq .u64 y0 0),wrap .u8 (Zq .u64 y0 8),wrap .u8 (Zq .u64 y0 16),wrap .u8 (Zq .u64 y0 24),wrap .u8 (Zq .u64 y0 32),wrap .u8 (Zq .u64 y0 40),wrap .u8 (Z4 .or .u64 (Zq .u64 y0 48) (Zj .u64 y1 3)),wrap .u8 (Zq .u64 y1 5),wrap .u8 (Zq .u64 y1 13),wrap .u8 (Zq .u64 y1 21),wrap .u8 (Zq .u64 y1 29),wrap .u8 (Zq .u64 y1 37),wrap .u8 (Z4 .or .u64 (Zq .u64 y1 45) (Zj .u64 y2 6)),wrap .u8 (Zq .u64 y2 2),wrap .u8 (Zq .u64 y2 10),wrap .u8 (Zq .u64 y2 18),wrap .u8 (Zq .u64 y2 26),wrap .u8 (Zq .u64 y2 34),wrap .u8 (Zq .u64 y2 42),wrap .u8 (Z4 .or .u64 (Zq .u64 y2 50) (Zj .u64 y3 1)),wrap .u8 (Zq .u64 y3 7),wrap .u8 (Zq .u64 y3 15),wrap .u8 (Zq .u64 y3 23),wrap .u8 (Zq .u64 y3 31),wrap .u8 (Zq .u64 y3 39),wrap .u8 (Z4 .or .u64 (Zq .u64 y3 47) (Zj .u64 y4 4)),wrap .u8 (Zq .u64 y4 4),wrap .u8 (Zq .u64 y4 12),wrap .u8 (Zq .u64 y4 20),wrap .u8 (Zq .u64 y4 28),wrap .u8 (Zq .u64 y4 36),wrap .u8 (Zq .u64 y4 44)]:=by kernel_rfl
theorem Z2w (x:Int) (n:Nat) (h:n<=64):Zq .u64 x (n:Int)=x / ((2^n:Nat):Int):=Z9m .u64 h
theorem Z08j {n:Int} (h0:0<=n):wrap .u8 (Zq .u64 (n%2251799813685248) 0)=n%256:=by
 have:=Z2w (n%2251799813685248) 0 (by decide)
 rw [show ((2^0:Nat):Int)=1 from rfl] at this
 refine (congrArg _ this).trans ?_
 rw [Z0u]
 omega
theorem Z08k {n:Int} (h0:0<=n):wrap .u8 (Zq .u64 (n%2251799813685248) 8)=n / 256%256:=by
 have:=Z2w (n%2251799813685248) 8 (by decide)
 rw [show ((2^8:Nat):Int)=256 from rfl] at this
 refine (congrArg _ this).trans ?_
 rw [Z0u]
 omega
theorem Z08l {n:Int} (h0:0<=n):wrap .u8 (Zq .u64 (n%2251799813685248) 16)=n / 65536%256:=by
 have:=Z2w (n%2251799813685248) 16 (by decide)
 rw [show ((2^16:Nat):Int)=65536 from rfl] at this
 refine (congrArg _ this).trans ?_
 rw [Z0u]
 omega
theorem Z08m {n:Int} (h0:0<=n):wrap .u8 (Zq .u64 (n%2251799813685248) 24)=n / 16777216%256:=by
 have:=Z2w (n%2251799813685248) 24 (by decide)
 rw [show ((2^24:Nat):Int)=16777216 from rfl] at this
 refine (congrArg _ this).trans ?_
 rw [Z0u]
 omega
theorem Z08n {n:Int} (h0:0<=n):wrap .u8 (Zq .u64 (n%2251799813685248) 32)=n / 4294967296%256:=by
 have:=Z2w (n%2251799813685248) 32 (by decide)
 rw [show ((2^32:Nat):Int)=4294967296 from rfl] at this
 refine (congrArg _ this).trans ?_
 rw [Z0u]
 omega
theorem Z08o {n:Int} (h0:0<=n):wrap .u8 (Zq .u64 (n%2251799813685248) 40)=n / 1099511627776%256:=by
 have:=Z2w (n%2251799813685248) 40 (by decide)
 rw [show ((2^40:Nat):Int)=1099511627776 from rfl] at this
 refine (congrArg _ this).trans ?_
 rw [Z0u]
 omega
theorem Z08p {n:Int} (h0:0<=n):wrap .u8 (Z4 .or .u64 (Zq .u64 (n%2251799813685248) 48) (Zj .u64 (n / 2251799813685248%2251799813685248) 3))=n / 281474976710656%256:=by
 have e1:Zq .u64 (n%2251799813685248) 48=n / 281474976710656%8:=by
  have:=Z2w (n%2251799813685248) 48 (by decide)
  rw [show ((2^48:Nat):Int)=281474976710656 from rfl] at this
  refine this.trans ?_
  omega
 have e2:Zj .u64 (n / 2251799813685248%2251799813685248) 3=(n / 2251799813685248%2251799813685248)*8:=by
  have:=Zfw .u64 (x:=n / 2251799813685248%2251799813685248) (n:=3) (by decide)
  rw [show ((2^3:Nat):Int)=8 from rfl] at this
  refine this.trans (Zd (by omega) (by omega))
 rw [e1,e2,Z15 3 (x:=(n / 2251799813685248%2251799813685248)*8) (y:=n / 281474976710656%8) (a:=n / 2251799813685248%2251799813685248) rfl (by omega) (by omega) (by show _<(8:Int); omega) (by omega),Z0u]
 omega
theorem Z08q {n:Int} (h0:0<=n):wrap .u8 (Zq .u64 (n / 2251799813685248%2251799813685248) 5)=n / 72057594037927936%256:=by
 have:=Z2w (n / 2251799813685248%2251799813685248) 5 (by decide)
 rw [show ((2^5:Nat):Int)=32 from rfl] at this
 refine (congrArg _ this).trans ?_
 rw [Z0u]
 omega
theorem Z08r {n:Int} (h0:0<=n):wrap .u8 (Zq .u64 (n / 2251799813685248%2251799813685248) 13)=n / 18446744073709551616%256:=by
 have:=Z2w (n / 2251799813685248%2251799813685248) 13 (by decide)
 rw [show ((2^13:Nat):Int)=8192 from rfl] at this
 refine (congrArg _ this).trans ?_
 rw [Z0u]
 omega
theorem Z08s {n:Int} (h0:0<=n):wrap .u8 (Zq .u64 (n / 2251799813685248%2251799813685248) 21)=n / 4722366482869645213696%256:=by
 have:=Z2w (n / 2251799813685248%2251799813685248) 21 (by decide)
 rw [show ((2^21:Nat):Int)=2097152 from rfl] at this
 refine (congrArg _ this).trans ?_
 rw [Z0u]
 omega
theorem Z04m {n:Int} (h0:0<=n):wrap .u8 (Zq .u64 (n / 2251799813685248%2251799813685248) 29)=n / 1208925819614629174706176%256:=by
 have:=Z2w (n / 2251799813685248%2251799813685248) 29 (by decide)
 rw [show ((2^29:Nat):Int)=536870912 from rfl] at this
 refine (congrArg _ this).trans ?_
 rw [Z0u]
 omega
theorem Z04n {n:Int} (h0:0<=n):wrap .u8 (Zq .u64 (n / 2251799813685248%2251799813685248) 37)=n / 309485009821345068724781056%256:=by
 have:=Z2w (n / 2251799813685248%2251799813685248) 37 (by decide)
 rw [show ((2^37:Nat):Int)=137438953472 from rfl] at this
 refine (congrArg _ this).trans ?_
 rw [Z0u]
 omega
theorem Z04o {n:Int} (h0:0<=n):wrap .u8 (Z4 .or .u64 (Zq .u64 (n / 2251799813685248%2251799813685248) 45) (Zj .u64 (n / 5070602400912917605986812821504%2251799813685248) 6))=n / 79228162514264337593543950336%256:=by
 have e1:Zq .u64 (n / 2251799813685248%2251799813685248) 45=n / 79228162514264337593543950336%64:=by
  have:=Z2w (n / 2251799813685248%2251799813685248) 45 (by decide)
  rw [show ((2^45:Nat):Int)=35184372088832 from rfl] at this
  refine this.trans ?_
  omega
 have e2:Zj .u64 (n / 5070602400912917605986812821504%2251799813685248) 6=(n / 5070602400912917605986812821504%2251799813685248)*64:=by
  have:=Zfw .u64 (x:=n / 5070602400912917605986812821504%2251799813685248) (n:=6) (by decide)
  rw [show ((2^6:Nat):Int)=64 from rfl] at this
  refine this.trans (Zd (by omega) (by omega))
 rw [e1,e2,Z15 6 (x:=(n / 5070602400912917605986812821504%2251799813685248)*64) (y:=n / 79228162514264337593543950336%64) (a:=n / 5070602400912917605986812821504%2251799813685248) rfl (by omega) (by omega) (by show _<(64:Int); omega) (by omega),Z0u]
 omega
theorem Z04p {n:Int} (h0:0<=n):wrap .u8 (Zq .u64 (n / 5070602400912917605986812821504%2251799813685248) 2)=n / 20282409603651670423947251286016%256:=by
 have:=Z2w (n / 5070602400912917605986812821504%2251799813685248) 2 (by decide)
 rw [show ((2^2:Nat):Int)=4 from rfl] at this
 refine (congrArg _ this).trans ?_
 rw [Z0u]
 omega
theorem Z04q {n:Int} (h0:0<=n):wrap .u8 (Zq .u64 (n / 5070602400912917605986812821504%2251799813685248) 10)=n / 5192296858534827628530496329220096%256:=by
 have:=Z2w (n / 5070602400912917605986812821504%2251799813685248) 10 (by decide)
 rw [show ((2^10:Nat):Int)=1024 from rfl] at this
 refine (congrArg _ this).trans ?_
 rw [Z0u]
 omega
theorem Z04r {n:Int} (h0:0<=n):wrap .u8 (Zq .u64 (n / 5070602400912917605986812821504%2251799813685248) 18)=n / 1329227995784915872903807060280344576%256:=by
 have:=Z2w (n / 5070602400912917605986812821504%2251799813685248) 18 (by decide)
 rw [show ((2^18:Nat):Int)=262144 from rfl] at this
 refine (congrArg _ this).trans ?_
 rw [Z0u]
 omega
theorem Z04s {n:Int} (h0:0<=n):wrap .u8 (Zq .u64 (n / 5070602400912917605986812821504%2251799813685248) 26)=n / 340282366920938463463374607431768211456%256:=by
 have:=Z2w (n / 5070602400912917605986812821504%2251799813685248) 26 (by decide)
 rw [show ((2^26:Nat):Int)=67108864 from rfl] at this
 refine (congrArg _ this).trans ?_
 rw [Z0u]
 omega
theorem Z04t {n:Int} (h0:0<=n):wrap .u8 (Zq .u64 (n / 5070602400912917605986812821504%2251799813685248) 34)=n / 87112285931760246646623899502532662132736%256:=by
 have:=Z2w (n / 5070602400912917605986812821504%2251799813685248) 34 (by decide)
 rw [show ((2^34:Nat):Int)=17179869184 from rfl] at this
 refine (congrArg _ this).trans ?_
 rw [Z0u]
 omega
theorem Z04u {n:Int} (h0:0<=n):wrap .u8 (Zq .u64 (n / 5070602400912917605986812821504%2251799813685248) 42)=n / 22300745198530623141535718272648361505980416%256:=by
 have:=Z2w (n / 5070602400912917605986812821504%2251799813685248) 42 (by decide)
 rw [show ((2^42:Nat):Int)=4398046511104 from rfl] at this
 refine (congrArg _ this).trans ?_
 rw [Z0u]
 omega
theorem Z04v {n:Int} (h0:0<=n):wrap .u8 (Z4 .or .u64 (Zq .u64 (n / 5070602400912917605986812821504%2251799813685248) 50) (Zj .u64 (n / 11417981541647679048466287755595961091061972992%2251799813685248) 1))=n / 5708990770823839524233143877797980545530986496%256:=by
 have e1:Zq .u64 (n / 5070602400912917605986812821504%2251799813685248) 50=n / 5708990770823839524233143877797980545530986496%2:=by
  have:=Z2w (n / 5070602400912917605986812821504%2251799813685248) 50 (by decide)
  rw [show ((2^50:Nat):Int)=1125899906842624 from rfl] at this
  refine this.trans ?_
  omega
 have e2:Zj .u64 (n / 11417981541647679048466287755595961091061972992%2251799813685248) 1=(n / 11417981541647679048466287755595961091061972992%2251799813685248)*2:=by
  have:=Zfw .u64 (x:=n / 11417981541647679048466287755595961091061972992%2251799813685248) (n:=1) (by decide)
  rw [show ((2^1:Nat):Int)=2 from rfl] at this
  refine this.trans (Zd (by omega) (by omega))
 rw [e1,e2,Z15 1 (x:=(n / 11417981541647679048466287755595961091061972992%2251799813685248)*2) (y:=n / 5708990770823839524233143877797980545530986496%2) (a:=n / 11417981541647679048466287755595961091061972992%2251799813685248) rfl (by omega) (by omega) (by show _<(2:Int); omega) (by omega),Z0u]
 omega
theorem Z04w {n:Int} (h0:0<=n):wrap .u8 (Zq .u64 (n / 11417981541647679048466287755595961091061972992%2251799813685248) 7)=n / 1461501637330902918203684832716283019655932542976%256:=by
 have:=Z2w (n / 11417981541647679048466287755595961091061972992%2251799813685248) 7 (by decide)
 rw [show ((2^7:Nat):Int)=128 from rfl] at this
 refine (congrArg _ this).trans ?_
 rw [Z0u]
 omega
theorem Z04x {n:Int} (h0:0<=n):wrap .u8 (Zq .u64 (n / 11417981541647679048466287755595961091061972992%2251799813685248) 15)=n / 374144419156711147060143317175368453031918731001856%256:=by
 have:=Z2w (n / 11417981541647679048466287755595961091061972992%2251799813685248) 15 (by decide)
 rw [show ((2^15:Nat):Int)=32768 from rfl] at this
 refine (congrArg _ this).trans ?_
 rw [Z0u]
 omega
theorem Z04y {n:Int} (h0:0<=n):wrap .u8 (Zq .u64 (n / 11417981541647679048466287755595961091061972992%2251799813685248) 23)=n / 95780971304118053647396689196894323976171195136475136%256:=by
 have:=Z2w (n / 11417981541647679048466287755595961091061972992%2251799813685248) 23 (by decide)
 rw [show ((2^23:Nat):Int)=8388608 from rfl] at this
 refine (congrArg _ this).trans ?_
 rw [Z0u]
 omega
theorem Z04z {n:Int} (h0:0<=n):wrap .u8 (Zq .u64 (n / 11417981541647679048466287755595961091061972992%2251799813685248) 31)=n / 24519928653854221733733552434404946937899825954937634816%256:=by
 have:=Z2w (n / 11417981541647679048466287755595961091061972992%2251799813685248) 31 (by decide)
 rw [show ((2^31:Nat):Int)=2147483648 from rfl] at this
 refine (congrArg _ this).trans ?_
 rw [Z0u]
 omega
theorem Z050 {n:Int} (h0:0<=n):wrap .u8 (Zq .u64 (n / 11417981541647679048466287755595961091061972992%2251799813685248) 39)=n / 6277101735386680763835789423207666416102355444464034512896%256:=by
 have:=Z2w (n / 11417981541647679048466287755595961091061972992%2251799813685248) 39 (by decide)
 rw [show ((2^39:Nat):Int)=549755813888 from rfl] at this
 refine (congrArg _ this).trans ?_
 rw [Z0u]
 omega
theorem Z051 {n:Int} (h0:0<=n):wrap .u8 (Z4 .or .u64 (Zq .u64 (n / 11417981541647679048466287755595961091061972992%2251799813685248) 47) (Zj .u64 (n / 25711008708143844408671393477458601640355247900524685364822016%2251799813685248) 4))=n / 1606938044258990275541962092341162602522202993782792835301376%256:=by
 have e1:Zq .u64 (n / 11417981541647679048466287755595961091061972992%2251799813685248) 47=n / 1606938044258990275541962092341162602522202993782792835301376%16:=by
  have:=Z2w (n / 11417981541647679048466287755595961091061972992%2251799813685248) 47 (by decide)
  rw [show ((2^47:Nat):Int)=140737488355328 from rfl] at this
  refine this.trans ?_
  omega
 have e2:Zj .u64 (n / 25711008708143844408671393477458601640355247900524685364822016%2251799813685248) 4=(n / 25711008708143844408671393477458601640355247900524685364822016%2251799813685248)*16:=by
  have:=Zfw .u64 (x:=n / 25711008708143844408671393477458601640355247900524685364822016%2251799813685248) (n:=4) (by decide)
  rw [show ((2^4:Nat):Int)=16 from rfl] at this
  refine this.trans (Zd (by omega) (by omega))
 rw [e1,e2,Z15 4 (x:=(n / 25711008708143844408671393477458601640355247900524685364822016%2251799813685248)*16) (y:=n / 1606938044258990275541962092341162602522202993782792835301376%16) (a:=n / 25711008708143844408671393477458601640355247900524685364822016%2251799813685248) rfl (by omega) (by omega) (by show _<(16:Int); omega) (by omega),Z0u]
 omega
theorem Z052 {n:Int} (h0:0<=n) (h1:n<57896044618658097711785492504343953926634992332820282019728792003956564819949):wrap .u8 (Zq .u64 (n / 25711008708143844408671393477458601640355247900524685364822016%2251799813685248) 4)=n / 411376139330301510538742295639337626245683966408394965837152256%256:=by
 have:=Z2w (n / 25711008708143844408671393477458601640355247900524685364822016%2251799813685248) 4 (by decide)
 rw [show ((2^4:Nat):Int)=16 from rfl] at this
 refine (congrArg _ this).trans ?_
 rw [Z0u]
 omega
theorem Z053 {n:Int} (h0:0<=n) (h1:n<57896044618658097711785492504343953926634992332820282019728792003956564819949):wrap .u8 (Zq .u64 (n / 25711008708143844408671393477458601640355247900524685364822016%2251799813685248) 12)=n / 105312291668557186697918027683670432318895095400549111254310977536%256:=by
 have:=Z2w (n / 25711008708143844408671393477458601640355247900524685364822016%2251799813685248) 12 (by decide)
 rw [show ((2^12:Nat):Int)=4096 from rfl] at this
 refine (congrArg _ this).trans ?_
 rw [Z0u]
 omega
theorem Z054 {n:Int} (h0:0<=n) (h1:n<57896044618658097711785492504343953926634992332820282019728792003956564819949):wrap .u8 (Zq .u64 (n / 25711008708143844408671393477458601640355247900524685364822016%2251799813685248) 20)=n / 26959946667150639794667015087019630673637144422540572481103610249216%256:=by
 have:=Z2w (n / 25711008708143844408671393477458601640355247900524685364822016%2251799813685248) 20 (by decide)
 rw [show ((2^20:Nat):Int)=1048576 from rfl] at this
 refine (congrArg _ this).trans ?_
 rw [Z0u]
 omega
theorem Z055 {n:Int} (h0:0<=n) (h1:n<57896044618658097711785492504343953926634992332820282019728792003956564819949):wrap .u8 (Zq .u64 (n / 25711008708143844408671393477458601640355247900524685364822016%2251799813685248) 28)=n / 6901746346790563787434755862277025452451108972170386555162524223799296%256:=by
 have:=Z2w (n / 25711008708143844408671393477458601640355247900524685364822016%2251799813685248) 28 (by decide)
 rw [show ((2^28:Nat):Int)=268435456 from rfl] at this
 refine (congrArg _ this).trans ?_
 rw [Z0u]
 omega
theorem Z056 {n:Int} (h0:0<=n) (h1:n<57896044618658097711785492504343953926634992332820282019728792003956564819949):wrap .u8 (Zq .u64 (n / 25711008708143844408671393477458601640355247900524685364822016%2251799813685248) 36)=n / 1766847064778384329583297500742918515827483896875618958121606201292619776%256:=by
 have:=Z2w (n / 25711008708143844408671393477458601640355247900524685364822016%2251799813685248) 36 (by decide)
 rw [show ((2^36:Nat):Int)=68719476736 from rfl] at this
 refine (congrArg _ this).trans ?_
 rw [Z0u]
 omega
theorem Z057 {n:Int} (h0:0<=n) (h1:n<57896044618658097711785492504343953926634992332820282019728792003956564819949):wrap .u8 (Zq .u64 (n / 25711008708143844408671393477458601640355247900524685364822016%2251799813685248) 44)=n / 452312848583266388373324160190187140051835877600158453279131187530910662656%256:=by
 have:=Z2w (n / 25711008708143844408671393477458601640355247900524685364822016%2251799813685248) 44 (by decide)
 rw [show ((2^44:Nat):Int)=17592186044416 from rfl] at this
 refine (congrArg _ this).trans ?_
 rw [Z0u]
 omega
theorem Ztc {x:LI} (hx:U5 x):Z9q x=some (byt (Z6r x%PP)):=by
 rw [Z9q,Z3 (Z5r hx),Z17]
 have h0:0<=Z6r x%PP:=Int.emod_nonneg _ (by decide)
 have h1:Z6r x%PP<PP:=Int.emod_lt_of_pos _ Zjk
 unfold Zmp
 generalize Z6r x%PP=n at *
 have e:Zir n = [n%2251799813685248,n / 2251799813685248%2251799813685248,n / 5070602400912917605986812821504%2251799813685248,n / 11417981541647679048466287755595961091061972992%2251799813685248,n / 25711008708143844408671393477458601640355247900524685364822016%2251799813685248]:=rfl
 rw [e,Zwo,Z08j h0,Z08k h0,Z08l h0,Z08m h0,Z08n h0,Z08o h0,Z08p h0,Z08q h0,Z08r h0,Z08s h0,Z04m h0,Z04n h0,Z04o h0,Z04p h0,Z04q h0,Z04r h0,Z04s h0,Z04t h0,Z04u h0,Z04v h0,Z04w h0,Z04x h0,Z04y h0,Z04z h0,Z050 h0,Z051 h0,Z052 h0 h1,Z053 h0 h1,Z054 h0 h1,Z055 h0 h1,Z056 h0 h1,Z057 h0 h1]
 rfl
theorem Z08y (k:LI->Option (LI)) (x:LI):Z44 x k big 0 (List.replicate 5 0)=k [Z4 .or .u64 (Z4 .or .u64 (Z4 .or .u64 (Z4 .or .u64 (Z4 .or .u64 (Z4 .or .u64 (Z4 .or .u64 (0) (Z4 .and .u64 (Zj .u64 (wrap .u64 (x.getD 0 0)) 0) 2251799813685247)) (Z4 .and .u64 (Zj .u64 (wrap .u64 (x.getD 1 0)) 8) 2251799813685247)) (Z4 .and .u64 (Zj .u64 (wrap .u64 (x.getD 2 0)) 16) 2251799813685247)) (Z4 .and .u64 (Zj .u64 (wrap .u64 (x.getD 3 0)) 24) 2251799813685247)) (Z4 .and .u64 (Zj .u64 (wrap .u64 (x.getD 4 0)) 32) 2251799813685247)) (Z4 .and .u64 (Zj .u64 (wrap .u64 (x.getD 5 0)) 40) 2251799813685247)) (Z4 .and .u64 (Zj .u64 (wrap .u64 (x.getD 6 0)) 48) 2251799813685247),
 Z4 .or .u64 (Z4 .or .u64 (Z4 .or .u64 (Z4 .or .u64 (Z4 .or .u64 (Z4 .or .u64 (Z4 .or .u64 (0) (Zq .u64 (wrap .u64 (x.getD 6 0)) 3)) (Z4 .and .u64 (Zj .u64 (wrap .u64 (x.getD 7 0)) 5) 2251799813685247)) (Z4 .and .u64 (Zj .u64 (wrap .u64 (x.getD 8 0)) 13) 2251799813685247)) (Z4 .and .u64 (Zj .u64 (wrap .u64 (x.getD 9 0)) 21) 2251799813685247)) (Z4 .and .u64 (Zj .u64 (wrap .u64 (x.getD 10 0)) 29) 2251799813685247)) (Z4 .and .u64 (Zj .u64 (wrap .u64 (x.getD 11 0)) 37) 2251799813685247)) (Z4 .and .u64 (Zj .u64 (wrap .u64 (x.getD 12 0)) 45) 2251799813685247),
 Z4 .or .u64 (Z4 .or .u64 (Z4 .or .u64 (Z4 .or .u64 (Z4 .or .u64 (Z4 .or .u64 (Z4 .or .u64 (Z4 .or .u64 (0) (Zq .u64 (wrap .u64 (x.getD 12 0)) 6)) (Z4 .and .u64 (Zj .u64 (wrap .u64 (x.getD 13 0)) 2) 2251799813685247)) (Z4 .and .u64 (Zj .u64 (wrap .u64 (x.getD 14 0)) 10) 2251799813685247)) (Z4 .and .u64 (Zj .u64 (wrap .u64 (x.getD 15 0)) 18) 2251799813685247)) (Z4 .and .u64 (Zj .u64 (wrap .u64 (x.getD 16 0)) 26) 2251799813685247)) (Z4 .and .u64 (Zj .u64 (wrap .u64 (x.getD 17 0)) 34) 2251799813685247)) (Z4 .and .u64 (Zj .u64 (wrap .u64 (x.getD 18 0)) 42) 2251799813685247)) (Z4 .and .u64 (Zj .u64 (wrap .u64 (x.getD 19 0)) 50) 2251799813685247),
 Z4 .or .u64 (Z4 .or .u64 (Z4 .or .u64 (Z4 .or .u64 (Z4 .or .u64 (Z4 .or .u64 (Z4 .or .u64 (0) (Zq .u64 (wrap .u64 (x.getD 19 0)) 1)) (Z4 .and .u64 (Zj .u64 (wrap .u64 (x.getD 20 0)) 7) 2251799813685247)) (Z4 .and .u64 (Zj .u64 (wrap .u64 (x.getD 21 0)) 15) 2251799813685247)) (Z4 .and .u64 (Zj .u64 (wrap .u64 (x.getD 22 0)) 23) 2251799813685247)) (Z4 .and .u64 (Zj .u64 (wrap .u64 (x.getD 23 0)) 31) 2251799813685247)) (Z4 .and .u64 (Zj .u64 (wrap .u64 (x.getD 24 0)) 39) 2251799813685247)) (Z4 .and .u64 (Zj .u64 (wrap .u64 (x.getD 25 0)) 47) 2251799813685247),
 Z4 .or .u64 (Z4 .or .u64 (Z4 .or .u64 (Z4 .or .u64 (Z4 .or .u64 (Z4 .or .u64 (Z4 .or .u64 (0) (Zq .u64 (wrap .u64 (x.getD 25 0)) 4)) (Z4 .and .u64 (Zj .u64 (wrap .u64 (x.getD 26 0)) 4) 2251799813685247)) (Z4 .and .u64 (Zj .u64 (wrap .u64 (x.getD 27 0)) 12) 2251799813685247)) (Z4 .and .u64 (Zj .u64 (wrap .u64 (x.getD 28 0)) 20) 2251799813685247)) (Z4 .and .u64 (Zj .u64 (wrap .u64 (x.getD 29 0)) 28) 2251799813685247)) (Z4 .and .u64 (Zj .u64 (wrap .u64 (x.getD 30 0)) 36) 2251799813685247)) (Z4 .and .u64 (Zj .u64 (wrap .u64 (Z4 .and .u8 (x.getD 31 0) 127)) 44) 2251799813685247)]:=by kernel_rfl
theorem Z26 (k:Nat) {b:Int} (hk:k<=51) (hb:0<=b/\b<256):Z4 .and .u64 (Zj .u64 (wrap .u64 b) (k:Int)) 2251799813685247=b%((2^(51-k):Nat):Int)*((2^k:Nat):Int):=by
 have hp:(0:Int)<((2^k:Nat):Int):=by have:=Nat.pow_pos (n:=k) (show 0<2 by decide); omega
 have hq:(0:Int)<((2^(51-k):Nat):Int):=by have:=Nat.pow_pos (n:=51-k) (show 0<2 by decide); omega
 have hle:((2^k:Nat):Int)<=2251799813685248:=by
  have:=Nat.pow_le_pow_right (show 0<2 by decide) hk
  have e:(2^51:Nat)=2251799813685248:=by decide
  omega
 have hprod:((2^k:Nat):Int)*((2^(51-k):Nat):Int)=2251799813685248:=by
  rw [<- Int.natCast_mul,<- Nat.pow_add,show k+(51-k)=51 by omega]; rfl
 have hbk:b*((2^k:Nat):Int)<=256*2251799813685248:=Int.mul_le_mul (by omega) hle (by omega) (by omega)
 have hbk0:0<=b*((2^k:Nat):Int):=Int.mul_nonneg hb.1 (by omega)
 rw [Zd hb.1 (by omega),Zfw .u64 (n:=k) (by show k<=64; omega),Zd hbk0 (by omega),Zo3 hbk0 (by omega)]
 rw [<- hprod,Int.mul_comm b,Int.mul_emod_mul_of_pos _ _ hp,Int.mul_comm]
theorem Zko (k:Nat) {b:Int} (hk:k<=64) (hb:0<=b/\b<256):Zq .u64 (wrap .u64 b) (k:Int)=b / ((2^k:Nat):Int):=by
 rw [Zd hb.1 (by omega),Z9m .u64 hk]
theorem Z0e7 {b0 b1 b2 b3 b4 b5 b6:Int} (h0:0<=b0/\b0<256) (h1:0<=b1/\b1<256) (h2:0<=b2/\b2<256) (h3:0<=b3/\b3<256) (h4:0<=b4/\b4<256) (h5:0<=b5/\b5<256) (h6:0<=b6/\b6<256):Z4 .or .u64 (Z4 .or .u64 (Z4 .or .u64 (Z4 .or .u64 (Z4 .or .u64 (Z4 .or .u64 (Z4 .or .u64 (0) (Z4 .and .u64 (Zj .u64 (wrap .u64 b0) 0) 2251799813685247)) (Z4 .and .u64 (Zj .u64 (wrap .u64 b1) 8) 2251799813685247)) (Z4 .and .u64 (Zj .u64 (wrap .u64 b2) 16) 2251799813685247)) (Z4 .and .u64 (Zj .u64 (wrap .u64 b3) 24) 2251799813685247)) (Z4 .and .u64 (Zj .u64 (wrap .u64 b4) 32) 2251799813685247)) (Z4 .and .u64 (Zj .u64 (wrap .u64 b5) 40) 2251799813685247)) (Z4 .and .u64 (Zj .u64 (wrap .u64 b6) 48) 2251799813685247)=0+b0*1+b1*256+b2*65536+b3*16777216+b4*4294967296+b5*1099511627776+b6%8*281474976710656:=by
 have p0:Z4 .and .u64 (Zj .u64 (wrap .u64 b0) 0) 2251799813685247=b0*1:=by
  have:=Z26 0 (by decide) h0
  refine this.trans ?_
  rw [show ((2^(51-0):Nat):Int)=2251799813685248 from rfl,show ((2^0:Nat):Int)=1 from rfl]
  rw [Int.emod_eq_of_lt h0.1 (by omega)]
 rw [p0,Z15 0 (x:=b0*1) (y:=0) (a:=b0) (by simp) (by omega) (by omega) (by show _<(1:Int); omega) (by omega)]
 have p1:Z4 .and .u64 (Zj .u64 (wrap .u64 b1) 8) 2251799813685247=b1*256:=by
  have:=Z26 8 (by decide) h1
  refine this.trans ?_
  rw [show ((2^(51-8):Nat):Int)=8796093022208 from rfl,show ((2^8:Nat):Int)=256 from rfl]
  rw [Int.emod_eq_of_lt h1.1 (by omega)]
 rw [p1,Z15 8 (x:=b1*256) (y:=0+b0*1) (a:=b1) (by simp) (by omega) (by omega) (by show _<(256:Int); omega) (by omega)]
 have p2:Z4 .and .u64 (Zj .u64 (wrap .u64 b2) 16) 2251799813685247=b2*65536:=by
  have:=Z26 16 (by decide) h2
  refine this.trans ?_
  rw [show ((2^(51-16):Nat):Int)=34359738368 from rfl,show ((2^16:Nat):Int)=65536 from rfl]
  rw [Int.emod_eq_of_lt h2.1 (by omega)]
 rw [p2,Z15 16 (x:=b2*65536) (y:=0+b0*1+b1*256) (a:=b2) (by simp) (by omega) (by omega) (by show _<(65536:Int); omega) (by omega)]
 have p3:Z4 .and .u64 (Zj .u64 (wrap .u64 b3) 24) 2251799813685247=b3*16777216:=by
  have:=Z26 24 (by decide) h3
  refine this.trans ?_
  rw [show ((2^(51-24):Nat):Int)=134217728 from rfl,show ((2^24:Nat):Int)=16777216 from rfl]
  rw [Int.emod_eq_of_lt h3.1 (by omega)]
 rw [p3,Z15 24 (x:=b3*16777216) (y:=0+b0*1+b1*256+b2*65536) (a:=b3) (by simp) (by omega) (by omega) (by show _<(16777216:Int); omega) (by omega)]
 have p4:Z4 .and .u64 (Zj .u64 (wrap .u64 b4) 32) 2251799813685247=b4*4294967296:=by
  have:=Z26 32 (by decide) h4
  refine this.trans ?_
  rw [show ((2^(51-32):Nat):Int)=524288 from rfl,show ((2^32:Nat):Int)=4294967296 from rfl]
  rw [Int.emod_eq_of_lt h4.1 (by omega)]
 rw [p4,Z15 32 (x:=b4*4294967296) (y:=0+b0*1+b1*256+b2*65536+b3*16777216) (a:=b4) (by simp) (by omega) (by omega) (by show _<(4294967296:Int); omega) (by omega)]
 have p5:Z4 .and .u64 (Zj .u64 (wrap .u64 b5) 40) 2251799813685247=b5*1099511627776:=by
  have:=Z26 40 (by decide) h5
  refine this.trans ?_
  rw [show ((2^(51-40):Nat):Int)=2048 from rfl,show ((2^40:Nat):Int)=1099511627776 from rfl]
  rw [Int.emod_eq_of_lt h5.1 (by omega)]
 rw [p5,Z15 40 (x:=b5*1099511627776) (y:=0+b0*1+b1*256+b2*65536+b3*16777216+b4*4294967296) (a:=b5) (by simp) (by omega) (by omega) (by show _<(1099511627776:Int); omega) (by omega)]
 have p6:Z4 .and .u64 (Zj .u64 (wrap .u64 b6) 48) 2251799813685247=b6%8*281474976710656:=by
  have:=Z26 48 (by decide) h6
  refine this.trans ?_
  rw [show ((2^(51-48):Nat):Int)=8 from rfl,show ((2^48:Nat):Int)=281474976710656 from rfl]
 rw [p6,Z15 48 (x:=b6%8*281474976710656) (y:=0+b0*1+b1*256+b2*65536+b3*16777216+b4*4294967296+b5*1099511627776) (a:=b6%8) (by simp) (by omega) (by omega) (by show _<(281474976710656:Int); omega) (by omega)]
theorem Z0e8 {b6 b7 b8 b9 b10 b11 b12:Int} (h6:0<=b6/\b6<256) (h7:0<=b7/\b7<256) (h8:0<=b8/\b8<256) (h9:0<=b9/\b9<256) (h10:0<=b10/\b10<256) (h11:0<=b11/\b11<256) (h12:0<=b12/\b12<256):Z4 .or .u64 (Z4 .or .u64 (Z4 .or .u64 (Z4 .or .u64 (Z4 .or .u64 (Z4 .or .u64 (Z4 .or .u64 (0) (Zq .u64 (wrap .u64 b6) 3)) (Z4 .and .u64 (Zj .u64 (wrap .u64 b7) 5) 2251799813685247)) (Z4 .and .u64 (Zj .u64 (wrap .u64 b8) 13) 2251799813685247)) (Z4 .and .u64 (Zj .u64 (wrap .u64 b9) 21) 2251799813685247)) (Z4 .and .u64 (Zj .u64 (wrap .u64 b10) 29) 2251799813685247)) (Z4 .and .u64 (Zj .u64 (wrap .u64 b11) 37) 2251799813685247)) (Z4 .and .u64 (Zj .u64 (wrap .u64 b12) 45) 2251799813685247)=0+b6 / 8+b7*32+b8*8192+b9*2097152+b10*536870912+b11*137438953472+b12%64*35184372088832:=by
 have p0:Zq .u64 (wrap .u64 b6) 3=b6 / 8:=by
  have:=Zko 3 (by decide) h6
  refine this.trans ?_
  rw [show ((2^3:Nat):Int)=8 from rfl]
 rw [p0,Z15 0 (x:=b6 / 8) (y:=0) (a:=b6 / 8) (by simp) (by omega) (by omega) (by show _<(1:Int); omega) (by omega)]
 have p1:Z4 .and .u64 (Zj .u64 (wrap .u64 b7) 5) 2251799813685247=b7*32:=by
  have:=Z26 5 (by decide) h7
  refine this.trans ?_
  rw [show ((2^(51-5):Nat):Int)=70368744177664 from rfl,show ((2^5:Nat):Int)=32 from rfl]
  rw [Int.emod_eq_of_lt h7.1 (by omega)]
 rw [p1,Z15 5 (x:=b7*32) (y:=0+b6 / 8) (a:=b7) (by simp) (by omega) (by omega) (by show _<(32:Int); omega) (by omega)]
 have p2:Z4 .and .u64 (Zj .u64 (wrap .u64 b8) 13) 2251799813685247=b8*8192:=by
  have:=Z26 13 (by decide) h8
  refine this.trans ?_
  rw [show ((2^(51-13):Nat):Int)=274877906944 from rfl,show ((2^13:Nat):Int)=8192 from rfl]
  rw [Int.emod_eq_of_lt h8.1 (by omega)]
 rw [p2,Z15 13 (x:=b8*8192) (y:=0+b6 / 8+b7*32) (a:=b8) (by simp) (by omega) (by omega) (by show _<(8192:Int); omega) (by omega)]
 have p3:Z4 .and .u64 (Zj .u64 (wrap .u64 b9) 21) 2251799813685247=b9*2097152:=by
  have:=Z26 21 (by decide) h9
  refine this.trans ?_
  rw [show ((2^(51-21):Nat):Int)=1073741824 from rfl,show ((2^21:Nat):Int)=2097152 from rfl]
  rw [Int.emod_eq_of_lt h9.1 (by omega)]
 rw [p3,Z15 21 (x:=b9*2097152) (y:=0+b6 / 8+b7*32+b8*8192) (a:=b9) (by simp) (by omega) (by omega) (by show _<(2097152:Int); omega) (by omega)]
 have p4:Z4 .and .u64 (Zj .u64 (wrap .u64 b10) 29) 2251799813685247=b10*536870912:=by
  have:=Z26 29 (by decide) h10
  refine this.trans ?_
  rw [show ((2^(51-29):Nat):Int)=4194304 from rfl,show ((2^29:Nat):Int)=536870912 from rfl]
  rw [Int.emod_eq_of_lt h10.1 (by omega)]
 rw [p4,Z15 29 (x:=b10*536870912) (y:=0+b6 / 8+b7*32+b8*8192+b9*2097152) (a:=b10) (by simp) (by omega) (by omega) (by show _<(536870912:Int); omega) (by omega)]
 have p5:Z4 .and .u64 (Zj .u64 (wrap .u64 b11) 37) 2251799813685247=b11*137438953472:=by
  have:=Z26 37 (by decide) h11
  refine this.trans ?_
  rw [show ((2^(51-37):Nat):Int)=16384 from rfl,show ((2^37:Nat):Int)=137438953472 from rfl]
  rw [Int.emod_eq_of_lt h11.1 (by omega)]
 rw [p5,Z15 37 (x:=b11*137438953472) (y:=0+b6 / 8+b7*32+b8*8192+b9*2097152+b10*536870912) (a:=b11) (by simp) (by omega) (by omega) (by show _<(137438953472:Int); omega) (by omega)]
 have p6:Z4 .and .u64 (Zj .u64 (wrap .u64 b12) 45) 2251799813685247=b12%64*35184372088832:=by
  have:=Z26 45 (by decide) h12
  refine this.trans ?_
  rw [show ((2^(51-45):Nat):Int)=64 from rfl,show ((2^45:Nat):Int)=35184372088832 from rfl]
 rw [p6,Z15 45 (x:=b12%64*35184372088832) (y:=0+b6 / 8+b7*32+b8*8192+b9*2097152+b10*536870912+b11*137438953472) (a:=b12%64) (by simp) (by omega) (by omega) (by show _<(35184372088832:Int); omega) (by omega)]
theorem Z0e9 {b12 b13 b14 b15 b16 b17 b18 b19:Int} (h12:0<=b12/\b12<256) (h13:0<=b13/\b13<256) (h14:0<=b14/\b14<256) (h15:0<=b15/\b15<256) (h16:0<=b16/\b16<256) (h17:0<=b17/\b17<256) (h18:0<=b18/\b18<256) (h19:0<=b19/\b19<256):Z4 .or .u64 (Z4 .or .u64 (Z4 .or .u64 (Z4 .or .u64 (Z4 .or .u64 (Z4 .or .u64 (Z4 .or .u64 (Z4 .or .u64 (0) (Zq .u64 (wrap .u64 b12) 6)) (Z4 .and .u64 (Zj .u64 (wrap .u64 b13) 2) 2251799813685247)) (Z4 .and .u64 (Zj .u64 (wrap .u64 b14) 10) 2251799813685247)) (Z4 .and .u64 (Zj .u64 (wrap .u64 b15) 18) 2251799813685247)) (Z4 .and .u64 (Zj .u64 (wrap .u64 b16) 26) 2251799813685247)) (Z4 .and .u64 (Zj .u64 (wrap .u64 b17) 34) 2251799813685247)) (Z4 .and .u64 (Zj .u64 (wrap .u64 b18) 42) 2251799813685247)) (Z4 .and .u64 (Zj .u64 (wrap .u64 b19) 50) 2251799813685247)=0+b12 / 64+b13*4+b14*1024+b15*262144+b16*67108864+b17*17179869184+b18*4398046511104+b19%2*1125899906842624:=by
 have p0:Zq .u64 (wrap .u64 b12) 6=b12 / 64:=by
  have:=Zko 6 (by decide) h12
  refine this.trans ?_
  rw [show ((2^6:Nat):Int)=64 from rfl]
 rw [p0,Z15 0 (x:=b12 / 64) (y:=0) (a:=b12 / 64) (by simp) (by omega) (by omega) (by show _<(1:Int); omega) (by omega)]
 have p1:Z4 .and .u64 (Zj .u64 (wrap .u64 b13) 2) 2251799813685247=b13*4:=by
  have:=Z26 2 (by decide) h13
  refine this.trans ?_
  rw [show ((2^(51-2):Nat):Int)=562949953421312 from rfl,show ((2^2:Nat):Int)=4 from rfl]
  rw [Int.emod_eq_of_lt h13.1 (by omega)]
 rw [p1,Z15 2 (x:=b13*4) (y:=0+b12 / 64) (a:=b13) (by simp) (by omega) (by omega) (by show _<(4:Int); omega) (by omega)]
 have p2:Z4 .and .u64 (Zj .u64 (wrap .u64 b14) 10) 2251799813685247=b14*1024:=by
  have:=Z26 10 (by decide) h14
  refine this.trans ?_
  rw [show ((2^(51-10):Nat):Int)=2199023255552 from rfl,show ((2^10:Nat):Int)=1024 from rfl]
  rw [Int.emod_eq_of_lt h14.1 (by omega)]
 rw [p2,Z15 10 (x:=b14*1024) (y:=0+b12 / 64+b13*4) (a:=b14) (by simp) (by omega) (by omega) (by show _<(1024:Int); omega) (by omega)]
 have p3:Z4 .and .u64 (Zj .u64 (wrap .u64 b15) 18) 2251799813685247=b15*262144:=by
  have:=Z26 18 (by decide) h15
  refine this.trans ?_
  rw [show ((2^(51-18):Nat):Int)=8589934592 from rfl,show ((2^18:Nat):Int)=262144 from rfl]
  rw [Int.emod_eq_of_lt h15.1 (by omega)]
 rw [p3,Z15 18 (x:=b15*262144) (y:=0+b12 / 64+b13*4+b14*1024) (a:=b15) (by simp) (by omega) (by omega) (by show _<(262144:Int); omega) (by omega)]
 have p4:Z4 .and .u64 (Zj .u64 (wrap .u64 b16) 26) 2251799813685247=b16*67108864:=by
  have:=Z26 26 (by decide) h16
  refine this.trans ?_
  rw [show ((2^(51-26):Nat):Int)=33554432 from rfl,show ((2^26:Nat):Int)=67108864 from rfl]
  rw [Int.emod_eq_of_lt h16.1 (by omega)]
 rw [p4,Z15 26 (x:=b16*67108864) (y:=0+b12 / 64+b13*4+b14*1024+b15*262144) (a:=b16) (by simp) (by omega) (by omega) (by show _<(67108864:Int); omega) (by omega)]
 have p5:Z4 .and .u64 (Zj .u64 (wrap .u64 b17) 34) 2251799813685247=b17*17179869184:=by
  have:=Z26 34 (by decide) h17
  refine this.trans ?_
  rw [show ((2^(51-34):Nat):Int)=131072 from rfl,show ((2^34:Nat):Int)=17179869184 from rfl]
  rw [Int.emod_eq_of_lt h17.1 (by omega)]
 rw [p5,Z15 34 (x:=b17*17179869184) (y:=0+b12 / 64+b13*4+b14*1024+b15*262144+b16*67108864) (a:=b17) (by simp) (by omega) (by omega) (by show _<(17179869184:Int); omega) (by omega)]
 have p6:Z4 .and .u64 (Zj .u64 (wrap .u64 b18) 42) 2251799813685247=b18*4398046511104:=by
  have:=Z26 42 (by decide) h18
  refine this.trans ?_
  rw [show ((2^(51-42):Nat):Int)=512 from rfl,show ((2^42:Nat):Int)=4398046511104 from rfl]
  rw [Int.emod_eq_of_lt h18.1 (by omega)]
 rw [p6,Z15 42 (x:=b18*4398046511104) (y:=0+b12 / 64+b13*4+b14*1024+b15*262144+b16*67108864+b17*17179869184) (a:=b18) (by simp) (by omega) (by omega) (by show _<(4398046511104:Int); omega) (by omega)]
 have p7:Z4 .and .u64 (Zj .u64 (wrap .u64 b19) 50) 2251799813685247=b19%2*1125899906842624:=by
  have:=Z26 50 (by decide) h19
  refine this.trans ?_
  rw [show ((2^(51-50):Nat):Int)=2 from rfl,show ((2^50:Nat):Int)=1125899906842624 from rfl]
 rw [p7,Z15 50 (x:=b19%2*1125899906842624) (y:=0+b12 / 64+b13*4+b14*1024+b15*262144+b16*67108864+b17*17179869184+b18*4398046511104) (a:=b19%2) (by simp) (by omega) (by omega) (by show _<(1125899906842624:Int); omega) (by omega)]
theorem Z0ea {b19 b20 b21 b22 b23 b24 b25:Int} (h19:0<=b19/\b19<256) (h20:0<=b20/\b20<256) (h21:0<=b21/\b21<256) (h22:0<=b22/\b22<256) (h23:0<=b23/\b23<256) (h24:0<=b24/\b24<256) (h25:0<=b25/\b25<256):Z4 .or .u64 (Z4 .or .u64 (Z4 .or .u64 (Z4 .or .u64 (Z4 .or .u64 (Z4 .or .u64 (Z4 .or .u64 (0) (Zq .u64 (wrap .u64 b19) 1)) (Z4 .and .u64 (Zj .u64 (wrap .u64 b20) 7) 2251799813685247)) (Z4 .and .u64 (Zj .u64 (wrap .u64 b21) 15) 2251799813685247)) (Z4 .and .u64 (Zj .u64 (wrap .u64 b22) 23) 2251799813685247)) (Z4 .and .u64 (Zj .u64 (wrap .u64 b23) 31) 2251799813685247)) (Z4 .and .u64 (Zj .u64 (wrap .u64 b24) 39) 2251799813685247)) (Z4 .and .u64 (Zj .u64 (wrap .u64 b25) 47) 2251799813685247)=0+b19 / 2+b20*128+b21*32768+b22*8388608+b23*2147483648+b24*549755813888+b25%16*140737488355328:=by
 have p0:Zq .u64 (wrap .u64 b19) 1=b19 / 2:=by
  have:=Zko 1 (by decide) h19
  refine this.trans ?_
  rw [show ((2^1:Nat):Int)=2 from rfl]
 rw [p0,Z15 0 (x:=b19 / 2) (y:=0) (a:=b19 / 2) (by simp) (by omega) (by omega) (by show _<(1:Int); omega) (by omega)]
 have p1:Z4 .and .u64 (Zj .u64 (wrap .u64 b20) 7) 2251799813685247=b20*128:=by
  have:=Z26 7 (by decide) h20
  refine this.trans ?_
  rw [show ((2^(51-7):Nat):Int)=17592186044416 from rfl,show ((2^7:Nat):Int)=128 from rfl]
  rw [Int.emod_eq_of_lt h20.1 (by omega)]
 rw [p1,Z15 7 (x:=b20*128) (y:=0+b19 / 2) (a:=b20) (by simp) (by omega) (by omega) (by show _<(128:Int); omega) (by omega)]
 have p2:Z4 .and .u64 (Zj .u64 (wrap .u64 b21) 15) 2251799813685247=b21*32768:=by
  have:=Z26 15 (by decide) h21
  refine this.trans ?_
  rw [show ((2^(51-15):Nat):Int)=68719476736 from rfl,show ((2^15:Nat):Int)=32768 from rfl]
  rw [Int.emod_eq_of_lt h21.1 (by omega)]
 rw [p2,Z15 15 (x:=b21*32768) (y:=0+b19 / 2+b20*128) (a:=b21) (by simp) (by omega) (by omega) (by show _<(32768:Int); omega) (by omega)]
 have p3:Z4 .and .u64 (Zj .u64 (wrap .u64 b22) 23) 2251799813685247=b22*8388608:=by
  have:=Z26 23 (by decide) h22
  refine this.trans ?_
  rw [show ((2^(51-23):Nat):Int)=268435456 from rfl,show ((2^23:Nat):Int)=8388608 from rfl]
  rw [Int.emod_eq_of_lt h22.1 (by omega)]
 rw [p3,Z15 23 (x:=b22*8388608) (y:=0+b19 / 2+b20*128+b21*32768) (a:=b22) (by simp) (by omega) (by omega) (by show _<(8388608:Int); omega) (by omega)]
 have p4:Z4 .and .u64 (Zj .u64 (wrap .u64 b23) 31) 2251799813685247=b23*2147483648:=by
  have:=Z26 31 (by decide) h23
  refine this.trans ?_
  rw [show ((2^(51-31):Nat):Int)=1048576 from rfl,show ((2^31:Nat):Int)=2147483648 from rfl]
  rw [Int.emod_eq_of_lt h23.1 (by omega)]
 rw [p4,Z15 31 (x:=b23*2147483648) (y:=0+b19 / 2+b20*128+b21*32768+b22*8388608) (a:=b23) (by simp) (by omega) (by omega) (by show _<(2147483648:Int); omega) (by omega)]
 have p5:Z4 .and .u64 (Zj .u64 (wrap .u64 b24) 39) 2251799813685247=b24*549755813888:=by
  have:=Z26 39 (by decide) h24
  refine this.trans ?_
  rw [show ((2^(51-39):Nat):Int)=4096 from rfl,show ((2^39:Nat):Int)=549755813888 from rfl]
  rw [Int.emod_eq_of_lt h24.1 (by omega)]
 rw [p5,Z15 39 (x:=b24*549755813888) (y:=0+b19 / 2+b20*128+b21*32768+b22*8388608+b23*2147483648) (a:=b24) (by simp) (by omega) (by omega) (by show _<(549755813888:Int); omega) (by omega)]
 have p6:Z4 .and .u64 (Zj .u64 (wrap .u64 b25) 47) 2251799813685247=b25%16*140737488355328:=by
  have:=Z26 47 (by decide) h25
  refine this.trans ?_
  rw [show ((2^(51-47):Nat):Int)=16 from rfl,show ((2^47:Nat):Int)=140737488355328 from rfl]
 rw [p6,Z15 47 (x:=b25%16*140737488355328) (y:=0+b19 / 2+b20*128+b21*32768+b22*8388608+b23*2147483648+b24*549755813888) (a:=b25%16) (by simp) (by omega) (by omega) (by show _<(140737488355328:Int); omega) (by omega)]
theorem Z0eb {b25 b26 b27 b28 b29 b30 b31:Int} (h25:0<=b25/\b25<256) (h26:0<=b26/\b26<256) (h27:0<=b27/\b27<256) (h28:0<=b28/\b28<256) (h29:0<=b29/\b29<256) (h30:0<=b30/\b30<256) (h31:0<=b31/\b31<256):Z4 .or .u64 (Z4 .or .u64 (Z4 .or .u64 (Z4 .or .u64 (Z4 .or .u64 (Z4 .or .u64 (Z4 .or .u64 (0) (Zq .u64 (wrap .u64 b25) 4)) (Z4 .and .u64 (Zj .u64 (wrap .u64 b26) 4) 2251799813685247)) (Z4 .and .u64 (Zj .u64 (wrap .u64 b27) 12) 2251799813685247)) (Z4 .and .u64 (Zj .u64 (wrap .u64 b28) 20) 2251799813685247)) (Z4 .and .u64 (Zj .u64 (wrap .u64 b29) 28) 2251799813685247)) (Z4 .and .u64 (Zj .u64 (wrap .u64 b30) 36) 2251799813685247)) (Z4 .and .u64 (Zj .u64 (wrap .u64 b31) 44) 2251799813685247)=0+b25 / 16+b26*16+b27*4096+b28*1048576+b29*268435456+b30*68719476736+b31%128*17592186044416:=by
 have p0:Zq .u64 (wrap .u64 b25) 4=b25 / 16:=by
  have:=Zko 4 (by decide) h25
  refine this.trans ?_
  rw [show ((2^4:Nat):Int)=16 from rfl]
 rw [p0,Z15 0 (x:=b25 / 16) (y:=0) (a:=b25 / 16) (by simp) (by omega) (by omega) (by show _<(1:Int); omega) (by omega)]
 have p1:Z4 .and .u64 (Zj .u64 (wrap .u64 b26) 4) 2251799813685247=b26*16:=by
  have:=Z26 4 (by decide) h26
  refine this.trans ?_
  rw [show ((2^(51-4):Nat):Int)=140737488355328 from rfl,show ((2^4:Nat):Int)=16 from rfl]
  rw [Int.emod_eq_of_lt h26.1 (by omega)]
 rw [p1,Z15 4 (x:=b26*16) (y:=0+b25 / 16) (a:=b26) (by simp) (by omega) (by omega) (by show _<(16:Int); omega) (by omega)]
 have p2:Z4 .and .u64 (Zj .u64 (wrap .u64 b27) 12) 2251799813685247=b27*4096:=by
  have:=Z26 12 (by decide) h27
  refine this.trans ?_
  rw [show ((2^(51-12):Nat):Int)=549755813888 from rfl,show ((2^12:Nat):Int)=4096 from rfl]
  rw [Int.emod_eq_of_lt h27.1 (by omega)]
 rw [p2,Z15 12 (x:=b27*4096) (y:=0+b25 / 16+b26*16) (a:=b27) (by simp) (by omega) (by omega) (by show _<(4096:Int); omega) (by omega)]
 have p3:Z4 .and .u64 (Zj .u64 (wrap .u64 b28) 20) 2251799813685247=b28*1048576:=by
  have:=Z26 20 (by decide) h28
  refine this.trans ?_
  rw [show ((2^(51-20):Nat):Int)=2147483648 from rfl,show ((2^20:Nat):Int)=1048576 from rfl]
  rw [Int.emod_eq_of_lt h28.1 (by omega)]
 rw [p3,Z15 20 (x:=b28*1048576) (y:=0+b25 / 16+b26*16+b27*4096) (a:=b28) (by simp) (by omega) (by omega) (by show _<(1048576:Int); omega) (by omega)]
 have p4:Z4 .and .u64 (Zj .u64 (wrap .u64 b29) 28) 2251799813685247=b29*268435456:=by
  have:=Z26 28 (by decide) h29
  refine this.trans ?_
  rw [show ((2^(51-28):Nat):Int)=8388608 from rfl,show ((2^28:Nat):Int)=268435456 from rfl]
  rw [Int.emod_eq_of_lt h29.1 (by omega)]
 rw [p4,Z15 28 (x:=b29*268435456) (y:=0+b25 / 16+b26*16+b27*4096+b28*1048576) (a:=b29) (by simp) (by omega) (by omega) (by show _<(268435456:Int); omega) (by omega)]
 have p5:Z4 .and .u64 (Zj .u64 (wrap .u64 b30) 36) 2251799813685247=b30*68719476736:=by
  have:=Z26 36 (by decide) h30
  refine this.trans ?_
  rw [show ((2^(51-36):Nat):Int)=32768 from rfl,show ((2^36:Nat):Int)=68719476736 from rfl]
  rw [Int.emod_eq_of_lt h30.1 (by omega)]
 rw [p5,Z15 36 (x:=b30*68719476736) (y:=0+b25 / 16+b26*16+b27*4096+b28*1048576+b29*268435456) (a:=b30) (by simp) (by omega) (by omega) (by show _<(68719476736:Int); omega) (by omega)]
 have p6:Z4 .and .u64 (Zj .u64 (wrap .u64 b31) 44) 2251799813685247=b31%128*17592186044416:=by
  have:=Z26 44 (by decide) h31
  refine this.trans ?_
  rw [show ((2^(51-44):Nat):Int)=128 from rfl,show ((2^44:Nat):Int)=17592186044416 from rfl]
 rw [p6,Z15 44 (x:=b31%128*17592186044416) (y:=0+b25 / 16+b26*16+b27*4096+b28*1048576+b29*268435456+b30*68719476736) (a:=b31%128) (by simp) (by omega) (by omega) (by show _<(17592186044416:Int); omega) (by omega)]
def Z8b (x:LI):Int:=x.getD 0 0+x.getD 1 0*256+x.getD 2 0*65536+x.getD 3 0*16777216+x.getD 4 0*4294967296+x.getD 5 0*1099511627776+x.getD 6 0*281474976710656+x.getD 7 0*72057594037927936+x.getD 8 0*18446744073709551616+x.getD 9 0*4722366482869645213696+x.getD 10 0*1208925819614629174706176+x.getD 11 0*309485009821345068724781056+x.getD 12 0*79228162514264337593543950336+x.getD 13 0*20282409603651670423947251286016+x.getD 14 0*5192296858534827628530496329220096+x.getD 15 0*1329227995784915872903807060280344576+x.getD 16 0*340282366920938463463374607431768211456+x.getD 17 0*87112285931760246646623899502532662132736+x.getD 18 0*22300745198530623141535718272648361505980416+x.getD 19 0*5708990770823839524233143877797980545530986496+x.getD 20 0*1461501637330902918203684832716283019655932542976+x.getD 21 0*374144419156711147060143317175368453031918731001856+x.getD 22 0*95780971304118053647396689196894323976171195136475136+x.getD 23 0*24519928653854221733733552434404946937899825954937634816+x.getD 24 0*6277101735386680763835789423207666416102355444464034512896+x.getD 25 0*1606938044258990275541962092341162602522202993782792835301376+x.getD 26 0*411376139330301510538742295639337626245683966408394965837152256+x.getD 27 0*105312291668557186697918027683670432318895095400549111254310977536+x.getD 28 0*26959946667150639794667015087019630673637144422540572481103610249216+x.getD 29 0*6901746346790563787434755862277025452451108972170386555162524223799296+x.getD 30 0*1766847064778384329583297500742918515827483896875618958121606201292619776+x.getD 31 0%128*452312848583266388373324160190187140051835877600158453279131187530910662656
theorem Zc1 {x:LI} (h:Byt x):Z34 x=some (fe (Z8b x)):=by
 rw [Z34,Z17,Z08y]
 have e31:Z4 .and .u8 (x.getD 31 0) 127=x.getD 31 0%128:=Zhl 7 (by decide) (by decide) (h 31).1 (h 31).2
 have h31:0<=x.getD 31 0%128/\x.getD 31 0%128<256:=by have:=h 31; omega
 rw [e31,Z0e7 (h 0) (h 1) (h 2) (h 3) (h 4) (h 5) (h 6),Z0e8 (h 6) (h 7) (h 8) (h 9) (h 10) (h 11) (h 12),Z0e9 (h 12) (h 13) (h 14) (h 15) (h 16) (h 17) (h 18) (h 19),Z0ea (h 19) (h 20) (h 21) (h 22) (h 23) (h 24) (h 25),Z0eb (h 25) (h 26) (h 27) (h 28) (h 29) (h 30) h31]
 have g0:=h 0
 have g1:=h 1
 have g2:=h 2
 have g3:=h 3
 have g4:=h 4
 have g5:=h 5
 have g6:=h 6
 have g7:=h 7
 have g8:=h 8
 have g9:=h 9
 have g10:=h 10
 have g11:=h 11
 have g12:=h 12
 have g13:=h 13
 have g14:=h 14
 have g15:=h 15
 have g16:=h 16
 have g17:=h 17
 have g18:=h 18
 have g19:=h 19
 have g20:=h 20
 have g21:=h 21
 have g22:=h 22
 have g23:=h 23
 have g24:=h 24
 have g25:=h 25
 have g26:=h 26
 have g27:=h 27
 have g28:=h 28
 have g29:=h 29
 have g30:=h 30
 have g31:=h 31
 rw [Z3 (Z5r (U5.mk5 (by omega) (by omega) (by omega) (by omega) (by omega)))]
 unfold Zmp fe
 congr 3
 simp only [Z6r,Z8b,List.getD_cons_zero,List.getD_cons_succ]
 omega
end Go.Proofs.YtiflckckekjbnaaGreatDoor
namespace Go.Proofs.YtiflckckekjbnaaGreatDoor
open Go Go.Sx Go.RowKit
set_option linter.all false
set_option maxRecDepth 100000
theorem Zev (a:Int):a%PP%PP=a%PP:=Int.emod_emod_of_dvd _ (Int.dvd_refl _)
theorem Zmj (a b:Int):Z13 (fe a) (fe b)=some (fe (a*b)):=by
 rw [Zxr (Zcs a) (Zcs b),Z5d,Z5d,<- Int.mul_emod]; rfl
theorem Zez (a:Int):Z1t (fe a)=some (fe (a*a)):=by
 rw [Zr4 (Zcs a),Z5d,<- Int.mul_emod]; rfl
theorem fadd (a b:Int):Z2y (fe a) (fe b)=some (fe (a+b)):=by
 rw [Z034 (Zcs a) (Zcs b),Z5d,Z5d,Zg2]
 exact (Int.add_emod _ _ _).symm
theorem fsub (a b:Int):Z55 (fe a) (fe b)=some (fe (a-b)):=by
 rw [Z0ix (Zcs a) (Zcs b),Z5d,Z5d,Zg2]
 exact (Int.sub_emod _ _ _).symm
theorem fneg (a:Int):Z5m (fe a)=some (fe (-a)):=by
 rw [Z03i (Zcs a),Z5d,Zg2]
 have h:=Int.sub_emod 0 a PP
 simp only [Int.zero_sub] at h
 rw [h]
 simp
structure Q4 where
 x:Int
 y:Int
 z:Int
 t:Int
 deriving DecidableEq
def pt (q:Q4):Zi:=⟨fe q.x,fe q.y,fe q.z,fe q.t⟩
def qred (q:Q4):Q4:=⟨q.x%PP,q.y%PP,q.z%PP,q.t%PP⟩
theorem Z03p (q:Q4):pt (qred q)=pt q:=by simp only [pt,qred,Z03c]
def D2:Int:=16295367250680780974490674513165176452449235426866156013048779062215315747161
def Zox (e f g h:Int):Q4:=⟨e*f,g*h,f*g,e*h⟩
def qadd (p q:Q4):Q4 :=
 let a:=(p.y-p.x)*(q.y-q.x)
 let b:=(p.y+p.x)*(q.y+q.x)
 let c:=p.t*D2*q.t
 let d:=(p.z+p.z)*q.z
 Zox (b-a) (d-c) (d+c) (b+a)
def qdbl (p:Q4):Q4 :=
 let a:=p.x*p.x
 let b:=p.y*p.y
 let z:=p.z*p.z
 let h:=a+b
 let e:=h-(p.x+p.y)*(p.x+p.y)
 let g:=a-b
 Zox e (z+z+g) g h
theorem Zpi (e f g h:Int):Z8e (fe e) (fe f) (fe g) (fe h)=some (pt (Zox e f g h)):=by
 rw [Z8e,Z3 (Zmj e f),Z3 (Zmj g h),Z3 (Zmj f g),Z3 (Zmj e h)]; rfl
theorem Zuy:Z90=some (fe D2):=by
 rw [Z90,Zb]
 congr 1
theorem Z059 (p q:Q4):Zab (pt p) (pt q)=some (pt (qadd p q)):=by
 rw [Zab]
 show opt (Z55 (fe p.y) (fe p.x)) _=_
 rw [Z3 (fsub p.y p.x)]
 show opt (Z55 (fe q.y) (fe q.x)) _=_
 rw [Z3 (fsub q.y q.x),Z3 (Zmj _ _)]
 show opt (Z2y (fe p.y) (fe p.x)) _=_
 rw [Z3 (fadd p.y p.x)]
 show opt (Z2y (fe q.y) (fe q.x)) _=_
 rw [Z3 (fadd q.y q.x),Z3 (Zmj _ _),Z3 Zuy]
 show opt (Z13 (fe p.t) (fe D2)) _=_
 rw [Z3 (Zmj _ _)]
 show opt (Z13 (fe (p.t*D2)) (fe q.t)) _=_
 rw [Z3 (Zmj _ _)]
 show opt (Z2y (fe p.z) (fe p.z)) _=_
 rw [Z3 (fadd _ _)]
 show opt (Z13 (fe (p.z+p.z)) (fe q.z)) _=_
 rw [Z3 (Zmj _ _),Z3 (fsub _ _),Z3 (fsub _ _),Z3 (fadd _ _),Z3 (fadd _ _),Z3 (Zpi _ _ _ _)]
 rfl
theorem Z05b (p:Q4):Z8c (pt p)=some (pt (qdbl p)):=by
 rw [Z8c]
 show opt (Z1t (fe p.x)) _=_
 rw [Z3 (Zez _)]
 show opt (Z1t (fe p.y)) _=_
 rw [Z3 (Zez _)]
 show opt (Z1t (fe p.z)) _=_
 rw [Z3 (Zez _),Z3 (fadd _ _)]
 show opt (Z2y (fe p.x) (fe p.y)) _=_
 rw [Z3 (fadd _ _),Z3 (Zez _),Z3 (fsub _ _),Z3 (fsub _ _),Z3 (fadd _ _),Z3 (fadd _ _),Z3 (Zpi _ _ _ _)]
 rfl
def Zve:Q4:=⟨0,1,1,0⟩
theorem Zpa:Z8g=some (fe 1):=by rw [Z8g,Zb]; congr 1
theorem Z001:Zb6=some (pt Zve):=by
 rw [Zb6,Z3 Zpa,Z3 Zpa]
 have:(List.replicate 5 0:LI)=fe 0:=by decide
 rw [this]; rfl
theorem Zwu (p:Q4):Zbe (pt p)=some (pt ⟨-p.x,p.y,p.z,-p.t⟩):=by
 rw [Zbe]
 show opt (Z5m (fe p.x)) _=_
 rw [Z3 (fneg _)]
 show opt (Z5m (fe p.t)) _=_
 rw [Z3 (fneg _)]
 rfl
def Zmv (p q:Q4):Q4:=qred (qadd p q)
def Zfq (p:Q4):Q4:=qred (qdbl p)
theorem Zo6 (p q:Q4):Zab (pt p) (pt q)=some (pt (Zmv p q)):=by rw [Z059]; unfold Zmv; rw [Z03p]
theorem Z00h (p:Q4):Z8c (pt p)=some (pt (Zfq p)):=by rw [Z05b]; unfold Zfq; rw [Z03p]
def tab (p:Q4):Nat->Q4
 | 0=>Zve
 | i+1=>Zmv (tab p i) p
def Zsu (f:Nat->Zi) (i:Nat):List Zi:=(List.range 16).map fun j=>if j<=i then f j else Z1n
theorem Z02r (f:Nat->Zi) {i:Nat} (hi:i<15):Zdn Z1n (Zsu f i) (i+1) (f (i+1))=Zsu f (i+1):=by
 rw [Z7d (by simp [Zsu]; omega)]
 apply List.ext_getElem
 ·simp [Zsu]
 ·intro j h1 h2
  simp only [Zsu,List.getElem_set,List.getElem_map,List.getElem_range]
  by_cases hj:i+1=j
  ·subst hj; simp
  ·rw [if_neg hj]
   by_cases h:j<=i
   ·rw [if_pos h,if_pos (by omega)]
   ·rw [if_neg h,if_neg (by omega)]
theorem Zp7 (f:Nat->Zi) {i j:Nat} (hj:j<=i) (hi:i<16):(Zsu f i).getD j Z1n=f j:=by
 simp only [Zsu,List.getD,List.getElem?_map,List.getElem?_range (show j<16 by omega),Option.map_some,Option.getD_some,if_pos hj]
theorem Zv8 (p:Q4) {kk:List Zi->Option (List Zi)} {k':Int->List Zi->Option (List Zi)} {i:Nat} (hi:i<15) :
  Z41 (pt p) kk k' (i:Int) (Zsu (fun j=>pt (tab p j)) i)=k' ((i+1:Nat):Int) (Zsu (fun j=>pt (tab p j)) (i+1)):=by
 rw [Z41,Z0n (by simp; omega)]
 simp only [Zb]
 rw [Zl (by omega) (by omega),Zp (Z0i (by omega) (by omega)),Int.toNat_natCast,Zp7 _ (Nat.le_refl i) (by omega),Z3 (Zo6 _ _),Zp (Z0i (by omega) (by omega))]
 have e:((i:Int)+1).toNat=i+1:=by omega
 have e2:(i:Int)+1=((i+1:Nat):Int):=by omega
 rw [e]
 have:=Z02r (fun j=>pt (tab p j)) hi
 rw [show pt (Zmv (tab p i) p)=pt (tab p (i+1)) from rfl,this,e2]
theorem Zq1 (p:Q4) : ∀ (k n:Nat),k<=15->Z2s (pt p) some (n+1+k) ((15-k:Nat):Int) (Zsu (fun j=>pt (tab p j)) (15-k))=some (Zsu (fun j=>pt (tab p j)) 15)
 | 0,n,_=>by
  rw [show n+1+0=n+1 from rfl,Z2s,Z41,Z08 (by decide)]
 | k+1,n,hk=>by
  have ih:=Zq1 p k n (by omega)
  rw [<- Nat.add_assoc,Z2s,Zv8 p (by omega)]
  rw [show 15-(k+1)+1=15-k by omega]
  exact ih
theorem Zjq (p:Q4):Z5i (pt p)=some (Zsu (fun j=>pt (tab p j)) 15):=by
 rw [Z5i,Z3 Z001,Zb,Z17]
 obtain ⟨n,hn⟩ : ∃ n,big=n+1+15:=⟨18446744073709551600,Z25⟩
 have:=Zq1 p 15 n (by decide)
 rw [<- hn] at this
 have e:Zdn Z1n (List.replicate 16 Z1n) 0 (pt Zve)=Zsu (fun j=>pt (tab p j)) (15-15):=by
  rw [Z7d (by simp)]
  rfl
 rw [e]
 exact this
def nib (k:LI) (i:Nat):Int:=if i%2=0 then k.getD (31-i / 2) 0 / 16%16 else k.getD (31-i / 2) 0%16
theorem Zq2 {k:LI} (hk:Byt k) {i:Nat} (hi:i<64):Z8f k (i:Int)=some (nib k i):=by
 rw [Z8f]
 simp only [Zb]
 have h1:IntKind.wrap .i64 (Int.tdiv (i:Int) 2)=((i / 2:Nat):Int):=by
  rw [Int.tdiv_eq_ediv_of_nonneg (by omega),Zl (by omega) (by omega)]; omega
 have h2:Int.tmod (i:Int) 2=((i%2:Nat):Int):=by
  rw [Int.tmod_eq_emod_of_nonneg (by omega)]; omega
 rw [h1,h2,Zl (x:=31-((i / 2:Nat):Int)) (by omega) (by omega),Zp (Z0i (by omega) (by omega))]
 have h3:(31-((i / 2:Nat):Int)).toNat=31-i / 2:=by omega
 rw [h3]
 have hb:=hk (31-i / 2)
 rw [Zl (x:=1-((i%2:Nat):Int)) (by omega) (by omega),Zl (by omega) (by omega)]
 rcases Nat.mod_two_eq_zero_or_one i with h | h
 ·rw [h,Zp (by decide)]
  have e:Zq .u8 (k.getD (31-i / 2) 0) (4*(1-((0:Nat):Int)))=k.getD (31-i / 2) 0 / 16:=Z9m .u8 (n:=4) (by decide)
  rw [e]
  have e2:Z4 .and .u8 (k.getD (31-i / 2) 0 / 16) 15=k.getD (31-i / 2) 0 / 16%16:=Zhl 4 (by decide) (by decide) (by omega) (by omega)
  rw [e2,nib,if_pos h]
 ·rw [h,Zp (by decide)]
  have e:Zq .u8 (k.getD (31-i / 2) 0) (4*(1-((1:Nat):Int)))=k.getD (31-i / 2) 0:=by
   have:=Z9m .u8 (x:=k.getD (31-i / 2) 0) (n:=0) (by decide)
   simpa using this
  rw [e]
  have e2:Z4 .and .u8 (k.getD (31-i / 2) 0) 15=k.getD (31-i / 2) 0%16:=Zhl 4 (by decide) (by decide) (by omega) (by omega)
  rw [e2,nib,if_neg (by omega)]
theorem Zxw (k:LI) (i:Nat):0<=nib k i/\nib k i<16:=by unfold nib; split <;> omega
def dbl4 (q:Q4):Q4:=Zfq (Zfq (Zfq (Zfq q)))
theorem byt_of {l:LI} (h : ∀ x∈l,0<=x/\x<256):Byt l:=by
 intro i
 simp only [List.getD]
 cases hi:l[i]? with
 | none=>simp
 | some v=>exact h v (List.mem_of_getElem? hi)
def BX:Int:=15112221349535400772501151409588531511454012693041857206046113283949847762202
def BY:Int:=46316835694926478169428394003475163141307993866256225615783033603165251855960
def Zyg:Q4:=⟨BX,BY,1,BX*BY⟩
theorem Zze (k:LI->Option Zi):Z6g k big 0 [88,0,0,0,0,0,0,0,0,0,0,0,0,0,0,0,0,0,0,0,0,0,0,0,0,0,0,0,0,0,0,0]=k [88,102,102,102,102,102,102,102,102,102,102,102,102,102,102,102,102,102,102,102,102,102,102,102,102,102,102,102,102,102,102,102]:=by kernel_rfl
theorem Z02k:Zbg=some (pt Zyg):=by
 rw [Zbg,Zb,Z3 (Zc1 (byt_of (by decide))),Zb,Z17,Zze,Z3 (Zc1 (byt_of (by decide))),Z3 Zpa]
 have e1:Z8b [26,213,37,143,96,45,86,201,178,167,37,149,96,199,44,105,92,220,214,253,49,226,164,192,254,83,110,205,211,54,105,33]=BX:=by decide
 have e2:Z8b [88,102,102,102,102,102,102,102,102,102,102,102,102,102,102,102,102,102,102,102,102,102,102,102,102,102,102,102,102,102,102,102]=BY:=by decide
 rw [e1,e2,Z3 (Zmj _ _)]
 rfl
def Zpp:LI:=[235,255,255,255,255,255,255,255,255,255,255,255,255,255,255,255,255,255,255,255,255,255,255,255,255,255,255,255,255,255,255,127]
theorem Zy6:Z6y 235 127=some Zpp:=by kernel_rfl
theorem Zti:Byt Zpp:=byt_of (by decide)
def Zx7 (a:Int):Int:=pw (a%PP) Zpp 256
theorem Z03d {n:Int} (h:0<=n/\n<PP):Zir n=fe n:=(Z00s h.1 h.2).symm
theorem Z095 (a:Int):Z8i (fe a)=some (fe (Zx7 a)):=by
 rw [Z8i,Z3 Zy6,Z3 (Z03o (Zcs _) Zti),Z5d,Z03d (Zya _ _ _)]
 rfl
def Zoa (x y:Int):LI:=if x%PP%2=1 then Z2z (byt (y%PP)) 31 (Z4 .or .u8 ((byt (y%PP)).getD 31 0) 128) else byt (y%PP)
def encQ (q:Q4):LI:=Zoa (q.x*Zx7 q.z) (q.y*Zx7 q.z)
theorem Zpq (q:Q4):Z8d (pt q)=some (encQ q):=by
 rw [Z8d]
 show opt (Z8i (fe q.z)) _=_
 rw [Z3 (Z095 _)]
 show opt (Z13 (fe q.y) (fe (Zx7 q.z))) _=_
 rw [Z3 (Zmj _ _),Z3 (Ztc (Zcs _))]
 show opt (Z13 (fe q.x) (fe (Zx7 q.z))) _=_
 rw [Z3 (Zmj _ _),Z3 (Zts (Zcs _)),Z17,Z5d,Z5d]
 simp only [Zb,Zev]
 unfold encQ Zoa
 by_cases h:q.x*Zx7 q.z%PP%2=1
 ·rw [Z0n (by rw [h]; rfl),if_pos h]
 ·rw [Z08 (by simpa using h),if_neg h]
theorem Zrv (q:Q4) {kk:LI->LI->LI->LI->Option Zi} :
  Z2i kk big 0 (pt q).gX (pt q).gY (pt q).gZ (pt q).gT=kk (pt (dbl4 q)).gX (pt (dbl4 q)).gY (pt (dbl4 q)).gZ (pt (dbl4 q)).gT:=by
 obtain ⟨n,hn⟩ : ∃ n,big=n+1+1+1+1+1:=⟨18446744073709551611,Z25⟩
 have step : ∀ (n j:Nat) (q:Q4),j<4->Z2i kk (n+1) (j:Int) (pt q).gX (pt q).gY (pt q).gZ (pt q).gT =
   Z2i kk n ((j+1:Nat):Int) (pt (Zfq q)).gX (pt (Zfq q)).gY (pt (Zfq q)).gZ (pt (Zfq q)).gT:=by
  intro n j q hj
  rw [Z2i,Z6d,Z0n (by simp; omega)]
  have:=Z00h q
  rw [show (⟨(pt q).gX,(pt q).gY,(pt q).gZ,(pt q).gT⟩:Zi)=pt q from rfl,Z3 this]
  simp only [Zb]
  rw [Zl (by omega) (by omega)]
  rfl
 rw [hn]
 have s0:=step (n+1+1+1+1) 0 q (by decide)
 have s1:=step (n+1+1+1) 1 (Zfq q) (by decide)
 have s2:=step (n+1+1) 2 (Zfq (Zfq q)) (by decide)
 have s3:=step (n+1) 3 (Zfq (Zfq (Zfq q))) (by decide)
 refine s0.trans (s1.trans (s2.trans (s3.trans ?_)))
 rw [Z2i,Z6d,Z08 (by decide)]
 rfl
def Z06f (k l:LI) (p r:Q4) (q:Q4) (i:Nat):Q4:=Zmv (Zmv (dbl4 q) (tab p (nib k i).toNat)) (tab r (nib l i).toNat)
def Zkc (k l:LI) (p r:Q4):Nat->Q4
 | 0=>Zve
 | i+1=>Z06f k l p r (Zkc k l p r i) i
theorem Z01r (q:Q4):(⟨(pt q).gX,(pt q).gY,(pt q).gZ,(pt q).gT⟩:Zi)=pt q:=rfl
theorem Zl4 {k l:LI} (hk:Byt k) (hl:Byt l) (p r:Q4) : ∀ (j n:Nat),j<=64->Z3b k l (Zsu (fun j=>pt (tab p j)) 15) (Zsu (fun j=>pt (tab r j)) 15) (fun a b c d=>some ⟨a,b,c,d⟩) (n+1+j) ((64-j:Nat):Int) (pt (Zkc k l p r (64-j))).gX (pt (Zkc k l p r (64-j))).gY (pt (Zkc k l p r (64-j))).gZ (pt (Zkc k l p r (64-j))).gT=some (pt (Zkc k l p r 64))
 | 0,n,_=>by
  rw [show n+1+0=n+1 from rfl,Z3b,Z6c,Z08 (by decide)]
 | j+1,n,hj=>by
  have ih:=Zl4 hk hl p r j n (by omega)
  have hr:=Zxw k (64-(j+1))
  have hr2:=Zxw l (64-(j+1))
  rw [<- Nat.add_assoc,Z3b,Z6c,Z0n (by simp; omega),Z17,Zrv]
  rw [Z3 (Zq2 hk (by omega)),Zp (Z0i hr.1 hr.2),Zb,Zp7 _ (by omega) (by decide)]
  have hadd:=Zo6 (dbl4 (Zkc k l p r (64-(j+1)))) (tab p (nib k (64-(j+1))).toNat)
  rw [Z01r,Z3 hadd]
  rw [Z3 (Zq2 hl (by omega)),Zp (Z0i hr2.1 hr2.2),Zb,Zp7 _ (by omega) (by decide)]
  have hadd2:=Zo6 (Zmv (dbl4 (Zkc k l p r (64-(j+1)))) (tab p (nib k (64-(j+1))).toNat)) (tab r (nib l (64-(j+1))).toNat)
  rw [Z3 hadd2,Zb,Zl (by omega) (by omega)]
  have ei:((64-(j+1):Nat):Int)+1=((64-(j+1)+1:Nat):Int):=by omega
  rw [ei]
  have e:64-(j+1)+1=64-j:=by omega
  rw [e]
  have e2:Zmv (Zmv (dbl4 (Zkc k l p r (64-(j+1)))) (tab p (nib k (64-(j+1))).toNat)) (tab r (nib l (64-(j+1))).toNat)=Zkc k l p r (64-j):=by rw [<- e]; rfl
  rw [e2]
  exact ih
theorem Zn5 {k l:LI} (hk:Byt k) (hl:Byt l) (p:Q4):Z8z k (pt p) l=some (pt (Zkc k l p Zyg 64)):=by
 rw [Z8z,Z3 Z02k,Z17,Z3 (Zjq p),Z3 (Zjq Zyg)]
 dsimp only
 rw [Z3 Z001,Z17]
 obtain ⟨n,hn⟩ : ∃ n,big=n+1+64:=⟨18446744073709551551,Z25⟩
 have:=Zl4 hk hl p Zyg 64 n (by decide)
 rw [<- hn] at this
 exact this
theorem Zwq {x:LI} (h:Byt x):Z5l x=some (ieq 32 (byt (Z6r (fe (Z8b x))%PP)) x):=by
 rw [Z5l,Z3 (Zc1 h),Z3 (Ztc (Zcs _))]
def esq:LI:=[253,255,255,255,255,255,255,255,255,255,255,255,255,255,255,255,255,255,255,255,255,255,255,255,255,255,255,255,255,255,255,15]
def ert:LI:=[251,255,255,255,255,255,255,255,255,255,255,255,255,255,255,255,255,255,255,255,255,255,255,255,255,255,255,255,255,255,255,31]
theorem Z01o:Z6y 253 15=some esq:=by kernel_rfl
theorem Z01n:Z6y 251 31=some ert:=by kernel_rfl
theorem fpow (a:Int) {e:LI} (he:Byt e):Zaf (fe a) e=some (fe (pw (a%PP) e 256)):=by
 rw [Z03o (Zcs _) he,Z03d (Zya _ _ _),Z5d]
theorem fodd (a:Int):Z87 (fe a)=some (a%PP%2==1):=by rw [Zts (Zcs _),Z5d,Zev]
theorem Z05r (a:Int):Z53 (fe a)=some (decide (a%PP=0)):=by rw [Zxi (Zcs _),Z5d,Zev]
theorem feq (a b:Int):Z86 (fe a) (fe b)=some (decide (a%PP=b%PP)):=by rw [Z00q (Zcs _) (Zcs _),Z5d,Z5d,Zev,Zev]
theorem Zxa (c:Bool) (a b:Int):Z8m c (fe a) (fe b)=some (fe (bif c then a else b)):=by
 rw [Zz5 (Zcs _) (Zcs _),Z5d,Z5d]; cases c <;> simp [Z03c]
def Zx2 (a:Int):Int:=bif a%PP%2==1 then -a else a
def Zpb (a b:Int):Int:=a*(b*b*b)*pw ((a*((b*b*b)*(b*b*b))*b)%PP) esq 256
def Zma:Int:=pw (2%PP) ert 256
def Zw5 (a b:Int):Int×Bool :=
 if b%PP=0 then (0,decide (a%PP=0))
 else if (b*(Zpb a b*Zpb a b))%PP=a%PP then (Zx2 (Zpb a b),true)
 else if (b*(Zpb a b*Zpb a b))%PP=(-a)%PP then (Zx2 (Zpb a b*Zma),true)
 else (0,false)
theorem fe0:([0,0,0,0,0]:LI)=fe 0:=by decide
theorem Z07l (a b:Int):Z6x (fe a) (fe b)=some (fe (Zw5 a b).1,(Zw5 a b).2):=by
 rw [Z6x,Z3 (Z05r b)]
 unfold Zw5
 by_cases h:b%PP=0
 ·rw [if_pos h,Z0n (by simpa using h),Zb,Z3 (Z05r a),fe0]
 ·rw [if_neg h,Z08 (by simpa using h),Z3 (Zez b),Z3 (Zmj _ _),Z3 (Zez _),Z3 (Zmj _ _),Z3 (Zmj _ _),Z3 (Zmj _ _),Z3 Z01o,Z3 (fpow _ (byt_of (by decide))),Z3 (Zmj _ _)]
  have e0:a*(b*b*b)*pw ((a*((b*b*b)*(b*b*b))*b)%PP) esq 256=Zpb a b:=rfl
  rw [e0,Z3 (Zez _),Z3 (Zmj _ _),Z17,Z3 (feq _ _)]
  by_cases h1:(b*(Zpb a b*Zpb a b))%PP=a%PP
  ·rw [if_pos h1,Z0n (by simpa using h1)]
   dsimp only
   rw [Z3 (fodd _),Z3 (fneg _),Z3 (Zxa _ _ _)]
   rfl
  ·rw [if_neg h1,Z08 (by simpa using h1),Z3 (fneg _),Z3 (feq _ _)]
   by_cases h2:(b*(Zpb a b*Zpb a b))%PP=(-a)%PP
   ·rw [if_pos h2,Z0n (by simpa using h2),Z3 (Zul (n:=2) (by decide)),Z3 Z01n,Z3 (fpow _ (byt_of (by decide))),Z3 (Zmj _ _)]
    dsimp only
    rw [Z3 (fodd _),Z3 (fneg _),Z3 (Zxa _ _ _)]
    rfl
   ·rw [if_neg h2,Z08 (by simpa using h2),Zb,fe0]
def DD:Int:=37095705934669439343138083508754565189542113879843219016388785533085940283555
theorem Z011:Zbf=some (fe DD):=by rw [Zbf,Zb]; decide
def Z1m (p:LI):LI:=Z2z p 31 (p.getD 31 0%128)
def Zpo (p:LI):Int:=p.getD 31 0 / 128
def dcan (p:LI):Bool:=ieq 32 (byt (Z6r (fe (Z8b (Z1m p)))%PP)) (Z1m p)
def Z7i (y:Int):Int×Bool:=Zw5 (y*y-1) (DD*(y*y)+1)
def dx (p:LI):Int:=if Zpo p=1 then-(Z7i (Z8b (Z1m p))).1 else (Z7i (Z8b (Z1m p))).1
def dok (p:LI):Bool:=dcan p&&(Z7i (Z8b (Z1m p))).2 && !(Zpo p==1&&decide ((Z7i (Z8b (Z1m p))).1%PP=0))
def dpt (p:LI):Q4:=⟨dx p,Z8b (Z1m p),1,dx p*Z8b (Z1m p)⟩
theorem Zih {p:LI} (h:Byt p) {j:Nat} {v:Int} (hv:0<=v/\v<256):Byt (Z2z p j v):=by
 intro i
 rw [Z1k]
 split
 ·exact hv
 ·exact h i
theorem Z08c {x:Int} (h0:0<=x) (h1:x<256):Z4 .and .u8 x 127=x%128:=Zhl 7 (by decide) (by decide) h0 h1
theorem Zpm {p:LI} (h:Byt p):Zac p=some (if dok p then (pt (dpt p),true) else (Z1n,false)):=by
 have h31:=h 31
 have hy:Byt (Z1m p):=Zih h (by omega)
 have hs:Zq .u8 (p.getD 31 0) 7=Zpo p:=by have:=Z9m .u8 (x:=p.getD 31 0) (n:=7) (by decide); simpa [Zpo] using this
 rw [Zac,Zb,Zb,Zb,Zb,Zb,Z08c h31.1 h31.2,hs]
 show opt (Z5l (Z1m p)) _=_
 rw [Z3 (Zwq hy)]
 have ec:ieq 32 (byt (Z6r (fe (Z8b (Z1m p)))%PP)) (Z1m p)=dcan p:=rfl
 rw [ec]
 unfold dok
 cases hc:dcan p
 ·rw [Z0n (by rfl)]; rfl
 ·rw [Z08 (by rfl)]
  show opt (Z34 (Z1m p)) _=_
  rw [Z3 (Zc1 hy),Z3 (Zez _),Z3 Zpa,Z3 (fsub _ _),Z3 Z011,Z3 (Zmj _ _),Z3 (fadd _ _),Z3 (Z07l _ _)]
  have er:Zw5 (Z8b (Z1m p)*Z8b (Z1m p)-1) (DD*(Z8b (Z1m p)*Z8b (Z1m p))+1)=Z7i (Z8b (Z1m p)):=rfl
  rw [er]
  simp only [Z05r]
  cases hd:(Z7i (Z8b (Z1m p))).2
  ·rw [Zp (by simp [imp]),Z0n (by simp)]; rfl
  ·rw [Zp (by simp [imp])]
   by_cases hz:(Zpo p==1&&decide ((Z7i (Z8b (Z1m p))).1%PP=0))=true
   ·rw [Z0n (by simpa using hz),if_neg (by simp [hz])]; rfl
   ·have hz':(Zpo p==1&&decide ((Z7i (Z8b (Z1m p))).1%PP=0))=false:=by simpa using hz
    rw [Z08 (by simpa using hz'),if_pos (by simp [hz']),Z17]
    unfold dpt dx
    by_cases ht:Zpo p=1
    ·rw [Z0n (by simp [ht]),Z3 (fneg _),if_pos ht]
     dsimp only
     rw [Z3 (Zmj _ _)]; rfl
    ·rw [Z08 (by simpa using ht),if_neg ht]
     dsimp only
     rw [Z3 (Zmj _ _)]; rfl
def W64 (l:LI):Prop:=∀ i,0<=l.getD i 0/\l.getD i 0<18446744073709551616
def V4 (l:LI):Int:=l.getD 0 0+l.getD 1 0*18446744073709551616+l.getD 2 0*340282366920938463463374607431768211456+l.getD 3 0*6277101735386680763835789423207666416102355444464034512896
def B4:Int:=115792089237316195423570985008687907853269984665640564039457584007913129639936
def VL:Int:=7237005577332262213973186563042994240857116359379907606001950938285454250989
theorem Zny:V4 G_order=VL:=by decide
theorem Zk4 {l:LI} (h : ∀ x∈l,0<=x/\x<18446744073709551616):W64 l:=by
 intro i
 simp only [List.getD]
 cases hi:l[i]? with
 | none=>simp
 | some v=>exact h v (List.mem_of_getElem? hi)
theorem Zbb:W64 G_order:=Zk4 (by decide)
theorem Zbc {l:LI} (h:W64 l) {i:Nat} {z:Int} (hz:0<=z/\z<18446744073709551616):W64 (Z2z l i z):=by
 intro j; rw [Z1k]; split
 ·exact hz
 ·exact h j
theorem Zki {l:LI} (h:W64 l) {i:Nat} {z:Int} (hz:0<=z/\z<18446744073709551616):W64 (Zdn 0 l i z):=by
 intro j; rw [Z4d]; split
 ·exact hz
 ·exact h j
theorem Z51 (n:Nat):W64 (List.replicate n 0):=Zk4 (by intro x hx; rw [List.mem_replicate] at hx; omega)
theorem Znc (x y:Int):0<=Z4 .or .u64 x y/\Z4 .or .u64 x y<18446744073709551616:=by
 show 0<=IntKind.u64.wrap _/\IntKind.u64.wrap _<_
 rw [Ze6]; omega
theorem Zrn (x y:Int):0<=Z4 .and .u64 x y/\Z4 .and .u64 x y<18446744073709551616:=by
 show 0<=IntKind.u64.wrap _/\IntKind.u64.wrap _<_
 rw [Ze6]; omega
theorem Z04h {x y c:Int} (hx:0<=x/\x<18446744073709551616) (hy:0<=y/\y<18446744073709551616) (hc:c=0∨c=1):Zek x y c=true:=by
 unfold Zek
 rw [decide_eq_true hx.1,decide_eq_true hy.1,decide_eq_true (show 0<=c by omega),decide_eq_true (show c<=1 by omega)]; rfl
theorem Z07o {x y c:Int} (hx:0<=x/\x<18446744073709551616) (hy:0<=y/\y<18446744073709551616) (hc:c=0∨c=1):Zzh x y c=true:=by
 unfold Zzh
 rw [decide_eq_true hx.1,decide_eq_true hy.1,decide_eq_true hy.2,decide_eq_true (show 0<=c by omega),decide_eq_true (show c<=1 by omega)]; rfl
theorem Zg5 {q:LI} {k:Int->LI->Option (LI×Int)} {a:LI} {c:Int} (n:Nat) {i:Nat} (hi:i<4) (ha:W64 a) (hq:W64 q) (hc:c=0∨c=1) :
  ∃ c' lo,Z37 q k (n+1) c (i:Int) a=Z37 q k n c' ((i+1:Nat):Int) (Z2z a i lo)/\0<=lo/\lo<18446744073709551616/\(c'=0∨c'=1)/\lo=a.getD i 0-q.getD i 0-c+c'*18446744073709551616:=by
 have h1:=ha i
 have h2:=hq i
 refine ⟨Z02l (a.getD i 0) (q.getD i 0) c,Z02m (a.getD i 0) (q.getD i 0) c,?_,?_⟩
 ·rw [Z37,Z7a,Z0n (by simp; omega),Zp (Z0i (by omega) (by omega)),Zp (Z0i (by omega) (by omega)),Zb,Zb]
  simp only [Int.toNat_natCast]
  rw [Zp (Z07o h1 h2 hc),Zb,Zb,Zp (Z0i (by omega) (by omega)),Zb,Zb,Zl (by omega) (by omega)]
  rfl
 ·unfold Z02l Z02m
  generalize a.getD i 0=x at *
  generalize q.getD i 0=y at *
  split <;> omega
theorem Zhs {p q:LI} (hp:W64 p) (hq:W64 q) : ∃ a c,Z61 p q=some (a,c)/\W64 a/\(c=0∨c=1)/\V4 a=V4 p-V4 q+c*B4:=by
 obtain ⟨n,hn⟩ : ∃ n,big=n+1+1+1+1+1:=⟨18446744073709551611,Z25⟩
 rw [Z61,Z17,hn]
 obtain ⟨c0,l0,e0,b0,b0',hc0,v0⟩:=Zg5 (k:=fun i a=>some (a,i)) (n+1+1+1+1) (i:=0) (by decide) hp hq (.inl rfl)
 have w0:=Zbc hp (i:=0) ⟨b0,b0'⟩
 obtain ⟨c1,l1,e1,b1,b1',hc1,v1⟩:=Zg5 (k:=fun i a=>some (a,i)) (n+1+1+1) (i:=1) (by decide) w0 hq hc0
 have w1:=Zbc w0 (i:=1) ⟨b1,b1'⟩
 obtain ⟨c2,l2,e2,b2,b2',hc2,v2⟩:=Zg5 (k:=fun i a=>some (a,i)) (n+1+1) (i:=2) (by decide) w1 hq hc1
 have w2:=Zbc w1 (i:=2) ⟨b2,b2'⟩
 obtain ⟨c3,l3,e3,b3,b3',hc3,v3⟩:=Zg5 (k:=fun i a=>some (a,i)) (n+1) (i:=3) (by decide) w2 hq hc2
 have w3:=Zbc w2 (i:=3) ⟨b3,b3'⟩
 refine ⟨_,c3,(e0.trans (e1.trans (e2.trans (e3.trans ?_)))),w3,hc3,?_⟩
 ·rw [Z37,Z7a,Z08 (by decide)]
 ·simp only [V4,Z1k] at v1 v2 v3 ⊢
  simp [-List.getD_eq_getElem?_getD] at v1 v2 v3 ⊢
  unfold B4
  omega
theorem Zhw {q:LI} {k:Int->LI->Option (LI×Int)} {a:LI} {c:Int} (n:Nat) {i:Nat} (hi:i<4) (ha:W64 a) (hq:W64 q) (hc:c=0∨c=1) :
  ∃ c' lo,Z3q q k (n+1) c (i:Int) a=Z3q q k n c' ((i+1:Nat):Int) (Z2z a i lo)/\0<=lo/\lo<18446744073709551616/\(c'=0∨c'=1)/\lo=a.getD i 0+q.getD i 0+c-c'*18446744073709551616:=by
 have h1:=ha i
 have h2:=hq i
 refine ⟨Zer (a.getD i 0) (q.getD i 0) c,Zaa (a.getD i 0) (q.getD i 0) c,?_,?_⟩
 ·rw [Z3q,Z80,Z0n (by simp; omega),Zp (Z0i (by omega) (by omega)),Zp (Z0i (by omega) (by omega)),Zb,Zb]
  simp only [Int.toNat_natCast]
  rw [Zp (Z04h h1 h2 hc),Zb,Zb,Zp (Z0i (by omega) (by omega)),Zb,Zb,Zl (by omega) (by omega)]
  rfl
 ·unfold Zer Zaa
  generalize a.getD i 0=x at *
  generalize q.getD i 0=y at *
  omega
theorem Zix {p q:LI} (hp:W64 p) (hq:W64 q) : ∃ a c,Z69 p q=some (a,c)/\W64 a/\(c=0∨c=1)/\V4 a=V4 p+V4 q-c*B4:=by
 obtain ⟨n,hn⟩ : ∃ n,big=n+1+1+1+1+1:=⟨18446744073709551611,Z25⟩
 rw [Z69,Z17,hn]
 obtain ⟨c0,l0,e0,b0,b0',hc0,v0⟩:=Zhw (k:=fun i a=>some (a,i)) (n+1+1+1+1) (i:=0) (by decide) hp hq (.inl rfl)
 have w0:=Zbc hp (i:=0) ⟨b0,b0'⟩
 obtain ⟨c1,l1,e1,b1,b1',hc1,v1⟩:=Zhw (k:=fun i a=>some (a,i)) (n+1+1+1) (i:=1) (by decide) w0 hq hc0
 have w1:=Zbc w0 (i:=1) ⟨b1,b1'⟩
 obtain ⟨c2,l2,e2,b2,b2',hc2,v2⟩:=Zhw (k:=fun i a=>some (a,i)) (n+1+1) (i:=2) (by decide) w1 hq hc1
 have w2:=Zbc w1 (i:=2) ⟨b2,b2'⟩
 obtain ⟨c3,l3,e3,b3,b3',hc3,v3⟩:=Zhw (k:=fun i a=>some (a,i)) (n+1) (i:=3) (by decide) w2 hq hc2
 have w3:=Zbc w2 (i:=3) ⟨b3,b3'⟩
 refine ⟨_,c3,(e0.trans (e1.trans (e2.trans (e3.trans ?_)))),w3,hc3,?_⟩
 ·rw [Z3q,Z80,Z08 (by decide)]
 ·simp only [V4,Z1k] at v1 v2 v3 ⊢
  simp [-List.getD_eq_getElem?_getD] at v1 v2 v3 ⊢
  unfold B4
  omega
theorem Ze7 {l:LI} (h:W64 l):0<=V4 l/\V4 l<B4:=by
 have h0:=h 0
 have h1:=h 1
 have h2:=h 2
 have h3:=h 3
 unfold V4 B4
 omega
theorem Zfz {k2:LI->Option (LI)} {k5:Unit->Option (LI)} {a:LI} (n:Nat) {i:Nat} (hi:i<4) :
  Z14 k2 a k5 (n+1) (i:Int)=if a.getD i 0<G_order.getD i 0 then k2 a else if a.getD i 0>G_order.getD i 0 then k5 () else Z14 k2 a k5 n ((i:Int)-1):=by
 rw [Z14,Z79,Z0n (by simp),Zp (Z0i (by omega) (by omega)),Zp (Z0i (by omega) (by omega)),Zb,Zb]
 simp only [Int.toNat_natCast]
 by_cases h1:a.getD i 0<G_order.getD i 0
 ·rw [Z0n (by simpa using h1),if_pos h1]
 ·rw [Z08 (by simpa using h1),if_neg h1,Zp (Z0i (by omega) (by omega)),Zp (Z0i (by omega) (by omega)),Zb,Zb]
  by_cases h2:a.getD i 0>G_order.getD i 0
  ·rw [Z0n (by simpa using h2),if_pos h2]
  ·rw [Z08 (by simpa using h2),if_neg h2,Zb,Zl (by omega) (by omega)]
theorem Zpg {k2:LI->Option (LI)} {k5:Unit->Option (LI)} {a:LI} (ha:W64 a):Z14 k2 a k5 big 3=if V4 a<VL then k2 a else k5 ():=by
 obtain ⟨n,hn⟩ : ∃ n,big=n+1+1+1+1+1:=⟨18446744073709551611,Z25⟩
 rw [hn]
 have s3:=Zfz (k2:=k2) (k5:=k5) (a:=a) (n+1+1+1+1) (i:=3) (by decide)
 have s2:=Zfz (k2:=k2) (k5:=k5) (a:=a) (n+1+1+1) (i:=2) (by decide)
 have s1:=Zfz (k2:=k2) (k5:=k5) (a:=a) (n+1+1) (i:=1) (by decide)
 have s0:=Zfz (k2:=k2) (k5:=k5) (a:=a) (n+1) (i:=0) (by decide)
 have e:Z14 k2 a k5 (n+1) (-1)=k5 ():=by
  rw [Z14,Z79,Z08 (by decide)]
 have o0:G_order.getD 0 0=6346243789798364141:=rfl
 have o1:G_order.getD 1 0=1503914060200516822:=rfl
 have o2:G_order.getD 2 0=0:=rfl
 have o3:G_order.getD 3 0=1152921504606846976:=rfl
 rw [o0] at s0
 rw [o1] at s1
 rw [o2] at s2
 rw [o3] at s3
 have s0':Z14 k2 a k5 (n+1+1) (1-1)=_:=s0
 have s1':Z14 k2 a k5 (n+1+1+1) (2-1)=_:=s1
 have s2':Z14 k2 a k5 (n+1+1+1+1) (3-1)=_:=s2
 have e':Z14 k2 a k5 (n+1) (0-1)=k5 ():=e
 have f3:Z14 k2 a k5 (n+1+1+1+1+1) 3=_:=s3
 rw [f3]
 rw [show ((3:Nat):Int)-1=3-1 from rfl,s2',show ((2:Nat):Int)-1=2-1 from rfl,s1',show ((1:Nat):Int)-1=1-1 from rfl,s0',show ((0:Nat):Int)-1=0-1 from rfl,e']
 have h0:=ha 0
 have h1:=ha 1
 have h2:=ha 2
 have h3:=ha 3
 unfold V4 VL
 generalize a.getD 0 0=a0 at *
 generalize a.getD 1 0=a1 at *
 generalize a.getD 2 0=a2 at *
 generalize a.getD 3 0=a3 at *
 by_cases hv:a0+a1*18446744073709551616+a2*340282366920938463463374607431768211456+a3*6277101735386680763835789423207666416102355444464034512896<7237005577332262213973186563042994240857116359379907606001950938285454250989
 ·rw [if_pos hv]
  repeat' split
  all_goals first | rfl | (exfalso; omega)
 ·rw [if_neg hv]
  repeat' split
  all_goals first | rfl | (exfalso; omega)
theorem Zuu (m:Nat) : ∀ (n:Nat) {a:LI},W64 a->V4 a<((m:Int)+1)*VL->∃ r,Z3z some (n+1+m) a=some r/\W64 r/\V4 r=V4 a%VL:=by
 induction m with
 | zero =>
  intro n a ha hv
  have h0:=Ze7 ha
  have hv':V4 a<VL:=by omega
  refine ⟨a,?_,ha,?_⟩
  ·rw [Nat.add_zero,Z3z,Z78,Z17,Zpg ha,if_pos hv']
  ·rw [Int.emod_eq_of_lt h0.1 hv']
 | succ m ih =>
  intro n a ha hv
  have h0:=Ze7 ha
  rw [<- Nat.add_assoc,Z3z,Z78,Z17,Zpg ha]
  by_cases h:V4 a<VL
  ·rw [if_pos h]
   exact ⟨a,rfl,ha,by rw [Int.emod_eq_of_lt h0.1 h]⟩
  ·rw [if_neg h]
   obtain ⟨b,c,e,hb,hc,hv2⟩:=Zhs ha Zbb
   have hbr:=Ze7 hb
   rw [Zny] at hv2
   have hc0:c=0:=by
    unfold B4 VL at *
    rcases hc with h | h
    ·exact h
    ·exfalso; subst h; omega
   rw [Z3 e]
   have hv3:V4 b=V4 a-VL:=by rw [hv2,hc0]; omega
   have hlt:V4 b<((m:Int)+1)*VL:=by
    rw [hv3]
    have:((m+1:Nat):Int)+1=((m:Int)+1)+1:=by omega
    rw [this,Int.add_mul ((m:Int)+1) 1 VL] at hv
    omega
   obtain ⟨r,er,hr,vr⟩:=ih n hb hlt
   exact ⟨r,er,hr,by rw [vr,hv3,Int.sub_emod_right]⟩
theorem Zt8 {a:LI} (ha:W64 a) : ∃ r,Z8s a=some r/\W64 r/\V4 r=V4 a%VL:=by
 rw [Z8s,Z17]
 obtain ⟨n,hn⟩ : ∃ n,big=n+1+16:=⟨18446744073709551599,Z25⟩
 rw [hn]
 have h:=Ze7 ha
 exact Zuu 16 n ha (by unfold B4 at h; unfold VL; omega)
end Go.Proofs.YtiflckckekjbnaaGreatDoor
namespace Go.Proofs.YtiflckckekjbnaaGreatDoor
open Go Go.Sx Go.RowKit
open List (replicate)
open Go.IntKind (wrap)
set_option linter.all false
set_option maxRecDepth 100000
theorem Znb (p:LI):Z9x p=some [Z4 .or .u64 (Z4 .or .u64 (Z4 .or .u64 (Z4 .or .u64 (Z4 .or .u64 (Z4 .or .u64 (Z4 .or .u64 (Z4 .or .u64 (0) (Zj .u64 (wrap .u64 (p.getD 0 0)) 0)) (Zj .u64 (wrap .u64 (p.getD 1 0)) 8)) (Zj .u64 (wrap .u64 (p.getD 2 0)) 16)) (Zj .u64 (wrap .u64 (p.getD 3 0)) 24)) (Zj .u64 (wrap .u64 (p.getD 4 0)) 32)) (Zj .u64 (wrap .u64 (p.getD 5 0)) 40)) (Zj .u64 (wrap .u64 (p.getD 6 0)) 48)) (Zj .u64 (wrap .u64 (p.getD 7 0)) 56),Z4 .or .u64 (Z4 .or .u64 (Z4 .or .u64 (Z4 .or .u64 (Z4 .or .u64 (Z4 .or .u64 (Z4 .or .u64 (Z4 .or .u64 (0) (Zj .u64 (wrap .u64 (p.getD 8 0)) 0)) (Zj .u64 (wrap .u64 (p.getD 9 0)) 8)) (Zj .u64 (wrap .u64 (p.getD 10 0)) 16)) (Zj .u64 (wrap .u64 (p.getD 11 0)) 24)) (Zj .u64 (wrap .u64 (p.getD 12 0)) 32)) (Zj .u64 (wrap .u64 (p.getD 13 0)) 40)) (Zj .u64 (wrap .u64 (p.getD 14 0)) 48)) (Zj .u64 (wrap .u64 (p.getD 15 0)) 56),Z4 .or .u64 (Z4 .or .u64 (Z4 .or .u64 (Z4 .or .u64 (Z4 .or .u64 (Z4 .or .u64 (Z4 .or .u64 (Z4 .or .u64 (0) (Zj .u64 (wrap .u64 (p.getD 16 0)) 0)) (Zj .u64 (wrap .u64 (p.getD 17 0)) 8)) (Zj .u64 (wrap .u64 (p.getD 18 0)) 16)) (Zj .u64 (wrap .u64 (p.getD 19 0)) 24)) (Zj .u64 (wrap .u64 (p.getD 20 0)) 32)) (Zj .u64 (wrap .u64 (p.getD 21 0)) 40)) (Zj .u64 (wrap .u64 (p.getD 22 0)) 48)) (Zj .u64 (wrap .u64 (p.getD 23 0)) 56),Z4 .or .u64 (Z4 .or .u64 (Z4 .or .u64 (Z4 .or .u64 (Z4 .or .u64 (Z4 .or .u64 (Z4 .or .u64 (Z4 .or .u64 (0) (Zj .u64 (wrap .u64 (p.getD 24 0)) 0)) (Zj .u64 (wrap .u64 (p.getD 25 0)) 8)) (Zj .u64 (wrap .u64 (p.getD 26 0)) 16)) (Zj .u64 (wrap .u64 (p.getD 27 0)) 24)) (Zj .u64 (wrap .u64 (p.getD 28 0)) 32)) (Zj .u64 (wrap .u64 (p.getD 29 0)) 40)) (Zj .u64 (wrap .u64 (p.getD 30 0)) 48)) (Zj .u64 (wrap .u64 (p.getD 31 0)) 56)]:=by kernel_rfl
theorem Zmx (p:LI) (k:LI->Option (LI)):Z50 p k big 0 (replicate 8 0)=k [Z4 .or .u64 (Z4 .or .u64 (Z4 .or .u64 (Z4 .or .u64 (Z4 .or .u64 (Z4 .or .u64 (Z4 .or .u64 (Z4 .or .u64 (0) (Zj .u64 (wrap .u64 (p.getD 0 0)) 0)) (Zj .u64 (wrap .u64 (p.getD 1 0)) 8)) (Zj .u64 (wrap .u64 (p.getD 2 0)) 16)) (Zj .u64 (wrap .u64 (p.getD 3 0)) 24)) (Zj .u64 (wrap .u64 (p.getD 4 0)) 32)) (Zj .u64 (wrap .u64 (p.getD 5 0)) 40)) (Zj .u64 (wrap .u64 (p.getD 6 0)) 48)) (Zj .u64 (wrap .u64 (p.getD 7 0)) 56),Z4 .or .u64 (Z4 .or .u64 (Z4 .or .u64 (Z4 .or .u64 (Z4 .or .u64 (Z4 .or .u64 (Z4 .or .u64 (Z4 .or .u64 (0) (Zj .u64 (wrap .u64 (p.getD 8 0)) 0)) (Zj .u64 (wrap .u64 (p.getD 9 0)) 8)) (Zj .u64 (wrap .u64 (p.getD 10 0)) 16)) (Zj .u64 (wrap .u64 (p.getD 11 0)) 24)) (Zj .u64 (wrap .u64 (p.getD 12 0)) 32)) (Zj .u64 (wrap .u64 (p.getD 13 0)) 40)) (Zj .u64 (wrap .u64 (p.getD 14 0)) 48)) (Zj .u64 (wrap .u64 (p.getD 15 0)) 56),Z4 .or .u64 (Z4 .or .u64 (Z4 .or .u64 (Z4 .or .u64 (Z4 .or .u64 (Z4 .or .u64 (Z4 .or .u64 (Z4 .or .u64 (0) (Zj .u64 (wrap .u64 (p.getD 16 0)) 0)) (Zj .u64 (wrap .u64 (p.getD 17 0)) 8)) (Zj .u64 (wrap .u64 (p.getD 18 0)) 16)) (Zj .u64 (wrap .u64 (p.getD 19 0)) 24)) (Zj .u64 (wrap .u64 (p.getD 20 0)) 32)) (Zj .u64 (wrap .u64 (p.getD 21 0)) 40)) (Zj .u64 (wrap .u64 (p.getD 22 0)) 48)) (Zj .u64 (wrap .u64 (p.getD 23 0)) 56),Z4 .or .u64 (Z4 .or .u64 (Z4 .or .u64 (Z4 .or .u64 (Z4 .or .u64 (Z4 .or .u64 (Z4 .or .u64 (Z4 .or .u64 (0) (Zj .u64 (wrap .u64 (p.getD 24 0)) 0)) (Zj .u64 (wrap .u64 (p.getD 25 0)) 8)) (Zj .u64 (wrap .u64 (p.getD 26 0)) 16)) (Zj .u64 (wrap .u64 (p.getD 27 0)) 24)) (Zj .u64 (wrap .u64 (p.getD 28 0)) 32)) (Zj .u64 (wrap .u64 (p.getD 29 0)) 40)) (Zj .u64 (wrap .u64 (p.getD 30 0)) 48)) (Zj .u64 (wrap .u64 (p.getD 31 0)) 56),Z4 .or .u64 (Z4 .or .u64 (Z4 .or .u64 (Z4 .or .u64 (Z4 .or .u64 (Z4 .or .u64 (Z4 .or .u64 (Z4 .or .u64 (0) (Zj .u64 (wrap .u64 (p.getD 32 0)) 0)) (Zj .u64 (wrap .u64 (p.getD 33 0)) 8)) (Zj .u64 (wrap .u64 (p.getD 34 0)) 16)) (Zj .u64 (wrap .u64 (p.getD 35 0)) 24)) (Zj .u64 (wrap .u64 (p.getD 36 0)) 32)) (Zj .u64 (wrap .u64 (p.getD 37 0)) 40)) (Zj .u64 (wrap .u64 (p.getD 38 0)) 48)) (Zj .u64 (wrap .u64 (p.getD 39 0)) 56),Z4 .or .u64 (Z4 .or .u64 (Z4 .or .u64 (Z4 .or .u64 (Z4 .or .u64 (Z4 .or .u64 (Z4 .or .u64 (Z4 .or .u64 (0) (Zj .u64 (wrap .u64 (p.getD 40 0)) 0)) (Zj .u64 (wrap .u64 (p.getD 41 0)) 8)) (Zj .u64 (wrap .u64 (p.getD 42 0)) 16)) (Zj .u64 (wrap .u64 (p.getD 43 0)) 24)) (Zj .u64 (wrap .u64 (p.getD 44 0)) 32)) (Zj .u64 (wrap .u64 (p.getD 45 0)) 40)) (Zj .u64 (wrap .u64 (p.getD 46 0)) 48)) (Zj .u64 (wrap .u64 (p.getD 47 0)) 56),Z4 .or .u64 (Z4 .or .u64 (Z4 .or .u64 (Z4 .or .u64 (Z4 .or .u64 (Z4 .or .u64 (Z4 .or .u64 (Z4 .or .u64 (0) (Zj .u64 (wrap .u64 (p.getD 48 0)) 0)) (Zj .u64 (wrap .u64 (p.getD 49 0)) 8)) (Zj .u64 (wrap .u64 (p.getD 50 0)) 16)) (Zj .u64 (wrap .u64 (p.getD 51 0)) 24)) (Zj .u64 (wrap .u64 (p.getD 52 0)) 32)) (Zj .u64 (wrap .u64 (p.getD 53 0)) 40)) (Zj .u64 (wrap .u64 (p.getD 54 0)) 48)) (Zj .u64 (wrap .u64 (p.getD 55 0)) 56),Z4 .or .u64 (Z4 .or .u64 (Z4 .or .u64 (Z4 .or .u64 (Z4 .or .u64 (Z4 .or .u64 (Z4 .or .u64 (Z4 .or .u64 (0) (Zj .u64 (wrap .u64 (p.getD 56 0)) 0)) (Zj .u64 (wrap .u64 (p.getD 57 0)) 8)) (Zj .u64 (wrap .u64 (p.getD 58 0)) 16)) (Zj .u64 (wrap .u64 (p.getD 59 0)) 24)) (Zj .u64 (wrap .u64 (p.getD 60 0)) 32)) (Zj .u64 (wrap .u64 (p.getD 61 0)) 40)) (Zj .u64 (wrap .u64 (p.getD 62 0)) 48)) (Zj .u64 (wrap .u64 (p.getD 63 0)) 56)]:=by kernel_rfl
theorem Zr5 (p:LI):Z8t p=some [wrap .u8 (p.getD 0 0),wrap .u8 (Zq .u64 (p.getD 0 0) 8),wrap .u8 (Zq .u64 (Zq .u64 (p.getD 0 0) 8) 8),wrap .u8 (Zq .u64 (Zq .u64 (Zq .u64 (p.getD 0 0) 8) 8) 8),wrap .u8 (Zq .u64 (Zq .u64 (Zq .u64 (Zq .u64 (p.getD 0 0) 8) 8) 8) 8),wrap .u8 (Zq .u64 (Zq .u64 (Zq .u64 (Zq .u64 (Zq .u64 (p.getD 0 0) 8) 8) 8) 8) 8),wrap .u8 (Zq .u64 (Zq .u64 (Zq .u64 (Zq .u64 (Zq .u64 (Zq .u64 (p.getD 0 0) 8) 8) 8) 8) 8) 8),wrap .u8 (Zq .u64 (Zq .u64 (Zq .u64 (Zq .u64 (Zq .u64 (Zq .u64 (Zq .u64 (p.getD 0 0) 8) 8) 8) 8) 8) 8) 8),wrap .u8 (p.getD 1 0),wrap .u8 (Zq .u64 (p.getD 1 0) 8),wrap .u8 (Zq .u64 (Zq .u64 (p.getD 1 0) 8) 8),wrap .u8 (Zq .u64 (Zq .u64 (Zq .u64 (p.getD 1 0) 8) 8) 8),wrap .u8 (Zq .u64 (Zq .u64 (Zq .u64 (Zq .u64 (p.getD 1 0) 8) 8) 8) 8),wrap .u8 (Zq .u64 (Zq .u64 (Zq .u64 (Zq .u64 (Zq .u64 (p.getD 1 0) 8) 8) 8) 8) 8),wrap .u8 (Zq .u64 (Zq .u64 (Zq .u64 (Zq .u64 (Zq .u64 (Zq .u64 (p.getD 1 0) 8) 8) 8) 8) 8) 8),wrap .u8 (Zq .u64 (Zq .u64 (Zq .u64 (Zq .u64 (Zq .u64 (Zq .u64 (Zq .u64 (p.getD 1 0) 8) 8) 8) 8) 8) 8) 8),wrap .u8 (p.getD 2 0),wrap .u8 (Zq .u64 (p.getD 2 0) 8),wrap .u8 (Zq .u64 (Zq .u64 (p.getD 2 0) 8) 8),wrap .u8 (Zq .u64 (Zq .u64 (Zq .u64 (p.getD 2 0) 8) 8) 8),wrap .u8 (Zq .u64 (Zq .u64 (Zq .u64 (Zq .u64 (p.getD 2 0) 8) 8) 8) 8),wrap .u8 (Zq .u64 (Zq .u64 (Zq .u64 (Zq .u64 (Zq .u64 (p.getD 2 0) 8) 8) 8) 8) 8),wrap .u8 (Zq .u64 (Zq .u64 (Zq .u64 (Zq .u64 (Zq .u64 (Zq .u64 (p.getD 2 0) 8) 8) 8) 8) 8) 8),wrap .u8 (Zq .u64 (Zq .u64 (Zq .u64 (Zq .u64 (Zq .u64 (Zq .u64 (Zq .u64 (p.getD 2 0) 8) 8) 8) 8) 8) 8) 8),wrap .u8 (p.getD 3 0),wrap .u8 (Zq .u64 (p.getD 3 0) 8),wrap .u8 (Zq .u64 (Zq .u64 (p.getD 3 0) 8) 8),wrap .u8 (Zq .u64 (Zq .u64 (Zq .u64 (p.getD 3 0) 8) 8) 8),wrap .u8 (Zq .u64 (Zq .u64 (Zq .u64 (Zq .u64 (p.getD 3 0) 8) 8) 8) 8),wrap .u8 (Zq .u64 (Zq .u64 (Zq .u64 (Zq .u64 (Zq .u64 (p.getD 3 0) 8) 8) 8) 8) 8),wrap .u8 (Zq .u64 (Zq .u64 (Zq .u64 (Zq .u64 (Zq .u64 (Zq .u64 (p.getD 3 0) 8) 8) 8) 8) 8) 8),wrap .u8 (Zq .u64 (Zq .u64 (Zq .u64 (Zq .u64 (Zq .u64 (Zq .u64 (Zq .u64 (p.getD 3 0) 8) 8) 8) 8) 8) 8) 8)]:=by kernel_rfl
theorem Z04c (x:Int):0<=wrap .u8 x/\wrap .u8 x<256:=by rw [Z0u]; omega
theorem Zzf (p:LI) : ∃ r,Z8t p=some r/\Byt r/\r.length=32:=by
  refine ⟨_,Zr5 p,byt_of ?_,rfl⟩
  repeat' (first | exact Z04c _ | exact List.forall_mem_nil _ | refine List.forall_mem_cons.2 ⟨?_,?_⟩)
theorem Z012 (p:LI) : ∃ r,Z9x p=some r/\W64 r:=by
  refine ⟨_,Znb p,Zk4 ?_⟩
  repeat' (first | exact Znc _ _ | exact List.forall_mem_nil _ | refine List.forall_mem_cons.2 ⟨?_,?_⟩)
theorem Zo7 (p:LI) : ∃ b,Z3c p=some b:=by
  obtain ⟨r,e,hr⟩:=Z012 p
  obtain ⟨a,c,e2,_⟩:=Zhs hr Zbb
  exact ⟨_,by rw [Z3c,Z3 e,Z3 e2]⟩
theorem Zkk {x y:Int} (hx:0<=x) (hy:0<=y):Zek x y 0=true:=by
  unfold Zek
  rw [decide_eq_true hx,decide_eq_true hy]; rfl
theorem Zsy (x:Int):0<=wrap .u64 x/\wrap .u64 x<18446744073709551616:=by rw [Ze6]; omega
theorem Zhk (x y c:Int):0<=Zaa x y c/\Zaa x y c<18446744073709551616:=by unfold Zaa; omega
theorem Zsv {q:LI} (hq:W64 q) {i:Nat} {z:Int} (hz:0<=z/\z<18446744073709551616) {L:Nat} (hL:i+q.length<=L) (hb:L<1000000) (m:Nat) : ∀ (n:Nat) (j:Nat) (l:LI) (c:Int),j+m=q.length->l.length=L->W64 l->(0<=c/\c<18446744073709551616) ->
    ∃ l' c',(∀ k,Z2h q (i:Int) z k (n+1+m) l c (j:Int)=k l' c')/\l'.length=L/\W64 l'/\(0<=c'/\c'<18446744073709551616):=by
  induction m with
  | zero =>
    intro n j l c hj hl hw hc
    refine ⟨l,c,fun k=>?_,hl,hw,hc⟩
    rw [Nat.add_zero,Z2h,Z4r,Z08 (by simp; omega)]
  | succ m ih =>
    intro n j l c hj hl hw hc
    have hqj:=hq j
    have hmul:=Zol hz hqj
    have hlj:=hw (i+j)
    have hp:0<=z*q.getD j 0:=Int.mul_nonneg hz.1 hqj.1
    have e1:wrap .i64 ((i:Int)+(j:Int))=((i+j:Nat):Int):=by rw [Zl (by omega) (by omega)]; omega
    have e2:wrap .i64 ((j:Int)+1)=((j+1:Nat):Int):=by rw [Zl (by omega) (by omega)]; rfl
    have hj':j<q.length:=by omega
    have hbr:decide ((j:Int)<(q.length:Int))=true:=by simp; omega
    have hlo:0<=z*q.getD j 0%18446744073709551616:=by omega
    obtain ⟨l',c',e,h1,h2,h3⟩:=ih n (j+1) (Zdn 0 l (i+j) (Zaa (Zaa (z*q.getD j 0%18446744073709551616) (l.getD (i+j) 0) 0) c 0)) (wrap .u64 (wrap .u64 (z*q.getD j 0 / 18446744073709551616+Zer (z*q.getD j 0%18446744073709551616) (l.getD (i+j) 0) 0)+Zer (Zaa (z*q.getD j 0%18446744073709551616) (l.getD (i+j) 0) 0) c 0)) (by omega) (by rw [Z7d (by omega),List.length_set,hl]) (Zki hw (Zhk _ _ _)) (Zsy _)
    refine ⟨l',c',fun k=>?_,h1,h2,h3⟩
    rw [<- Nat.add_assoc,Z2h,Z4r,Z0n hbr,Zp (Z0i (by omega) (by omega)),Zb]
    simp only [Int.toNat_natCast]
    rw [Z3 hmul,Zb,e1,Zp (Z0i (by omega) (by omega)),Zb]
    simp only [Int.toNat_natCast]
    rw [Zp (Zkk hlo hlj.1),Zb,Zb,Zb,Zp (Zkk (Zhk _ _ _).1 hc.1),Zb,Zb,Zb,Zb,Zp (Z0i (by omega) (by omega)),Zb,Zb,e2]
    exact e k
theorem Zsw {p q:LI} (hp:W64 p) (hq:W64 q) {L:Nat} (hL:p.length+q.length=L) (hb:L<1000000) (m:Nat) : ∀ (n:Nat) (i:Nat) (l:LI),i+m=p.length->l.length=L->W64 l ->
    ∃ l',Z2g p q some (n+1+m) l (i:Int)=some l'/\l'.length=L/\W64 l':=by
  induction m with
  | zero =>
    intro n i l hi hl hw
    refine ⟨l,?_,hl,hw⟩
    rw [Nat.add_zero,Z2g,Z4q,Z08 (by simp; omega)]
  | succ m ih =>
    intro n i l hi hl hw
    have hbr:decide ((i:Int)<(p.length:Int))=true:=by simp; omega
    obtain ⟨n',hn⟩ : ∃ n',big=n'+1+q.length:=⟨18446744073709551615-q.length,by have:big=18446744073709551616:=Z25; omega⟩
    obtain ⟨l',c',e,hl',hw',hc'⟩:=Zsv hq (i:=i) (hp i) (L:=L) (by omega) hb q.length n' 0 l 0 (by omega) hl hw (by decide)
    have e1:wrap .i64 ((i:Int)+(q.length:Int))=((i+q.length:Nat):Int):=by rw [Zl (by omega) (by omega)]; omega
    have e2:wrap .i64 ((i:Int)+1)=((i+1:Nat):Int):=by rw [Zl (by omega) (by omega)]; rfl
    obtain ⟨l2,e3,hl2,hw2⟩:=ih n (i+1) (Zdn 0 l' (i+q.length) c') (by omega) (by rw [Z7d (by omega),List.length_set,hl']) (Zki hw' hc')
    refine ⟨l2,?_,hl2,hw2⟩
    rw [<- Nat.add_assoc,Z2g,Z4q,Z0n hbr,Zp (Z0i (by omega) (by omega)),Zb,Z17]
    simp only [Int.toNat_natCast]
    rw [hn]
    refine (e _).trans ?_
    simp only [Zb,e1,e2]
    rw [Zp (Z0i (by omega) (by omega))]
    exact e3
theorem Zzl {p q:LI} (hp:W64 p) (hq:W64 q) (hb:p.length+q.length<1000000) : ∃ r,Z7c p q=some r/\r.length=p.length+q.length/\W64 r:=by
  have e1:wrap .i64 ((p.length:Int)+(q.length:Int))=((p.length+q.length:Nat):Int):=by rw [Zl (by omega) (by omega)]; omega
  obtain ⟨n,hn⟩ : ∃ n',big=n'+1+p.length:=⟨18446744073709551615-p.length,by have:big=18446744073709551616:=Z25; omega⟩
  obtain ⟨r,e,h1,h2⟩:=Zsw hp hq (L:=p.length+q.length) rfl hb p.length n 0 (replicate (p.length+q.length) 0) (by omega) (by simp) (Z51 _)
  refine ⟨r,?_,h1,h2⟩
  rw [Z7c,Zb,e1,Zp (by unfold mkB; simp; omega),Z17,Int.toNat_natCast,hn]
  exact e
theorem Zr2 {x:Int} (h:0<=x/\x<18446744073709551616):0<=Zq .u64 x 60/\Zq .u64 x 60<18446744073709551616:=by
  have:=Z9m .u64 (x:=x) (n:=60) (by decide)
  rw [show ((60:Nat):Int)=60 from rfl] at this
  rw [this]
  have:((2^60:Nat):Int)=1152921504606846976:=by decide
  rw [this]; omega
theorem Znz {l r:LI} (h:W64 l) (hr:W64 r):W64 (l++r):=by
  intro i
  by_cases hi:i<l.length
  · have:(l++r).getD i 0=l.getD i 0:=by simp [List.getD_eq_getElem?_getD,List.getElem?_append_left hi]
    rw [this]; exact h i
  · have:(l++r).getD i 0=r.getD (i-l.length) 0:=by simp [List.getD_eq_getElem?_getD,List.getElem?_append_right (Nat.le_of_not_lt hi)]
    rw [this]; exact hr _
theorem Zo0 {z:Int} (h:0<=z/\z<18446744073709551616):W64 [z]:=Zk4 (by simpa using h)
theorem Zvw {p:LI} (hp:W64 p) (hb:p.length<1000000) {k:LI->Option (LI×LI)} (m:Nat) : ∀ (n i:Nat) (l:LI),i+m=p.length->l.length<=i->W64 l ->
    ∃ l',Z1l p k (n+1+m) l (i:Int)=k l'/\l'.length=l.length+m/\W64 l':=by
  induction m with
  | zero =>
    intro n i l hi hl hw
    refine ⟨l,?_,rfl,hw⟩
    rw [Nat.add_zero,Z1l,Z2v,Z08 (by simp; omega)]
  | succ m ih =>
    intro n i l hi hl hw
    have hbr:decide ((i:Int)<(p.length:Int))=true:=by simp; omega
    have e2:wrap .i64 ((i:Int)+1)=((i+1:Nat):Int):=by rw [Zl (by omega) (by omega)]; rfl
    have hs:=Zr2 (hp i)
    by_cases h:i+1<p.length
    · obtain ⟨l',e,h1,h2⟩:=ih n (i+1) (l ++ [Z4 .or .u64 (Zq .u64 (p.getD i 0) 60) (Zj .u64 (p.getD (i+1) 0) 4)]) (by omega) (by simp; omega) (Znz hw (Zo0 (Znc _ _)))
      refine ⟨l',?_,by rw [h1]; simp; omega,h2⟩
      rw [<- Nat.add_assoc,Z1l,Z2v,Z0n hbr,Zp (Z0i (by omega) (by omega))]
      simp only [Zb,e2,Z17,Int.toNat_natCast]
      rw [Z0n (by simp; omega),Zp (Z0i (by omega) (by omega))]
      rw [Zp (by simp; omega)]
      exact e
    · obtain ⟨l',e,h1,h2⟩:=ih n (i+1) (l ++ [Zq .u64 (p.getD i 0) 60]) (by omega) (by simp; omega) (Znz hw (Zo0 hs))
      refine ⟨l',?_,by rw [h1]; simp; omega,h2⟩
      rw [<- Nat.add_assoc,Z1l,Z2v,Z0n hbr,Zp (Z0i (by omega) (by omega))]
      simp only [Zb,e2,Z17,Int.toNat_natCast]
      rw [Z08 (by simp; omega)]
      rw [Zp (by simp; omega)]
      exact e
theorem Zzb {p:LI} (hp:W64 p) (h4:4<=p.length) (hb:p.length<1000000) : ∃ a h,Z62 p=some (a,h)/\W64 a/\W64 h/\h.length=p.length-3:=by
  obtain ⟨n,hn⟩ : ∃ n',big=n'+1+(p.length-3):=⟨18446744073709551615-(p.length-3),by have:big=18446744073709551616:=Z25; omega⟩
  have hw0:W64 (wr (replicate 4 0) 0 (p.take 4)):=by
    intro i
    rw [Zmg]
    split
    · rename_i h
      have:(p.take 4).getD (i-0) 0=p.getD i 0:=by
        simp only [List.length_take] at h
        have h4':i<4:=by omega
        simp [List.getD_eq_getElem?_getD,List.getElem?_take,h4']
      rw [this]; exact hp i
    · exact Z51 4 i
  obtain ⟨l',e,h1,h2⟩:=Zvw hp hb (k:=fun l128=>some (Z2z (wr (replicate 4 0) 0 (p.take 4)) 3 (Z4 .and .u64 ((wr (replicate 4 0) 0 (p.take 4)).getD 3 0) 1152921504606846975),l128)) (p.length-3) n 3 [] (by omega) (by simp) (Z51 0)
  refine ⟨Z2z (wr (replicate 4 0) 0 (p.take 4)) 3 (Z4 .and .u64 ((wr (replicate 4 0) 0 (p.take 4)).getD 3 0) 1152921504606846975),l',?_,Zbc hw0 (Zrn _ _),h2,by simpa using h1⟩
  simp only [Z62,Zb,Z17]
  rw [hn]
  exact e
theorem Zt5:W64 [6346243789798364141,1503914060200516822]:=Zk4 (by decide)
theorem Zc6 {l:LI} (n:Nat) {i:Nat} {a:List (LI)} {k:List (LI)->Option (LI)} (hi:i<4) (hl:W64 l) (h4:4<=l.length) (hb:l.length<1000) (ha : ∀ i,W64 (a.getD i (replicate 4 0))) :
    ∃ l' a',Z1j k (n+1) l (i:Int) a=Z1j k n l' ((i+1:Nat):Int) a'/\W64 l'/\l'.length=l.length-1/\(∀ i,W64 (a'.getD i (replicate 4 0))):=by
  obtain ⟨lo,h,e,w1,w2,w3⟩:=Zzb hl h4 (by omega)
  obtain ⟨s,c,e2,ws,_,_⟩:=Zix (ha (i%2)) w1
  obtain ⟨t,e3,l3,wt⟩:=Zzl w2 Zt5 (by simp; omega)
  have em:Int.tmod (i:Int) 2=((i%2:Nat):Int):=by rw [Int.tmod_eq_emod_of_nonneg (by omega)]; omega
  have e1:wrap .i64 ((i:Int)+1)=((i+1:Nat):Int):=by rw [Zl (by omega) (by omega)]; rfl
  refine ⟨t,Zdn (replicate 4 0) a (i%2) s,?_,wt,by rw [l3,w3]; simp; omega,?_⟩
  · rw [Z1j,Z49,Z0n (by simp; omega),Z3 e]
    simp only [Zb,em,e1,Int.toNat_natCast]
    rw [Zp (Z0i (by omega) (by omega)),Z3 e2,Zp (Z0i (by omega) (by omega)),Zbv,Z3 rfl,Z3 e3]
  · intro j
    rw [Z4d]
    split
    · exact ws
    · exact ha j
theorem Zvf {p:LI} (hp:W64 p) (h8:p.length=8) : ∃ r,Z6a p=some r/\W64 r/\0<=V4 r/\V4 r<VL:=by
  obtain ⟨n,hn⟩ : ∃ n,big=n+1+1+1+1+1:=⟨18446744073709551611,Z25⟩
  rw [Z6a,Z17,hn]
  have ha0 : ∀ i,W64 ((replicate 2 (replicate 4 0):List (LI)).getD i (replicate 4 0)):=by
    intro i
    have:(replicate 2 (replicate 4 0):List (LI)).getD i (replicate 4 0)=replicate 4 0:=by
      match i with
      | 0=>rfl
      | 1=>rfl
      | i+2=>rfl
    rw [this]; exact Z51 4
  obtain ⟨l1,a1,f1,w1,n1,h1⟩:=Zc6 (n+1+1+1+1) (i:=0) (k:=fun (a121:List (LI))=>opt (Z69 G_order G_order) fun y239 =>
 bnd (a121.getD 0 (replicate 4 0)) fun x242 =>
 opt (Z69 x242 y239.1) fun y243 =>
 bnd (a121.getD 1 (replicate 4 0)) fun x246 =>
 opt (Z61 y243.1 x246) fun y247 =>
 opt (Z8s y247.1) fun y249 =>
 some y249) (by decide) hp (by omega) (by omega) ha0
  obtain ⟨l2,a2,f2,w2,n2,h2⟩:=Zc6 (n+1+1+1) (i:=1) (k:=_) (by decide) w1 (by omega) (by omega) h1
  obtain ⟨l3,a3,f3,w3,n3,h3⟩:=Zc6 (n+1+1) (i:=2) (k:=_) (by decide) w2 (by omega) (by omega) h2
  obtain ⟨l4,a4,f4,w4,n4,h4⟩:=Zc6 (n+1) (i:=3) (k:=_) (by decide) w3 (by omega) (by omega) h3
  obtain ⟨g1,c1,q1,v1,_,_⟩:=Zix Zbb Zbb
  obtain ⟨g2,c2,q2,v2,_,_⟩:=Zix (h4 0) v1
  obtain ⟨g3,c3,q3,v3,_,_⟩:=Zhs v2 (h4 1)
  obtain ⟨r,q4,v4,v5⟩:=Zt8 v3
  refine ⟨r,?_,v4,(Ze7 v4).1,by rw [v5]; exact Int.emod_lt_of_pos _ (by decide)⟩
  refine f1.trans (f2.trans (f3.trans (f4.trans ?_)))
  rw [Z1j,Z49,Z08 (by decide),Z3 q1,Zb,Z3 q2,Zb,Z3 q3,Z3 q4]
theorem tk8 (a b c d e f g h:Int):tk [a,b,c,d,e,f,g,h] 0 8 = [a,b,c,d,e,f,g,h]:=rfl
theorem Zur (p:LI) : ∃ r,Z4g p=some r/\Byt r/\r.length=32:=by
  rw [Z4g,Z17,Zmx]
  obtain ⟨r,e,w,_⟩:=Zvf (p:=[Z4 .or .u64 (Z4 .or .u64 (Z4 .or .u64 (Z4 .or .u64 (Z4 .or .u64 (Z4 .or .u64 (Z4 .or .u64 (Z4 .or .u64 (0) (Zj .u64 (wrap .u64 (p.getD 0 0)) 0)) (Zj .u64 (wrap .u64 (p.getD 1 0)) 8)) (Zj .u64 (wrap .u64 (p.getD 2 0)) 16)) (Zj .u64 (wrap .u64 (p.getD 3 0)) 24)) (Zj .u64 (wrap .u64 (p.getD 4 0)) 32)) (Zj .u64 (wrap .u64 (p.getD 5 0)) 40)) (Zj .u64 (wrap .u64 (p.getD 6 0)) 48)) (Zj .u64 (wrap .u64 (p.getD 7 0)) 56),Z4 .or .u64 (Z4 .or .u64 (Z4 .or .u64 (Z4 .or .u64 (Z4 .or .u64 (Z4 .or .u64 (Z4 .or .u64 (Z4 .or .u64 (0) (Zj .u64 (wrap .u64 (p.getD 8 0)) 0)) (Zj .u64 (wrap .u64 (p.getD 9 0)) 8)) (Zj .u64 (wrap .u64 (p.getD 10 0)) 16)) (Zj .u64 (wrap .u64 (p.getD 11 0)) 24)) (Zj .u64 (wrap .u64 (p.getD 12 0)) 32)) (Zj .u64 (wrap .u64 (p.getD 13 0)) 40)) (Zj .u64 (wrap .u64 (p.getD 14 0)) 48)) (Zj .u64 (wrap .u64 (p.getD 15 0)) 56),Z4 .or .u64 (Z4 .or .u64 (Z4 .or .u64 (Z4 .or .u64 (Z4 .or .u64 (Z4 .or .u64 (Z4 .or .u64 (Z4 .or .u64 (0) (Zj .u64 (wrap .u64 (p.getD 16 0)) 0)) (Zj .u64 (wrap .u64 (p.getD 17 0)) 8)) (Zj .u64 (wrap .u64 (p.getD 18 0)) 16)) (Zj .u64 (wrap .u64 (p.getD 19 0)) 24)) (Zj .u64 (wrap .u64 (p.getD 20 0)) 32)) (Zj .u64 (wrap .u64 (p.getD 21 0)) 40)) (Zj .u64 (wrap .u64 (p.getD 22 0)) 48)) (Zj .u64 (wrap .u64 (p.getD 23 0)) 56),Z4 .or .u64 (Z4 .or .u64 (Z4 .or .u64 (Z4 .or .u64 (Z4 .or .u64 (Z4 .or .u64 (Z4 .or .u64 (Z4 .or .u64 (0) (Zj .u64 (wrap .u64 (p.getD 24 0)) 0)) (Zj .u64 (wrap .u64 (p.getD 25 0)) 8)) (Zj .u64 (wrap .u64 (p.getD 26 0)) 16)) (Zj .u64 (wrap .u64 (p.getD 27 0)) 24)) (Zj .u64 (wrap .u64 (p.getD 28 0)) 32)) (Zj .u64 (wrap .u64 (p.getD 29 0)) 40)) (Zj .u64 (wrap .u64 (p.getD 30 0)) 48)) (Zj .u64 (wrap .u64 (p.getD 31 0)) 56),Z4 .or .u64 (Z4 .or .u64 (Z4 .or .u64 (Z4 .or .u64 (Z4 .or .u64 (Z4 .or .u64 (Z4 .or .u64 (Z4 .or .u64 (0) (Zj .u64 (wrap .u64 (p.getD 32 0)) 0)) (Zj .u64 (wrap .u64 (p.getD 33 0)) 8)) (Zj .u64 (wrap .u64 (p.getD 34 0)) 16)) (Zj .u64 (wrap .u64 (p.getD 35 0)) 24)) (Zj .u64 (wrap .u64 (p.getD 36 0)) 32)) (Zj .u64 (wrap .u64 (p.getD 37 0)) 40)) (Zj .u64 (wrap .u64 (p.getD 38 0)) 48)) (Zj .u64 (wrap .u64 (p.getD 39 0)) 56),Z4 .or .u64 (Z4 .or .u64 (Z4 .or .u64 (Z4 .or .u64 (Z4 .or .u64 (Z4 .or .u64 (Z4 .or .u64 (Z4 .or .u64 (0) (Zj .u64 (wrap .u64 (p.getD 40 0)) 0)) (Zj .u64 (wrap .u64 (p.getD 41 0)) 8)) (Zj .u64 (wrap .u64 (p.getD 42 0)) 16)) (Zj .u64 (wrap .u64 (p.getD 43 0)) 24)) (Zj .u64 (wrap .u64 (p.getD 44 0)) 32)) (Zj .u64 (wrap .u64 (p.getD 45 0)) 40)) (Zj .u64 (wrap .u64 (p.getD 46 0)) 48)) (Zj .u64 (wrap .u64 (p.getD 47 0)) 56),Z4 .or .u64 (Z4 .or .u64 (Z4 .or .u64 (Z4 .or .u64 (Z4 .or .u64 (Z4 .or .u64 (Z4 .or .u64 (Z4 .or .u64 (0) (Zj .u64 (wrap .u64 (p.getD 48 0)) 0)) (Zj .u64 (wrap .u64 (p.getD 49 0)) 8)) (Zj .u64 (wrap .u64 (p.getD 50 0)) 16)) (Zj .u64 (wrap .u64 (p.getD 51 0)) 24)) (Zj .u64 (wrap .u64 (p.getD 52 0)) 32)) (Zj .u64 (wrap .u64 (p.getD 53 0)) 40)) (Zj .u64 (wrap .u64 (p.getD 54 0)) 48)) (Zj .u64 (wrap .u64 (p.getD 55 0)) 56),Z4 .or .u64 (Z4 .or .u64 (Z4 .or .u64 (Z4 .or .u64 (Z4 .or .u64 (Z4 .or .u64 (Z4 .or .u64 (Z4 .or .u64 (0) (Zj .u64 (wrap .u64 (p.getD 56 0)) 0)) (Zj .u64 (wrap .u64 (p.getD 57 0)) 8)) (Zj .u64 (wrap .u64 (p.getD 58 0)) 16)) (Zj .u64 (wrap .u64 (p.getD 59 0)) 24)) (Zj .u64 (wrap .u64 (p.getD 60 0)) 32)) (Zj .u64 (wrap .u64 (p.getD 61 0)) 40)) (Zj .u64 (wrap .u64 (p.getD 62 0)) 48)) (Zj .u64 (wrap .u64 (p.getD 63 0)) 56)]) (Zk4 (by
    repeat' (first | exact Znc _ _ | exact List.forall_mem_nil _ | refine List.forall_mem_cons.2 ⟨?_,?_⟩))) rfl
  obtain ⟨s,e2,b⟩:=Zzf r
  refine ⟨s,?_,b⟩
  rw [tk8,Z3 e,Z3 e2]
end Go.Proofs.YtiflckckekjbnaaGreatDoor
namespace Go.Proofs.YtiflckckekjbnaaGreatDoor
open Go Go.Sx Go.RowKit
open Go.IntKind (wrap)
set_option linter.all false
set_option maxRecDepth 100000
def pV (l:LI):Nat->Int
 | 0=>0
 | n+1=>pV l n+l.getD n 0*(18446744073709551616:Int)^n
theorem Z9t (l:LI) (n:Nat):pV l (n+1)=pV l n+l.getD n 0*(18446744073709551616:Int)^n:=rfl
theorem Zq7 (l:LI) (i:Nat) (v:Int) : ∀ n,n<=i->pV (Zdn 0 l i v) n=pV l n
 | 0,_=>rfl
 | n+1,h=>by rw [Z9t,Z9t,Zq7 l i v n (by omega),Z4d,if_neg (by omega)]
theorem Zy2 (l:LI) (i:Nat) (v:Int) : ∀ n,i<n->pV (Zdn 0 l i v) n=pV l n+(v-l.getD i 0)*(18446744073709551616:Int)^i
 | 0,h=>by omega
 | n+1,h=>by
  rw [Z9t,Z9t,Z4d]
  by_cases hi:n=i
  ·subst hi
   rw [if_pos rfl,Zq7 l n v n (Nat.le_refl _),Int.sub_mul]
   omega
  ·rw [if_neg hi,Zy2 l i v n (by omega)]
   omega
theorem Zy3 {l:LI} {m:Nat} (h : ∀ t,m<=t->l.getD t 0=0) : ∀ n,m<=n->pV l n=pV l m
 | 0,hn=>by rw [show m=0 by omega]
 | n+1,hn=>by
  by_cases e:m=n+1
  ·rw [e]
  ·rw [Z9t,h n (by omega),Zy3 h n (by omega)]; omega
theorem Zq6 (n m:Nat):pV (List.replicate m 0) n=0:=by
 induction n with
 | zero=>rfl
 | succ n ih =>
  have:(List.replicate m (0:Int)).getD n 0=0:=by
   simp only [List.getD]
   cases hi:(List.replicate m (0:Int))[n]? with
   | none=>rfl
   | some v=>simpa using (List.mem_replicate.1 (List.mem_of_getElem? hi)).2
  rw [Z9t,ih,this]; omega
theorem Zy4 (n:Nat):0<(18446744073709551616:Int)^n:=Int.pow_pos (by decide)
theorem Z03m {l:LI} (h:W64 l) : ∀ n,0<=pV l n/\pV l n<(18446744073709551616:Int)^n
 | 0=>by show (0:Int)<=0/\(0:Int)<1; omega
 | n+1=>by
  have ih:=Z03m h n
  have h1:=h n
  have hp:=Zy4 n
  rw [Z9t,Int.pow_succ]
  generalize (18446744073709551616:Int)^n=w at *
  generalize l.getD n 0=x at *
  generalize pV l n=v at *
  have a:0<=x*w:=Int.mul_nonneg h1.1 (by omega)
  have b:x*w<=18446744073709551615*w:=Int.mul_le_mul_of_nonneg_right (by omega) (by omega)
  omega
theorem Zws {z q o c:Int} (hz:0<=z/\z<18446744073709551616) (hq:0<=q/\q<18446744073709551616) (ho:0<=o/\o<18446744073709551616) (hc:0<=c/\c<18446744073709551616) :
  ∃ n,wrap .u64 (wrap .u64 (z*q / 18446744073709551616+Zer (z*q%18446744073709551616) o 0)+Zer (Zaa (z*q%18446744073709551616) o 0) c 0)=n/\0<=n/\n<18446744073709551616/\Zaa (Zaa (z*q%18446744073709551616) o 0) c 0+n*18446744073709551616=z*q+o+c:=by
 have h0:0<=z*q:=Int.mul_nonneg hz.1 hq.1
 have h1:z*q<=18446744073709551615*18446744073709551615:=Int.mul_le_mul (by omega) (by omega) hq.1 (by omega)
 generalize z*q=p at *
 refine ⟨_,rfl,?_⟩
 unfold Zaa Zer
 have e1:wrap .u64 (p / 18446744073709551616+(p%18446744073709551616+o+0) / 18446744073709551616)=p / 18446744073709551616+(p%18446744073709551616+o+0) / 18446744073709551616:=Zd (by omega) (by omega)
 rw [e1]
 rw [Zd (by omega) (by omega)]
 omega
theorem Zr8 {q:LI} (hq:W64 q) {i:Nat} {z:Int} (hz:0<=z/\z<18446744073709551616) {L:Nat} (hL:i+q.length<=L) (hb:L<1000000) (m:Nat) : ∀ (n:Nat) (j:Nat) (l:LI) (c:Int),j+m=q.length->l.length=L->W64 l->(0<=c/\c<18446744073709551616) ->
  ∃ l' c',(∀ k,Z2h q (i:Int) z k (n+1+m) l c (j:Int)=k l' c')/\l'.length=L/\W64 l'/\(0<=c'/\c'<18446744073709551616) /\
   pV l' L+c'*(18446744073709551616:Int)^(i+q.length)+z*pV q j*(18446744073709551616:Int)^i=pV l L+c*(18446744073709551616:Int)^(i+j)+z*pV q q.length*(18446744073709551616:Int)^i/\(∀ t,i+q.length<=t->l'.getD t 0=l.getD t 0):=by
 induction m with
 | zero =>
  intro n j l c hj hl hw hc
  refine ⟨l,c,fun k=>?_,hl,hw,hc,?_,fun _ _=>rfl⟩
  ·rw [Nat.add_zero,Z2h,Z4r,Z08 (by simp; omega)]
  ·rw [show j=q.length by omega]
 | succ m ih =>
  intro n j l c hj hl hw hc
  have hqj:=hq j
  have hmul:=Zol hz hqj
  have hlj:=hw (i+j)
  have hp:0<=z*q.getD j 0:=Int.mul_nonneg hz.1 hqj.1
  have e1:wrap .i64 ((i:Int)+(j:Int))=((i+j:Nat):Int):=by rw [Zl (by omega) (by omega)]; omega
  have e2:wrap .i64 ((j:Int)+1)=((j+1:Nat):Int):=by rw [Zl (by omega) (by omega)]; rfl
  have hj':j<q.length:=by omega
  have hbr:decide ((j:Int)<(q.length:Int))=true:=by simp; omega
  have hlo:0<=z*q.getD j 0%18446744073709551616:=by omega
  obtain ⟨c1,ec,c1a,c1b,ev⟩:=Zws hz hqj hlj hc
  obtain ⟨l',c',e,h1,h2,h3,h4,h5⟩:=ih n (j+1) (Zdn 0 l (i+j) (Zaa (Zaa (z*q.getD j 0%18446744073709551616) (l.getD (i+j) 0) 0) c 0)) c1 (by omega) (by rw [Z7d (by omega),List.length_set,hl]) (Zki hw (Zhk _ _ _)) ⟨c1a,c1b⟩
  refine ⟨l',c',fun k=>?_,h1,h2,h3,?_,?_⟩
  ·rw [<- Nat.add_assoc,Z2h,Z4r,Z0n hbr,Zp (Z0i (by omega) (by omega)),Zb]
   simp only [Int.toNat_natCast]
   rw [Z3 hmul,Zb,e1,Zp (Z0i (by omega) (by omega)),Zb]
   simp only [Int.toNat_natCast]
   rw [Zp (Zkk hlo hlj.1),Zb,Zb,Zb,Zp (Zkk (Zhk _ _ _).1 hc.1),Zb,Zb,Zb,Zb,Zp (Z0i (by omega) (by omega)),Zb,Zb,e2,ec]
   exact e k
  ·rw [Zy2 _ _ _ _ (by omega),Z9t,<- Nat.add_assoc,Int.pow_succ,Int.pow_add 18446744073709551616 i j] at h4
   rw [Int.pow_add 18446744073709551616 i j]
   generalize (18446744073709551616:Int)^(i+q.length)=w1 at *
   generalize (18446744073709551616:Int)^i=w2 at *
   generalize (18446744073709551616:Int)^j=w3 at *
   generalize Zaa (Zaa (z*q.getD j 0%18446744073709551616) (l.getD (i+j) 0) 0) c 0=lo at *
   generalize q.getD j 0=qj at *
   generalize l.getD (i+j) 0=o at *
   generalize pV l' L=a1 at *
   generalize pV l L=a2 at *
   generalize pV q j=a3 at *
   generalize pV q q.length=a4 at *
   clear e ec ih
   grind -lia -linarith (splits:=0)
  ·intro t ht
   rw [h5 t ht,Z4d,if_neg (by omega)]
theorem Zr9 {p q:LI} (hp:W64 p) (hq:W64 q) {L:Nat} (hL:p.length+q.length=L) (hb:L<1000000) (m:Nat) : ∀ (n:Nat) (i:Nat) (l:LI),i+m=p.length->l.length=L->W64 l->(∀ t,i+q.length<=t->l.getD t 0=0)->pV l L=pV p i*pV q q.length ->
  ∃ l',Z2g p q some (n+1+m) l (i:Int)=some l'/\l'.length=L/\W64 l'/\pV l' L=pV p p.length*pV q q.length:=by
 induction m with
 | zero =>
  intro n i l hi hl hw hz hv
  refine ⟨l,?_,hl,hw,by rw [hv,show i=p.length by omega]⟩
  rw [Nat.add_zero,Z2g,Z4q,Z08 (by simp; omega)]
 | succ m ih =>
  intro n i l hi hl hw hz hv
  have hbr:decide ((i:Int)<(p.length:Int))=true:=by simp; omega
  obtain ⟨n',hn⟩ : ∃ n',big=n'+1+q.length:=⟨18446744073709551615-q.length,by have:big=18446744073709551616:=Z25; omega⟩
  obtain ⟨l',c',e,hl',hw',hc',v',z'⟩:=Zr8 hq (i:=i) (hp i) (L:=L) (by omega) hb q.length n' 0 l 0 (by omega) hl hw (by decide)
  have e1:wrap .i64 ((i:Int)+(q.length:Int))=((i+q.length:Nat):Int):=by rw [Zl (by omega) (by omega)]; omega
  have e2:wrap .i64 ((i:Int)+1)=((i+1:Nat):Int):=by rw [Zl (by omega) (by omega)]; rfl
  have hz0:l'.getD (i+q.length) 0=0:=by rw [z' _ (Nat.le_refl _),hz _ (Nat.le_refl _)]
  obtain ⟨l2,e3,hl2,hw2,v2⟩:=ih n (i+1) (Zdn 0 l' (i+q.length) c') (by omega) (by rw [Z7d (by omega),List.length_set,hl']) (Zki hw' hc') (by
   intro t ht
   rw [Z4d,if_neg (by omega),z' t (by omega),hz t (by omega)]) (by
   rw [Zy2 _ _ _ _ (by omega),hz0,Z9t]
   rw [hv] at v'
   have e0:pV q 0=0:=rfl
   rw [e0] at v'
   generalize (18446744073709551616:Int)^(i+q.length)=w1 at *
   generalize (18446744073709551616:Int)^i=w2 at *
   generalize pV l' L=a1 at *
   generalize pV q q.length=a4 at *
   generalize pV p i=a5 at *
   generalize p.getD i 0=a6 at *
   clear e ih
   grind -lia -linarith (splits:=0))
  refine ⟨l2,?_,hl2,hw2,v2⟩
  rw [<- Nat.add_assoc,Z2g,Z4q,Z0n hbr,Zp (Z0i (by omega) (by omega)),Zb,Z17]
  simp only [Int.toNat_natCast]
  rw [hn]
  refine (e _).trans ?_
  simp only [Zb,e1,e2]
  rw [Zp (Z0i (by omega) (by omega))]
  exact e3
theorem Zzm {p q:LI} (hp:W64 p) (hq:W64 q) (hb:p.length+q.length<1000000) : ∃ r,Z7c p q=some r/\r.length=p.length+q.length/\W64 r/\pV r r.length=pV p p.length*pV q q.length:=by
 have e1:wrap .i64 ((p.length:Int)+(q.length:Int))=((p.length+q.length:Nat):Int):=by rw [Zl (by omega) (by omega)]; omega
 obtain ⟨n,hn⟩ : ∃ n',big=n'+1+p.length:=⟨18446744073709551615-p.length,by have:big=18446744073709551616:=Z25; omega⟩
 obtain ⟨r,e,h1,h2,h3⟩:=Zr9 hp hq (L:=p.length+q.length) rfl hb p.length n 0 (List.replicate (p.length+q.length) 0) (by omega) (by simp) (Z51 _) (by
  intro t _
  simp only [List.getD]
  cases hi:(List.replicate (p.length+q.length) (0:Int))[t]? with
  | none=>rfl
  | some v=>simpa using (List.mem_replicate.1 (List.mem_of_getElem? hi)).2) (by
  rw [Zq6]
  show 0=0*_
  omega)
 refine ⟨r,?_,h1,h2,by rw [h1]; exact h3⟩
 rw [Z7c,Zb,e1,Zp (by unfold mkB; simp; omega),Z17,Int.toNat_natCast,hn]
 exact e
theorem Zuj (x:Int):Zq .u64 x 60=x / 1152921504606846976:=by
 have:=Z9m .u64 (x:=x) (n:=60) (by decide)
 simpa using this
theorem Z07k (x:Int):Zj .u64 x 4=(x*16)%18446744073709551616:=by
 have:=Zfw .u64 (x:=x) (n:=4) (by decide); rw [Ze6] at this; simpa using this
theorem Zxj {x y:Int} (hx:0<=x/\x<18446744073709551616) (hy:0<=y/\y<18446744073709551616):Z4 .or .u64 (Zq .u64 x 60) (Zj .u64 y 4)=x / 1152921504606846976+y%1152921504606846976*16:=by
 rw [Zuj,Z07k]
 have e:y*16%18446744073709551616=y%1152921504606846976*16:=by omega
 rw [e]
 exact Z15 4 (x:=y%1152921504606846976*16) (a:=y%1152921504606846976) rfl (by omega) (by omega) (by
  show _<(16:Int)
  omega) (by omega)
theorem Z0eg (l:LI) (v:Int):pV (l ++ [v]) l.length=pV l l.length:=by
 have h : ∀ n,n<=l.length->pV (l ++ [v]) n=pV l n:=by
  intro n
  induction n with
  | zero=>intro _; rfl
  | succ n ih =>
   intro hn
   have:(l ++ [v]).getD n 0=l.getD n 0:=by simp [List.getD_eq_getElem?_getD,List.getElem?_append_left (show n<l.length by omega)]
   rw [Z9t,Z9t,ih (by omega),this]
 exact h _ (Nat.le_refl _)
theorem Z067 (l:LI) (v:Int):pV (l ++ [v]) (l ++ [v]).length=pV l l.length+v*(18446744073709551616:Int)^l.length:=by
 have e:(l ++ [v]).length=l.length+1:=by simp
 rw [e,Z9t,Z0eg]
 have:(l ++ [v]).getD l.length 0=v:=by simp [List.getD_eq_getElem?_getD]
 rw [this]
theorem Zza (x d r y w2 w3 b1 b2 b3:Int) {b4:Int} (hx:1152921504606846976*d+r=x)
  (h:b1+w3*1152921504606846976*(b2+(d+y*16)*w2)=b4+x*(w3*w2)+y*(w3*w2*18446744073709551616)+w3*1152921504606846976*b3) :
  b1+w3*1152921504606846976*b2=b4+r*(w3*w2)+w3*1152921504606846976*b3:=by grind -lia -linarith (splits:=0)
theorem Zsr {p:LI} (hp:W64 p) (hb:p.length<1000000) {k:LI->Option (LI×LI)} (m:Nat) : ∀ (n i:Nat) (l:LI),3+i+m=p.length->l.length=i->W64 l ->
  ∃ l',Z1l p k (n+1+m) l ((3+i:Nat):Int)=k l'/\l'.length=i+m/\W64 l' /\
   pV p p.length+7237005577332262213973186563042994240829374041602535252466099000494570602496*pV l l.length=pV p (3+i)+p.getD (3+i) 0%1152921504606846976*(18446744073709551616:Int)^(3+i)+7237005577332262213973186563042994240829374041602535252466099000494570602496*pV l' l'.length:=by
 induction m with
 | zero =>
  intro n i l hi hl hw
  refine ⟨l,?_,by omega,hw,?_⟩
  ·rw [Nat.add_zero,Z1l,Z2v,Z08 (by simp; omega)]
  ·have e:p.getD (3+i) 0=0:=by simp [List.getD_eq_getElem?_getD,List.getElem?_eq_none (show p.length<=3+i by omega)]
   rw [e,show 3+i=p.length by omega]
   omega
 | succ m ih =>
  intro n i l hi hl hw
  have hbr:decide (((3+i:Nat):Int)<(p.length:Int))=true:=by simp; omega
  have e2:wrap .i64 (((3+i:Nat):Int)+1)=((3+(i+1):Nat):Int):=by rw [Zl (by omega) (by omega)]; omega
  have hs:=Zr2 (hp (3+i))
  have e3:((3+(i+1):Nat):Int).toNat=3+i+1:=by omega
  have hw3:(18446744073709551616:Int)^3*1152921504606846976=7237005577332262213973186563042994240829374041602535252466099000494570602496:=by decide
  have fin : ∀ (w:Int) (l':LI),w=p.getD (3+i) 0 / 1152921504606846976+p.getD (3+i+1) 0%1152921504606846976*16 ->
    pV p p.length+7237005577332262213973186563042994240829374041602535252466099000494570602496*pV (l ++ [w]) (l ++ [w]).length=pV p (3+(i+1))+p.getD (3+(i+1)) 0%1152921504606846976*(18446744073709551616:Int)^(3+(i+1))+7237005577332262213973186563042994240829374041602535252466099000494570602496*pV l' l'.length ->
    pV p p.length+7237005577332262213973186563042994240829374041602535252466099000494570602496*pV l l.length=pV p (3+i)+p.getD (3+i) 0%1152921504606846976*(18446744073709551616:Int)^(3+i)+7237005577332262213973186563042994240829374041602535252466099000494570602496*pV l' l'.length:=by
   intro w l' hw' h
   rw [Z067,hl,<- Nat.add_assoc,Z9t,Int.pow_succ,Int.pow_add 18446744073709551616 3 i,hw',<- hw3] at h
   rw [hl,Int.pow_add 18446744073709551616 3 i,<- hw3]
   exact Zza _ _ _ _ _ _ _ _ _ (Int.mul_ediv_add_emod (p.getD (3+i) 0) 1152921504606846976) h
  by_cases h:3+i+1<p.length
  ·obtain ⟨l',e,h1,h2,h3⟩:=ih n (i+1) (l ++ [Z4 .or .u64 (Zq .u64 (p.getD (3+i) 0) 60) (Zj .u64 (p.getD (3+i+1) 0) 4)]) (by omega) (by simp; omega) (Znz hw (Zo0 (Znc _ _)))
   refine ⟨l',?_,by omega,h2,fin _ _ (Zxj (hp _) (hp _)) h3⟩
   rw [<- Nat.add_assoc,Z1l,Z2v,Z0n hbr,Zp (Z0i (by omega) (by omega))]
   simp only [Zb,e2,Z17,Int.toNat_natCast,e3]
   rw [Z0n (by simp; omega),Zp (Z0i (by omega) (by omega))]
   rw [Zp (by simp; omega)]
   exact e
  ·obtain ⟨l',e,h1,h2,h3⟩:=ih n (i+1) (l ++ [Zq .u64 (p.getD (3+i) 0) 60]) (by omega) (by simp; omega) (Znz hw (Zo0 hs))
   have e0:p.getD (3+i+1) 0=0:=by simp [List.getD_eq_getElem?_getD,List.getElem?_eq_none (show p.length<=3+i+1 by omega)]
   refine ⟨l',?_,by omega,h2,fin _ _ (by rw [e0,Zuj]; omega) h3⟩
   rw [<- Nat.add_assoc,Z1l,Z2v,Z0n hbr,Zp (Z0i (by omega) (by omega))]
   simp only [Zb,e2,Z17,Int.toNat_natCast]
   rw [Z08 (by simp; omega)]
   rw [Zp (by simp; omega)]
   exact e
end Go.Proofs.YtiflckckekjbnaaGreatDoor
namespace Go.Proofs.YtiflckckekjbnaaGreatDoor
open Go Go.Sx Go.RowKit
open List (replicate)
set_option linter.all false
set_option maxRecDepth 100000
theorem Zds {l:LI} {i:Nat} (h:l.length<=i):l.getD i 0=0:=by simp [List.getD_eq_getElem?_getD,List.getElem?_eq_none h]
theorem Zy1 {l:LI} {n:Nat} (h:l.length<=n):pV l n=pV l l.length:=Zy3 (fun t ht=>Zds ht) n h
theorem Zzc {p:LI} (hp:W64 p) (hb:p.length<1000000) : ∃ a h,Z62 p=some (a,h)/\W64 a/\W64 h/\h.length=p.length-3 /\
  V4 a=pV p p.length%7237005577332262213973186563042994240829374041602535252466099000494570602496/\pV h h.length=pV p p.length / 7237005577332262213973186563042994240829374041602535252466099000494570602496:=by
 obtain ⟨n,hn⟩ : ∃ n',big=n'+1+(p.length-3):=⟨18446744073709551615-(p.length-3),by have:big=18446744073709551616:=Z25; omega⟩
 have hw0g : ∀ i,(wr (replicate 4 0) 0 (p.take 4)).getD i 0=if i<4 then p.getD i 0 else 0:=by
  intro i
  rw [Zmg]
  have hr:(replicate 4 (0:Int)).getD i 0=0:=by
   match i with
   | 0=>rfl
   | 1=>rfl
   | 2=>rfl
   | 3=>rfl
   | i+4=>rfl
  by_cases h:0<=i/\i<0+(p.take 4).length
  ·rw [if_pos h]
   simp only [List.length_take] at h
   have h4':i<4:=by omega
   rw [if_pos h4']
   simp [List.getD_eq_getElem?_getD,List.getElem?_take,h4']
  ·rw [if_neg h,hr]
   simp only [List.length_take] at h
   split
   ·rw [Zds (by omega)]
   ·rfl
 have hw0:W64 (wr (replicate 4 0) 0 (p.take 4)):=by
  intro i
  rw [hw0g]
  split
  ·exact hp i
  ·decide
 have hmask:Z4 .and .u64 ((wr (replicate 4 0) 0 (p.take 4)).getD 3 0) 1152921504606846975=p.getD 3 0%1152921504606846976:=by
  rw [hw0g,if_pos (by decide)]
  exact Zik 60 (by decide) (by decide) (hp 3).1 (hp 3).2
 have hlow:V4 (Z2z (wr (replicate 4 0) 0 (p.take 4)) 3 (Z4 .and .u64 ((wr (replicate 4 0) 0 (p.take 4)).getD 3 0) 1152921504606846975))=p.getD 0 0+p.getD 1 0*18446744073709551616+p.getD 2 0*340282366920938463463374607431768211456+(p.getD 3 0%1152921504606846976)*6277101735386680763835789423207666416102355444464034512896:=by
  unfold V4
  rw [hmask]
  simp only [Z1k,hw0g]
  simp
 have h3:pV p 3=p.getD 0 0+p.getD 1 0*18446744073709551616+p.getD 2 0*340282366920938463463374607431768211456:=by
  simp only [pV]
  omega
 have hr0:=hp 0
 have hr1:=hp 1
 have hr2:=hp 2
 have hr3:=hp 3
 by_cases hlen:3<=p.length
 ·obtain ⟨l',e,h1,h2,h4⟩:=Zsr hp hb (k:=fun l128=>some (Z2z (wr (replicate 4 0) 0 (p.take 4)) 3 (Z4 .and .u64 ((wr (replicate 4 0) 0 (p.take 4)).getD 3 0) 1152921504606846975),l128)) (p.length-3) n 0 [] (by omega) rfl (Z51 0)
  refine ⟨(Z2z (wr (replicate 4 0) 0 (p.take 4)) 3 (Z4 .and .u64 ((wr (replicate 4 0) 0 (p.take 4)).getD 3 0) 1152921504606846975)),l',?_,Zbc hw0 (Zrn _ _),h2,by omega,?_⟩
  ·simp only [Z62,Zb,Z17]
   rw [hn]
   exact e
  ·rw [hlow]
   rw [Nat.add_zero,h3] at h4
   have e0:pV ([]:LI) ([]:LI).length=0:=rfl
   have e3:(18446744073709551616:Int)^3=6277101735386680763835789423207666416102355444464034512896:=by decide
   rw [e0,e3] at h4
   generalize pV p p.length=X at *
   generalize pV l' l'.length=Y at *
   omega
 ·have e3:p.getD 3 0=0:=Zds (by omega)
  have hx:pV p p.length=pV p 3:=(Zy1 (by omega)).symm
  refine ⟨(Z2z (wr (replicate 4 0) 0 (p.take 4)) 3 (Z4 .and .u64 ((wr (replicate 4 0) 0 (p.take 4)).getD 3 0) 1152921504606846975)),[],?_,Zbc hw0 (Zrn _ _),Z51 0,by simp; omega,?_⟩
  ·simp only [Z62,Zb,Z17]
   rw [hn,show p.length-3=0 by omega,Nat.add_zero,Z1l,Z2v,Z08 (by simp; omega)]
  ·rw [hlow,hx,h3,e3]
   have e0:pV ([]:LI) ([]:LI).length=0:=rfl
   rw [e0]
   omega
theorem Zb4 {l:LI} (n:Nat) {i:Nat} {a:List (LI)} (hi:i<4) (hl:W64 l) (hb:l.length<1000) (ha : ∀ i,W64 (a.getD i (replicate 4 0)))
  (hs:V4 (a.getD (i%2) (replicate 4 0))+pV l l.length%7237005577332262213973186563042994240829374041602535252466099000494570602496<B4) :
  ∃ l' a',(∀ k:List (LI)->Option (LI),Z1j k (n+1) l (i:Int) a=Z1j k n l' ((i+1:Nat):Int) a')/\W64 l'/\l'.length=l.length-3+2/\(∀ i,W64 (a'.getD i (replicate 4 0))) /\
   pV l' l'.length=pV l l.length / 7237005577332262213973186563042994240829374041602535252466099000494570602496*27742317777372353535851937790883648493 /\
   V4 (a'.getD (i%2) (replicate 4 0))=V4 (a.getD (i%2) (replicate 4 0))+pV l l.length%7237005577332262213973186563042994240829374041602535252466099000494570602496 /\
   (∀ j,j≠i%2->a'.getD j (replicate 4 0)=a.getD j (replicate 4 0)):=by
 obtain ⟨lo,h,e,w1,w2,w3,v1,v2⟩:=Zzc hl (by omega)
 obtain ⟨s,c,e2,ws,hc,vs⟩:=Zix (ha (i%2)) w1
 obtain ⟨t,e3,l3,wt,vt⟩:=Zzm w2 Zt5 (by simp; omega)
 have em:Int.tmod (i:Int) 2=((i%2:Nat):Int):=by rw [Int.tmod_eq_emod_of_nonneg (by omega)]; omega
 have e1:IntKind.wrap .i64 ((i:Int)+1)=((i+1:Nat):Int):=by rw [Zl (by omega) (by omega)]; rfl
 refine ⟨t,Zdn (replicate 4 0) a (i%2) s,?_,wt,by rw [l3,w3]; rfl,?_,?_,?_,?_⟩
 ·intro k
  rw [Z1j,Z49,Z0n (by simp; omega),Z3 e]
  simp only [Zb,em,e1,Int.toNat_natCast]
  rw [Zp (Z0i (by omega) (by omega)),Z3 e2,Zp (Z0i (by omega) (by omega)),Zbv,Z3 rfl,Z3 e3]
 ·intro j
  rw [Z4d]
  split
  ·exact ws
  ·exact ha j
 ·rw [vt,v2]; rfl
 ·rw [Z4d,if_pos rfl]
  have hr:=Ze7 ws
  have hr2:=Ze7 (ha (i%2))
  rw [<- v1] at hs ⊢
  have hc0:c=0:=by
   unfold B4 at *
   rcases hc with h | h
   ·exact h
   ·exfalso; subst h; omega
  rw [vs,hc0]; omega
 ·intro j hj
  rw [Z4d,if_neg hj]
theorem Zt4:V4 (replicate 4 0)=0:=by decide
theorem Zvg {p:LI} (hp:W64 p) (h8:p.length<=8) : ∃ r,Z6a p=some r/\W64 r/\V4 r=pV p p.length%VL:=by
 obtain ⟨n,hn⟩ : ∃ n,big=n+1+1+1+1+1:=⟨18446744073709551611,Z25⟩
 rw [Z6a,Z17,hn]
 have ha0 : ∀ i,(replicate 2 (replicate 4 0):List (LI)).getD i (replicate 4 0)=replicate 4 0:=by
  intro i
  match i with
  | 0=>rfl
  | 1=>rfl
  | i+2=>rfl
 have hX:=Z03m hp 8
 rw [Zy1 h8] at hX
 have e8:(18446744073709551616:Int)^8=13407807929942597099574024998205846127479365820592393377723561443721764030073546976801874298166903427690031858186486050853753882811946569946433649006084096:=by decide
 rw [e8] at hX
 obtain ⟨l1,a1,f1,w1,n1,h1,x1,s1,o1⟩:=Zb4 (n+1+1+1+1) (i:=0) (l:=p) (a:=replicate 2 (replicate 4 0)) (by decide) hp (by omega) (by intro i; rw [ha0]; exact Z51 4) (by
  rw [ha0,Zt4]
  generalize pV p p.length=X at *
  unfold B4
  omega)
 rw [ha0,Zt4] at s1
 have t1:=o1 1 (by decide)
 rw [ha0] at t1
 obtain ⟨l2,a2,f2,w2,n2,h2,x2,s2,o2⟩:=Zb4 (n+1+1+1) (i:=1) (by decide) w1 (by omega) h1 (by
  rw [t1,Zt4]
  generalize pV l1 l1.length=X at *
  unfold B4
  omega)
 rw [t1,Zt4] at s2
 have t2:=o2 0 (by decide)
 obtain ⟨l3,a3,f3,w3,n3,h3,x3,s3,o3⟩:=Zb4 (n+1+1) (i:=2) (by decide) w2 (by omega) h2 (by
  have e:a2.getD (2%2) (replicate 4 0)=a1.getD 0 (replicate 4 0):=t2
  have s1':V4 (a1.getD 0 (replicate 4 0))=_:=s1
  rw [e,s1']
  generalize pV p p.length=X at *
  generalize pV l2 l2.length=Y at *
  unfold B4
  omega)
 have t3:=o3 1 (by decide)
 obtain ⟨l4,a4,f4,w4,n4,h4,x4,s4,o4⟩:=Zb4 (n+1) (i:=3) (by decide) w3 (by omega) h3 (by
  have e:a3.getD (3%2) (replicate 4 0)=a2.getD 1 (replicate 4 0):=t3
  have s2':V4 (a2.getD 1 (replicate 4 0))=_:=s2
  rw [e,s2']
  generalize pV l1 l1.length=X at *
  generalize pV l3 l3.length=Y at *
  unfold B4
  omega)
 have t4:=o4 0 (by decide)
 have v0:V4 (a4.getD 0 (replicate 4 0))=pV p p.length%7237005577332262213973186563042994240829374041602535252466099000494570602496+pV l2 l2.length%7237005577332262213973186563042994240829374041602535252466099000494570602496:=by
  have s3':V4 (a3.getD 0 (replicate 4 0))=V4 (a2.getD 0 (replicate 4 0))+_:=s3
  have s1':V4 (a1.getD 0 (replicate 4 0))=_:=s1
  rw [t4,s3',t2,s1']
  omega
 have v1:V4 (a4.getD 1 (replicate 4 0))=pV l1 l1.length%7237005577332262213973186563042994240829374041602535252466099000494570602496+pV l3 l3.length%7237005577332262213973186563042994240829374041602535252466099000494570602496:=by
  have s4':V4 (a4.getD 1 (replicate 4 0))=V4 (a3.getD 1 (replicate 4 0))+_:=s4
  have s2':V4 (a2.getD 1 (replicate 4 0))=_:=s2
  rw [s4',t3,s2']
  omega
 obtain ⟨g1,c1,q1,z1,hc1,y1⟩:=Zix Zbb Zbb
 obtain ⟨g2,c2,q2,z2,hc2,y2⟩:=Zix (h4 0) z1
 obtain ⟨g3,c3,q3,z3,hc3,y3⟩:=Zhs z2 (h4 1)
 obtain ⟨r,q4,z4,y4⟩:=Zt8 z3
 refine ⟨r,?_,z4,?_⟩
 ·refine (f1 _).trans ((f2 _).trans ((f3 _).trans ((f4 _).trans ?_)))
  rw [Z1j,Z49,Z08 (by decide),Z3 q1,Zb,Z3 q2,Zb,Z3 q3,Z3 q4]
 ·have r1:=Ze7 z1
  have r2:=Ze7 z2
  have r3:=Ze7 z3
  rw [y4]
  rw [Zny] at y1
  rw [v0] at y2
  rw [v1] at y3
  generalize V4 g1=G1 at *
  generalize V4 g2=G2 at *
  generalize V4 g3=G3 at *
  generalize pV p p.length=X at *
  generalize pV l1 l1.length=X1 at *
  generalize pV l2 l2.length=X2 at *
  generalize pV l3 l3.length=X3 at *
  clear f1 f2 f3 f4 q1 q2 q3 q4 e8
  unfold VL at *
  unfold B4 at *
  have k1:c1=0:=by rcases hc1 with h | h <;> omega
  subst k1
  have b1:X1<51397454971639728862728594851412511588645886491167898648663828096174877345658614143171087801555262538602929264263168:=by omega
  have b2:X2<197026866089141791222560432227205258386878298291626920115022677913390379788544:=by omega
  have b3:X3<776784897766425899003854258144742157804:=by omega
  have k2:c2=0:=by rcases hc2 with h | h <;> omega
  subst k2
  have k3:c3=0:=by rcases hc3 with h | h <;> omega
  subst k3
  have e:G3=X-7237005577332262213973186563042994240857116359379907606001950938285454250989*(X / 7237005577332262213973186563042994240829374041602535252466099000494570602496-X1 / 7237005577332262213973186563042994240829374041602535252466099000494570602496+X2 / 7237005577332262213973186563042994240829374041602535252466099000494570602496-2):=by omega
  rw [e,Int.sub_mul_emod_self_left]
end Go.Proofs.YtiflckckekjbnaaGreatDoor
namespace Go.Proofs.YtiflckckekjbnaaGreatDoor
set_option linter.all false
set_option maxRecDepth 100000
def Prm (n:Nat):Prop:=2<=n /\ ∀ d,d∣n->d=1∨d=n
theorem Z03n (n:Nat) : ∀ (m:Nat) (f:Nat->Nat),(∀ i,i<n->f i<m)->(∀ i j,i<n->j<n->f i=f j->i=j)->n<=m:=by
 induction n with
 | zero=>intros; omega
 | succ n ih =>
  intro m f h1 h2
  have hm:=h1 n (by omega)
  have:=ih (m-1) (fun i=>if f i=m-1 then f n else f i) (by
   intro i hi
   have a1:=h1 i (by omega)
   have a2:f i≠f n:=fun e=>by have:=h2 i n (by omega) (by omega) e; omega
   split <;> omega) (by
   intro i j hi hj e
   have a1:f i≠f n:=fun e=>by have:=h2 i n (by omega) (by omega) e; omega
   have a2:f j≠f n:=fun e=>by have:=h2 j n (by omega) (by omega) e; omega
   split at e <;> split at e
   ·rename_i x y; exact h2 i j (by omega) (by omega) (x.trans y.symm)
   ·exact absurd e.symm a2
   ·exact absurd e a1
   ·exact h2 i j (by omega) (by omega) e)
  omega
theorem surj {n:Nat} {f:Nat->Nat} (h1 : ∀ i,i<n->f i<n) (h2 : ∀ i j,i<n->j<n->f i=f j->i=j) {v:Nat} (hv:v<n) : ∃ i,i<n/\f i=v:=by
 false_or_by_contra
 rename_i hc
 have hc : ∀ i,i<n->f i≠v:=fun i hi e=>hc ⟨i,hi,e⟩
 have:=Z03n (n+1) n (fun i=>if i=n then v else f i) (by
  intro i hi
  split
  ·exact hv
  ·exact h1 i (by omega)) (by
  intro i j hi hj e
  split at e <;> split at e
  ·omega
  ·exact absurd e.symm (hc j (by omega))
  ·exact absurd e (hc i (by omega))
  ·exact h2 i j (by omega) (by omega) e)
 omega
theorem Zkp {a n e:Nat}:(a%n)^e%n=a^e%n:=by rw [<- Nat.pow_mod]
def One (a m k:Nat):Prop:=a^k%m=1%m
theorem One.mul {a m k:Nat} (h:One a m k) (l:Nat):One a m (k*l):=by
 unfold One at *
 rw [Nat.pow_mul,Nat.pow_mod,h,<- Nat.pow_mod,Nat.one_pow]
theorem One.rest {a m k l:Nat} (h:One a m k) (h2:One a m l):One a m (k%l):=by
 have h3:=h2.mul (k / l)
 unfold One at *
 have e:k=l*(k / l)+k%l:=(Nat.div_add_mod k l).symm
 rw [e,Nat.pow_add,Nat.mul_mod,h3,<- Nat.mul_mod,Nat.one_mul] at h
 exact h
theorem One.gcd {a m:Nat} (k:Nat) : ∀ l,One a m k->One a m l->One a m (Nat.gcd k l):=by
 induction k using Nat.strongRecOn with
 | ind k ih =>
  intro l h h2
  by_cases hk:k=0
  ·subst hk; rw [Nat.gcd_zero_left]; exact h2
  ·rw [Nat.gcd_rec]
   exact ih (l%k) (Nat.mod_lt _ (by omega)) k (h2.rest h) h
def Zsd:List Nat->Nat
 | []=>1
 | r::rs=>r*Zsd rs
theorem Zu5 {m:Nat} (hm:1<m) : ∀ (rs:List Nat),(∀ r∈rs,Prm r)->m∣Zsd rs->∃ r,r∈rs/\r∣m
 | [],_,h=>by
  have:=Nat.le_of_dvd (by decide) h
  simp [Zsd] at this
  omega
 | r::rs,hp,h=>by
  have hr:=hp r List.mem_cons_self
  rcases hr.2 (Nat.gcd m r) (Nat.gcd_dvd_right m r) with h1 | h1
  ·have h2:m∣Zsd rs:=Nat.Coprime.dvd_of_dvd_mul_left h1 h
   obtain ⟨s,hs,hd⟩:=Zu5 hm rs (fun x hx=>hp x (List.mem_cons_of_mem _ hx)) h2
   exact ⟨s,List.mem_cons_of_mem _ hs,hd⟩
  ·exact ⟨r,List.mem_cons_self,by rw [<- h1]; exact Nat.gcd_dvd_left m r⟩
theorem Zu0 {a m n:Nat} {rs:List Nat} (hp : ∀ r∈rs,Prm r) (hn:Zsd rs=n) (h0:0<n) (h1:One a m n) (hr : ∀ r∈rs,¬ One a m (n / r)) {k:Nat} (hk:0<k) (hkn:k<n) : ¬ One a m k:=by
 intro h
 have hg:=One.gcd k n h h1
 have hd:Nat.gcd k n∣n:=Nat.gcd_dvd_right k n
 have hle:Nat.gcd k n<=k:=Nat.le_of_dvd hk (Nat.gcd_dvd_left k n)
 obtain ⟨q,hq⟩:=hd
 generalize Nat.gcd k n=g at *
 have hq1:1<q:=by
  rcases Nat.lt_or_ge 1 q with h | h
  ·exact h
  ·have:g*q<=g*1:=Nat.mul_le_mul_left g h
   omega
 obtain ⟨r,hrm,s,hs⟩:=Zu5 hq1 rs hp (by rw [hn,hq]; exact Nat.dvd_mul_left q g)
 have hr0:0<r:=by have:=(hp r hrm).1; omega
 apply hr r hrm
 have e:n / r=g*s:=by
  rw [hq,hs,<- Nat.mul_assoc,Nat.mul_comm g r,Nat.mul_assoc,Nat.mul_div_cancel_left _ hr0]
 rw [e]
 exact hg.mul s
theorem Znd {a m n:Nat} (h1:One a m n) (ho : ∀ k,0<k->k<n->¬ One a m k) {i j:Nat} (hi:i<n) (hj:j<n) (e:a^i%m=a^j%m):i=j:=by
 have key : ∀ i j,i<j->j<n->a^i%m=a^j%m->False:=by
  intro i j hij hj e
  apply ho (j-i) (by omega) (by omega)
  have e2:a^(n-i)*a^i%m=a^(n-i)*a^j%m:=by rw [Nat.mul_mod,e,<- Nat.mul_mod]
  rw [<- Nat.pow_add,<- Nat.pow_add,show n-i+i=n by omega,show n-i+j=n+(j-i) by omega] at e2
  unfold One at h1 ⊢
  rw [h1,Nat.pow_add,Nat.mul_mod,h1,<- Nat.mul_mod,Nat.one_mul] at e2
  exact e2.symm
 rcases Nat.lt_trichotomy i j with h | h | h
 ·exact (key i j h hj e).elim
 ·exact h
 ·exact (key j i h hi e.symm).elim
theorem One.dvd {a m l k:Nat} (h:One a m k) (hl:l∣m):One a l k:=by
 unfold One at *
 obtain ⟨q,rfl⟩:=hl
 have:=congrArg (· % l) h
 simpa [Nat.mod_mul_right_mod] using this
theorem pock {n F c:Nat} {rs:List Nat} (h2:2<=n) (hp : ∀ r∈rs,Prm r) (hF:Zsd rs=F) (hF0:0<F) (hFn:n<F*F) (h1:One c n F) (hr : ∀ r∈rs,Nat.gcd (c^(F / r)%n+(n-1)) n=1):Prm n:=by
 have key : ∀ l,l∣n->2<=l->F<=l:=by
  intro l hl h2l
  have h1l:=h1.dvd hl
  have hol : ∀ k,0<k->k<F->¬ One c l k:=fun k hk hkF=>Zu0 hp hF hF0 h1l (fun r hrm hone=>by
   have hg:=hr r hrm
   have hd:l∣c^(F / r)%n+(n-1):=by
    unfold One at hone
    have e1:c^(F / r)%n%l=1%l:=by
     obtain ⟨q,rfl⟩:=hl
     rw [Nat.mod_mul_right_mod]; exact hone
    obtain ⟨q,rfl⟩:=hl
    apply Nat.dvd_of_mod_eq_zero
    rw [Nat.add_mod,e1,<- Nat.add_mod,show 1+(l*q-1)=l*q by omega,Nat.mul_mod_right]
   have:=Nat.dvd_gcd hd hl
   rw [hg] at this
   have:=Nat.le_of_dvd (by decide) this
   omega) hk hkF
  exact Z03n F l (fun i=>c^i%l) (fun i _=>Nat.mod_lt _ (by omega)) (fun i j hi hj e=>Znd h1l hol hi hj e)
 refine ⟨h2,fun d hd=>?_⟩
 obtain ⟨q,hq⟩:=hd
 by_cases hd1:d=1
 ·exact .inl hd1
 by_cases hq1:q=1
 ·subst hq1; exact .inr (by omega)
 exfalso
 have hd0:d≠0:=fun h=>by subst h; simp at hq; omega
 have hq0:q≠0:=fun h=>by subst h; simp at hq; omega
 have a1:=key d ⟨q,hq⟩ (by omega)
 have a2:=key q ⟨d,by rw [hq,Nat.mul_comm]⟩ (by omega)
 have:=Nat.mul_le_mul a1 a2
 omega
def pm (m:Nat):Nat->Nat->Nat->Nat->Nat
  | 0,_,_,acc=>acc
  | f+1,a,e,acc=>pm m f (a*a%m) (e / 2) (if e%2=0 then acc else acc*a%m)
theorem Z06a (m f:Nat) : ∀ (a e acc:Nat),e<2^f->pm m f a e acc%m=acc*a^e%m:=by
  induction f with
  | zero => intro a e acc h; have : e = 0 := by simpa using h
            subst this; simp [pm]
  | succ f ih =>
    intro a e acc h
    have h2:e / 2<2^f:=by rw [Nat.pow_succ] at h; omega
    rw [pm,ih _ _ _ h2]
    have e1:e=2*(e / 2)+e%2:=(Nat.div_add_mod e 2).symm
    have e2:(a*a%m)^(e / 2)%m=a^(2*(e / 2))%m:=by rw [<- Nat.pow_mod,<- Nat.pow_two,<- Nat.pow_mul]
    by_cases hz:e%2=0
    · rw [if_pos hz,Nat.mul_mod,e2,<- Nat.mul_mod,show 2*(e / 2)=e by omega]
    · have e3:a^e=a*a^(2*(e / 2)):=by
        conv=>lhs; rw [e1,show e%2=1 by omega,Nat.pow_succ,Nat.mul_comm]
      rw [if_neg hz,Nat.mul_mod,e2,Nat.mod_mod,<- Nat.mul_mod,e3,Nat.mul_assoc]
theorem Z03l {a m e:Nat} (f:Nat) (h:e<2^f) (h1:(pm m f a e 1%m==1%m)=true):One a m e:=by
  have:=Z06a m f a e 1 h
  unfold One
  rw [Nat.one_mul] at this
  rw [<- this]
  simpa using h1
def chkP (n F c:Nat) (rs:List Nat):Bool :=
  Nat.ble 2 n&&(Zsd rs==F)&&Nat.ble 1 F&&Nat.blt n (F*F)&&Nat.blt F (2^256)&&(pm n 256 c F 1%n==1%n)&&rs.all fun r=>Nat.blt (F / r) (2^256)&&Nat.gcd (pm n 256 c (F / r) 1%n+(n-1)) n==1
theorem Zq9 {n F c:Nat} {rs:List Nat} (hp : ∀ r∈rs,Prm r) (h:chkP n F c rs=true):Prm n:=by
  unfold chkP at h
  simp only [Bool.and_eq_true,List.all_eq_true] at h
  obtain ⟨⟨⟨⟨⟨⟨h1,h2⟩,h3⟩,h4⟩,h5⟩,h6⟩,h7⟩:=h
  refine pock (F:=F) (c:=c) (rs:=rs) (Nat.le_of_ble_eq_true h1) hp (by simpa using h2) (Nat.le_of_ble_eq_true h3) (Nat.le_of_ble_eq_true h4) (Z03l 256 (Nat.le_of_ble_eq_true h5) h6) ?_
  intro r hr
  obtain ⟨a1,a2⟩:=h7 r hr
  have:=Z06a n 256 c (F / r) 1 (Nat.le_of_ble_eq_true a1)
  rw [Nat.one_mul] at this
  rw [<- this]
  simpa using a2
def tryD (n:Nat):Nat->Nat->Bool
  | 0,_=>true
  | f+1,d => !(n%d==0)&&tryD n f (d+1)
theorem Z07t (n f:Nat) : ∀ d,tryD n f d=true->∀ i,i<f->n%(d+i)≠0:=by
  induction f with
  | zero=>intros; omega
  | succ f ih =>
    intro d h i hi
    simp only [tryD,Bool.and_eq_true] at h
    cases i with
    | zero=>simpa using h.1
    | succ i=>have:=ih (d+1) h.2 i (by omega); rwa [show d+(i+1)=d+1+i by omega]
theorem Zai (n f:Nat) (h:(Nat.ble 2 n&&tryD n f 2&&Nat.blt n ((f+2)*(f+2)))=true):Prm n:=by
  simp only [Bool.and_eq_true] at h
  obtain ⟨⟨h1,h2⟩,h3⟩:=h
  have h1:=Nat.le_of_ble_eq_true h1
  have h3:n<(f+2)*(f+2):=Nat.le_of_ble_eq_true h3
  have key : ∀ d,2<=d->d<f+2->¬ d∣n:=fun d a b hd=>by
    have:=Z07t n f 2 h2 (d-2) (by omega)
    rw [show 2+(d-2)=d by omega] at this
    exact this (Nat.mod_eq_zero_of_dvd hd)
  refine ⟨h1,fun d hd=>?_⟩
  obtain ⟨q,hq⟩:=hd
  by_cases hd1:d=1
  · exact .inl hd1
  by_cases hq1:q=1
  · subst hq1; exact .inr (by omega)
  exfalso
  have hd0:d≠0:=fun h=>by subst h; simp at hq; omega
  have hq0:q≠0:=fun h=>by subst h; simp at hq; omega
  have a1:f+2<=d:=by
    rcases Nat.lt_or_ge d (f+2) with h | h
    · exact absurd ⟨q,hq⟩ (key d (by omega) h)
    · exact h
  have a2:f+2<=q:=by
    rcases Nat.lt_or_ge q (f+2) with h | h
    · exact absurd ⟨d,by rw [hq,Nat.mul_comm]⟩ (key q (by omega) h)
    · exact h
  have:=Nat.mul_le_mul a1 a2
  omega
theorem Z04j {P:Nat->Prop} {a:Nat} (h:P a) : ∀ r ∈ [a],P r:=by intro r hr; rw [List.mem_singleton] at hr; subst hr; exact h
theorem Zo2 {P:Nat->Prop} {a b:Nat} (h:P a) (h2:P b) : ∀ r ∈ [a,b],P r:=by
  intro r hr
  simp only [List.mem_cons,List.not_mem_nil,or_false] at hr
  rcases hr with rfl | rfl
  · exact h
  · exact h2
theorem Zmq:Prm 2773320623:=Zai 2773320623 52662 (by decide +kernel)
theorem Zlg:Prm 72106336199:=Zq9 (F:=2773320623) (c:=67108864) (rs:=[2773320623]) (Z04j Zmq) (by decide +kernel)
theorem Zsc:Prm 8574133:=Zai 8574133 2928 (by decide +kernel)
theorem Z06b:Prm 127:=Zai 127 11 (by decide +kernel)
theorem Zgm:Prm 1919519569386763:=Zq9 (F:=1088914891) (c:=354538099852037) (rs:=[8574133,127]) (Zo2 Zsc Z06b) (by decide +kernel)
theorem Zva:Prm 430751:=Zai 430751 656 (by decide +kernel)
theorem Z01q:Prm 4153:=Zai 4153 64 (by decide +kernel)
theorem Zf6:Prm 31757755568855353:=Zq9 (F:=1788908903) (c:=26222887164197666) (rs:=[430751,4153]) (Zo2 Zva Z01q) (by decide +kernel)
theorem Z71:Prm 75445702479781427272750846543864801:=Zq9 (F:=138409523410761641138333837) (c:=23520671056837248616447561120497838) (rs:=[1919519569386763,72106336199]) (Zo2 Zgm Zlg) (by decide +kernel)
theorem Z2f:Prm 74058212732561358302231226437062788676166966415465897661863160754340907:=Zq9 (F:=2395986178073482737347378734667165195040796357129753) (c:=32917242187670345156894797748588826076355976820526874250530785709567478) (rs:=[75445702479781427272750846543864801,31757755568855353]) (Zo2 Z71 Zf6) (by decide +kernel)
abbrev pN:Nat:=57896044618658097711785492504343953926634992332820282019728792003956564819949
abbrev qN:Nat:=74058212732561358302231226437062788676166966415465897661863160754340907
theorem Z0en:Prm 2:=Zai 2 0 (by decide +kernel)
theorem Z0oz:Prm 3:=Zai 3 1 (by decide +kernel)
theorem Zy7:Prm 65147:=Zai 65147 255 (by decide +kernel)
theorem Zxy {a m e:Nat} (f:Nat) (h:e<2^f) (h1:(pm m f a e 1%m==1%m)=false) : ¬ One a m e:=by
 have:=Z06a m f a e 1 h
 intro h2
 unfold One at h2
 rw [Nat.one_mul,h2] at this
 rw [this] at h1
 simp at h1
theorem Zia:One 2 pN (pN-1):=Z03l 256 (by decide +kernel) (by decide +kernel)
theorem Zvl {k:Nat} (hk:0<k) (hk2:k<pN-1) : ¬ One 2 pN k:=by
 refine Zu0 (rs:=[2,2,3,65147,qN]) ?_ (by decide +kernel) (by decide +kernel) Zia ?_ hk hk2
 ·intro r hr
  simp only [List.mem_cons,List.not_mem_nil,or_false] at hr
  rcases hr with rfl | rfl | rfl | rfl | rfl
  ·exact Z0en
  ·exact Z0en
  ·exact Z0oz
  ·exact Zy7
  ·exact Z2f
 ·intro r hr
  simp only [List.mem_cons,List.not_mem_nil,or_false] at hr
  rcases hr with rfl | rfl | rfl | rfl | rfl
  all_goals exact Zxy 256 (by decide +kernel) (by decide +kernel)
theorem Zp2 {i:Nat} (hi:i<pN-1):2^i%pN≠0:=by
 intro h
 have h1:=Zia
 unfold One at h1
 rw [show pN-1=i+(pN-1-i) by omega,Nat.pow_add,Nat.mul_mod,h,Nat.zero_mul,Nat.zero_mod] at h1
 exact absurd h1 (by decide +kernel)
theorem Z02b {a:Nat} (ha:a%pN≠0) : ∃ i,i<pN-1/\2^i%pN=a%pN:=by
 have hlt : ∀ x,x%pN<pN:=fun x=>Nat.mod_lt _ (by decide +kernel)
 obtain ⟨i,hi,e⟩:=surj (n:=pN-1) (f:=fun i=>2^i%pN-1) (fun i hi=>by
  have:=hlt (2^i)
  have:=Zp2 hi
  omega) (fun i j hi hj e=>by
  have:=Zp2 hi
  have:=Zp2 hj
  exact Znd Zia (fun k a b=>Zvl a b) hi hj (by omega)) (v:=a%pN-1) (by have:=hlt a; omega)
 refine ⟨i,hi,?_⟩
 have:=Zp2 hi
 omega
theorem Zx4 {a:Nat} (ha:a%pN≠0):One a pN (pN-1):=by
 obtain ⟨i,_,e⟩:=Z02b ha
 have h:=Zia.mul i
 unfold One at h ⊢
 rw [<- Zkp,<- e,Zkp,<- Nat.pow_mul,Nat.mul_comm]
 exact h
theorem Z05u {a:Nat} (ha:a%pN≠0):a*a^(pN-2)%pN=1:=by
 have h:=Zx4 ha
 unfold One at h
 rw [show pN-1=(pN-2)+1 by decide +kernel,Nat.pow_succ,Nat.mul_comm] at h
 rw [h]
 decide +kernel
theorem Z060 {d:Nat} (hd:(pm pN 256 d ((pN-1) / 2) 1%pN==1%pN)=false) (x:Nat) (hx:x%pN≠0):x*x%pN≠d%pN:=by
 intro e
 refine Zxy 256 (by decide +kernel) hd ?_
 have h:=Zx4 hx
 unfold One at h ⊢
 rw [<- Zkp,<- e,Zkp,<- Nat.pow_two,<- Nat.pow_mul,show 2*((pN-1) / 2)=pN-1 by decide +kernel]
 exact h
abbrev dN:Nat:=37095705934669439343138083508754565189542113879843219016388785533085940283555
theorem Zwv (x:Nat) (hx:x%pN≠0):x*x%pN≠dN%pN:=Z060 (by decide +kernel) x hx
abbrev F:=Fin pN
theorem Zw7 (a:F) (ha:a≠0) : ∃ i:F,a*i=1:=by
 have h0:a.val%pN≠0:=by
  intro h
  apply ha
  rw [Nat.mod_eq_of_lt a.isLt] at h
  exact Fin.ext h
 have h:=Z05u h0
 refine ⟨⟨a.val^(pN-2)%pN,Nat.mod_lt _ (by decide +kernel)⟩,Fin.ext ?_⟩
 rw [Fin.val_mul]
 show a.val*(a.val^(pN-2)%pN)%pN=_
 generalize a.val^(pN-2)=z at *
 rw [Nat.mul_mod,Nat.mod_mod,<- Nat.mul_mod,h]
 decide +kernel
theorem Zdo {a b:F} (h:a*b=0):a=0∨b=0:=by
 by_cases ha:a=0
 ·exact .inl ha
 ·obtain ⟨i,hi⟩:=Zw7 a ha
  exact .inr (by grind -lia -linarith (splits:=0))
def dF:F:=⟨dN,by decide +kernel⟩
def iF:F:=⟨19681161376707505956807079304988542015446066515923890162744021073123829784752,by decide +kernel⟩
theorem Z094:iF*iF+1=0:=by decide +kernel
theorem Zpk (s t:F) (h:s*s=dF*(t*t)):t=0:=by
 false_or_by_contra
 rename_i ht
 obtain ⟨i,hi⟩:=Zw7 t ht
 have hx:(s*i)*(s*i)=dF:=by grind -lia -linarith (splits:=0)
 have h1:(s*i).val*(s*i).val%pN=dN%pN:=by
  have:=congrArg Fin.val hx
  rw [Fin.val_mul] at this
  rw [this]
  decide +kernel
 by_cases hz:(s*i).val%pN=0
 ·rw [Nat.mul_mod,hz] at h1
  exact absurd h1 (by decide +kernel)
 ·exact Zwv _ hz h1
structure On (x y:F):Prop where
 eq:y*y-x*x=1+dF*x*x*y*y
theorem Z0j0 (a:F) (h:a+a=0):a=0:=by
 obtain ⟨i,hi⟩:=Zw7 2 (by decide +kernel)
 grind -lia -linarith (splits:=0)
theorem Z036 {x1 y1 x2 y2:F} (h1:On x1 y1) (h2:On x2 y2):dF*x1*x2*y1*y2*(dF*x1*x2*y1*y2)≠1:=by
 intro h3
 have e1:=h1.eq
 have e2:=h2.eq
 have hi:=Z094
 obtain ⟨j,hj⟩ : ∃ j,j=iF:=⟨_,rfl⟩
 rw [<- hj] at hi
 obtain ⟨d,hd⟩ : ∃ d,d=dF:=⟨_,rfl⟩
 have nr : ∀ s t:F,s*s=d*(t*t)->t=0:=by rw [hd]; exact Zpk
 rw [<- hd] at e1 e2 h3
 clear hd hj h1 h2
 obtain ⟨e,he⟩ : ∃ e,e=d*x1*x2*y1*y2:=⟨_,rfl⟩
 rw [<- he] at h3
 -- with u = j x the curve is u u + y y = 1 - d u u y y
 have a1:x1*y1*(j*x2+y2)=0:=by
  refine nr (j*x1+e*y1) _ ?_
  grind -lia -linarith (splits:=0)
 have a2:x1*y1*(j*x2-y2)=0:=by
  refine nr (j*x1-e*y1) _ ?_
  grind -lia -linarith (splits:=0)
 have n1:x1*y1≠0:=fun h=>absurd (show (1:F)=0 by grind -lia -linarith (splits:=0)) (by decide +kernel)
 have b1:=(Zdo a1).resolve_left n1
 have b2:=(Zdo a2).resolve_left n1
 have b3:y2=0:=Z0j0 y2 (by grind -lia -linarith (splits:=0))
 exact absurd (show (1:F)=0 by grind -lia -linarith (splits:=0)) (by decide +kernel)
noncomputable def Ztr (a:F):F:=if h:a=0 then 0 else Classical.choose (Zw7 a h)
theorem Z6s {a:F} (ha:a≠0):a*Ztr a=1:=by
 unfold Ztr
 rw [dif_neg ha]
 exact Classical.choose_spec (Zw7 a ha)
theorem Zwx {x1 y1 x2 y2:F} (h1:On x1 y1) (h2:On x2 y2):1+dF*x1*x2*y1*y2≠0:=by
 intro h
 refine Z036 h1 h2 ?_
 generalize dF*x1*x2*y1*y2=e at *
 grind -lia -linarith (splits:=0)
theorem Zwy {x1 y1 x2 y2:F} (h1:On x1 y1) (h2:On x2 y2):1-dF*x1*x2*y1*y2≠0:=by
 intro h
 refine Z036 h1 h2 ?_
 generalize dF*x1*x2*y1*y2=e at *
 grind -lia -linarith (splits:=0)
structure G where
 x:F
 y:F
 on:On x y
theorem Z04f {P Q:G} (hx:P.x=Q.x) (hy:P.y=Q.y):P=Q:=by
 cases P; cases Q
 simp only at hx hy
 subst hx; subst hy; rfl
theorem Z065 (a b u v d:F) (h1:b*b-a*a=1+d*a*a*b*b) (h2:v*v-u*u=1+d*u*u*v*v) :
  (b*v+a*u)*(b*v+a*u)*(1+d*a*u*b*v)*(1+d*a*u*b*v)-(a*v+b*u)*(a*v+b*u)*(1-d*a*u*b*v)*(1-d*a*u*b*v)-(1+d*a*u*b*v)*(1+d*a*u*b*v)*(1-d*a*u*b*v)*(1-d*a*u*b*v)-d*(a*v+b*u)*(a*v+b*u)*(b*v+a*u)*(b*v+a*u)=0:=by
 grind -lia -linarith (splits:=0)
theorem Z064 (A B C D i1 i2 d:F) (hB:B*i1=1) (hD:D*i2=1) (h:C*C*B*B-A*A*D*D-B*B*D*D-d*A*A*C*C=0) :
  C*i2*(C*i2)-A*i1*(A*i1)=1+d*(A*i1)*(A*i1)*(C*i2)*(C*i2):=by
 grind -lia -linarith (splits:=0)
noncomputable def Z9h (P Q:G):G :=
 ⟨(P.x*Q.y+P.y*Q.x)*Ztr (1+dF*P.x*Q.x*P.y*Q.y),(P.y*Q.y+P.x*Q.x)*Ztr (1-dF*P.x*Q.x*P.y*Q.y),
  ⟨Z064 _ _ _ _ _ _ _ (Z6s (Zwx P.on Q.on)) (Z6s (Zwy P.on Q.on)) (Z065 P.x P.y Q.x Q.y dF P.on.eq Q.on.eq)⟩⟩
def Zdm:G:=⟨0,1,⟨by decide +kernel⟩⟩
theorem Zpd (P Q:G):Z9h P Q=Z9h Q P:=by
 have e1:dF*P.x*Q.x*P.y*Q.y=dF*Q.x*P.x*Q.y*P.y:=by generalize dF=d; grind -lia -linarith (splits:=0)
 refine Z04f ?_ ?_
 ·show (P.x*Q.y+P.y*Q.x)*_=(Q.x*P.y+Q.y*P.x)*_
  rw [e1]; generalize Ztr _=i; grind -lia -linarith (splits:=0)
 ·show (P.y*Q.y+P.x*Q.x)*_=(Q.y*P.y+Q.x*P.x)*_
  rw [e1]; generalize Ztr _=i; grind -lia -linarith (splits:=0)
theorem Z00b (a b u v x y d:F) (h1:b*b-a*a=1+d*a*a*b*b) (h2:v*v-u*u=1+d*u*u*v*v) (h3:y*y-x*x=1+d*x*x*y*y):((a*v+b*u)*(1-d*a*u*b*v)*y+(b*v+a*u)*(1+d*a*u*b*v)*x)*((1+d*u*x*v*y)*(1-d*u*x*v*y)+d*(u*y+v*x)*(v*y+u*x)*a*b)-((u*y+v*x)*(1-d*u*x*v*y)*b+(v*y+u*x)*(1+d*u*x*v*y)*a)*((1+d*a*u*b*v)*(1-d*a*u*b*v)+d*(a*v+b*u)*(b*v+a*u)*x*y)=0:=by
 grind -lia -linarith (splits:=0)
theorem Z00c (a b u v x y d:F) (h1:b*b-a*a=1+d*a*a*b*b) (h2:v*v-u*u=1+d*u*u*v*v) (h3:y*y-x*x=1+d*x*x*y*y):((b*v+a*u)*(1+d*a*u*b*v)*y+(a*v+b*u)*(1-d*a*u*b*v)*x)*((1+d*u*x*v*y)*(1-d*u*x*v*y)-d*(u*y+v*x)*(v*y+u*x)*a*b)-((v*y+u*x)*(1+d*u*x*v*y)*b+(u*y+v*x)*(1-d*u*x*v*y)*a)*((1+d*a*u*b*v)*(1-d*a*u*b*v)-d*(a*v+b*u)*(b*v+a*u)*x*y)=0:=by
 grind -lia -linarith (splits:=0)
theorem Z090 (A B C D A2 B2 C2 D2 i1 i2 i3 i4 x1 y1 x3 y3 d j k:F) (hB:B*i1=1) (hD:D*i2=1) (hB2:B2*i3=1) (hD2:D2*i4=1)
  (h:(A*D*y3+C*B*x3)*(B2*D2+d*A2*C2*x1*y1)-(A2*D2*y1+C2*B2*x1)*(B*D+d*A*C*x3*y3)=0) :
  (A*i1*y3+C*i2*x3)*(1+d*(A2*i3)*(C2*i4)*x1*y1)=(A2*i3*y1+C2*i4*x1)*(1+d*(A*i1)*(C*i2)*x3*y3):=by
 grind -lia -linarith (splits:=0)
theorem Z091 (A B C D A2 B2 C2 D2 i1 i2 i3 i4 x1 y1 x3 y3 d j k:F) (hB:B*i1=1) (hD:D*i2=1) (hB2:B2*i3=1) (hD2:D2*i4=1)
  (h:(C*B*y3+A*D*x3)*(B2*D2-d*A2*C2*x1*y1)-(C2*B2*y1+A2*D2*x1)*(B*D-d*A*C*x3*y3)=0) :
  (C*i2*y3+A*i1*x3)*(1-d*(A2*i3)*(C2*i4)*x1*y1)=(C2*i4*y1+A2*i3*x1)*(1-d*(A*i1)*(C*i2)*x3*y3):=by
 grind -lia -linarith (splits:=0)
theorem Z0jy (X Y U V x1 y1 x3 y3 d j k:F) (h:(X*y3+Y*x3)*(1+d*U*V*x1*y1)=(U*y1+V*x1)*(1+d*X*Y*x3*y3)) (hj:(1+d*X*x3*Y*y3)*j=1) (hk:(1+d*x1*U*y1*V)*k=1) :
  (X*y3+Y*x3)*j=(x1*V+y1*U)*k:=by grind -lia -linarith (splits:=0)
theorem Z0jz (X Y U V x1 y1 x3 y3 d j k:F) (h:(Y*y3+X*x3)*(1-d*U*V*x1*y1)=(V*y1+U*x1)*(1-d*X*Y*x3*y3)) (hj:(1-d*X*x3*Y*y3)*j=1) (hk:(1-d*x1*U*y1*V)*k=1) :
  (Y*y3+X*x3)*j=(y1*V+x1*U)*k:=by grind -lia -linarith (splits:=0)
theorem Zb5 (P Q R:G):Z9h (Z9h P Q) R=Z9h P (Z9h Q R):=by
 have b1:=Z6s (Zwx P.on Q.on)
 have b2:=Z6s (Zwy P.on Q.on)
 have b3:=Z6s (Zwx Q.on R.on)
 have b4:=Z6s (Zwy Q.on R.on)
 refine Z04f ?_ ?_
 ·refine Z0jy _ _ _ _ P.x P.y R.x R.y dF _ _ ?_ (Z6s (Zwx (Z9h P Q).on R.on)) (Z6s (Zwx P.on (Z9h Q R).on))
  exact Z090 _ _ _ _ _ _ _ _ _ _ _ _ P.x P.y R.x R.y dF 0 0 b1 b2 b3 b4 (Z00b P.x P.y Q.x Q.y R.x R.y dF P.on.eq Q.on.eq R.on.eq)
 ·refine Z0jz _ _ _ _ P.x P.y R.x R.y dF _ _ ?_ (Z6s (Zwy (Z9h P Q).on R.on)) (Z6s (Zwy P.on (Z9h Q R).on))
  exact Z091 _ _ _ _ _ _ _ _ _ _ _ _ P.x P.y R.x R.y dF 0 0 b1 b2 b3 b4 (Z00c P.x P.y Q.x Q.y R.x R.y dF P.on.eq Q.on.eq R.on.eq)
theorem Zhj (P:G):Z9h P Zdm=P:=by
 have b1:=Z6s (Zwx P.on Zdm.on)
 have b2:=Z6s (Zwy P.on Zdm.on)
 have z1:Zdm.x=0:=rfl
 have z2:Zdm.y=1:=rfl
 refine Z04f ?_ ?_
 ·show (P.x*Zdm.y+P.y*Zdm.x)*Ztr _=P.x
  generalize Ztr (1+dF*P.x*Zdm.x*P.y*Zdm.y)=i at *
  rw [z1,z2] at *
  generalize dF=d at *
  grind -lia -linarith (splits:=0)
 ·show (P.y*Zdm.y+P.x*Zdm.x)*Ztr _=P.y
  generalize Ztr (1-dF*P.x*Zdm.x*P.y*Zdm.y)=i at *
  rw [z1,z2] at *
  generalize dF=d at *
  grind -lia -linarith (splits:=0)
theorem Z000 (P:G):Z9h Zdm P=P:=by rw [Zpd,Zhj]
noncomputable def Zgl:Nat->G->G
 | 0,_=>Zdm
 | n+1,P=>Z9h (Zgl n P) P
theorem Zht (m n:Nat) (P:G):Zgl (m+n) P=Z9h (Zgl m P) (Zgl n P):=by
 induction n with
 | zero=>exact (Zhj _).symm
 | succ n ih =>
  show Z9h (Zgl (m+n) P) P=Z9h (Zgl m P) (Z9h (Zgl n P) P)
  rw [ih,Zb5]
theorem Za5 (m n:Nat) (P:G):Zgl (m*n) P=Zgl m (Zgl n P):=by
 induction m with
 | zero=>rw [Nat.zero_mul]; rfl
 | succ m ih=>rw [Nat.succ_mul,Zht,ih]; rfl
theorem Zpe (P Q R S:G):Z9h (Z9h P Q) (Z9h R S)=Z9h (Z9h P R) (Z9h Q S):=by
 rw [Zb5,<- Zb5 Q R S,Zpd Q R,Zb5 R Q S,<- Zb5]
theorem Zxp (n:Nat) (P Q:G):Zgl n (Z9h P Q)=Z9h (Zgl n P) (Zgl n Q):=by
 induction n with
 | zero=>exact (Zhj _).symm
 | succ n ih =>
  show Z9h (Zgl n (Z9h P Q)) (Z9h P Q)=Z9h (Z9h (Zgl n P) P) (Z9h (Zgl n Q) Q)
  rw [ih,Zpe]
def fi (n:Int):F:=⟨(n%57896044618658097711785492504343953926634992332820282019728792003956564819949).toNat,by
 show _<57896044618658097711785492504343953926634992332820282019728792003956564819949
 omega⟩
theorem Ze9 (n:Int):((fi n).val:Int)=n%57896044618658097711785492504343953926634992332820282019728792003956564819949:=by
 show (((n%_).toNat:Nat):Int)=_
 omega
theorem Z066:(pN:Int)=57896044618658097711785492504343953926634992332820282019728792003956564819949:=by decide +kernel
theorem Zmo {a b:Int}:fi a=fi b↔a%57896044618658097711785492504343953926634992332820282019728792003956564819949=b%57896044618658097711785492504343953926634992332820282019728792003956564819949:=by
 constructor
 ·intro h
  rw [<- Ze9,<- Ze9,h]
 ·intro h
  apply Fin.ext
  have:((fi a).val:Int)=((fi b).val:Int):=by rw [Ze9,Ze9,h]
  omega
theorem Z9l (a b:Int):fi (a+b)=fi a+fi b:=by
 apply Fin.ext
 rw [Fin.val_add]
 apply Int.ofNat_inj.1
 rw [Ze9,Int.natCast_emod,Int.natCast_add,Ze9,Ze9,Z066]
 exact Int.add_emod _ _ _
theorem Z1a (a b:Int):fi (a*b)=fi a*fi b:=by
 apply Fin.ext
 rw [Fin.val_mul]
 apply Int.ofNat_inj.1
 rw [Ze9,Int.natCast_emod,Int.natCast_mul,Ze9,Ze9,Z066]
 exact Int.mul_emod _ _ _
theorem fi_0:fi 0=0:=by decide +kernel
theorem Zx6:fi 1=1:=by decide +kernel
theorem Ze8 (a b:Int):fi (a-b)=fi a-fi b:=by
 have h:=Z9l (a-b) b
 rw [Int.sub_add_cancel] at h
 grind -lia -linarith (splits:=0)
theorem Zgs (a:Int):fi (-a) = - fi a:=by
 have h:=Z9l (-a) a
 rw [Int.add_left_neg,fi_0] at h
 grind -lia -linarith (splits:=0)
theorem Zct (a:Int):fi (a%57896044618658097711785492504343953926634992332820282019728792003956564819949)=fi a:=by
 rw [Zmo]; exact Int.emod_emod_of_dvd _ (Int.dvd_refl _)
def fv (x:F):Int:=(x.val:Int)
theorem Zl9 (x:F):0<=fv x/\fv x<57896044618658097711785492504343953926634992332820282019728792003956564819949:=by
 have:=x.isLt
 have h:=Z066
 unfold fv
 omega
theorem Z05p (x:F):fi (fv x)=x:=by
 apply Fin.ext
 have h1:=Ze9 (fv x)
 have h:=Zl9 x
 rw [Int.emod_eq_of_lt h.1 h.2] at h1
 unfold fv at *
 omega
theorem Zs3 (n:Int):fv (fi n)=n%57896044618658097711785492504343953926634992332820282019728792003956564819949:=Ze9 n
theorem Z092 {x y:F} (h:fv x=fv y):x=y:=by rw [<- Z05p x,<- Z05p y,h]
def pwF (x:F):Nat->F
 | 0=>1
 | n+1=>pwF x n*x
theorem Zor (x:F):pwF x 0=1:=rfl
theorem Za7 (x:F) (n:Nat):pwF x (n+1)=pwF x n*x:=rfl
theorem Zlh (x:F) (m n:Nat):pwF x (m+n)=pwF x m*pwF x n:=by
 induction n with
 | zero=>rw [Nat.add_zero,Zor]; generalize pwF x m=z; grind -lia -linarith (splits:=0)
 | succ n ih=>rw [<- Nat.add_assoc,Za7,Za7,ih]; generalize pwF x m=z; generalize pwF x n=w; grind -lia -linarith (splits:=0)
theorem Zy8 (x:F) (m n:Nat):pwF x (m*n)=pwF (pwF x m) n:=by
 induction n with
 | zero=>rfl
 | succ n ih=>rw [Nat.mul_succ,Zlh,ih,Za7]
theorem Zy9 (x:F):pwF x 2=x*x:=by rw [show 2=0+1+1 from rfl,Za7,Za7,Zor]; grind -lia -linarith (splits:=0)
theorem Z06e (x:F) (n:Nat):(pwF x n).val=x.val^n%pN:=by
 induction n with
 | zero=>rw [Zor,Nat.pow_zero]; decide +kernel
 | succ n ih=>rw [Za7,Fin.val_mul,ih,Nat.mod_mul_mod,Nat.pow_succ]
theorem Zx5 {x:F} {n:Nat} (hn:n=pN-1) (hx:x≠0):pwF x n=1:=by
 have h0:x.val%pN≠0:=by
  intro h
  apply hx
  rw [Nat.mod_eq_of_lt x.isLt] at h
  exact Fin.ext h
 have h:=Zx4 h0
 rw [<- hn] at h
 unfold One at h
 apply Fin.ext
 rw [Z06e,h]
 decide +kernel
theorem Zs8 {x:F} {n:Nat} (hn:n+2=pN) (hx:x≠0):x*pwF x n=1:=by
 have h:=Zx5 (n:=n+1) (by omega) hx
 rw [Za7] at h
 rw [<- h]
 generalize pwF x n=z
 grind -lia -linarith (splits:=0)
theorem Zyi {s:F} {n:Nat} (hn:4*n=pN-1) (hs:s≠0):pwF (s*s) n=1∨pwF (s*s) n = -1:=by
 have h:=Zx5 (n:=4*n) hn hs
 have e:pwF (s*s) n*pwF (s*s) n=1:=by
  rw [<- Zy9 s,<- Zy8,<- Zlh,<- h]
  congr 1
  omega
 generalize pwF (s*s) n=w at *
 have h2:(w-1)*(w+1)=0:=by grind -lia -linarith (splits:=0)
 rcases Zdo h2 with h3 | h3
 ·exact .inl (by grind -lia -linarith (splits:=0))
 ·exact .inr (by grind -lia -linarith (splits:=0))
theorem cand {u v:F} {n m:Nat} (hn:8*n+5=pN) (hm:m=2*n+1) :
  v*(u*(v*v*v)*pwF (u*((v*v*v)*(v*v*v))*v) n*(u*(v*v*v)*pwF (u*((v*v*v)*(v*v*v))*v) n))=u*pwF (u*((v*v*v)*(v*v*v))*v) m:=by
 obtain ⟨a,ha⟩ : ∃ a,a=u*((v*v*v)*(v*v*v))*v:=⟨_,rfl⟩
 rw [<- ha,hm,Za7,Nat.mul_comm,Zy8,Zy9]
 generalize pwF a n=z
 rw [ha]
 grind -lia -linarith (splits:=0)
end Go.Proofs.YtiflckckekjbnaaGreatDoor
namespace Go.Proofs.YtiflckckekjbnaaGreatDoor
open Go Go.Sx Go.RowKit
set_option linter.all false
set_option maxRecDepth 100000
structure Rep (q:Q4) (P:G):Prop where
 z:fi q.z≠0
 x:fi q.x=P.x*fi q.z
 y:fi q.y=P.y*fi q.z
 t:fi q.t=P.x*P.y*fi q.z
theorem Z08z:fi D2=dF+dF:=by decide +kernel
theorem Z00t:fi DD=dF:=by decide +kernel
theorem Z7s {a b:F} (ha:a≠0) (hb:b≠0):a*b≠0:=fun h=>(Zdo h).elim ha hb
theorem Z0se:(1:F)+1≠0:=by decide +kernel
theorem Zni {e f g h:Int} {P:G} (hf:fi f≠0) (hg:fi g≠0) (he:fi e=P.x*fi g) (hh:fi h=P.y*fi f):Rep (Zox e f g h) P:=by
 constructor
 ·show fi (f*g)≠0
  rw [Z1a]; exact Z7s hf hg
 ·show fi (e*f)=_*fi (f*g)
  rw [Z1a,Z1a,he]; grind -lia -linarith (splits:=0)
 ·show fi (g*h)=_*fi (f*g)
  rw [Z1a,Z1a,hh]; grind -lia -linarith (splits:=0)
 ·show fi (e*h)=_*fi (f*g)
  rw [Z1a,Z1a,he,hh]; grind -lia -linarith (splits:=0)
theorem Zt6 (P Q:G):(Z9h P Q).x*(1+dF*P.x*Q.x*P.y*Q.y)=P.x*Q.y+P.y*Q.x:=by
 have h:=Z6s (Zwx P.on Q.on)
 show (P.x*Q.y+P.y*Q.x)*Ztr (1+dF*P.x*Q.x*P.y*Q.y)*_=_
 generalize Ztr (1+dF*P.x*Q.x*P.y*Q.y)=i at *
 generalize dF=d at *
 grind -lia -linarith (splits:=0)
theorem Zt7 (P Q:G):(Z9h P Q).y*(1-dF*P.x*Q.x*P.y*Q.y)=P.y*Q.y+P.x*Q.x:=by
 have h:=Z6s (Zwy P.on Q.on)
 show (P.y*Q.y+P.x*Q.x)*Ztr (1-dF*P.x*Q.x*P.y*Q.y)*_=_
 generalize Ztr (1-dF*P.x*Q.x*P.y*Q.y)=i at *
 generalize dF=d at *
 grind -lia -linarith (splits:=0)
theorem Z079 {p q:Q4} {P Q:G} (hp:Rep p P) (hq:Rep q Q):Rep (qadd p q) (Z9h P Q):=by
 have d1:=Zwx P.on Q.on
 have d2:=Zwy P.on Q.on
 have ax:=Zt6 P Q
 have ay:=Zt7 P Q
 have hz:=Z7s Z0se (Z7s hp.z hq.z)
 have ef:fi ((p.z+p.z)*q.z-p.t*D2*q.t)=(1+1)*(fi p.z*fi q.z)*(1-dF*P.x*Q.x*P.y*Q.y):=by
  simp only [Z1a,Ze8,Z9l,Z08z,hp.t,hq.t]
  generalize dF=d at *
  grind -lia -linarith (splits:=0)
 have eg:fi ((p.z+p.z)*q.z+p.t*D2*q.t)=(1+1)*(fi p.z*fi q.z)*(1+dF*P.x*Q.x*P.y*Q.y):=by
  simp only [Z1a,Ze8,Z9l,Z08z,hp.t,hq.t]
  generalize dF=d at *
  grind -lia -linarith (splits:=0)
 refine Zni ?_ ?_ ?_ ?_
 ·rw [ef]; exact Z7s hz d2
 ·rw [eg]; exact Z7s hz d1
 ·rw [eg]
  simp only [Z1a,Ze8,Z9l,hp.x,hq.x,hp.y,hq.y]
  generalize dF=d at *
  generalize (Z9h P Q).x=X at *
  grind -lia -linarith (splits:=0)
 ·rw [ef]
  simp only [Z1a,Ze8,Z9l,hp.x,hq.x,hp.y,hq.y]
  generalize dF=d at *
  generalize (Z9h P Q).y=Y at *
  grind -lia -linarith (splits:=0)
theorem Z07b {p:Q4} {P:G} (hp:Rep p P):Rep (qdbl p) (Z9h P P):=by
 have d1:=Zwx P.on P.on
 have d2:=Zwy P.on P.on
 have ax:=Zt6 P P
 have ay:=Zt7 P P
 have on:=P.on.eq
 have ef:fi (p.z*p.z+p.z*p.z+(p.x*p.x-p.y*p.y))=(fi p.z*fi p.z)*(1-dF*P.x*P.x*P.y*P.y):=by
  simp only [Z1a,Ze8,Z9l,hp.x,hp.y]
  generalize dF=d at *
  grind -lia -linarith (splits:=0)
 have eg:fi (p.x*p.x-p.y*p.y) = - (fi p.z*fi p.z)*(1+dF*P.x*P.x*P.y*P.y):=by
  simp only [Z1a,Ze8,Z9l,hp.x,hp.y]
  generalize dF=d at *
  grind -lia -linarith (splits:=0)
 have hz:=Z7s hp.z hp.z
 have hz' : - (fi p.z*fi p.z)≠0:=by
  intro h; apply hz
  grind -lia -linarith (splits:=0)
 refine Zni ?_ ?_ ?_ ?_
 ·rw [ef]; exact Z7s hz d2
 ·rw [eg]; exact Z7s hz' d1
 ·rw [eg]
  simp only [Z1a,Ze8,Z9l,hp.x,hp.y]
  generalize dF=d at *
  generalize (Z9h P P).x=X at *
  grind -lia -linarith (splits:=0)
 ·rw [ef]
  simp only [Z1a,Ze8,Z9l,hp.x,hp.y]
  generalize dF=d at *
  generalize (Z9h P P).y=Y at *
  grind -lia -linarith (splits:=0)
theorem Zyp {q:Q4} {P:G} (h:Rep q P):Rep (qred q) P:=by
 constructor
 ·show fi (q.z%PP)≠0; rw [Zct]; exact h.z
 ·show fi (q.x%PP)=_*fi (q.z%PP); rw [Zct,Zct]; exact h.x
 ·show fi (q.y%PP)=_*fi (q.z%PP); rw [Zct,Zct]; exact h.y
 ·show fi (q.t%PP)=_*fi (q.z%PP); rw [Zct,Zct]; exact h.t
theorem Zuc:Rep Zve Zdm:=by
 constructor
 ·show fi 1≠0; decide +kernel
 ·show fi 0=0*fi 1; decide +kernel
 ·show fi 1=1*fi 1; decide +kernel
 ·show fi 0=0*1*fi 1; decide +kernel
def negG (P:G):G:=⟨-P.x,P.y,⟨by have h:=P.on.eq; generalize dF=d at *; grind -lia -linarith (splits:=0)⟩⟩
theorem Z07c {p:Q4} {P:G} (h:Rep p P):Rep ⟨-p.x,p.y,p.z,-p.t⟩ (negG P):=by
 constructor
 ·exact h.z
 ·show fi (-p.x) = -P.x*_; rw [Zgs,h.x]; grind -lia -linarith (splits:=0)
 ·exact h.y
 ·show fi (-p.t) = -P.x*P.y*_; rw [Zgs,h.t]; grind -lia -linarith (splits:=0)
theorem Zp0 {p q:Q4} {P Q:G} (hp:Rep p P) (hq:Rep q Q):Rep (Zmv p q) (Z9h P Q):=Zyp (Z079 hp hq)
theorem Zku {p:Q4} {P:G} (hp:Rep p P):Rep (Zfq p) (Z9h P P):=Zyp (Z07b hp)
theorem Zsl {p:Q4} {P:G} (hp:Rep p P) : ∀ j,Rep (tab p j) (Zgl j P)
 | 0=>Zuc
 | j+1=>Zp0 (Zsl hp j) hp
theorem Z018 (P:G):Zgl 1 P=P:=Z000 P
theorem Zc2 (P:G):Zgl 2 P=Z9h P P:=by
 show Z9h (Zgl 1 P) P=_
 rw [Z018]
theorem Z024 {p:Q4} {P:G} (hp:Rep p P):Rep (dbl4 p) (Zgl 16 P):=by
 have h:=Zku (Zku (Zku (Zku hp)))
 rw [<- Zc2,<- Zc2,<- Zc2,<- Zc2,<- Za5,<- Za5,<- Za5] at h
 exact h
def nacc (k:LI):Nat->Nat
 | 0=>0
 | i+1=>16*nacc k i+(nib k i).toNat
theorem Zqs {p r:Q4} {P R:G} (k l:LI) (hp:Rep p P) (hr:Rep r R) : ∀ i,Rep (Zkc k l p r i) (Z9h (Zgl (nacc k i) P) (Zgl (nacc l i) R))
 | 0=>by
  show Rep Zve (Z9h Zdm Zdm)
  rw [Zhj]; exact Zuc
 | i+1=>by
  have h:=Zp0 (Zp0 (Z024 (Zqs k l hp hr i)) (Zsl hp (nib k i).toNat)) (Zsl hr (nib l i).toNat)
  rw [Zxp,<- Za5,<- Za5,Zb5,Zpe,<- Zht,<- Zht] at h
  exact h
def Zla (k:LI):Nat->Int
 | 0=>0
 | j+1=>Zla k j*256+k.getD (31-j) 0
theorem Zom {k:LI} (hk:Byt k) : ∀ j,(nacc k (2*j):Int)=Zla k j
 | 0=>rfl
 | j+1=>by
  have ih:=Zom hk j
  have hb:=hk (31-j)
  have e1:nib k (2*j)=k.getD (31-j) 0 / 16%16:=by unfold nib; rw [if_pos (by omega),show 2*j / 2=j by omega]
  have e2:nib k (2*j+1)=k.getD (31-j) 0%16:=by unfold nib; rw [if_neg (by omega),show (2*j+1) / 2=j by omega]
  show ((16*(16*nacc k (2*j)+(nib k (2*j)).toNat)+(nib k (2*j+1)).toNat:Nat):Int)=Zla k j*256+k.getD (31-j) 0
  rw [e1,e2]
  generalize k.getD (31-j) 0=b at *
  generalize nacc k (2*j)=n at *
  generalize Zla k j=m at *
  omega
def Zgh (x:LI):Int:=x.getD 0 0+x.getD 1 0*256+x.getD 2 0*65536+x.getD 3 0*16777216+x.getD 4 0*4294967296+x.getD 5 0*1099511627776+x.getD 6 0*281474976710656+x.getD 7 0*72057594037927936+x.getD 8 0*18446744073709551616+x.getD 9 0*4722366482869645213696+x.getD 10 0*1208925819614629174706176+x.getD 11 0*309485009821345068724781056+x.getD 12 0*79228162514264337593543950336+x.getD 13 0*20282409603651670423947251286016+x.getD 14 0*5192296858534827628530496329220096+x.getD 15 0*1329227995784915872903807060280344576+x.getD 16 0*340282366920938463463374607431768211456+x.getD 17 0*87112285931760246646623899502532662132736+x.getD 18 0*22300745198530623141535718272648361505980416+x.getD 19 0*5708990770823839524233143877797980545530986496+x.getD 20 0*1461501637330902918203684832716283019655932542976+x.getD 21 0*374144419156711147060143317175368453031918731001856+x.getD 22 0*95780971304118053647396689196894323976171195136475136+x.getD 23 0*24519928653854221733733552434404946937899825954937634816+x.getD 24 0*6277101735386680763835789423207666416102355444464034512896+x.getD 25 0*1606938044258990275541962092341162602522202993782792835301376+x.getD 26 0*411376139330301510538742295639337626245683966408394965837152256+x.getD 27 0*105312291668557186697918027683670432318895095400549111254310977536+x.getD 28 0*26959946667150639794667015087019630673637144422540572481103610249216+x.getD 29 0*6901746346790563787434755862277025452451108972170386555162524223799296+x.getD 30 0*1766847064778384329583297500742918515827483896875618958121606201292619776+x.getD 31 0*452312848583266388373324160190187140051835877600158453279131187530910662656
theorem Zh5 (k:LI):Zla k 32=Zgh k:=by
 simp only [Zla,Zgh]
 simp only [Nat.reduceSub]
 omega
theorem Zxv {k:LI} (hk:Byt k):nacc k 64=(Zgh k).toNat:=by
 have h:(nacc k 64:Int)=Zla k 32:=Zom hk 32
 rw [Zh5] at h
 omega
theorem Ze3 {k:LI} (hk:Byt k):0<=Zgh k:=by
 have h:(nacc k 64:Int)=Zla k 32:=Zom hk 32
 rw [Zh5] at h
 omega
def Zn3 (e:LI):Nat->Nat
 | 0=>0
 | k+1=>if ebit e (255-k) then 2*Zn3 e k+1 else 2*Zn3 e k
theorem Zs1 (x:Int) (e:LI) : ∀ k,fi (pw x e k)=pwF (fi x) (Zn3 e k)
 | 0=>Zx6
 | k+1=>by
  have ih:=Zs1 x e k
  simp only [pw,Zn3]
  split
  ·rw [Zct,Z1a,Zct,Z1a,ih,Za7,Nat.two_mul,Zlh]
  ·rw [Zct,Z1a,ih,Nat.two_mul,Zlh]
theorem Zo5:Zn3 Zpp 256+2=pN:=by decide +kernel
theorem Zrr:8*Zn3 esq 256+5=pN:=by decide +kernel
theorem Z05o {a:Int} (h:fi a≠0):fi a*fi (Zx7 a)=1:=by
 unfold Zx7
 rw [Zs1,Zct]
 exact Zs8 Zo5 h
theorem Ztl:fi Zma*fi Zma = -1:=by decide +kernel
def encG (P:G):LI:=Zoa (fv P.x) (fv P.y)
theorem Zrx {x y u v:Int} (h1:x%PP=u%PP) (h2:y%PP=v%PP):Zoa x y=Zoa u v:=by
 unfold Zoa; rw [h1,h2]
theorem Z07a {q:Q4} {P:G} (h:Rep q P):fi (q.x*Zx7 q.z)=P.x/\fi (q.y*Zx7 q.z)=P.y:=by
 have hi:=Z05o h.z
 rw [Z1a,Z1a,h.x,h.y]
 generalize fi (Zx7 q.z)=i at *
 generalize fi q.z=z at *
 exact ⟨by grind -lia -linarith (splits:=0),by grind -lia -linarith (splits:=0)⟩
theorem Ztn (x:F):fv x%PP=fv x:=Int.emod_eq_of_lt (Zl9 x).1 (Zl9 x).2
theorem Z05k {q:Q4} {P:G} (h:Rep q P):encQ q=encG P:=by
 have ha:=Z07a h
 refine Zrx ?_ ?_
 ·rw [Ztn,<- ha.1,Zs3]
 ·rw [Ztn,<- ha.2,Zs3]
theorem Zwn (n:Int):Byt (byt n):=byt_of (by
 unfold byt
 repeat' (first | exact List.forall_mem_nil _ | refine List.forall_mem_cons.2 ⟨?_,?_⟩)
 all_goals omega)
theorem Zg0 (n:Int):(byt n).length=32:=rfl
theorem Z0ow {x:Int} (h0:0<=x) (h1:x<128):Z4 .or .u8 x 128=x+128:=by
 have:x=((x.toNat:Nat):Int):=by omega
 rw [this]
 have hx:x.toNat<128:=by omega
 generalize x.toNat=n at *
 have h : ∀ n:Fin 128,Z4 .or .u8 ((n.val:Nat):Int) 128=(n.val:Int)+128:=by decide +kernel
 exact h ⟨n,hx⟩
theorem Z08i {n:Int} (h0:0<=n) (h1:n<PP):0<=(byt n).getD 31 0/\(byt n).getD 31 0<128:=by
 have e:(byt n).getD 31 0=n / 452312848583266388373324160190187140051835877600158453279131187530910662656%256:=rfl
 rw [e]
 unfold PP at h1
 omega
theorem Zsp {l:LI} {i:Nat} {v:Int} (h:i<l.length):(Z2z l i v).length=l.length:=by rw [Zz6 h,List.length_set]
theorem Zuz (x y:Int):(Zoa x y).length=32:=by
 unfold Zoa
 split
 ·rw [Zsp (by rw [Zg0]; decide),Zg0]
 ·exact Zg0 _
theorem Z093 (y:F):fv (-y)=(- fv y)%57896044618658097711785492504343953926634992332820282019728792003956564819949:=by
 have h:=Zs3 (- fv y)
 rw [Zgs,Z05p] at h
 exact h
theorem Z01c {b:Int} (hy:0<=b/\b<57896044618658097711785492504343953926634992332820282019728792003956564819949) (h0 : ¬ b=0) : -b%57896044618658097711785492504343953926634992332820282019728792003956564819949=57896044618658097711785492504343953926634992332820282019728792003956564819949-b:=by
 rw [<- Int.add_emod_right,Int.emod_eq_of_lt (by omega) (by omega)]; omega
theorem par {x y:F} (h:fv x%2=fv y%2) (h2:x = -y):x=y:=by
 have e:=Z093 y
 rw [<- h2] at e
 have hx:=Zl9 x
 have hy:=Zl9 y
 apply Z092
 clear h2
 generalize fv x=a at *
 generalize fv y=b at *
 by_cases h0:b=0
 ·subst h0; rw [e]; rfl
 ·rw [Z01c hy h0] at e
  omega
theorem Z00n (y d j:F) (h:1+d*y*y=0) (hj:j*j+1=0):j*j=d*(y*y):=by grind -lia -linarith (splits:=0)
theorem Z01j (y d:F) (hy:y=0) (h:1+d*y*y=0):(1:F)=0:=by grind -lia -linarith (splits:=0)
theorem Z0ju (y:F):1+dF*y*y≠0:=by
 intro h
 have:=Zpk _ _ (Z00n y dF iF h Z094)
 exact absurd (Z01j y dF this h) (by decide +kernel)
theorem Zmd (a b:F) (h:a-b=0):a=b:=by grind -lia -linarith (splits:=0)
theorem Zrl (a b:F) (h:a+b=0):a = -b:=by grind -lia -linarith (splits:=0)
theorem Z9p {a:Int}:fi a=0↔a%PP=0:=by
 rw [<- fi_0,Zmo]; rfl
theorem Zx1 {a:Int} (h0 : ¬ a%57896044618658097711785492504343953926634992332820282019728792003956564819949=0) : -a%57896044618658097711785492504343953926634992332820282019728792003956564819949=57896044618658097711785492504343953926634992332820282019728792003956564819949-a%57896044618658097711785492504343953926634992332820282019728792003956564819949:=by omega
theorem Zkl (a:Int):Zx2 a%PP%2=0:=by
 unfold Zx2 PP
 by_cases h:a%57896044618658097711785492504343953926634992332820282019728792003956564819949%2=1
 ·have hb:(a%57896044618658097711785492504343953926634992332820282019728792003956564819949%2==1)=true:=by simpa using h
  rw [hb]
  show -a%57896044618658097711785492504343953926634992332820282019728792003956564819949%2=0
  rw [Zx1 (by intro h0; rw [h0] at h; exact absurd h (by decide))]
  generalize a%57896044618658097711785492504343953926634992332820282019728792003956564819949=b at *
  clear hb
  omega
 ·have hb:(a%57896044618658097711785492504343953926634992332820282019728792003956564819949%2==1)=false:=by simpa using h
  rw [hb]
  show a%57896044618658097711785492504343953926634992332820282019728792003956564819949%2=0
  generalize a%57896044618658097711785492504343953926634992332820282019728792003956564819949=b at *
  clear hb
  omega
theorem Zob (a:Int):fi (Zx2 a)*fi (Zx2 a)=fi a*fi a:=by
 unfold Zx2
 cases h:(a%PP%2==1)
 ·rfl
 ·show fi (-a)*fi (-a)=_
  rw [Zgs]; grind -lia -linarith (splits:=0)
theorem Zm9 {a b:Int} (hb:fi b≠0) (h:(Zw5 a b).2=true):fi b*(fi (Zw5 a b).1*fi (Zw5 a b).1)=fi a/\(Zw5 a b).1%PP%2=0:=by
 have hb' : ¬ b%PP=0:=fun e=>hb (Z9p.2 e)
 unfold Zw5 at h ⊢
 rw [if_neg hb'] at h ⊢
 split
 ·next h1 =>
  refine ⟨?_,Zkl _⟩
  rw [Zob,<- Z1a,<- Z1a]
  exact Zmo.2 h1
 ·next h1 =>
  rw [if_neg h1] at h
  split
  ·next h2 =>
   refine ⟨?_,Zkl _⟩
   rw [Zob]
   have e:=Zmo.2 h2
   have e2:=Ztl
   rw [Z1a,Z1a,Zgs] at e
   rw [Z1a]
   generalize fi Zma=j at *
   generalize fi (Zpb a b)=r at *
   grind -lia -linarith (splits:=0)
  ·next h2 =>
   rw [if_neg h2] at h
   cases h
theorem Zr3 {a b:Int} (hb:fi b≠0) {x:F} (hx:fi b*(x*x)=fi a):(Zw5 a b).2=true:=by
 have hb' : ¬ b%PP=0:=fun e=>hb (Z9p.2 e)
 have hc:=cand (u:=fi a) (v:=fi b) (m:=2*Zn3 esq 256+1) Zrr rfl
 have er:fi (Zpb a b)=fi a*(fi b*fi b*fi b)*pwF (fi a*((fi b*fi b*fi b)*(fi b*fi b*fi b))*fi b) (Zn3 esq 256):=by
  unfold Zpb
  simp only [Z1a,Zs1,Zct]
 rw [<- er] at hc
 have hq:fi b*(fi (Zpb a b)*fi (Zpb a b))=fi a∨fi b*(fi (Zpb a b)*fi (Zpb a b)) = - fi a:=by
  rw [hc]
  by_cases hx0:x=0
  ·left
   have:fi a=0:=by rw [<- hx,hx0]; generalize fi b=v; grind -lia -linarith (splits:=0)
   rw [this]
   generalize pwF _ _=z
   grind -lia -linarith (splits:=0)
  ·have hs:fi a*((fi b*fi b*fi b)*(fi b*fi b*fi b))*fi b=(x*(fi b*fi b*fi b*fi b))*(x*(fi b*fi b*fi b*fi b)):=by
    rw [<- hx]; generalize fi b=v; grind -lia -linarith (splits:=0)
   rw [hs]
   have hn:x*(fi b*fi b*fi b*fi b)≠0:=Z7s hx0 (Z7s (Z7s (Z7s hb hb) hb) hb)
   rcases Zyi (n:=2*Zn3 esq 256+1) (by have:=Zrr; omega) hn with e | e
   ·left; rw [e]; grind -lia -linarith (splits:=0)
   ·right; rw [e]; grind -lia -linarith (splits:=0)
 unfold Zw5
 rw [if_neg hb']
 split
 ·rfl
 ·next h1 =>
  split
  ·rfl
  ·next h2 =>
   exfalso
   rcases hq with e | e
   ·apply h1; apply Zmo.1; rw [Z1a,Z1a]; exact e
   ·apply h2; apply Zmo.1; rw [Z1a,Z1a,Zgs]; exact e
theorem Zue (y:Int):fi (DD*(y*y)+1)≠0:=by
 have h:=Z0ju (fi y)
 intro e
 apply h
 rw [Z9l,Z1a,Z1a,Z00t,Zx6] at e
 generalize dF=d at *
 grind -lia -linarith (splits:=0)
theorem Z07g {y:Int} (h:(Z7i y).2=true):On (fi (Z7i y).1) (fi y):=by
 have hs:=(Zm9 (Zue y) h).1
 constructor
 have e:fi (DD*(y*y)+1)*(fi (Z7i y).1*fi (Z7i y).1)=fi (y*y-1):=hs
 rw [Z9l,Z1a,Z1a,Z00t,Zx6,Ze8,Z1a,Zx6] at e
 generalize dF=d at *
 generalize fi (Z7i y).1=x at *
 grind -lia -linarith (splits:=0)
theorem Z0ef {x y:F} (h:On x y):On (-x) y:=⟨by have e:=h.eq; generalize dF=d at *; grind -lia -linarith (splits:=0)⟩
theorem Zpl {p:LI} (h:dok p=true):dcan p=true/\(Z7i (Z8b (Z1m p))).2=true /\ ¬ (Zpo p=1/\(Z7i (Z8b (Z1m p))).1%PP=0):=by
 unfold dok at h
 simp only [Bool.and_eq_true,Bool.not_eq_true'] at h
 refine ⟨h.1.1,h.1.2,?_⟩
 intro hh
 have:=h.2
 simp [hh.1,hh.2] at this
theorem Zww {p:LI} (h:dok p=true) : ∃ P:G,Rep (dpt p) P/\P.y=fi (Z8b (Z1m p))/\P.x=fi (dx p):=by
 obtain ⟨_,h2,_⟩:=Zpl h
 have on:=Z07g h2
 have on2:On (fi (dx p)) (fi (Z8b (Z1m p))):=by
  unfold dx
  split
  ·rw [Zgs]; exact Z0ef on
  ·exact on
 refine ⟨⟨_,_,on2⟩,⟨?_,?_,?_,?_⟩,rfl,rfl⟩
 ·show fi 1≠0; decide +kernel
 ·show fi (dx p)=fi (dx p)*fi 1; rw [Zx6]; grind -lia -linarith (splits:=0)
 ·show fi (Z8b (Z1m p))=fi (Z8b (Z1m p))*fi 1; rw [Zx6]; grind -lia -linarith (splits:=0)
 ·show fi (dx p*Z8b (Z1m p))=fi (dx p)*fi (Z8b (Z1m p))*fi 1; rw [Zx6,Z1a]; grind -lia -linarith (splits:=0)
end Go.Proofs.YtiflckckekjbnaaGreatDoor
namespace Go.Proofs.YtiflckckekjbnaaGreatDoor
open Go Go.Sx Go.RowKit
open Go.IntKind (wrap)
set_option linter.all false
set_option maxRecDepth 100000
set_option maxHeartbeats 1000000
theorem Zr1 (k:Nat) {b:Int} (hk:k<=56) (h:0<=b/\b<256):Zj .u64 (wrap .u64 b) (k:Int)=b*((2^k:Nat):Int):=by
 have hp:(0:Int)<((2^k:Nat):Int):=by have:=Nat.pow_pos (n:=k) (show 0<2 by decide); omega
 have hle:((2^k:Nat):Int)<=72057594037927936:=by
  have:=Nat.pow_le_pow_right (show 0<2 by decide) hk
  have e:(2^56:Nat)=72057594037927936:=by decide
  omega
 have h1:b*((2^k:Nat):Int)<=255*72057594037927936:=Int.mul_le_mul (by omega) hle (by omega) (by omega)
 have h0:0<=b*((2^k:Nat):Int):=Int.mul_nonneg h.1 (by omega)
 rw [Zd h.1 (by omega),Zfw .u64 (n:=k) (by show k<=64; omega),Zd h0 (by omega)]
theorem Zay {b0 b1 b2 b3 b4 b5 b6 b7:Int} (h0:0<=b0/\b0<256) (h1:0<=b1/\b1<256) (h2:0<=b2/\b2<256) (h3:0<=b3/\b3<256) (h4:0<=b4/\b4<256) (h5:0<=b5/\b5<256) (h6:0<=b6/\b6<256) (h7:0<=b7/\b7<256):Z4 .or .u64 (Z4 .or .u64 (Z4 .or .u64 (Z4 .or .u64 (Z4 .or .u64 (Z4 .or .u64 (Z4 .or .u64 (Z4 .or .u64 (0) (Zj .u64 (wrap .u64 (b0)) 0)) (Zj .u64 (wrap .u64 (b1)) 8)) (Zj .u64 (wrap .u64 (b2)) 16)) (Zj .u64 (wrap .u64 (b3)) 24)) (Zj .u64 (wrap .u64 (b4)) 32)) (Zj .u64 (wrap .u64 (b5)) 40)) (Zj .u64 (wrap .u64 (b6)) 48)) (Zj .u64 (wrap .u64 (b7)) 56)=b0+b1*256+b2*65536+b3*16777216+b4*4294967296+b5*1099511627776+b6*281474976710656+b7*72057594037927936:=by
 have s0:=Zr1 0 (by decide) h0
 have s1:=Zr1 8 (by decide) h1
 have s2:=Zr1 16 (by decide) h2
 have s3:=Zr1 24 (by decide) h3
 have s4:=Zr1 32 (by decide) h4
 have s5:=Zr1 40 (by decide) h5
 have s6:=Zr1 48 (by decide) h6
 have s7:=Zr1 56 (by decide) h7
 have t0:Zj .u64 (wrap .u64 b0) 0=b0*1:=s0
 have t1:Zj .u64 (wrap .u64 b1) 8=b1*256:=s1
 have t2:Zj .u64 (wrap .u64 b2) 16=b2*65536:=s2
 have t3:Zj .u64 (wrap .u64 b3) 24=b3*16777216:=s3
 have t4:Zj .u64 (wrap .u64 b4) 32=b4*4294967296:=s4
 have t5:Zj .u64 (wrap .u64 b5) 40=b5*1099511627776:=s5
 have t6:Zj .u64 (wrap .u64 b6) 48=b6*281474976710656:=s6
 have t7:Zj .u64 (wrap .u64 b7) 56=b7*72057594037927936:=s7
 rw [t0,t1,t2,t3,t4,t5,t6,t7]
 rw [Z15 0 (x:=b0*1) (y:=0) (a:=b0) rfl (by omega) (by omega) (by decide) (by omega)]
 rw [Z15 8 (x:=b1*256) (a:=b1) rfl (by omega) (by omega) (by show _<(256:Int); omega) (by omega)]
 rw [Z15 16 (x:=b2*65536) (a:=b2) rfl (by omega) (by omega) (by show _<(65536:Int); omega) (by omega)]
 rw [Z15 24 (x:=b3*16777216) (a:=b3) rfl (by omega) (by omega) (by show _<(16777216:Int); omega) (by omega)]
 rw [Z15 32 (x:=b4*4294967296) (a:=b4) rfl (by omega) (by omega) (by show _<(4294967296:Int); omega) (by omega)]
 rw [Z15 40 (x:=b5*1099511627776) (a:=b5) rfl (by omega) (by omega) (by show _<(1099511627776:Int); omega) (by omega)]
 rw [Z15 48 (x:=b6*281474976710656) (a:=b6) rfl (by omega) (by omega) (by show _<(281474976710656:Int); omega) (by omega)]
 rw [Z15 56 (x:=b7*72057594037927936) (a:=b7) rfl (by omega) (by omega) (by show _<(72057594037927936:Int); omega) (by omega)]
 omega
theorem Z013 {p:LI} (h:Byt p) : ∃ r,Z9x p=some r/\W64 r/\r.length=4/\V4 r=Zgh p:=by
 refine ⟨_,Znb p,Zk4 ?_,rfl,?_⟩
 ·repeat' (first | exact Znc _ _ | exact List.forall_mem_nil _ | refine List.forall_mem_cons.2 ⟨?_,?_⟩)
 ·unfold V4
  simp only [List.getD_cons_zero,List.getD_cons_succ]
  rw [Zay (h 0) (h 1) (h 2) (h 3) (h 4) (h 5) (h 6) (h 7)]
  rw [Zay (h 8) (h 9) (h 10) (h 11) (h 12) (h 13) (h 14) (h 15)]
  rw [Zay (h 16) (h 17) (h 18) (h 19) (h 20) (h 21) (h 22) (h 23)]
  rw [Zay (h 24) (h 25) (h 26) (h 27) (h 28) (h 29) (h 30) (h 31)]
  unfold Zgh
  omega
theorem Z2r (x:Int):Zq .u64 x 8=x / 256:=by have:=Z9m .u64 (x:=x) (n:=8) (by decide); simpa using this
theorem Z04g {p:LI} (h:W64 p):V4 p%18446744073709551616=p.getD 0 0/\V4 p / 18446744073709551616%18446744073709551616=p.getD 1 0/\V4 p / 340282366920938463463374607431768211456%18446744073709551616=p.getD 2 0/\V4 p / 6277101735386680763835789423207666416102355444464034512896%18446744073709551616=p.getD 3 0:=by
 have h0:=h 0
 have h1:=h 1
 have h2:=h 2
 have h3:=h 3
 unfold V4
 refine ⟨by omega,by omega,by omega,by omega⟩
theorem sb_0 {n x:Int} (h:n%18446744073709551616=x):wrap .u8 (x)=n%256:=by
 simp only [Z2r,Z0u]
 omega
theorem sb_1 {n x:Int} (h:n%18446744073709551616=x):wrap .u8 (Zq .u64 (x) 8)=n / 256%256:=by
 simp only [Z2r,Z0u]
 omega
theorem sb_2 {n x:Int} (h:n%18446744073709551616=x):wrap .u8 (Zq .u64 (Zq .u64 (x) 8) 8)=n / 65536%256:=by
 simp only [Z2r,Z0u]
 omega
theorem sb_3 {n x:Int} (h:n%18446744073709551616=x):wrap .u8 (Zq .u64 (Zq .u64 (Zq .u64 (x) 8) 8) 8)=n / 16777216%256:=by
 simp only [Z2r,Z0u]
 omega
theorem sb_4 {n x:Int} (h:n%18446744073709551616=x):wrap .u8 (Zq .u64 (Zq .u64 (Zq .u64 (Zq .u64 (x) 8) 8) 8) 8)=n / 4294967296%256:=by
 simp only [Z2r,Z0u]
 omega
theorem sb_5 {n x:Int} (h:n%18446744073709551616=x):wrap .u8 (Zq .u64 (Zq .u64 (Zq .u64 (Zq .u64 (Zq .u64 (x) 8) 8) 8) 8) 8)=n / 1099511627776%256:=by
 simp only [Z2r,Z0u]
 omega
theorem sb_6 {n x:Int} (h:n%18446744073709551616=x):wrap .u8 (Zq .u64 (Zq .u64 (Zq .u64 (Zq .u64 (Zq .u64 (Zq .u64 (x) 8) 8) 8) 8) 8) 8)=n / 281474976710656%256:=by
 simp only [Z2r,Z0u]
 omega
theorem sb_7 {n x:Int} (h:n%18446744073709551616=x):wrap .u8 (Zq .u64 (Zq .u64 (Zq .u64 (Zq .u64 (Zq .u64 (Zq .u64 (Zq .u64 (x) 8) 8) 8) 8) 8) 8) 8)=n / 72057594037927936%256:=by
 simp only [Z2r,Z0u]
 omega
theorem sb_8 {n x:Int} (h:n / 18446744073709551616%18446744073709551616=x):wrap .u8 (x)=n / 18446744073709551616%256:=by
 simp only [Z2r,Z0u]
 omega
theorem sb_9 {n x:Int} (h:n / 18446744073709551616%18446744073709551616=x):wrap .u8 (Zq .u64 (x) 8)=n / 4722366482869645213696%256:=by
 simp only [Z2r,Z0u]
 omega
theorem Z0rm {n x:Int} (h:n / 18446744073709551616%18446744073709551616=x):wrap .u8 (Zq .u64 (Zq .u64 (x) 8) 8)=n / 1208925819614629174706176%256:=by
 simp only [Z2r,Z0u]
 omega
theorem Z0rn {n x:Int} (h:n / 18446744073709551616%18446744073709551616=x):wrap .u8 (Zq .u64 (Zq .u64 (Zq .u64 (x) 8) 8) 8)=n / 309485009821345068724781056%256:=by
 simp only [Z2r,Z0u]
 omega
theorem Z0ro {n x:Int} (h:n / 18446744073709551616%18446744073709551616=x):wrap .u8 (Zq .u64 (Zq .u64 (Zq .u64 (Zq .u64 (x) 8) 8) 8) 8)=n / 79228162514264337593543950336%256:=by
 simp only [Z2r,Z0u]
 omega
theorem Z0rp {n x:Int} (h:n / 18446744073709551616%18446744073709551616=x):wrap .u8 (Zq .u64 (Zq .u64 (Zq .u64 (Zq .u64 (Zq .u64 (x) 8) 8) 8) 8) 8)=n / 20282409603651670423947251286016%256:=by
 simp only [Z2r,Z0u]
 omega
theorem Z0rq {n x:Int} (h:n / 18446744073709551616%18446744073709551616=x):wrap .u8 (Zq .u64 (Zq .u64 (Zq .u64 (Zq .u64 (Zq .u64 (Zq .u64 (x) 8) 8) 8) 8) 8) 8)=n / 5192296858534827628530496329220096%256:=by
 simp only [Z2r,Z0u]
 omega
theorem Z0rr {n x:Int} (h:n / 18446744073709551616%18446744073709551616=x):wrap .u8 (Zq .u64 (Zq .u64 (Zq .u64 (Zq .u64 (Zq .u64 (Zq .u64 (Zq .u64 (x) 8) 8) 8) 8) 8) 8) 8)=n / 1329227995784915872903807060280344576%256:=by
 simp only [Z2r,Z0u]
 omega
theorem Z0rs {n x:Int} (h:n / 340282366920938463463374607431768211456%18446744073709551616=x):wrap .u8 (x)=n / 340282366920938463463374607431768211456%256:=by
 simp only [Z2r,Z0u]
 omega
theorem Z0rt {n x:Int} (h:n / 340282366920938463463374607431768211456%18446744073709551616=x):wrap .u8 (Zq .u64 (x) 8)=n / 87112285931760246646623899502532662132736%256:=by
 simp only [Z2r,Z0u]
 omega
theorem Z0ru {n x:Int} (h:n / 340282366920938463463374607431768211456%18446744073709551616=x):wrap .u8 (Zq .u64 (Zq .u64 (x) 8) 8)=n / 22300745198530623141535718272648361505980416%256:=by
 simp only [Z2r,Z0u]
 omega
theorem Z0rv {n x:Int} (h:n / 340282366920938463463374607431768211456%18446744073709551616=x):wrap .u8 (Zq .u64 (Zq .u64 (Zq .u64 (x) 8) 8) 8)=n / 5708990770823839524233143877797980545530986496%256:=by
 simp only [Z2r,Z0u]
 omega
theorem Z0rw {n x:Int} (h:n / 340282366920938463463374607431768211456%18446744073709551616=x):wrap .u8 (Zq .u64 (Zq .u64 (Zq .u64 (Zq .u64 (x) 8) 8) 8) 8)=n / 1461501637330902918203684832716283019655932542976%256:=by
 simp only [Z2r,Z0u]
 omega
theorem Z0rx {n x:Int} (h:n / 340282366920938463463374607431768211456%18446744073709551616=x):wrap .u8 (Zq .u64 (Zq .u64 (Zq .u64 (Zq .u64 (Zq .u64 (x) 8) 8) 8) 8) 8)=n / 374144419156711147060143317175368453031918731001856%256:=by
 simp only [Z2r,Z0u]
 omega
theorem Z0ry {n x:Int} (h:n / 340282366920938463463374607431768211456%18446744073709551616=x):wrap .u8 (Zq .u64 (Zq .u64 (Zq .u64 (Zq .u64 (Zq .u64 (Zq .u64 (x) 8) 8) 8) 8) 8) 8)=n / 95780971304118053647396689196894323976171195136475136%256:=by
 simp only [Z2r,Z0u]
 omega
theorem Z0rz {n x:Int} (h:n / 340282366920938463463374607431768211456%18446744073709551616=x):wrap .u8 (Zq .u64 (Zq .u64 (Zq .u64 (Zq .u64 (Zq .u64 (Zq .u64 (Zq .u64 (x) 8) 8) 8) 8) 8) 8) 8)=n / 24519928653854221733733552434404946937899825954937634816%256:=by
 simp only [Z2r,Z0u]
 omega
theorem Z0s0 {n x:Int} (h:n / 6277101735386680763835789423207666416102355444464034512896%18446744073709551616=x):wrap .u8 (x)=n / 6277101735386680763835789423207666416102355444464034512896%256:=by
 simp only [Z2r,Z0u]
 omega
theorem Z0s1 {n x:Int} (h:n / 6277101735386680763835789423207666416102355444464034512896%18446744073709551616=x):wrap .u8 (Zq .u64 (x) 8)=n / 1606938044258990275541962092341162602522202993782792835301376%256:=by
 simp only [Z2r,Z0u]
 omega
theorem Z0s2 {n x:Int} (h:n / 6277101735386680763835789423207666416102355444464034512896%18446744073709551616=x):wrap .u8 (Zq .u64 (Zq .u64 (x) 8) 8)=n / 411376139330301510538742295639337626245683966408394965837152256%256:=by
 simp only [Z2r,Z0u]
 omega
theorem Z0s3 {n x:Int} (h:n / 6277101735386680763835789423207666416102355444464034512896%18446744073709551616=x):wrap .u8 (Zq .u64 (Zq .u64 (Zq .u64 (x) 8) 8) 8)=n / 105312291668557186697918027683670432318895095400549111254310977536%256:=by
 simp only [Z2r,Z0u]
 omega
theorem Z0s4 {n x:Int} (h:n / 6277101735386680763835789423207666416102355444464034512896%18446744073709551616=x):wrap .u8 (Zq .u64 (Zq .u64 (Zq .u64 (Zq .u64 (x) 8) 8) 8) 8)=n / 26959946667150639794667015087019630673637144422540572481103610249216%256:=by
 simp only [Z2r,Z0u]
 omega
theorem Z0s5 {n x:Int} (h:n / 6277101735386680763835789423207666416102355444464034512896%18446744073709551616=x):wrap .u8 (Zq .u64 (Zq .u64 (Zq .u64 (Zq .u64 (Zq .u64 (x) 8) 8) 8) 8) 8)=n / 6901746346790563787434755862277025452451108972170386555162524223799296%256:=by
 simp only [Z2r,Z0u]
 omega
theorem Z0s6 {n x:Int} (h:n / 6277101735386680763835789423207666416102355444464034512896%18446744073709551616=x):wrap .u8 (Zq .u64 (Zq .u64 (Zq .u64 (Zq .u64 (Zq .u64 (Zq .u64 (x) 8) 8) 8) 8) 8) 8)=n / 1766847064778384329583297500742918515827483896875618958121606201292619776%256:=by
 simp only [Z2r,Z0u]
 omega
theorem Z0s7 {n x:Int} (h:n / 6277101735386680763835789423207666416102355444464034512896%18446744073709551616=x):wrap .u8 (Zq .u64 (Zq .u64 (Zq .u64 (Zq .u64 (Zq .u64 (Zq .u64 (Zq .u64 (x) 8) 8) 8) 8) 8) 8) 8)=n / 452312848583266388373324160190187140051835877600158453279131187530910662656%256:=by
 simp only [Z2r,Z0u]
 omega
theorem Zzg {p:LI} (h:W64 p):Z8t p=some (byt (V4 p)):=by
 obtain ⟨e0,e1,e2,e3⟩:=Z04g h
 rw [Zr5]
 unfold byt
 rw [sb_0 e0,sb_1 e0,sb_2 e0,sb_3 e0,sb_4 e0,sb_5 e0,sb_6 e0,sb_7 e0,sb_8 e1,sb_9 e1,Z0rm e1,Z0rn e1,Z0ro e1,Z0rp e1,Z0rq e1,Z0rr e1,Z0rs e2,Z0rt e2,Z0ru e2,Z0rv e2,Z0rw e2,Z0rx e2,Z0ry e2,Z0rz e2,Z0s0 e3,Z0s1 e3,Z0s2 e3,Z0s3 e3,Z0s4 e3,Z0s5 e3,Z0s6 e3,Z0s7 e3]
theorem Z02o {n:Int} (h0:0<=n) (h1:n<115792089237316195423570985008687907853269984665640564039457584007913129639936):Zgh (byt n)=n:=by
 simp only [Zgh,byt,List.getD_cons_zero,List.getD_cons_succ]
 omega
theorem Z08b (n:Int):0<=n%VL/\n%VL<VL:=⟨Int.emod_nonneg _ (by decide),Int.emod_lt_of_pos _ (by decide)⟩
theorem Zvq {p:LI} (h:Byt p):Z3c p=some (decide (Zgh p<VL)):=by
 obtain ⟨r,e,w,l,v⟩:=Z013 h
 obtain ⟨a,c,e2,wa,hc,va⟩:=Zhs w Zbb
 have ha:=Ze7 wa
 have hr:=Ze7 w
 rw [Zny] at va
 rw [Z3c,Z3 e,Z3 e2,<- v]
 rcases hc with h | h
 ·subst h
  rw [decide_eq_false (by omega)]; rfl
 ·subst h
  rw [decide_eq_true (by unfold B4 at *; omega)]; rfl
def wval (x:LI):Int:=x.getD 0 0+x.getD 1 0*256+x.getD 2 0*65536+x.getD 3 0*16777216+x.getD 4 0*4294967296+x.getD 5 0*1099511627776+x.getD 6 0*281474976710656+x.getD 7 0*72057594037927936+x.getD 8 0*18446744073709551616+x.getD 9 0*4722366482869645213696+x.getD 10 0*1208925819614629174706176+x.getD 11 0*309485009821345068724781056+x.getD 12 0*79228162514264337593543950336+x.getD 13 0*20282409603651670423947251286016+x.getD 14 0*5192296858534827628530496329220096+x.getD 15 0*1329227995784915872903807060280344576+x.getD 16 0*340282366920938463463374607431768211456+x.getD 17 0*87112285931760246646623899502532662132736+x.getD 18 0*22300745198530623141535718272648361505980416+x.getD 19 0*5708990770823839524233143877797980545530986496+x.getD 20 0*1461501637330902918203684832716283019655932542976+x.getD 21 0*374144419156711147060143317175368453031918731001856+x.getD 22 0*95780971304118053647396689196894323976171195136475136+x.getD 23 0*24519928653854221733733552434404946937899825954937634816+x.getD 24 0*6277101735386680763835789423207666416102355444464034512896+x.getD 25 0*1606938044258990275541962092341162602522202993782792835301376+x.getD 26 0*411376139330301510538742295639337626245683966408394965837152256+x.getD 27 0*105312291668557186697918027683670432318895095400549111254310977536+x.getD 28 0*26959946667150639794667015087019630673637144422540572481103610249216+x.getD 29 0*6901746346790563787434755862277025452451108972170386555162524223799296+x.getD 30 0*1766847064778384329583297500742918515827483896875618958121606201292619776+x.getD 31 0*452312848583266388373324160190187140051835877600158453279131187530910662656+x.getD 32 0*115792089237316195423570985008687907853269984665640564039457584007913129639936+x.getD 33 0*29642774844752946028434172162224104410437116074403984394101141506025761187823616+x.getD 34 0*7588550360256754183279148073529370729071901715047420004889892225542594864082845696+x.getD 35 0*1942668892225729070919461906823518906642406839052139521251812409738904285205208498176+x.getD 36 0*497323236409786642155382248146820840100456150797347717440463976893159497012533375533056+x.getD 37 0*127314748520905380391777855525586135065716774604121015664758778084648831235208544136462336+x.getD 38 0*32592575621351777380295131014550050576823494298654980010178247189670100796213387298934358016+x.getD 39 0*8343699359066055009355553539724812947666814540455674882605631280555545803830627148527195652096+x.getD 40 0*2135987035920910082395021706169552114602704522356652769947041607822219725780640550022962086936576+x.getD 41 0*546812681195752981093125556779405341338292357723303109106442651602488249799843980805878294255763456+x.getD 42 0*139984046386112763159840142535527767382602843577165595931249318810236991948760059086304843329475444736+x.getD 43 0*35835915874844867368919076489095108449946327955754392558399825615420669938882575126094039892345713852416+x.getD 44 0*9173994463960286046443283581208347763186259956673124494950355357547691504353939232280074212440502746218496+x.getD 45 0*2348542582773833227889480596789337027375682548908319870707290971532209025114608443463698998384768703031934976+x.getD 46 0*601226901190101306339707032778070279008174732520529886901066488712245510429339761526706943586500787976175353856+x.getD 47 0*153914086704665934422965000391185991426092731525255651046673021110334850669910978950836977558144201721900890587136+x.getD 48 0*39402006196394479212279040100143613805079739270465446667948293404245721771497210611414266254884915640806627990306816+x.getD 49 0*10086913586276986678343434265636765134100413253239154346994763111486904773503285916522052161250538404046496765518544896+x.getD 50 0*2582249878086908589655919172003011874329705792829223512830659356540647622016841194629645353280137831435903171972747493376+x.getD 51 0*661055968790248598951915308032771039828404682964281219284648795274405791236311345825189210439715284847591212025023358304256+x.getD 52 0*169230328010303641331690318856389386196071598838855992136870091590247882556495704531248437872567112920983350278405979725889536+x.getD 53 0*43322963970637732180912721627235682866194329302747133987038743447103457934462900359999600095377180907771737671271930809827721216+x.getD 54 0*11090678776483259438313656736572334813745748301503266300681918322458485231222502492159897624416558312389564843845614287315896631296+x.getD 55 0*2839213766779714416208296124562517712318911565184836172974571090549372219192960637992933791850638927971728600024477257552869537611776+x.getD 56 0*726838724295606890549323807888004534353641360687318060281490199180639288113397923326191050713763565560762521606266177933534601628614656+x.getD 57 0*186070713419675363980626894819329160794532188335953423432061490990243657757029868371504908982723472783555205531204141550984858016925351936+x.getD 58 0*47634102635436893179040485073748265163400240214004076398607741693502376385799646303105256699577209032590132615988260237052123652332890095616+x.getD 59 0*12194330274671844653834364178879555881830461494785043558043581873536608354764709453594945715091765512343073949692994620685343654997219864477696+x.getD 60 0*3121748550315992231381597229793166305748598142664971150859156959625371738819765620120306103063491971159826931121406622895447975679288285306290176+x.getD 61 0*799167628880894011233688890827050574271641124522232614619944181664095165137859998750798362384253944616915694367080095461234681773897801038410285056+x.getD 62 0*204586912993508866875824356051724947013540127877691549342705710506008362275292159680204380770369009821930417757972504438076078534117837065833032974336+x.getD 63 0*52374249726338269920211035149241586435466272736689036631732661889538140742474792878132321477214466514414186946040961136147476104734166288853256441430016
theorem Zus {p:LI} (h:Byt p):Z4g p=some (byt (wval p%VL)):=by
 rw [Z4g,Z17,Zmx]
 have hw:W64 ([Z4 .or .u64 (Z4 .or .u64 (Z4 .or .u64 (Z4 .or .u64 (Z4 .or .u64 (Z4 .or .u64 (Z4 .or .u64 (Z4 .or .u64 (0) (Zj .u64 (wrap .u64 (p.getD 0 0)) 0)) (Zj .u64 (wrap .u64 (p.getD 1 0)) 8)) (Zj .u64 (wrap .u64 (p.getD 2 0)) 16)) (Zj .u64 (wrap .u64 (p.getD 3 0)) 24)) (Zj .u64 (wrap .u64 (p.getD 4 0)) 32)) (Zj .u64 (wrap .u64 (p.getD 5 0)) 40)) (Zj .u64 (wrap .u64 (p.getD 6 0)) 48)) (Zj .u64 (wrap .u64 (p.getD 7 0)) 56),Z4 .or .u64 (Z4 .or .u64 (Z4 .or .u64 (Z4 .or .u64 (Z4 .or .u64 (Z4 .or .u64 (Z4 .or .u64 (Z4 .or .u64 (0) (Zj .u64 (wrap .u64 (p.getD 8 0)) 0)) (Zj .u64 (wrap .u64 (p.getD 9 0)) 8)) (Zj .u64 (wrap .u64 (p.getD 10 0)) 16)) (Zj .u64 (wrap .u64 (p.getD 11 0)) 24)) (Zj .u64 (wrap .u64 (p.getD 12 0)) 32)) (Zj .u64 (wrap .u64 (p.getD 13 0)) 40)) (Zj .u64 (wrap .u64 (p.getD 14 0)) 48)) (Zj .u64 (wrap .u64 (p.getD 15 0)) 56),Z4 .or .u64 (Z4 .or .u64 (Z4 .or .u64 (Z4 .or .u64 (Z4 .or .u64 (Z4 .or .u64 (Z4 .or .u64 (Z4 .or .u64 (0) (Zj .u64 (wrap .u64 (p.getD 16 0)) 0)) (Zj .u64 (wrap .u64 (p.getD 17 0)) 8)) (Zj .u64 (wrap .u64 (p.getD 18 0)) 16)) (Zj .u64 (wrap .u64 (p.getD 19 0)) 24)) (Zj .u64 (wrap .u64 (p.getD 20 0)) 32)) (Zj .u64 (wrap .u64 (p.getD 21 0)) 40)) (Zj .u64 (wrap .u64 (p.getD 22 0)) 48)) (Zj .u64 (wrap .u64 (p.getD 23 0)) 56),Z4 .or .u64 (Z4 .or .u64 (Z4 .or .u64 (Z4 .or .u64 (Z4 .or .u64 (Z4 .or .u64 (Z4 .or .u64 (Z4 .or .u64 (0) (Zj .u64 (wrap .u64 (p.getD 24 0)) 0)) (Zj .u64 (wrap .u64 (p.getD 25 0)) 8)) (Zj .u64 (wrap .u64 (p.getD 26 0)) 16)) (Zj .u64 (wrap .u64 (p.getD 27 0)) 24)) (Zj .u64 (wrap .u64 (p.getD 28 0)) 32)) (Zj .u64 (wrap .u64 (p.getD 29 0)) 40)) (Zj .u64 (wrap .u64 (p.getD 30 0)) 48)) (Zj .u64 (wrap .u64 (p.getD 31 0)) 56),Z4 .or .u64 (Z4 .or .u64 (Z4 .or .u64 (Z4 .or .u64 (Z4 .or .u64 (Z4 .or .u64 (Z4 .or .u64 (Z4 .or .u64 (0) (Zj .u64 (wrap .u64 (p.getD 32 0)) 0)) (Zj .u64 (wrap .u64 (p.getD 33 0)) 8)) (Zj .u64 (wrap .u64 (p.getD 34 0)) 16)) (Zj .u64 (wrap .u64 (p.getD 35 0)) 24)) (Zj .u64 (wrap .u64 (p.getD 36 0)) 32)) (Zj .u64 (wrap .u64 (p.getD 37 0)) 40)) (Zj .u64 (wrap .u64 (p.getD 38 0)) 48)) (Zj .u64 (wrap .u64 (p.getD 39 0)) 56),Z4 .or .u64 (Z4 .or .u64 (Z4 .or .u64 (Z4 .or .u64 (Z4 .or .u64 (Z4 .or .u64 (Z4 .or .u64 (Z4 .or .u64 (0) (Zj .u64 (wrap .u64 (p.getD 40 0)) 0)) (Zj .u64 (wrap .u64 (p.getD 41 0)) 8)) (Zj .u64 (wrap .u64 (p.getD 42 0)) 16)) (Zj .u64 (wrap .u64 (p.getD 43 0)) 24)) (Zj .u64 (wrap .u64 (p.getD 44 0)) 32)) (Zj .u64 (wrap .u64 (p.getD 45 0)) 40)) (Zj .u64 (wrap .u64 (p.getD 46 0)) 48)) (Zj .u64 (wrap .u64 (p.getD 47 0)) 56),Z4 .or .u64 (Z4 .or .u64 (Z4 .or .u64 (Z4 .or .u64 (Z4 .or .u64 (Z4 .or .u64 (Z4 .or .u64 (Z4 .or .u64 (0) (Zj .u64 (wrap .u64 (p.getD 48 0)) 0)) (Zj .u64 (wrap .u64 (p.getD 49 0)) 8)) (Zj .u64 (wrap .u64 (p.getD 50 0)) 16)) (Zj .u64 (wrap .u64 (p.getD 51 0)) 24)) (Zj .u64 (wrap .u64 (p.getD 52 0)) 32)) (Zj .u64 (wrap .u64 (p.getD 53 0)) 40)) (Zj .u64 (wrap .u64 (p.getD 54 0)) 48)) (Zj .u64 (wrap .u64 (p.getD 55 0)) 56),Z4 .or .u64 (Z4 .or .u64 (Z4 .or .u64 (Z4 .or .u64 (Z4 .or .u64 (Z4 .or .u64 (Z4 .or .u64 (Z4 .or .u64 (0) (Zj .u64 (wrap .u64 (p.getD 56 0)) 0)) (Zj .u64 (wrap .u64 (p.getD 57 0)) 8)) (Zj .u64 (wrap .u64 (p.getD 58 0)) 16)) (Zj .u64 (wrap .u64 (p.getD 59 0)) 24)) (Zj .u64 (wrap .u64 (p.getD 60 0)) 32)) (Zj .u64 (wrap .u64 (p.getD 61 0)) 40)) (Zj .u64 (wrap .u64 (p.getD 62 0)) 48)) (Zj .u64 (wrap .u64 (p.getD 63 0)) 56)]):=Zk4 (by
  repeat' (first | exact Znc _ _ | exact List.forall_mem_nil _ | refine List.forall_mem_cons.2 ⟨?_,?_⟩))
 have hv:pV ([Z4 .or .u64 (Z4 .or .u64 (Z4 .or .u64 (Z4 .or .u64 (Z4 .or .u64 (Z4 .or .u64 (Z4 .or .u64 (Z4 .or .u64 (0) (Zj .u64 (wrap .u64 (p.getD 0 0)) 0)) (Zj .u64 (wrap .u64 (p.getD 1 0)) 8)) (Zj .u64 (wrap .u64 (p.getD 2 0)) 16)) (Zj .u64 (wrap .u64 (p.getD 3 0)) 24)) (Zj .u64 (wrap .u64 (p.getD 4 0)) 32)) (Zj .u64 (wrap .u64 (p.getD 5 0)) 40)) (Zj .u64 (wrap .u64 (p.getD 6 0)) 48)) (Zj .u64 (wrap .u64 (p.getD 7 0)) 56),Z4 .or .u64 (Z4 .or .u64 (Z4 .or .u64 (Z4 .or .u64 (Z4 .or .u64 (Z4 .or .u64 (Z4 .or .u64 (Z4 .or .u64 (0) (Zj .u64 (wrap .u64 (p.getD 8 0)) 0)) (Zj .u64 (wrap .u64 (p.getD 9 0)) 8)) (Zj .u64 (wrap .u64 (p.getD 10 0)) 16)) (Zj .u64 (wrap .u64 (p.getD 11 0)) 24)) (Zj .u64 (wrap .u64 (p.getD 12 0)) 32)) (Zj .u64 (wrap .u64 (p.getD 13 0)) 40)) (Zj .u64 (wrap .u64 (p.getD 14 0)) 48)) (Zj .u64 (wrap .u64 (p.getD 15 0)) 56),Z4 .or .u64 (Z4 .or .u64 (Z4 .or .u64 (Z4 .or .u64 (Z4 .or .u64 (Z4 .or .u64 (Z4 .or .u64 (Z4 .or .u64 (0) (Zj .u64 (wrap .u64 (p.getD 16 0)) 0)) (Zj .u64 (wrap .u64 (p.getD 17 0)) 8)) (Zj .u64 (wrap .u64 (p.getD 18 0)) 16)) (Zj .u64 (wrap .u64 (p.getD 19 0)) 24)) (Zj .u64 (wrap .u64 (p.getD 20 0)) 32)) (Zj .u64 (wrap .u64 (p.getD 21 0)) 40)) (Zj .u64 (wrap .u64 (p.getD 22 0)) 48)) (Zj .u64 (wrap .u64 (p.getD 23 0)) 56),Z4 .or .u64 (Z4 .or .u64 (Z4 .or .u64 (Z4 .or .u64 (Z4 .or .u64 (Z4 .or .u64 (Z4 .or .u64 (Z4 .or .u64 (0) (Zj .u64 (wrap .u64 (p.getD 24 0)) 0)) (Zj .u64 (wrap .u64 (p.getD 25 0)) 8)) (Zj .u64 (wrap .u64 (p.getD 26 0)) 16)) (Zj .u64 (wrap .u64 (p.getD 27 0)) 24)) (Zj .u64 (wrap .u64 (p.getD 28 0)) 32)) (Zj .u64 (wrap .u64 (p.getD 29 0)) 40)) (Zj .u64 (wrap .u64 (p.getD 30 0)) 48)) (Zj .u64 (wrap .u64 (p.getD 31 0)) 56),Z4 .or .u64 (Z4 .or .u64 (Z4 .or .u64 (Z4 .or .u64 (Z4 .or .u64 (Z4 .or .u64 (Z4 .or .u64 (Z4 .or .u64 (0) (Zj .u64 (wrap .u64 (p.getD 32 0)) 0)) (Zj .u64 (wrap .u64 (p.getD 33 0)) 8)) (Zj .u64 (wrap .u64 (p.getD 34 0)) 16)) (Zj .u64 (wrap .u64 (p.getD 35 0)) 24)) (Zj .u64 (wrap .u64 (p.getD 36 0)) 32)) (Zj .u64 (wrap .u64 (p.getD 37 0)) 40)) (Zj .u64 (wrap .u64 (p.getD 38 0)) 48)) (Zj .u64 (wrap .u64 (p.getD 39 0)) 56),Z4 .or .u64 (Z4 .or .u64 (Z4 .or .u64 (Z4 .or .u64 (Z4 .or .u64 (Z4 .or .u64 (Z4 .or .u64 (Z4 .or .u64 (0) (Zj .u64 (wrap .u64 (p.getD 40 0)) 0)) (Zj .u64 (wrap .u64 (p.getD 41 0)) 8)) (Zj .u64 (wrap .u64 (p.getD 42 0)) 16)) (Zj .u64 (wrap .u64 (p.getD 43 0)) 24)) (Zj .u64 (wrap .u64 (p.getD 44 0)) 32)) (Zj .u64 (wrap .u64 (p.getD 45 0)) 40)) (Zj .u64 (wrap .u64 (p.getD 46 0)) 48)) (Zj .u64 (wrap .u64 (p.getD 47 0)) 56),Z4 .or .u64 (Z4 .or .u64 (Z4 .or .u64 (Z4 .or .u64 (Z4 .or .u64 (Z4 .or .u64 (Z4 .or .u64 (Z4 .or .u64 (0) (Zj .u64 (wrap .u64 (p.getD 48 0)) 0)) (Zj .u64 (wrap .u64 (p.getD 49 0)) 8)) (Zj .u64 (wrap .u64 (p.getD 50 0)) 16)) (Zj .u64 (wrap .u64 (p.getD 51 0)) 24)) (Zj .u64 (wrap .u64 (p.getD 52 0)) 32)) (Zj .u64 (wrap .u64 (p.getD 53 0)) 40)) (Zj .u64 (wrap .u64 (p.getD 54 0)) 48)) (Zj .u64 (wrap .u64 (p.getD 55 0)) 56),Z4 .or .u64 (Z4 .or .u64 (Z4 .or .u64 (Z4 .or .u64 (Z4 .or .u64 (Z4 .or .u64 (Z4 .or .u64 (Z4 .or .u64 (0) (Zj .u64 (wrap .u64 (p.getD 56 0)) 0)) (Zj .u64 (wrap .u64 (p.getD 57 0)) 8)) (Zj .u64 (wrap .u64 (p.getD 58 0)) 16)) (Zj .u64 (wrap .u64 (p.getD 59 0)) 24)) (Zj .u64 (wrap .u64 (p.getD 60 0)) 32)) (Zj .u64 (wrap .u64 (p.getD 61 0)) 40)) (Zj .u64 (wrap .u64 (p.getD 62 0)) 48)) (Zj .u64 (wrap .u64 (p.getD 63 0)) 56)]) 8=wval p:=by
  simp only [pV,List.getD_cons_zero,List.getD_cons_succ]
  rw [Zay (h 0) (h 1) (h 2) (h 3) (h 4) (h 5) (h 6) (h 7)]
  rw [Zay (h 8) (h 9) (h 10) (h 11) (h 12) (h 13) (h 14) (h 15)]
  rw [Zay (h 16) (h 17) (h 18) (h 19) (h 20) (h 21) (h 22) (h 23)]
  rw [Zay (h 24) (h 25) (h 26) (h 27) (h 28) (h 29) (h 30) (h 31)]
  rw [Zay (h 32) (h 33) (h 34) (h 35) (h 36) (h 37) (h 38) (h 39)]
  rw [Zay (h 40) (h 41) (h 42) (h 43) (h 44) (h 45) (h 46) (h 47)]
  rw [Zay (h 48) (h 49) (h 50) (h 51) (h 52) (h 53) (h 54) (h 55)]
  rw [Zay (h 56) (h 57) (h 58) (h 59) (h 60) (h 61) (h 62) (h 63)]
  have e0:(18446744073709551616:Int)^0=1:=by decide
  have e1:(18446744073709551616:Int)^1=18446744073709551616:=by decide
  have e2:(18446744073709551616:Int)^2=340282366920938463463374607431768211456:=by decide
  have e3:(18446744073709551616:Int)^3=6277101735386680763835789423207666416102355444464034512896:=by decide
  have e4:(18446744073709551616:Int)^4=115792089237316195423570985008687907853269984665640564039457584007913129639936:=by decide
  have e5:(18446744073709551616:Int)^5=2135987035920910082395021706169552114602704522356652769947041607822219725780640550022962086936576:=by decide
  have e6:(18446744073709551616:Int)^6=39402006196394479212279040100143613805079739270465446667948293404245721771497210611414266254884915640806627990306816:=by decide
  have e7:(18446744073709551616:Int)^7=726838724295606890549323807888004534353641360687318060281490199180639288113397923326191050713763565560762521606266177933534601628614656:=by decide
  rw [e0,e1,e2,e3,e4,e5,e6,e7]
  unfold wval
  omega
 obtain ⟨r,e,w,v⟩:=Zvg hw (Nat.le_refl _)
 rw [tk8,Z3 e,Z3 (Zzg w),v]
 rw [show pV ([Z4 .or .u64 (Z4 .or .u64 (Z4 .or .u64 (Z4 .or .u64 (Z4 .or .u64 (Z4 .or .u64 (Z4 .or .u64 (Z4 .or .u64 (0) (Zj .u64 (wrap .u64 (p.getD 0 0)) 0)) (Zj .u64 (wrap .u64 (p.getD 1 0)) 8)) (Zj .u64 (wrap .u64 (p.getD 2 0)) 16)) (Zj .u64 (wrap .u64 (p.getD 3 0)) 24)) (Zj .u64 (wrap .u64 (p.getD 4 0)) 32)) (Zj .u64 (wrap .u64 (p.getD 5 0)) 40)) (Zj .u64 (wrap .u64 (p.getD 6 0)) 48)) (Zj .u64 (wrap .u64 (p.getD 7 0)) 56),Z4 .or .u64 (Z4 .or .u64 (Z4 .or .u64 (Z4 .or .u64 (Z4 .or .u64 (Z4 .or .u64 (Z4 .or .u64 (Z4 .or .u64 (0) (Zj .u64 (wrap .u64 (p.getD 8 0)) 0)) (Zj .u64 (wrap .u64 (p.getD 9 0)) 8)) (Zj .u64 (wrap .u64 (p.getD 10 0)) 16)) (Zj .u64 (wrap .u64 (p.getD 11 0)) 24)) (Zj .u64 (wrap .u64 (p.getD 12 0)) 32)) (Zj .u64 (wrap .u64 (p.getD 13 0)) 40)) (Zj .u64 (wrap .u64 (p.getD 14 0)) 48)) (Zj .u64 (wrap .u64 (p.getD 15 0)) 56),Z4 .or .u64 (Z4 .or .u64 (Z4 .or .u64 (Z4 .or .u64 (Z4 .or .u64 (Z4 .or .u64 (Z4 .or .u64 (Z4 .or .u64 (0) (Zj .u64 (wrap .u64 (p.getD 16 0)) 0)) (Zj .u64 (wrap .u64 (p.getD 17 0)) 8)) (Zj .u64 (wrap .u64 (p.getD 18 0)) 16)) (Zj .u64 (wrap .u64 (p.getD 19 0)) 24)) (Zj .u64 (wrap .u64 (p.getD 20 0)) 32)) (Zj .u64 (wrap .u64 (p.getD 21 0)) 40)) (Zj .u64 (wrap .u64 (p.getD 22 0)) 48)) (Zj .u64 (wrap .u64 (p.getD 23 0)) 56),Z4 .or .u64 (Z4 .or .u64 (Z4 .or .u64 (Z4 .or .u64 (Z4 .or .u64 (Z4 .or .u64 (Z4 .or .u64 (Z4 .or .u64 (0) (Zj .u64 (wrap .u64 (p.getD 24 0)) 0)) (Zj .u64 (wrap .u64 (p.getD 25 0)) 8)) (Zj .u64 (wrap .u64 (p.getD 26 0)) 16)) (Zj .u64 (wrap .u64 (p.getD 27 0)) 24)) (Zj .u64 (wrap .u64 (p.getD 28 0)) 32)) (Zj .u64 (wrap .u64 (p.getD 29 0)) 40)) (Zj .u64 (wrap .u64 (p.getD 30 0)) 48)) (Zj .u64 (wrap .u64 (p.getD 31 0)) 56),Z4 .or .u64 (Z4 .or .u64 (Z4 .or .u64 (Z4 .or .u64 (Z4 .or .u64 (Z4 .or .u64 (Z4 .or .u64 (Z4 .or .u64 (0) (Zj .u64 (wrap .u64 (p.getD 32 0)) 0)) (Zj .u64 (wrap .u64 (p.getD 33 0)) 8)) (Zj .u64 (wrap .u64 (p.getD 34 0)) 16)) (Zj .u64 (wrap .u64 (p.getD 35 0)) 24)) (Zj .u64 (wrap .u64 (p.getD 36 0)) 32)) (Zj .u64 (wrap .u64 (p.getD 37 0)) 40)) (Zj .u64 (wrap .u64 (p.getD 38 0)) 48)) (Zj .u64 (wrap .u64 (p.getD 39 0)) 56),Z4 .or .u64 (Z4 .or .u64 (Z4 .or .u64 (Z4 .or .u64 (Z4 .or .u64 (Z4 .or .u64 (Z4 .or .u64 (Z4 .or .u64 (0) (Zj .u64 (wrap .u64 (p.getD 40 0)) 0)) (Zj .u64 (wrap .u64 (p.getD 41 0)) 8)) (Zj .u64 (wrap .u64 (p.getD 42 0)) 16)) (Zj .u64 (wrap .u64 (p.getD 43 0)) 24)) (Zj .u64 (wrap .u64 (p.getD 44 0)) 32)) (Zj .u64 (wrap .u64 (p.getD 45 0)) 40)) (Zj .u64 (wrap .u64 (p.getD 46 0)) 48)) (Zj .u64 (wrap .u64 (p.getD 47 0)) 56),Z4 .or .u64 (Z4 .or .u64 (Z4 .or .u64 (Z4 .or .u64 (Z4 .or .u64 (Z4 .or .u64 (Z4 .or .u64 (Z4 .or .u64 (0) (Zj .u64 (wrap .u64 (p.getD 48 0)) 0)) (Zj .u64 (wrap .u64 (p.getD 49 0)) 8)) (Zj .u64 (wrap .u64 (p.getD 50 0)) 16)) (Zj .u64 (wrap .u64 (p.getD 51 0)) 24)) (Zj .u64 (wrap .u64 (p.getD 52 0)) 32)) (Zj .u64 (wrap .u64 (p.getD 53 0)) 40)) (Zj .u64 (wrap .u64 (p.getD 54 0)) 48)) (Zj .u64 (wrap .u64 (p.getD 55 0)) 56),Z4 .or .u64 (Z4 .or .u64 (Z4 .or .u64 (Z4 .or .u64 (Z4 .or .u64 (Z4 .or .u64 (Z4 .or .u64 (Z4 .or .u64 (0) (Zj .u64 (wrap .u64 (p.getD 56 0)) 0)) (Zj .u64 (wrap .u64 (p.getD 57 0)) 8)) (Zj .u64 (wrap .u64 (p.getD 58 0)) 16)) (Zj .u64 (wrap .u64 (p.getD 59 0)) 24)) (Zj .u64 (wrap .u64 (p.getD 60 0)) 32)) (Zj .u64 (wrap .u64 (p.getD 61 0)) 40)) (Zj .u64 (wrap .u64 (p.getD 62 0)) 48)) (Zj .u64 (wrap .u64 (p.getD 63 0)) 56)]) ([Z4 .or .u64 (Z4 .or .u64 (Z4 .or .u64 (Z4 .or .u64 (Z4 .or .u64 (Z4 .or .u64 (Z4 .or .u64 (Z4 .or .u64 (0) (Zj .u64 (wrap .u64 (p.getD 0 0)) 0)) (Zj .u64 (wrap .u64 (p.getD 1 0)) 8)) (Zj .u64 (wrap .u64 (p.getD 2 0)) 16)) (Zj .u64 (wrap .u64 (p.getD 3 0)) 24)) (Zj .u64 (wrap .u64 (p.getD 4 0)) 32)) (Zj .u64 (wrap .u64 (p.getD 5 0)) 40)) (Zj .u64 (wrap .u64 (p.getD 6 0)) 48)) (Zj .u64 (wrap .u64 (p.getD 7 0)) 56),Z4 .or .u64 (Z4 .or .u64 (Z4 .or .u64 (Z4 .or .u64 (Z4 .or .u64 (Z4 .or .u64 (Z4 .or .u64 (Z4 .or .u64 (0) (Zj .u64 (wrap .u64 (p.getD 8 0)) 0)) (Zj .u64 (wrap .u64 (p.getD 9 0)) 8)) (Zj .u64 (wrap .u64 (p.getD 10 0)) 16)) (Zj .u64 (wrap .u64 (p.getD 11 0)) 24)) (Zj .u64 (wrap .u64 (p.getD 12 0)) 32)) (Zj .u64 (wrap .u64 (p.getD 13 0)) 40)) (Zj .u64 (wrap .u64 (p.getD 14 0)) 48)) (Zj .u64 (wrap .u64 (p.getD 15 0)) 56),Z4 .or .u64 (Z4 .or .u64 (Z4 .or .u64 (Z4 .or .u64 (Z4 .or .u64 (Z4 .or .u64 (Z4 .or .u64 (Z4 .or .u64 (0) (Zj .u64 (wrap .u64 (p.getD 16 0)) 0)) (Zj .u64 (wrap .u64 (p.getD 17 0)) 8)) (Zj .u64 (wrap .u64 (p.getD 18 0)) 16)) (Zj .u64 (wrap .u64 (p.getD 19 0)) 24)) (Zj .u64 (wrap .u64 (p.getD 20 0)) 32)) (Zj .u64 (wrap .u64 (p.getD 21 0)) 40)) (Zj .u64 (wrap .u64 (p.getD 22 0)) 48)) (Zj .u64 (wrap .u64 (p.getD 23 0)) 56),Z4 .or .u64 (Z4 .or .u64 (Z4 .or .u64 (Z4 .or .u64 (Z4 .or .u64 (Z4 .or .u64 (Z4 .or .u64 (Z4 .or .u64 (0) (Zj .u64 (wrap .u64 (p.getD 24 0)) 0)) (Zj .u64 (wrap .u64 (p.getD 25 0)) 8)) (Zj .u64 (wrap .u64 (p.getD 26 0)) 16)) (Zj .u64 (wrap .u64 (p.getD 27 0)) 24)) (Zj .u64 (wrap .u64 (p.getD 28 0)) 32)) (Zj .u64 (wrap .u64 (p.getD 29 0)) 40)) (Zj .u64 (wrap .u64 (p.getD 30 0)) 48)) (Zj .u64 (wrap .u64 (p.getD 31 0)) 56),Z4 .or .u64 (Z4 .or .u64 (Z4 .or .u64 (Z4 .or .u64 (Z4 .or .u64 (Z4 .or .u64 (Z4 .or .u64 (Z4 .or .u64 (0) (Zj .u64 (wrap .u64 (p.getD 32 0)) 0)) (Zj .u64 (wrap .u64 (p.getD 33 0)) 8)) (Zj .u64 (wrap .u64 (p.getD 34 0)) 16)) (Zj .u64 (wrap .u64 (p.getD 35 0)) 24)) (Zj .u64 (wrap .u64 (p.getD 36 0)) 32)) (Zj .u64 (wrap .u64 (p.getD 37 0)) 40)) (Zj .u64 (wrap .u64 (p.getD 38 0)) 48)) (Zj .u64 (wrap .u64 (p.getD 39 0)) 56),Z4 .or .u64 (Z4 .or .u64 (Z4 .or .u64 (Z4 .or .u64 (Z4 .or .u64 (Z4 .or .u64 (Z4 .or .u64 (Z4 .or .u64 (0) (Zj .u64 (wrap .u64 (p.getD 40 0)) 0)) (Zj .u64 (wrap .u64 (p.getD 41 0)) 8)) (Zj .u64 (wrap .u64 (p.getD 42 0)) 16)) (Zj .u64 (wrap .u64 (p.getD 43 0)) 24)) (Zj .u64 (wrap .u64 (p.getD 44 0)) 32)) (Zj .u64 (wrap .u64 (p.getD 45 0)) 40)) (Zj .u64 (wrap .u64 (p.getD 46 0)) 48)) (Zj .u64 (wrap .u64 (p.getD 47 0)) 56),Z4 .or .u64 (Z4 .or .u64 (Z4 .or .u64 (Z4 .or .u64 (Z4 .or .u64 (Z4 .or .u64 (Z4 .or .u64 (Z4 .or .u64 (0) (Zj .u64 (wrap .u64 (p.getD 48 0)) 0)) (Zj .u64 (wrap .u64 (p.getD 49 0)) 8)) (Zj .u64 (wrap .u64 (p.getD 50 0)) 16)) (Zj .u64 (wrap .u64 (p.getD 51 0)) 24)) (Zj .u64 (wrap .u64 (p.getD 52 0)) 32)) (Zj .u64 (wrap .u64 (p.getD 53 0)) 40)) (Zj .u64 (wrap .u64 (p.getD 54 0)) 48)) (Zj .u64 (wrap .u64 (p.getD 55 0)) 56),Z4 .or .u64 (Z4 .or .u64 (Z4 .or .u64 (Z4 .or .u64 (Z4 .or .u64 (Z4 .or .u64 (Z4 .or .u64 (Z4 .or .u64 (0) (Zj .u64 (wrap .u64 (p.getD 56 0)) 0)) (Zj .u64 (wrap .u64 (p.getD 57 0)) 8)) (Zj .u64 (wrap .u64 (p.getD 58 0)) 16)) (Zj .u64 (wrap .u64 (p.getD 59 0)) 24)) (Zj .u64 (wrap .u64 (p.getD 60 0)) 32)) (Zj .u64 (wrap .u64 (p.getD 61 0)) 40)) (Zj .u64 (wrap .u64 (p.getD 62 0)) 48)) (Zj .u64 (wrap .u64 (p.getD 63 0)) 56)]).length=wval p from hv]
theorem Zz9 {α:Type} {o:Option α} (h:o.isSome=true) : ∃ r,o=some r:=by
 cases o with
 | none=>cases h
 | some r=>exact ⟨r,rfl⟩
theorem Zwl (s h:LI):(Z8u s h).isSome=true:=by kernel_rfl
theorem Zmc (x:Int) : ∃ r,Z29 x=some r/\r.length=8:=by
 have:((Z29 x).map (·.length))=some 8:=by kernel_rfl
 cases h:Z29 x with
 | none=>rw [h] at this; cases this
 | some r=>exact ⟨r,rfl,by rw [h] at this; simpa using this⟩
theorem Zw2 (z:Int) (m:Nat) : ∀ (l a h:LI) (c:Int),l.length<=m->0<=c->c<128->∀ n,∃ r,Z09 z (n+1+m) l a h c=some r/\r.glength=z/\0<=r.ghave/\r.ghave<128:=by
 induction m with
 | zero =>
  intro l a h c hl h0 h1 n
  refine ⟨⟨a,h,c,z⟩,?_,rfl,h0,h1⟩
  rw [Nat.add_zero,Z09,Z1b,Z08 (decide_eq_false (by omega))]
 | succ m ih =>
  intro l a h c hl h0 h1 n
  by_cases he:l.length=0
  ·refine ⟨⟨a,h,c,z⟩,?_,rfl,h0,h1⟩
   rw [<- Nat.add_assoc,Z09,Z1b,Z08 (decide_eq_false (by omega))]
  ·have hmin:0<Nat.min l.length (128-c.toNat)/\Nat.min l.length (128-c.toNat)<=l.length/\Nat.min l.length (128-c.toNat)<=128-c.toNat:=by
    refine ⟨?_,Nat.min_le_left _ _,Nat.min_le_right _ _⟩
    show 0<min l.length (128-c.toNat)
    omega
   have ew:wrap .i64 (c+((Nat.min l.length (128-c.toNat):Nat):Int))=c+((Nat.min l.length (128-c.toNat):Nat):Int):=Zl (by omega) (by omega)
   have hlen:(((l.drop (((Nat.min l.length (128-c.toNat):Nat):Int)).toNat).take (((l.length:Int)).toNat-(((Nat.min l.length (128-c.toNat):Nat):Int)).toNat))).length<=m:=by
    simp only [List.length_take,List.length_drop,Int.toNat_natCast]; omega
   rw [<- Nat.add_assoc,Z09,Z1b,Z0n (decide_eq_true (by omega)),Zp (by unfold Z9i; simp; omega),Zb,Zp (by unfold Z9i; simp only [Bool.and_eq_true,decide_eq_true_eq]; omega),Zb,ew]
   by_cases h128:c+((Nat.min l.length (128-c.toNat):Nat):Int)=128
   ·obtain ⟨b,eb⟩:=Zz9 (Zwl a (wr h c.toNat (l.take (128-c.toNat))))
    rw [Z0n (by simpa using h128),Z3 eb]
    exact ih _ _ _ 0 hlen (by omega) (by omega) n
   ·rw [Z08 (by simpa using h128)]
    exact ih _ _ _ _ hlen (by omega) (by omega) n
theorem Zrd (d:Zv) (l:LI) (hl:l.length<18446744073709551615) (h0:0<=d.ghave) (h1:d.ghave<128) : ∃ r,Z1q d l=some r/\0<=r.ghave/\r.ghave<128/\r.glength=wrap .u64 (d.glength+wrap .u64 (l.length:Int)):=by
 obtain ⟨n,hn⟩ : ∃ n',big=n'+1+l.length:=⟨18446744073709551615-l.length,by have:big=18446744073709551616:=Z25; omega⟩
 rw [Z1q,Zb,Zb,hn]
 obtain ⟨r,e,hz,hh⟩:=Zw2 (wrap .u64 (d.glength+wrap .u64 (l.length:Int))) l.length l d.gstate d.gheld d.ghave (Nat.le_refl _) h0 h1 n
 exact ⟨r,e,hh.1,hh.2,hz⟩
theorem Z068 (x:Int) : ∃ r,Z7m x=some r/\r.length<=1000:=by
 have hz3:=Zsy (x+17)
 obtain ⟨y1,e1,l1⟩:=Zmc (Zq .u64 x 61)
 obtain ⟨y2,e2,l2⟩:=Zmc (Zj .u64 x 3)
 generalize hz:wrap .u64 (x+17)=z3 at hz3
 have et:Int.tmod z3 128=z3%128:=Int.tmod_eq_emod_of_nonneg hz3.1
 have ew:wrap .i64 (z3%128)=z3%128:=Zl (by omega) (by omega)
 have ew2:wrap .i64 (128-z3%128)=128-z3%128:=Zl (by omega) (by omega)
 have et2:Int.tmod (128-z3%128) 128=(128-z3%128)%128:=Int.tmod_eq_emod_of_nonneg (by omega)
 simp only [Z7m,Zb,hz,et,ew,ew2,et2]
 have hr:0<=(128-z3%128)%128/\(128-z3%128)%128<128:=by omega
 generalize (128-z3%128)%128=w at hr
 have ew3:wrap .i64 (17+w)=17+w:=Zl (by omega) (by omega)
 simp only [ew3]
 refine ⟨(((List.replicate 0 0 ++ [128])++List.replicate w.toNat 0)++y1)++y2,?_,?_⟩
 ·rw [Zp (by unfold mkB; simp only [Bool.and_eq_true,decide_eq_true_eq]; omega),Zp (by simp),Zp (by simp; omega),Zp (by simp; omega),Z3 e1,Zp (by simp [l1]; omega),Z3 e2,Zp (by simp [l1,l2]; omega)]
 ·simp [l1,l2]; omega
theorem Z07p (y d:Zv):(Z2q y (fun a74=>some (a74,d)) big 0 (List.replicate 64 0)).isSome=true:=by kernel_rfl
theorem Z07q (d:Zv) (h0:0<=d.ghave) (h1:d.ghave<128) : ∃ r,Z30 d=some r:=by
 obtain ⟨p,e,hl⟩:=Z068 d.glength
 obtain ⟨y,e2,_⟩:=Zrd d p (by omega) h0 h1
 obtain ⟨r,e3⟩:=Zz9 (Z07p y d)
 refine ⟨r,?_⟩
 rw [Z30,Z4s,Z3 rfl]
 show opt (Z7m d.glength) _=_
 rw [Z3 e]
 show opt (Z1q d p) _=_
 rw [Z3 e2,Z17,e3]
theorem Zxc {p:List (LI)} (hp : ∀ i,(p.getD i []).length<18446744073709551615) (hb:p.length<1000000) {k:LI->LI->Int->Int->Option (LI)} (hk : ∀ a b c d,0<=c->c<128->∃ r,k a b c d=some r/\Byt r/\r.length=32) (m:Nat) : ∀ (n i:Nat) (a b:LI) (c d:Int),i+m=p.length->0<=c->c<128 ->
  ∃ r,Z40 p k (n+1+m) (i:Int) a b c d=some r/\Byt r/\r.length=32:=by
 induction m with
 | zero =>
  intro n i a b c d hi h0 h1
  rw [Nat.add_zero,Z40,Z7g,Z08 (decide_eq_false (by omega))]
  exact hk a b c d h0 h1
 | succ m ih =>
  intro n i a b c d hi h0 h1
  have e1:wrap .i64 ((i:Int)+1)=((i+1:Nat):Int):=by rw [Zl (by omega) (by omega)]; rfl
  obtain ⟨y,e,g0,g1,_⟩:=Zrd ⟨a,b,c,d⟩ (p.getD i []) (hp i) h0 h1
  rw [<- Nat.add_assoc,Z40,Z7g,Z0n (decide_eq_true (by omega)),Zp (Z0i (by omega) (by omega)),Int.toNat_natCast,Z3 e,Zb,e1]
  exact ih n (i+1) _ _ _ _ (by omega) g0 g1
theorem Z00y {p:List (LI)} (hp : ∀ i,(p.getD i []).length<18446744073709551615) (hb:p.length<1000000) : ∃ r,Z9d p=some r/\Byt r/\r.length=32:=by
 obtain ⟨n,hn⟩ : ∃ n',big=n'+1+p.length:=⟨18446744073709551615-p.length,by have:big=18446744073709551616:=Z25; omega⟩
 rw [Z9d,Zdj,Z3 rfl,Z17,hn]
 refine Zxc hp hb ?_ p.length n 0 _ _ _ _ (by omega) (by decide) (by decide)
 intro a b c d h0 h1
 obtain ⟨r,e⟩:=Z07q ⟨a,b,c,d⟩ h0 h1
 obtain ⟨s,e2,hs⟩:=Zur r.1
 refine ⟨s,?_,hs⟩
 rw [Z3 e,Z3 e2]
theorem Zk3 {p:LI} (h:Byt p) (o n:Nat):Byt (tk p o n):=by
 intro i
 rw [Zp9]
 split
 ·exact h _
 ·decide
theorem Zvz {k m s:LI} (hk:Byt k) (hm:m.length<18446744073709551615) (hs:Byt s) : ∃ b,Z4a k m s=some b:=by
 rw [Z4a,Z3 (Zpm hk)]
 obtain ⟨c,hc⟩:=Zo7 (tk (tk s 32 (64-32)) 0 32)
 rw [Zp (by rw [Z0y]; decide),Zb,hc,Zp (by simp [imp])]
 by_cases hd:dok k=true
 ·rw [if_pos hd]
  cases c
  ·exact ⟨false,Z0n rfl⟩
  ·obtain ⟨h,eh,hb,hl⟩:=Z00y (p:=[(tk s 0 32),(tk k 0 32),m]) (by
    intro i
    match i with
    | 0=>show (tk s 0 32).length<_; rw [Z0y]; decide
    | 1=>show (tk k 0 32).length<_; rw [Z0y]; decide
    | 2=>exact hm
    | i+3=>show ([]:LI).length<_; decide) (by simp)
   rw [Z08 (c:=(!(pt (dpt k),true).snd || !(some true).getD false)) rfl,Z17,Z3 eh]
   show ∃ b,opt (Zbe (pt (dpt k))) _=some b
   rw [Z3 (Zwu _),Z3 (Zn5 hb (Zk3 (Zk3 hs _ _) _ _) _),Z3 (Zpq _),Zp (by rw [Z0y]; decide),Zb]
   exact ⟨_,rfl⟩
 ·rw [if_neg hd]
  exact ⟨false,Z0n rfl⟩
end Go.Proofs.YtiflckckekjbnaaGreatDoor
