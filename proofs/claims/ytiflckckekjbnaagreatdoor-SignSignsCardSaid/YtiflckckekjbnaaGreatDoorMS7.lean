/- Texts of a proof, one behind the other: R1 R2 V2 V3 HB R3 G3 H3 R4 R5 R6 R7. -/
import Derived.Test.YtiflckckekjbnaaGreatDoorMS6
namespace Go.Proofs.YtiflckckekjbnaaGreatDoor
open Go Go.Sx Go.RowKit
set_option linter.all false
set_option maxRecDepth 100000
set_option maxHeartbeats 1000000
def rV (l:List Int):Nat→Int
  | 0=>0
  | n+1=>rV l n+l.getD n 0*(67108864:Int)^n
theorem rV_succ (l:List Int) (n:Nat):rV l (n+1)=rV l n+l.getD n 0*(67108864:Int)^n:=rfl
theorem rV_set_ge (l:List Int) (i:Nat) (v:Int) : ∀ n,n≤i→rV (setD l i v) n=rV l n
  | 0,_=>rfl
  | n+1,h=>by rw [rV_succ,rV_succ,rV_set_ge l i v n (by omega),getD_setD,if_neg (by omega)]
theorem rV_set (l:List Int) (i:Nat) (v:Int) : ∀ n,i<n→rV (setD l i v) n=rV l n+(v-l.getD i 0)*(67108864:Int)^i
  | 0,h=>by omega
  | n+1,h=>by
    rw [rV_succ,rV_succ,getD_setD]
    by_cases hi:n=i
    · subst hi
      rw [if_pos rfl,rV_set_ge l n v n (Nat.le_refl _),Int.sub_mul]
      omega
    · rw [if_neg hi,rV_set l i v n (by omega)]
      omega
theorem rpow_pos (n:Nat):0<(67108864:Int)^n:=Int.pow_pos (by decide)
theorem rV_rng {l:List Int} : ∀ n,(∀ i,i<n→0≤l.getD i 0∧l.getD i 0<67108864)→0≤rV l n∧rV l n<(67108864:Int)^n
  | 0,_=>by show (0:Int)≤0∧(0:Int)<1; omega
  | n+1,h=>by
    have ih:=rV_rng n (fun i hi=>h i (by omega))
    have h1:=h n (by omega)
    have hp:=rpow_pos n
    rw [rV_succ,Int.pow_succ]
    generalize (67108864:Int)^n=w at *
    generalize l.getD n 0=x at *
    generalize rV l n=v at *
    have a:0≤x*w:=Int.mul_nonneg h1.1 (by omega)
    have b:x*w≤67108863*w:=Int.mul_le_mul_of_nonneg_right (by omega) (by omega)
    omega
theorem and26 {x:Int} (h0:0≤x) (h1:x<18446744073709551616):bitsV .and .u64 x 67108863=x%67108864:=and_low 26 (by decide) (by decide) h0 h1
theorem and21 {x:Int} (h0:0≤x) (h1:x<18446744073709551616):bitsV .and .u64 x 2097151=x%2097152:=and_low 21 (by decide) (by decide) h0 h1
theorem shr26 (x:Int):shrV .u64 x 26=x / 67108864:=by have:=shr_eq .u64 (x:=x) (n:=26) (by decide); simpa using this
theorem shr21 (x:Int):shrV .u64 x 21=x / 2097152:=by have:=shr_eq .u64 (x:=x) (n:=21) (by decide); simpa using this
theorem shr52 (x:Int):shrV .u64 x 52=x / 4503599627370496:=by have:=shr_eq .u64 (x:=x) (n:=52) (by decide); simpa using this
theorem setD_len {l:List Int} {i:Nat} {v:Int} (h:i<l.length):(setD l i v).length=l.length:=by rw [setD_eq h,List.length_set]
theorem i64_succ {i:Nat} (h:i<1000000):IntKind.wrap .i64 ((i:Int)+1)=((i+1:Nat):Int):=by rw [wi64_small (by omega) (by omega)]; rfl
def rdig (n:Int):List Int:=[n%67108864,n / 67108864%67108864,n / 4503599627370496%67108864,n / 302231454903657293676544%67108864,n / 20282409603651670423947251286016%67108864,n / 1361129467683753853853498429727072845824%67108864,n / 91343852333181432387730302044767688728495783936%67108864,n / 6129982163463555433433388108601236734474956488734408704%67108864,n / 411376139330301510538742295639337626245683966408394965837152256%67108864,n / 27606985387162255149739023449108101809804435888681546220650096895197184%67108864]
def rn (n:Int):List Int:=rdig (n%PP)
theorem rV_ten (l:List Int):rV l 10=l.getD 0 0+l.getD 1 0*67108864+l.getD 2 0*4503599627370496+l.getD 3 0*302231454903657293676544+l.getD 4 0*20282409603651670423947251286016+l.getD 5 0*1361129467683753853853498429727072845824+l.getD 6 0*91343852333181432387730302044767688728495783936+l.getD 7 0*6129982163463555433433388108601236734474956488734408704+l.getD 8 0*411376139330301510538742295639337626245683966408394965837152256+l.getD 9 0*27606985387162255149739023449108101809804435888681546220650096895197184:=by
  simp only [rV]
  have e0:(67108864:Int)^0=1:=by decide
  have e1:(67108864:Int)^1=67108864:=by decide
  have e2:(67108864:Int)^2=4503599627370496:=by decide
  have e3:(67108864:Int)^3=302231454903657293676544:=by decide
  have e4:(67108864:Int)^4=20282409603651670423947251286016:=by decide
  have e5:(67108864:Int)^5=1361129467683753853853498429727072845824:=by decide
  have e6:(67108864:Int)^6=91343852333181432387730302044767688728495783936:=by decide
  have e7:(67108864:Int)^7=6129982163463555433433388108601236734474956488734408704:=by decide
  have e8:(67108864:Int)^8=411376139330301510538742295639337626245683966408394965837152256:=by decide
  have e9:(67108864:Int)^9=27606985387162255149739023449108101809804435888681546220650096895197184:=by decide
  rw [e0,e1,e2,e3,e4,e5,e6,e7,e8,e9]
  omega
theorem list_ten {l:List Int} (h:l.length=10):l = [l.getD 0 0,l.getD 1 0,l.getD 2 0,l.getD 3 0,l.getD 4 0,l.getD 5 0,l.getD 6 0,l.getD 7 0,l.getD 8 0,l.getD 9 0]:=by
  match l,h with
  | [a0,a1,a2,a3,a4,a5,a6,a7,a8,a9],_=>rfl
theorem rdig_unique {l:List Int} (hl:l.length=10) (hd : ∀ i,0≤l.getD i 0∧l.getD i 0<67108864):l=rdig (rV l 10):=by
  rw [rV_ten]
  have e:=list_ten hl
  have h0:=hd 0
  have h1:=hd 1
  have h2:=hd 2
  have h3:=hd 3
  have h4:=hd 4
  have h5:=hd 5
  have h6:=hd 6
  have h7:=hd 7
  have h8:=hd 8
  have h9:=hd 9
  generalize hq:l.getD 0 0+l.getD 1 0*67108864+l.getD 2 0*4503599627370496+l.getD 3 0*302231454903657293676544+l.getD 4 0*20282409603651670423947251286016+l.getD 5 0*1361129467683753853853498429727072845824+l.getD 6 0*91343852333181432387730302044767688728495783936+l.getD 7 0*6129982163463555433433388108601236734474956488734408704+l.getD 8 0*411376139330301510538742295639337626245683966408394965837152256+l.getD 9 0*27606985387162255149739023449108101809804435888681546220650096895197184=n
  refine e.trans ?_
  clear e hd hl
  generalize l.getD 0 0=d0 at *
  generalize l.getD 1 0=d1 at *
  generalize l.getD 2 0=d2 at *
  generalize l.getD 3 0=d3 at *
  generalize l.getD 4 0=d4 at *
  generalize l.getD 5 0=d5 at *
  generalize l.getD 6 0=d6 at *
  generalize l.getD 7 0=d7 at *
  generalize l.getD 8 0=d8 at *
  generalize l.getD 9 0=d9 at *
  unfold rdig
  simp only [List.cons.injEq,and_true]
  refine ⟨?_,?_,?_,?_,?_,?_,?_,?_,?_,?_⟩ <;> omega
theorem rdig_rng (n:Int) : ∀ i,0≤(rdig n).getD i 0∧(rdig n).getD i 0<67108864:=by
  intro i
  match i with
  | 0=>show 0≤_%_∧_%_<_; omega
  | 1=>show 0≤_%_∧_%_<_; omega
  | 2=>show 0≤_%_∧_%_<_; omega
  | 3=>show 0≤_%_∧_%_<_; omega
  | 4=>show 0≤_%_∧_%_<_; omega
  | 5=>show 0≤_%_∧_%_<_; omega
  | 6=>show 0≤_%_∧_%_<_; omega
  | 7=>show 0≤_%_∧_%_<_; omega
  | 8=>show 0≤_%_∧_%_<_; omega
  | 9=>show 0≤_%_∧_%_<_; omega
  | i+10=>show (0:Int)≤0∧(0:Int)<_; omega
theorem rV_rdig {n:Int} (h0:0≤n) (h1:n<57896044618658097711785492504343953926634992332820282019728792003956564819968):rV (rdig n) 10=n:=by
  rw [rV_ten]
  simp only [rdig,List.getD_cons_zero,List.getD_cons_succ]
  omega
theorem PP_rng (n:Int):0≤n%PP∧n%PP<PP:=⟨Int.emod_nonneg _ (by decide),Int.emod_lt_of_pos _ PP_pos⟩
theorem rV_rn (n:Int):rV (rn n) 10=n%PP:=rV_rdig (PP_rng n).1 (by have:=(PP_rng n).2; unfold PP at this ⊢; omega)
theorem rn_congr {a b:Int} (h:a%PP=b%PP):rn a=rn b:=by unfold rn; rw [h]
theorem rn_mod (a:Int):rn (a%PP)=rn a:=rn_congr (emod_pp a)
theorem rn_len (n:Int):(rn n).length=10:=rfl
theorem rn_rng (n:Int) : ∀ i,0≤(rn n).getD i 0∧(rn n).getD i 0<67108864:=rdig_rng _
theorem rn_inj {a b:Int} (h:rn a=rn b):a%PP=b%PP:=by rw [← rV_rn,← rV_rn,h]
theorem carried_loop (k:List Int→Option (List Int)) (m:Nat) : ∀ (n i:Nat) (a:List Int),i+m=9→a.length=10→(∀ j,0≤a.getD j 0)→(∀ j,j<i→a.getD j 0<67108864)→(∀ j,i<j→a.getD j 0<1152921504606846976)→a.getD i 0<1152921504606846976+34359738368 →
    ∃ c,q5_carried_l1 k (n+1+m) (i:Int) a=k c∧c.length=10∧(∀ j,0≤c.getD j 0)∧(∀ j,j<9→c.getD j 0<67108864)∧c.getD 9 0<1152921504606846976+34359738368∧rV c 10=rV a 10:=by
  induction m with
  | zero =>
    intro n i a hi hl h0 h1 h2 h3
    have e:i=9:=by omega
    subst e
    refine ⟨a,?_,hl,h0,h1,h3,rfl⟩
    rw [Nat.add_zero,q5_carried_l1,q5_carried_b1,br_ff (by decide)]
  | succ m ih =>
    intro n i a hi hl h0 h1 h2 h3
    have e1:=i64_succ (i:=i) (by omega)
    have a0:=h0 i
    have b0:=h0 (i+1)
    have b2:=h2 (i+1) (by omega)
    have hs:IntKind.wrap .u64 (a.getD (i+1) 0+a.getD i 0 / 67108864)=a.getD (i+1) 0+a.getD i 0 / 67108864:=wu64_small (by omega) (by omega)
    have hg:(setD a (i+1) (a.getD (i+1) 0+a.getD i 0 / 67108864)).getD i 0=a.getD i 0:=by rw [getD_setD,if_neg (by omega)]
    have hgd : ∀ j,(setD (setD a (i+1) (a.getD (i+1) 0+a.getD i 0 / 67108864)) i (a.getD i 0%67108864)).getD j 0=if j=i then a.getD i 0%67108864 else if j=i+1 then a.getD (i+1) 0+a.getD i 0 / 67108864 else a.getD j 0:=by
      intro j; rw [getD_setD,getD_setD]
    have hlen:(setD (setD a (i+1) (a.getD (i+1) 0+a.getD i 0 / 67108864)) i (a.getD i 0%67108864)).length=10:=by rw [setD_len (by rw [setD_len (by omega)]; omega),setD_len (by omega),hl]
    obtain ⟨c,ec,c1,c2,c3,c4,c5⟩:=ih n (i+1) _ (by omega) hlen
      (by intro j; rw [hgd]; have:=h0 j; split <;> (try split) <;> omega)
      (by intro j hj; rw [hgd]; split
          · omega
          · rw [if_neg (by omega)]; exact h1 j (by omega))
      (by intro j hj; rw [hgd,if_neg (by omega),if_neg (by omega)]; exact h2 j (by omega))
      (by rw [hgd,if_neg (by omega),if_pos rfl]; omega)
    refine ⟨c,?_,c1,c2,c3,c4,?_⟩
    · rw [← Nat.add_assoc,q5_carried_l1,q5_carried_b1,br_tt (decide_eq_true (by omega))]
      simp only [bnd_eq,e1,Int.toNat_natCast,shr26,hs,hg]
      rw [and26 a0 (by omega),chk_t (inB_t (by omega) (by omega)),chk_t (inB_t (by omega) (by omega)),chk_t (inB_t (by omega) (by omega)),chk_t (inB_t (by omega) (by omega)),chk_t (inB_t (by omega) (by omega))]
      exact ec
    · rw [c5,rV_set _ _ _ _ (by omega),rV_set _ _ _ _ (by omega),hg,Int.pow_succ]
      have hd:=Int.mul_ediv_add_emod (a.getD i 0) 67108864
      generalize a.getD i 0 / 67108864=d at *
      generalize a.getD i 0%67108864=r at *
      generalize a.getD i 0=x at *
      generalize a.getD (i+1) 0=y at *
      generalize (67108864:Int)^i=w at *
      generalize rV a 10=v at *
      clear ih ec hgd hs hg c1 c2 c3 c4 c5 hlen
      grind -lia -linarith (splits:=0)
theorem carried_eq {a:List Int} (hl:a.length=10) (h0 : ∀ j,0≤a.getD j 0∧a.getD j 0<1152921504606846976) : ∃ c,q5_carried a=some c∧c.length=10∧(∀ j,0≤c.getD j 0)∧(∀ j,j<9→c.getD j 0<67108864)∧c.getD 9 0<1152921504606846976+34359738368∧rV c 10=rV a 10:=by
  obtain ⟨n,hn⟩ : ∃ n,big=n+1+9:=⟨18446744073709551606,big_eq⟩
  rw [q5_carried,jn_eq,hn]
  exact carried_loop some 9 n 0 a (by omega) hl (fun j=>(h0 j).1) (fun j h=>by omega) (fun j _=>(h0 j).2) (by have:=(h0 0).2; omega)
theorem below_loopR {a b:List Int} (ha : ∀ i,0≤a.getD i 0∧a.getD i 0<67108864) (hb : ∀ i,0≤b.getD i 0∧b.getD i 0<67108864) (k:Unit→Option Bool) (hk:k ()=some false) : ∀ (m n:Nat),m≤10 →
    q5_below_l1 a b k (n+1+m) ((m:Int)-1)=some (decide (rV a m<rV b m))
  | 0,n,_=>by
    rw [Nat.add_zero,q5_below_l1,q5_below_b1,br_ff (by decide),hk]
    simp [rV]
  | m+1,n,hm=>by
    have ih:=below_loopR ha hb k hk m n (by omega)
    have e0:((m+1:Nat):Int)-1=(m:Int):=by omega
    have e1:IntKind.wrap .i64 ((m:Int)-1)=(m:Int)-1:=wi64_small (by omega) (by omega)
    have ra:=rV_rng m (fun i _=>ha i)
    have rb:=rV_rng m (fun i _=>hb i)
    rw [e0,← Nat.add_assoc,q5_below_l1,q5_below_b1,br_tt (decide_eq_true (by omega)),chk_t (inB_t (by omega) (by omega)),chk_t (inB_t (by omega) (by omega))]
    simp only [bnd_eq,e1,Int.toNat_natCast]
    rw [rV_succ,rV_succ]
    by_cases h:a.getD m 0=b.getD m 0
    · rw [br_ff (by rw [h]; simp),ih,h]
      congr 1
      by_cases h2:rV a m<rV b m
      · rw [decide_eq_true h2,decide_eq_true (by omega)]
      · rw [decide_eq_false h2,decide_eq_false (by omega)]
    · rw [br_tt (by simpa using h),chk_t (inB_t (by omega) (by omega)),chk_t (inB_t (by omega) (by omega))]
      congr 1
      generalize a.getD m 0=x at *
      generalize b.getD m 0=y at *
      generalize rV a m=v at *
      generalize rV b m=u at *
      have hp:=rpow_pos m
      generalize (67108864:Int)^m=w at *
      by_cases h2:x<y
      · have h3:(x+1)*w≤y*w:=Int.mul_le_mul_of_nonneg_right (by omega) (by omega)
        rw [Int.add_mul,Int.one_mul] at h3
        rw [decide_eq_true h2,decide_eq_true (by omega)]
      · have h3:(y+1)*w≤x*w:=Int.mul_le_mul_of_nonneg_right (by omega) (by omega)
        rw [Int.add_mul,Int.one_mul] at h3
        rw [decide_eq_false h2,decide_eq_false (by omega)]
theorem below_eqR {a b:List Int} (ha : ∀ i,0≤a.getD i 0∧a.getD i 0<67108864) (hb : ∀ i,0≤b.getD i 0∧b.getD i 0<67108864):q5_below a b=some (decide (rV a 10<rV b 10)):=by
  obtain ⟨n,hn⟩ : ∃ n,big=n+1+10:=⟨18446744073709551605,big_eq⟩
  rw [q5_below,jn_eq,hn]
  exact below_loopR ha hb _ rfl 10 n (by omega)
theorem less_loop {b:List Int} (hb : ∀ i,0≤b.getD i 0∧b.getD i 0<67108864) (k:List Int→Option (List Int)) {a0:List Int} (m:Nat) : ∀ (n i:Nat) (c:Int) (a:List Int),i+m=10→a.length=10→(c=0∨c=1)→(∀ j,0≤a.getD j 0∧a.getD j 0<67108864)→(∀ j,i≤j→a.getD j 0=a0.getD j 0)→rV a i=rV a0 i-rV b i+c*(67108864:Int)^i →
    ∃ r c',q5_lessened_l1 b k (n+1+m) c (i:Int) a=k r∧r.length=10∧(c'=0∨c'=1)∧(∀ j,0≤r.getD j 0∧r.getD j 0<67108864)∧rV r 10=rV a0 10-rV b 10+c'*(67108864:Int)^10:=by
  induction m with
  | zero =>
    intro n i c a hi hl hc ha hj hv
    have e:i=10:=by omega
    subst e
    refine ⟨a,c,?_,hl,hc,ha,hv⟩
    rw [Nat.add_zero,q5_lessened_l1,q5_lessened_b1,br_ff (by decide)]
  | succ m ih =>
    intro n i c a hi hl hc ha hj hv
    have e1:=i64_succ (i:=i) (by omega)
    have h1:=ha i
    have h2:=hb i
    have w1:IntKind.wrap .u64 (a.getD i 0+67108863)=a.getD i 0+67108863:=wu64_small (by omega) (by omega)
    have w2:IntKind.wrap .u64 (a.getD i 0+67108863+1)=a.getD i 0+67108864:=by rw [wu64_small (by omega) (by omega)]; omega
    have w3:IntKind.wrap .u64 (a.getD i 0+67108864-b.getD i 0)=a.getD i 0+67108864-b.getD i 0:=wu64_small (by omega) (by omega)
    have w4:IntKind.wrap .u64 (a.getD i 0+67108864-b.getD i 0-c)=a.getD i 0+67108864-b.getD i 0-c:=wu64_small (by omega) (by omega)
    have w5:IntKind.wrap .u64 (1-(a.getD i 0+67108864-b.getD i 0-c) / 67108864)=1-(a.getD i 0+67108864-b.getD i 0-c) / 67108864:=wu64_small (by omega) (by omega)
    obtain ⟨r,c',er,r1,r2,r3,r4⟩:=ih n (i+1) (1-(a.getD i 0+67108864-b.getD i 0-c) / 67108864) (setD a i ((a.getD i 0+67108864-b.getD i 0-c)%67108864)) (by omega) (by rw [setD_len (by omega),hl]) (by omega)
      (by intro j; rw [getD_setD]; split
          · omega
          · exact ha j)
      (by intro j h; rw [getD_setD,if_neg (by omega)]; exact hj j (by omega)) (by
        rw [rV_succ,rV_succ,rV_succ,rV_set_ge _ _ _ _ (Nat.le_refl _),getD_setD,if_pos rfl,hv,← hj i (Nat.le_refl _),Int.pow_succ]
        have hd:=Int.mul_ediv_add_emod (a.getD i 0+67108864-b.getD i 0-c) 67108864
        generalize (a.getD i 0+67108864-b.getD i 0-c) / 67108864=d at *
        generalize (a.getD i 0+67108864-b.getD i 0-c)%67108864=q at *
        generalize a.getD i 0=x at *
        generalize b.getD i 0=y at *
        generalize (67108864:Int)^i=w at *
        generalize rV a0 i=v at *
        generalize rV b i=u at *
        clear ih w1 w2 w3 w4 w5 hj hv e1 ha hb
        grind -lia -linarith (splits:=0))
    refine ⟨r,c',?_,r1,r2,r3,r4⟩
    rw [← Nat.add_assoc,q5_lessened_l1,q5_lessened_b1,br_tt (decide_eq_true (by omega))]
    simp only [bnd_eq,e1,Int.toNat_natCast,shr26,w1,w2,w3,w4,w5]
    rw [and26 (by omega) (by omega),chk_t (inB_t (by omega) (by omega)),chk_t (inB_t (by omega) (by omega)),chk_t (inB_t (by omega) (by omega))]
    exact er
theorem lessened_eq {a b:List Int} (hl:a.length=10) (ha : ∀ i,0≤a.getD i 0∧a.getD i 0<67108864) (hb : ∀ i,0≤b.getD i 0∧b.getD i 0<67108864) (hle:rV b 10≤rV a 10) :
    ∃ r,q5_lessened a b=some r∧r.length=10∧(∀ j,0≤r.getD j 0∧r.getD j 0<67108864)∧rV r 10=rV a 10-rV b 10:=by
  obtain ⟨n,hn⟩ : ∃ n,big=n+1+10:=⟨18446744073709551605,big_eq⟩
  obtain ⟨r,c',er,r1,r2,r3,r4⟩:=less_loop hb some (a0:=a) 10 n 0 0 a (by omega) hl (.inl rfl) ha (fun _ _=>rfl) (by show (0:Int)=0-0+0*1; omega)
  have hr:=rV_rng 10 (fun i _=>r3 i)
  have h1:=rV_rng 10 (fun i _=>ha i)
  have h2:=rV_rng 10 (fun i _=>hb i)
  refine ⟨r,?_,r1,r3,?_⟩
  · rw [q5_lessened,jn_eq,hn]; exact er
  · generalize (67108864:Int)^10=w at *
    rcases r2 with h | h <;> subst h <;> omega
def rprime:List Int:=[67108845,67108863,67108863,67108863,67108863,67108863,67108863,67108863,67108863,2097151]
theorem rprime_rng : ∀ i,0≤rprime.getD i 0∧rprime.getD i 0<67108864:=by
  intro i
  simp only [List.getD]
  cases hi:rprime[i]? with
  | none=>simp
  | some v =>
    have hm:=List.mem_of_getElem? hi
    have : ∀ x∈rprime,0≤x∧x<67108864:=by decide
    exact this v hm
theorem rprime_val:rV rprime 10=PP:=by decide
structure Nrm (a:List Int):Prop where
  len:a.length=10
  pos : ∀ j,0≤a.getD j 0
  low : ∀ j,j<9→a.getD j 0<67108864
  top:a.getD 9 0<2305843009213693952
theorem Nrm.val {a:List Int} (h:Nrm a) : ∃ v,0≤v∧v<27606985387162255149739023449108101809804435888681546220650096895197184∧rV a 10=v+a.getD 9 0*27606985387162255149739023449108101809804435888681546220650096895197184:=by
  have hr:=rV_rng 9 (fun i hi=>⟨h.pos i,h.low i hi⟩)
  have e:(67108864:Int)^9=27606985387162255149739023449108101809804435888681546220650096895197184:=by decide
  rw [e] at hr
  exact ⟨rV a 9,hr.1,hr.2,by rw [rV_succ,e]⟩
theorem least_done {a:List Int} (h:Nrm a) (h9 : ¬ a.getD 9 0>2097151) : ∃ v,rV a 10=v∧0≤v∧v<57896044618658097711785492504343953926634992332820282019728792003956564819968:=by
  obtain ⟨v,h0,h1,e⟩:=h.val
  have:=h.pos 9
  exact ⟨_,rfl,by omega,by omega⟩
theorem least_step {a:List Int} (h:Nrm a) (h9:a.getD 9 0>2097151) (k:List Int→Option (List Int)) (n:Nat) :
    ∃ c,q5_Least_l1 k (n+1) a=q5_Least_l1 k n c∧Nrm c∧rV c 10=rV a 10%57896044618658097711785492504343953926634992332820282019728792003956564819968+19*(rV a 10 / 57896044618658097711785492504343953926634992332820282019728792003956564819968):=by
  obtain ⟨v,v0,v1,ev⟩:=h.val
  have p9:=h.pos 9
  have t9:=h.top
  have p0:=h.pos 0
  have l0:=h.low 0 (by decide)
  have w1:IntKind.wrap .u64 (19*(a.getD 9 0 / 2097152))=19*(a.getD 9 0 / 2097152):=wu64_small (by omega) (by omega)
  have w2:IntKind.wrap .u64 (a.getD 0 0+19*(a.getD 9 0 / 2097152))=a.getD 0 0+19*(a.getD 9 0 / 2097152):=wu64_small (by omega) (by omega)
  have g9:(setD a 0 (a.getD 0 0+19*(a.getD 9 0 / 2097152))).getD 9 0=a.getD 9 0:=by rw [getD_setD,if_neg (by decide)]
  have hgd : ∀ j,(setD (setD a 0 (a.getD 0 0+19*(a.getD 9 0 / 2097152))) 9 (a.getD 9 0%2097152)).getD j 0=if j=9 then a.getD 9 0%2097152 else if j=0 then a.getD 0 0+19*(a.getD 9 0 / 2097152) else a.getD j 0:=by
    intro j; rw [getD_setD,getD_setD]
  have hlen:(setD (setD a 0 (a.getD 0 0+19*(a.getD 9 0 / 2097152))) 9 (a.getD 9 0%2097152)).length=10:=by rw [setD_len (by rw [setD_len (by rw [h.len]; decide),h.len]; decide),setD_len (by rw [h.len]; decide),h.len]
  obtain ⟨c,ec,c1,c2,c3,c4,c5⟩:=carried_eq hlen (by
    intro j; rw [hgd]
    have h1:=h.pos j
    by_cases hj:j=9
    · rw [if_pos hj]; omega
    · rw [if_neg hj]
      by_cases hj0:j=0
      · rw [if_pos hj0]; omega
      · rw [if_neg hj0]
        by_cases hj9:j<9
        · have:=h.low j hj9; omega
        · have:a.getD j 0=0:=by simp [List.getD_eq_getElem?_getD,List.getElem?_eq_none (show a.length≤j by have:=h.len; omega)]
          omega)
  refine ⟨c,?_,⟨c1,c2,c3,by omega⟩,?_⟩
  · rw [q5_Least_l1,q5_Least_b1]
    simp only [bnd_eq,shr21,w1,w2,g9]
    rw [and21 p9 (by omega),br_tt (decide_eq_true h9),opt_some ec]
  · rw [c5,rV_set _ _ _ _ (by decide),rV_set _ _ _ _ (by decide),g9]
    have e0:(67108864:Int)^0=1:=by decide
    have e9:(67108864:Int)^9=27606985387162255149739023449108101809804435888681546220650096895197184:=by decide
    rw [e0,e9,ev]
    generalize a.getD 9 0=x at *
    generalize a.getD 0 0=y at *
    clear ec hgd hlen c1 c2 c3 c4 c5 w1 w2 g9
    omega
theorem least_loop {a:List Int} (h:Nrm a) (hb:rV a 10<63657374260452690223495913149955322682597410751168609642183824931005961838254368963428352) (k:List Int→Option (List Int)) (n:Nat) : ∃ c,q5_Least_l1 k (n+1+1+1) a=k c∧Nrm c ∧ ¬ c.getD 9 0>2097151∧rV c 10%PP=rV a 10%PP:=by
  have stop : ∀ (n:Nat) (a:List Int),¬ a.getD 9 0>2097151→q5_Least_l1 k (n+1) a=k a:=by
    intro n a h
    rw [q5_Least_l1,q5_Least_b1]
    simp only [bnd_eq]
    rw [br_ff (decide_eq_false h)]
  by_cases h1:a.getD 9 0>2097151
  · obtain ⟨c,ec,nc,vc⟩:=least_step h h1 k (n+1+1)
    have p0:0≤rV a 10:=by obtain ⟨v,v0,_,ev⟩:=h.val; have:=h.pos 9; omega
    by_cases h2:c.getD 9 0>2097151
    · obtain ⟨d,ed,nd,vd⟩:=least_step nc h2 k (n+1)
      obtain ⟨u,u0,u1,eu⟩:=nd.val
      have pd:=nd.pos 9
      have h3 : ¬ d.getD 9 0>2097151:=by
        intro h3
        obtain ⟨v,v0,v1,ev⟩:=nc.val
        clear ec ed stop
        generalize rV a 10=A at *
        generalize rV c 10=C at *
        generalize rV d 10=D at *
        generalize c.getD 9 0=c9 at *
        generalize d.getD 9 0=d9 at *
        clear nc nd h h1
        omega
      refine ⟨d,by rw [ec,ed,stop _ _ h3],nd,h3,?_⟩
      rw [vd,vc]
      clear ec ed stop
      generalize rV a 10=A at *
      unfold PP
      omega
    · refine ⟨c,by rw [ec,stop _ _ h2],nc,h2,?_⟩
      rw [vc]
      generalize rV a 10=A at *
      unfold PP
      omega
  · exact ⟨a,stop _ _ h1,h,h1,rfl⟩
theorem least_eq {a:List Int} (hl:a.length=10) (h0 : ∀ j,0≤a.getD j 0∧a.getD j 0<1152921504606846976):q5_Least a=some (rn (rV a 10)):=by
  obtain ⟨c,ec,c1,c2,c3,c4,c5⟩:=carried_eq hl h0
  have nc:Nrm c:=⟨c1,c2,c3,by omega⟩
  obtain ⟨n,hn⟩ : ∃ n,big=n+1+1+1:=⟨18446744073709551613,big_eq⟩
  have hb:rV c 10<63657374260452690223495913149955322682597410751168609642183824931005961838254368963428352:=by
    obtain ⟨v,v0,v1,ev⟩:=nc.val
    have:=nc.top
    rw [ev]
    omega
  rw [q5_Least,opt_some ec,jn_eq,hn]
  obtain ⟨d,ed,nd,h9,vd⟩:=least_loop nc hb (fun (a58:List Int)=>opt (q5_prime) fun y113 =>
 opt (q5_below a58 y113) fun y116 =>
 jn (fun (a120:List Int)=>some a120) fun k121=>br ((!y116)) (
 opt (q5_lessened a58 y113) fun y124 =>
 k121 y124
 ) (
 k121 a58
 )) n
  rw [ed]
  obtain ⟨v,ev,v0,v1⟩:=least_done nd h9
  have hd : ∀ j,0≤d.getD j 0∧d.getD j 0<67108864:=by
    intro j
    refine ⟨nd.pos j,?_⟩
    by_cases hj:j<9
    · exact nd.low j hj
    · by_cases hj2:j=9
      · subst hj2; omega
      · have:d.getD j 0=0:=by simp [List.getD_eq_getElem?_getD,List.getElem?_eq_none (show d.length≤j by have:=nd.len; omega)]
        omega
  have ep:q5_prime=some rprime:=rfl
  rw [opt_some ep,opt_some (below_eqR hd rprime_rng),jn_eq,rprime_val,ev]
  by_cases hv:v<PP
  · rw [br_ff (by simp [hv]),rdig_unique nd.len hd,ev]
    unfold rn
    rw [← c5,← vd,ev,Int.emod_eq_of_lt v0 hv]
  · obtain ⟨r,er,r1,r2,r3⟩:=lessened_eq nd.len hd rprime_rng (by rw [rprime_val,ev]; omega)
    rw [br_tt (by simp [hv]),opt_some er,rdig_unique r1 r2,r3,rprime_val,ev]
    unfold rn
    rw [← c5,← vd,ev]
    congr 2
    unfold PP at *
    omega
theorem rsmall {n:Int} (h0:0≤n) (h1:n<18446744073709551616):q5_Small n=some (rn n):=by
  rw [q5_Small]
  simp only [bnd_eq,shr26,shr52]
  rw [and26 h0 h1,and26 (by omega) (by omega)]
  have e:n%PP=n:=Int.emod_eq_of_lt h0 (by unfold PP; omega)
  unfold rn
  rw [e]
  unfold rdig
  congr 1
  simp only [List.cons.injEq,and_true,true_and]
  refine ⟨?_,?_,?_,?_,?_,?_,?_,?_⟩ <;> omega
theorem radd_run (k:List Int→Option (List Int)) (x0 x1 x2 x3 x4 x5 x6 x7 x8 x9 y0 y1 y2 y3 y4 y5 y6 y7 y8 y9:Int):q5_Add_l1 [y0,y1,y2,y3,y4,y5,y6,y7,y8,y9] k big 0 [x0,x1,x2,x3,x4,x5,x6,x7,x8,x9]=k [IntKind.wrap .u64 (x0+y0),IntKind.wrap .u64 (x1+y1),IntKind.wrap .u64 (x2+y2),IntKind.wrap .u64 (x3+y3),IntKind.wrap .u64 (x4+y4),IntKind.wrap .u64 (x5+y5),IntKind.wrap .u64 (x6+y6),IntKind.wrap .u64 (x7+y7),IntKind.wrap .u64 (x8+y8),IntKind.wrap .u64 (x9+y9)]:=by kernel_rfl
theorem getD_ten {P:Int→Prop} (h0:P 0) {x0 x1 x2 x3 x4 x5 x6 x7 x8 x9:Int} (h0_:P x0) (h1_:P x1) (h2_:P x2) (h3_:P x3) (h4_:P x4) (h5_:P x5) (h6_:P x6) (h7_:P x7) (h8_:P x8) (h9_:P x9) : ∀ j,P (([x0,x1,x2,x3,x4,x5,x6,x7,x8,x9]:List Int).getD j 0):=by
  intro j
  match j with
  | 0=>exact h0_
  | 1=>exact h1_
  | 2=>exact h2_
  | 3=>exact h3_
  | 4=>exact h4_
  | 5=>exact h5_
  | 6=>exact h6_
  | 7=>exact h7_
  | 8=>exact h8_
  | 9=>exact h9_
  | j+10=>exact h0
theorem radd (a b:Int):q5_Add (rn a) (rn b)=some (rn (a+b)):=by
  have ha:=rn_rng a
  have hb:=rn_rng b
  have va:=rV_rn a
  have vb:=rV_rn b
  have ea:=list_ten (rn_len a)
  have eb:=list_ten (rn_len b)
  rw [rV_ten] at va vb
  have a0:=ha 0
  have b0:=hb 0
  have a1:=ha 1
  have b1:=hb 1
  have a2:=ha 2
  have b2:=hb 2
  have a3:=ha 3
  have b3:=hb 3
  have a4:=ha 4
  have b4:=hb 4
  have a5:=ha 5
  have b5:=hb 5
  have a6:=ha 6
  have b6:=hb 6
  have a7:=ha 7
  have b7:=hb 7
  have a8:=ha 8
  have b8:=hb 8
  have a9:=ha 9
  have b9:=hb 9
  rw [ea,eb,q5_Add,jn_eq,radd_run]
  clear ea eb ha hb
  generalize (rn a).getD 0 0=x0 at *
  generalize (rn b).getD 0 0=y0 at *
  generalize (rn a).getD 1 0=x1 at *
  generalize (rn b).getD 1 0=y1 at *
  generalize (rn a).getD 2 0=x2 at *
  generalize (rn b).getD 2 0=y2 at *
  generalize (rn a).getD 3 0=x3 at *
  generalize (rn b).getD 3 0=y3 at *
  generalize (rn a).getD 4 0=x4 at *
  generalize (rn b).getD 4 0=y4 at *
  generalize (rn a).getD 5 0=x5 at *
  generalize (rn b).getD 5 0=y5 at *
  generalize (rn a).getD 6 0=x6 at *
  generalize (rn b).getD 6 0=y6 at *
  generalize (rn a).getD 7 0=x7 at *
  generalize (rn b).getD 7 0=y7 at *
  generalize (rn a).getD 8 0=x8 at *
  generalize (rn b).getD 8 0=y8 at *
  generalize (rn a).getD 9 0=x9 at *
  generalize (rn b).getD 9 0=y9 at *
  rw [wu64_small (x:=x0+y0) (by omega) (by omega),wu64_small (x:=x1+y1) (by omega) (by omega),wu64_small (x:=x2+y2) (by omega) (by omega),wu64_small (x:=x3+y3) (by omega) (by omega),wu64_small (x:=x4+y4) (by omega) (by omega),wu64_small (x:=x5+y5) (by omega) (by omega),wu64_small (x:=x6+y6) (by omega) (by omega),wu64_small (x:=x7+y7) (by omega) (by omega),wu64_small (x:=x8+y8) (by omega) (by omega),wu64_small (x:=x9+y9) (by omega) (by omega)]
  rw [opt_some (least_eq rfl (getD_ten (P:=fun z=>0≤z∧z<1152921504606846976) (by omega) (by omega) (by omega) (by omega) (by omega) (by omega) (by omega) (by omega) (by omega) (by omega) (by omega)))]
  congr 1
  apply rn_congr
  rw [rV_ten]
  simp only [List.getD_cons_zero,List.getD_cons_succ]
  have e:(x0+y0)+(x1+y1)*67108864+(x2+y2)*4503599627370496+(x3+y3)*302231454903657293676544+(x4+y4)*20282409603651670423947251286016+(x5+y5)*1361129467683753853853498429727072845824+(x6+y6)*91343852333181432387730302044767688728495783936+(x7+y7)*6129982163463555433433388108601236734474956488734408704+(x8+y8)*411376139330301510538742295639337626245683966408394965837152256+(x9+y9)*27606985387162255149739023449108101809804435888681546220650096895197184=a%PP+b%PP:=by omega
  rw [e,← Int.add_emod]
theorem rneg (a:Int):q5_Neg (rn a)=some (rn (-a)):=by
  have h:=PP_rng a
  obtain ⟨r,er,r1,r2,r3⟩:=lessened_eq (a:=rprime) (b:=rn a) rfl rprime_rng (rn_rng a) (by rw [rprime_val,rV_rn]; omega)
  have ep:q5_prime=some rprime:=rfl
  rw [q5_Neg,opt_some ep,opt_some er,opt_some (least_eq r1 (fun j=>by have:=r2 j; omega))]
  congr 1
  apply rn_congr
  rw [r3,rprime_val,rV_rn]
  unfold PP
  omega
theorem rsub (a b:Int):q5_Sub (rn a) (rn b)=some (rn (a-b)):=by
  rw [q5_Sub,opt_some (rneg b),opt_some (radd a (-b))]
  congr 2
theorem rmul_inner {p q:List Int} (hp : ∀ i,0≤p.getD i 0∧p.getD i 0<67108864) (hq : ∀ i,0≤q.getD i 0∧q.getD i 0<67108864) {i:Nat} (hi:i<10) (m:Nat) : ∀ (n j:Nat) (a:List Int),j+m=10→a.length=20→(∀ t,0≤a.getD t 0∧a.getD t 0≤((i:Int)+1)*4503599493152769)→(∀ t,i+j≤t→a.getD t 0≤(i:Int)*4503599493152769) →
    ∃ c,(∀ k,q5_Mul_l2 p q (i:Int) k (n+1+m) (j:Int) a=k c)∧c.length=20∧(∀ t,0≤c.getD t 0∧c.getD t 0≤((i:Int)+1)*4503599493152769)∧rV c 20+p.getD i 0*rV q j*(67108864:Int)^i=rV a 20+p.getD i 0*rV q 10*(67108864:Int)^i:=by
  induction m with
  | zero =>
    intro n j a hj hl h0 h1
    refine ⟨a,fun k=>?_,hl,h0,by rw [show j=10 by omega]⟩
    rw [Nat.add_zero,q5_Mul_l2,q5_Mul_b2,br_ff (decide_eq_false (by omega))]
  | succ m ih =>
    intro n j a hj hl h0 h1
    have e1:=i64_succ (i:=j) (by omega)
    have e2:IntKind.wrap .i64 ((i:Int)+(j:Int))=((i+j:Nat):Int):=by rw [wi64_small (by omega) (by omega)]; omega
    have x1:=hp i
    have x2:=hq j
    have x3:=h0 (i+j)
    have x4:=h1 (i+j) (Nat.le_refl _)
    have xp:0≤p.getD i 0*q.getD j 0:=Int.mul_nonneg x1.1 x2.1
    have xq:p.getD i 0*q.getD j 0≤67108863*67108863:=Int.mul_le_mul (by omega) (by omega) x2.1 (by omega)
    have w1:IntKind.wrap .u64 (p.getD i 0*q.getD j 0)=p.getD i 0*q.getD j 0:=wu64_small xp (by omega)
    have w2:IntKind.wrap .u64 (a.getD (i+j) 0+p.getD i 0*q.getD j 0)=a.getD (i+j) 0+p.getD i 0*q.getD j 0:=wu64_small (by omega) (by omega)
    obtain ⟨c,ec,c1,c2,c3⟩:=ih n (j+1) (setD a (i+j) (a.getD (i+j) 0+p.getD i 0*q.getD j 0)) (by omega) (by rw [setD_len (by omega),hl])
      (by intro t; rw [getD_setD]; split
          · omega
          · exact h0 t)
      (by intro t ht; rw [getD_setD,if_neg (by omega)]; exact h1 t (by omega))
    refine ⟨c,fun k=>?_,c1,c2,?_⟩
    · rw [← Nat.add_assoc,q5_Mul_l2,q5_Mul_b2,br_tt (decide_eq_true (by omega))]
      simp only [bnd_eq,e1,e2,Int.toNat_natCast,w1,w2]
      rw [chk_t (inB_t (by omega) (by omega)),chk_t (inB_t (by omega) (by omega)),chk_t (inB_t (by omega) (by omega)),chk_t (inB_t (by omega) (by omega))]
      exact ec k
    · rw [rV_set _ _ _ _ (by omega),rV_succ q j,Int.pow_add] at c3
      generalize (67108864:Int)^i=w at *
      generalize (67108864:Int)^j=u at *
      generalize p.getD i 0=x at *
      generalize q.getD j 0=y at *
      generalize a.getD (i+j) 0=z at *
      generalize rV a 20=va at *
      generalize rV c 20=vc at *
      generalize rV q j=vj at *
      generalize rV q 10=vq at *
      clear ih ec w1 w2 e1 e2 h0 h1 c1 c2 hp hq xp xq
      grind -lia -linarith (splits:=0)
theorem rmul_outer {p q:List Int} (hp : ∀ i,0≤p.getD i 0∧p.getD i 0<67108864) (hq : ∀ i,0≤q.getD i 0∧q.getD i 0<67108864) (k:List Int→Option (List Int)) (m:Nat) : ∀ (n i:Nat) (a:List Int),i+m=10→a.length=20→(∀ t,0≤a.getD t 0∧a.getD t 0≤(i:Int)*4503599493152769)→rV a 20=rV p i*rV q 10 →
    ∃ c,q5_Mul_l1 p q k (n+1+m) (i:Int) a=k c∧c.length=20∧(∀ t,0≤c.getD t 0∧c.getD t 0≤45035994931527690)∧rV c 20=rV p 10*rV q 10:=by
  induction m with
  | zero =>
    intro n i a hi hl h0 hv
    have e:i=10:=by omega
    subst e
    refine ⟨a,?_,hl,fun t=>by have:=h0 t; omega,hv⟩
    rw [Nat.add_zero,q5_Mul_l1,q5_Mul_b1,br_ff (by decide)]
  | succ m ih =>
    intro n i a hi hl h0 hv
    have e1:=i64_succ (i:=i) (by omega)
    obtain ⟨n',hn⟩ : ∃ n,big=n+1+10:=⟨18446744073709551605,big_eq⟩
    obtain ⟨c,ec,c1,c2,c3⟩:=rmul_inner hp hq (i:=i) (by omega) 10 n' 0 a (by omega) hl (fun t=>by have:=h0 t; omega) (fun t _=>(h0 t).2)
    obtain ⟨d,ed,d1,d2,d3⟩:=ih n (i+1) c (by omega) c1 (fun t=>by have:=c2 t; omega) (by
      have e0:rV q 0=0:=rfl
      rw [e0,hv] at c3
      rw [rV_succ p i]
      generalize (67108864:Int)^i=w at *
      generalize p.getD i 0=x at *
      generalize rV c 20=vc at *
      generalize rV q 10=vq at *
      generalize rV p i=vp at *
      clear ih ec e1 h0 c1 c2 hp hq hv
      grind -lia -linarith (splits:=0))
    refine ⟨d,?_,d1,d2,d3⟩
    rw [← Nat.add_assoc,q5_Mul_l1,q5_Mul_b1,br_tt (decide_eq_true (by omega)),jn_eq,hn]
    refine (ec _).trans ?_
    simp only [bnd_eq,e1]
    exact ed
theorem mcarry_loop (k:List Int→Option (List Int)) (m:Nat) : ∀ (n i:Nat) (a:List Int),i+m=19→a.length=20→(∀ j,0≤a.getD j 0)→(∀ j,j<i→a.getD j 0<67108864)→(∀ j,i<j→a.getD j 0<1152921504606846976)→a.getD i 0<1152921504606846976+34359738368 →
    ∃ c,q5_Mul_l3 k (n+1+m) (i:Int) a=k c∧c.length=20∧(∀ j,0≤c.getD j 0)∧(∀ j,j<19→c.getD j 0<67108864)∧c.getD 19 0<1152921504606846976+34359738368∧rV c 20=rV a 20:=by
  induction m with
  | zero =>
    intro n i a hi hl h0 h1 h2 h3
    have e:i=19:=by omega
    subst e
    refine ⟨a,?_,hl,h0,h1,h3,rfl⟩
    rw [Nat.add_zero,q5_Mul_l3,q5_Mul_b3,br_ff (by decide)]
  | succ m ih =>
    intro n i a hi hl h0 h1 h2 h3
    have e1:=i64_succ (i:=i) (by omega)
    have a0:=h0 i
    have b0:=h0 (i+1)
    have b2:=h2 (i+1) (by omega)
    have hs:IntKind.wrap .u64 (a.getD (i+1) 0+a.getD i 0 / 67108864)=a.getD (i+1) 0+a.getD i 0 / 67108864:=wu64_small (by omega) (by omega)
    have hg:(setD a (i+1) (a.getD (i+1) 0+a.getD i 0 / 67108864)).getD i 0=a.getD i 0:=by rw [getD_setD,if_neg (by omega)]
    have hgd : ∀ j,(setD (setD a (i+1) (a.getD (i+1) 0+a.getD i 0 / 67108864)) i (a.getD i 0%67108864)).getD j 0=if j=i then a.getD i 0%67108864 else if j=i+1 then a.getD (i+1) 0+a.getD i 0 / 67108864 else a.getD j 0:=by
      intro j; rw [getD_setD,getD_setD]
    have hlen:(setD (setD a (i+1) (a.getD (i+1) 0+a.getD i 0 / 67108864)) i (a.getD i 0%67108864)).length=20:=by rw [setD_len (by rw [setD_len (by omega)]; omega),setD_len (by omega),hl]
    obtain ⟨c,ec,c1,c2,c3,c4,c5⟩:=ih n (i+1) _ (by omega) hlen
      (by intro j; rw [hgd]; have:=h0 j; split <;> (try split) <;> omega)
      (by intro j hj; rw [hgd]; split
          · omega
          · rw [if_neg (by omega)]; exact h1 j (by omega))
      (by intro j hj; rw [hgd,if_neg (by omega),if_neg (by omega)]; exact h2 j (by omega))
      (by rw [hgd,if_neg (by omega),if_pos rfl]; omega)
    refine ⟨c,?_,c1,c2,c3,c4,?_⟩
    · rw [← Nat.add_assoc,q5_Mul_l3,q5_Mul_b3,br_tt (decide_eq_true (by omega))]
      simp only [bnd_eq,e1,Int.toNat_natCast,shr26,hs,hg]
      rw [and26 a0 (by omega),chk_t (inB_t (by omega) (by omega)),chk_t (inB_t (by omega) (by omega)),chk_t (inB_t (by omega) (by omega)),chk_t (inB_t (by omega) (by omega)),chk_t (inB_t (by omega) (by omega))]
      exact ec
    · rw [c5,rV_set _ _ _ _ (by omega),rV_set _ _ _ _ (by omega),hg,Int.pow_succ]
      have hd:=Int.mul_ediv_add_emod (a.getD i 0) 67108864
      generalize a.getD i 0 / 67108864=d at *
      generalize a.getD i 0%67108864=r at *
      generalize a.getD i 0=x at *
      generalize a.getD (i+1) 0=y at *
      generalize (67108864:Int)^i=w at *
      generalize rV a 20=v at *
      clear ih ec hgd hs hg c1 c2 c3 c4 c5 hlen
      grind -lia -linarith (splits:=0)
theorem rlow_run (k:List Int→Option (List Int)) (d:List Int):q5_Mul_l4 d k big 0 (List.replicate 10 0)=k [IntKind.wrap .u64 (d.getD 0 0+IntKind.wrap .u64 (608*d.getD 10 0)),IntKind.wrap .u64 (d.getD 1 0+IntKind.wrap .u64 (608*d.getD 11 0)),IntKind.wrap .u64 (d.getD 2 0+IntKind.wrap .u64 (608*d.getD 12 0)),IntKind.wrap .u64 (d.getD 3 0+IntKind.wrap .u64 (608*d.getD 13 0)),IntKind.wrap .u64 (d.getD 4 0+IntKind.wrap .u64 (608*d.getD 14 0)),IntKind.wrap .u64 (d.getD 5 0+IntKind.wrap .u64 (608*d.getD 15 0)),IntKind.wrap .u64 (d.getD 6 0+IntKind.wrap .u64 (608*d.getD 16 0)),IntKind.wrap .u64 (d.getD 7 0+IntKind.wrap .u64 (608*d.getD 17 0)),IntKind.wrap .u64 (d.getD 8 0+IntKind.wrap .u64 (608*d.getD 18 0)),IntKind.wrap .u64 (d.getD 9 0+IntKind.wrap .u64 (608*d.getD 19 0))]:=by kernel_rfl
theorem rV_twenty (l:List Int):rV l 20=l.getD 0 0+l.getD 1 0*67108864+l.getD 2 0*4503599627370496+l.getD 3 0*302231454903657293676544+l.getD 4 0*20282409603651670423947251286016+l.getD 5 0*1361129467683753853853498429727072845824+l.getD 6 0*91343852333181432387730302044767688728495783936+l.getD 7 0*6129982163463555433433388108601236734474956488734408704+l.getD 8 0*411376139330301510538742295639337626245683966408394965837152256+l.getD 9 0*27606985387162255149739023449108101809804435888681546220650096895197184+l.getD 10 0*1852673427797059126777135760139006525652319754650249024631321344126610074238976+l.getD 11 0*124330809102446660538845562036705210025114037699336929360115994223289874253133343883264+l.getD 12 0*8343699359066055009355553539724812947666814540455674882605631280555545803830627148527195652096+l.getD 13 0*559936185544451052639360570142111069530411374308662383724997275240947967795040236345219373317901778944+l.getD 14 0*37576681324381331646231689548629392438010920782533117931316655544515344401833735095419183974156299248510959616+l.getD 15 0*2521728396569246669585858566409191283525103313309788586748690777871726193375821479130513040312634601011624191379636224+l.getD 16 0*169230328010303641331690318856389386196071598838855992136870091590247882556495704531248437872567112920983350278405979725889536+l.getD 17 0*11356855067118857664833184498250070849275646260739344691898284362197488876771842551971735167402555711886914400097909030211478150447104+l.getD 18 0*762145642166990290864647761179972242614403843424065222377723867096038022172794340849684107193235344521442121855812163792833978437326241529856+l.getD 19 0*51146728248377216718956089012931236753385031969422887335676427626502090568823039920051095192592252455482604439493126109519019633529459266458258243584:=by
  simp only [rV]
  have e0:(67108864:Int)^0=1:=by decide
  have e1:(67108864:Int)^1=67108864:=by decide
  have e2:(67108864:Int)^2=4503599627370496:=by decide
  have e3:(67108864:Int)^3=302231454903657293676544:=by decide
  have e4:(67108864:Int)^4=20282409603651670423947251286016:=by decide
  have e5:(67108864:Int)^5=1361129467683753853853498429727072845824:=by decide
  have e6:(67108864:Int)^6=91343852333181432387730302044767688728495783936:=by decide
  have e7:(67108864:Int)^7=6129982163463555433433388108601236734474956488734408704:=by decide
  have e8:(67108864:Int)^8=411376139330301510538742295639337626245683966408394965837152256:=by decide
  have e9:(67108864:Int)^9=27606985387162255149739023449108101809804435888681546220650096895197184:=by decide
  have e10:(67108864:Int)^10=1852673427797059126777135760139006525652319754650249024631321344126610074238976:=by decide
  have e11:(67108864:Int)^11=124330809102446660538845562036705210025114037699336929360115994223289874253133343883264:=by decide
  have e12:(67108864:Int)^12=8343699359066055009355553539724812947666814540455674882605631280555545803830627148527195652096:=by decide
  have e13:(67108864:Int)^13=559936185544451052639360570142111069530411374308662383724997275240947967795040236345219373317901778944:=by decide
  have e14:(67108864:Int)^14=37576681324381331646231689548629392438010920782533117931316655544515344401833735095419183974156299248510959616:=by decide
  have e15:(67108864:Int)^15=2521728396569246669585858566409191283525103313309788586748690777871726193375821479130513040312634601011624191379636224:=by decide
  have e16:(67108864:Int)^16=169230328010303641331690318856389386196071598838855992136870091590247882556495704531248437872567112920983350278405979725889536:=by decide
  have e17:(67108864:Int)^17=11356855067118857664833184498250070849275646260739344691898284362197488876771842551971735167402555711886914400097909030211478150447104:=by decide
  have e18:(67108864:Int)^18=762145642166990290864647761179972242614403843424065222377723867096038022172794340849684107193235344521442121855812163792833978437326241529856:=by decide
  have e19:(67108864:Int)^19=51146728248377216718956089012931236753385031969422887335676427626502090568823039920051095192592252455482604439493126109519019633529459266458258243584:=by decide
  rw [e0,e1,e2,e3,e4,e5,e6,e7,e8,e9,e10,e11,e12,e13,e14,e15,e16,e17,e18,e19]
  omega
theorem rmul_all {p q:List Int} (hp : ∀ i,0≤p.getD i 0∧p.getD i 0<67108864) (hq : ∀ i,0≤q.getD i 0∧q.getD i 0<67108864) (k:List Int→Option (List Int)) :
    ∃ c,q5_Mul_l1 p q k big 0 (List.replicate 20 0)=k c∧c.length=20∧(∀ t,0≤c.getD t 0∧c.getD t 0≤45035994931527690)∧rV c 20=rV p 10*rV q 10:=by
  obtain ⟨n,hn⟩ : ∃ n,big=n+1+10:=⟨18446744073709551605,big_eq⟩
  have hz : ∀ t,(List.replicate 20 (0:Int)).getD t 0=0:=by
    intro t
    simp only [List.getD]
    cases hi:(List.replicate 20 (0:Int))[t]? with
    | none=>rfl
    | some v=>simpa using (List.mem_replicate.1 (List.mem_of_getElem? hi)).2
  rw [hn]
  exact rmul_outer hp hq k 10 n 0 (List.replicate 20 0) (by omega) (by simp) (fun t=>by rw [hz]; omega) (by
      have:rV (List.replicate 20 0) 20=0:=by decide
      rw [this]
      show 0=0*_
      omega)
theorem mcarry_all (k:List Int→Option (List Int)) {c:List Int} (hl:c.length=20) (h0 : ∀ t,0≤c.getD t 0∧c.getD t 0≤45035994931527690) :
    ∃ d,q5_Mul_l3 k big 0 c=k d∧d.length=20∧(∀ j,0≤d.getD j 0)∧(∀ j,j<19→d.getD j 0<67108864)∧d.getD 19 0<1152921504606846976+34359738368∧rV d 20=rV c 20:=by
  obtain ⟨n,hn⟩ : ∃ n,big=n+1+19:=⟨18446744073709551596,big_eq⟩
  rw [hn]
  exact mcarry_loop k 19 n 0 c (by omega) hl (fun j=>(h0 j).1) (fun j h=>by omega) (fun j _=>by have:=h0 j; omega) (by have:=h0 0; omega)
theorem rmul (a b:Int):q5_Mul (rn a) (rn b)=some (rn (a*b)):=by
  rw [q5_Mul,jn_eq]
  obtain ⟨c,ec,c1,c2,c3⟩:=rmul_all (rn_rng a) (rn_rng b) (fun (a343:List Int)=>jn (fun (a741:List Int)=>jn (fun (a848:List Int)=>opt (q5_Least a848) fun y893 =>
 some y893) fun k849=>q5_Mul_l4 a741 k849 big 0 (List.replicate 10 0)) fun k742=>q5_Mul_l3 k742 big 0 a343)
  rw [ec]
  simp only [jn_eq]
  obtain ⟨d,ed,d1,d2,d3,d4,d5⟩:=mcarry_all (fun (a741:List Int)=>q5_Mul_l4 a741 (fun (a848:List Int)=>opt (q5_Least a848) fun y893=>some y893) big 0 (List.replicate 10 0)) c1 c2
  rw [ed,rlow_run]
  rw [rV_rn,rV_rn] at c3
  rw [c3,rV_twenty] at d5
  have ra:=PP_rng a
  have rb:=PP_rng b
  have hprod:a%PP*(b%PP)<3351951982485649274893506249551461531869841455148098344430890360930441007518386744200468574541725856922507964546621512713438470702986642486608412251521024:=by
    have:a%PP*(b%PP)≤PP*PP:=Int.mul_le_mul (by omega) (by omega) rb.1 (by decide)
    unfold PP at *
    omega
  have p0:=d2 0
  have p1:=d2 1
  have p2:=d2 2
  have p3:=d2 3
  have p4:=d2 4
  have p5:=d2 5
  have p6:=d2 6
  have p7:=d2 7
  have p8:=d2 8
  have p9:=d2 9
  have p10:=d2 10
  have p11:=d2 11
  have p12:=d2 12
  have p13:=d2 13
  have p14:=d2 14
  have p15:=d2 15
  have p16:=d2 16
  have p17:=d2 17
  have p18:=d2 18
  have p19:=d2 19
  have q0:=d3 0 (by decide)
  have q1:=d3 1 (by decide)
  have q2:=d3 2 (by decide)
  have q3:=d3 3 (by decide)
  have q4:=d3 4 (by decide)
  have q5:=d3 5 (by decide)
  have q6:=d3 6 (by decide)
  have q7:=d3 7 (by decide)
  have q8:=d3 8 (by decide)
  have q9:=d3 9 (by decide)
  have q10:=d3 10 (by decide)
  have q11:=d3 11 (by decide)
  have q12:=d3 12 (by decide)
  have q13:=d3 13 (by decide)
  have q14:=d3 14 (by decide)
  have q15:=d3 15 (by decide)
  have q16:=d3 16 (by decide)
  have q17:=d3 17 (by decide)
  have q18:=d3 18 (by decide)
  clear ec ed c1 c2 d1 d2 d3
  generalize d.getD 0 0=x0 at *
  generalize d.getD 1 0=x1 at *
  generalize d.getD 2 0=x2 at *
  generalize d.getD 3 0=x3 at *
  generalize d.getD 4 0=x4 at *
  generalize d.getD 5 0=x5 at *
  generalize d.getD 6 0=x6 at *
  generalize d.getD 7 0=x7 at *
  generalize d.getD 8 0=x8 at *
  generalize d.getD 9 0=x9 at *
  generalize d.getD 10 0=x10 at *
  generalize d.getD 11 0=x11 at *
  generalize d.getD 12 0=x12 at *
  generalize d.getD 13 0=x13 at *
  generalize d.getD 14 0=x14 at *
  generalize d.getD 15 0=x15 at *
  generalize d.getD 16 0=x16 at *
  generalize d.getD 17 0=x17 at *
  generalize d.getD 18 0=x18 at *
  generalize d.getD 19 0=x19 at *
  have q19:x19<65536:=by
    generalize a%PP*(b%PP)=w at *
    omega
  rw [wu64_small (x:=608*x10) (by omega) (by omega),wu64_small (x:=608*x11) (by omega) (by omega),wu64_small (x:=608*x12) (by omega) (by omega),wu64_small (x:=608*x13) (by omega) (by omega),wu64_small (x:=608*x14) (by omega) (by omega),wu64_small (x:=608*x15) (by omega) (by omega),wu64_small (x:=608*x16) (by omega) (by omega),wu64_small (x:=608*x17) (by omega) (by omega),wu64_small (x:=608*x18) (by omega) (by omega),wu64_small (x:=608*x19) (by omega) (by omega)]
  rw [wu64_small (x:=x0+608*x10) (by omega) (by omega),wu64_small (x:=x1+608*x11) (by omega) (by omega),wu64_small (x:=x2+608*x12) (by omega) (by omega),wu64_small (x:=x3+608*x13) (by omega) (by omega),wu64_small (x:=x4+608*x14) (by omega) (by omega),wu64_small (x:=x5+608*x15) (by omega) (by omega),wu64_small (x:=x6+608*x16) (by omega) (by omega),wu64_small (x:=x7+608*x17) (by omega) (by omega),wu64_small (x:=x8+608*x18) (by omega) (by omega),wu64_small (x:=x9+608*x19) (by omega) (by omega)]
  rw [opt_some (least_eq rfl (getD_ten (P:=fun z=>0≤z∧z<1152921504606846976) (by omega) (by omega) (by omega) (by omega) (by omega) (by omega) (by omega) (by omega) (by omega) (by omega) (by omega)))]
  congr 1
  apply rn_congr
  rw [rV_ten]
  simp only [List.getD_cons_zero,List.getD_cons_succ]
  have e:(x0+608*x10)+(x1+608*x11)*67108864+(x2+608*x12)*4503599627370496+(x3+608*x13)*302231454903657293676544+(x4+608*x14)*20282409603651670423947251286016+(x5+608*x15)*1361129467683753853853498429727072845824+(x6+608*x16)*91343852333181432387730302044767688728495783936+(x7+608*x17)*6129982163463555433433388108601236734474956488734408704+(x8+608*x18)*411376139330301510538742295639337626245683966408394965837152256+(x9+608*x19)*27606985387162255149739023449108101809804435888681546220650096895197184=a%PP*(b%PP)-PP*(32*(x10+x11*67108864+x12*4503599627370496+x13*302231454903657293676544+x14*20282409603651670423947251286016+x15*1361129467683753853853498429727072845824+x16*91343852333181432387730302044767688728495783936+x17*6129982163463555433433388108601236734474956488734408704+x18*411376139330301510538742295639337626245683966408394965837152256+x19*27606985387162255149739023449108101809804435888681546220650096895197184)):=by
    generalize a%PP*(b%PP)=w at *
    unfold PP
    omega
  rw [e,Int.sub_mul_emod_self_left,← Int.mul_emod]
theorem rpow_round {x:Int} {e:List Int} (he:Byt e) {kk:List Int→Option (List Int)} {k':Int→List Int→Option (List Int)} {i:Nat} (hi:i<256) (a:Int) :
    q5_Pow_b1 (rn x) e kk k' (i:Int) (rn a)=k' ((i:Int)-1) (rn (if ebit e i then a*a%PP*x%PP else a*a%PP)):=by
  rw [q5_Pow_b1,br_tt (by simp),jn_eq,opt_some (rmul a a)]
  simp only [bnd_eq]
  have hd:IntKind.wrap .i64 (Int.tdiv (i:Int) 8)=((i / 8:Nat):Int):=by
    rw [Int.tdiv_eq_ediv_of_nonneg (by omega),wi64_small (by omega) (by omega)]; omega
  have hm:Int.tmod (i:Int) 8=((i%8:Nat):Int):=by
    rw [Int.tmod_eq_emod_of_nonneg (by omega)]; omega
  rw [hd,hm,chk_t (inB_t (by omega) (by omega)),chk_t (by simp; omega)]
  have hb:=he (i / 8)
  simp only [Int.toNat_natCast]
  rw [shr_eq .u8 (n:=i%8) (by show i%8≤8; omega)]
  have hp:(0:Int)<((2^(i%8):Nat):Int):=by have:=Nat.pow_pos (n:=i%8) (show 0<2 by decide); omega
  have hq0:=Int.ediv_nonneg hb.1 (Int.le_of_lt hp)
  have hq1:e.getD (i / 8) 0 / ((2^(i%8):Nat):Int)<256:=Int.lt_of_le_of_lt (Int.ediv_le_self _ hb.1) hb.2
  rw [and1_8 hq0 hq1]
  have hw:IntKind.wrap .i64 ((i:Int)-1)=(i:Int)-1:=wi64_small (by omega) (by omega)
  by_cases hbit:ebit e i=true
  · have hb':(e.getD (i / 8) 0 / ((2^(i%8):Nat):Int)%2==1)=true:=hbit
    rw [br_tt hb',if_pos hbit,opt_some (rmul (a*a) x),hw]
    have:rn (a*a*x)=rn (a*a%PP*x%PP):=by
      rw [rn_mod]; apply rn_congr; rw [Int.mul_emod (a*a%PP),emod_pp,← Int.mul_emod]
    rw [this]
  · rw [Bool.not_eq_true] at hbit
    have hb':(e.getD (i / 8) 0 / ((2^(i%8):Nat):Int)%2==1)=false:=hbit
    rw [br_ff hb',if_neg (by rw [hbit]; decide),hw,rn_mod]
theorem rpow_loop {x:Int} {e:List Int} (he:Byt e) : ∀ (k n:Nat),k≤256→q5_Pow_l1 (rn x) e some (n+1+k) ((k:Int)-1) (rn (pw x e (256-k)))=some (rn (pw x e 256))
  | 0,n,_=>by
    show q5_Pow_l1 (rn x) e some (n+1) _ _=_
    rw [q5_Pow_l1,q5_Pow_b1,br_ff (by decide)]
  | k+1,n,hk=>by
    have ih:=rpow_loop (x:=x) he k n (by omega)
    rw [← Nat.add_assoc,q5_Pow_l1]
    have hi:((k+1:Nat):Int)-1=(k:Int):=by omega
    rw [hi,rpow_round he (by omega)]
    have e1:256-k=(256-(k+1))+1:=by omega
    have e2:255-(256-(k+1))=k:=by omega
    rw [e1,pw,e2] at ih
    exact ih
theorem rpow (x:Int) {e:List Int} (he:Byt e):q5_Pow (rn x) e=some (rn (pw x e 256)):=by
  rw [q5_Pow,opt_some (rsmall (by decide) (by decide)),jn_eq]
  obtain ⟨n,hn⟩ : ∃ n,big=n+1+256:=⟨18446744073709551359,big_eq⟩
  have:=rpow_loop (x:=x) he 256 n (Nat.le_refl _)
  rw [← hn] at this
  exact this
theorem rpower_inv:q5_Power 235 127=some einv:=by kernel_rfl
def esq8:List Int:=[254,255,255,255,255,255,255,255,255,255,255,255,255,255,255,255,255,255,255,255,255,255,255,255,255,255,255,255,255,255,255,15]
theorem rpower_sq:q5_Power 254 15=some esq8:=by kernel_rfl
theorem rpower_rt:q5_Power 251 31=some ert:=by kernel_rfl
theorem rinv (a:Int):q5_Invert (rn a)=some (rn (pw a einv 256)):=by
  rw [q5_Invert,opt_some rpower_inv,opt_some (rpow a einv_byt)]
theorem rn0:([0,0,0,0,0,0,0,0,0,0]:List Int)=rn 0:=by decide
theorem tk_rn (n:Int):tk (rn n) 0 10=rn n:=rfl
theorem ieq_rn (a b:Int):ieq 10 (rn a) (rn b)=decide (a%PP=b%PP):=by
  unfold ieq
  rw [tk_rn,tk_rn]
  by_cases h:a%PP=b%PP
  · rw [decide_eq_true h,decide_eq_true (rn_congr h)]
  · rw [decide_eq_false h,decide_eq_false (fun e=>h (rn_inj e))]
theorem riszero (a:Int):q5_IsZero (rn a)=some (decide (a%PP=0)):=by
  rw [q5_IsZero,bnd_eq,rn0,ieq_rn]; rfl
theorem risodd (a:Int):q5_IsOdd (rn a)=some (a%PP%2==1):=by
  have h:=rn_rng a 0
  have e:(rn a).getD 0 0=a%PP%67108864:=rfl
  rw [q5_IsOdd,bnd_eq,bnd_eq,and1_64 h.1 (by omega),e]
  congr 2
  omega
theorem reven (a:Int):q5_even (rn a)=some (rn (fabs a)):=by
  rw [q5_even,opt_some (risodd a)]
  unfold fabs
  by_cases h:(a%PP%2==1)=true
  · rw [h,br_tt rfl,opt_some (rneg a)]; rfl
  · rw [Bool.not_eq_true] at h
    rw [h,br_ff rfl]; rfl
def rq (u v:Int):Int:=u*pw v einv 256
def rr (u v:Int):Int:=pw (rq u v) esq8 256
def rsqr (u v:Int):Int×Bool :=
  if v%PP=0 then (0,decide (u%PP=0))
  else if rr u v*rr u v%PP=rq u v%PP then (fabs (rr u v),true)
  else if (rr u v*sqrt2)*(rr u v*sqrt2)%PP=rq u v%PP then (fabs (rr u v*sqrt2),true)
  else (0,false)
theorem rsqrt_eq (u v:Int):q5_SqrtRatio (rn u) (rn v)=some (rn (rsqr u v).1,(rsqr u v).2):=by
  rw [q5_SqrtRatio,opt_some (riszero v)]
  unfold rsqr
  by_cases h:v%PP=0
  · rw [if_pos h,br_tt (by simpa using h),bnd_eq,opt_some (riszero u),rn0]
  · rw [if_neg h,br_ff (by simpa using h),opt_some (rinv v),opt_some (rmul _ _),opt_some rpower_sq]
    have e0:u*pw v einv 256=rq u v:=rfl
    rw [e0,opt_some (rpow _ (byt_of (by decide)))]
    have e1:pw (rq u v) esq8 256=rr u v:=rfl
    rw [e1,opt_some (rmul _ _),ieq_rn]
    by_cases h1:rr u v*rr u v%PP=rq u v%PP
    · rw [if_pos h1,br_tt (by simpa using h1),opt_some (reven _)]
    · rw [if_neg h1,br_ff (by simpa using h1),opt_some (rsmall (by decide) (by decide)),opt_some rpower_rt,opt_some (rpow _ (byt_of (by decide)))]
      have e2:pw 2 ert 256=sqrt2:=rfl
      rw [e2,opt_some (rmul _ _),opt_some (rmul _ _),ieq_rn]
      by_cases h2:(rr u v*sqrt2)*(rr u v*sqrt2)%PP=rq u v%PP
      · rw [if_pos h2,br_tt (by simpa using h2),opt_some (reven _)]
      · rw [if_neg h2,br_ff (by simpa using h2),bnd_eq,rn0]
theorem getD_end {l:List Int} {i:Nat} (h:l.length≤i):l.getD i 0=0:=by simp [List.getD_eq_getElem?_getD,List.getElem?_eq_none h]
theorem pV_more {l:List Int} {n:Nat} (h:l.length≤n):pV l n=pV l l.length:=pV_zero (fun t ht=>getD_end ht) n h
theorem split_val {p:List Int} (hp:W64 p) (hb:p.length<1000000) : ∃ a h,scalar_split p=some (a,h)∧W64 a∧W64 h∧h.length=p.length-3 ∧
    V4 a=pV p p.length%7237005577332262213973186563042994240829374041602535252466099000494570602496∧pV h h.length=pV p p.length / 7237005577332262213973186563042994240829374041602535252466099000494570602496:=by
  obtain ⟨n,hn⟩ : ∃ n',big=n'+1+(p.length-3):=⟨18446744073709551615-(p.length-3),by have:big=18446744073709551616:=big_eq; omega⟩
  have hw0g : ∀ i,(wr (List.replicate 4 0) 0 (p.take 4)).getD i 0=if i<4 then p.getD i 0 else 0:=by
    intro i
    rw [wr_getD]
    have hr:(List.replicate 4 (0:Int)).getD i 0=0:=by
      match i with
      | 0=>rfl
      | 1=>rfl
      | 2=>rfl
      | 3=>rfl
      | i+4=>rfl
    by_cases h:0≤i∧i<0+(p.take 4).length
    · rw [if_pos h]
      simp only [List.length_take] at h
      have h4':i<4:=by omega
      rw [if_pos h4']
      simp [List.getD_eq_getElem?_getD,List.getElem?_take,h4']
    · rw [if_neg h,hr]
      simp only [List.length_take] at h
      split
      · rw [getD_end (by omega)]
      · rfl
  have hw0:W64 (wr (List.replicate 4 0) 0 (p.take 4)):=by
    intro i
    rw [hw0g]
    split
    · exact hp i
    · decide
  have hmask:bitsV .and .u64 ((wr (List.replicate 4 0) 0 (p.take 4)).getD 3 0) 1152921504606846975=p.getD 3 0%1152921504606846976:=by
    rw [hw0g,if_pos (by decide)]
    exact and_low 60 (by decide) (by decide) (hp 3).1 (hp 3).2
  have hlow:V4 (setD (wr (List.replicate 4 0) 0 (p.take 4)) 3 (bitsV .and .u64 ((wr (List.replicate 4 0) 0 (p.take 4)).getD 3 0) 1152921504606846975))=p.getD 0 0+p.getD 1 0*18446744073709551616+p.getD 2 0*340282366920938463463374607431768211456+(p.getD 3 0%1152921504606846976)*6277101735386680763835789423207666416102355444464034512896:=by
    unfold V4
    rw [hmask]
    simp only [getD_setD,hw0g]
    simp
  have h3:pV p 3=p.getD 0 0+p.getD 1 0*18446744073709551616+p.getD 2 0*340282366920938463463374607431768211456:=by
    simp only [pV]
    omega
  have hr0:=hp 0
  have hr1:=hp 1
  have hr2:=hp 2
  have hr3:=hp 3
  by_cases hlen:3≤p.length
  · obtain ⟨l',e,h1,h2,h4⟩:=split_loopV hp hb (k:=fun l128=>some (setD (wr (List.replicate 4 0) 0 (p.take 4)) 3 (bitsV .and .u64 ((wr (List.replicate 4 0) 0 (p.take 4)).getD 3 0) 1152921504606846975),l128)) (p.length-3) n 0 [] (by omega) rfl (W64_replicate 0)
    refine ⟨(setD (wr (List.replicate 4 0) 0 (p.take 4)) 3 (bitsV .and .u64 ((wr (List.replicate 4 0) 0 (p.take 4)).getD 3 0) 1152921504606846975)),l',?_,W64_set hw0 (and_rng _ _),h2,by omega,?_⟩
    · simp only [scalar_split,bnd_eq,jn_eq]
      rw [hn]
      exact e
    · rw [hlow]
      rw [Nat.add_zero,h3] at h4
      have e0:pV ([]:List Int) ([]:List Int).length=0:=rfl
      have e3:(18446744073709551616:Int)^3=6277101735386680763835789423207666416102355444464034512896:=by decide
      rw [e0,e3] at h4
      generalize pV p p.length=X at *
      generalize pV l' l'.length=Y at *
      omega
  · have e3:p.getD 3 0=0:=getD_end (by omega)
    have hx:pV p p.length=pV p 3:=(pV_more (by omega)).symm
    refine ⟨(setD (wr (List.replicate 4 0) 0 (p.take 4)) 3 (bitsV .and .u64 ((wr (List.replicate 4 0) 0 (p.take 4)).getD 3 0) 1152921504606846975)),[],?_,W64_set hw0 (and_rng _ _),W64_replicate 0,by simp; omega,?_⟩
    · simp only [scalar_split,bnd_eq,jn_eq]
      rw [hn,show p.length-3=0 by omega,Nat.add_zero,scalar_split_l1,scalar_split_b1,br_ff (by simp; omega)]
    · rw [hlow,hx,h3,e3]
      have e0:pV ([]:List Int) ([]:List Int).length=0:=rfl
      rw [e0]
      omega
theorem reduce_roundV {l:List Int} (n:Nat) {i:Nat} {a:List (List Int)} (hi:i<4) (hl:W64 l) (hb:l.length<1000) (ha : ∀ i,W64 (a.getD i (List.replicate 4 0)))
    (hs:V4 (a.getD (i%2) (List.replicate 4 0))+pV l l.length%7237005577332262213973186563042994240829374041602535252466099000494570602496<B4) :
    ∃ l' a',(∀ k:List (List Int)→Option (List Int),scalar_reduce_l1 k (n+1) l (i:Int) a=scalar_reduce_l1 k n l' ((i+1:Nat):Int) a')∧W64 l'∧l'.length=l.length-3+2∧(∀ i,W64 (a'.getD i (List.replicate 4 0))) ∧
      pV l' l'.length=pV l l.length / 7237005577332262213973186563042994240829374041602535252466099000494570602496*27742317777372353535851937790883648493 ∧
      V4 (a'.getD (i%2) (List.replicate 4 0))=V4 (a.getD (i%2) (List.replicate 4 0))+pV l l.length%7237005577332262213973186563042994240829374041602535252466099000494570602496 ∧
      (∀ j,j≠i%2→a'.getD j (List.replicate 4 0)=a.getD j (List.replicate 4 0)):=by
  obtain ⟨lo,h,e,w1,w2,w3,v1,v2⟩:=split_val hl (by omega)
  obtain ⟨s,c,e2,ws,hc,vs⟩:=plus_eq (ha (i%2)) w1
  obtain ⟨t,e3,l3,wt,vt⟩:=times_val w2 W64_rest (by simp; omega)
  have em:Int.tmod (i:Int) 2=((i%2:Nat):Int):=by rw [Int.tmod_eq_emod_of_nonneg (by omega)]; omega
  have e1:IntKind.wrap .i64 ((i:Int)+1)=((i+1:Nat):Int):=by rw [wi64_small (by omega) (by omega)]; rfl
  refine ⟨t,setG (List.replicate 4 0) a (i%2) s,?_,wt,by rw [l3,w3]; rfl,?_,?_,?_,?_⟩
  · intro k
    rw [scalar_reduce_l1,scalar_reduce_b1,br_tt (by simp; omega),opt_some e]
    simp only [bnd_eq,em,e1,Int.toNat_natCast]
    rw [chk_t (inB_t (by omega) (by omega)),opt_some e2,chk_t (inB_t (by omega) (by omega)),scalar_rest,opt_some rfl,opt_some e3]
  · intro j
    rw [getD_setG]
    split
    · exact ws
    · exact ha j
  · rw [vt,v2]; rfl
  · rw [getD_setG,if_pos rfl]
    have hr:=V4_rng ws
    have hr2:=V4_rng (ha (i%2))
    rw [← v1] at hs ⊢
    have hc0:c=0:=by
      unfold B4 at *
      rcases hc with h | h
      · exact h
      · exfalso; subst h; omega
    rw [vs,hc0]; omega
  · intro j hj
    rw [getD_setG,if_neg hj]
theorem V4_rep:V4 (List.replicate 4 0)=0:=by decide
theorem reduce_val {p:List Int} (hp:W64 p) (h8:p.length≤8) : ∃ r,scalar_reduce p=some r∧W64 r∧V4 r=pV p p.length%VL:=by
  obtain ⟨n,hn⟩ : ∃ n,big=n+1+1+1+1+1:=⟨18446744073709551611,big_eq⟩
  rw [scalar_reduce,jn_eq,hn]
  have ha0 : ∀ i,(List.replicate 2 (List.replicate 4 0):List (List Int)).getD i (List.replicate 4 0)=List.replicate 4 0:=by
    intro i
    match i with
    | 0=>rfl
    | 1=>rfl
    | i+2=>rfl
  have hX:=pV_rng hp 8
  rw [pV_more h8] at hX
  have e8:(18446744073709551616:Int)^8=13407807929942597099574024998205846127479365820592393377723561443721764030073546976801874298166903427690031858186486050853753882811946569946433649006084096:=by decide
  rw [e8] at hX
  obtain ⟨l1,a1,f1,w1,n1,h1,x1,s1,o1⟩:=reduce_roundV (n+1+1+1+1) (i:=0) (l:=p) (a:=List.replicate 2 (List.replicate 4 0)) (by decide) hp (by omega) (by intro i; rw [ha0]; exact W64_replicate 4) (by
    rw [ha0,V4_rep]
    generalize pV p p.length=X at *
    unfold B4
    omega)
  rw [ha0,V4_rep] at s1
  have t1:=o1 1 (by decide)
  rw [ha0] at t1
  obtain ⟨l2,a2,f2,w2,n2,h2,x2,s2,o2⟩:=reduce_roundV (n+1+1+1) (i:=1) (by decide) w1 (by omega) h1 (by
    rw [t1,V4_rep]
    generalize pV l1 l1.length=X at *
    unfold B4
    omega)
  rw [t1,V4_rep] at s2
  have t2:=o2 0 (by decide)
  obtain ⟨l3,a3,f3,w3,n3,h3,x3,s3,o3⟩:=reduce_roundV (n+1+1) (i:=2) (by decide) w2 (by omega) h2 (by
    have e:a2.getD (2%2) (List.replicate 4 0)=a1.getD 0 (List.replicate 4 0):=t2
    have s1':V4 (a1.getD 0 (List.replicate 4 0))=_:=s1
    rw [e,s1']
    generalize pV p p.length=X at *
    generalize pV l2 l2.length=Y at *
    unfold B4
    omega)
  have t3:=o3 1 (by decide)
  obtain ⟨l4,a4,f4,w4,n4,h4,x4,s4,o4⟩:=reduce_roundV (n+1) (i:=3) (by decide) w3 (by omega) h3 (by
    have e:a3.getD (3%2) (List.replicate 4 0)=a2.getD 1 (List.replicate 4 0):=t3
    have s2':V4 (a2.getD 1 (List.replicate 4 0))=_:=s2
    rw [e,s2']
    generalize pV l1 l1.length=X at *
    generalize pV l3 l3.length=Y at *
    unfold B4
    omega)
  have t4:=o4 0 (by decide)
  have v0:V4 (a4.getD 0 (List.replicate 4 0))=pV p p.length%7237005577332262213973186563042994240829374041602535252466099000494570602496+pV l2 l2.length%7237005577332262213973186563042994240829374041602535252466099000494570602496:=by
    have s3':V4 (a3.getD 0 (List.replicate 4 0))=V4 (a2.getD 0 (List.replicate 4 0))+_:=s3
    have s1':V4 (a1.getD 0 (List.replicate 4 0))=_:=s1
    rw [t4,s3',t2,s1']
    omega
  have v1:V4 (a4.getD 1 (List.replicate 4 0))=pV l1 l1.length%7237005577332262213973186563042994240829374041602535252466099000494570602496+pV l3 l3.length%7237005577332262213973186563042994240829374041602535252466099000494570602496:=by
    have s4':V4 (a4.getD 1 (List.replicate 4 0))=V4 (a3.getD 1 (List.replicate 4 0))+_:=s4
    have s2':V4 (a2.getD 1 (List.replicate 4 0))=_:=s2
    rw [s4',t3,s2']
    omega
  obtain ⟨g1,c1,q1,z1,hc1,y1⟩:=plus_eq W64_order W64_order
  obtain ⟨g2,c2,q2,z2,hc2,y2⟩:=plus_eq (h4 0) z1
  obtain ⟨g3,c3,q3,z3,hc3,y3⟩:=minus_eq z2 (h4 1)
  obtain ⟨r,q4,z4,y4⟩:=below_eq z3
  refine ⟨r,?_,z4,?_⟩
  · refine (f1 _).trans ((f2 _).trans ((f3 _).trans ((f4 _).trans ?_)))
    rw [scalar_reduce_l1,scalar_reduce_b1,br_ff (by decide),opt_some q1,bnd_eq,opt_some q2,bnd_eq,opt_some q3,opt_some q4]
  · have r1:=V4_rng z1
    have r2:=V4_rng z2
    have r3:=V4_rng z3
    rw [y4]
    rw [V4_order] at y1
    rw [v0] at y2
    rw [v1] at y3
    generalize V4 g1=G1 at *
    generalize V4 g2=G2 at *
    generalize V4 g3=G3 at *
    generalize pV p p.length=X at *
    generalize pV l1 l1.length=X1 at *
    generalize pV l2 l2.length=X2 at *
    generalize pV l3 l3.length=X3 at *
    clear f1 f2 f3 f4 q1 q2 q3 q4 e8
    unfold VL at *
    unfold B4 at *
    have k1:c1=0:=by rcases hc1 with h | h <;> omega
    subst k1
    have b1:X1<51397454971639728862728594851412511588645886491167898648663828096174877345658614143171087801555262538602929264263168:=by omega
    have b2:X2<197026866089141791222560432227205258386878298291626920115022677913390379788544:=by omega
    have b3:X3<776784897766425899003854258144742157804:=by omega
    have k2:c2=0:=by rcases hc2 with h | h <;> omega
    subst k2
    have k3:c3=0:=by rcases hc3 with h | h <;> omega
    subst k3
    have e:G3=X-7237005577332262213973186563042994240857116359379907606001950938285454250989*(X / 7237005577332262213973186563042994240829374041602535252466099000494570602496-X1 / 7237005577332262213973186563042994240829374041602535252466099000494570602496+X2 / 7237005577332262213973186563042994240829374041602535252466099000494570602496-2):=by omega
    rw [e,Int.sub_mul_emod_self_left]
theorem shl_b (k:Nat) {b:Int} (hk:k≤56) (h:0≤b∧b<256):shlV .u64 (IntKind.wrap .u64 b) (k:Int)=b*((2^k:Nat):Int):=by
  have hp:(0:Int)<((2^k:Nat):Int):=by have:=Nat.pow_pos (n:=k) (show 0<2 by decide); omega
  have hle:((2^k:Nat):Int)≤72057594037927936:=by
    have:=Nat.pow_le_pow_right (show 0<2 by decide) hk
    have e:(2^56:Nat)=72057594037927936:=by decide
    omega
  have h1:b*((2^k:Nat):Int)≤255*72057594037927936:=Int.mul_le_mul (by omega) hle (by omega) (by omega)
  have h0:0≤b*((2^k:Nat):Int):=Int.mul_nonneg h.1 (by omega)
  rw [wu64_small h.1 (by omega),shl_eq .u64 (n:=k) (by show k≤64; omega),wu64_small h0 (by omega)]
theorem word_le {b0 b1 b2 b3 b4 b5 b6 b7:Int} (h0:0≤b0∧b0<256) (h1:0≤b1∧b1<256) (h2:0≤b2∧b2<256) (h3:0≤b3∧b3<256) (h4:0≤b4∧b4<256) (h5:0≤b5∧b5<256) (h6:0≤b6∧b6<256) (h7:0≤b7∧b7<256):bitsV .or .u64 (bitsV .or .u64 (bitsV .or .u64 (bitsV .or .u64 (bitsV .or .u64 (bitsV .or .u64 (bitsV .or .u64 (bitsV .or .u64 (0) (shlV .u64 (IntKind.wrap .u64 (b0)) 0)) (shlV .u64 (IntKind.wrap .u64 (b1)) 8)) (shlV .u64 (IntKind.wrap .u64 (b2)) 16)) (shlV .u64 (IntKind.wrap .u64 (b3)) 24)) (shlV .u64 (IntKind.wrap .u64 (b4)) 32)) (shlV .u64 (IntKind.wrap .u64 (b5)) 40)) (shlV .u64 (IntKind.wrap .u64 (b6)) 48)) (shlV .u64 (IntKind.wrap .u64 (b7)) 56)=b0+b1*256+b2*65536+b3*16777216+b4*4294967296+b5*1099511627776+b6*281474976710656+b7*72057594037927936:=by
  have s0:=shl_b 0 (by decide) h0
  have s1:=shl_b 8 (by decide) h1
  have s2:=shl_b 16 (by decide) h2
  have s3:=shl_b 24 (by decide) h3
  have s4:=shl_b 32 (by decide) h4
  have s5:=shl_b 40 (by decide) h5
  have s6:=shl_b 48 (by decide) h6
  have s7:=shl_b 56 (by decide) h7
  have t0:shlV .u64 (IntKind.wrap .u64 b0) 0=b0*1:=s0
  have t1:shlV .u64 (IntKind.wrap .u64 b1) 8=b1*256:=s1
  have t2:shlV .u64 (IntKind.wrap .u64 b2) 16=b2*65536:=s2
  have t3:shlV .u64 (IntKind.wrap .u64 b3) 24=b3*16777216:=s3
  have t4:shlV .u64 (IntKind.wrap .u64 b4) 32=b4*4294967296:=s4
  have t5:shlV .u64 (IntKind.wrap .u64 b5) 40=b5*1099511627776:=s5
  have t6:shlV .u64 (IntKind.wrap .u64 b6) 48=b6*281474976710656:=s6
  have t7:shlV .u64 (IntKind.wrap .u64 b7) 56=b7*72057594037927936:=s7
  rw [t0,t1,t2,t3,t4,t5,t6,t7]
  rw [or_add' 0 (x:=b0*1) (y:=0) (a:=b0) rfl (by omega) (by omega) (by decide) (by omega)]
  rw [or_add' 8 (x:=b1*256) (a:=b1) rfl (by omega) (by omega) (by show _<(256:Int); omega) (by omega)]
  rw [or_add' 16 (x:=b2*65536) (a:=b2) rfl (by omega) (by omega) (by show _<(65536:Int); omega) (by omega)]
  rw [or_add' 24 (x:=b3*16777216) (a:=b3) rfl (by omega) (by omega) (by show _<(16777216:Int); omega) (by omega)]
  rw [or_add' 32 (x:=b4*4294967296) (a:=b4) rfl (by omega) (by omega) (by show _<(4294967296:Int); omega) (by omega)]
  rw [or_add' 40 (x:=b5*1099511627776) (a:=b5) rfl (by omega) (by omega) (by show _<(1099511627776:Int); omega) (by omega)]
  rw [or_add' 48 (x:=b6*281474976710656) (a:=b6) rfl (by omega) (by omega) (by show _<(281474976710656:Int); omega) (by omega)]
  rw [or_add' 56 (x:=b7*72057594037927936) (a:=b7) rfl (by omega) (by omega) (by show _<(72057594037927936:Int); omega) (by omega)]
  omega
theorem load_val {p:List Int} (h:Byt p) : ∃ r,scalar_load p=some r∧W64 r∧r.length=4∧V4 r=sval p:=by
  refine ⟨_,loadLE_run p,w64_of ?_,rfl,?_⟩
  · repeat' (first | exact or_rng _ _ | exact List.forall_mem_nil _ | refine List.forall_mem_cons.2 ⟨?_,?_⟩)
  · unfold V4
    simp only [List.getD_cons_zero,List.getD_cons_succ]
    rw [word_le (h 0) (h 1) (h 2) (h 3) (h 4) (h 5) (h 6) (h 7)]
    rw [word_le (h 8) (h 9) (h 10) (h 11) (h 12) (h 13) (h 14) (h 15)]
    rw [word_le (h 16) (h 17) (h 18) (h 19) (h 20) (h 21) (h 22) (h 23)]
    rw [word_le (h 24) (h 25) (h 26) (h 27) (h 28) (h 29) (h 30) (h 31)]
    unfold sval
    omega
theorem shr8_eq (x:Int):shrV .u64 x 8=x / 256:=by have:=shr_eq .u64 (x:=x) (n:=8) (by decide); simpa using this
theorem V4_part {p:List Int} (h:W64 p):V4 p%18446744073709551616=p.getD 0 0∧V4 p / 18446744073709551616%18446744073709551616=p.getD 1 0∧V4 p / 340282366920938463463374607431768211456%18446744073709551616=p.getD 2 0∧V4 p / 6277101735386680763835789423207666416102355444464034512896%18446744073709551616=p.getD 3 0:=by
  have h0:=h 0
  have h1:=h 1
  have h2:=h 2
  have h3:=h 3
  unfold V4
  refine ⟨by omega,by omega,by omega,by omega⟩
theorem sb_0 {n x:Int} (h:n%18446744073709551616=x):IntKind.wrap .u8 (x)=n%256:=by
  simp only [shr8_eq,wu8_eq]
  omega
theorem sb_1 {n x:Int} (h:n%18446744073709551616=x):IntKind.wrap .u8 (shrV .u64 (x) 8)=n / 256%256:=by
  simp only [shr8_eq,wu8_eq]
  omega
theorem sb_2 {n x:Int} (h:n%18446744073709551616=x):IntKind.wrap .u8 (shrV .u64 (shrV .u64 (x) 8) 8)=n / 65536%256:=by
  simp only [shr8_eq,wu8_eq]
  omega
theorem sb_3 {n x:Int} (h:n%18446744073709551616=x):IntKind.wrap .u8 (shrV .u64 (shrV .u64 (shrV .u64 (x) 8) 8) 8)=n / 16777216%256:=by
  simp only [shr8_eq,wu8_eq]
  omega
theorem sb_4 {n x:Int} (h:n%18446744073709551616=x):IntKind.wrap .u8 (shrV .u64 (shrV .u64 (shrV .u64 (shrV .u64 (x) 8) 8) 8) 8)=n / 4294967296%256:=by
  simp only [shr8_eq,wu8_eq]
  omega
theorem sb_5 {n x:Int} (h:n%18446744073709551616=x):IntKind.wrap .u8 (shrV .u64 (shrV .u64 (shrV .u64 (shrV .u64 (shrV .u64 (x) 8) 8) 8) 8) 8)=n / 1099511627776%256:=by
  simp only [shr8_eq,wu8_eq]
  omega
theorem sb_6 {n x:Int} (h:n%18446744073709551616=x):IntKind.wrap .u8 (shrV .u64 (shrV .u64 (shrV .u64 (shrV .u64 (shrV .u64 (shrV .u64 (x) 8) 8) 8) 8) 8) 8)=n / 281474976710656%256:=by
  simp only [shr8_eq,wu8_eq]
  omega
theorem sb_7 {n x:Int} (h:n%18446744073709551616=x):IntKind.wrap .u8 (shrV .u64 (shrV .u64 (shrV .u64 (shrV .u64 (shrV .u64 (shrV .u64 (shrV .u64 (x) 8) 8) 8) 8) 8) 8) 8)=n / 72057594037927936%256:=by
  simp only [shr8_eq,wu8_eq]
  omega
theorem sb_8 {n x:Int} (h:n / 18446744073709551616%18446744073709551616=x):IntKind.wrap .u8 (x)=n / 18446744073709551616%256:=by
  simp only [shr8_eq,wu8_eq]
  omega
theorem sb_9 {n x:Int} (h:n / 18446744073709551616%18446744073709551616=x):IntKind.wrap .u8 (shrV .u64 (x) 8)=n / 4722366482869645213696%256:=by
  simp only [shr8_eq,wu8_eq]
  omega
theorem sb_10 {n x:Int} (h:n / 18446744073709551616%18446744073709551616=x):IntKind.wrap .u8 (shrV .u64 (shrV .u64 (x) 8) 8)=n / 1208925819614629174706176%256:=by
  simp only [shr8_eq,wu8_eq]
  omega
theorem sb_11 {n x:Int} (h:n / 18446744073709551616%18446744073709551616=x):IntKind.wrap .u8 (shrV .u64 (shrV .u64 (shrV .u64 (x) 8) 8) 8)=n / 309485009821345068724781056%256:=by
  simp only [shr8_eq,wu8_eq]
  omega
theorem sb_12 {n x:Int} (h:n / 18446744073709551616%18446744073709551616=x):IntKind.wrap .u8 (shrV .u64 (shrV .u64 (shrV .u64 (shrV .u64 (x) 8) 8) 8) 8)=n / 79228162514264337593543950336%256:=by
  simp only [shr8_eq,wu8_eq]
  omega
theorem sb_13 {n x:Int} (h:n / 18446744073709551616%18446744073709551616=x):IntKind.wrap .u8 (shrV .u64 (shrV .u64 (shrV .u64 (shrV .u64 (shrV .u64 (x) 8) 8) 8) 8) 8)=n / 20282409603651670423947251286016%256:=by
  simp only [shr8_eq,wu8_eq]
  omega
theorem sb_14 {n x:Int} (h:n / 18446744073709551616%18446744073709551616=x):IntKind.wrap .u8 (shrV .u64 (shrV .u64 (shrV .u64 (shrV .u64 (shrV .u64 (shrV .u64 (x) 8) 8) 8) 8) 8) 8)=n / 5192296858534827628530496329220096%256:=by
  simp only [shr8_eq,wu8_eq]
  omega
theorem sb_15 {n x:Int} (h:n / 18446744073709551616%18446744073709551616=x):IntKind.wrap .u8 (shrV .u64 (shrV .u64 (shrV .u64 (shrV .u64 (shrV .u64 (shrV .u64 (shrV .u64 (x) 8) 8) 8) 8) 8) 8) 8)=n / 1329227995784915872903807060280344576%256:=by
  simp only [shr8_eq,wu8_eq]
  omega
theorem sb_16 {n x:Int} (h:n / 340282366920938463463374607431768211456%18446744073709551616=x):IntKind.wrap .u8 (x)=n / 340282366920938463463374607431768211456%256:=by
  simp only [shr8_eq,wu8_eq]
  omega
theorem sb_17 {n x:Int} (h:n / 340282366920938463463374607431768211456%18446744073709551616=x):IntKind.wrap .u8 (shrV .u64 (x) 8)=n / 87112285931760246646623899502532662132736%256:=by
  simp only [shr8_eq,wu8_eq]
  omega
theorem sb_18 {n x:Int} (h:n / 340282366920938463463374607431768211456%18446744073709551616=x):IntKind.wrap .u8 (shrV .u64 (shrV .u64 (x) 8) 8)=n / 22300745198530623141535718272648361505980416%256:=by
  simp only [shr8_eq,wu8_eq]
  omega
theorem sb_19 {n x:Int} (h:n / 340282366920938463463374607431768211456%18446744073709551616=x):IntKind.wrap .u8 (shrV .u64 (shrV .u64 (shrV .u64 (x) 8) 8) 8)=n / 5708990770823839524233143877797980545530986496%256:=by
  simp only [shr8_eq,wu8_eq]
  omega
theorem sb_20 {n x:Int} (h:n / 340282366920938463463374607431768211456%18446744073709551616=x):IntKind.wrap .u8 (shrV .u64 (shrV .u64 (shrV .u64 (shrV .u64 (x) 8) 8) 8) 8)=n / 1461501637330902918203684832716283019655932542976%256:=by
  simp only [shr8_eq,wu8_eq]
  omega
theorem sb_21 {n x:Int} (h:n / 340282366920938463463374607431768211456%18446744073709551616=x):IntKind.wrap .u8 (shrV .u64 (shrV .u64 (shrV .u64 (shrV .u64 (shrV .u64 (x) 8) 8) 8) 8) 8)=n / 374144419156711147060143317175368453031918731001856%256:=by
  simp only [shr8_eq,wu8_eq]
  omega
theorem sb_22 {n x:Int} (h:n / 340282366920938463463374607431768211456%18446744073709551616=x):IntKind.wrap .u8 (shrV .u64 (shrV .u64 (shrV .u64 (shrV .u64 (shrV .u64 (shrV .u64 (x) 8) 8) 8) 8) 8) 8)=n / 95780971304118053647396689196894323976171195136475136%256:=by
  simp only [shr8_eq,wu8_eq]
  omega
theorem sb_23 {n x:Int} (h:n / 340282366920938463463374607431768211456%18446744073709551616=x):IntKind.wrap .u8 (shrV .u64 (shrV .u64 (shrV .u64 (shrV .u64 (shrV .u64 (shrV .u64 (shrV .u64 (x) 8) 8) 8) 8) 8) 8) 8)=n / 24519928653854221733733552434404946937899825954937634816%256:=by
  simp only [shr8_eq,wu8_eq]
  omega
theorem sb_24 {n x:Int} (h:n / 6277101735386680763835789423207666416102355444464034512896%18446744073709551616=x):IntKind.wrap .u8 (x)=n / 6277101735386680763835789423207666416102355444464034512896%256:=by
  simp only [shr8_eq,wu8_eq]
  omega
theorem sb_25 {n x:Int} (h:n / 6277101735386680763835789423207666416102355444464034512896%18446744073709551616=x):IntKind.wrap .u8 (shrV .u64 (x) 8)=n / 1606938044258990275541962092341162602522202993782792835301376%256:=by
  simp only [shr8_eq,wu8_eq]
  omega
theorem sb_26 {n x:Int} (h:n / 6277101735386680763835789423207666416102355444464034512896%18446744073709551616=x):IntKind.wrap .u8 (shrV .u64 (shrV .u64 (x) 8) 8)=n / 411376139330301510538742295639337626245683966408394965837152256%256:=by
  simp only [shr8_eq,wu8_eq]
  omega
theorem sb_27 {n x:Int} (h:n / 6277101735386680763835789423207666416102355444464034512896%18446744073709551616=x):IntKind.wrap .u8 (shrV .u64 (shrV .u64 (shrV .u64 (x) 8) 8) 8)=n / 105312291668557186697918027683670432318895095400549111254310977536%256:=by
  simp only [shr8_eq,wu8_eq]
  omega
theorem sb_28 {n x:Int} (h:n / 6277101735386680763835789423207666416102355444464034512896%18446744073709551616=x):IntKind.wrap .u8 (shrV .u64 (shrV .u64 (shrV .u64 (shrV .u64 (x) 8) 8) 8) 8)=n / 26959946667150639794667015087019630673637144422540572481103610249216%256:=by
  simp only [shr8_eq,wu8_eq]
  omega
theorem sb_29 {n x:Int} (h:n / 6277101735386680763835789423207666416102355444464034512896%18446744073709551616=x):IntKind.wrap .u8 (shrV .u64 (shrV .u64 (shrV .u64 (shrV .u64 (shrV .u64 (x) 8) 8) 8) 8) 8)=n / 6901746346790563787434755862277025452451108972170386555162524223799296%256:=by
  simp only [shr8_eq,wu8_eq]
  omega
theorem sb_30 {n x:Int} (h:n / 6277101735386680763835789423207666416102355444464034512896%18446744073709551616=x):IntKind.wrap .u8 (shrV .u64 (shrV .u64 (shrV .u64 (shrV .u64 (shrV .u64 (shrV .u64 (x) 8) 8) 8) 8) 8) 8)=n / 1766847064778384329583297500742918515827483896875618958121606201292619776%256:=by
  simp only [shr8_eq,wu8_eq]
  omega
theorem sb_31 {n x:Int} (h:n / 6277101735386680763835789423207666416102355444464034512896%18446744073709551616=x):IntKind.wrap .u8 (shrV .u64 (shrV .u64 (shrV .u64 (shrV .u64 (shrV .u64 (shrV .u64 (shrV .u64 (x) 8) 8) 8) 8) 8) 8) 8)=n / 452312848583266388373324160190187140051835877600158453279131187530910662656%256:=by
  simp only [shr8_eq,wu8_eq]
  omega
theorem store_val {p:List Int} (h:W64 p):scalar_store p=some (byt (V4 p)):=by
  obtain ⟨e0,e1,e2,e3⟩:=V4_part h
  rw [store_run]
  unfold byt
  rw [sb_0 e0,sb_1 e0,sb_2 e0,sb_3 e0,sb_4 e0,sb_5 e0,sb_6 e0,sb_7 e0,sb_8 e1,sb_9 e1,sb_10 e1,sb_11 e1,sb_12 e1,sb_13 e1,sb_14 e1,sb_15 e1,sb_16 e2,sb_17 e2,sb_18 e2,sb_19 e2,sb_20 e2,sb_21 e2,sb_22 e2,sb_23 e2,sb_24 e3,sb_25 e3,sb_26 e3,sb_27 e3,sb_28 e3,sb_29 e3,sb_30 e3,sb_31 e3]
theorem sval_byt {n:Int} (h0:0≤n) (h1:n<115792089237316195423570985008687907853269984665640564039457584007913129639936):sval (byt n)=n:=by
  simp only [sval,byt,List.getD_cons_zero,List.getD_cons_succ]
  omega
theorem pV_four (r:List Int):pV r 4=V4 r:=by
  simp only [pV,V4]
  have e1:(18446744073709551616:Int)^0=1:=by decide
  have e2:(18446744073709551616:Int)^1=18446744073709551616:=by decide
  have e3:(18446744073709551616:Int)^2=340282366920938463463374607431768211456:=by decide
  have e4:(18446744073709551616:Int)^3=6277101735386680763835789423207666416102355444464034512896:=by decide
  rw [e1,e2,e3,e4]
  omega
theorem words_val {p:List Int} (h:Byt p) : ∃ r,scalar_words p=some r∧W64 r∧r.length=4∧pV r r.length=sval p:=by
  obtain ⟨r,e,w,l,v⟩:=load_val h
  refine ⟨r,?_,w,l,by rw [l,pV_four,v]⟩
  rw [scalar_words,opt_some e,tk_all l]
theorem mod_val {p:List Int} (h:Byt p) : ∃ r,scalar_mod p=some r∧W64 r∧V4 r=sval p%VL:=by
  obtain ⟨r,e,w,l,v⟩:=words_val h
  obtain ⟨s,e2,w2,v2⟩:=reduce_val w (by omega)
  exact ⟨s,by rw [scalar_mod,opt_some e,opt_some e2],w2,by rw [v2,v]⟩
theorem VL_rng (n:Int):0≤n%VL∧n%VL<VL:=⟨Int.emod_nonneg _ (by decide),Int.emod_lt_of_pos _ (by decide)⟩
theorem sMul_val {p q:List Int} (hp:Byt p) (hq:Byt q):scalar_Mul p q=some (byt (sval p*sval q%VL)):=by
  obtain ⟨a,e1,w1,l1,v1⟩:=words_val hp
  obtain ⟨b,e2,w2,l2,v2⟩:=words_val hq
  obtain ⟨c,e3,l3,w3,v3⟩:=times_val w1 w2 (by omega)
  obtain ⟨d,e4,w4,v4⟩:=reduce_val w3 (by omega)
  rw [scalar_Mul,opt_some e1,opt_some e2,opt_some e3,opt_some e4,opt_some (store_val w4),v4,v3,v1,v2]
theorem sAdd_val {p q:List Int} (hp:Byt p) (hq:Byt q):scalar_Add p q=some (byt ((sval p+sval q)%VL)):=by
  obtain ⟨a,e1,w1,v1⟩:=mod_val hp
  obtain ⟨b,e2,w2,v2⟩:=mod_val hq
  obtain ⟨c,o,e3,w3,ho,v3⟩:=plus_eq w1 w2
  obtain ⟨d,e4,w4,v4⟩:=below_eq w3
  have h1:=VL_rng (sval p)
  have h2:=VL_rng (sval q)
  have h3:=V4_rng w3
  have e:V4 c=sval p%VL+sval q%VL:=by
    rw [v1,v2] at v3
    unfold VL B4 at *
    rcases ho with h | h <;> subst h <;> omega
  rw [scalar_Add,opt_some e1,opt_some e2,opt_some e3,opt_some e4,opt_some (store_val w4),v4,e,← Int.add_emod]
theorem sMulAdd_val {p q r:List Int} (hp:Byt p) (hq:Byt q) (hr:Byt r):scalar_MulAdd p q r=some (byt ((sval p*sval q+sval r)%VL)):=by
  have h:=VL_rng (sval p*sval q)
  rw [scalar_MulAdd,opt_some (sMul_val hp hq),opt_some (sAdd_val (byt_byt _) hr),sval_byt h.1 (by unfold VL at h ⊢; omega),Int.emod_add_emod]
def wval (x:List Int):Int:=x.getD 0 0+x.getD 1 0*256+x.getD 2 0*65536+x.getD 3 0*16777216+x.getD 4 0*4294967296+x.getD 5 0*1099511627776+x.getD 6 0*281474976710656+x.getD 7 0*72057594037927936+x.getD 8 0*18446744073709551616+x.getD 9 0*4722366482869645213696+x.getD 10 0*1208925819614629174706176+x.getD 11 0*309485009821345068724781056+x.getD 12 0*79228162514264337593543950336+x.getD 13 0*20282409603651670423947251286016+x.getD 14 0*5192296858534827628530496329220096+x.getD 15 0*1329227995784915872903807060280344576+x.getD 16 0*340282366920938463463374607431768211456+x.getD 17 0*87112285931760246646623899502532662132736+x.getD 18 0*22300745198530623141535718272648361505980416+x.getD 19 0*5708990770823839524233143877797980545530986496+x.getD 20 0*1461501637330902918203684832716283019655932542976+x.getD 21 0*374144419156711147060143317175368453031918731001856+x.getD 22 0*95780971304118053647396689196894323976171195136475136+x.getD 23 0*24519928653854221733733552434404946937899825954937634816+x.getD 24 0*6277101735386680763835789423207666416102355444464034512896+x.getD 25 0*1606938044258990275541962092341162602522202993782792835301376+x.getD 26 0*411376139330301510538742295639337626245683966408394965837152256+x.getD 27 0*105312291668557186697918027683670432318895095400549111254310977536+x.getD 28 0*26959946667150639794667015087019630673637144422540572481103610249216+x.getD 29 0*6901746346790563787434755862277025452451108972170386555162524223799296+x.getD 30 0*1766847064778384329583297500742918515827483896875618958121606201292619776+x.getD 31 0*452312848583266388373324160190187140051835877600158453279131187530910662656+x.getD 32 0*115792089237316195423570985008687907853269984665640564039457584007913129639936+x.getD 33 0*29642774844752946028434172162224104410437116074403984394101141506025761187823616+x.getD 34 0*7588550360256754183279148073529370729071901715047420004889892225542594864082845696+x.getD 35 0*1942668892225729070919461906823518906642406839052139521251812409738904285205208498176+x.getD 36 0*497323236409786642155382248146820840100456150797347717440463976893159497012533375533056+x.getD 37 0*127314748520905380391777855525586135065716774604121015664758778084648831235208544136462336+x.getD 38 0*32592575621351777380295131014550050576823494298654980010178247189670100796213387298934358016+x.getD 39 0*8343699359066055009355553539724812947666814540455674882605631280555545803830627148527195652096+x.getD 40 0*2135987035920910082395021706169552114602704522356652769947041607822219725780640550022962086936576+x.getD 41 0*546812681195752981093125556779405341338292357723303109106442651602488249799843980805878294255763456+x.getD 42 0*139984046386112763159840142535527767382602843577165595931249318810236991948760059086304843329475444736+x.getD 43 0*35835915874844867368919076489095108449946327955754392558399825615420669938882575126094039892345713852416+x.getD 44 0*9173994463960286046443283581208347763186259956673124494950355357547691504353939232280074212440502746218496+x.getD 45 0*2348542582773833227889480596789337027375682548908319870707290971532209025114608443463698998384768703031934976+x.getD 46 0*601226901190101306339707032778070279008174732520529886901066488712245510429339761526706943586500787976175353856+x.getD 47 0*153914086704665934422965000391185991426092731525255651046673021110334850669910978950836977558144201721900890587136+x.getD 48 0*39402006196394479212279040100143613805079739270465446667948293404245721771497210611414266254884915640806627990306816+x.getD 49 0*10086913586276986678343434265636765134100413253239154346994763111486904773503285916522052161250538404046496765518544896+x.getD 50 0*2582249878086908589655919172003011874329705792829223512830659356540647622016841194629645353280137831435903171972747493376+x.getD 51 0*661055968790248598951915308032771039828404682964281219284648795274405791236311345825189210439715284847591212025023358304256+x.getD 52 0*169230328010303641331690318856389386196071598838855992136870091590247882556495704531248437872567112920983350278405979725889536+x.getD 53 0*43322963970637732180912721627235682866194329302747133987038743447103457934462900359999600095377180907771737671271930809827721216+x.getD 54 0*11090678776483259438313656736572334813745748301503266300681918322458485231222502492159897624416558312389564843845614287315896631296+x.getD 55 0*2839213766779714416208296124562517712318911565184836172974571090549372219192960637992933791850638927971728600024477257552869537611776+x.getD 56 0*726838724295606890549323807888004534353641360687318060281490199180639288113397923326191050713763565560762521606266177933534601628614656+x.getD 57 0*186070713419675363980626894819329160794532188335953423432061490990243657757029868371504908982723472783555205531204141550984858016925351936+x.getD 58 0*47634102635436893179040485073748265163400240214004076398607741693502376385799646303105256699577209032590132615988260237052123652332890095616+x.getD 59 0*12194330274671844653834364178879555881830461494785043558043581873536608354764709453594945715091765512343073949692994620685343654997219864477696+x.getD 60 0*3121748550315992231381597229793166305748598142664971150859156959625371738819765620120306103063491971159826931121406622895447975679288285306290176+x.getD 61 0*799167628880894011233688890827050574271641124522232614619944181664095165137859998750798362384253944616915694367080095461234681773897801038410285056+x.getD 62 0*204586912993508866875824356051724947013540127877691549342705710506008362275292159680204380770369009821930417757972504438076078534117837065833032974336+x.getD 63 0*52374249726338269920211035149241586435466272736689036631732661889538140742474792878132321477214466514414186946040961136147476104734166288853256441430016
theorem Reduce_val {p:List Int} (h:Byt p):scalar_Reduce p=some (byt (wval p%VL)):=by
  rw [scalar_Reduce,jn_eq,Reduce_run]
  have hw:W64 ([bitsV .or .u64 (bitsV .or .u64 (bitsV .or .u64 (bitsV .or .u64 (bitsV .or .u64 (bitsV .or .u64 (bitsV .or .u64 (bitsV .or .u64 (0) (shlV .u64 (IntKind.wrap .u64 (p.getD 0 0)) 0)) (shlV .u64 (IntKind.wrap .u64 (p.getD 1 0)) 8)) (shlV .u64 (IntKind.wrap .u64 (p.getD 2 0)) 16)) (shlV .u64 (IntKind.wrap .u64 (p.getD 3 0)) 24)) (shlV .u64 (IntKind.wrap .u64 (p.getD 4 0)) 32)) (shlV .u64 (IntKind.wrap .u64 (p.getD 5 0)) 40)) (shlV .u64 (IntKind.wrap .u64 (p.getD 6 0)) 48)) (shlV .u64 (IntKind.wrap .u64 (p.getD 7 0)) 56),bitsV .or .u64 (bitsV .or .u64 (bitsV .or .u64 (bitsV .or .u64 (bitsV .or .u64 (bitsV .or .u64 (bitsV .or .u64 (bitsV .or .u64 (0) (shlV .u64 (IntKind.wrap .u64 (p.getD 8 0)) 0)) (shlV .u64 (IntKind.wrap .u64 (p.getD 9 0)) 8)) (shlV .u64 (IntKind.wrap .u64 (p.getD 10 0)) 16)) (shlV .u64 (IntKind.wrap .u64 (p.getD 11 0)) 24)) (shlV .u64 (IntKind.wrap .u64 (p.getD 12 0)) 32)) (shlV .u64 (IntKind.wrap .u64 (p.getD 13 0)) 40)) (shlV .u64 (IntKind.wrap .u64 (p.getD 14 0)) 48)) (shlV .u64 (IntKind.wrap .u64 (p.getD 15 0)) 56),bitsV .or .u64 (bitsV .or .u64 (bitsV .or .u64 (bitsV .or .u64 (bitsV .or .u64 (bitsV .or .u64 (bitsV .or .u64 (bitsV .or .u64 (0) (shlV .u64 (IntKind.wrap .u64 (p.getD 16 0)) 0)) (shlV .u64 (IntKind.wrap .u64 (p.getD 17 0)) 8)) (shlV .u64 (IntKind.wrap .u64 (p.getD 18 0)) 16)) (shlV .u64 (IntKind.wrap .u64 (p.getD 19 0)) 24)) (shlV .u64 (IntKind.wrap .u64 (p.getD 20 0)) 32)) (shlV .u64 (IntKind.wrap .u64 (p.getD 21 0)) 40)) (shlV .u64 (IntKind.wrap .u64 (p.getD 22 0)) 48)) (shlV .u64 (IntKind.wrap .u64 (p.getD 23 0)) 56),bitsV .or .u64 (bitsV .or .u64 (bitsV .or .u64 (bitsV .or .u64 (bitsV .or .u64 (bitsV .or .u64 (bitsV .or .u64 (bitsV .or .u64 (0) (shlV .u64 (IntKind.wrap .u64 (p.getD 24 0)) 0)) (shlV .u64 (IntKind.wrap .u64 (p.getD 25 0)) 8)) (shlV .u64 (IntKind.wrap .u64 (p.getD 26 0)) 16)) (shlV .u64 (IntKind.wrap .u64 (p.getD 27 0)) 24)) (shlV .u64 (IntKind.wrap .u64 (p.getD 28 0)) 32)) (shlV .u64 (IntKind.wrap .u64 (p.getD 29 0)) 40)) (shlV .u64 (IntKind.wrap .u64 (p.getD 30 0)) 48)) (shlV .u64 (IntKind.wrap .u64 (p.getD 31 0)) 56),bitsV .or .u64 (bitsV .or .u64 (bitsV .or .u64 (bitsV .or .u64 (bitsV .or .u64 (bitsV .or .u64 (bitsV .or .u64 (bitsV .or .u64 (0) (shlV .u64 (IntKind.wrap .u64 (p.getD 32 0)) 0)) (shlV .u64 (IntKind.wrap .u64 (p.getD 33 0)) 8)) (shlV .u64 (IntKind.wrap .u64 (p.getD 34 0)) 16)) (shlV .u64 (IntKind.wrap .u64 (p.getD 35 0)) 24)) (shlV .u64 (IntKind.wrap .u64 (p.getD 36 0)) 32)) (shlV .u64 (IntKind.wrap .u64 (p.getD 37 0)) 40)) (shlV .u64 (IntKind.wrap .u64 (p.getD 38 0)) 48)) (shlV .u64 (IntKind.wrap .u64 (p.getD 39 0)) 56),bitsV .or .u64 (bitsV .or .u64 (bitsV .or .u64 (bitsV .or .u64 (bitsV .or .u64 (bitsV .or .u64 (bitsV .or .u64 (bitsV .or .u64 (0) (shlV .u64 (IntKind.wrap .u64 (p.getD 40 0)) 0)) (shlV .u64 (IntKind.wrap .u64 (p.getD 41 0)) 8)) (shlV .u64 (IntKind.wrap .u64 (p.getD 42 0)) 16)) (shlV .u64 (IntKind.wrap .u64 (p.getD 43 0)) 24)) (shlV .u64 (IntKind.wrap .u64 (p.getD 44 0)) 32)) (shlV .u64 (IntKind.wrap .u64 (p.getD 45 0)) 40)) (shlV .u64 (IntKind.wrap .u64 (p.getD 46 0)) 48)) (shlV .u64 (IntKind.wrap .u64 (p.getD 47 0)) 56),bitsV .or .u64 (bitsV .or .u64 (bitsV .or .u64 (bitsV .or .u64 (bitsV .or .u64 (bitsV .or .u64 (bitsV .or .u64 (bitsV .or .u64 (0) (shlV .u64 (IntKind.wrap .u64 (p.getD 48 0)) 0)) (shlV .u64 (IntKind.wrap .u64 (p.getD 49 0)) 8)) (shlV .u64 (IntKind.wrap .u64 (p.getD 50 0)) 16)) (shlV .u64 (IntKind.wrap .u64 (p.getD 51 0)) 24)) (shlV .u64 (IntKind.wrap .u64 (p.getD 52 0)) 32)) (shlV .u64 (IntKind.wrap .u64 (p.getD 53 0)) 40)) (shlV .u64 (IntKind.wrap .u64 (p.getD 54 0)) 48)) (shlV .u64 (IntKind.wrap .u64 (p.getD 55 0)) 56),bitsV .or .u64 (bitsV .or .u64 (bitsV .or .u64 (bitsV .or .u64 (bitsV .or .u64 (bitsV .or .u64 (bitsV .or .u64 (bitsV .or .u64 (0) (shlV .u64 (IntKind.wrap .u64 (p.getD 56 0)) 0)) (shlV .u64 (IntKind.wrap .u64 (p.getD 57 0)) 8)) (shlV .u64 (IntKind.wrap .u64 (p.getD 58 0)) 16)) (shlV .u64 (IntKind.wrap .u64 (p.getD 59 0)) 24)) (shlV .u64 (IntKind.wrap .u64 (p.getD 60 0)) 32)) (shlV .u64 (IntKind.wrap .u64 (p.getD 61 0)) 40)) (shlV .u64 (IntKind.wrap .u64 (p.getD 62 0)) 48)) (shlV .u64 (IntKind.wrap .u64 (p.getD 63 0)) 56)]):=w64_of (by
    repeat' (first | exact or_rng _ _ | exact List.forall_mem_nil _ | refine List.forall_mem_cons.2 ⟨?_,?_⟩))
  have hv:pV ([bitsV .or .u64 (bitsV .or .u64 (bitsV .or .u64 (bitsV .or .u64 (bitsV .or .u64 (bitsV .or .u64 (bitsV .or .u64 (bitsV .or .u64 (0) (shlV .u64 (IntKind.wrap .u64 (p.getD 0 0)) 0)) (shlV .u64 (IntKind.wrap .u64 (p.getD 1 0)) 8)) (shlV .u64 (IntKind.wrap .u64 (p.getD 2 0)) 16)) (shlV .u64 (IntKind.wrap .u64 (p.getD 3 0)) 24)) (shlV .u64 (IntKind.wrap .u64 (p.getD 4 0)) 32)) (shlV .u64 (IntKind.wrap .u64 (p.getD 5 0)) 40)) (shlV .u64 (IntKind.wrap .u64 (p.getD 6 0)) 48)) (shlV .u64 (IntKind.wrap .u64 (p.getD 7 0)) 56),bitsV .or .u64 (bitsV .or .u64 (bitsV .or .u64 (bitsV .or .u64 (bitsV .or .u64 (bitsV .or .u64 (bitsV .or .u64 (bitsV .or .u64 (0) (shlV .u64 (IntKind.wrap .u64 (p.getD 8 0)) 0)) (shlV .u64 (IntKind.wrap .u64 (p.getD 9 0)) 8)) (shlV .u64 (IntKind.wrap .u64 (p.getD 10 0)) 16)) (shlV .u64 (IntKind.wrap .u64 (p.getD 11 0)) 24)) (shlV .u64 (IntKind.wrap .u64 (p.getD 12 0)) 32)) (shlV .u64 (IntKind.wrap .u64 (p.getD 13 0)) 40)) (shlV .u64 (IntKind.wrap .u64 (p.getD 14 0)) 48)) (shlV .u64 (IntKind.wrap .u64 (p.getD 15 0)) 56),bitsV .or .u64 (bitsV .or .u64 (bitsV .or .u64 (bitsV .or .u64 (bitsV .or .u64 (bitsV .or .u64 (bitsV .or .u64 (bitsV .or .u64 (0) (shlV .u64 (IntKind.wrap .u64 (p.getD 16 0)) 0)) (shlV .u64 (IntKind.wrap .u64 (p.getD 17 0)) 8)) (shlV .u64 (IntKind.wrap .u64 (p.getD 18 0)) 16)) (shlV .u64 (IntKind.wrap .u64 (p.getD 19 0)) 24)) (shlV .u64 (IntKind.wrap .u64 (p.getD 20 0)) 32)) (shlV .u64 (IntKind.wrap .u64 (p.getD 21 0)) 40)) (shlV .u64 (IntKind.wrap .u64 (p.getD 22 0)) 48)) (shlV .u64 (IntKind.wrap .u64 (p.getD 23 0)) 56),bitsV .or .u64 (bitsV .or .u64 (bitsV .or .u64 (bitsV .or .u64 (bitsV .or .u64 (bitsV .or .u64 (bitsV .or .u64 (bitsV .or .u64 (0) (shlV .u64 (IntKind.wrap .u64 (p.getD 24 0)) 0)) (shlV .u64 (IntKind.wrap .u64 (p.getD 25 0)) 8)) (shlV .u64 (IntKind.wrap .u64 (p.getD 26 0)) 16)) (shlV .u64 (IntKind.wrap .u64 (p.getD 27 0)) 24)) (shlV .u64 (IntKind.wrap .u64 (p.getD 28 0)) 32)) (shlV .u64 (IntKind.wrap .u64 (p.getD 29 0)) 40)) (shlV .u64 (IntKind.wrap .u64 (p.getD 30 0)) 48)) (shlV .u64 (IntKind.wrap .u64 (p.getD 31 0)) 56),bitsV .or .u64 (bitsV .or .u64 (bitsV .or .u64 (bitsV .or .u64 (bitsV .or .u64 (bitsV .or .u64 (bitsV .or .u64 (bitsV .or .u64 (0) (shlV .u64 (IntKind.wrap .u64 (p.getD 32 0)) 0)) (shlV .u64 (IntKind.wrap .u64 (p.getD 33 0)) 8)) (shlV .u64 (IntKind.wrap .u64 (p.getD 34 0)) 16)) (shlV .u64 (IntKind.wrap .u64 (p.getD 35 0)) 24)) (shlV .u64 (IntKind.wrap .u64 (p.getD 36 0)) 32)) (shlV .u64 (IntKind.wrap .u64 (p.getD 37 0)) 40)) (shlV .u64 (IntKind.wrap .u64 (p.getD 38 0)) 48)) (shlV .u64 (IntKind.wrap .u64 (p.getD 39 0)) 56),bitsV .or .u64 (bitsV .or .u64 (bitsV .or .u64 (bitsV .or .u64 (bitsV .or .u64 (bitsV .or .u64 (bitsV .or .u64 (bitsV .or .u64 (0) (shlV .u64 (IntKind.wrap .u64 (p.getD 40 0)) 0)) (shlV .u64 (IntKind.wrap .u64 (p.getD 41 0)) 8)) (shlV .u64 (IntKind.wrap .u64 (p.getD 42 0)) 16)) (shlV .u64 (IntKind.wrap .u64 (p.getD 43 0)) 24)) (shlV .u64 (IntKind.wrap .u64 (p.getD 44 0)) 32)) (shlV .u64 (IntKind.wrap .u64 (p.getD 45 0)) 40)) (shlV .u64 (IntKind.wrap .u64 (p.getD 46 0)) 48)) (shlV .u64 (IntKind.wrap .u64 (p.getD 47 0)) 56),bitsV .or .u64 (bitsV .or .u64 (bitsV .or .u64 (bitsV .or .u64 (bitsV .or .u64 (bitsV .or .u64 (bitsV .or .u64 (bitsV .or .u64 (0) (shlV .u64 (IntKind.wrap .u64 (p.getD 48 0)) 0)) (shlV .u64 (IntKind.wrap .u64 (p.getD 49 0)) 8)) (shlV .u64 (IntKind.wrap .u64 (p.getD 50 0)) 16)) (shlV .u64 (IntKind.wrap .u64 (p.getD 51 0)) 24)) (shlV .u64 (IntKind.wrap .u64 (p.getD 52 0)) 32)) (shlV .u64 (IntKind.wrap .u64 (p.getD 53 0)) 40)) (shlV .u64 (IntKind.wrap .u64 (p.getD 54 0)) 48)) (shlV .u64 (IntKind.wrap .u64 (p.getD 55 0)) 56),bitsV .or .u64 (bitsV .or .u64 (bitsV .or .u64 (bitsV .or .u64 (bitsV .or .u64 (bitsV .or .u64 (bitsV .or .u64 (bitsV .or .u64 (0) (shlV .u64 (IntKind.wrap .u64 (p.getD 56 0)) 0)) (shlV .u64 (IntKind.wrap .u64 (p.getD 57 0)) 8)) (shlV .u64 (IntKind.wrap .u64 (p.getD 58 0)) 16)) (shlV .u64 (IntKind.wrap .u64 (p.getD 59 0)) 24)) (shlV .u64 (IntKind.wrap .u64 (p.getD 60 0)) 32)) (shlV .u64 (IntKind.wrap .u64 (p.getD 61 0)) 40)) (shlV .u64 (IntKind.wrap .u64 (p.getD 62 0)) 48)) (shlV .u64 (IntKind.wrap .u64 (p.getD 63 0)) 56)]) 8=wval p:=by
    simp only [pV,List.getD_cons_zero,List.getD_cons_succ]
    rw [word_le (h 0) (h 1) (h 2) (h 3) (h 4) (h 5) (h 6) (h 7)]
    rw [word_le (h 8) (h 9) (h 10) (h 11) (h 12) (h 13) (h 14) (h 15)]
    rw [word_le (h 16) (h 17) (h 18) (h 19) (h 20) (h 21) (h 22) (h 23)]
    rw [word_le (h 24) (h 25) (h 26) (h 27) (h 28) (h 29) (h 30) (h 31)]
    rw [word_le (h 32) (h 33) (h 34) (h 35) (h 36) (h 37) (h 38) (h 39)]
    rw [word_le (h 40) (h 41) (h 42) (h 43) (h 44) (h 45) (h 46) (h 47)]
    rw [word_le (h 48) (h 49) (h 50) (h 51) (h 52) (h 53) (h 54) (h 55)]
    rw [word_le (h 56) (h 57) (h 58) (h 59) (h 60) (h 61) (h 62) (h 63)]
    have e0:(18446744073709551616:Int)^0=1:=by decide
    have e1:(18446744073709551616:Int)^1=18446744073709551616:=by decide
    have e2:(18446744073709551616:Int)^2=340282366920938463463374607431768211456:=by decide
    have e3:(18446744073709551616:Int)^3=6277101735386680763835789423207666416102355444464034512896:=by decide
    have e4:(18446744073709551616:Int)^4=115792089237316195423570985008687907853269984665640564039457584007913129639936:=by decide
    have e5:(18446744073709551616:Int)^5=2135987035920910082395021706169552114602704522356652769947041607822219725780640550022962086936576:=by decide
    have e6:(18446744073709551616:Int)^6=39402006196394479212279040100143613805079739270465446667948293404245721771497210611414266254884915640806627990306816:=by decide
    have e7:(18446744073709551616:Int)^7=726838724295606890549323807888004534353641360687318060281490199180639288113397923326191050713763565560762521606266177933534601628614656:=by decide
    rw [e0,e1,e2,e3,e4,e5,e6,e7]
    unfold wval
    omega
  obtain ⟨r,e,w,v⟩:=reduce_val hw (Nat.le_refl _)
  rw [tk8,opt_some e,opt_some (store_val w),v]
  rw [show pV ([bitsV .or .u64 (bitsV .or .u64 (bitsV .or .u64 (bitsV .or .u64 (bitsV .or .u64 (bitsV .or .u64 (bitsV .or .u64 (bitsV .or .u64 (0) (shlV .u64 (IntKind.wrap .u64 (p.getD 0 0)) 0)) (shlV .u64 (IntKind.wrap .u64 (p.getD 1 0)) 8)) (shlV .u64 (IntKind.wrap .u64 (p.getD 2 0)) 16)) (shlV .u64 (IntKind.wrap .u64 (p.getD 3 0)) 24)) (shlV .u64 (IntKind.wrap .u64 (p.getD 4 0)) 32)) (shlV .u64 (IntKind.wrap .u64 (p.getD 5 0)) 40)) (shlV .u64 (IntKind.wrap .u64 (p.getD 6 0)) 48)) (shlV .u64 (IntKind.wrap .u64 (p.getD 7 0)) 56),bitsV .or .u64 (bitsV .or .u64 (bitsV .or .u64 (bitsV .or .u64 (bitsV .or .u64 (bitsV .or .u64 (bitsV .or .u64 (bitsV .or .u64 (0) (shlV .u64 (IntKind.wrap .u64 (p.getD 8 0)) 0)) (shlV .u64 (IntKind.wrap .u64 (p.getD 9 0)) 8)) (shlV .u64 (IntKind.wrap .u64 (p.getD 10 0)) 16)) (shlV .u64 (IntKind.wrap .u64 (p.getD 11 0)) 24)) (shlV .u64 (IntKind.wrap .u64 (p.getD 12 0)) 32)) (shlV .u64 (IntKind.wrap .u64 (p.getD 13 0)) 40)) (shlV .u64 (IntKind.wrap .u64 (p.getD 14 0)) 48)) (shlV .u64 (IntKind.wrap .u64 (p.getD 15 0)) 56),bitsV .or .u64 (bitsV .or .u64 (bitsV .or .u64 (bitsV .or .u64 (bitsV .or .u64 (bitsV .or .u64 (bitsV .or .u64 (bitsV .or .u64 (0) (shlV .u64 (IntKind.wrap .u64 (p.getD 16 0)) 0)) (shlV .u64 (IntKind.wrap .u64 (p.getD 17 0)) 8)) (shlV .u64 (IntKind.wrap .u64 (p.getD 18 0)) 16)) (shlV .u64 (IntKind.wrap .u64 (p.getD 19 0)) 24)) (shlV .u64 (IntKind.wrap .u64 (p.getD 20 0)) 32)) (shlV .u64 (IntKind.wrap .u64 (p.getD 21 0)) 40)) (shlV .u64 (IntKind.wrap .u64 (p.getD 22 0)) 48)) (shlV .u64 (IntKind.wrap .u64 (p.getD 23 0)) 56),bitsV .or .u64 (bitsV .or .u64 (bitsV .or .u64 (bitsV .or .u64 (bitsV .or .u64 (bitsV .or .u64 (bitsV .or .u64 (bitsV .or .u64 (0) (shlV .u64 (IntKind.wrap .u64 (p.getD 24 0)) 0)) (shlV .u64 (IntKind.wrap .u64 (p.getD 25 0)) 8)) (shlV .u64 (IntKind.wrap .u64 (p.getD 26 0)) 16)) (shlV .u64 (IntKind.wrap .u64 (p.getD 27 0)) 24)) (shlV .u64 (IntKind.wrap .u64 (p.getD 28 0)) 32)) (shlV .u64 (IntKind.wrap .u64 (p.getD 29 0)) 40)) (shlV .u64 (IntKind.wrap .u64 (p.getD 30 0)) 48)) (shlV .u64 (IntKind.wrap .u64 (p.getD 31 0)) 56),bitsV .or .u64 (bitsV .or .u64 (bitsV .or .u64 (bitsV .or .u64 (bitsV .or .u64 (bitsV .or .u64 (bitsV .or .u64 (bitsV .or .u64 (0) (shlV .u64 (IntKind.wrap .u64 (p.getD 32 0)) 0)) (shlV .u64 (IntKind.wrap .u64 (p.getD 33 0)) 8)) (shlV .u64 (IntKind.wrap .u64 (p.getD 34 0)) 16)) (shlV .u64 (IntKind.wrap .u64 (p.getD 35 0)) 24)) (shlV .u64 (IntKind.wrap .u64 (p.getD 36 0)) 32)) (shlV .u64 (IntKind.wrap .u64 (p.getD 37 0)) 40)) (shlV .u64 (IntKind.wrap .u64 (p.getD 38 0)) 48)) (shlV .u64 (IntKind.wrap .u64 (p.getD 39 0)) 56),bitsV .or .u64 (bitsV .or .u64 (bitsV .or .u64 (bitsV .or .u64 (bitsV .or .u64 (bitsV .or .u64 (bitsV .or .u64 (bitsV .or .u64 (0) (shlV .u64 (IntKind.wrap .u64 (p.getD 40 0)) 0)) (shlV .u64 (IntKind.wrap .u64 (p.getD 41 0)) 8)) (shlV .u64 (IntKind.wrap .u64 (p.getD 42 0)) 16)) (shlV .u64 (IntKind.wrap .u64 (p.getD 43 0)) 24)) (shlV .u64 (IntKind.wrap .u64 (p.getD 44 0)) 32)) (shlV .u64 (IntKind.wrap .u64 (p.getD 45 0)) 40)) (shlV .u64 (IntKind.wrap .u64 (p.getD 46 0)) 48)) (shlV .u64 (IntKind.wrap .u64 (p.getD 47 0)) 56),bitsV .or .u64 (bitsV .or .u64 (bitsV .or .u64 (bitsV .or .u64 (bitsV .or .u64 (bitsV .or .u64 (bitsV .or .u64 (bitsV .or .u64 (0) (shlV .u64 (IntKind.wrap .u64 (p.getD 48 0)) 0)) (shlV .u64 (IntKind.wrap .u64 (p.getD 49 0)) 8)) (shlV .u64 (IntKind.wrap .u64 (p.getD 50 0)) 16)) (shlV .u64 (IntKind.wrap .u64 (p.getD 51 0)) 24)) (shlV .u64 (IntKind.wrap .u64 (p.getD 52 0)) 32)) (shlV .u64 (IntKind.wrap .u64 (p.getD 53 0)) 40)) (shlV .u64 (IntKind.wrap .u64 (p.getD 54 0)) 48)) (shlV .u64 (IntKind.wrap .u64 (p.getD 55 0)) 56),bitsV .or .u64 (bitsV .or .u64 (bitsV .or .u64 (bitsV .or .u64 (bitsV .or .u64 (bitsV .or .u64 (bitsV .or .u64 (bitsV .or .u64 (0) (shlV .u64 (IntKind.wrap .u64 (p.getD 56 0)) 0)) (shlV .u64 (IntKind.wrap .u64 (p.getD 57 0)) 8)) (shlV .u64 (IntKind.wrap .u64 (p.getD 58 0)) 16)) (shlV .u64 (IntKind.wrap .u64 (p.getD 59 0)) 24)) (shlV .u64 (IntKind.wrap .u64 (p.getD 60 0)) 32)) (shlV .u64 (IntKind.wrap .u64 (p.getD 61 0)) 40)) (shlV .u64 (IntKind.wrap .u64 (p.getD 62 0)) 48)) (shlV .u64 (IntKind.wrap .u64 (p.getD 63 0)) 56)]) ([bitsV .or .u64 (bitsV .or .u64 (bitsV .or .u64 (bitsV .or .u64 (bitsV .or .u64 (bitsV .or .u64 (bitsV .or .u64 (bitsV .or .u64 (0) (shlV .u64 (IntKind.wrap .u64 (p.getD 0 0)) 0)) (shlV .u64 (IntKind.wrap .u64 (p.getD 1 0)) 8)) (shlV .u64 (IntKind.wrap .u64 (p.getD 2 0)) 16)) (shlV .u64 (IntKind.wrap .u64 (p.getD 3 0)) 24)) (shlV .u64 (IntKind.wrap .u64 (p.getD 4 0)) 32)) (shlV .u64 (IntKind.wrap .u64 (p.getD 5 0)) 40)) (shlV .u64 (IntKind.wrap .u64 (p.getD 6 0)) 48)) (shlV .u64 (IntKind.wrap .u64 (p.getD 7 0)) 56),bitsV .or .u64 (bitsV .or .u64 (bitsV .or .u64 (bitsV .or .u64 (bitsV .or .u64 (bitsV .or .u64 (bitsV .or .u64 (bitsV .or .u64 (0) (shlV .u64 (IntKind.wrap .u64 (p.getD 8 0)) 0)) (shlV .u64 (IntKind.wrap .u64 (p.getD 9 0)) 8)) (shlV .u64 (IntKind.wrap .u64 (p.getD 10 0)) 16)) (shlV .u64 (IntKind.wrap .u64 (p.getD 11 0)) 24)) (shlV .u64 (IntKind.wrap .u64 (p.getD 12 0)) 32)) (shlV .u64 (IntKind.wrap .u64 (p.getD 13 0)) 40)) (shlV .u64 (IntKind.wrap .u64 (p.getD 14 0)) 48)) (shlV .u64 (IntKind.wrap .u64 (p.getD 15 0)) 56),bitsV .or .u64 (bitsV .or .u64 (bitsV .or .u64 (bitsV .or .u64 (bitsV .or .u64 (bitsV .or .u64 (bitsV .or .u64 (bitsV .or .u64 (0) (shlV .u64 (IntKind.wrap .u64 (p.getD 16 0)) 0)) (shlV .u64 (IntKind.wrap .u64 (p.getD 17 0)) 8)) (shlV .u64 (IntKind.wrap .u64 (p.getD 18 0)) 16)) (shlV .u64 (IntKind.wrap .u64 (p.getD 19 0)) 24)) (shlV .u64 (IntKind.wrap .u64 (p.getD 20 0)) 32)) (shlV .u64 (IntKind.wrap .u64 (p.getD 21 0)) 40)) (shlV .u64 (IntKind.wrap .u64 (p.getD 22 0)) 48)) (shlV .u64 (IntKind.wrap .u64 (p.getD 23 0)) 56),bitsV .or .u64 (bitsV .or .u64 (bitsV .or .u64 (bitsV .or .u64 (bitsV .or .u64 (bitsV .or .u64 (bitsV .or .u64 (bitsV .or .u64 (0) (shlV .u64 (IntKind.wrap .u64 (p.getD 24 0)) 0)) (shlV .u64 (IntKind.wrap .u64 (p.getD 25 0)) 8)) (shlV .u64 (IntKind.wrap .u64 (p.getD 26 0)) 16)) (shlV .u64 (IntKind.wrap .u64 (p.getD 27 0)) 24)) (shlV .u64 (IntKind.wrap .u64 (p.getD 28 0)) 32)) (shlV .u64 (IntKind.wrap .u64 (p.getD 29 0)) 40)) (shlV .u64 (IntKind.wrap .u64 (p.getD 30 0)) 48)) (shlV .u64 (IntKind.wrap .u64 (p.getD 31 0)) 56),bitsV .or .u64 (bitsV .or .u64 (bitsV .or .u64 (bitsV .or .u64 (bitsV .or .u64 (bitsV .or .u64 (bitsV .or .u64 (bitsV .or .u64 (0) (shlV .u64 (IntKind.wrap .u64 (p.getD 32 0)) 0)) (shlV .u64 (IntKind.wrap .u64 (p.getD 33 0)) 8)) (shlV .u64 (IntKind.wrap .u64 (p.getD 34 0)) 16)) (shlV .u64 (IntKind.wrap .u64 (p.getD 35 0)) 24)) (shlV .u64 (IntKind.wrap .u64 (p.getD 36 0)) 32)) (shlV .u64 (IntKind.wrap .u64 (p.getD 37 0)) 40)) (shlV .u64 (IntKind.wrap .u64 (p.getD 38 0)) 48)) (shlV .u64 (IntKind.wrap .u64 (p.getD 39 0)) 56),bitsV .or .u64 (bitsV .or .u64 (bitsV .or .u64 (bitsV .or .u64 (bitsV .or .u64 (bitsV .or .u64 (bitsV .or .u64 (bitsV .or .u64 (0) (shlV .u64 (IntKind.wrap .u64 (p.getD 40 0)) 0)) (shlV .u64 (IntKind.wrap .u64 (p.getD 41 0)) 8)) (shlV .u64 (IntKind.wrap .u64 (p.getD 42 0)) 16)) (shlV .u64 (IntKind.wrap .u64 (p.getD 43 0)) 24)) (shlV .u64 (IntKind.wrap .u64 (p.getD 44 0)) 32)) (shlV .u64 (IntKind.wrap .u64 (p.getD 45 0)) 40)) (shlV .u64 (IntKind.wrap .u64 (p.getD 46 0)) 48)) (shlV .u64 (IntKind.wrap .u64 (p.getD 47 0)) 56),bitsV .or .u64 (bitsV .or .u64 (bitsV .or .u64 (bitsV .or .u64 (bitsV .or .u64 (bitsV .or .u64 (bitsV .or .u64 (bitsV .or .u64 (0) (shlV .u64 (IntKind.wrap .u64 (p.getD 48 0)) 0)) (shlV .u64 (IntKind.wrap .u64 (p.getD 49 0)) 8)) (shlV .u64 (IntKind.wrap .u64 (p.getD 50 0)) 16)) (shlV .u64 (IntKind.wrap .u64 (p.getD 51 0)) 24)) (shlV .u64 (IntKind.wrap .u64 (p.getD 52 0)) 32)) (shlV .u64 (IntKind.wrap .u64 (p.getD 53 0)) 40)) (shlV .u64 (IntKind.wrap .u64 (p.getD 54 0)) 48)) (shlV .u64 (IntKind.wrap .u64 (p.getD 55 0)) 56),bitsV .or .u64 (bitsV .or .u64 (bitsV .or .u64 (bitsV .or .u64 (bitsV .or .u64 (bitsV .or .u64 (bitsV .or .u64 (bitsV .or .u64 (0) (shlV .u64 (IntKind.wrap .u64 (p.getD 56 0)) 0)) (shlV .u64 (IntKind.wrap .u64 (p.getD 57 0)) 8)) (shlV .u64 (IntKind.wrap .u64 (p.getD 58 0)) 16)) (shlV .u64 (IntKind.wrap .u64 (p.getD 59 0)) 24)) (shlV .u64 (IntKind.wrap .u64 (p.getD 60 0)) 32)) (shlV .u64 (IntKind.wrap .u64 (p.getD 61 0)) 40)) (shlV .u64 (IntKind.wrap .u64 (p.getD 62 0)) 48)) (shlV .u64 (IntKind.wrap .u64 (p.getD 63 0)) 56)]).length=wval p from hv]
theorem hacc_inj {a b:List Int} (ha:Byt a) (hb:Byt b) : ∀ j,hacc a j=hacc b j→∀ i,i<j→a.getD (31-i) 0=b.getD (31-i) 0
  | 0,_,i,hi=>by omega
  | j+1,h,i,hi=>by
    have h1:=ha (31-j)
    have h2:=hb (31-j)
    have h':hacc a j*256+a.getD (31-j) 0=hacc b j*256+b.getD (31-j) 0:=h
    by_cases e:i=j
    · subst e; omega
    · exact hacc_inj ha hb j (by omega) i (by omega)
theorem sval_inj {a b:List Int} (ha:Byt a) (hb:Byt b) (la:a.length=32) (lb:b.length=32) (h:sval a=sval b):a=b:=by
  rw [← hacc_eq,← hacc_eq] at h
  apply List.ext_getElem
  · rw [la,lb]
  · intro i h1 h2
    have:=hacc_inj ha hb 32 h (31-i) (by omega)
    rw [show 31-(31-i)=i by omega] at this
    simpa [List.getD_eq_getElem?_getD,List.getElem?_eq_getElem h1,List.getElem?_eq_getElem h2] using this
theorem sval_bound {a:List Int} (ha:Byt a):sval a<115792089237316195423570985008687907853269984665640564039457584007913129639936:=by
  have key : ∀ j,j≤32→hacc a j<(256:Int)^j:=by
    intro j
    induction j with
    | zero=>intro _; show (0:Int)<1; omega
    | succ j ih =>
      intro hj
      have h1:=ha (31-j)
      have h2:=ih (by omega)
      show hacc a j*256+a.getD (31-j) 0<_
      rw [Int.pow_succ]
      omega
  have:=key 32 (Nat.le_refl _)
  rw [hacc_eq] at this
  have e2:(256:Int)^32=115792089237316195423570985008687907853269984665640564039457584007913129639936:=by decide
  omega
theorem byt_sval {a:List Int} (h:Byt a) (la:a.length=32):byt (sval a)=a :=
  sval_inj (byt_byt _) h (byt_length _) la (sval_byt (sval_nonneg h) (sval_bound h))
theorem byt_getD (n:Int) : ∀ j,j<32→(byt n).getD j 0=n / ((256^j:Nat):Int)%256:=by
  intro j hj
  match j,hj with
  | 0,_=>show n%256=n / 1%256; rw [Int.ediv_one]
  | 1,_=>rfl
  | 2,_=>rfl
  | 3,_=>rfl
  | 4,_=>rfl
  | 5,_=>rfl
  | 6,_=>rfl
  | 7,_=>rfl
  | 8,_=>rfl
  | 9,_=>rfl
  | 10,_=>rfl
  | 11,_=>rfl
  | 12,_=>rfl
  | 13,_=>rfl
  | 14,_=>rfl
  | 15,_=>rfl
  | 16,_=>rfl
  | 17,_=>rfl
  | 18,_=>rfl
  | 19,_=>rfl
  | 20,_=>rfl
  | 21,_=>rfl
  | 22,_=>rfl
  | 23,_=>rfl
  | 24,_=>rfl
  | 25,_=>rfl
  | 26,_=>rfl
  | 27,_=>rfl
  | 28,_=>rfl
  | 29,_=>rfl
  | 30,_=>rfl
  | 31,_=>rfl
  | j+32,h=>exact absurd h (by omega)
theorem byte_of {p:List Int} (h:Byt p) (l:p.length=32) {j:Nat} (hj:j<32):p.getD j 0=sval p / ((256^j:Nat):Int)%256:=by
  have e:=byt_getD (sval p) j hj
  rw [byt_sval h l] at e
  exact e
theorem bit_step {w m b i j:Nat} (hw:0<w) (hm:m<2^i) (hb:b≤1):(m+b*2^i) / 2^(w*j)%2^w=m / 2^(w*j)%2^w+(if j=i / w then b*2^(i%w) else 0):=by
  have hpos:0<2^(w*j):=Nat.pow_pos (by decide)
  by_cases h:j=i / w
  · rw [if_pos h]
    have hi:i=w*j+i%w:=by rw [h]; exact (Nat.div_add_mod i w).symm
    have ht:i%w<w:=Nat.mod_lt _ hw
    generalize i%w=t at *
    have hq:m / 2^(w*j)<2^t:=by
      rw [Nat.div_lt_iff_lt_mul hpos,← Nat.pow_add,Nat.add_comm t,← hi]; exact hm
    have e:m+b*2^i=m+b*2^t*2^(w*j):=by
      rw [hi,Nat.pow_add,Nat.mul_assoc,Nat.mul_comm (2^t)]
    rw [e,Nat.add_mul_div_right _ _ hpos]
    have h2:2^(t+1)≤2^w:=Nat.pow_le_pow_right (by decide) (by omega)
    have h3:b*2^t≤1*2^t:=Nat.mul_le_mul_right _ hb
    rw [Nat.pow_succ] at h2
    generalize 2^t=p at *
    generalize b*p=bp at *
    rw [Nat.mod_eq_of_lt (by omega),Nat.mod_eq_of_lt (by omega)]
  · rw [if_neg h,Nat.add_zero]
    rcases Nat.lt_or_gt_of_ne h with h1 | h1
    · have hle:w*(j+1)≤i:=by
        have h5:w*(j+1)≤w*(i / w):=Nat.mul_le_mul_left _ h1
        have h6:=Nat.mul_div_le i w
        omega
      obtain ⟨r,hr⟩:=Nat.exists_eq_add_of_le hle
      have e:m+b*2^i=m+b*2^r*2^w*2^(w*j):=by
        rw [hr,Nat.pow_add,Nat.mul_succ,Nat.pow_add]
        congr 1
        generalize 2^(w*j)=x
        generalize 2^w=y
        generalize 2^r=z
        ac_rfl
      rw [e,Nat.add_mul_div_right _ _ hpos,Nat.add_mul_mod_self_right]
    · have hle:i+1≤w*j:=by
        have h5:i<w*(i / w+1):=by
          have:=Nat.div_add_mod i w
          have:=Nat.mod_lt i hw
          rw [Nat.mul_succ]
          omega
        have h6:w*(i / w+1)≤w*j:=Nat.mul_le_mul_left _ h1
        omega
      have h7:2^(i+1)≤2^(w*j):=Nat.pow_le_pow_right (by decide) hle
      have h8:b*2^i≤1*2^i:=Nat.mul_le_mul_right _ hb
      rw [Nat.pow_succ] at h7
      rw [Nat.div_eq_of_lt (by omega),Nat.div_eq_of_lt (by omega)]
theorem digit_step {w N i j:Nat} (hw:0<w):N%2^(i+1) / 2^(w*j)%2^w=N%2^i / 2^(w*j)%2^w+(if j=i / w then (N / 2^i%2)*2^(i%w) else 0):=by
  rw [Nat.mod_pow_succ,Nat.mul_comm (2^i)]
  exact bit_step hw (Nat.mod_lt _ (Nat.pow_pos (by decide))) (by omega)
theorem bit_of {w N j t:Nat} (ht:t<w):N / 2^(w*j)%2^w / 2^t%2=N / 2^(w*j+t)%2:=by
  have e:2^w=2^t*2^(w-t):=by rw [← Nat.pow_add]; congr 1; omega
  rw [e,Nat.mod_mul_right_div_self,Nat.div_div_eq_div_mul,← Nat.pow_add]
  refine Nat.mod_mod_of_dvd _ ?_
  have:w-t=(w-t-1)+1:=by omega
  rw [this,Nat.pow_succ]
  exact Nat.dvd_mul_left 2 _
structure Dgs (w L N i:Nat) (a:List Int):Prop where
  len:a.length=L
  dig : ∀ j,j<L→a.getD j 0=((N%2^i / 2^(w*j)%2^w:Nat):Int)
theorem Dgs.start (w L N:Nat):Dgs w L N 0 (List.replicate L 0):=by
  refine ⟨by simp,fun j hj=>?_⟩
  rw [Nat.pow_zero,Nat.mod_one,Nat.zero_div,Nat.zero_mod]
  simp [List.getD_eq_getElem?_getD,hj]
theorem Dgs.put {w L N i:Nat} {a:List Int} (h:Dgs w L N i a) (hw:0<w) (hi:i<w*L):Dgs w L N (i+1) (setD a (i / w) (a.getD (i / w) 0+((N / 2^i%2*2^(i%w):Nat):Int))):=by
  have hj:i / w<L:=by rw [Nat.div_lt_iff_lt_mul hw,Nat.mul_comm]; exact hi
  refine ⟨by rw [setD_len (by rw [h.len]; exact hj),h.len],fun j hjl=>?_⟩
  rw [getD_setD,digit_step hw]
  by_cases e:j=i / w
  · subst e
    rw [if_pos rfl,if_pos rfl,h.dig _ hjl,← Int.natCast_add]
  · rw [if_neg e,if_neg e,Nat.add_zero,h.dig _ hjl]
theorem Dgs.bound {w L N i:Nat} {a:List Int} (h:Dgs w L N i a) (hw:0<w) (hi:i<w*L):0≤a.getD (i / w) 0+((N / 2^i%2*2^(i%w):Nat):Int)∧a.getD (i / w) 0+((N / 2^i%2*2^(i%w):Nat):Int)<((2^w:Nat):Int):=by
  have hj:i / w<L:=by rw [Nat.div_lt_iff_lt_mul hw,Nat.mul_comm]; exact hi
  have h2:=(h.put hw hi).dig _ hj
  rw [getD_setD,if_pos rfl] at h2
  rw [h2]
  have:=Nat.mod_lt (N%2^(i+1) / 2^(w*(i / w))) (Nat.pow_pos (n:=w) (show 0<2 by decide))
  omega
theorem src_bit {w N:Nat} {l:List Int} {i:Nat} {L:Nat} (hw:0<w) (hl : ∀ j,j<L→l.getD j 0=((N / 2^(w*j)%2^w:Nat):Int)) (hi:i<w*L) :
    l.getD (i / w) 0 / ((2^(i%w):Nat):Int)%2=((N / 2^i%2:Nat):Int):=by
  have hj:i / w<L:=by rw [Nat.div_lt_iff_lt_mul hw,Nat.mul_comm]; exact hi
  rw [hl _ hj]
  have e:=bit_of (w:=w) (N:=N) (j:=i / w) (t:=i%w) (Nat.mod_lt _ hw)
  rw [Nat.div_add_mod] at e
  rw [← e]
  rfl
theorem shl_bit {k:IntKind} {b t:Nat} (hk:t≤k.bits) (hb:IntKind.wrap k ((b*2^t:Nat):Int)=((b*2^t:Nat):Int)):shlV k (b:Int) (t:Int)=((b*2^t:Nat):Int):=by
  rw [shl_eq k hk,← Int.natCast_mul,hb]
theorem bit_small {b t:Nat} (hb:b≤1) (ht:t<26):b*2^t<67108864:=by
  have h1:2^t≤2^25:=Nat.pow_le_pow_right (by decide) (by omega)
  have h2:b*2^t≤1*2^t:=Nat.mul_le_mul_right _ hb
  omega
theorem bit_small8 {b t:Nat} (hb:b≤1) (ht:t<8):b*2^t<256:=by
  have h1:2^t≤2^7:=Nat.pow_le_pow_right (by decide) (by omega)
  have h2:b*2^t≤1*2^t:=Nat.mul_le_mul_right _ hb
  omega
theorem div8_eq {i:Nat} (h:i<1000):IntKind.wrap .i64 (Int.tdiv (i:Int) 8)=((i / 8:Nat):Int):=by
  rw [Int.tdiv_eq_ediv_of_nonneg (by omega),wi64_small (by omega) (by omega)]; omega
theorem mod8_eq (i:Nat):Int.tmod (i:Int) 8=((i%8:Nat):Int):=by
  rw [Int.tmod_eq_emod_of_nonneg (by omega)]; omega
theorem div26_eq {i:Nat} (h:i<1000):IntKind.wrap .i64 (Int.tdiv (i:Int) 26)=((i / 26:Nat):Int):=by
  rw [Int.tdiv_eq_ediv_of_nonneg (by omega),wi64_small (by omega) (by omega)]; omega
theorem mod26_eq (i:Nat):Int.tmod (i:Int) 26=((i%26:Nat):Int):=by
  rw [Int.tmod_eq_emod_of_nonneg (by omega)]; omega
theorem rfrom_loop {p:List Int} (hp:Byt p) {N:Nat} (hN : ∀ j,j<32→p.getD j 0=((N / 2^(8*j)%2^8:Nat):Int)) (k:List Int→Option (List Int)) (m:Nat) : ∀ (n i:Nat) (a:List Int),i+m=255→Dgs 26 10 N i a →
    ∃ c,q5_FromBytes_l1 p k (n+1+m) (i:Int) a=k c∧Dgs 26 10 N 255 c:=by
  induction m with
  | zero =>
    intro n i a hi ha
    have e:i=255:=by omega
    subst e
    refine ⟨a,?_,ha⟩
    rw [Nat.add_zero,q5_FromBytes_l1,q5_FromBytes_b1,br_ff (by decide)]
  | succ m ih =>
    intro n i a hi ha
    have e1:=i64_succ (i:=i) (by omega)
    have hb:=ha.bound (by decide) (i:=i) (by omega)
    have hs:=src_bit (w:=8) (by decide) hN (i:=i) (by omega)
    have hpb:=hp (i / 8)
    have hpp:(0:Int)<((2^(i%8):Nat):Int):=by have:=Nat.pow_pos (n:=i%8) (show 0<2 by decide); omega
    have hq0:=Int.ediv_nonneg hpb.1 (Int.le_of_lt hpp)
    have hq1:p.getD (i / 8) 0 / ((2^(i%8):Nat):Int)<256:=Int.lt_of_le_of_lt (Int.ediv_le_self _ hpb.1) hpb.2
    have hbit:N / 2^i%2≤1:=by omega
    have hsm:=bit_small hbit (Nat.mod_lt i (show 0<26 by decide))
    obtain ⟨c,ec,hc⟩:=ih n (i+1) _ (by omega) (ha.put (by decide) (by omega))
    refine ⟨c,?_,hc⟩
    rw [← Nat.add_assoc,q5_FromBytes_l1,q5_FromBytes_b1,br_tt (decide_eq_true (by omega))]
    simp only [bnd_eq,e1,div8_eq (show i<1000 by omega),mod8_eq,div26_eq (show i<1000 by omega),mod26_eq,Int.toNat_natCast]
    have w1:IntKind.wrap .u64 ((N / 2^i%2:Nat):Int)=((N / 2^i%2:Nat):Int):=wu64_small (by omega) (by omega)
    have w2:IntKind.wrap .u64 ((N / 2^i%2*2^(i%26):Nat):Int)=((N / 2^i%2*2^(i%26):Nat):Int):=wu64_small (by omega) (by omega)
    have w3:IntKind.wrap .u64 (a.getD (i / 26) 0+((N / 2^i%2*2^(i%26):Nat):Int))=a.getD (i / 26) 0+((N / 2^i%2*2^(i%26):Nat):Int):=by
      have h26:((2^26:Nat):Int)=67108864:=by decide
      have:=hb.2
      exact wu64_small hb.1 (by omega)
    rw [shr_eq .u8 (n:=i%8) (by show i%8≤8; omega),and1_8 hq0 hq1,hs,w1,shl_bit (by show i%26≤64; omega) w2,w3]
    rw [chk_t (inB_t (by omega) (by omega)),chk_t (by simp; omega),chk_t (inB_t (by omega) (by omega)),chk_t (by simp; omega),chk_t (inB_t (by omega) (by omega))]
    exact ec
theorem pow8 (j:Nat):2^(8*j)=256^j:=by rw [Nat.pow_mul]
theorem src_bytes {p:List Int} (hp:Byt p) (l:p.length=32) : ∀ j,j<32→p.getD j 0=(((sval p).toNat / 2^(8*j)%2^8:Nat):Int):=by
  intro j hj
  rw [byte_of hp l hj,pow8]
  have h:=sval_nonneg hp
  obtain ⟨n,hn⟩:=Int.eq_ofNat_of_zero_le h
  rw [hn]
  rfl
theorem dgs_digits {N:Nat} {c:List Int} (h:Dgs 26 10 N 255 c):rV c 10=((N%2^255:Nat):Int):=by
  have e:c=rdig ((N%2^255:Nat):Int):=by
    rw [list_ten h.len]
    unfold rdig
    have hh:=h.dig
    generalize N%2^255=M at *
    rw [hh 0 (by decide),hh 1 (by decide),hh 2 (by decide),hh 3 (by decide),hh 4 (by decide),hh 5 (by decide),hh 6 (by decide),hh 7 (by decide),hh 8 (by decide),hh 9 (by decide)]
    simp only [List.cons.injEq,and_true]
    refine ⟨?_,rfl,rfl,rfl,rfl,rfl,rfl,rfl,rfl,rfl⟩
    show ((M / 1%67108864:Nat):Int)=(M:Int)%67108864
    rw [Nat.div_one]; rfl
  have hlt:N%2^255<2^255:=Nat.mod_lt _ (by decide)
  have e2:(2^255:Nat)=57896044618658097711785492504343953926634992332820282019728792003956564819968:=by decide
  generalize N%2^255=M at *
  rw [e,rV_rdig (by omega) (by omega)]
theorem dgs_rng {N i:Nat} {c:List Int} (h:Dgs 26 10 N i c) : ∀ j,0≤c.getD j 0∧c.getD j 0<1152921504606846976:=by
  intro j
  by_cases hj:j<10
  · rw [h.dig j hj]
    have:=Nat.mod_lt (N%2^i / 2^(26*j)) (Nat.pow_pos (n:=26) (show 0<2 by decide))
    omega
  · have:c.getD j 0=0:=by simp [List.getD_eq_getElem?_getD,List.getElem?_eq_none (show c.length≤j by have:=h.len; omega)]
    omega
theorem bval_sval (p:List Int):bval p=sval p-p.getD 31 0 / 128*57896044618658097711785492504343953926634992332820282019728792003956564819968:=by
  unfold bval sval
  omega
theorem sval_mod {p:List Int} (hp:Byt p):(((sval p).toNat%2^255:Nat):Int)=bval p:=by
  have h:=sval_nonneg hp
  have hb:0≤bval p∧bval p<57896044618658097711785492504343953926634992332820282019728792003956564819968:=by
    have h2:=sval_nonneg (setD_byt hp (j:=31) (v:=p.getD 31 0%128) (by omega))
    have h3:=sval_bound (setD_byt hp (j:=31) (v:=p.getD 31 0%128) (by omega))
    have e:sval (setD p 31 (p.getD 31 0%128))=bval p:=by
      unfold bval sval
      simp only [getD_setD]
      simp [-List.getD_eq_getElem?_getD]
    have h31:=hp 31
    rw [e] at h2
    refine ⟨h2,?_⟩
    have:hacc (setD p 31 (p.getD 31 0%128)) 32<128*(256:Int)^31:=by
      have key : ∀ j,j<32→hacc (setD p 31 (p.getD 31 0%128)) (j+1)<128*(256:Int)^j:=by
        intro j
        induction j with
        | zero =>
          intro _
          show 0*256+(setD p 31 (p.getD 31 0%128)).getD 31 0<128*1
          rw [getD_setD,if_pos rfl]; omega
        | succ j ih =>
          intro hj
          have i1:=ih (by omega)
          have i2:=setD_byt hp (j:=31) (v:=p.getD 31 0%128) (by omega) (31-(j+1))
          show hacc _ (j+1)*256+(setD p 31 (p.getD 31 0%128)).getD (31-(j+1)) 0<_
          rw [Int.pow_succ]
          omega
      exact key 31 (by decide)
    rw [hacc_eq,e] at this
    have e3:128*(256:Int)^31=57896044618658097711785492504343953926634992332820282019728792003956564819968:=by decide
    omega
  have e:=bval_sval p
  have e2:(2^255:Nat)=57896044618658097711785492504343953926634992332820282019728792003956564819968:=by decide
  obtain ⟨n,hn⟩:=Int.eq_ofNat_of_zero_le h
  rw [e2,hn]
  rw [hn] at e
  have h31:=hp 31
  generalize p.getD 31 0 / 128=q at *
  generalize bval p=b at *
  show ((n%57896044618658097711785492504343953926634992332820282019728792003956564819968:Nat):Int)=b
  clear hn h h31 e2
  omega
theorem rfrom {p:List Int} (hp:Byt p) (l:p.length=32):q5_FromBytes p=some (rn (bval p)):=by
  obtain ⟨n,hn⟩ : ∃ n,big=n+1+255:=⟨18446744073709551360,big_eq⟩
  obtain ⟨c,ec,hc⟩:=rfrom_loop hp (src_bytes hp l) (fun (a73:List Int)=>opt (q5_Least a73) fun y142=>some y142) 255 n 0 _ (by omega) (Dgs.start 26 10 _)
  rw [q5_FromBytes,jn_eq,hn]
  refine ec.trans ?_
  rw [opt_some (least_eq hc.len (dgs_rng hc)),dgs_digits hc,sval_mod hp]
theorem rbytes_loop {p:List Int} {N:Nat} (hp : ∀ j,0≤p.getD j 0∧p.getD j 0<67108864) (hN : ∀ j,j<10→p.getD j 0=((N / 2^(26*j)%2^26:Nat):Int)) (k:List Int→Option (List Int)) (m:Nat) : ∀ (n i:Nat) (a:List Int),i+m=255→Dgs 8 32 N i a →
    ∃ c,q5_Bytes_l1 p k (n+1+m) (i:Int) a=k c∧Dgs 8 32 N 255 c:=by
  induction m with
  | zero =>
    intro n i a hi ha
    have e:i=255:=by omega
    subst e
    refine ⟨a,?_,ha⟩
    rw [Nat.add_zero,q5_Bytes_l1,q5_Bytes_b1,br_ff (by decide)]
  | succ m ih =>
    intro n i a hi ha
    have e1:=i64_succ (i:=i) (by omega)
    have hb:=ha.bound (by decide) (i:=i) (by omega)
    have hs:=src_bit (w:=26) (by decide) hN (i:=i) (by omega)
    have hpb:=hp (i / 26)
    have hpp:(0:Int)<((2^(i%26):Nat):Int):=by have:=Nat.pow_pos (n:=i%26) (show 0<2 by decide); omega
    have hq0:=Int.ediv_nonneg hpb.1 (Int.le_of_lt hpp)
    have hq1:p.getD (i / 26) 0 / ((2^(i%26):Nat):Int)<67108864:=Int.lt_of_le_of_lt (Int.ediv_le_self _ hpb.1) hpb.2
    have hbit:N / 2^i%2≤1:=by omega
    have hsm:=bit_small8 hbit (Nat.mod_lt i (show 0<8 by decide))
    obtain ⟨c,ec,hc⟩:=ih n (i+1) _ (by omega) (ha.put (by decide) (by omega))
    refine ⟨c,?_,hc⟩
    rw [← Nat.add_assoc,q5_Bytes_l1,q5_Bytes_b1,br_tt (decide_eq_true (by omega))]
    simp only [bnd_eq,e1,div8_eq (show i<1000 by omega),mod8_eq,div26_eq (show i<1000 by omega),mod26_eq,Int.toNat_natCast]
    have w1:IntKind.wrap .u8 ((N / 2^i%2:Nat):Int)=((N / 2^i%2:Nat):Int):=by rw [wu8_eq]; omega
    have w2:IntKind.wrap .u8 ((N / 2^i%2*2^(i%8):Nat):Int)=((N / 2^i%2*2^(i%8):Nat):Int):=by rw [wu8_eq]; omega
    have w3:IntKind.wrap .u8 (a.getD (i / 8) 0+((N / 2^i%2*2^(i%8):Nat):Int))=a.getD (i / 8) 0+((N / 2^i%2*2^(i%8):Nat):Int):=by
      rw [wu8_eq]
      have h8:((2^8:Nat):Int)=256:=by decide
      have:=hb.2
      exact Int.emod_eq_of_lt hb.1 (by omega)
    rw [shr_eq .u64 (n:=i%26) (by show i%26≤64; omega),and1_64 hq0 (by omega),hs,w1,shl_bit (by show i%8≤8; omega) w2,w3]
    rw [chk_t (inB_t (by omega) (by omega)),chk_t (by simp; omega),chk_t (inB_t (by omega) (by omega)),chk_t (by simp; omega),chk_t (inB_t (by omega) (by omega))]
    exact ec
theorem src_digits (n:Int) : ∀ j,j<10→(rn n).getD j 0=(((n%PP).toNat / 2^(26*j)%2^26:Nat):Int):=by
  intro j hj
  have h:=(PP_rng n).1
  unfold rn
  obtain ⟨m,hm⟩:=Int.eq_ofNat_of_zero_le h
  rw [hm]
  match j,hj with
  | 0,_=>show (m:Int)%67108864=((m / 1%67108864:Nat):Int); rw [Nat.div_one]; rfl
  | 1,_=>rfl
  | 2,_=>rfl
  | 3,_=>rfl
  | 4,_=>rfl
  | 5,_=>rfl
  | 6,_=>rfl
  | 7,_=>rfl
  | 8,_=>rfl
  | 9,_=>rfl
  | j+10,h=>exact absurd h (by omega)
theorem getD_at {l:List Int} {i:Nat} (h:i<l.length):l.getD i 0=l[i]:=by simp [List.getD_eq_getElem?_getD,List.getElem?_eq_getElem h]
theorem rbytes (n:Int):q5_Bytes (rn n)=some (byt (n%PP)):=by
  obtain ⟨f,hf⟩ : ∃ n,big=n+1+255:=⟨18446744073709551360,big_eq⟩
  obtain ⟨c,ec,hc⟩:=rbytes_loop (rn_rng n) (src_digits n) some 255 f 0 _ (by omega) (Dgs.start 8 32 _)
  rw [q5_Bytes,jn_eq,hf]
  refine ec.trans ?_
  congr 1
  have h:=PP_rng n
  obtain ⟨m,hm⟩:=Int.eq_ofNat_of_zero_le h.1
  have e:(n%PP).toNat=m:=by rw [hm]; rfl
  have h1:m<57896044618658097711785492504343953926634992332820282019728792003956564819949:=by
    have:=h.2
    rw [hm] at this
    unfold PP at this
    omega
  have e2:(2^255:Nat)=57896044618658097711785492504343953926634992332820282019728792003956564819968:=by decide
  rw [hm]
  apply List.ext_getElem
  · rw [hc.len]; rfl
  · intro i h2 h3
    have hi:i<32:=by rw [hc.len] at h2; exact h2
    have hd:=hc.dig i hi
    rw [e,Nat.mod_eq_of_lt (a:=m) (b:=2^255) (by rw [e2]; omega),pow8] at hd
    have hb:=byt_getD (m:Int) i hi
    rw [← getD_at h2,← getD_at h3,hd,hb]
    rfl
theorem tk_byt {p:List Int} (h:Byt p) (o n:Nat):Byt (tk p o n):=by
  intro i
  rw [tk_getD]
  split
  · exact h _
  · decide
noncomputable def baseG:G:=⟨fi BX,fi BY,⟨by decide +kernel⟩⟩
theorem rep_base:Rep qbase baseG:=by
  constructor
  · show fi 1≠0; decide +kernel
  · show fi BX=fi BX*fi 1; decide +kernel
  · show fi BY=fi BY*fi 1; decide +kernel
  · show fi (BX*BY)=fi BX*fi BY*fi 1; decide +kernel
def VLn:Nat:=7237005577332262213973186563042994240857116359379907606001950938285454250989
theorem VL_nat:VL=(VLn:Int):=by decide
def be8 (x:Int):List Int:=[IntKind.wrap .u8 (shrV .u64 (shrV .u64 (shrV .u64 (shrV .u64 (shrV .u64 (shrV .u64 (shrV .u64 x 8) 8) 8) 8) 8) 8) 8),IntKind.wrap .u8 (shrV .u64 (shrV .u64 (shrV .u64 (shrV .u64 (shrV .u64 (shrV .u64 x 8) 8) 8) 8) 8) 8),IntKind.wrap .u8 (shrV .u64 (shrV .u64 (shrV .u64 (shrV .u64 (shrV .u64 x 8) 8) 8) 8) 8),IntKind.wrap .u8 (shrV .u64 (shrV .u64 (shrV .u64 (shrV .u64 x 8) 8) 8) 8),IntKind.wrap .u8 (shrV .u64 (shrV .u64 (shrV .u64 x 8) 8) 8),IntKind.wrap .u8 (shrV .u64 (shrV .u64 x 8) 8),IntKind.wrap .u8 (shrV .u64 x 8),IntKind.wrap .u8 x]
theorem storeBE_eq (x:Int):bits_StoreBE_uint64 x=some (be8 x):=by kernel_rfl
theorem be8_byt (x:Int) : ∀ y∈be8 x,0≤y∧y<256:=by
  unfold be8
  repeat' (first | exact List.forall_mem_nil _ | refine List.forall_mem_cons.2 ⟨u8_rng _,?_⟩)
def told (s:List Int):List Int:=be8 (s.getD 0 0)++(be8 (s.getD 1 0)++(be8 (s.getD 2 0)++(be8 (s.getD 3 0)++(be8 (s.getD 4 0)++(be8 (s.getD 5 0)++(be8 (s.getD 6 0)++be8 (s.getD 7 0)))))))
theorem sum_runV (y d:sha512_Digest):sha512_Digest_Sum_l1 y (fun a74=>some (a74,d)) big 0 (List.replicate 64 0)=some (told y.gstate,d):=by kernel_rfl
theorem told_byt (s:List Int):Byt (told s):=by
  apply byt_of
  unfold told
  intro x hx
  simp only [List.mem_append] at hx
  rcases hx with h | h | h | h | h | h | h | h <;> exact be8_byt _ _ h
theorem bits8_rng (o:BinOp) (x y:Int) (h:o = .and∨o = .or∨o = .andNot):0≤bitsV o .u8 x y∧bitsV o .u8 x y<256:=by
  rcases h with h | h | h <;> subst h
  · show 0≤IntKind.u8.wrap _∧IntKind.u8.wrap _<_; exact u8_rng _
  · show 0≤IntKind.u8.wrap _∧IntKind.u8.wrap _<_; exact u8_rng _
  · show 0≤IntKind.u8.wrap _∧IntKind.u8.wrap _<_; exact u8_rng _
def clampL (p:List Int):List Int:=setD (setD p 0 (bitsV .andNot .u8 (p.getD 0 0) 7)) 31 (bitsV .or .u8 (bitsV .and .u8 ((setD p 0 (bitsV .andNot .u8 (p.getD 0 0) 7)).getD 31 0) 127) 64)
theorem clamp_eq (p:List Int):scalar_Clamp p=some (clampL p):=by
  rw [scalar_Clamp]
  simp only [bnd_eq]
  rfl
theorem clamp_byt {p:List Int} (h:Byt p):Byt (clampL p):=setD_byt (setD_byt h (bits8_rng _ _ _ (.inr (.inr rfl)))) (bits8_rng _ _ _ (.inr (.inl rfl)))
noncomputable def pB (a:List Int):G:=mulG (sval a).toNat baseG
theorem mulBase_enc {a:List Int} (h:Byt a) : ∃ q,curve_MulBase a=some (pt q)∧Rep q (pB a):=by
  refine ⟨_,mulBase_eq h,?_⟩
  have:=rep_qacc a rep_base 64
  rw [nacc_eq h] at this
  exact this
theorem encode_rep {q:Q4} {P:G} (h:Rep q P):curve_Encode (pt q)=some (encG P):=by rw [encode_eq,enc_rep h]
theorem encG_byt (P:G):Byt (encG P):=enc_byt _ _
theorem encG_length (P:G):(encG P).length=32:=enc_length _ _
theorem tk_enc (P:G):tk (encG P) 0 32=encG P:=tk_all (encG_length P)
theorem wr_two {x y:List Int} (hx:x.length=32) (hy:y.length=32):wr (wr (List.replicate 64 0) 0 (x.take 32)) 32 (y.take (64-32))=x++y:=by
  have h1:x.take 32=x:=List.take_of_length_le (by omega)
  have h2:y.take (64-32)=y:=List.take_of_length_le (by omega)
  rw [h1,h2]
  have h3:wr (List.replicate 64 0) 0 x=x++List.replicate 32 0:=by
    unfold wr
    rw [hx]
    rfl
  have h4:tk (x++List.replicate 32 0) 0 32=x:=by
    apply List.ext_getElem
    · rw [tk_length,hx]
    · intro i h1 h2
      simp only [tk,List.getElem_map,List.getElem_range,Nat.zero_add]
      rw [List.getD_eq_getElem?_getD,List.getElem?_append_left h2,List.getElem?_eq_getElem h2]
      rfl
  have h5:(x++List.replicate 32 (0:Int)).drop (32+32) = []:=List.drop_eq_nil_of_le (by simp [hx])
  rw [h3]
  unfold wr
  rw [h4,hy,h5,List.append_nil]
structure Q3 where
  x:Int
  y:Int
  z:Int
def rp (q:Q3):q7_Pt:=⟨rn q.x,rn q.y,rn q.z⟩
structure Rep3 (q:Q3) (P:G):Prop where
  z:fi q.z≠0
  x:fi q.x=P.x*fi q.z
  y:fi q.y=P.y*fi q.z
theorem rD:q7_D=some (rn DD):=by
  rw [q7_D,bnd_eq,opt_some (rfrom (byt_of (by decide)) rfl)]
  decide
def rqadd (p q:Q3):Q3 :=
  let a:=p.z*q.z
  let b:=a*a
  let c:=p.x*q.x
  let d:=p.y*q.y
  let e:=DD*(c*d)
  let f:=b-e
  let g:=b+e
  let s:=p.x*q.y+p.y*q.x
  ⟨a*f*s,a*g*(d+c),f*g⟩
theorem rqadd_eq (p q:Q3):q7_Add (rp p) (rp q)=some (rp (rqadd p q)):=by
  rw [q7_Add]
  show opt (q5_Mul (rn p.z) (rn q.z)) _=_
  rw [opt_some (rmul _ _),opt_some (rmul _ _)]
  show opt (q5_Mul (rn p.x) (rn q.x)) _=_
  rw [opt_some (rmul _ _)]
  show opt (q5_Mul (rn p.y) (rn q.y)) _=_
  rw [opt_some (rmul _ _),opt_some rD,opt_some (rmul _ _),opt_some (rmul _ _),opt_some (rsub _ _),opt_some (radd _ _)]
  show opt (q5_Mul (rn p.x) (rn q.y)) _=_
  rw [opt_some (rmul _ _)]
  show opt (q5_Mul (rn p.y) (rn q.x)) _=_
  rw [opt_some (rmul _ _),opt_some (radd _ _),opt_some (rmul _ _),opt_some (rmul _ _),opt_some (rmul _ _),opt_some (radd _ _),opt_some (rmul _ _),opt_some (rmul _ _)]
  rfl
def rqdbl (p:Q3):Q3 :=
  let xx:=p.x*p.x
  let yy:=p.y*p.y
  let zz:=p.z*p.z
  let l:=yy-xx
  let m:=zz+zz-l
  let xy:=p.x*p.y
  ⟨(xy+xy)*m,(xx+yy)*l,l*m⟩
theorem rqdbl_eq (p:Q3):q7_Double (rp p)=some (rp (rqdbl p)):=by
  rw [q7_Double]
  show opt (q5_Mul (rn p.x) (rn p.x)) _=_
  rw [opt_some (rmul _ _)]
  show opt (q5_Mul (rn p.y) (rn p.y)) _=_
  rw [opt_some (rmul _ _)]
  show opt (q5_Mul (rn p.z) (rn p.z)) _=_
  rw [opt_some (rmul _ _),opt_some (rsub _ _),opt_some (radd _ _),opt_some (rsub _ _)]
  show opt (q5_Mul (rn p.x) (rn p.y)) _=_
  rw [opt_some (rmul _ _),opt_some (radd _ _),opt_some (rmul _ _),opt_some (radd _ _),opt_some (rmul _ _),opt_some (rmul _ _)]
  rfl
theorem rep3_add {p q:Q3} {P Q:G} (hp:Rep3 p P) (hq:Rep3 q Q):Rep3 (rqadd p q) (addG P Q):=by
  have d1:=den1 P.on Q.on
  have d2:=den2 P.on Q.on
  have ax:=addG_x P Q
  have ay:=addG_y P Q
  have hz:=mul_ne hp.z hq.z
  have hb:=mul_ne hz hz
  have ef:fi (p.z*q.z*(p.z*q.z)-DD*(p.x*q.x*(p.y*q.y)))=(fi p.z*fi q.z*(fi p.z*fi q.z))*(1-dF*P.x*Q.x*P.y*Q.y):=by
    simp only [fi_mul,fi_sub,fi_DD,hp.x,hq.x,hp.y,hq.y]
    generalize dF=d at *
    clear d1 d2 ax ay hz hb
    grind -lia -linarith (splits:=0)
  have eg:fi (p.z*q.z*(p.z*q.z)+DD*(p.x*q.x*(p.y*q.y)))=(fi p.z*fi q.z*(fi p.z*fi q.z))*(1+dF*P.x*Q.x*P.y*Q.y):=by
    simp only [fi_mul,fi_add,fi_DD,hp.x,hq.x,hp.y,hq.y]
    generalize dF=d at *
    clear d1 d2 ax ay hz hb
    grind -lia -linarith (splits:=0)
  constructor
  · show fi ((p.z*q.z*(p.z*q.z)-DD*(p.x*q.x*(p.y*q.y)))*(p.z*q.z*(p.z*q.z)+DD*(p.x*q.x*(p.y*q.y))))≠0
    rw [fi_mul,ef,eg]
    exact mul_ne (mul_ne hb d2) (mul_ne hb d1)
  · show fi (p.z*q.z*(p.z*q.z*(p.z*q.z)-DD*(p.x*q.x*(p.y*q.y)))*(p.x*q.y+p.y*q.x))=(addG P Q).x*fi ((p.z*q.z*(p.z*q.z)-DD*(p.x*q.x*(p.y*q.y)))*(p.z*q.z*(p.z*q.z)+DD*(p.x*q.x*(p.y*q.y))))
    rw [fi_mul (p.z*q.z*(p.z*q.z)-_),fi_mul,fi_mul,ef,eg]
    simp only [fi_mul,fi_add,hp.x,hq.x,hp.y,hq.y]
    generalize (addG P Q).x=X at *
    generalize dF=d at *
    clear d1 d2 ay hz hb ef eg
    grind -lia -linarith (splits:=0)
  · show fi (p.z*q.z*(p.z*q.z*(p.z*q.z)+DD*(p.x*q.x*(p.y*q.y)))*(p.y*q.y+p.x*q.x))=(addG P Q).y*fi ((p.z*q.z*(p.z*q.z)-DD*(p.x*q.x*(p.y*q.y)))*(p.z*q.z*(p.z*q.z)+DD*(p.x*q.x*(p.y*q.y))))
    rw [fi_mul (p.z*q.z*(p.z*q.z)-_),fi_mul,fi_mul,ef,eg]
    simp only [fi_mul,fi_add,hp.x,hq.x,hp.y,hq.y]
    generalize (addG P Q).y=Y at *
    generalize dF=d at *
    clear d1 d2 ax hz hb ef eg
    grind -lia -linarith (splits:=0)
theorem rep3_dbl {p:Q3} {P:G} (hp:Rep3 p P):Rep3 (rqdbl p) (addG P P):=by
  have d1:=den1 P.on P.on
  have d2:=den2 P.on P.on
  have ax:=addG_x P P
  have ay:=addG_y P P
  have on:=P.on.eq
  have hz:=mul_ne hp.z hp.z
  have el:fi (p.y*p.y-p.x*p.x)=(fi p.z*fi p.z)*(1+dF*P.x*P.x*P.y*P.y):=by
    simp only [fi_mul,fi_sub,hp.x,hp.y]
    generalize dF=d at *
    clear d1 d2 ax ay hz
    grind -lia -linarith (splits:=0)
  have em:fi (p.z*p.z+p.z*p.z-(p.y*p.y-p.x*p.x))=(fi p.z*fi p.z)*(1-dF*P.x*P.x*P.y*P.y):=by
    simp only [fi_mul,fi_sub,fi_add,hp.x,hp.y]
    generalize dF=d at *
    clear d1 d2 ax ay hz el
    grind -lia -linarith (splits:=0)
  constructor
  · show fi ((p.y*p.y-p.x*p.x)*(p.z*p.z+p.z*p.z-(p.y*p.y-p.x*p.x)))≠0
    rw [fi_mul,el,em]
    exact mul_ne (mul_ne hz d1) (mul_ne hz d2)
  · show fi ((p.x*p.y+p.x*p.y)*(p.z*p.z+p.z*p.z-(p.y*p.y-p.x*p.x)))=(addG P P).x*fi ((p.y*p.y-p.x*p.x)*(p.z*p.z+p.z*p.z-(p.y*p.y-p.x*p.x)))
    rw [fi_mul,fi_mul (p.y*p.y-p.x*p.x),el,em]
    simp only [fi_mul,fi_add,hp.x,hp.y]
    generalize (addG P P).x=X at *
    generalize dF=d at *
    clear d1 d2 ay hz el em
    grind -lia -linarith (splits:=0)
  · show fi ((p.x*p.x+p.y*p.y)*(p.y*p.y-p.x*p.x))=(addG P P).y*fi ((p.y*p.y-p.x*p.x)*(p.z*p.z+p.z*p.z-(p.y*p.y-p.x*p.x)))
    rw [fi_mul,fi_mul (p.y*p.y-p.x*p.x),el,em]
    simp only [fi_mul,fi_add,hp.x,hp.y]
    generalize (addG P P).y=Y at *
    generalize dF=d at *
    clear d1 d2 ax hz el em
    grind -lia -linarith (splits:=0)
def rqzero:Q3:=⟨0,1,1⟩
theorem rzero_eq:q7_Zero=some (rp rqzero):=by
  rw [q7_Zero,opt_some (rsmall (by decide) (by decide)),opt_some (rsmall (by decide) (by decide)),opt_some (rsmall (by decide) (by decide))]
  rfl
theorem rep3_zero:Rep3 rqzero zeroG:=by
  constructor
  · show fi 1≠0; decide +kernel
  · show fi 0=0*fi 1; decide +kernel
  · show fi 1=1*fi 1; decide +kernel
def rtab (p:Q3):Nat→Q3
  | 0=>rqzero
  | i+1=>rqadd (rtab p i) p
theorem rep3_tab {p:Q3} {P:G} (hp:Rep3 p P) : ∀ j,Rep3 (rtab p j) (mulG j P)
  | 0=>rep3_zero
  | j+1=>rep3_add (rep3_tab hp j) hp
def rtabL (f:Nat→q7_Pt) (i:Nat):List q7_Pt:=(List.range 16).map fun j=>if j≤i then f j else q7_Pt_z
theorem rtabL_set (f:Nat→q7_Pt) {i:Nat} (hi:i<15):setG q7_Pt_z (rtabL f i) (i+1) (f (i+1))=rtabL f (i+1):=by
  rw [setG_eq (by simp [rtabL]; omega)]
  apply List.ext_getElem
  · simp [rtabL]
  · intro j h1 h2
    simp only [rtabL,List.getElem_set,List.getElem_map,List.getElem_range]
    by_cases hj:i+1=j
    · subst hj; simp
    · rw [if_neg hj]
      by_cases h:j≤i
      · rw [if_pos h,if_pos (by omega)]
      · rw [if_neg h,if_neg (by omega)]
theorem rtabL_get (f:Nat→q7_Pt) {i j:Nat} (hj:j≤i) (hi:i<16):(rtabL f i).getD j q7_Pt_z=f j:=by
  simp only [rtabL,List.getD,List.getElem?_map,List.getElem?_range (show j<16 by omega),Option.map_some,Option.getD_some,if_pos hj]
theorem rupto_loop (p:Q3) (k:List q7_Pt→Option (List q7_Pt)) : ∀ (m n i:Nat),i+m=15→q7_upTo15_l1 (rp p) k (n+1+m) ((i+1:Nat):Int) (rtabL (fun j=>rp (rtab p j)) i)=k (rtabL (fun j=>rp (rtab p j)) 15)
  | 0,n,i,hi=>by
    have e:i=15:=by omega
    subst e
    rw [Nat.add_zero,q7_upTo15_l1,q7_upTo15_b1,br_ff (by decide)]
  | m+1,n,i,hi=>by
    have ih:=rupto_loop p k m n (i+1) (by omega)
    have e1:=i64_succ (i:=i+1) (by omega)
    have e2:IntKind.wrap .i64 (((i+1:Nat):Int)-1)=(i:Int):=by rw [wi64_small (by omega) (by omega)]; omega
    rw [← Nat.add_assoc,q7_upTo15_l1,q7_upTo15_b1,br_tt (decide_eq_true (by omega))]
    simp only [bnd_eq,e1,e2,Int.toNat_natCast]
    rw [chk_t (inB_t (by omega) (by omega)),rtabL_get _ (Nat.le_refl i) (by omega),opt_some (rqadd_eq _ _),chk_t (inB_t (by omega) (by omega))]
    have:=rtabL_set (fun j=>rp (rtab p j)) (i:=i) (by omega)
    rw [show rp (rqadd (rtab p i) p)=rp (rtab p (i+1)) from rfl,this]
    exact ih
theorem rupto (p:Q3):q7_upTo15 (rp p)=some (rtabL (fun j=>rp (rtab p j)) 15):=by
  obtain ⟨n,hn⟩ : ∃ n,big=n+1+15:=⟨18446744073709551600,big_eq⟩
  rw [q7_upTo15,opt_some rzero_eq,bnd_eq,jn_eq,hn]
  have e:setG q7_Pt_z (List.replicate 16 q7_Pt_z) 0 (rp rqzero)=rtabL (fun j=>rp (rtab p j)) 0:=by
    simp [setG,rtabL,List.range,List.range.loop,List.replicate]
    rfl
  rw [e]
  exact rupto_loop p some 15 n 0 (by omega)
def rdbl4 (q:Q3):Q3:=rqdbl (rqdbl (rqdbl (rqdbl q)))
theorem rep3_dbl4 {p:Q3} {P:G} (hp:Rep3 p P):Rep3 (rdbl4 p) (mulG 16 P):=by
  have h:=rep3_dbl (rep3_dbl (rep3_dbl (rep3_dbl hp)))
  rw [← mulG_two,← mulG_two,← mulG_two,← mulG_two,← mulG_mul,← mulG_mul,← mulG_mul] at h
  exact h
def rround (p q:Q3) (b:Int):Q3:=rqadd (rdbl4 (rqadd (rdbl4 q) (rtab p (b / 16).toNat))) (rtab p (b%16).toNat)
theorem rep3_round {p q:Q3} {P:G} {n:Nat} (hp:Rep3 p P) (hq:Rep3 q (mulG n P)) {b:Int} (hb:0≤b∧b<256):Rep3 (rround p q b) (mulG (n*256+b.toNat) P):=by
  have h:=rep3_add (rep3_dbl4 (rep3_add (rep3_dbl4 hq) (rep3_tab hp (b / 16).toNat))) (rep3_tab hp (b%16).toNat)
  rw [← mulG_mul,← mulG_add,← mulG_mul,← mulG_add] at h
  have e:16*(16*n+(b / 16).toNat)+(b%16).toNat=n*256+b.toNat:=by omega
  rw [e] at h
  exact h
def racc (k:List Int) (p:Q3):Nat→Q3
  | 0=>rqzero
  | j+1=>rround p (racc k p j) (k.getD (31-j) 0)
theorem hacc_nonneg {k:List Int} (hk:Byt k) : ∀ j,0≤hacc k j
  | 0=>Int.le_refl _
  | j+1=>by
    have h1:=hacc_nonneg hk j
    have h2:=hk (31-j)
    show 0≤hacc k j*256+k.getD (31-j) 0
    omega
theorem rep3_racc {k:List Int} (hk:Byt k) {p:Q3} {P:G} (hp:Rep3 p P) : ∀ j,Rep3 (racc k p j) (mulG (hacc k j).toNat P)
  | 0=>rep3_zero
  | j+1=>by
    have h:=rep3_round hp (rep3_racc hk hp j) (hk (31-j))
    have h1:=hacc_nonneg hk j
    have h2:=hk (31-j)
    have e:(hacc k j).toNat*256+(k.getD (31-j) 0).toNat=(hacc k (j+1)).toNat:=by
      show _=(hacc k j*256+k.getD (31-j) 0).toNat
      omega
    rw [e] at h
    exact h
theorem rmul_loop {k:List Int} (hk:Byt k) (p:Q3) (kk:List Int→List Int→List Int→Option q7_Pt) : ∀ (m n j:Nat),j+m=32→q7_Mul_l1 k (rtabL (fun j=>rp (rtab p j)) 15) kk (n+1+m) ((m:Int)-1) (rp (racc k p j)).gX (rp (racc k p j)).gY (rp (racc k p j)).gZ=kk (rp (racc k p 32)).gX (rp (racc k p 32)).gY (rp (racc k p 32)).gZ
  | 0,n,j,hj=>by
    have e:j=32:=by omega
    subst e
    rw [Nat.add_zero,q7_Mul_l1,q7_Mul_b1,br_ff (by decide)]
  | m+1,n,j,hj=>by
    have ih:=rmul_loop hk p kk m n (j+1) (by omega)
    have hb:=hk m
    have e0:((m+1:Nat):Int)-1=(m:Int):=by omega
    have e1:IntKind.wrap .i64 ((m:Int)-1)=(m:Int)-1:=wi64_small (by omega) (by omega)
    have e2:IntKind.wrap .u8 (Int.tdiv (k.getD m 0) 16)=k.getD m 0 / 16:=by
      rw [Int.tdiv_eq_ediv_of_nonneg hb.1,wu8_eq]; omega
    have e3:Int.tmod (k.getD m 0) 16=k.getD m 0%16:=Int.tmod_eq_emod_of_nonneg hb.1
    have em:31-j=m:=by omega
    rw [e0,← Nat.add_assoc,q7_Mul_l1,q7_Mul_b1,br_tt (decide_eq_true (by omega)),chk_t (inB_t (by omega) (by omega))]
    rw [show (⟨(rp (racc k p j)).gX,(rp (racc k p j)).gY,(rp (racc k p j)).gZ⟩:q7_Pt)=rp (racc k p j) from rfl]
    rw [opt_some (rqdbl_eq _),opt_some (rqdbl_eq _),opt_some (rqdbl_eq _),opt_some (rqdbl_eq _)]
    simp only [bnd_eq,e1,e2,e3,Int.toNat_natCast]
    rw [chk_t (inB_t (by omega) (by omega)),rtabL_get _ (by omega) (by decide),opt_some (rqadd_eq _ _),chk_t (inB_t (by omega) (by omega))]
    rw [opt_some (rqdbl_eq _),opt_some (rqdbl_eq _),opt_some (rqdbl_eq _),opt_some (rqdbl_eq _),chk_t (inB_t (by omega) (by omega)),rtabL_get _ (by omega) (by decide),opt_some (rqadd_eq _ _)]
    have er:rp (rqadd (rqdbl (rqdbl (rqdbl (rqdbl (rqadd (rqdbl (rqdbl (rqdbl (rqdbl (racc k p j))))) (rtab p (k.getD m 0 / 16).toNat)))))) (rtab p (k.getD m 0%16).toNat))=rp (racc k p (j+1)):=by
      show _=rp (rround p (racc k p j) (k.getD (31-j) 0))
      rw [em]; rfl
    rw [er]
    exact ih
theorem rmulp {k:List Int} (hk:Byt k) (p:Q3):q7_Mul k (rp p)=some (rp (racc k p 32)):=by
  obtain ⟨n,hn⟩ : ∃ n,big=n+1+32:=⟨18446744073709551583,big_eq⟩
  rw [q7_Mul,opt_some (rupto p),opt_some rzero_eq,jn_eq,hn]
  exact rmul_loop hk p _ 32 n 0 (by omega)
theorem rep3_mul {k:List Int} (hk:Byt k) {p:Q3} {P:G} (hp:Rep3 p P):Rep3 (racc k p 32) (mulG (sval k).toNat P):=by
  have h:=rep3_racc hk hp 32
  rw [hacc_eq] at h
  exact h
theorem racross (y:Int):q7_across (rn y)=some (rn (rsqr (y*y-1) (DD*(y*y)+1)).1,(rsqr (y*y-1) (DD*(y*y)+1)).2):=by
  rw [q7_across,opt_some (rmul _ _),opt_some (rsmall (by decide) (by decide)),opt_some (rsub _ _),opt_some rD,opt_some (rmul _ _),opt_some (rsmall (by decide) (by decide)),opt_some (radd _ _),opt_some (rsqrt_eq _ _)]
theorem raffine (x y:Int):q7_affine (rn x) (rn y)=some (rp ⟨x,y,1⟩):=by
  rw [q7_affine,opt_some (rsmall (by decide) (by decide))]
  rfl
theorem base_y:(4*pw 5 einv 256)%PP=BY:=by decide +kernel
theorem base_x:(rsqr (BY*BY-1) (DD*(BY*BY)+1)).1%PP=BX:=by decide +kernel
def rqbase:Q3:=⟨(rsqr (BY*BY-1) (DD*(BY*BY)+1)).1,BY,1⟩
theorem rbase_eq:q7_Base=some (rp rqbase):=by
  have e:rn (4*pw 5 einv 256)=rn BY:=by rw [← rn_mod,base_y]
  rw [q7_Base,opt_some (rsmall (by decide) (by decide)),opt_some (rsmall (by decide) (by decide)),opt_some (rinv _),opt_some (rmul _ _),e,opt_some (racross _)]
  show opt (q7_affine (rn (rsqr (BY*BY-1) (DD*(BY*BY)+1)).1) (rn BY)) _=_
  rw [opt_some (raffine _ _)]
  rfl
theorem rep3_base:Rep3 rqbase baseG:=by
  constructor
  · show fi 1≠0; decide +kernel
  · show fi (rsqr (BY*BY-1) (DD*(BY*BY)+1)).1=fi BX*fi 1
    rw [← fi_mod,show (rsqr (BY*BY-1) (DD*(BY*BY)+1)).1%57896044618658097711785492504343953926634992332820282019728792003956564819949=BX from base_x]
    decide +kernel
  · show fi BY=fi BY*fi 1; decide +kernel
theorem rmulbase {k:List Int} (hk:Byt k) : ∃ q,q7_MulBase k=some (rp q)∧Rep3 q (pB k):=by
  refine ⟨_,?_,rep3_mul hk rep3_base⟩
  rw [q7_MulBase,opt_some rbase_eq,opt_some (rmulp hk _)]
theorem rencode {q:Q3} {P:G} (h:Rep3 q P):q7_Encode (rp q)=some (encG P):=by
  have hi:=inv_pow bnum_inv h.z
  have hx:fi (q.x*pw q.z einv 256)=P.x:=by
    rw [fi_mul,fi_pw,h.x]
    generalize pwF (fi q.z) (bnum einv 256)=i at *
    generalize fi q.z=z at *
    grind -lia -linarith (splits:=0)
  have hy:fi (q.y*pw q.z einv 256)=P.y:=by
    rw [fi_mul,fi_pw,h.y]
    generalize pwF (fi q.z) (bnum einv 256)=i at *
    generalize fi q.z=z at *
    grind -lia -linarith (splits:=0)
  have ex:q.x*pw q.z einv 256%PP=fv P.x:=by rw [← hx,fv_fi]
  have ey:q.y*pw q.z einv 256%PP=fv P.y:=by rw [← hy,fv_fi]
  rw [q7_Encode]
  show opt (q5_Invert (rn q.z)) _=_
  rw [opt_some (rinv _)]
  show opt (q5_Mul (rn q.y) _) _=_
  rw [opt_some (rmul _ _),opt_some (rbytes _)]
  show opt (q5_Mul (rn q.x) _) _=_
  rw [opt_some (rmul _ _),opt_some (risodd _),jn_eq,ex,ey]
  have h31:=byt_31 (n:=fv P.y) (fv_rng _).1 (fv_rng _).2
  unfold encG encXY
  rw [fv_mod,fv_mod]
  by_cases ho:fv P.x%2=1
  · rw [br_tt (by simpa using ho),if_pos ho,or128 h31.1 h31.2,bnd_eq,bnd_eq,bnd_eq,wu8_eq,Int.emod_eq_of_lt (by omega) (by omega)]
  · rw [br_ff (by simpa using ho),if_neg ho]
def qV (l:List Int):Nat→Int
  | 0=>0
  | n+1=>qV l n+l.getD n 0*(256:Int)^n
theorem qV_succ (l:List Int) (n:Nat):qV l (n+1)=qV l n+l.getD n 0*(256:Int)^n:=rfl
theorem qpow_pos (n:Nat):0<(256:Int)^n:=Int.pow_pos (by decide)
theorem qV_congr {l r:List Int} : ∀ n,(∀ i,i<n→l.getD i 0=r.getD i 0)→qV l n=qV r n
  | 0,_=>rfl
  | n+1,h=>by rw [qV_succ,qV_succ,qV_congr n (fun i hi=>h i (by omega)),h n (by omega)]
theorem qV_set_ge (l:List Int) (i:Nat) (v:Int) (n:Nat) (h:n≤i):qV (setG 0 l i v) n=qV l n :=
  qV_congr n (fun j hj=>by rw [getD_setG,if_neg (by omega)])
theorem qV_set (l:List Int) (i:Nat) (v:Int) : ∀ n,i<n→qV (setG 0 l i v) n=qV l n+(v-l.getD i 0)*(256:Int)^i
  | 0,h=>by omega
  | n+1,h=>by
    rw [qV_succ,qV_succ,getD_setG]
    by_cases hi:n=i
    · subst hi
      rw [if_pos rfl,qV_set_ge l n v n (Nat.le_refl _),Int.sub_mul]
      omega
    · rw [if_neg hi,qV_set l i v n (by omega)]
      omega
theorem qV_end {l:List Int} {m:Nat} (h:l.length≤m) : ∀ n,m≤n→qV l n=qV l m
  | 0,hn=>by rw [show m=0 by omega]
  | n+1,hn=>by
    by_cases e:m=n+1
    · rw [e]
    · rw [qV_succ,getD_end (show l.length≤n by omega),qV_end h n (by omega)]; omega
theorem qV_rng {l:List Int} (h:Byt l) : ∀ n,0≤qV l n∧qV l n<(256:Int)^n
  | 0=>by show (0:Int)≤0∧(0:Int)<1; omega
  | n+1=>by
    have ih:=qV_rng h n
    have h1:=h n
    have hp:=qpow_pos n
    rw [qV_succ,Int.pow_succ]
    generalize (256:Int)^n=w at *
    generalize l.getD n 0=x at *
    generalize qV l n=v at *
    have a:0≤x*w:=Int.mul_nonneg h1.1 (by omega)
    have b:x*w≤255*w:=Int.mul_le_mul_of_nonneg_right (by omega) (by omega)
    omega
theorem Byt_app {l:List Int} {v:Int} (h:Byt l) (hv:0≤v∧v<256):Byt (l ++ [v]):=by
  intro i
  by_cases hi:i<l.length
  · have:(l ++ [v]).getD i 0=l.getD i 0:=by simp [List.getD_eq_getElem?_getD,List.getElem?_append_left hi]
    rw [this]; exact h i
  · by_cases h2:i=l.length
    · have:(l ++ [v]).getD i 0=v:=by subst h2; simp [List.getD_eq_getElem?_getD]
      rw [this]; exact hv
    · rw [getD_end (by simp; omega)]; decide
theorem Byt_nil:Byt []:=fun i=>by
  have:([]:List Int).getD i 0=0:=rfl
  rw [this]; decide
theorem Byt_setG {l:List Int} {i:Nat} {v:Int} (h:Byt l) (hv:0≤v∧v<256):Byt (setG 0 l i v):=by
  intro j; rw [getD_setG]; split
  · exact hv
  · exact h j
theorem Byt_rep (n:Nat):Byt (List.replicate n 0):=by
  intro t
  have:(List.replicate n (0:Int)).getD t 0=0:=by
    simp only [List.getD]
    cases hi:(List.replicate n (0:Int))[t]? with
    | none=>rfl
    | some v=>simpa using (List.mem_replicate.1 (List.mem_of_getElem? hi)).2
  rw [this]; decide
theorem qV_rep (m:Nat) : ∀ n,qV (List.replicate m 0) n=0
  | 0=>rfl
  | n+1=>by
    have:(List.replicate m (0:Int)).getD n 0=0:=by
      simp only [List.getD]
      cases hi:(List.replicate m (0:Int))[n]? with
      | none=>rfl
      | some v=>simpa using (List.mem_replicate.1 (List.mem_of_getElem? hi)).2
    rw [qV_succ,qV_rep m n,this]; omega
theorem qV_app (l:List Int) (v:Int):qV (l ++ [v]) (l.length+1)=qV l l.length+v*(256:Int)^l.length:=by
  have e:(l ++ [v]).getD l.length 0=v:=by simp [List.getD_eq_getElem?_getD]
  rw [qV_succ,e]
  congr 1
  exact qV_congr _ (fun i hi=>by simp [List.getD_eq_getElem?_getD,List.getElem?_append_left hi])
theorem setG_len {l:List Int} {i:Nat} {v:Int} (h:i<l.length):(setG 0 l i v).length=l.length:=by rw [setG_eq h,List.length_set]
theorem at_eq (p:List Int) (i:Nat):q6_at p (i:Int)=some (p.getD i 0):=by
  rw [q6_at]
  by_cases h:i<p.length
  · rw [br_tt (decide_eq_true (by omega)),chk_t (inB_t (by omega) (by omega)),bnd_eq,Int.toNat_natCast]
  · rw [br_ff (decide_eq_false (by omega)),getD_end (by omega)]
theorem longer_eq (p q:List Int):q6_longer p q=some ((max p.length q.length:Nat):Int):=by
  rw [q6_longer]
  by_cases h:(p.length:Int)<(q.length:Int)
  · rw [br_tt (decide_eq_true h)]; congr 2; omega
  · rw [br_ff (decide_eq_false h)]; congr 2; omega
theorem of_loop {p:List Int} (hp:Byt p) (hb:p.length<1000000) (k:List Int→Option (List Int)) (m:Nat) : ∀ (n i:Nat),i+m=p.length→q6_Of_l1 p k (n+1+m) (p.take i) (i:Int)=k p:=by
  induction m with
  | zero =>
    intro n i hi
    rw [Nat.add_zero,q6_Of_l1,q6_Of_b1,br_ff (decide_eq_false (by omega)),List.take_of_length_le (by omega)]
  | succ m ih =>
    intro n i hi
    have e1:=i64_succ (i:=i) (by omega)
    have hx:=hp i
    have hlt:i<p.length:=by omega
    have ht:p.take i ++ [p.getD i 0]=p.take (i+1):=by
      rw [List.take_add_one,List.getD_eq_getElem?_getD,List.getElem?_eq_getElem hlt]; rfl
    rw [← Nat.add_assoc,q6_Of_l1,q6_Of_b1,br_tt (decide_eq_true (by omega)),chk_t (inB_t (by omega) (by omega))]
    simp only [bnd_eq,e1,Int.toNat_natCast]
    rw [wi64_small (by omega) (by omega),chk_t (decide_eq_true (by simp only [List.length_take,List.length_singleton]; omega)),ht]
    exact ih n (i+1) (by omega)
theorem of_eq {p:List Int} (hp:Byt p) (hb:p.length<1000000):q6_Of p=some p:=by
  obtain ⟨n,hn⟩ : ∃ n',big=n'+1+p.length:=⟨18446744073709551615-p.length,by have:big=18446744073709551616:=big_eq; omega⟩
  rw [q6_Of,jn_eq,hn]
  exact of_loop hp hb some p.length n 0 (by omega)
def rorder:List Int:=[237,211,245,92,26,99,18,88,214,156,247,162,222,249,222,20,0,0,0,0,0,0,0,0,0,0,0,0,0,0,0,16]
theorem rorder_eq:q6_order=some rorder:=rfl
theorem rorder_byt:Byt rorder:=byt_of (by decide)
theorem rorder_val33:qV rorder 33=VL:=by decide
theorem less6_loop {a b:List Int} (ha:Byt a) (hb:Byt b) (k:Unit→Option Bool) (hk:k ()=some false) : ∀ (m n:Nat),m<1000000 →
    q6_Less_l1 a b k (n+1+m) ((m:Int)-1)=some (decide (qV a m<qV b m))
  | 0,n,_=>by
    rw [Nat.add_zero,q6_Less_l1,q6_Less_b1,br_ff (by decide),hk]
    simp [qV]
  | m+1,n,hm=>by
    have ih:=less6_loop ha hb k hk m n (by omega)
    have e0:((m+1:Nat):Int)-1=(m:Int):=by omega
    have e1:IntKind.wrap .i64 ((m:Int)-1)=(m:Int)-1:=wi64_small (by omega) (by omega)
    have ra:=qV_rng ha m
    have rb:=qV_rng hb m
    rw [e0,← Nat.add_assoc,q6_Less_l1,q6_Less_b1,br_tt (decide_eq_true (by omega)),opt_some (at_eq _ _),opt_some (at_eq _ _)]
    rw [qV_succ,qV_succ]
    by_cases h:a.getD m 0=b.getD m 0
    · rw [br_ff (by rw [h]; simp),bnd_eq,e1,ih,h]
      congr 1
      by_cases h2:qV a m<qV b m
      · rw [decide_eq_true h2,decide_eq_true (by omega)]
      · rw [decide_eq_false h2,decide_eq_false (by omega)]
    · rw [br_tt (by simpa using h),opt_some (at_eq _ _),opt_some (at_eq _ _)]
      congr 1
      generalize a.getD m 0=x at *
      generalize b.getD m 0=y at *
      generalize qV a m=v at *
      generalize qV b m=u at *
      have hp:=qpow_pos m
      generalize (256:Int)^m=w at *
      by_cases h2:x<y
      · have h3:(x+1)*w≤y*w:=Int.mul_le_mul_of_nonneg_right (by omega) (by omega)
        rw [Int.add_mul,Int.one_mul] at h3
        rw [decide_eq_true h2,decide_eq_true (by omega)]
      · have h3:(y+1)*w≤x*w:=Int.mul_le_mul_of_nonneg_right (by omega) (by omega)
        rw [Int.add_mul,Int.one_mul] at h3
        rw [decide_eq_false h2,decide_eq_false (by omega)]
theorem less6 {a b:List Int} (ha:Byt a) (hb:Byt b) (la:a.length<1000000) (lb:b.length<1000000):q6_Less a b=some (decide (qV a (max a.length b.length)<qV b (max a.length b.length))):=by
  have hm:max a.length b.length<1000000:=by omega
  have h:=less6_loop ha hb (fun _=>some false) rfl
  obtain ⟨n,hn⟩ : ∃ n',big=n'+1+max a.length b.length:=⟨18446744073709551615-max a.length b.length,by have:big=18446744073709551616:=big_eq; omega⟩
  rw [q6_Less,opt_some (longer_eq a b),bnd_eq,jn_eq,wi64_small (by omega) (by omega),hn]
  exact h _ n hm
theorem sum_loop {a b:List Int} (ha:Byt a) (hb:Byt b) {M:Nat} (hM:M=max a.length b.length) (hl:M<1000000) (k:List Int→Int→Option (List Int)) (m:Nat) : ∀ (n i:Nat) (l:List Int) (c:Int),i+m=M→l.length=i→Byt l→(c=0∨c=1)→qV l i+c*(256:Int)^i=qV a i+qV b i →
    ∃ r c',q6_Sum_l1 a b k (n+1+m) l c (i:Int)=k r c'∧r.length=M∧Byt r∧(c'=0∨c'=1)∧qV r M+c'*(256:Int)^M=qV a M+qV b M:=by
  induction m with
  | zero =>
    intro n i l c hi hli hb' hc hv
    have e:i=M:=by omega
    subst e
    refine ⟨l,c,?_,hli,hb',hc,hv⟩
    rw [Nat.add_zero,q6_Sum_l1,q6_Sum_b1,opt_some (longer_eq a b),← hM,br_ff (decide_eq_false (by omega))]
  | succ m ih =>
    intro n i l c hi hli hbl hc hv
    have e1:=i64_succ (i:=i) (by omega)
    have x:=ha i
    have y:=hb i
    have w1:IntKind.wrap .i64 (a.getD i 0+b.getD i 0)=a.getD i 0+b.getD i 0:=wi64_small (by omega) (by omega)
    have w2:IntKind.wrap .i64 (a.getD i 0+b.getD i 0+c)=a.getD i 0+b.getD i 0+c:=wi64_small (by omega) (by omega)
    have w3:Int.tmod (a.getD i 0+b.getD i 0+c) 256=(a.getD i 0+b.getD i 0+c)%256:=Int.tmod_eq_emod_of_nonneg (by omega)
    have w4:IntKind.wrap .i64 (Int.tdiv (a.getD i 0+b.getD i 0+c) 256)=(a.getD i 0+b.getD i 0+c) / 256:=by
      rw [Int.tdiv_eq_ediv_of_nonneg (by omega),wi64_small (by omega) (by omega)]
    obtain ⟨r,c',er,h1,h2,h3,h4⟩:=ih n (i+1) (l ++ [(a.getD i 0+b.getD i 0+c)%256]) ((a.getD i 0+b.getD i 0+c) / 256) (by omega) (by simp; omega) (Byt_app hbl (by omega)) (by omega) (by
      have:=qV_app l ((a.getD i 0+b.getD i 0+c)%256)
      rw [hli] at this
      rw [this,qV_succ a,qV_succ b,Int.pow_succ]
      have hd:=Int.mul_ediv_add_emod (a.getD i 0+b.getD i 0+c) 256
      generalize (a.getD i 0+b.getD i 0+c) / 256=d at *
      generalize (a.getD i 0+b.getD i 0+c)%256=q at *
      generalize a.getD i 0=xa at *
      generalize b.getD i 0=xb at *
      generalize (256:Int)^i=w at *
      generalize qV l i=v1 at *
      generalize qV a i=v2 at *
      generalize qV b i=v3 at *
      clear ih w1 w2 w3 w4 e1 this hM hl hi hc
      grind -lia -linarith (splits:=0))
    refine ⟨r,c',?_,h1,h2,h3,h4⟩
    rw [← Nat.add_assoc,q6_Sum_l1,q6_Sum_b1,opt_some (longer_eq a b),← hM,br_tt (decide_eq_true (by omega)),opt_some (at_eq _ _),opt_some (at_eq _ _)]
    simp only [bnd_eq,e1,w1,w2,w3,w4]
    rw [chk_t (decide_eq_true (by simp only [List.length_singleton]; omega))]
    exact er
theorem sum6 {a b:List Int} (ha:Byt a) (hb:Byt b) (la:a.length<100000) (lb:b.length<100000) : ∃ r,q6_Sum a b=some r∧r.length=max a.length b.length+1∧Byt r∧qV r r.length=qV a (max a.length b.length)+qV b (max a.length b.length):=by
  obtain ⟨n,hn⟩ : ∃ n',big=n'+1+max a.length b.length:=⟨18446744073709551615-max a.length b.length,by have:big=18446744073709551616:=big_eq; omega⟩
  obtain ⟨r,c,er,h1,h2,h3,h4⟩:=sum_loop ha hb rfl (by omega) (fun (l86:List (Int)) (i88:Int)=>chk (decide ((l86.length+([i88]:List (Int)).length)*8≤140737488355328)) <|
 bnd (l86++([i88]:List (Int))) fun l174 =>
 some l174) (max a.length b.length) n 0 [] 0 (by omega) rfl Byt_nil (.inl rfl) (by show (0:Int)+0*1=0+0; omega)
  refine ⟨r ++ [c],?_,by simp [h1],Byt_app h2 (by omega),?_⟩
  · rw [q6_Sum,jn_eq,hn]
    refine er.trans ?_
    rw [chk_t (decide_eq_true (by simp only [List.length_singleton]; omega)),bnd_eq]
  · have:=qV_app r c
    rw [h1] at this
    rw [List.length_append,h1]
    show qV (r ++ [c]) (max a.length b.length+1)=_
    rw [this,h4]
theorem minus_loop {a b:List Int} (ha:Byt a) (hb:Byt b) (hl:a.length<1000000) (k:List Int→Option (List Int)) (m:Nat) : ∀ (n i:Nat) (l:List Int) (c:Int),i+m=a.length→l.length=i→Byt l→(c=0∨c=1)→qV l i=qV a i-qV b i+c*(256:Int)^i →
    ∃ r c',q6_minus_l1 a b k (n+1+m) l c (i:Int)=k r∧r.length=a.length∧Byt r∧(c'=0∨c'=1)∧qV r a.length=qV a a.length-qV b a.length+c'*(256:Int)^a.length:=by
  induction m with
  | zero =>
    intro n i l c hi hli hbl hc hv
    have e:i=a.length:=by omega
    subst e
    refine ⟨l,c,?_,hli,hbl,hc,hv⟩
    rw [Nat.add_zero,q6_minus_l1,q6_minus_b1,br_ff (decide_eq_false (by omega))]
  | succ m ih =>
    intro n i l c hi hli hbl hc hv
    have e1:=i64_succ (i:=i) (by omega)
    have x:=ha i
    have y:=hb i
    have w1:IntKind.wrap .i64 (a.getD i 0-b.getD i 0)=a.getD i 0-b.getD i 0:=wi64_small (by omega) (by omega)
    have w2:IntKind.wrap .i64 (a.getD i 0-b.getD i 0-c)=a.getD i 0-b.getD i 0-c:=wi64_small (by omega) (by omega)
    rw [← Nat.add_assoc,q6_minus_l1,q6_minus_b1,br_tt (decide_eq_true (by omega)),chk_t (inB_t (by omega) (by omega))]
    simp only [bnd_eq,e1,Int.toNat_natCast]
    rw [opt_some (at_eq _ _),w1,w2,jn_eq]
    by_cases hn:a.getD i 0-b.getD i 0-c<0
    · have w3:IntKind.wrap .i64 (a.getD i 0-b.getD i 0-c+256)=a.getD i 0-b.getD i 0-c+256:=wi64_small (by omega) (by omega)
      rw [br_tt (decide_eq_true hn),w3]
      dsimp only
      rw [chk_t (decide_eq_true (by simp only [List.length_singleton]; omega))]
      refine ih n (i+1) (l ++ [a.getD i 0-b.getD i 0-c+256]) 1 (by omega) (by simp; omega) (Byt_app hbl (by omega)) (.inr rfl) ?_
      have:=qV_app l (a.getD i 0-b.getD i 0-c+256)
      rw [hli] at this
      rw [this,qV_succ a,qV_succ b,Int.pow_succ,hv]
      generalize a.getD i 0=xa at *
      generalize b.getD i 0=xb at *
      generalize (256:Int)^i=w at *
      generalize qV a i=v2 at *
      generalize qV b i=v3 at *
      clear ih w1 w2 w3 e1 this hl hi hc hv
      grind -lia -linarith (splits:=0)
    · rw [br_ff (decide_eq_false hn)]
      dsimp only
      rw [chk_t (decide_eq_true (by simp only [List.length_singleton]; omega))]
      refine ih n (i+1) (l ++ [a.getD i 0-b.getD i 0-c]) 0 (by omega) (by simp; omega) (Byt_app hbl (by omega)) (.inl rfl) ?_
      have:=qV_app l (a.getD i 0-b.getD i 0-c)
      rw [hli] at this
      rw [this,qV_succ a,qV_succ b,Int.pow_succ,hv]
      generalize a.getD i 0=xa at *
      generalize b.getD i 0=xb at *
      generalize (256:Int)^i=w at *
      generalize qV a i=v2 at *
      generalize qV b i=v3 at *
      clear ih w1 w2 e1 this hl hi hc hv
      grind -lia -linarith (splits:=0)
theorem minus6 {a b:List Int} (ha:Byt a) (hb:Byt b) (hl:a.length<1000000) (hle:qV b a.length≤qV a a.length) : ∃ r,q6_minus a b=some r∧r.length=a.length∧Byt r∧qV r a.length=qV a a.length-qV b a.length:=by
  obtain ⟨n,hn⟩ : ∃ n',big=n'+1+a.length:=⟨18446744073709551615-a.length,by have:big=18446744073709551616:=big_eq; omega⟩
  obtain ⟨r,c,er,h1,h2,h3,h4⟩:=minus_loop ha hb hl some a.length n 0 [] 0 (by omega) rfl Byt_nil (.inl rfl) (by show (0:Int)=0-0+0*1; omega)
  have rr:=qV_rng h2 a.length
  have ra:=qV_rng ha a.length
  have rb:=qV_rng hb a.length
  refine ⟨r,?_,h1,h2,?_⟩
  · rw [q6_minus,jn_eq,hn]; exact er
  · generalize (256:Int)^a.length=w at *
    rcases h3 with h | h <;> subst h <;> omega
theorem prod_inner {p q:List Int} (hp:Byt p) (hq:Byt q) {i:Nat} (hi:i<p.length) {L:Nat} (hL:i+q.length≤L) (hb:L<1000000) (m:Nat) : ∀ (n j:Nat) (l:List Int) (c:Int),j+m=q.length→l.length=L→Byt l→(0≤c∧c<256) →
    ∃ l' c',(∀ k,q6_Product_l2 p q (i:Int) k (n+1+m) l c (j:Int)=k l' c')∧l'.length=L∧Byt l'∧(0≤c'∧c'<256) ∧
      qV l' L+c'*(256:Int)^(i+q.length)+p.getD i 0*qV q j*(256:Int)^i=qV l L+c*(256:Int)^(i+j)+p.getD i 0*qV q q.length*(256:Int)^i∧(∀ t,i+q.length≤t→l'.getD t 0=l.getD t 0):=by
  induction m with
  | zero =>
    intro n j l c hj hl hw hc
    refine ⟨l,c,fun k=>?_,hl,hw,hc,?_,fun _ _=>rfl⟩
    · rw [Nat.add_zero,q6_Product_l2,q6_Product_b2,br_ff (decide_eq_false (by omega))]
    · rw [show j=q.length by omega]
  | succ m ih =>
    intro n j l c hj hl hw hc
    have e1:=i64_succ (i:=j) (by omega)
    have e2:IntKind.wrap .i64 ((i:Int)+(j:Int))=((i+j:Nat):Int):=by rw [wi64_small (by omega) (by omega)]; omega
    have x:=hp i
    have y:=hq j
    have z:=hw (i+j)
    have p0:0≤p.getD i 0*q.getD j 0:=Int.mul_nonneg x.1 y.1
    have p1:p.getD i 0*q.getD j 0≤255*255:=Int.mul_le_mul (by omega) (by omega) y.1 (by omega)
    have w1:IntKind.wrap .i64 (p.getD i 0*q.getD j 0)=p.getD i 0*q.getD j 0:=wi64_small (by omega) (by omega)
    have w2:IntKind.wrap .i64 (l.getD (i+j) 0+p.getD i 0*q.getD j 0)=l.getD (i+j) 0+p.getD i 0*q.getD j 0:=wi64_small (by omega) (by omega)
    have w3:IntKind.wrap .i64 (l.getD (i+j) 0+p.getD i 0*q.getD j 0+c)=l.getD (i+j) 0+p.getD i 0*q.getD j 0+c:=wi64_small (by omega) (by omega)
    have w4:Int.tmod (l.getD (i+j) 0+p.getD i 0*q.getD j 0+c) 256=(l.getD (i+j) 0+p.getD i 0*q.getD j 0+c)%256:=Int.tmod_eq_emod_of_nonneg (by omega)
    have w5:IntKind.wrap .i64 (Int.tdiv (l.getD (i+j) 0+p.getD i 0*q.getD j 0+c) 256)=(l.getD (i+j) 0+p.getD i 0*q.getD j 0+c) / 256:=by
      rw [Int.tdiv_eq_ediv_of_nonneg (by omega),wi64_small (by omega) (by omega)]
    obtain ⟨l',c',e,h1,h2,h3,h4,h5⟩:=ih n (j+1) (setG 0 l (i+j) ((l.getD (i+j) 0+p.getD i 0*q.getD j 0+c)%256)) ((l.getD (i+j) 0+p.getD i 0*q.getD j 0+c) / 256) (by omega) (by rw [setG_len (by omega),hl]) (Byt_setG hw (by omega)) (by omega)
    refine ⟨l',c',fun k=>?_,h1,h2,h3,?_,?_⟩
    · rw [← Nat.add_assoc,q6_Product_l2,q6_Product_b2,br_tt (decide_eq_true (by omega))]
      simp only [bnd_eq,e1,e2,Int.toNat_natCast,w1,w2,w3,w4,w5]
      rw [chk_t (inB_t (by omega) (by omega)),chk_t (inB_t (by omega) (by omega)),chk_t (inB_t (by omega) (by omega)),chk_t (inB_t (by omega) (by omega))]
      exact e k
    · rw [qV_set _ _ _ _ (by omega),qV_succ q j,← Nat.add_assoc,Int.pow_succ,Int.pow_add 256 i j] at h4
      rw [Int.pow_add 256 i j]
      have hd:=Int.mul_ediv_add_emod (l.getD (i+j) 0+p.getD i 0*q.getD j 0+c) 256
      generalize (l.getD (i+j) 0+p.getD i 0*q.getD j 0+c) / 256=d at *
      generalize (l.getD (i+j) 0+p.getD i 0*q.getD j 0+c)%256=r at *
      generalize (256:Int)^(i+q.length)=u1 at *
      generalize (256:Int)^i=u2 at *
      generalize (256:Int)^j=u3 at *
      generalize q.getD j 0=qj at *
      generalize p.getD i 0=pi at *
      generalize l.getD (i+j) 0=oo at *
      generalize qV l' L=a1 at *
      generalize qV l L=a2 at *
      generalize qV q j=a3 at *
      generalize qV q q.length=a4 at *
      clear e ih w1 w2 w3 w4 w5 e1 e2 hL hb hi hj h5 p0 p1 hw hp hq
      grind -lia -linarith (splits:=0)
    · intro t ht
      rw [h5 t ht,getD_setG,if_neg (by omega)]
theorem prod_outer {p q:List Int} (hp:Byt p) (hq:Byt q) {L:Nat} (hL:p.length+q.length=L) (hb:L<1000000) (k:List Int→Option (List Int)) (m:Nat) : ∀ (n i:Nat) (l:List Int),i+m=p.length→l.length=L→Byt l→(∀ t,i+q.length≤t→l.getD t 0=0)→qV l L=qV p i*qV q q.length →
    ∃ l',q6_Product_l1 p q k (n+1+m) l (i:Int)=k l'∧l'.length=L∧Byt l'∧qV l' L=qV p p.length*qV q q.length:=by
  induction m with
  | zero =>
    intro n i l hi hl hw hz hv
    refine ⟨l,?_,hl,hw,by rw [hv,show i=p.length by omega]⟩
    rw [Nat.add_zero,q6_Product_l1,q6_Product_b1,br_ff (decide_eq_false (by omega))]
  | succ m ih =>
    intro n i l hi hl hw hz hv
    obtain ⟨n',hn⟩ : ∃ n',big=n'+1+q.length:=⟨18446744073709551615-q.length,by have:big=18446744073709551616:=big_eq; omega⟩
    obtain ⟨l',c',e,hl',hw',hc',v',z'⟩:=prod_inner hp hq (i:=i) (by omega) (L:=L) (by omega) hb q.length n' 0 l 0 (by omega) hl hw (by decide)
    have e1:=i64_succ (i:=i) (by omega)
    have e2:IntKind.wrap .i64 ((i:Int)+(q.length:Int))=((i+q.length:Nat):Int):=by rw [wi64_small (by omega) (by omega)]; omega
    have hz0:l'.getD (i+q.length) 0=0:=by rw [z' _ (Nat.le_refl _),hz _ (Nat.le_refl _)]
    obtain ⟨l2,e3,hl2,hw2,v2⟩:=ih n (i+1) (setG 0 l' (i+q.length) c') (by omega) (by rw [setG_len (by omega),hl']) (Byt_setG hw' hc') (by
      intro t ht
      rw [getD_setG,if_neg (by omega),z' t (by omega),hz t (by omega)]) (by
      rw [qV_set _ _ _ _ (by omega),hz0,qV_succ p i]
      rw [hv] at v'
      have e0:qV q 0=0:=rfl
      rw [e0] at v'
      generalize (256:Int)^(i+q.length)=u1 at *
      generalize (256:Int)^i=u2 at *
      generalize qV l' L=a1 at *
      generalize qV q q.length=a4 at *
      generalize qV p i=a5 at *
      generalize p.getD i 0=a6 at *
      clear e ih e1 e2 hz hz0 z' hL hb hi hw hw' hp hq hv
      grind -lia -linarith (splits:=0))
    refine ⟨l2,?_,hl2,hw2,v2⟩
    rw [← Nat.add_assoc,q6_Product_l1,q6_Product_b1,br_tt (decide_eq_true (by omega)),jn_eq,hn]
    refine (e _).trans ?_
    simp only [bnd_eq,e1,e2,Int.toNat_natCast]
    rw [chk_t (inB_t (by omega) (by omega))]
    exact e3
theorem product6 {p q:List Int} (hp:Byt p) (hq:Byt q) (hb:p.length+q.length<100000) : ∃ r,q6_Product p q=some r∧r.length=p.length+q.length∧Byt r∧qV r r.length=qV p p.length*qV q q.length:=by
  have e1:IntKind.wrap .i64 ((p.length:Int)+(q.length:Int))=((p.length+q.length:Nat):Int):=by rw [wi64_small (by omega) (by omega)]; omega
  obtain ⟨n,hn⟩ : ∃ n',big=n'+1+p.length:=⟨18446744073709551615-p.length,by have:big=18446744073709551616:=big_eq; omega⟩
  have hz : ∀ t,(List.replicate (p.length+q.length) (0:Int)).getD t 0=0:=by
    intro t
    simp only [List.getD]
    cases hi:(List.replicate (p.length+q.length) (0:Int))[t]? with
    | none=>rfl
    | some v=>simpa using (List.mem_replicate.1 (List.mem_of_getElem? hi)).2
  obtain ⟨r,e,h1,h2,h3⟩:=prod_outer hp hq (L:=p.length+q.length) rfl (by omega) some p.length n 0 (List.replicate (p.length+q.length) 0) (by omega) (by simp) (Byt_rep _) (fun t _=>hz t) (by
    rw [qV_rep]
    show 0=0*_
    omega)
  refine ⟨r,?_,h1,h2,by rw [h1]; exact h3⟩
  rw [q6_Product,bnd_eq,e1,chk_t (by unfold mkB; simp; omega),jn_eq,Int.toNat_natCast,hn]
  exact e
theorem halves_loop (i:Nat) (k:Int→Option Int) (m:Nat) : ∀ (n t:Nat) (d:Int),t+m=i%8→(0≤d∧d<256)→q6_bit_l1 (i:Int) k (n+1+m) d (t:Int)=k (d / ((2^m:Nat):Int)):=by
  induction m with
  | zero =>
    intro n t d ht hd
    rw [Nat.add_zero,q6_bit_l1,q6_bit_b1,bnd_eq,mod8_eq,br_ff (decide_eq_false (by omega))]
    show k d=k (d / 1)
    rw [Int.ediv_one]
  | succ m ih =>
    intro n t d ht hd
    have e1:=i64_succ (i:=t) (by omega)
    have w1:IntKind.wrap .i64 (Int.tdiv d 2)=d / 2:=by rw [Int.tdiv_eq_ediv_of_nonneg hd.1,wi64_small (by omega) (by omega)]
    rw [← Nat.add_assoc,q6_bit_l1,q6_bit_b1,bnd_eq,mod8_eq,br_tt (decide_eq_true (by omega))]
    simp only [bnd_eq,e1,w1]
    rw [ih n (t+1) (d / 2) (by omega) (by omega),Nat.pow_succ,Int.natCast_mul,Int.mul_comm,← Int.ediv_ediv_of_nonneg (by decide)]
    rfl
theorem bit6 {p:List Int} (hp:Byt p) {i:Nat} (hi:i<1000000):q6_bit p (i:Int)=some (p.getD (i / 8) 0 / ((2^(i%8):Nat):Int)%2):=by
  have hb:=hp (i / 8)
  obtain ⟨n,hn⟩ : ∃ n',big=n'+1+i%8:=⟨18446744073709551615-i%8,by have:big=18446744073709551616:=big_eq; omega⟩
  have e1:IntKind.wrap .i64 (Int.tdiv (i:Int) 8)=((i / 8:Nat):Int):=by
    rw [Int.tdiv_eq_ediv_of_nonneg (by omega),wi64_small (by omega) (by omega)]; omega
  have hpp:(0:Int)<((2^(i%8):Nat):Int):=by have:=Nat.pow_pos (n:=i%8) (show 0<2 by decide); omega
  have hq0:=Int.ediv_nonneg hb.1 (Int.le_of_lt hpp)
  rw [q6_bit,bnd_eq,e1,opt_some (at_eq _ _),jn_eq,hn]
  refine (halves_loop i _ (i%8) n 0 _ (by omega) hb).trans ?_
  rw [bnd_eq,Int.tmod_eq_emod_of_nonneg hq0]
theorem dbl_loop {b:Int} (hb:b=0∨b=1) {l0:List Int} (k:List Int→Option (List Int)) (m:Nat) : ∀ (n i:Nat) (l:List Int) (c:Int),i+m=33→l.length=33→Byt l→(c=0∨c=1)→(∀ j,i≤j→l.getD j 0=l0.getD j 0)→qV l i+c*(256:Int)^i=2*qV l0 i+b →
    ∃ r c',q6_Mod_l2 k (n+1+m) l c (i:Int)=k r∧r.length=33∧Byt r∧(c'=0∨c'=1)∧qV r 33+c'*(256:Int)^33=2*qV l0 33+b:=by
  induction m with
  | zero =>
    intro n i l c hi hl hbl hc hj hv
    have e:i=33:=by omega
    subst e
    refine ⟨l,c,?_,hl,hbl,hc,hv⟩
    rw [Nat.add_zero,q6_Mod_l2,q6_Mod_b2,br_ff (by decide)]
  | succ m ih =>
    intro n i l c hi hl hbl hc hj hv
    have e1:=i64_succ (i:=i) (by omega)
    have x:=hbl i
    have w1:IntKind.wrap .i64 (2*l.getD i 0)=2*l.getD i 0:=wi64_small (by omega) (by omega)
    have w2:IntKind.wrap .i64 (2*l.getD i 0+c)=2*l.getD i 0+c:=wi64_small (by omega) (by omega)
    have w3:Int.tmod (2*l.getD i 0+c) 256=(2*l.getD i 0+c)%256:=Int.tmod_eq_emod_of_nonneg (by omega)
    have w4:IntKind.wrap .i64 (Int.tdiv (2*l.getD i 0+c) 256)=(2*l.getD i 0+c) / 256:=by
      rw [Int.tdiv_eq_ediv_of_nonneg (by omega),wi64_small (by omega) (by omega)]
    obtain ⟨r,c',er,h1,h2,h3,h4⟩:=ih n (i+1) (setG 0 l i ((2*l.getD i 0+c)%256)) ((2*l.getD i 0+c) / 256) (by omega) (by rw [setG_len (by omega),hl]) (Byt_setG hbl (by omega)) (by omega)
      (by intro j hji; rw [getD_setG,if_neg (by omega)]; exact hj j (by omega)) (by
      rw [qV_succ (setG 0 l i _),qV_set_ge _ _ _ _ (Nat.le_refl _),getD_setG,if_pos rfl,qV_succ l0,Int.pow_succ,← hj i (Nat.le_refl _)]
      have hd:=Int.mul_ediv_add_emod (2*l.getD i 0+c) 256
      generalize (2*l.getD i 0+c) / 256=d at *
      generalize (2*l.getD i 0+c)%256=q at *
      generalize l.getD i 0=xa at *
      generalize (256:Int)^i=w at *
      generalize qV l i=v1 at *
      generalize qV l0 i=v2 at *
      clear ih w1 w2 w3 w4 e1 hj hi hc hb hbl
      grind -lia -linarith (splits:=0))
    refine ⟨r,c',?_,h1,h2,h3,h4⟩
    rw [← Nat.add_assoc,q6_Mod_l2,q6_Mod_b2,br_tt (decide_eq_true (by omega))]
    simp only [bnd_eq,e1,Int.toNat_natCast,w1,w2,w3,w4]
    rw [chk_t (inB_t (by omega) (by omega)),chk_t (inB_t (by omega) (by omega))]
    exact er
theorem dbl_all {b:Int} (hb:b=0∨b=1) {l:List Int} (hl:l.length=33) (hbl:Byt l) (hs:qV l 33<VL) (k:List Int→Option (List Int)) : ∃ r,q6_Mod_l2 k big l b 0=k r∧r.length=33∧Byt r∧qV r 33=2*qV l 33+b:=by
  obtain ⟨n,hn⟩ : ∃ n,big=n+1+33:=⟨18446744073709551582,big_eq⟩
  obtain ⟨r,c',er,h1,h2,h3,h4⟩:=dbl_loop hb (l0:=l) k 33 n 0 l b (by omega) hl hbl hb (fun _ _=>rfl) (by show 0+b*1=2*0+b; omega)
  have rr:=qV_rng h2 33
  have e33:(256:Int)^33=29642774844752946028434172162224104410437116074403984394101141506025761187823616:=by decide
  refine ⟨r,by rw [hn]; exact er,h1,h2,?_⟩
  rw [e33] at h4 rr
  unfold VL at hs
  rcases h3 with h | h <;> subst h <;> omega
theorem mod_loop {p:List Int} (hp:Byt p) (hl:p.length<10000) {V:Nat} (hV : ∀ j,j<p.length→p.getD j 0=((V / 2^(8*j)%2^8:Nat):Int)) (k:List Int→Option (List Int)) : ∀ (m n:Nat) (l:List Int),m≤8*p.length→l.length=33→Byt l→qV l 33=((V / 2^m%VLn:Nat):Int) →
    ∃ r,q6_Mod_l1 p rorder k (n+1+m) l ((m:Int)-1)=k r∧r.length=33∧Byt r∧qV r 33=((V%VLn:Nat):Int)
  | 0,n,l,hm,h1,h2,h3=>by
    refine ⟨l,?_,h1,h2,?_⟩
    · rw [Nat.add_zero,q6_Mod_l1,q6_Mod_b1,br_ff (by decide)]
    · rw [h3,Nat.pow_zero,Nat.div_one]
  | m+1,n,l,hm,h1,h2,h3=>by
    have e0:((m+1:Nat):Int)-1=(m:Int):=by omega
    have e1:IntKind.wrap .i64 ((m:Int)-1)=(m:Int)-1:=wi64_small (by omega) (by omega)
    have hbit:=src_bit (w:=8) (N:=V) (l:=p) (L:=p.length) (i:=m) (by decide) hV (by omega)
    have hlt:qV l 33<VL:=by
      rw [h3,VL_nat]
      have:=Nat.mod_lt (V / 2^(m+1)) (show 0<VLn by decide)
      omega
    have hV2:V / 2^m=2*(V / 2^(m+1))+V / 2^m%2:=by
      have e:V / 2^(m+1)=V / 2^m / 2:=by rw [Nat.pow_succ,Nat.div_div_eq_div_mul]
      rw [e]; omega
    rw [e0,← Nat.add_assoc,q6_Mod_l1,q6_Mod_b1,br_tt (decide_eq_true (by omega)),jn_eq,opt_some (bit6 hp (by omega)),jn_eq,hbit]
    have hb01:((V / 2^m%2:Nat):Int)=0∨((V / 2^m%2:Nat):Int)=1:=by omega
    obtain ⟨r,er,r1,r2,r3⟩:=dbl_all hb01 h1 h2 hlt (fun (l1750:List (Int))=>opt (q6_Less l1750 rorder) fun y1817 =>
 br ((!y1817)) (
 opt (q6_minus l1750 rorder) fun y1820 =>
 (fun (l1679:List (Int))=>bnd (IntKind.wrap .i64 ((m:Int)-1)) fun z1827 =>
 q6_Mod_l1 p rorder k (n+1+m) l1679 z1827) y1820
 ) (
 (fun (l1679:List (Int))=>bnd (IntKind.wrap .i64 ((m:Int)-1)) fun z1827 =>
 q6_Mod_l1 p rorder k (n+1+m) l1679 z1827) l1750
 ))
    refine (?_ : ∃ q,_∧_)
    have hless:=less6 r2 rorder_byt (by omega) (by decide)
    have e33:max r.length rorder.length=33:=by rw [r1]; rfl
    rw [e33,rorder_val33] at hless
    rw [h3] at r3
    by_cases hc:qV r 33<VL
    · have hv:qV r 33=((V / 2^m%VLn:Nat):Int):=by
        rw [VL_nat,r3] at hc
        rw [r3,hV2]
        generalize V / 2^m%2=bb at *
        generalize V / 2^(m+1)=x at *
        unfold VLn at *
        omega
      obtain ⟨q,eq,q1,q2,q3⟩:=mod_loop hp hl hV k m n r (by omega) r1 r2 hv
      refine ⟨q,?_,q1,q2,q3⟩
      refine er.trans ?_
      dsimp only
      rw [opt_some hless,decide_eq_true hc,br_ff (c := !true) rfl,bnd_eq,e1]
      exact eq
    · obtain ⟨s,es,s1,s2,s3⟩:=minus6 r2 rorder_byt (by omega) (by rw [r1,rorder_val33]; omega)
      rw [r1,rorder_val33] at s3
      have hv:qV s 33=((V / 2^m%VLn:Nat):Int):=by
        rw [VL_nat,r3] at hc
        rw [VL_nat] at s3
        rw [s3,r3,hV2]
        generalize V / 2^m%2=bb at *
        generalize V / 2^(m+1)=x at *
        unfold VLn at *
        omega
      obtain ⟨q,eq,q1,q2,q3⟩:=mod_loop hp hl hV k m n s (by omega) (by rw [s1,r1]) s2 hv
      refine ⟨q,?_,q1,q2,q3⟩
      refine er.trans ?_
      dsimp only
      rw [opt_some hless,decide_eq_false hc,br_tt (c := !false) rfl,opt_some es,bnd_eq,e1]
      exact eq
theorem qV_dig {p:List Int} (hp:Byt p) : ∀ (n j:Nat),j<n→p.getD j 0=(((qV p n).toNat / 2^(8*j)%2^8:Nat):Int)
  | 0,j,h=>by omega
  | n+1,j,h=>by
    have hr:=qV_rng hp n
    have hb:=hp n
    obtain ⟨v,hv⟩:=Int.eq_ofNat_of_zero_le hr.1
    obtain ⟨x,hx⟩:=Int.eq_ofNat_of_zero_le hb.1
    have hpw:(256:Int)^n=((256^n:Nat):Int):=by rw [Int.natCast_pow]; rfl
    have hvlt:v<256^n:=by
      have:=hr.2
      rw [hv,hpw] at this
      exact Int.ofNat_lt.1 this
    have hxlt:x<256:=by
      have:=hb.2
      rw [hx] at this
      exact Int.ofNat_lt.1 this
    have e:(qV p (n+1)).toNat=v+x*256^n:=by
      rw [qV_succ,hv,hx,hpw,← Int.natCast_mul,← Int.natCast_add,Int.toNat_natCast]
    rw [e,pow8]
    by_cases hj:j=n
    · subst hj
      rw [Nat.add_mul_div_right _ _ (Nat.pow_pos (by decide)),Nat.div_eq_of_lt hvlt,Nat.zero_add,hx]
      show (x:Int)=((x%256:Nat):Int)
      rw [Nat.mod_eq_of_lt hxlt]
    · have ih:=qV_dig hp n j (by omega)
      rw [hv,Int.toNat_natCast,pow8] at ih
      have hs:n=j+1+(n-j-1):=by omega
      have e2:x*256^n=x*256^(n-j-1)*256*256^j:=by
        conv=>lhs; rw [hs,Nat.pow_add,Nat.pow_succ]
        ac_rfl
      rw [e2,Nat.add_mul_div_right _ _ (Nat.pow_pos (by decide))]
      rw [ih]
      show ((v / 256^j%256:Nat):Int)=(((v / 256^j+x*256^(n-j-1)*256)%256:Nat):Int)
      rw [Nat.add_mul_mod_self_right]
theorem mod6 {p:List Int} (hp:Byt p) (hl:p.length<10000) : ∃ r,q6_Mod p=some r∧r.length=33∧Byt r∧qV r 33=qV p p.length%VL:=by
  obtain ⟨n,hn⟩ : ∃ n',big=n'+1+8*p.length:=⟨18446744073709551615-8*p.length,by have:big=18446744073709551616:=big_eq; omega⟩
  have hr:=qV_rng hp p.length
  obtain ⟨v,hv⟩:=Int.eq_ofNat_of_zero_le hr.1
  have hpw:(256:Int)^p.length=((256^p.length:Nat):Int):=by rw [Int.natCast_pow]; rfl
  have hvlt:v<2^(8*p.length):=by
    have:=hr.2
    rw [hv,hpw] at this
    rw [pow8]
    exact Int.ofNat_lt.1 this
  have hd:=qV_dig hp p.length
  rw [hv,Int.toNat_natCast] at hd
  obtain ⟨r,er,r1,r2,r3⟩:=mod_loop hp hl hd some (8*p.length) n (List.replicate 33 0) (Nat.le_refl _) (by simp) (Byt_rep _) (by
    rw [qV_rep,Nat.div_eq_of_lt hvlt]; rfl)
  refine ⟨r,?_,r1,r2,?_⟩
  · have e1:IntKind.wrap .i64 (8*(p.length:Int))=((8*p.length:Nat):Int):=by rw [wi64_small (by omega) (by omega)]; omega
    have e2:IntKind.wrap .i64 (((8*p.length:Nat):Int)-1)=((8*p.length:Nat):Int)-1:=wi64_small (by omega) (by omega)
    rw [q6_Mod,opt_some rorder_eq,chk_t (by decide),bnd_eq,bnd_eq,jn_eq,e1,e2,hn]
    exact er
  · rw [r3,hv,VL_nat]; rfl
theorem tell_loop {p:List Int} (hp:Byt p) (k:List Int→Option (List Int)) (m:Nat) : ∀ (n i:Nat) (a:List Int),i+m=32→a.length=32→(∀ j,a.getD j 0=if j<i then p.getD j 0 else 0) →
    ∃ r,q6_Tell_l1 p k (n+1+m) (i:Int) a=k r∧r.length=32∧(∀ j,r.getD j 0=if j<32 then p.getD j 0 else 0):=by
  induction m with
  | zero =>
    intro n i a hi hl h
    have e:i=32:=by omega
    subst e
    refine ⟨a,?_,hl,h⟩
    rw [Nat.add_zero,q6_Tell_l1,q6_Tell_b1,br_ff (by decide)]
  | succ m ih =>
    intro n i a hi hl h
    have e1:=i64_succ (i:=i) (by omega)
    have x:=hp i
    have w1:IntKind.wrap .u8 (p.getD i 0)=p.getD i 0:=by rw [wu8_eq]; omega
    rw [← Nat.add_assoc,q6_Tell_l1,q6_Tell_b1,br_tt (decide_eq_true (by omega)),opt_some (at_eq _ _)]
    simp only [bnd_eq,e1,w1,Int.toNat_natCast]
    rw [chk_t (inB_t (by omega) (by omega))]
    refine ih n (i+1) _ (by omega) (by rw [setD_len (by omega),hl]) ?_
    intro j
    rw [getD_setD,h j]
    by_cases hj:j=i
    · subst hj; rw [if_pos rfl,if_pos (by omega)]
    · rw [if_neg hj]
      by_cases h2:j<i
      · rw [if_pos h2,if_pos (by omega)]
      · rw [if_neg h2,if_neg (by omega)]
theorem qV_sval (p:List Int):qV p 32=sval p:=by
  simp only [qV]
  have e0:(256:Int)^0=1:=by decide
  have e1:(256:Int)^1=256:=by decide
  have e2:(256:Int)^2=65536:=by decide
  have e3:(256:Int)^3=16777216:=by decide
  have e4:(256:Int)^4=4294967296:=by decide
  have e5:(256:Int)^5=1099511627776:=by decide
  have e6:(256:Int)^6=281474976710656:=by decide
  have e7:(256:Int)^7=72057594037927936:=by decide
  have e8:(256:Int)^8=18446744073709551616:=by decide
  have e9:(256:Int)^9=4722366482869645213696:=by decide
  have e10:(256:Int)^10=1208925819614629174706176:=by decide
  have e11:(256:Int)^11=309485009821345068724781056:=by decide
  have e12:(256:Int)^12=79228162514264337593543950336:=by decide
  have e13:(256:Int)^13=20282409603651670423947251286016:=by decide
  have e14:(256:Int)^14=5192296858534827628530496329220096:=by decide
  have e15:(256:Int)^15=1329227995784915872903807060280344576:=by decide
  have e16:(256:Int)^16=340282366920938463463374607431768211456:=by decide
  have e17:(256:Int)^17=87112285931760246646623899502532662132736:=by decide
  have e18:(256:Int)^18=22300745198530623141535718272648361505980416:=by decide
  have e19:(256:Int)^19=5708990770823839524233143877797980545530986496:=by decide
  have e20:(256:Int)^20=1461501637330902918203684832716283019655932542976:=by decide
  have e21:(256:Int)^21=374144419156711147060143317175368453031918731001856:=by decide
  have e22:(256:Int)^22=95780971304118053647396689196894323976171195136475136:=by decide
  have e23:(256:Int)^23=24519928653854221733733552434404946937899825954937634816:=by decide
  have e24:(256:Int)^24=6277101735386680763835789423207666416102355444464034512896:=by decide
  have e25:(256:Int)^25=1606938044258990275541962092341162602522202993782792835301376:=by decide
  have e26:(256:Int)^26=411376139330301510538742295639337626245683966408394965837152256:=by decide
  have e27:(256:Int)^27=105312291668557186697918027683670432318895095400549111254310977536:=by decide
  have e28:(256:Int)^28=26959946667150639794667015087019630673637144422540572481103610249216:=by decide
  have e29:(256:Int)^29=6901746346790563787434755862277025452451108972170386555162524223799296:=by decide
  have e30:(256:Int)^30=1766847064778384329583297500742918515827483896875618958121606201292619776:=by decide
  have e31:(256:Int)^31=452312848583266388373324160190187140051835877600158453279131187530910662656:=by decide
  rw [e0,e1,e2,e3,e4,e5,e6,e7,e8,e9,e10,e11,e12,e13,e14,e15,e16,e17,e18,e19,e20,e21,e22,e23,e24,e25,e26,e27,e28,e29,e30,e31]
  unfold sval
  omega
theorem qV_wval (p:List Int):qV p 64=wval p:=by
  simp only [qV]
  have e0:(256:Int)^0=1:=by decide
  have e1:(256:Int)^1=256:=by decide
  have e2:(256:Int)^2=65536:=by decide
  have e3:(256:Int)^3=16777216:=by decide
  have e4:(256:Int)^4=4294967296:=by decide
  have e5:(256:Int)^5=1099511627776:=by decide
  have e6:(256:Int)^6=281474976710656:=by decide
  have e7:(256:Int)^7=72057594037927936:=by decide
  have e8:(256:Int)^8=18446744073709551616:=by decide
  have e9:(256:Int)^9=4722366482869645213696:=by decide
  have e10:(256:Int)^10=1208925819614629174706176:=by decide
  have e11:(256:Int)^11=309485009821345068724781056:=by decide
  have e12:(256:Int)^12=79228162514264337593543950336:=by decide
  have e13:(256:Int)^13=20282409603651670423947251286016:=by decide
  have e14:(256:Int)^14=5192296858534827628530496329220096:=by decide
  have e15:(256:Int)^15=1329227995784915872903807060280344576:=by decide
  have e16:(256:Int)^16=340282366920938463463374607431768211456:=by decide
  have e17:(256:Int)^17=87112285931760246646623899502532662132736:=by decide
  have e18:(256:Int)^18=22300745198530623141535718272648361505980416:=by decide
  have e19:(256:Int)^19=5708990770823839524233143877797980545530986496:=by decide
  have e20:(256:Int)^20=1461501637330902918203684832716283019655932542976:=by decide
  have e21:(256:Int)^21=374144419156711147060143317175368453031918731001856:=by decide
  have e22:(256:Int)^22=95780971304118053647396689196894323976171195136475136:=by decide
  have e23:(256:Int)^23=24519928653854221733733552434404946937899825954937634816:=by decide
  have e24:(256:Int)^24=6277101735386680763835789423207666416102355444464034512896:=by decide
  have e25:(256:Int)^25=1606938044258990275541962092341162602522202993782792835301376:=by decide
  have e26:(256:Int)^26=411376139330301510538742295639337626245683966408394965837152256:=by decide
  have e27:(256:Int)^27=105312291668557186697918027683670432318895095400549111254310977536:=by decide
  have e28:(256:Int)^28=26959946667150639794667015087019630673637144422540572481103610249216:=by decide
  have e29:(256:Int)^29=6901746346790563787434755862277025452451108972170386555162524223799296:=by decide
  have e30:(256:Int)^30=1766847064778384329583297500742918515827483896875618958121606201292619776:=by decide
  have e31:(256:Int)^31=452312848583266388373324160190187140051835877600158453279131187530910662656:=by decide
  have e32:(256:Int)^32=115792089237316195423570985008687907853269984665640564039457584007913129639936:=by decide
  have e33:(256:Int)^33=29642774844752946028434172162224104410437116074403984394101141506025761187823616:=by decide
  have e34:(256:Int)^34=7588550360256754183279148073529370729071901715047420004889892225542594864082845696:=by decide
  have e35:(256:Int)^35=1942668892225729070919461906823518906642406839052139521251812409738904285205208498176:=by decide
  have e36:(256:Int)^36=497323236409786642155382248146820840100456150797347717440463976893159497012533375533056:=by decide
  have e37:(256:Int)^37=127314748520905380391777855525586135065716774604121015664758778084648831235208544136462336:=by decide
  have e38:(256:Int)^38=32592575621351777380295131014550050576823494298654980010178247189670100796213387298934358016:=by decide
  have e39:(256:Int)^39=8343699359066055009355553539724812947666814540455674882605631280555545803830627148527195652096:=by decide
  have e40:(256:Int)^40=2135987035920910082395021706169552114602704522356652769947041607822219725780640550022962086936576:=by decide
  have e41:(256:Int)^41=546812681195752981093125556779405341338292357723303109106442651602488249799843980805878294255763456:=by decide
  have e42:(256:Int)^42=139984046386112763159840142535527767382602843577165595931249318810236991948760059086304843329475444736:=by decide
  have e43:(256:Int)^43=35835915874844867368919076489095108449946327955754392558399825615420669938882575126094039892345713852416:=by decide
  have e44:(256:Int)^44=9173994463960286046443283581208347763186259956673124494950355357547691504353939232280074212440502746218496:=by decide
  have e45:(256:Int)^45=2348542582773833227889480596789337027375682548908319870707290971532209025114608443463698998384768703031934976:=by decide
  have e46:(256:Int)^46=601226901190101306339707032778070279008174732520529886901066488712245510429339761526706943586500787976175353856:=by decide
  have e47:(256:Int)^47=153914086704665934422965000391185991426092731525255651046673021110334850669910978950836977558144201721900890587136:=by decide
  have e48:(256:Int)^48=39402006196394479212279040100143613805079739270465446667948293404245721771497210611414266254884915640806627990306816:=by decide
  have e49:(256:Int)^49=10086913586276986678343434265636765134100413253239154346994763111486904773503285916522052161250538404046496765518544896:=by decide
  have e50:(256:Int)^50=2582249878086908589655919172003011874329705792829223512830659356540647622016841194629645353280137831435903171972747493376:=by decide
  have e51:(256:Int)^51=661055968790248598951915308032771039828404682964281219284648795274405791236311345825189210439715284847591212025023358304256:=by decide
  have e52:(256:Int)^52=169230328010303641331690318856389386196071598838855992136870091590247882556495704531248437872567112920983350278405979725889536:=by decide
  have e53:(256:Int)^53=43322963970637732180912721627235682866194329302747133987038743447103457934462900359999600095377180907771737671271930809827721216:=by decide
  have e54:(256:Int)^54=11090678776483259438313656736572334813745748301503266300681918322458485231222502492159897624416558312389564843845614287315896631296:=by decide
  have e55:(256:Int)^55=2839213766779714416208296124562517712318911565184836172974571090549372219192960637992933791850638927971728600024477257552869537611776:=by decide
  have e56:(256:Int)^56=726838724295606890549323807888004534353641360687318060281490199180639288113397923326191050713763565560762521606266177933534601628614656:=by decide
  have e57:(256:Int)^57=186070713419675363980626894819329160794532188335953423432061490990243657757029868371504908982723472783555205531204141550984858016925351936:=by decide
  have e58:(256:Int)^58=47634102635436893179040485073748265163400240214004076398607741693502376385799646303105256699577209032590132615988260237052123652332890095616:=by decide
  have e59:(256:Int)^59=12194330274671844653834364178879555881830461494785043558043581873536608354764709453594945715091765512343073949692994620685343654997219864477696:=by decide
  have e60:(256:Int)^60=3121748550315992231381597229793166305748598142664971150859156959625371738819765620120306103063491971159826931121406622895447975679288285306290176:=by decide
  have e61:(256:Int)^61=799167628880894011233688890827050574271641124522232614619944181664095165137859998750798362384253944616915694367080095461234681773897801038410285056:=by decide
  have e62:(256:Int)^62=204586912993508866875824356051724947013540127877691549342705710506008362275292159680204380770369009821930417757972504438076078534117837065833032974336:=by decide
  have e63:(256:Int)^63=52374249726338269920211035149241586435466272736689036631732661889538140742474792878132321477214466514414186946040961136147476104734166288853256441430016:=by decide
  rw [e0,e1,e2,e3,e4,e5,e6,e7,e8,e9,e10,e11,e12,e13,e14,e15,e16,e17,e18,e19,e20,e21,e22,e23,e24,e25,e26,e27,e28,e29,e30,e31,e32,e33,e34,e35,e36,e37,e38,e39,e40,e41,e42,e43,e44,e45,e46,e47,e48,e49,e50,e51,e52,e53,e54,e55,e56,e57,e58,e59,e60,e61,e62,e63]
  unfold wval
  omega
theorem tell6 {p:List Int} (hp:Byt p) (hl:p.length=33) (hs:qV p 33<VL):q6_Tell p=some (byt (qV p 33)):=by
  obtain ⟨n,hn⟩ : ∃ n,big=n+1+32:=⟨18446744073709551583,big_eq⟩
  obtain ⟨r,er,r1,r2⟩:=tell_loop hp some 32 n 0 (List.replicate 32 0) (by omega) (by simp) (by
    intro j
    rw [if_neg (by omega)]
    simp only [List.getD]
    cases hi:(List.replicate 32 (0:Int))[j]? with
    | none=>rfl
    | some v=>simpa using (List.mem_replicate.1 (List.mem_of_getElem? hi)).2)
  rw [q6_Tell,jn_eq,hn]
  refine er.trans ?_
  congr 1
  have br:Byt r:=by
    intro j; rw [r2]; split
    · exact hp j
    · decide
  have hr:=qV_rng hp 32
  have h33:qV p 33=qV p 32+p.getD 32 0*(256:Int)^32:=qV_succ p 32
  have e32:(256:Int)^32=115792089237316195423570985008687907853269984665640564039457584007913129639936:=by decide
  have hb:=hp 32
  rw [e32] at h33 hr
  have h0:qV p 33=qV p 32:=by
    unfold VL at hs
    omega
  have hv:sval r=qV p 33:=by
    rw [h0,← qV_sval]
    exact qV_congr 32 (fun i hi=>by rw [r2,if_pos hi])
  rw [← hv,byt_sval br r1]
theorem rReduce {p:List Int} (hp:Byt p) (l:p.length=64):q6_Reduce p=some (byt (wval p%VL)):=by
  have e:tk p 0 64=p:=tk_all l
  obtain ⟨r,er,r1,r2,r3⟩:=mod6 hp (by omega)
  have h:=VL_rng (qV p p.length)
  rw [q6_Reduce,e,opt_some (of_eq hp (by omega)),opt_some er,opt_some (tell6 r2 r1 (by rw [r3]; exact h.2)),r3,l,qV_wval]
theorem rMulAdd {p q r:List Int} (hp:Byt p) (hq:Byt q) (hr:Byt r) (lp:p.length=32) (lq:q.length=32) (lr:r.length=32):q6_MulAdd p q r=some (byt ((sval p*sval q+sval r)%VL)):=by
  have e1:tk p 0 32=p:=tk_all lp
  have e2:tk q 0 32=q:=tk_all lq
  have e3:tk r 0 32=r:=tk_all lr
  obtain ⟨a,ea,a1,a2,a3⟩:=product6 hp hq (by omega)
  obtain ⟨b,eb,b1,b2,b3⟩:=sum6 a2 hr (by omega) (by omega)
  obtain ⟨c,ec,c1,c2,c3⟩:=mod6 b2 (by omega)
  have h:=VL_rng (qV b b.length)
  rw [q6_MulAdd,e1,e2,e3,opt_some (of_eq hp (by omega)),opt_some (of_eq hq (by omega)),opt_some ea,opt_some (of_eq hr (by omega)),opt_some eb,opt_some ec,opt_some (tell6 c2 c1 (by rw [c3]; exact h.2)),c3,b3]
  have m1:max a.length r.length=64:=by rw [a1,lp,lq,lr]; rfl
  have v1:qV a 64=sval p*sval q:=by
    rw [a1,lp,lq] at a3
    have:qV a 64=qV p 32*qV q 32:=a3
    rw [this,qV_sval,qV_sval]
  have v2:qV r 64=sval r:=by rw [qV_end (l:=r) (m:=32) (by omega) 64 (by omega),qV_sval]
  rw [m1,v1,v2]
def beV (l:List Int) (o:Nat):Int:=(((((((l.getD o 0*256+l.getD (o+1) 0)*256+l.getD (o+2) 0)*256+l.getD (o+3) 0)*256+l.getD (o+4) 0)*256+l.getD (o+5) 0)*256+l.getD (o+6) 0)*256+l.getD (o+7) 0)
theorem be_or {x b:Int} (hx:0≤x∧x<72057594037927936) (hb:0≤b∧b<256):bitsV .or .u64 (shlV .u64 x 8) b=x*256+b:=by
  have h:=shl_eq .u64 (x:=x) (n:=8) (by decide)
  have e:((2^8:Nat):Int)=256:=by decide
  rw [e,wu64_small (by omega) (by omega)] at h
  have h2:shlV .u64 x 8=x*256:=h
  rw [h2]
  exact or_add 8 (a:=x) rfl hx.1 hb.1 hb.2 (by omega)
theorem load_loop (y:Bool×List Int) (hy:y.2.length=8) (hb:Byt y.2):bits_LoadBE_uint64_l1 y (fun i49=>some (i49,(!y.1))) big 0 0=some (beV y.2 0,!y.1):=by
  obtain ⟨n,hn⟩ : ∃ n,big=n+1+1+1+1+1+1+1+1+1:=⟨18446744073709551607,big_eq⟩
  have step : ∀ (n i:Nat) (x:Int),i<8→(0≤x∧x<72057594037927936)→bits_LoadBE_uint64_l1 y (fun i49=>some (i49,(!y.1))) (n+1) x (i:Int)=bits_LoadBE_uint64_l1 y (fun i49=>some (i49,(!y.1))) n (x*256+y.2.getD i 0) ((i+1:Nat):Int):=by
    intro n i x hi hx
    have b:=hb i
    have e1:=i64_succ (i:=i) (by omega)
    rw [bits_LoadBE_uint64_l1,bits_LoadBE_uint64_b1,br_tt (decide_eq_true (by omega)),chk_t (inB_t (by omega) (by omega))]
    simp only [bnd_eq,e1,Int.toNat_natCast]
    rw [wu64_small b.1 (by omega),be_or hx b]
  have b0:=hb 0
  have b1:=hb 1
  have b2:=hb 2
  have b3:=hb 3
  have b4:=hb 4
  have b5:=hb 5
  have b6:=hb 6
  have b7:=hb 7
  rw [hn]
  have s0:=step (n+1+1+1+1+1+1+1+1) 0 0 (by decide) (by decide)
  have s1:=step (n+1+1+1+1+1+1+1) 1 (0*256+y.2.getD 0 0) (by decide) (by omega)
  have s2:=step (n+1+1+1+1+1+1) 2 ((0*256+y.2.getD 0 0)*256+y.2.getD 1 0) (by decide) (by omega)
  have s3:=step (n+1+1+1+1+1) 3 (((0*256+y.2.getD 0 0)*256+y.2.getD 1 0)*256+y.2.getD 2 0) (by decide) (by omega)
  have s4:=step (n+1+1+1+1) 4 ((((0*256+y.2.getD 0 0)*256+y.2.getD 1 0)*256+y.2.getD 2 0)*256+y.2.getD 3 0) (by decide) (by omega)
  have s5:=step (n+1+1+1) 5 (((((0*256+y.2.getD 0 0)*256+y.2.getD 1 0)*256+y.2.getD 2 0)*256+y.2.getD 3 0)*256+y.2.getD 4 0) (by decide) (by omega)
  have s6:=step (n+1+1) 6 ((((((0*256+y.2.getD 0 0)*256+y.2.getD 1 0)*256+y.2.getD 2 0)*256+y.2.getD 3 0)*256+y.2.getD 4 0)*256+y.2.getD 5 0) (by decide) (by omega)
  have s7:=step (n+1) 7 (((((((0*256+y.2.getD 0 0)*256+y.2.getD 1 0)*256+y.2.getD 2 0)*256+y.2.getD 3 0)*256+y.2.getD 4 0)*256+y.2.getD 5 0)*256+y.2.getD 6 0) (by decide) (by omega)
  refine s0.trans (s1.trans (s2.trans (s3.trans (s4.trans (s5.trans (s6.trans (s7.trans ?_)))))))
  rw [bits_LoadBE_uint64_l1,bits_LoadBE_uint64_b1,br_ff (decide_eq_false (by rw [hy]; omega))]
  unfold beV
  simp only [Nat.zero_add]
  congr 2
  omega
theorem word_loop {l:List Int} (hl:l.length=8) (hb:Byt l):q3_word l=some (beV l 0):=by
  obtain ⟨n,hn⟩ : ∃ n,big=n+1+1+1+1+1+1+1+1+1:=⟨18446744073709551607,big_eq⟩
  have step : ∀ (n i:Nat) (x:Int),i<8→(0≤x∧x<72057594037927936)→q3_word_l1 l some (n+1) x (i:Int)=q3_word_l1 l some n (x*256+l.getD i 0) ((i+1:Nat):Int):=by
    intro n i x hi hx
    have b:=hb i
    have e1:=i64_succ (i:=i) (by omega)
    rw [q3_word_l1,q3_word_b1,br_tt (decide_eq_true (by omega))]
    simp only [bnd_eq,e1,Int.toNat_natCast]
    rw [chk_t (inB_t (by omega) (by omega)),wu64_small (x:=x*256) (by omega) (by omega),wu64_small b.1 (by omega),wu64_small (by omega) (by omega)]
  have b0:=hb 0
  have b1:=hb 1
  have b2:=hb 2
  have b3:=hb 3
  have b4:=hb 4
  have b5:=hb 5
  have b6:=hb 6
  have b7:=hb 7
  rw [q3_word,jn_eq,hn]
  have s0:=step (n+1+1+1+1+1+1+1+1) 0 0 (by decide) (by decide)
  have s1:=step (n+1+1+1+1+1+1+1) 1 (0*256+l.getD 0 0) (by decide) (by omega)
  have s2:=step (n+1+1+1+1+1+1) 2 ((0*256+l.getD 0 0)*256+l.getD 1 0) (by decide) (by omega)
  have s3:=step (n+1+1+1+1+1) 3 (((0*256+l.getD 0 0)*256+l.getD 1 0)*256+l.getD 2 0) (by decide) (by omega)
  have s4:=step (n+1+1+1+1) 4 ((((0*256+l.getD 0 0)*256+l.getD 1 0)*256+l.getD 2 0)*256+l.getD 3 0) (by decide) (by omega)
  have s5:=step (n+1+1+1) 5 (((((0*256+l.getD 0 0)*256+l.getD 1 0)*256+l.getD 2 0)*256+l.getD 3 0)*256+l.getD 4 0) (by decide) (by omega)
  have s6:=step (n+1+1) 6 ((((((0*256+l.getD 0 0)*256+l.getD 1 0)*256+l.getD 2 0)*256+l.getD 3 0)*256+l.getD 4 0)*256+l.getD 5 0) (by decide) (by omega)
  have s7:=step (n+1) 7 (((((((0*256+l.getD 0 0)*256+l.getD 1 0)*256+l.getD 2 0)*256+l.getD 3 0)*256+l.getD 4 0)*256+l.getD 5 0)*256+l.getD 6 0) (by decide) (by omega)
  refine s0.trans (s1.trans (s2.trans (s3.trans (s4.trans (s5.trans (s6.trans (s7.trans ?_)))))))
  rw [q3_word_l1,q3_word_b1,br_ff (by decide)]
  unfold beV
  simp only [Nat.zero_add]
  congr 1
  omega
theorem cut8_getD (p:List Int) (o i:Nat) (hi:i<8):((p.drop o).take 8).getD i 0=p.getD (o+i) 0:=by
  simp [List.getD_eq_getElem?_getD,List.getElem?_take,hi,List.getElem?_drop]
theorem cut8_byt {p:List Int} (h:Byt p) (o:Nat):Byt ((p.drop o).take 8):=by
  intro i
  by_cases hi:i<8
  · rw [cut8_getD p o i hi]; exact h _
  · rw [getD_end (by rw [List.length_take]; omega)]; decide
theorem beV_cut (p:List Int) (o:Nat):beV ((p.drop o).take 8) 0=beV p o:=by
  unfold beV
  simp only [cut8_getD _ _ _ (show 0<8 by decide),cut8_getD _ _ (0+1) (by decide),cut8_getD _ _ (0+2) (by decide),cut8_getD _ _ (0+3) (by decide),cut8_getD _ _ (0+4) (by decide),cut8_getD _ _ (0+5) (by decide),cut8_getD _ _ (0+6) (by decide),cut8_getD _ _ (0+7) (by decide),Nat.zero_add,Nat.add_zero]
theorem width_eq:bits_width_uint64=some 64:=by kernel_rfl
theorem loadBE_eq {p:List Int} (h:Byt p) (l:p.length=128) {t:Nat} (ht:t<16):bits_LoadBE_uint64 p ((8*t:Nat):Int)=some (beV p (8*t),true):=by
  have e1:IntKind.wrap .i64 (Int.tdiv 64 8)=8:=by decide
  have e2:IntKind.wrap .i64 ((p.length:Int)-8)=120:=by rw [l]; decide
  have e3:IntKind.wrap .i64 (((8*t:Nat):Int)+8)=((8*t+8:Nat):Int):=by rw [wi64_small (by omega) (by omega)]; omega
  have hlen:((p.drop (8*t)).take (8*t+8-8*t)).length=8:=by rw [List.length_take,List.length_drop,l]; omega
  have hp:bits_piece_uint64 p ((8*t:Nat):Int)=some (false,(p.drop (8*t)).take (8*t+8-8*t)):=by
    rw [bits_piece_uint64,opt_some width_eq]
    simp only [bnd_eq,e1,e2]
    rw [br_ff (by simp; omega)]
    simp only [e3,Int.toNat_natCast]
    rw [chk_t (by simp [cutB]; omega),chk_t (decide_eq_true (by rw [hlen]; decide))]
  have e8:8*t+8-8*t=8:=by omega
  rw [bits_LoadBE_uint64,opt_some hp,jn_eq,e8]
  have:=load_loop (false,(p.drop (8*t)).take 8) (by rw [e8] at hlen; exact hlen) (cut8_byt h _)
  refine this.trans ?_
  rw [beV_cut]; rfl
theorem tk_128 {p:List Int} (l:p.length=128):tk p 0 128=p:=tk_all l
def rot (x:Int) (n m:Int):Int:=bitsV .or .u64 (shrV .u64 x n) (shlV .u64 x m)
def sg0 (x:Int):Int:=bitsV .xor .u64 (bitsV .xor .u64 (rot x 1 63) (rot x 8 56)) (shrV .u64 x 7)
def sg1 (x:Int):Int:=bitsV .xor .u64 (bitsV .xor .u64 (rot x 19 45) (rot x 61 3)) (shrV .u64 x 6)
def bs1 (x:Int):Int:=bitsV .xor .u64 (bitsV .xor .u64 (rot x 14 50) (rot x 18 46)) (rot x 41 23)
def bs0 (x:Int):Int:=bitsV .xor .u64 (bitsV .xor .u64 (rot x 28 36) (rot x 34 30)) (rot x 39 25)
theorem bend1 (x:Int):sha512_bend x 19 61 6=some (sg1 x):=by kernel_rfl
theorem bend0 (x:Int):sha512_bend x 1 8 7=some (sg0 x):=by kernel_rfl
theorem mix1 (x:Int):sha512_mix x 14 18 41=some (bs1 x):=by kernel_rfl
theorem mix0 (x:Int):sha512_mix x 28 34 39=some (bs0 x):=by kernel_rfl
theorem rs0_eq (x:Int):q3_s0 x=some (sg0 x):=by kernel_rfl
theorem rs1_eq (x:Int):q3_s1 x=some (sg1 x):=by kernel_rfl
def nextw (p l:List Int) (n:Nat):Int:=if n<16 then beV p (8*n) else IntKind.wrap .u64 (IntKind.wrap .u64 (IntKind.wrap .u64 (sg1 (l.getD (n-2) 0)+l.getD (n-7) 0)+sg0 (l.getD (n-15) 0))+l.getD (n-16) 0)
def wl (p:List Int):Nat→List Int
  | 0=>[]
  | n+1=>wl p n ++ [nextw p (wl p n) n]
theorem wl_len (p:List Int) : ∀ n,(wl p n).length=n
  | 0=>rfl
  | n+1=>by show (wl p n ++ [_]).length=_; rw [List.length_append,wl_len p n]; rfl
theorem wl_getD (p:List Int) (n j:Nat) (h:j<n):(wl p (n+1)).getD j 0=(wl p n).getD j 0:=by
  show (wl p n ++ [_]).getD j 0=_
  simp [List.getD_eq_getElem?_getD,List.getElem?_append_left (show j<(wl p n).length by rw [wl_len]; exact h)]
theorem wl_last (p:List Int) (n:Nat):(wl p (n+1)).getD n 0=nextw p (wl p n) n:=by
  show (wl p n ++ [_]).getD n 0=_
  have:=wl_len p n
  simp [List.getD_eq_getElem?_getD,this]
theorem i64_minus {i k:Nat} (h:k≤i) (hi:i<1000000):IntKind.wrap .i64 ((i:Int)-(k:Int))=((i-k:Nat):Int):=by rw [wi64_small (by omega) (by omega)]; omega
theorem sched_loop {p:List Int} (h:Byt p) (l:p.length=128) (k:List Int→Option (List Int)) (m:Nat) : ∀ (n i:Nat) (a:List Int),i+m=80→a.length=80→(∀ j,j<i→a.getD j 0=(wl p i).getD j 0) →
    ∃ c,sha512_Schedule_l1 p k (n+1+m) (i:Int) a=k c∧c.length=80∧(∀ j,j<80→c.getD j 0=(wl p 80).getD j 0):=by
  induction m with
  | zero =>
    intro n i a hi hl hj
    have e:i=80:=by omega
    subst e
    refine ⟨a,?_,hl,hj⟩
    rw [Nat.add_zero,sha512_Schedule_l1,sha512_Schedule_b1,br_ff (by decide)]
  | succ m ih =>
    intro n i a hi hl hj
    have e1:=i64_succ (i:=i) (by omega)
    have fin : ∀ z,z=nextw p (wl p i) i→∃ c,sha512_Schedule_l1 p k (n+1+m) ((i+1:Nat):Int) (setD a i z)=k c∧c.length=80∧(∀ j,j<80→c.getD j 0=(wl p 80).getD j 0):=by
      intro z hz
      refine ih n (i+1) (setD a i z) (by omega) (by rw [setD_len (by omega),hl]) ?_
      intro j hji
      rw [getD_setD]
      by_cases hjj:j=i
      · subst hjj; rw [if_pos rfl,wl_last,hz]
      · rw [if_neg hjj,wl_getD p i j (by omega)]; exact hj j (by omega)
    rw [← Nat.add_assoc,sha512_Schedule_l1,sha512_Schedule_b1,br_tt (decide_eq_true (by omega)),jn_eq]
    by_cases h16:i<16
    · have e8:IntKind.wrap .i64 (8*(i:Int))=((8*i:Nat):Int):=by rw [wi64_small (by omega) (by omega)]; omega
      rw [br_tt (decide_eq_true (by omega)),bnd_eq,e8,tk_128 l,opt_some (loadBE_eq h l h16),chk_t (inB_t (by omega) (by omega))]
      simp only [bnd_eq,e1,Int.toNat_natCast]
      exact fin _ (by unfold nextw; rw [if_pos h16])
    · have m2:IntKind.wrap .i64 ((i:Int)-2)=((i-2:Nat):Int):=i64_minus (k:=2) (by omega) (by omega)
      have m7:IntKind.wrap .i64 ((i:Int)-7)=((i-7:Nat):Int):=i64_minus (k:=7) (by omega) (by omega)
      have m15:IntKind.wrap .i64 ((i:Int)-15)=((i-15:Nat):Int):=i64_minus (k:=15) (by omega) (by omega)
      have m16:IntKind.wrap .i64 ((i:Int)-16)=((i-16:Nat):Int):=i64_minus (k:=16) (by omega) (by omega)
      rw [br_ff (decide_eq_false (by omega))]
      simp only [bnd_eq,m2,m7,m15,m16,e1,Int.toNat_natCast]
      rw [chk_t (inB_t (by omega) (by omega)),chk_t (inB_t (by omega) (by omega)),chk_t (inB_t (by omega) (by omega)),chk_t (inB_t (by omega) (by omega)),opt_some (bend1 _),opt_some (bend0 _),chk_t (inB_t (by omega) (by omega))]
      exact fin _ (by
        unfold nextw
        rw [if_neg h16,hj (i-2) (by omega),hj (i-7) (by omega),hj (i-15) (by omega),hj (i-16) (by omega)])
theorem list_ext {a b:List Int} {n:Nat} (ha:a.length=n) (hb:b.length=n) (h : ∀ j,j<n→a.getD j 0=b.getD j 0):a=b:=by
  apply List.ext_getElem
  · rw [ha,hb]
  · intro i h1 h2
    rw [← getD_at h1,← getD_at h2,h i (by omega)]
theorem sched_eq {p:List Int} (h:Byt p) (l:p.length=128):sha512_Schedule p=some (wl p 80):=by
  obtain ⟨n,hn⟩ : ∃ n,big=n+1+80:=⟨18446744073709551535,big_eq⟩
  obtain ⟨c,ec,c1,c2⟩:=sched_loop h l some 80 n 0 (List.replicate 80 0) (by omega) (by simp) (fun j hj=>by omega)
  rw [sha512_Schedule,jn_eq,hn]
  exact ec.trans (congrArg some (list_ext c1 (wl_len p 80) c2))
theorem words1_loop {p:List Int} (h:Byt p) (l:p.length=128) (k:List Int→Option (List Int)) (m:Nat) : ∀ (n i:Nat),i+m=16→q3_words_l1 p k (n+1+m) (wl p i) (i:Int)=k (wl p 16):=by
  induction m with
  | zero =>
    intro n i hi
    have e:i=16:=by omega
    subst e
    rw [Nat.add_zero,q3_words_l1,q3_words_b1,br_ff (by decide)]
  | succ m ih =>
    intro n i hi
    have e1:=i64_succ (i:=i) (by omega)
    have e8:IntKind.wrap .i64 (8*(i:Int))=((8*i:Nat):Int):=by rw [wi64_small (by omega) (by omega)]; omega
    have e9:IntKind.wrap .i64 (((8*i:Nat):Int)+8)=((8*i+8:Nat):Int):=by rw [wi64_small (by omega) (by omega)]; omega
    have e10:8*i+8-8*i=8:=by omega
    have hlen:((p.drop (8*i)).take 8).length=8:=by rw [List.length_take,List.length_drop,l]; omega
    have hw:=wl_len p i
    rw [← Nat.add_assoc,q3_words_l1,q3_words_b1,br_tt (decide_eq_true (by omega))]
    simp only [bnd_eq,e8,e9,e1,Int.toNat_natCast,e10]
    rw [chk_t (by simp [cutB]; omega),opt_some (word_loop hlen (cut8_byt h _)),chk_t (decide_eq_true (by simp only [List.length_singleton]; omega)),beV_cut]
    have e:wl p i ++ [beV p (8*i)]=wl p (i+1):=by
      show _=wl p i ++ [nextw p (wl p i) i]
      unfold nextw
      rw [if_pos (by omega)]
    rw [e]
    exact ih n (i+1) (by omega)
theorem words2_loop {p:List Int} (k:List Int→Option (List Int)) (m:Nat) : ∀ (n i:Nat),i+m=80→16≤i→q3_words_l2 k (n+1+m) (wl p i) (i:Int)=k (wl p 80):=by
  induction m with
  | zero =>
    intro n i hi h16
    have e:i=80:=by omega
    subst e
    rw [Nat.add_zero,q3_words_l2,q3_words_b2,br_ff (by decide)]
  | succ m ih =>
    intro n i hi h16
    have e1:=i64_succ (i:=i) (by omega)
    have hw:=wl_len p i
    have m2:IntKind.wrap .i64 ((i:Int)-2)=((i-2:Nat):Int):=i64_minus (k:=2) (by omega) (by omega)
    have m7:IntKind.wrap .i64 ((i:Int)-7)=((i-7:Nat):Int):=i64_minus (k:=7) (by omega) (by omega)
    have m15:IntKind.wrap .i64 ((i:Int)-15)=((i-15:Nat):Int):=i64_minus (k:=15) (by omega) (by omega)
    have m16:IntKind.wrap .i64 ((i:Int)-16)=((i-16:Nat):Int):=i64_minus (k:=16) (by omega) (by omega)
    rw [← Nat.add_assoc,q3_words_l2,q3_words_b2,br_tt (decide_eq_true (by omega))]
    simp only [bnd_eq,m2,m7,m15,m16,e1,Int.toNat_natCast]
    rw [chk_t (inB_t (by omega) (by omega)),chk_t (inB_t (by omega) (by omega)),chk_t (inB_t (by omega) (by omega)),chk_t (inB_t (by omega) (by omega)),opt_some (rs1_eq _),opt_some (rs0_eq _),chk_t (decide_eq_true (by simp only [List.length_singleton]; omega))]
    have e:wl p i ++ [IntKind.wrap .u64 (IntKind.wrap .u64 (IntKind.wrap .u64 (sg1 ((wl p i).getD (i-2) 0)+(wl p i).getD (i-7) 0)+sg0 ((wl p i).getD (i-15) 0))+(wl p i).getD (i-16) 0)]=wl p (i+1):=by
      show _=wl p i ++ [nextw p (wl p i) i]
      unfold nextw
      rw [if_neg (by omega)]
    rw [e]
    exact ih n (i+1) (by omega) (by omega)
theorem words_all {p:List Int} (k:List Int→Option (List Int)):q3_words_l2 k big (wl p 16) 16=k (wl p 80):=by
  obtain ⟨n,hn⟩ : ∃ n,big=n+1+64:=⟨18446744073709551551,big_eq⟩
  rw [hn]
  exact words2_loop k 64 n 16 (by omega) (by omega)
theorem rwords_eq {p:List Int} (h:Byt p) (l:p.length=128):q3_words p=some (wl p 80):=by
  have key : ∀ k:List Int→Option (List Int),q3_words_l1 p k big [] 0=k (wl p 16):=by
    intro k
    obtain ⟨n,hn⟩ : ∃ n,big=n+1+16:=⟨18446744073709551599,big_eq⟩
    rw [hn]
    exact words1_loop h l k 16 n 0 (by omega)
  rw [q3_words,jn_eq,key,jn_eq,words_all]
def rnd (s:List Int) (k w:Int):List Int :=
  let x:=IntKind.wrap .u64 (IntKind.wrap .u64 (IntKind.wrap .u64 (IntKind.wrap .u64 (s.getD 7 0+bs1 (s.getD 4 0))+bitsV .xor .u64 (bitsV .and .u64 (s.getD 4 0) (s.getD 5 0)) (bitsV .and .u64 (bitsV .xor .u64 18446744073709551615 (s.getD 4 0)) (s.getD 6 0)))+k)+w)
  let y:=IntKind.wrap .u64 (bs0 (s.getD 0 0)+bitsV .xor .u64 (bitsV .xor .u64 (bitsV .and .u64 (s.getD 0 0) (s.getD 1 0)) (bitsV .and .u64 (s.getD 0 0) (s.getD 2 0))) (bitsV .and .u64 (s.getD 1 0) (s.getD 2 0)))
  [IntKind.wrap .u64 (x+y),s.getD 0 0,s.getD 1 0,s.getD 2 0,IntKind.wrap .u64 (s.getD 3 0+x),s.getD 4 0,s.getD 5 0,s.getD 6 0]
def rnds (w s:List Int):Nat→List Int
  | 0=>s
  | n+1=>rnd (rnds w s n) (G_table.getD n 0) (w.getD n 0)
theorem rround_eq (s:List Int) (k w:Int):q3_round s k w=some (rnd s k w):=by kernel_rfl
theorem tables_eq:G_rtable=G_table:=by kernel_rfl
theorem firsts_eq:G_rfirst=G_first:=by kernel_rfl
theorem rsteps {w:List Int} (hw:w.length=80) (s:List Int) (k:List Int→Option (List Int)) (m:Nat) : ∀ (n i:Nat),i+m=80→q3_step_l1 w k (n+1+m) (i:Int) (rnds w s i)=k (rnds w s 80):=by
  induction m with
  | zero =>
    intro n i hi
    have e:i=80:=by omega
    subst e
    rw [Nat.add_zero,q3_step_l1,q3_step_b1,br_ff (by decide)]
  | succ m ih =>
    intro n i hi
    have e1:=i64_succ (i:=i) (by omega)
    rw [← Nat.add_assoc,q3_step_l1,q3_step_b1,br_tt (decide_eq_true (by omega)),chk_t (inB_t (by omega) (by omega)),chk_t (inB_t (by omega) (by omega))]
    simp only [bnd_eq,e1,Int.toNat_natCast]
    rw [opt_some (rround_eq _ _ _),tables_eq]
    exact ih n (i+1) (by omega)
theorem psteps {w:List Int} (s:List Int) (k:Int→Int→Int→Int→Int→Int→Int→Int→Option (List Int)) (m:Nat) : ∀ (n i:Nat),i+m=80 →
    sha512_Block_l1 w k (n+1+m) ((rnds w s i).getD 0 0) ((rnds w s i).getD 1 0) ((rnds w s i).getD 2 0) ((rnds w s i).getD 3 0) ((rnds w s i).getD 4 0) ((rnds w s i).getD 5 0) ((rnds w s i).getD 6 0) ((rnds w s i).getD 7 0) (i:Int) =
    k ((rnds w s 80).getD 0 0) ((rnds w s 80).getD 1 0) ((rnds w s 80).getD 2 0) ((rnds w s 80).getD 3 0) ((rnds w s 80).getD 4 0) ((rnds w s 80).getD 5 0) ((rnds w s 80).getD 6 0) ((rnds w s 80).getD 7 0):=by
  induction m with
  | zero =>
    intro n i hi
    have e:i=80:=by omega
    subst e
    rw [Nat.add_zero,sha512_Block_l1,sha512_Block_b1,br_ff (by decide)]
  | succ m ih =>
    intro n i hi
    have e1:=i64_succ (i:=i) (by omega)
    rw [← Nat.add_assoc,sha512_Block_l1,sha512_Block_b1,br_tt (decide_eq_true (by omega)),chk_t (inB_t (by omega) (by omega))]
    simp only [bnd_eq,e1,Int.toNat_natCast]
    rw [opt_some (mix1 _),chk_t (inB_t (by omega) (by omega)),opt_some (mix0 _)]
    exact ih n (i+1) (by omega)
def blk (s p:List Int):List Int :=
  let v:=rnds (wl p 80) s 80
  [IntKind.wrap .u64 (v.getD 0 0+s.getD 0 0),IntKind.wrap .u64 (v.getD 1 0+s.getD 1 0),IntKind.wrap .u64 (v.getD 2 0+s.getD 2 0),IntKind.wrap .u64 (v.getD 3 0+s.getD 3 0),IntKind.wrap .u64 (v.getD 4 0+s.getD 4 0),IntKind.wrap .u64 (v.getD 5 0+s.getD 5 0),IntKind.wrap .u64 (v.getD 6 0+s.getD 6 0),IntKind.wrap .u64 (v.getD 7 0+s.getD 7 0)]
theorem padd_run (k:List Int→Option (List Int)) (v s0 s1 s2 s3 s4 s5 s6 s7:Int) (a0 a1 a2 a3 a4 a5 a6 a7:Int):sha512_Block_l2 [a0,a1,a2,a3,a4,a5,a6,a7] k big 0 [s0,s1,s2,s3,s4,s5,s6,s7]=k [IntKind.wrap .u64 (s0+a0),IntKind.wrap .u64 (s1+a1),IntKind.wrap .u64 (s2+a2),IntKind.wrap .u64 (s3+a3),IntKind.wrap .u64 (s4+a4),IntKind.wrap .u64 (s5+a5),IntKind.wrap .u64 (s6+a6),IntKind.wrap .u64 (s7+a7)]:=by kernel_rfl
theorem radd8_run (k:List Int→Option (List Int)) (s:List Int) (a0 a1 a2 a3 a4 a5 a6 a7:Int):q3_step_l2 s k big 0 [a0,a1,a2,a3,a4,a5,a6,a7]=k [IntKind.wrap .u64 (a0+s.getD 0 0),IntKind.wrap .u64 (a1+s.getD 1 0),IntKind.wrap .u64 (a2+s.getD 2 0),IntKind.wrap .u64 (a3+s.getD 3 0),IntKind.wrap .u64 (a4+s.getD 4 0),IntKind.wrap .u64 (a5+s.getD 5 0),IntKind.wrap .u64 (a6+s.getD 6 0),IntKind.wrap .u64 (a7+s.getD 7 0)]:=by kernel_rfl
theorem list_eight {l:List Int} (h:l.length=8):l = [l.getD 0 0,l.getD 1 0,l.getD 2 0,l.getD 3 0,l.getD 4 0,l.getD 5 0,l.getD 6 0,l.getD 7 0]:=by
  match l,h with
  | [a0,a1,a2,a3,a4,a5,a6,a7],_=>rfl
theorem rnds_len (w s:List Int) (hs:s.length=8) : ∀ n,(rnds w s n).length=8
  | 0=>hs
  | n+1=>rfl
theorem block_eq {s p:List Int} (hs:s.length=8) (h:Byt p) (l:p.length=128):sha512_Block s p=some (blk s p):=by
  have key : ∀ k,sha512_Block_l1 (wl p 80) k big (s.getD 0 0) (s.getD 1 0) (s.getD 2 0) (s.getD 3 0) (s.getD 4 0) (s.getD 5 0) (s.getD 6 0) (s.getD 7 0) 0=k ((rnds (wl p 80) s 80).getD 0 0) ((rnds (wl p 80) s 80).getD 1 0) ((rnds (wl p 80) s 80).getD 2 0) ((rnds (wl p 80) s 80).getD 3 0) ((rnds (wl p 80) s 80).getD 4 0) ((rnds (wl p 80) s 80).getD 5 0) ((rnds (wl p 80) s 80).getD 6 0) ((rnds (wl p 80) s 80).getD 7 0):=by
    intro k
    obtain ⟨n,hn⟩ : ∃ n,big=n+1+80:=⟨18446744073709551535,big_eq⟩
    rw [hn]
    exact psteps s k 80 n 0 (by omega)
  rw [sha512_Block,opt_some (sched_eq h l)]
  simp only [bnd_eq,jn_eq]
  rw [key]
  unfold blk
  dsimp only
  generalize rnds (wl p 80) s 80=v at *
  have e:=padd_run some 0 (s.getD 0 0) (s.getD 1 0) (s.getD 2 0) (s.getD 3 0) (s.getD 4 0) (s.getD 5 0) (s.getD 6 0) (s.getD 7 0) (v.getD 0 0) (v.getD 1 0) (v.getD 2 0) (v.getD 3 0) (v.getD 4 0) (v.getD 5 0) (v.getD 6 0) (v.getD 7 0)
  rw [← list_eight hs] at e
  refine e.trans ?_
  rw [Int.add_comm (s.getD 0 0),Int.add_comm (s.getD 1 0),Int.add_comm (s.getD 2 0),Int.add_comm (s.getD 3 0),Int.add_comm (s.getD 4 0),Int.add_comm (s.getD 5 0),Int.add_comm (s.getD 6 0),Int.add_comm (s.getD 7 0)]
theorem step_eq {s p:List Int} (hs:s.length=8) (h:Byt p) (l:p.length=128):q3_step s p=some (blk s p):=by
  have key : ∀ k,q3_step_l1 (wl p 80) k big 0 s=k (rnds (wl p 80) s 80):=by
    intro k
    obtain ⟨n,hn⟩ : ∃ n,big=n+1+80:=⟨18446744073709551535,big_eq⟩
    rw [hn]
    exact rsteps (wl_len p 80) s k 80 n 0 (by omega)
  have hv:=rnds_len (wl p 80) s hs 80
  rw [q3_step,opt_some (rwords_eq h l)]
  simp only [jn_eq]
  rw [key]
  unfold blk
  dsimp only
  generalize rnds (wl p 80) s 80=v at *
  have e:=radd8_run some s (v.getD 0 0) (v.getD 1 0) (v.getD 2 0) (v.getD 3 0) (v.getD 4 0) (v.getD 5 0) (v.getD 6 0) (v.getD 7 0)
  rw [← list_eight hv] at e
  exact e
theorem app_getD1 {M x:List Int} {i:Nat} (h:i<M.length):(M++x).getD i 0=M.getD i 0:=by simp [List.getD_eq_getElem?_getD,List.getElem?_append_left h]
theorem app_getD2 {M x:List Int} {i:Nat} (h:M.length≤i):(M++x).getD i 0=x.getD (i-M.length) 0:=by simp [List.getD_eq_getElem?_getD,List.getElem?_append_right h]
theorem Byt_cat {M x:List Int} (h:Byt M) (hx:Byt x):Byt (M++x):=by
  intro i
  by_cases hi:i<M.length
  · rw [app_getD1 hi]; exact h i
  · rw [app_getD2 (by omega)]; exact hx _
theorem take_getD {l:List Int} {q i:Nat} (h:i<q):(l.take q).getD i 0=l.getD i 0:=by simp [List.getD_eq_getElem?_getD,List.getElem?_take,h]
theorem drop_getD {l:List Int} {q i:Nat}:(l.drop q).getD i 0=l.getD (q+i) 0:=by simp [List.getD_eq_getElem?_getD,List.getElem?_drop]
theorem Byt_take {l:List Int} (h:Byt l) (q:Nat):Byt (l.take q):=by
  intro i
  by_cases hi:i<q
  · rw [take_getD hi]; exact h i
  · rw [getD_end (by rw [List.length_take]; omega)]; decide
theorem Byt_drop {l:List Int} (h:Byt l) (q:Nat):Byt (l.drop q):=by
  intro i
  rw [drop_getD]; exact h _
def bk (M:List Int) (n:Nat):List Int:=(M.drop (128*n)).take 128
theorem bk_len {M:List Int} {n:Nat} (h:128*n+128≤M.length):(bk M n).length=128:=by unfold bk; rw [List.length_take,List.length_drop]; omega
theorem bk_getD {M:List Int} {n i:Nat} (hi:i<128):(bk M n).getD i 0=M.getD (128*n+i) 0:=by unfold bk; rw [take_getD hi,drop_getD]
theorem bk_byt {M:List Int} (h:Byt M) (n:Nat):Byt (bk M n):=Byt_take (Byt_drop h _) _
theorem bk_app {M x:List Int} {n:Nat} (h:128*n+128≤M.length):bk (M++x) n=bk M n :=
  list_ext (n:=128) (bk_len (by rw [List.length_append]; omega)) (bk_len h) (fun j hj=>by rw [bk_getD hj,bk_getD hj,app_getD1 (by omega)])
def fbn (M:List Int):Nat→List Int
  | 0=>G_first
  | n+1=>blk (fbn M n) (bk M n)
theorem fbn_len (M:List Int) : ∀ n,(fbn M n).length=8
  | 0=>by show G_first.length=8; decide
  | n+1=>rfl
theorem fbn_app {M x:List Int} : ∀ n,128*n≤M.length→fbn (M++x) n=fbn M n
  | 0,_=>rfl
  | n+1,h=>by
    show blk (fbn (M++x) n) (bk (M++x) n)=blk (fbn M n) (bk M n)
    rw [fbn_app n (by omega),bk_app (by omega)]
structure Dst (M:List Int) (a h:List Int) (c:Int):Prop where
  st:a=fbn M (M.length / 128)
  hv:c=((M.length%128:Nat):Int)
  hl:h.length=128
  hd : ∀ i,i<M.length%128→h.getD i 0=M.getD (128*(M.length / 128)+i) 0
  hb:Byt h
theorem wr_len {xs ys:List Int} {i:Nat} (h:i+ys.length≤xs.length):(wr xs i ys).length=xs.length:=by
  unfold wr
  rw [List.length_append,List.length_append,tk_length,List.length_drop]; omega
theorem wr_byt {xs ys:List Int} {i:Nat} (hx:Byt xs) (hy:Byt ys):Byt (wr xs i ys):=by
  intro j
  rw [wr_getD]
  split
  · exact hy _
  · exact hx _
theorem write_all (z:Int) (m:Nat) : ∀ (l a h:List Int) (c:Int) (M:List Int),l.length≤m→Byt l→Byt M→Dst M a h c→∀ n,∃ r,sha512_Digest_Write_l1 z (n+1+m) l a h c=some r∧r.glength=z∧Dst (M++l) r.gstate r.gheld r.ghave:=by
  induction m with
  | zero =>
    intro l a h c M hl hbl hbM hD n
    have e:l = []:=List.length_eq_zero_iff.1 (by omega)
    subst e
    refine ⟨⟨a,h,c,z⟩,?_,rfl,by rw [List.append_nil]; exact hD⟩
    rw [Nat.add_zero,sha512_Digest_Write_l1,sha512_Digest_Write_b1,br_ff (decide_eq_false (by simp))]
  | succ m ih =>
    intro l a h c M hl hbl hbM hD n
    by_cases he:l.length=0
    · have e:l = []:=List.length_eq_zero_iff.1 he
      subst e
      refine ⟨⟨a,h,c,z⟩,?_,rfl,by rw [List.append_nil]; exact hD⟩
      rw [← Nat.add_assoc,sha512_Digest_Write_l1,sha512_Digest_Write_b1,br_ff (decide_eq_false (by simp))]
    · have hr:=Nat.mod_lt M.length (show 0<128 by decide)
      have hdm:=Nat.div_add_mod M.length 128
      have hc:=hD.hv
      have hcn:c.toNat=M.length%128:=by rw [hc,Int.toNat_natCast]
      obtain ⟨q,hq⟩ : ∃ q,q=Nat.min l.length (128-c.toNat):=⟨_,rfl⟩
      have hq1:0<q∧q≤l.length∧q≤128-M.length%128∧(q=l.length∨q=128-M.length%128):=by
        rw [hq,hcn]
        show 0<min l.length (128-M.length%128)∧min l.length (128-M.length%128)≤l.length∧min l.length (128-M.length%128)≤128-M.length%128∧(min l.length (128-M.length%128)=l.length∨min l.length (128-M.length%128)=128-M.length%128)
        omega
      have htake:l.take (128-c.toNat)=l.take q:=by
        rw [hq]
        rcases Nat.le_total l.length (128-c.toNat) with h1 | h1
        · rw [List.take_of_length_le h1,List.take_of_length_le (by show l.length≤min l.length (128-c.toNat); omega)]
        · congr 1; show _=min l.length (128-c.toNat); omega
      have hrest:(l.drop ((q:Int)).toNat).take (((l.length:Int)).toNat-((q:Int)).toNat)=l.drop q:=by
        rw [Int.toNat_natCast,Int.toNat_natCast,List.take_of_length_le (by rw [List.length_drop]; omega)]
      have hM:M++l=(M++l.take q)++l.drop q:=by rw [List.append_assoc,List.take_append_drop]
      have hlq:(l.take q).length=q:=by rw [List.length_take]; omega
      have hl1:(M++l.take q).length=M.length+q:=by rw [List.length_append,hlq]
      have hwl:(wr h c.toNat (l.take q)).length=128:=by rw [wr_len (by rw [hlq,hD.hl,hcn]; omega),hD.hl]
      have hwb:Byt (wr h c.toNat (l.take q)):=wr_byt hD.hb (Byt_take hbl _)
      have hwd : ∀ i,i<M.length%128+q→(wr h c.toNat (l.take q)).getD i 0=(M++l.take q).getD (128*(M.length / 128)+i) 0:=by
        intro i hi
        rw [wr_getD,hlq,hcn]
        by_cases h1:M.length%128≤i∧i<M.length%128+q
        · rw [if_pos h1,app_getD2 (by omega)]
          congr 1; omega
        · rw [if_neg h1,hD.hd i (by omega),app_getD1 (by omega)]
      have ew:IntKind.wrap .i64 (c+(q:Int))=c+(q:Int):=wi64_small (by omega) (by omega)
      have hbM1:Byt (M++l.take q):=Byt_cat hbM (Byt_take hbl _)
      rw [← Nat.add_assoc,sha512_Digest_Write_l1,sha512_Digest_Write_b1,br_tt (decide_eq_true (by omega)),chk_t (by simp [cutB]; omega),bnd_eq,← hq,chk_t (by simp [cutB]; omega),bnd_eq,ew,htake,hrest]
      by_cases h128:c+(q:Int)=128
      · have hblock:wr h c.toNat (l.take q)=bk (M++l.take q) (M.length / 128) :=
          list_ext hwl (bk_len (by rw [hl1]; omega)) (fun j hj=>by rw [hwd j (by omega),bk_getD hj])
        have ha8:a.length=8:=by rw [hD.st]; exact fbn_len _ _
        rw [br_tt (by simpa using h128),opt_some (block_eq ha8 hwb hwl)]
        have hdiv:(M.length+q) / 128=M.length / 128+1:=by omega
        have hmod:(M.length+q)%128=0:=by omega
        have hD2:Dst (M++l.take q) (blk a (wr h c.toNat (l.take q))) (wr h c.toNat (l.take q)) 0:=by
          refine ⟨?_,?_,hwl,?_,hwb⟩
          · rw [hl1,hdiv,hblock,hD.st]
            show _=blk (fbn (M++l.take q) (M.length / 128)) _
            rw [fbn_app _ (by omega)]
          · rw [hl1,hmod]; rfl
          · intro i hi
            rw [hl1,hmod] at hi
            omega
        obtain ⟨r,er,h1,h2⟩:=ih (l.drop q) _ _ 0 (M++l.take q) (by rw [List.length_drop]; omega) (Byt_drop hbl _) hbM1 hD2 n
        exact ⟨r,er,h1,by rw [hM]; exact h2⟩
      · rw [br_ff (by simpa using h128)]
        have hdiv:(M.length+q) / 128=M.length / 128:=by omega
        have hmod:(M.length+q)%128=M.length%128+q:=by omega
        have hD2:Dst (M++l.take q) a (wr h c.toNat (l.take q)) (c+(q:Int)):=by
          refine ⟨?_,?_,hwl,?_,hwb⟩
          · rw [hl1,hdiv,fbn_app _ (by omega)]; exact hD.st
          · rw [hl1,hmod,hc]; omega
          · intro i hi
            rw [hl1,hmod] at hi
            rw [hl1,hdiv]
            exact hwd i hi
        obtain ⟨r,er,h1,h2⟩:=ih (l.drop q) _ _ _ (M++l.take q) (by rw [List.length_drop]; omega) (Byt_drop hbl _) hbM1 hD2 n
        exact ⟨r,er,h1,by rw [hM]; exact h2⟩
theorem write_val {d:sha512_Digest} {M l:List Int} (hl:l.length<18446744073709551615) (hbl:Byt l) (hbM:Byt M) (hD:Dst M d.gstate d.gheld d.ghave) : ∃ r,sha512_Digest_Write d l=some r∧r.glength=IntKind.wrap .u64 (d.glength+IntKind.wrap .u64 (l.length:Int))∧Dst (M++l) r.gstate r.gheld r.ghave:=by
  obtain ⟨n,hn⟩ : ∃ n',big=n'+1+l.length:=⟨18446744073709551615-l.length,by have:big=18446744073709551616:=big_eq; omega⟩
  rw [sha512_Digest_Write,bnd_eq,bnd_eq,hn]
  exact write_all _ l.length l d.gstate d.gheld d.ghave M (Nat.le_refl _) hbl hbM hD n
theorem Dst.start:Dst [] G_first (List.replicate 128 0) 0:=⟨rfl,rfl,by simp,fun i hi=>by simp at hi,Byt_rep _⟩
def padz (x:Int):Nat:=((128-(x+17)%128)%128).toNat
def padL (x:Int):List Int:=(([128]++List.replicate (padz x) 0)++be8 (shrV .u64 x 61))++be8 (shlV .u64 x 3)
theorem be8_len (x:Int):(be8 x).length=8:=rfl
theorem padL_len (x:Int):(padL x).length=17+padz x:=by
  unfold padL
  simp [be8_len]
  omega
theorem be8_Byt (x:Int):Byt (be8 x):=byt_of (be8_byt x)
theorem padL_byt (x:Int):Byt (padL x):=Byt_cat (Byt_cat (Byt_cat (byt_of (by decide)) (Byt_rep _)) (be8_Byt _)) (be8_Byt _)
theorem pad_val {x:Int} (h0:0≤x) (h1:x<18446744073709551616):sha512_Pad x=some (padL x):=by
  have hz:IntKind.wrap .u64 (x+17)%128=(x+17)%128:=by rw [wu64_eq]; omega
  have hz3:=u64_rng (x+17)
  have et:Int.tmod (IntKind.wrap .u64 (x+17)) 128=(x+17)%128:=by rw [Int.tmod_eq_emod_of_nonneg hz3.1,hz]
  have ew:IntKind.wrap .i64 ((x+17)%128)=(x+17)%128:=wi64_small (by omega) (by omega)
  have ew2:IntKind.wrap .i64 (128-(x+17)%128)=128-(x+17)%128:=wi64_small (by omega) (by omega)
  have et2:Int.tmod (128-(x+17)%128) 128=(128-(x+17)%128)%128:=Int.tmod_eq_emod_of_nonneg (by omega)
  have ew3:IntKind.wrap .i64 (17+(128-(x+17)%128)%128)=17+(128-(x+17)%128)%128:=wi64_small (by omega) (by omega)
  simp only [sha512_Pad,bnd_eq,et,ew,ew2,et2,ew3]
  have hp:((128-(x+17)%128)%128).toNat=padz x:=rfl
  rw [hp]
  have hpz:padz x<128:=by unfold padz; omega
  rw [chk_t (by unfold mkB; simp only [Bool.and_eq_true,decide_eq_true_eq]; omega),chk_t (by simp),chk_t (by simp; omega),chk_t (by simp; omega),opt_some (storeBE_eq _),chk_t (by simp [be8_len]; omega),opt_some (storeBE_eq _),chk_t (by simp [be8_len]; omega)]
  rfl
theorem rtell (x:Int):q3_tell x=some [IntKind.wrap .u8 (shrV .u64 x 56),IntKind.wrap .u8 (shrV .u64 x 48),IntKind.wrap .u8 (shrV .u64 x 40),IntKind.wrap .u8 (shrV .u64 x 32),IntKind.wrap .u8 (shrV .u64 x 24),IntKind.wrap .u8 (shrV .u64 x 16),IntKind.wrap .u8 (shrV .u64 x 8),IntKind.wrap .u8 (shrV .u64 x 0)]:=by kernel_rfl
theorem shrl (x:Int) (n:Nat) (h:n≤64):shrV .u64 x (n:Int)=x / ((2^n:Nat):Int):=shr_eq .u64 h
theorem rtell_be (x:Int):q3_tell x=some (be8 x):=by
  rw [rtell]
  have e56:shrV .u64 x 56=x / 72057594037927936:=shrl x 56 (by decide)
  have e48:shrV .u64 x 48=x / 281474976710656:=shrl x 48 (by decide)
  have e40:shrV .u64 x 40=x / 1099511627776:=shrl x 40 (by decide)
  have e32:shrV .u64 x 32=x / 4294967296:=shrl x 32 (by decide)
  have e24:shrV .u64 x 24=x / 16777216:=shrl x 24 (by decide)
  have e16:shrV .u64 x 16=x / 65536:=shrl x 16 (by decide)
  have e0:shrV .u64 x 0=x:=by
    have:shrV .u64 x 0=x / 1:=shrl x 0 (by decide)
    rw [this,Int.ediv_one]
  unfold be8
  simp only [shr8_eq,e56,e48,e40,e32,e24,e16,e0]
  congr 1
  simp only [List.cons.injEq,and_true,true_and]
  refine ⟨?_,?_,?_,?_,?_,?_⟩ <;> (congr 1; omega)
theorem rpad_loop (x:Int) (k:List Int→Option (List Int)) (hx:0≤x) (m:Nat) : ∀ (n t:Nat),t+m=padz x→q3_Pad_l1 (x%128) k (n+1+m) ([128]++List.replicate t 0)=k ([128]++List.replicate (padz x) 0):=by
  have hz:padz x<128:=by unfold padz; omega
  induction m with
  | zero =>
    intro n t ht
    have e:t=padz x:=by omega
    subst e
    have el:((([128]++List.replicate (padz x) 0:List Int).length:Nat):Int)=1+(padz x:Int):=by simp; omega
    have w1:IntKind.wrap .i64 (x%128+(1+(padz x:Int)))=x%128+(1+(padz x:Int)):=wi64_small (by omega) (by omega)
    have w2:IntKind.wrap .i64 (x%128+(1+(padz x:Int))+16)=x%128+(1+(padz x:Int))+16:=wi64_small (by omega) (by omega)
    have w3:Int.tmod (x%128+(1+(padz x:Int))+16) 128=0:=by
      rw [Int.tmod_eq_emod_of_nonneg (by omega)]
      unfold padz
      omega
    rw [Nat.add_zero,q3_Pad_l1,q3_Pad_b1]
    simp only [bnd_eq,el,w1,w2,w3]
    rw [br_ff (by decide)]
  | succ m ih =>
    intro n t ht
    have el:((([128]++List.replicate t 0:List Int).length:Nat):Int)=1+(t:Int):=by simp; omega
    have w1:IntKind.wrap .i64 (x%128+(1+(t:Int)))=x%128+(1+(t:Int)):=wi64_small (by omega) (by omega)
    have w2:IntKind.wrap .i64 (x%128+(1+(t:Int))+16)=x%128+(1+(t:Int))+16:=wi64_small (by omega) (by omega)
    have w3:Int.tmod (x%128+(1+(t:Int))+16) 128≠0:=by
      rw [Int.tmod_eq_emod_of_nonneg (by omega)]
      unfold padz at ht
      omega
    have ea:([128]++List.replicate t 0:List Int) ++ [0] = [128]++List.replicate (t+1) 0:=by
      rw [List.append_assoc,List.replicate_succ']
    rw [← Nat.add_assoc,q3_Pad_l1,q3_Pad_b1]
    simp only [bnd_eq,el,w1,w2]
    rw [br_tt (by simpa using w3),chk_t (by simp; omega),ea]
    exact ih n (t+1) (by omega)
theorem rpad_val {x:Int} (h0:0≤x) (h1:x<18446744073709551616):q3_Pad x=some (padL x):=by
  have hz:padz x<128:=by unfold padz; omega
  obtain ⟨n,hn⟩ : ∃ n',big=n'+1+padz x:=⟨18446744073709551615-padz x,by have:big=18446744073709551616:=big_eq; omega⟩
  have e1:Int.tmod x 128=x%128:=Int.tmod_eq_emod_of_nonneg h0
  have e2:IntKind.wrap .i64 (x%128)=x%128:=wi64_small (by omega) (by omega)
  have e3:IntKind.wrap .u64 (Int.tdiv x 2305843009213693952)=shrV .u64 x 61:=by
    have:shrV .u64 x 61=x / 2305843009213693952:=shrl x 61 (by decide)
    rw [this,Int.tdiv_eq_ediv_of_nonneg h0,wu64_small (by omega) (by omega)]
  have e4:IntKind.wrap .u64 (x*8)=shlV .u64 x 3:=(shl_eq .u64 (x:=x) (n:=3) (by decide)).symm
  rw [q3_Pad]
  simp only [bnd_eq,e1,e2,e3,e4,jn_eq]
  rw [hn]
  refine (rpad_loop x _ h0 (padz x) n 0 (by omega)).trans ?_
  rw [opt_some (rtell_be _),chk_t (by simp [be8_len]; omega),opt_some (rtell_be _),chk_t (by simp [be8_len]; omega)]
  rfl
def whole (M:List Int):List Int:=M++padL (M.length:Int)
def hashL (M:List Int):List Int:=told (fbn (whole M) ((whole M).length / 128))
theorem whole_mod (M:List Int):(whole M).length%128=0:=by
  unfold whole padL
  rw [List.length_append]
  have:=padL_len (M.length:Int)
  unfold padL at this
  rw [this]
  unfold padz
  omega
theorem hashL_byt (M:List Int):Byt (hashL M):=told_byt _
theorem hashL_len (M:List Int):(hashL M).length=64:=rfl
theorem sum_val {d:sha512_Digest} {M:List Int} (hM:M.length<9223372036854775808) (hb:Byt M) (hD:Dst M d.gstate d.gheld d.ghave) (hl:d.glength=(M.length:Int)):sha512_Digest_Sum d=some (hashL M,d):=by
  obtain ⟨r,er,_,hr⟩:=write_val (d:=d) (l:=padL d.glength) (by rw [padL_len]; unfold padz; omega) (padL_byt _) hb hD
  rw [sha512_Digest_Sum,sha512_Digest_Clone,opt_some rfl]
  show opt (sha512_Pad d.glength) _=_
  rw [opt_some (pad_val (by omega) (by omega))]
  show opt (sha512_Digest_Write d (padL d.glength)) _=_
  rw [opt_some er,jn_eq,sum_runV]
  have e:r.gstate=fbn (whole M) ((whole M).length / 128):=by
    have:=hr.st
    rw [hl] at this
    exact this
  rw [e]
  rfl
theorem Sum_val {M:List Int} (hM:M.length<9223372036854775808) (hb:Byt M):sha512_Sum M=some (hashL M):=by
  obtain ⟨r,er,el,hr⟩:=write_val (d:=⟨G_first,List.replicate 128 0,0,0⟩) (l:=M) (by omega) hb Byt_nil Dst.start
  have e1:r.glength=(M.length:Int):=by
    rw [el]
    show IntKind.wrap .u64 (0+IntKind.wrap .u64 (M.length:Int))=_
    rw [Int.zero_add,wu64_small (x:=(M.length:Int)) (by omega) (by omega),wu64_small (by omega) (by omega)]
  rw [sha512_Sum,sha512_New,opt_some rfl]
  show opt (sha512_Digest_Write ⟨G_first,List.replicate 128 0,0,0⟩ M) _=_
  rw [opt_some er,opt_some (sum_val hM hb hr e1)]
theorem rsum_loop {L:List Int} (hb:Byt L) (h128:L.length%128=0) (hL:L.length<9223372036854775000) (k:List Int→Option (List Int)) (m:Nat) : ∀ (n j:Nat),128*(j+m)=L.length→q3_Sum_l1 L k (n+1+m) ((128*j:Nat):Int) (fbn L j)=k (fbn L (L.length / 128)):=by
  induction m with
  | zero =>
    intro n j hj
    have e:j=L.length / 128:=by omega
    rw [Nat.add_zero,q3_Sum_l1,q3_Sum_b1,br_ff (decide_eq_false (by omega)),← e]
  | succ m ih =>
    intro n j hj
    have e1:IntKind.wrap .i64 (((128*j:Nat):Int)+128)=((128*(j+1):Nat):Int):=by rw [wi64_small (by omega) (by omega)]; omega
    have e2:128*(j+1)-128*j=128:=by omega
    rw [← Nat.add_assoc,q3_Sum_l1,q3_Sum_b1,br_tt (decide_eq_true (by omega))]
    simp only [bnd_eq,e1,Int.toNat_natCast,e2]
    have hbk:(L.drop (128*j)).take 128=bk L j:=rfl
    rw [chk_t (by simp [cutB]; omega),hbk,opt_some (step_eq (fbn_len L j) (bk_byt hb j) (bk_len (by omega)))]
    exact ih n (j+1) (by omega)
def tellL (x:Int):List Int:=[IntKind.wrap .u8 (shrV .u64 x 56),IntKind.wrap .u8 (shrV .u64 x 48),IntKind.wrap .u8 (shrV .u64 x 40),IntKind.wrap .u8 (shrV .u64 x 32),IntKind.wrap .u8 (shrV .u64 x 24),IntKind.wrap .u8 (shrV .u64 x 16),IntKind.wrap .u8 (shrV .u64 x 8),IntKind.wrap .u8 (shrV .u64 x 0)]
theorem tellL_be (x:Int):tellL x=be8 x:=by
  have h:=rtell_be x
  rw [rtell] at h
  exact Option.some.inj h
theorem rtold_run (a:List Int) (k:List Int→Option (List Int)):q3_Sum_l2 a k big 0 (List.replicate 64 0)=k (tellL (a.getD 0 0)++(tellL (a.getD 1 0)++(tellL (a.getD 2 0)++(tellL (a.getD 3 0)++(tellL (a.getD 4 0)++(tellL (a.getD 5 0)++(tellL (a.getD 6 0)++tellL (a.getD 7 0)))))))):=by kernel_rfl
theorem rSum_val {M:List Int} (hM:M.length+145≤140737488355328) (hb:Byt M):q3_Sum M=some (hashL M):=by
  have hz:padz (M.length:Int)<128:=by unfold padz; omega
  have hp:=padL_len (M.length:Int)
  have hw:(whole M).length=M.length+(17+padz (M.length:Int)):=by unfold whole; rw [List.length_append,hp]
  have hm:=whole_mod M
  have key : ∀ k,q3_Sum_l1 (whole M) k big 0 G_rfirst=k (fbn (whole M) ((whole M).length / 128)):=by
    intro k
    obtain ⟨n,hn⟩ : ∃ n',big=n'+1+(whole M).length / 128:=⟨18446744073709551615-(whole M).length / 128,by have:big=18446744073709551616:=big_eq; omega⟩
    rw [hn,firsts_eq]
    exact rsum_loop (show Byt (whole M) from Byt_cat hb (padL_byt _)) hm (by omega) k ((whole M).length / 128) n 0 (by omega)
  rw [q3_Sum,chk_t (by simp; omega),bnd_eq,bnd_eq,List.nil_append,wu64_small (by omega) (by omega),opt_some (rpad_val (by omega) (by omega)),chk_t (by rw [hp]; simp; omega),bnd_eq,jn_eq]
  show q3_Sum_l1 (whole M) _ big 0 G_rfirst=_
  rw [key,jn_eq,rtold_run]
  simp only [tellL_be]
  rfl
theorem hash_pieces {p:List (List Int)} (hp : ∀ i,Byt (p.getD i [])) (hb:p.length<1000000) {k:List Int→List Int→Int→Int→Option (List Int)} (m:Nat) : ∀ (n i:Nat) (a h:List Int) (c:Int) (M:List Int),i+m=p.length→Byt M→M.length+(p.drop i).flatten.length<9223372036854775808→Dst M a h c →
    ∃ a' h' c',sign_hash_l1 p k (n+1+m) (i:Int) a h c (M.length:Int)=k a' h' c' ((M++(p.drop i).flatten).length:Int)∧Dst (M++(p.drop i).flatten) a' h' c'∧Byt (M++(p.drop i).flatten):=by
  induction m with
  | zero =>
    intro n i a h c M hi hbM hlen hD
    have e:p.drop i = []:=List.drop_eq_nil_of_le (by omega)
    rw [e,List.flatten_nil,List.append_nil]
    refine ⟨a,h,c,?_,hD,hbM⟩
    rw [Nat.add_zero,sign_hash_l1,sign_hash_b1,br_ff (decide_eq_false (by omega))]
  | succ m ih =>
    intro n i a h c M hi hbM hlen hD
    have e1:=i64_succ (i:=i) (by omega)
    have hlt:i<p.length:=by omega
    have hd:p.drop i=p.getD i []::p.drop (i+1):=by
      rw [List.drop_eq_getElem_cons hlt]
      congr 1
      simp [List.getD_eq_getElem?_getD,List.getElem?_eq_getElem hlt]
    rw [hd,List.flatten_cons] at hlen ⊢
    rw [List.length_append] at hlen
    obtain ⟨r,er,el,hr⟩:=write_val (d:=⟨a,h,c,(M.length:Int)⟩) (l:=p.getD i []) (by omega) (hp i) hbM hD
    have el2:r.glength=((M++p.getD i []).length:Int):=by
      rw [el,List.length_append]
      show IntKind.wrap .u64 ((M.length:Int)+IntKind.wrap .u64 ((p.getD i []).length:Int))=_
      rw [wu64_small (x:=((p.getD i []).length:Int)) (by omega) (by omega),wu64_small (by omega) (by omega)]
      omega
    obtain ⟨a',h',c',e',hD',hb'⟩:=ih n (i+1) r.gstate r.gheld r.ghave (M++p.getD i []) (by omega) (Byt_cat hbM (hp i)) (by rw [List.length_append]; omega) hr
    refine ⟨a',h',c',?_,by rw [← List.append_assoc]; exact hD',by rw [← List.append_assoc]; exact hb'⟩
    rw [← Nat.add_assoc,sign_hash_l1,sign_hash_b1,br_tt (decide_eq_true (by omega)),chk_t (inB_t (by omega) (by omega)),Int.toNat_natCast,opt_some er,bnd_eq,e1,el2,e',List.append_assoc]
theorem hash_val {p:List (List Int)} (hp : ∀ i,Byt (p.getD i [])) (hb:p.length<1000000) (hl:p.flatten.length<9223372036854775808):sign_hash p=some (byt (wval (hashL p.flatten)%VL)):=by
  obtain ⟨n,hn⟩ : ∃ n',big=n'+1+p.length:=⟨18446744073709551615-p.length,by have:big=18446744073709551616:=big_eq; omega⟩
  obtain ⟨a,h,c,e,hD,hbM⟩:=hash_pieces hp hb (k:=fun (a51:List Int) (a52:List Int) (i53:Int) (i54:Int)=>opt (sha512_Digest_Sum (⟨a51,a52,i53,i54⟩:sha512_Digest)) fun y98 =>
 opt (scalar_Reduce y98.1) fun y101 =>
 some y101) p.length n 0 G_first (List.replicate 128 0) 0 [] (by omega) Byt_nil (by simpa using hl) Dst.start
  rw [List.drop_zero,List.nil_append] at e hD hbM
  rw [sign_hash,sha512_New,opt_some rfl,jn_eq,hn]
  refine e.trans ?_
  rw [opt_some (sum_val (d:=⟨a,h,c,(p.flatten.length:Int)⟩) hl hbM hD rfl)]
  show opt (scalar_Reduce (hashL p.flatten)) _=_
  rw [opt_some (Reduce_val (hashL_byt _))]
end Go.Proofs.YtiflckckekjbnaaGreatDoor
