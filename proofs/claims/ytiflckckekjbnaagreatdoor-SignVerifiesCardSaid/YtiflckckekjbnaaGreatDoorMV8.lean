/- Texts of a proof, one behind the other: R7 R8 R9 E10 G5 G6. -/
import Derived.Test.YtiflckckekjbnaaGreatDoorMV7
import Derived.JoinedOf
import Derived.LaidLaws
import Derived.Lay
import Derived.MakeChecks
import Derived.SevenTiedAt
import Derived.ChangeOld
import Derived.SizedLaws
namespace Go.Proofs.YtiflckckekjbnaaGreatDoor
open Go Go.Sx Go.RowKit
set_option linter.all false
set_option maxRecDepth 100000
set_option maxHeartbeats 1000000
theorem app_getD1 {M x:List Int} {i:Nat} (h:i<M.length):(M++x).getD i 0=M.getD i 0:=by simp [List.getD_eq_getElem?_getD,List.getElem?_append_left h]
theorem app_getD2 {M x:List Int} {i:Nat} (h:M.length≤i):(M++x).getD i 0=x.getD (i-M.length) 0:=by simp [List.getD_eq_getElem?_getD,List.getElem?_append_right h]
theorem Byt_cat {M x:List Int} (h:Byt M) (hx:Byt x):Byt (M++x):=by
  intro i
  by_cases hi:i<M.length
  · rw [app_getD1 hi]; exact h i
  · rw [app_getD2 (by omega)]; exact hx _
theorem take_getD {l:List Int} {q i:Nat} (h:i<q):(l.take q).getD i 0=l.getD i 0:=by simp [List.getD_eq_getElem?_getD,List.getElem?_take,h]
theorem drop_getD {l:List Int} {q i:Nat}:(l.drop q).getD i 0=l.getD (q+i) 0:=by simp [List.getD_eq_getElem?_getD,List.getElem?_drop]
theorem Byt_take {l:List Int} (h:Byt l) (q:Nat):Byt (l.take q):=by
  intro i
  by_cases hi:i<q
  · rw [take_getD hi]; exact h i
  · rw [getD_end (by rw [List.length_take]; omega)]; decide
theorem Byt_drop {l:List Int} (h:Byt l) (q:Nat):Byt (l.drop q):=by
  intro i
  rw [drop_getD]; exact h _
def bk (M:List Int) (n:Nat):List Int:=(M.drop (128*n)).take 128
theorem bk_len {M:List Int} {n:Nat} (h:128*n+128≤M.length):(bk M n).length=128:=by unfold bk; rw [List.length_take,List.length_drop]; omega
theorem bk_getD {M:List Int} {n i:Nat} (hi:i<128):(bk M n).getD i 0=M.getD (128*n+i) 0:=by unfold bk; rw [take_getD hi,drop_getD]
theorem bk_byt {M:List Int} (h:Byt M) (n:Nat):Byt (bk M n):=Byt_take (Byt_drop h _) _
theorem bk_app {M x:List Int} {n:Nat} (h:128*n+128≤M.length):bk (M++x) n=bk M n :=
  list_ext (n:=128) (bk_len (by rw [List.length_append]; omega)) (bk_len h) (fun j hj=>by rw [bk_getD hj,bk_getD hj,app_getD1 (by omega)])
def fbn (M:List Int):Nat→List Int
  | 0=>G_first
  | n+1=>blk (fbn M n) (bk M n)
theorem fbn_len (M:List Int) : ∀ n,(fbn M n).length=8
  | 0=>by show G_first.length=8; decide
  | n+1=>rfl
theorem fbn_app {M x:List Int} : ∀ n,128*n≤M.length→fbn (M++x) n=fbn M n
  | 0,_=>rfl
  | n+1,h=>by
    show blk (fbn (M++x) n) (bk (M++x) n)=blk (fbn M n) (bk M n)
    rw [fbn_app n (by omega),bk_app (by omega)]
structure Dst (M:List Int) (a h:List Int) (c:Int):Prop where
  st:a=fbn M (M.length / 128)
  hv:c=((M.length%128:Nat):Int)
  hl:h.length=128
  hd : ∀ i,i<M.length%128→h.getD i 0=M.getD (128*(M.length / 128)+i) 0
  hb:Byt h
theorem wr_len {xs ys:List Int} {i:Nat} (h:i+ys.length≤xs.length):(wr xs i ys).length=xs.length:=by
  unfold wr
  rw [List.length_append,List.length_append,tk_length,List.length_drop]; omega
theorem wr_byt {xs ys:List Int} {i:Nat} (hx:Byt xs) (hy:Byt ys):Byt (wr xs i ys):=by
  intro j
  rw [wr_getD]
  split
  · exact hy _
  · exact hx _
theorem write_all (z:Int) (m:Nat) : ∀ (l a h:List Int) (c:Int) (M:List Int),l.length≤m→Byt l→Byt M→Dst M a h c→∀ n,∃ r,sha512_Digest_Write_l1 z (n+1+m) l a h c=some r∧r.glength=z∧Dst (M++l) r.gstate r.gheld r.ghave:=by
  induction m with
  | zero =>
    intro l a h c M hl hbl hbM hD n
    have e:l = []:=List.length_eq_zero_iff.1 (by omega)
    subst e
    refine ⟨⟨a,h,c,z⟩,?_,rfl,by rw [List.append_nil]; exact hD⟩
    rw [Nat.add_zero,sha512_Digest_Write_l1,sha512_Digest_Write_b1,br_ff (decide_eq_false (by simp))]
  | succ m ih =>
    intro l a h c M hl hbl hbM hD n
    by_cases he:l.length=0
    · have e:l = []:=List.length_eq_zero_iff.1 he
      subst e
      refine ⟨⟨a,h,c,z⟩,?_,rfl,by rw [List.append_nil]; exact hD⟩
      rw [← Nat.add_assoc,sha512_Digest_Write_l1,sha512_Digest_Write_b1,br_ff (decide_eq_false (by simp))]
    · have hr:=Nat.mod_lt M.length (show 0<128 by decide)
      have hdm:=Nat.div_add_mod M.length 128
      have hc:=hD.hv
      have hcn:c.toNat=M.length%128:=by rw [hc,Int.toNat_natCast]
      obtain ⟨q,hq⟩ : ∃ q,q=Nat.min l.length (128-c.toNat):=⟨_,rfl⟩
      have hq1:0<q∧q≤l.length∧q≤128-M.length%128∧(q=l.length∨q=128-M.length%128):=by
        rw [hq,hcn]
        show 0<min l.length (128-M.length%128)∧min l.length (128-M.length%128)≤l.length∧min l.length (128-M.length%128)≤128-M.length%128∧(min l.length (128-M.length%128)=l.length∨min l.length (128-M.length%128)=128-M.length%128)
        omega
      have htake:l.take (128-c.toNat)=l.take q:=by
        rw [hq]
        rcases Nat.le_total l.length (128-c.toNat) with h1 | h1
        · rw [List.take_of_length_le h1,List.take_of_length_le (by show l.length≤min l.length (128-c.toNat); omega)]
        · congr 1; show _=min l.length (128-c.toNat); omega
      have hrest:(l.drop ((q:Int)).toNat).take (((l.length:Int)).toNat-((q:Int)).toNat)=l.drop q:=by
        rw [Int.toNat_natCast,Int.toNat_natCast,List.take_of_length_le (by rw [List.length_drop]; omega)]
      have hM:M++l=(M++l.take q)++l.drop q:=by rw [List.append_assoc,List.take_append_drop]
      have hlq:(l.take q).length=q:=by rw [List.length_take]; omega
      have hl1:(M++l.take q).length=M.length+q:=by rw [List.length_append,hlq]
      have hwl:(wr h c.toNat (l.take q)).length=128:=by rw [wr_len (by rw [hlq,hD.hl,hcn]; omega),hD.hl]
      have hwb:Byt (wr h c.toNat (l.take q)):=wr_byt hD.hb (Byt_take hbl _)
      have hwd : ∀ i,i<M.length%128+q→(wr h c.toNat (l.take q)).getD i 0=(M++l.take q).getD (128*(M.length / 128)+i) 0:=by
        intro i hi
        rw [wr_getD,hlq,hcn]
        by_cases h1:M.length%128≤i∧i<M.length%128+q
        · rw [if_pos h1,app_getD2 (by omega)]
          congr 1; omega
        · rw [if_neg h1,hD.hd i (by omega),app_getD1 (by omega)]
      have ew:IntKind.wrap .i64 (c+(q:Int))=c+(q:Int):=wi64_small (by omega) (by omega)
      have hbM1:Byt (M++l.take q):=Byt_cat hbM (Byt_take hbl _)
      rw [← Nat.add_assoc,sha512_Digest_Write_l1,sha512_Digest_Write_b1,br_tt (decide_eq_true (by omega)),chk_t (by simp [cutB]; omega),bnd_eq,← hq,chk_t (by simp [cutB]; omega),bnd_eq,ew,htake,hrest]
      by_cases h128:c+(q:Int)=128
      · have hblock:wr h c.toNat (l.take q)=bk (M++l.take q) (M.length / 128) :=
          list_ext hwl (bk_len (by rw [hl1]; omega)) (fun j hj=>by rw [hwd j (by omega),bk_getD hj])
        have ha8:a.length=8:=by rw [hD.st]; exact fbn_len _ _
        rw [br_tt (by simpa using h128),opt_some (block_eq ha8 hwb hwl)]
        have hdiv:(M.length+q) / 128=M.length / 128+1:=by omega
        have hmod:(M.length+q)%128=0:=by omega
        have hD2:Dst (M++l.take q) (blk a (wr h c.toNat (l.take q))) (wr h c.toNat (l.take q)) 0:=by
          refine ⟨?_,?_,hwl,?_,hwb⟩
          · rw [hl1,hdiv,hblock,hD.st]
            show _=blk (fbn (M++l.take q) (M.length / 128)) _
            rw [fbn_app _ (by omega)]
          · rw [hl1,hmod]; rfl
          · intro i hi
            rw [hl1,hmod] at hi
            omega
        obtain ⟨r,er,h1,h2⟩:=ih (l.drop q) _ _ 0 (M++l.take q) (by rw [List.length_drop]; omega) (Byt_drop hbl _) hbM1 hD2 n
        exact ⟨r,er,h1,by rw [hM]; exact h2⟩
      · rw [br_ff (by simpa using h128)]
        have hdiv:(M.length+q) / 128=M.length / 128:=by omega
        have hmod:(M.length+q)%128=M.length%128+q:=by omega
        have hD2:Dst (M++l.take q) a (wr h c.toNat (l.take q)) (c+(q:Int)):=by
          refine ⟨?_,?_,hwl,?_,hwb⟩
          · rw [hl1,hdiv,fbn_app _ (by omega)]; exact hD.st
          · rw [hl1,hmod,hc]; omega
          · intro i hi
            rw [hl1,hmod] at hi
            rw [hl1,hdiv]
            exact hwd i hi
        obtain ⟨r,er,h1,h2⟩:=ih (l.drop q) _ _ _ (M++l.take q) (by rw [List.length_drop]; omega) (Byt_drop hbl _) hbM1 hD2 n
        exact ⟨r,er,h1,by rw [hM]; exact h2⟩
theorem write_val {d:sha512_Digest} {M l:List Int} (hl:l.length<18446744073709551615) (hbl:Byt l) (hbM:Byt M) (hD:Dst M d.gstate d.gheld d.ghave) : ∃ r,sha512_Digest_Write d l=some r∧r.glength=IntKind.wrap .u64 (d.glength+IntKind.wrap .u64 (l.length:Int))∧Dst (M++l) r.gstate r.gheld r.ghave:=by
  obtain ⟨n,hn⟩ : ∃ n',big=n'+1+l.length:=⟨18446744073709551615-l.length,by have:big=18446744073709551616:=big_eq; omega⟩
  rw [sha512_Digest_Write,bnd_eq,bnd_eq,hn]
  exact write_all _ l.length l d.gstate d.gheld d.ghave M (Nat.le_refl _) hbl hbM hD n
theorem Dst.start:Dst [] G_first (List.replicate 128 0) 0:=⟨rfl,rfl,by simp,fun i hi=>by simp at hi,Byt_rep _⟩
def padz (x:Int):Nat:=((128-(x+17)%128)%128).toNat
def padL (x:Int):List Int:=(([128]++List.replicate (padz x) 0)++be8 (shrV .u64 x 61))++be8 (shlV .u64 x 3)
theorem be8_len (x:Int):(be8 x).length=8:=rfl
theorem padL_len (x:Int):(padL x).length=17+padz x:=by
  unfold padL
  simp [be8_len]
  omega
theorem be8_Byt (x:Int):Byt (be8 x):=byt_of (be8_byt x)
theorem padL_byt (x:Int):Byt (padL x):=Byt_cat (Byt_cat (Byt_cat (byt_of (by decide)) (Byt_rep _)) (be8_Byt _)) (be8_Byt _)
theorem pad_val {x:Int} (h0:0≤x) (h1:x<18446744073709551616):sha512_Pad x=some (padL x):=by
  have hz:IntKind.wrap .u64 (x+17)%128=(x+17)%128:=by rw [wu64_eq]; omega
  have hz3:=u64_rng (x+17)
  have et:Int.tmod (IntKind.wrap .u64 (x+17)) 128=(x+17)%128:=by rw [Int.tmod_eq_emod_of_nonneg hz3.1,hz]
  have ew:IntKind.wrap .i64 ((x+17)%128)=(x+17)%128:=wi64_small (by omega) (by omega)
  have ew2:IntKind.wrap .i64 (128-(x+17)%128)=128-(x+17)%128:=wi64_small (by omega) (by omega)
  have et2:Int.tmod (128-(x+17)%128) 128=(128-(x+17)%128)%128:=Int.tmod_eq_emod_of_nonneg (by omega)
  have ew3:IntKind.wrap .i64 (17+(128-(x+17)%128)%128)=17+(128-(x+17)%128)%128:=wi64_small (by omega) (by omega)
  simp only [sha512_Pad,bnd_eq,et,ew,ew2,et2,ew3]
  have hp:((128-(x+17)%128)%128).toNat=padz x:=rfl
  rw [hp]
  have hpz:padz x<128:=by unfold padz; omega
  rw [chk_t (by unfold mkB; simp only [Bool.and_eq_true,decide_eq_true_eq]; omega),chk_t (by simp),chk_t (by simp; omega),chk_t (by simp; omega),opt_some (storeBE_eq _),chk_t (by simp [be8_len]; omega),opt_some (storeBE_eq _),chk_t (by simp [be8_len]; omega)]
  rfl
theorem rtell (x:Int):q3_tell x=some [IntKind.wrap .u8 (shrV .u64 x 56),IntKind.wrap .u8 (shrV .u64 x 48),IntKind.wrap .u8 (shrV .u64 x 40),IntKind.wrap .u8 (shrV .u64 x 32),IntKind.wrap .u8 (shrV .u64 x 24),IntKind.wrap .u8 (shrV .u64 x 16),IntKind.wrap .u8 (shrV .u64 x 8),IntKind.wrap .u8 (shrV .u64 x 0)]:=by kernel_rfl
theorem shrl (x:Int) (n:Nat) (h:n≤64):shrV .u64 x (n:Int)=x / ((2^n:Nat):Int):=shr_eq .u64 h
theorem rtell_be (x:Int):q3_tell x=some (be8 x):=by
  rw [rtell]
  have e56:shrV .u64 x 56=x / 72057594037927936:=shrl x 56 (by decide)
  have e48:shrV .u64 x 48=x / 281474976710656:=shrl x 48 (by decide)
  have e40:shrV .u64 x 40=x / 1099511627776:=shrl x 40 (by decide)
  have e32:shrV .u64 x 32=x / 4294967296:=shrl x 32 (by decide)
  have e24:shrV .u64 x 24=x / 16777216:=shrl x 24 (by decide)
  have e16:shrV .u64 x 16=x / 65536:=shrl x 16 (by decide)
  have e0:shrV .u64 x 0=x:=by
    have:shrV .u64 x 0=x / 1:=shrl x 0 (by decide)
    rw [this,Int.ediv_one]
  unfold be8
  simp only [shr8_eq,e56,e48,e40,e32,e24,e16,e0]
  congr 1
  simp only [List.cons.injEq,and_true,true_and]
  refine ⟨?_,?_,?_,?_,?_,?_⟩ <;> (congr 1; omega)
theorem rpad_loop (x:Int) (k:List Int→Option (List Int)) (hx:0≤x) (m:Nat) : ∀ (n t:Nat),t+m=padz x→q3_Pad_l1 (x%128) k (n+1+m) ([128]++List.replicate t 0)=k ([128]++List.replicate (padz x) 0):=by
  have hz:padz x<128:=by unfold padz; omega
  induction m with
  | zero =>
    intro n t ht
    have e:t=padz x:=by omega
    subst e
    have el:((([128]++List.replicate (padz x) 0:List Int).length:Nat):Int)=1+(padz x:Int):=by simp; omega
    have w1:IntKind.wrap .i64 (x%128+(1+(padz x:Int)))=x%128+(1+(padz x:Int)):=wi64_small (by omega) (by omega)
    have w2:IntKind.wrap .i64 (x%128+(1+(padz x:Int))+16)=x%128+(1+(padz x:Int))+16:=wi64_small (by omega) (by omega)
    have w3:Int.tmod (x%128+(1+(padz x:Int))+16) 128=0:=by
      rw [Int.tmod_eq_emod_of_nonneg (by omega)]
      unfold padz
      omega
    rw [Nat.add_zero,q3_Pad_l1,q3_Pad_b1]
    simp only [bnd_eq,el,w1,w2,w3]
    rw [br_ff (by decide)]
  | succ m ih =>
    intro n t ht
    have el:((([128]++List.replicate t 0:List Int).length:Nat):Int)=1+(t:Int):=by simp; omega
    have w1:IntKind.wrap .i64 (x%128+(1+(t:Int)))=x%128+(1+(t:Int)):=wi64_small (by omega) (by omega)
    have w2:IntKind.wrap .i64 (x%128+(1+(t:Int))+16)=x%128+(1+(t:Int))+16:=wi64_small (by omega) (by omega)
    have w3:Int.tmod (x%128+(1+(t:Int))+16) 128≠0:=by
      rw [Int.tmod_eq_emod_of_nonneg (by omega)]
      unfold padz at ht
      omega
    have ea:([128]++List.replicate t 0:List Int) ++ [0] = [128]++List.replicate (t+1) 0:=by
      rw [List.append_assoc,List.replicate_succ']
    rw [← Nat.add_assoc,q3_Pad_l1,q3_Pad_b1]
    simp only [bnd_eq,el,w1,w2]
    rw [br_tt (by simpa using w3),chk_t (by simp; omega),ea]
    exact ih n (t+1) (by omega)
theorem rpad_val {x:Int} (h0:0≤x) (h1:x<18446744073709551616):q3_Pad x=some (padL x):=by
  have hz:padz x<128:=by unfold padz; omega
  obtain ⟨n,hn⟩ : ∃ n',big=n'+1+padz x:=⟨18446744073709551615-padz x,by have:big=18446744073709551616:=big_eq; omega⟩
  have e1:Int.tmod x 128=x%128:=Int.tmod_eq_emod_of_nonneg h0
  have e2:IntKind.wrap .i64 (x%128)=x%128:=wi64_small (by omega) (by omega)
  have e3:IntKind.wrap .u64 (Int.tdiv x 2305843009213693952)=shrV .u64 x 61:=by
    have:shrV .u64 x 61=x / 2305843009213693952:=shrl x 61 (by decide)
    rw [this,Int.tdiv_eq_ediv_of_nonneg h0,wu64_small (by omega) (by omega)]
  have e4:IntKind.wrap .u64 (x*8)=shlV .u64 x 3:=(shl_eq .u64 (x:=x) (n:=3) (by decide)).symm
  rw [q3_Pad]
  simp only [bnd_eq,e1,e2,e3,e4,jn_eq]
  rw [hn]
  refine (rpad_loop x _ h0 (padz x) n 0 (by omega)).trans ?_
  rw [opt_some (rtell_be _),chk_t (by simp [be8_len]; omega),opt_some (rtell_be _),chk_t (by simp [be8_len]; omega)]
  rfl
def whole (M:List Int):List Int:=M++padL (M.length:Int)
def hashL (M:List Int):List Int:=told (fbn (whole M) ((whole M).length / 128))
theorem whole_mod (M:List Int):(whole M).length%128=0:=by
  unfold whole padL
  rw [List.length_append]
  have:=padL_len (M.length:Int)
  unfold padL at this
  rw [this]
  unfold padz
  omega
theorem hashL_byt (M:List Int):Byt (hashL M):=told_byt _
theorem hashL_len (M:List Int):(hashL M).length=64:=rfl
theorem sum_val {d:sha512_Digest} {M:List Int} (hM:M.length<9223372036854775808) (hb:Byt M) (hD:Dst M d.gstate d.gheld d.ghave) (hl:d.glength=(M.length:Int)):sha512_Digest_Sum d=some (hashL M,d):=by
  obtain ⟨r,er,_,hr⟩:=write_val (d:=d) (l:=padL d.glength) (by rw [padL_len]; unfold padz; omega) (padL_byt _) hb hD
  rw [sha512_Digest_Sum,sha512_Digest_Clone,opt_some rfl]
  show opt (sha512_Pad d.glength) _=_
  rw [opt_some (pad_val (by omega) (by omega))]
  show opt (sha512_Digest_Write d (padL d.glength)) _=_
  rw [opt_some er,jn_eq,sum_runV]
  have e:r.gstate=fbn (whole M) ((whole M).length / 128):=by
    have:=hr.st
    rw [hl] at this
    exact this
  rw [e]
  rfl
theorem rsum_loop {L:List Int} (hb:Byt L) (h128:L.length%128=0) (hL:L.length<9223372036854775000) (k:List Int→Option (List Int)) (m:Nat) : ∀ (n j:Nat),128*(j+m)=L.length→q3_Sum_l1 L k (n+1+m) ((128*j:Nat):Int) (fbn L j)=k (fbn L (L.length / 128)):=by
  induction m with
  | zero =>
    intro n j hj
    have e:j=L.length / 128:=by omega
    rw [Nat.add_zero,q3_Sum_l1,q3_Sum_b1,br_ff (decide_eq_false (by omega)),← e]
  | succ m ih =>
    intro n j hj
    have e1:IntKind.wrap .i64 (((128*j:Nat):Int)+128)=((128*(j+1):Nat):Int):=by rw [wi64_small (by omega) (by omega)]; omega
    have e2:128*(j+1)-128*j=128:=by omega
    rw [← Nat.add_assoc,q3_Sum_l1,q3_Sum_b1,br_tt (decide_eq_true (by omega))]
    simp only [bnd_eq,e1,Int.toNat_natCast,e2]
    have hbk:(L.drop (128*j)).take 128=bk L j:=rfl
    rw [chk_t (by simp [cutB]; omega),hbk,opt_some (step_eq (fbn_len L j) (bk_byt hb j) (bk_len (by omega)))]
    exact ih n (j+1) (by omega)
def tellL (x:Int):List Int:=[IntKind.wrap .u8 (shrV .u64 x 56),IntKind.wrap .u8 (shrV .u64 x 48),IntKind.wrap .u8 (shrV .u64 x 40),IntKind.wrap .u8 (shrV .u64 x 32),IntKind.wrap .u8 (shrV .u64 x 24),IntKind.wrap .u8 (shrV .u64 x 16),IntKind.wrap .u8 (shrV .u64 x 8),IntKind.wrap .u8 (shrV .u64 x 0)]
theorem tellL_be (x:Int):tellL x=be8 x:=by
  have h:=rtell_be x
  rw [rtell] at h
  exact Option.some.inj h
theorem rtold_run (a:List Int) (k:List Int→Option (List Int)):q3_Sum_l2 a k big 0 (List.replicate 64 0)=k (tellL (a.getD 0 0)++(tellL (a.getD 1 0)++(tellL (a.getD 2 0)++(tellL (a.getD 3 0)++(tellL (a.getD 4 0)++(tellL (a.getD 5 0)++(tellL (a.getD 6 0)++tellL (a.getD 7 0)))))))):=by kernel_rfl
theorem rSum_val {M:List Int} (hM:M.length+145≤140737488355328) (hb:Byt M):q3_Sum M=some (hashL M):=by
  have hz:padz (M.length:Int)<128:=by unfold padz; omega
  have hp:=padL_len (M.length:Int)
  have hw:(whole M).length=M.length+(17+padz (M.length:Int)):=by unfold whole; rw [List.length_append,hp]
  have hm:=whole_mod M
  have key : ∀ k,q3_Sum_l1 (whole M) k big 0 G_rfirst=k (fbn (whole M) ((whole M).length / 128)):=by
    intro k
    obtain ⟨n,hn⟩ : ∃ n',big=n'+1+(whole M).length / 128:=⟨18446744073709551615-(whole M).length / 128,by have:big=18446744073709551616:=big_eq; omega⟩
    rw [hn,firsts_eq]
    exact rsum_loop (show Byt (whole M) from Byt_cat hb (padL_byt _)) hm (by omega) k ((whole M).length / 128) n 0 (by omega)
  rw [q3_Sum,chk_t (by simp; omega),bnd_eq,bnd_eq,List.nil_append,wu64_small (by omega) (by omega),opt_some (rpad_val (by omega) (by omega)),chk_t (by rw [hp]; simp; omega),bnd_eq,jn_eq]
  show q3_Sum_l1 (whole M) _ big 0 G_rfirst=_
  rw [key,jn_eq,rtold_run]
  simp only [tellL_be]
  rfl
theorem hash_pieces {p:List (List Int)} (hp : ∀ i,Byt (p.getD i [])) (hb:p.length<1000000) {k:List Int→List Int→Int→Int→Option (List Int)} (m:Nat) : ∀ (n i:Nat) (a h:List Int) (c:Int) (M:List Int),i+m=p.length→Byt M→M.length+(p.drop i).flatten.length<9223372036854775808→Dst M a h c →
    ∃ a' h' c',sign_hash_l1 p k (n+1+m) (i:Int) a h c (M.length:Int)=k a' h' c' ((M++(p.drop i).flatten).length:Int)∧Dst (M++(p.drop i).flatten) a' h' c'∧Byt (M++(p.drop i).flatten):=by
  induction m with
  | zero =>
    intro n i a h c M hi hbM hlen hD
    have e:p.drop i = []:=List.drop_eq_nil_of_le (by omega)
    rw [e,List.flatten_nil,List.append_nil]
    refine ⟨a,h,c,?_,hD,hbM⟩
    rw [Nat.add_zero,sign_hash_l1,sign_hash_b1,br_ff (decide_eq_false (by omega))]
  | succ m ih =>
    intro n i a h c M hi hbM hlen hD
    have e1:=i64_succ (i:=i) (by omega)
    have hlt:i<p.length:=by omega
    have hd:p.drop i=p.getD i []::p.drop (i+1):=by
      rw [List.drop_eq_getElem_cons hlt]
      congr 1
      simp [List.getD_eq_getElem?_getD,List.getElem?_eq_getElem hlt]
    rw [hd,List.flatten_cons] at hlen ⊢
    rw [List.length_append] at hlen
    obtain ⟨r,er,el,hr⟩:=write_val (d:=⟨a,h,c,(M.length:Int)⟩) (l:=p.getD i []) (by omega) (hp i) hbM hD
    have el2:r.glength=((M++p.getD i []).length:Int):=by
      rw [el,List.length_append]
      show IntKind.wrap .u64 ((M.length:Int)+IntKind.wrap .u64 ((p.getD i []).length:Int))=_
      rw [wu64_small (x:=((p.getD i []).length:Int)) (by omega) (by omega),wu64_small (by omega) (by omega)]
      omega
    obtain ⟨a',h',c',e',hD',hb'⟩:=ih n (i+1) r.gstate r.gheld r.ghave (M++p.getD i []) (by omega) (Byt_cat hbM (hp i)) (by rw [List.length_append]; omega) hr
    refine ⟨a',h',c',?_,by rw [← List.append_assoc]; exact hD',by rw [← List.append_assoc]; exact hb'⟩
    rw [← Nat.add_assoc,sign_hash_l1,sign_hash_b1,br_tt (decide_eq_true (by omega)),chk_t (inB_t (by omega) (by omega)),Int.toNat_natCast,opt_some er,bnd_eq,e1,el2,e',List.append_assoc]
theorem hash_val {p:List (List Int)} (hp : ∀ i,Byt (p.getD i [])) (hb:p.length<1000000) (hl:p.flatten.length<9223372036854775808):sign_hash p=some (byt (wval (hashL p.flatten)%VL)):=by
  obtain ⟨n,hn⟩ : ∃ n',big=n'+1+p.length:=⟨18446744073709551615-p.length,by have:big=18446744073709551616:=big_eq; omega⟩
  obtain ⟨a,h,c,e,hD,hbM⟩:=hash_pieces hp hb (k:=fun (a51:List Int) (a52:List Int) (i53:Int) (i54:Int)=>opt (sha512_Digest_Sum (⟨a51,a52,i53,i54⟩:sha512_Digest)) fun y98 =>
 opt (scalar_Reduce y98.1) fun y101 =>
 some y101) p.length n 0 G_first (List.replicate 128 0) 0 [] (by omega) Byt_nil (by simpa using hl) Dst.start
  rw [List.drop_zero,List.nil_append] at e hD hbM
  rw [sign_hash,sha512_New,opt_some rfl,jn_eq,hn]
  refine e.trans ?_
  rw [opt_some (sum_val (d:=⟨a,h,c,(p.flatten.length:Int)⟩) hl hbM hD rfl)]
  show opt (scalar_Reduce (hashL p.flatten)) _=_
  rw [opt_some (Reduce_val (hashL_byt _))]
theorem half_lo (p:List Int):q8_half p false=some (tk p 0 32):=by kernel_rfl
theorem half_hi (p:List Int):q8_half p true=some (tk p 32 32):=by kernel_rfl
noncomputable def preOf (s:List Int):List Int:=tk (hashL s) 32 32
noncomputable def numOf (M:List Int):List Int:=byt (wval (hashL M)%VL)
theorem numOf_byt (M:List Int):Byt (numOf M):=byt_byt _
theorem byt3 {a b c:List Int} (ha:Byt a) (hb:Byt b) (hc:Byt c) : ∀ i,Byt (([a,b,c]:List (List Int)).getD i []):=by
  intro i
  match i with
  | 0=>exact ha
  | 1=>exact hb
  | 2=>exact hc
  | i+3=>exact Byt_nil
theorem phash3 {a b m:List Int} (ha:Byt a) (hb:Byt b) (hm:Byt m) (h:a.length+(b.length+m.length)<9223372036854775808):sign_hash [a,b,m]=some (numOf (a++(b++m))):=by
  have e:([a,b,m]:List (List Int)).flatten=a++(b++m):=by simp
  rw [hash_val (byt3 ha hb hm) (by simp) (by rw [e,List.length_append,List.length_append]; exact h),e]
  rfl
noncomputable def verOf (k m s:List Int) (A:G):Bool:=dok k&&(decide (sval (tk s 32 32)<VL)&&decide (encG (addG (mulG (sval (numOf (tk s 0 32++(k++m)))).toNat (negG A)) (pB (tk s 32 32)))=tk s 0 32))
theorem pverify {k m s:List Int} (hk:Byt k) (l:k.length=32) (hm:Byt m) (lm:m.length<9223372036854775000) (hs:Byt s) {A:G} (hA:dok k=true→Rep (dpt k) A):sign_Verify k m s=some (verOf k m s A):=by
  have e0:tk k 0 32=k:=tk_all l
  have hh:=phash3 (tk_byt hs 0 32) hk hm (by rw [tk_length,l]; omega)
  exact verify_val hk hs (by rw [e0]; exact hh) (numOf_byt _) hA
theorem rjoined {a b c:List Int} (h:a.length+b.length+c.length≤140737488355328):q8_joined a b c=some (a++(b++c)):=by
  rw [q8_joined,chk_t (by simp; omega),bnd_eq,List.nil_append,chk_t (by simp; omega),bnd_eq,chk_t (by simp; omega),bnd_eq,List.append_assoc]
theorem rred (M:List Int):q6_Reduce (hashL M)=some (numOf M):=rReduce (hashL_byt _) (hashL_len _)
theorem rverify {k m s:List Int} (hk:Byt k) (l:k.length=32) (hm:Byt m) (lm:m.length+209≤140737488355328) (hs:Byt s) {A:G} (hA:dok k=true→Rep (dpt k) A):q8_Verify k m s=some (verOf k m s A):=by
  obtain ⟨q,eq,hq⟩:=rdecode hk l
  have ek:tk k 0 32=k:=tk_all l
  have e1:tk (tk s 0 32) 0 32=tk s 0 32:=tk_all (tk_length _ _ _)
  have b1:Byt (tk s 0 32++(k++m)):=Byt_cat (tk_byt hs _ _) (Byt_cat hk hm)
  have l1:(tk s 0 32++(k++m)).length+145≤140737488355328:=by rw [List.length_append,List.length_append,tk_length,l]; omega
  rw [q8_Verify,opt_some (half_lo _),opt_some (half_hi _),opt_some eq,rCanon (tk_byt hs 32 32) (tk_length _ _ _)]
  unfold verOf
  cases hd:dok k
  · rw [chk_t (by simp [imp]),br_tt (by rfl)]; rfl
  · have r3:=hq hd A (hA hd)
    rw [if_pos rfl,chk_t (by simp [imp])]
    by_cases hc:sval (tk s 32 32)<VL
    · rw [br_ff (by simp [hc]),jn_eq,e1,ek,opt_some (rjoined (by rw [tk_length,l]; omega)),opt_some (rSum_val l1 b1),opt_some (rred _)]
      show opt (q7_Neg (rp q)) _=_
      obtain ⟨c,ec,rc⟩:=rcombine (numOf_byt (tk s 0 32++(k++m))) (tk_byt hs 32 32) (rep3_neg r3)
      rw [opt_some (rneg_eq q),opt_some ec,opt_some (rencode rc)]
      unfold ieq
      rw [tk_enc,e1]
      simp [hc]
    · rw [br_tt (by simp [hc])]
      simp [hc]
theorem dec_some (k:List Int) : ∃ A:G,dok k=true→Rep (dpt k) A:=by
  by_cases h:dok k=true
  · obtain ⟨A,hA,_,_⟩:=dec_point h
    exact ⟨A,fun _=>hA⟩
  · exact ⟨zeroG,fun h2=>absurd h2 h⟩
theorem verify_same {k m s:List Int} (hk:Byt k) (l:k.length=32) (hm:Byt m) (lm:m.length+209≤140737488355328) (hs:Byt s) : ∃ b,sign_Verify k m s=some b∧q8_Verify k m s=some b:=by
  obtain ⟨A,hA⟩:=dec_some k
  exact ⟨_,pverify hk l hm (by omega) hs hA,rverify hk l hm lm hs hA⟩
def mks:List Int:=List.replicate 130 165
theorem marked_run (k:List Int→Option (List Int×Int)) : ∀ (d f:Nat) (l:List Int),d≤130→l.length+d≤140737488355328→fareboxlaw08_marked_l1 k (f+1+d) l (130-(d:Int))=k (l++List.replicate d 165)
  | 0,f,l,_,_=>by
    show fareboxlaw08_marked_b1 k _ l (130-((0:Nat):Int))=_
    rw [fareboxlaw08_marked_b1,br_ff (decide_eq_false (by omega)),List.replicate_zero,List.append_nil]
  | d+1,f,l,hd,hl=>by
    show fareboxlaw08_marked_b1 k (fareboxlaw08_marked_l1 k (f+1+d)) l (130-((d+1:Nat):Int))=_
    have e:IntKind.wrap .i64 (130-((d+1:Nat):Int)+1)=130-(d:Int):=by rw [wi64_small (by omega) (by omega)]; omega
    rw [fareboxlaw08_marked_b1,br_tt (decide_eq_true (by omega)),chk_t (by simp; omega),bnd_eq,bnd_eq,e,marked_run k d f (l ++ [165]) (by omega) (by simp; omega),List.append_assoc]
    rfl
theorem marked_eq {m:List Int} (h:m.length+130≤140737488355328):fareboxlaw08_marked m=some (m++mks,(m.length:Int)):=by
  obtain ⟨f,hf⟩ : ∃ f,big=f+1+130:=⟨18446744073709551485,big_eq⟩
  rw [fareboxlaw08_marked,chk_t (by simp; omega),bnd_eq,jn_eq,hf,List.nil_append]
  have h1:=marked_run (fun l61=>chk (cutB 0 (m.length:Int) l61.length) (some (l61,(m.length:Int)))) 130 f m (by omega) h
  have e:(130-((130:Nat):Int))=0:=by omega
  rw [e] at h1
  rw [h1,chk_t (by simp [cutB]; omega)]
  rfl
theorem left_run1 {p b:List Int} {z:Int} {k:Unit→Option Bool} (hz:z=((b.length+130:Nat):Int)) (hb:b.length≤140737488355328) (he : ∀ i,i<b.length→p.getD i 0=b.getD i 0) :
    ∀ (d f:Nat),d≤b.length→fareboxlaw08_left_l1 p b z k (f+1+d) ((b.length:Int)-(d:Int))=k ()
  | 0,f,_=>by
    show fareboxlaw08_left_b1 p b z k _ _=_
    rw [fareboxlaw08_left_b1,br_ff (decide_eq_false (by omega))]
  | d+1,f,hd=>by
    show fareboxlaw08_left_b1 p b z k (fareboxlaw08_left_l1 p b z k (f+1+d)) _=_
    have e:IntKind.wrap .i64 ((b.length:Int)-((d+1:Nat):Int)+1)=(b.length:Int)-(d:Int):=by rw [wi64_small (by omega) (by omega)]; omega
    have h1:=he ((b.length:Int)-((d+1:Nat):Int)).toNat (by omega)
    rw [fareboxlaw08_left_b1,br_tt (decide_eq_true (by omega)),chk_t (inB_t (by omega) (by omega)),chk_t (inB_t (by omega) (by omega)),bnd_eq,bnd_eq,h1,br_ff (by simp),bnd_eq,e]
    exact left_run1 hz hb he d f (by omega)
theorem left_run2 {p:List Int} {n:Nat} {z:Int} {k:Unit→Option Bool} (hz:z=((n+130:Nat):Int)) (hb:n≤140737488355328) (he : ∀ i,n≤i→i<n+130→p.getD i 0=165) :
    ∀ (d f:Nat),d≤130→fareboxlaw08_left_l2 p z k (f+1+d) (z-(d:Int))=k ()
  | 0,f,_=>by
    show fareboxlaw08_left_b2 p z k _ _=_
    rw [fareboxlaw08_left_b2,br_ff (decide_eq_false (by omega))]
  | d+1,f,hd=>by
    show fareboxlaw08_left_b2 p z k (fareboxlaw08_left_l2 p z k (f+1+d)) _=_
    have e:IntKind.wrap .i64 (z-((d+1:Nat):Int)+1)=z-(d:Int):=by rw [wi64_small (by omega) (by omega)]; omega
    have h1:=he (z-((d+1:Nat):Int)).toNat (by omega) (by omega)
    rw [fareboxlaw08_left_b2,br_tt (decide_eq_true (by omega)),chk_t (inB_t (by omega) (by omega)),bnd_eq,h1,br_ff (by simp),bnd_eq,e]
    exact left_run2 hz hb he d f (by omega)
theorem left_eq {b:List Int} {n:Int} (h:b.length+130≤140737488355328):fareboxlaw08_left (b++mks) n b=some true:=by
  have ew:IntKind.wrap .i64 ((b.length:Int)+130)=((b.length+130:Nat):Int):=by rw [wi64_small (by omega) (by omega)]; omega
  have lm:mks.length=130:=List.length_replicate
  obtain ⟨f,hf⟩ : ∃ f,big=f+1+b.length:=⟨18446744073709551615-b.length,by have:big=18446744073709551616:=big_eq; omega⟩
  obtain ⟨g,hg⟩ : ∃ f,big=f+1+130:=⟨18446744073709551485,big_eq⟩
  rw [fareboxlaw08_left,bnd_eq,ew,chk_t (by simp [cutB,lm]; omega),jn_eq]
  have h1:=@left_run1 (b++mks) b _ (fun (_:Unit)=>jn (fun (_:Unit)=>some true) fun k111=>fareboxlaw08_left_l2 (b++mks) ((b.length+130:Nat):Int) k111 big (b.length:Int)) rfl (by omega) (fun i hi=>app_getD1 hi) b.length f (Nat.le_refl _)
  have e:(b.length:Int)-(b.length:Int)=0:=by omega
  rw [e,← hf] at h1
  rw [h1,jn_eq]
  have h2:=@left_run2 (b++mks) b.length _ (fun (_:Unit)=>some true) rfl (by omega) (fun i h1 h2=>by
    rw [app_getD2 h1]
    simp only [mks,List.getD_eq_getElem?_getD,List.getElem?_replicate]
    rw [if_pos (by omega)]; rfl) 130 g (Nat.le_refl _)
  have e2:((b.length+130:Nat):Int)-((130:Nat):Int)=(b.length:Int):=by omega
  rw [e2,← hg] at h2
  exact h2
def oth (m:List Int):List Int:=if 0<m.length then m.set 0 (bitsV .xor .u8 (m.getD 0 0) 64) else m
theorem oth_len (m:List Int):(oth m).length=m.length:=by unfold oth; split <;> simp
theorem xor_byt {x:Int} (h:0≤x∧x<256):0≤bitsV .xor .u8 x 64∧bitsV .xor .u8 x 64<256:=by
  have g : ∀ n:Fin 256,0≤bitsV .xor .u8 (n.val:Int) 64∧bitsV .xor .u8 (n.val:Int) 64<256:=by decide +kernel
  have:=g ⟨x.toNat,by omega⟩
  have e:((x.toNat:Nat):Int)=x:=by omega
  simp only [e] at this
  exact this
theorem oth_byt {m:List Int} (h:Byt m):Byt (oth m):=by
  unfold oth
  split
  · intro i
    by_cases hi:i<m.length
    · simp only [List.getD_eq_getElem?_getD,List.getElem?_set]
      by_cases e:0=i
      · subst e
        rw [if_pos rfl,if_pos hi]
        exact xor_byt (h 0)
      · rw [if_neg e,← List.getD_eq_getElem?_getD]; exact h i
    · rw [getD_end (by simp; omega)]; decide
  · exact h
theorem turned_eq {m:List Int} (h:m.length+130≤140737488355328):fareboxlaw08_turned (m++mks) (m.length:Int)=some (oth m,oth m++mks):=by
  rw [fareboxlaw08_turned,jn_eq]
  unfold oth
  by_cases h0:0<m.length
  · rw [if_pos h0,br_tt (decide_eq_true (by omega)),chk_t (inB_t (by omega) (by omega)),bnd_eq,bnd_eq,chk_t (inB_t (by omega) (by omega)),bnd_eq,setG_eq (by simp; omega),app_getD1 h0,List.set_append_left _ _ h0]
    have hc:cutB 0 (m.length:Int) (m.set 0 (bitsV .xor .u8 (m.getD 0 0) 64)++mks).length=true:=by simp [cutB]; omega
    have ht:(m.set 0 (bitsV .xor .u8 (m.getD 0 0) 64)++mks).take m.length=m.set 0 (bitsV .xor .u8 (m.getD 0 0) 64):=List.take_left' (by simp)
    rw [chk_t hc,chk_t hc,chk_t hc,chk_t hc,Int.toNat_natCast]
    show chk _ _=_
    rw [ht,chk_t (by simp; omega),bnd_eq,List.nil_append]
  · rw [if_neg h0,br_ff (decide_eq_false (by omega)),Int.toNat_natCast]
    show chk _ _=_
    rw [List.take_left' rfl,chk_t (by simp; omega),bnd_eq,List.nil_append]
theorem mks_take (m:List Int):(m++mks).take ((m.length:Int)).toNat=m:=by rw [Int.toNat_natCast,List.take_left' rfl]
theorem mks_cut (m:List Int):cutB 0 (m.length:Int) (oth m++mks).length=true:=by rw [List.length_append,oth_len]; simp [cutB]; omega
theorem oth_take (m:List Int):(oth m++mks).take ((m.length:Int)).toNat=oth m:=by rw [← oth_len m]; exact mks_take _
theorem signVerifies_eq {k m s:List Int} (hk:Byt k) (l:k.length=32) (hm:Byt m) (lm:m.length+209≤140737488355328) (hs:Byt s):fareboxlaw08_SignVerifies k m s=some true:=by
  have ho:=oth_byt hm
  have lo:=oth_len m
  obtain ⟨b,h1,h2⟩:=verify_same hk l hm lm hs
  obtain ⟨c,h3,h4⟩:=verify_same hk l ho (by omega) hs
  rw [fareboxlaw08_SignVerifies,opt_some (marked_eq (by omega))]
  dsimp only
  rw [mks_take,opt_some h1,opt_some h2,left_eq (by omega),chk_t (by simp [imp]),br_ff (by simp),opt_some (turned_eq (by omega))]
  dsimp only
  rw [chk_t (mks_cut m),chk_t (mks_cut m),chk_t (mks_cut m),chk_t (mks_cut m),oth_take,opt_some h3,opt_some h4,left_eq (by omega),chk_t (by simp [imp])]
  simp
end Go.Proofs.YtiflckckekjbnaaGreatDoor
namespace Go.Sx
open Go Go.RowKit Go.ChangeShapes
set_option linter.all false
section
variable {H:Type} {enc:TypeId×Value→H}
theorem below_trodAll {P:Program} (hl:laidOutB P=true) {W W':World} (hb:Below W.heap.size W W') :
    ∀ {ts:List TypeId} {vs:List Value} {ds:List (DataW H)} {ps:List MemPlace},(ts.all fun t=>P.readableRec t&&decide (t<P.types.size))=true→(∀ x∈ps,x.block<W.heap.size) →
      DataW.TrodAll enc P W 0 (fun _=>true) true ts vs ds ps→DataW.TrodAll enc P W' 0 (fun b=>decide (b<W.heap.size)) true ts vs ds ps
  | [],[],[],_,_,_,h=>h
  | t::ts,v::vs,d::ds,ps,hr,hlt,h=>by
    obtain ⟨p,q,h1,h2,rfl⟩:=h
    simp only [List.all_cons,Bool.and_eq_true,decide_eq_true_eq] at hr
    exact ⟨p,q,Below.trod hl hr.1.1 hr.1.2 h1 hb (fun x hx=>hlt x (by simp [hx])),below_trodAll hl hb hr.2 (fun x hx=>hlt x (by simp [hx])) h2,rfl⟩
  | [],_::_,_,_,_,_,h=>h.elim
  | [],[],_::_,_,_,_,h=>h.elim
  | _::_,[],_,_,_,_,h=>h.elim
  | _::_,_::_,[],_,_,_,h=>h.elim
def LawAt (P:Program) (f:FuncId) (args:Array Value) (W:World):Prop:=Calls P f args W fun e w'=>e = .returned (.bool true)∧Below W.heap.size W w'
theorem trodAll_len {P:Program} {W:World} {base:Nat} {sp:Nat→Bool} {held:Bool} : ∀ {ts:List TypeId} {vs:List Value} {ds:List (DataW H)} {ps:List MemPlace},DataW.TrodAll enc P W base sp held ts vs ds ps→ds.length=ts.length∧vs.length=ts.length
  | [],[],[],_,_=>⟨rfl,rfl⟩
  | t::ts,v::vs,d::ds,ps,h=>by
    obtain ⟨p,q,_,h2,_⟩:=h
    have:=trodAll_len h2
    simp [this]
  | [],_::_,_,_,h=>h.elim
  | [],[],_::_,_,h=>h.elim
  | _::_,[],_,_,h=>h.elim
  | _::_,_::_,[],_,h=>h.elim
theorem law_post {C:Checked} {f:FuncId} {fn:Func} {s:ChangeSpec} {tb:TypeId} (hvars:s.vars = [])
    (hs : ∀ ds:List (DataW H),ds.length=fn.params.size→s.fn H ds = { results:=[.lit (.bool true)],args:=ds }) (hres:fn.resultTypes = #[tb]) (htb:C.prog.underlying tb=some .bool)
    (hl:laidOutB C.prog=true) (hpar:(fn.params.toList.all fun t=>C.prog.readableRec t&&decide (t<C.prog.types.size))=true)
    {W:World} {args:Array Value} {ds gs:List (DataW H)} {before:List MemPlace} (hW:DataW.Whole enc C.prog fn.params.toList s.vars false W args.toList ds gs before)
    (h:LawAt C.prog f args W):Calls C.prog f args W fun e W'=>∃ v,e = .returned v∧s.post enc C.prog fn false true false false W args v W':=by
  have hW':=hW
  have hlt:=hW.lt
  obtain ⟨p,q,hA,hV,rfl,hfz,hnd⟩:=hW
  rw [hvars] at hV
  obtain ⟨rfl,rfl⟩:=trodVars_none hV
  refine h.mono fun e W' ⟨he,bel⟩=>⟨_,he,ds,[],p ++ [],[],p,[],hW',?_,?_,?_,bel.frame _,fun h=>by cases h⟩
  · rw [List.append_nil,hs ds (by simpa using (trodAll_len hA).1),hres]
    exact trodAll_mk1 (shut_bool htb true)
  · rw [List.append_nil,hs ds (by simpa using (trodAll_len hA).1)]
    exact below_trodAll hl bel hpar (fun x hx=>hlt x (by simp [hx])) hA
  · rw [List.append_nil,hs ds (by simpa using (trodAll_len hA).1),hvars]
    rfl
structure Given (C:Checked) (fn:Func) (W:World) (args:Array Value):Prop where
  wide : ∃ base,∀ (j:Nat) t v,fn.params[j]? = some t→args[j]? = some v→Value.okWide C.prog W .any base t v
  read : ∃ (H:Type) (enc:TypeId×Value→H) (ds:List (DataW H)) (p:List MemPlace),DataW.TrodAll enc C.prog W 0 (fun _=>true) true fn.params.toList args.toList ds p ∧
    ((DataW.weightsEach C.prog fn.params.toList ds).all (· ≤ reachBytes)=true)
theorem law_laid {C:Checked} {os:Os} {f:FuncId} {fn:Func} {s:ChangeSpec} {tb:TypeId} {conds:List PathCond} {laid:List (String×DataW Unit)}
    (own:ownKnob C.prog.godebug=none) (started:os.Started) (noInit:C.prog.inits.idxOf? f=none) (hfn:C.prog.funcs[f]? = some fn) (hvars:s.vars = [])
    (hs : ∀ ds:List (DataW H),ds.length=fn.params.size→s.fn H ds = { results:=[.lit (.bool true)],args:=ds }) (hres:fn.resultTypes = #[tb]) (htb:C.prog.underlying tb=some .bool)
    (hl:laidOutB C.prog=true) (hpar:(fn.params.toList.all fun t=>C.prog.readableRec t&&decide (t<C.prog.types.size))=true)
    (witness : ∃ (w:World) (tape:Tape) (i:Input),w.os=os∧(w.forCall tape i).Shaped C.prog∧i.vars = []∧Input.okWide C.prog (w.forCall tape i) .any w.heap.size f i ∧
      ((s.pre enc C.prog fn conds false (w.forCall tape i).memory i.args∧laidMetH C.prog laid (w.forCall tape i).memory)∧sizedMet enc C.prog fn (OpenSpec.ofChange s) false (w.forCall tape i).memory i.args)∧({}:Assume).holds C.prog (lone (Frame.enter C.prog f i.args .normal) [] (w.forCall tape i)))
    (h : ∀ (W:World) (args:Array Value),laidMetH C.prog laid W→Given C fn W args→LawAt C.prog f args W) :
    ReturnsInHanded {} C os f .any (fun w args=>(s.pre enc C.prog fn conds false w args∧laidMetH C.prog laid w)∧sizedMet enc C.prog fn (OpenSpec.ofChange s) false w args) (s.post enc C.prog fn false true false false):=by
  refine returnsInHanded_of_change_and (X:=fun w _=>laidMetH C.prog laid w) (fun _ _ _ hh h=>h.of_heap hh) own started noInit hfn witness ?_
  intro W base args ds gs before hval hW _ hsz hL _
  refine law_post hvars hs hres htb hl hpar hW (h W args hL ⟨⟨base,hval⟩,?_⟩)
  obtain ⟨p,q,hA,hV,rfl,hfz,hnd⟩:=hW
  rw [hvars] at hV
  obtain ⟨rfl,rfl⟩:=trodVars_none hV
  refine ⟨H,enc,ds,p,hA,?_⟩
  simpa [ChangeSpec.plain,DataSpec.varTypes,hvars] using hsz
end
theorem fits_of_read {H:Type} {enc:TypeId×Value→H} {P:Program} {W:World} {n:Nat} {t:TypeId} {v:Value} {d:DataW H} {p:List MemPlace} {L:Lay}
    (hL:lay P n t .nil=some L) (h:DataW.Trod enc P W 0 (fun _=>true) true t v d p):Fits W maxLen L v.cells.toList:=by
  obtain ⟨fuel,hf⟩:=h
  have:=trod_fits (Small.all) n t .nil L hL fuel v.cells.toList d p hf trivial [] rfl
  simpa using this
def Open (C:Checked) (W:World) (n:Nat):List TypeId→List Value→Prop
  | [],vs=>vs = []
  | t::ts,vs=>∃ v vs',vs=v::vs'∧(∃ base,Value.okWide C.prog W .any base t v)∧(∀ L,lay C.prog n t .nil=some L→Fits W maxLen L v.cells.toList)∧Open C W n ts vs'
theorem Given.open {C:Checked} {fn:Func} {W:World} {args:Array Value} (h:Given C fn W args) (n:Nat):Open C W n fn.params.toList args.toList:=by
  obtain ⟨⟨base,hw⟩,⟨H,enc,ds,p,hA,_⟩⟩:=h
  have key : ∀ (ts:List TypeId) (vs:List Value) (ds:List (DataW H)) (p:List MemPlace),DataW.TrodAll enc C.prog W 0 (fun _=>true) true ts vs ds p →
      (∀ (j:Nat) t v,ts[j]? = some t→vs[j]? = some v→Value.okWide C.prog W .any base t v)→Open C W n ts vs:=by
    intro ts
    induction ts with
    | nil =>
      intro vs ds p h _
      cases vs with
      | nil=>rfl
      | cons v vs=>cases ds <;> exact h.elim
    | cons t ts ih =>
      intro vs ds p h hv
      cases vs with
      | nil=>cases ds <;> exact h.elim
      | cons v vs =>
        cases ds with
        | nil=>exact h.elim
        | cons d ds =>
          obtain ⟨p1,q1,h1,h2,rfl⟩:=h
          exact ⟨v,vs,rfl,⟨base,hv 0 t v rfl rfl⟩,fun L hL=>fits_of_read hL h1,ih vs ds q1 h2 fun j t v h3 h4=>hv (j+1) t v h3 h4⟩
  exact key _ _ ds p hA fun j t v h1 h2=>hw j t v (by simpa using h1) (by simpa using h2)
theorem wide_one {P:Program} {W:World} {base:Nat} {t:TypeId} {v x:Value} (hw:Value.okWide P W .any base t v) (hn:(match P.underlying t with | some (.struct _) | some (.array _ _)=>false | _=>true)=true)
    (h:v.cells.toList = [x]):v=x:=by
  cases v with
  | agg cs =>
    exfalso
    unfold Value.okWide at hw
    split at hw
    · rename_i hu; rw [hu] at hn; cases hn
    · rename_i hu; rw [hu] at hn; cases hn
    · unfold Cell.okWide at hw
      split at hw <;> first | (rename_i h2; cases h2; done) | skip
      simp only [Cell.ok] at hw
      split at hw <;> simp_all
  | _=>simpa [Value.cells] using h
theorem wide_agg {P:Program} {W:World} {base:Nat} {t:TypeId} {v:Value} (hw:Value.okWide P W .any base t v) (hn:(match P.underlying t with | some (.struct _) | some (.array _ _)=>true | _=>false)=true):v = .agg v.cells.toList.toArray:=by
  unfold Value.okWide at hw
  split at hw
  · obtain ⟨cs,rfl,_⟩:=hw; simp [Value.cells]
  · obtain ⟨cs,rfl,_⟩:=hw; simp [Value.cells]
  · rename_i h1 h2
    split at hn
    · rename_i hu; exact absurd hu (h1 _)
    · rename_i hu; exact absurd hu (h2 _ _)
    · cases hn
theorem intsCells_eq {k:IntKind} {cs:List Value} {xs:List Int} (hl:cs.length=xs.length) (h : ∀ i,i<xs.length→cs[i]? = some (.int k (xs.getD i 0))):cs=intsCells k xs.length xs:=by
  apply List.ext_getElem?
  intro i
  by_cases hi:i<xs.length
  · rw [h i hi]
    simp [intsCells,hi]
  · rw [List.getElem?_eq_none (by omega),List.getElem?_eq_none (by simp [intsCells]; omega)]
theorem laid_ints {P:Program} {W:World} {l:List (String×DataW Unit)} (h:laidMet P l W) {name:String} {k:IntKind} {xs:List Int} (hm:(name,DataW.agg (xs.map fun x=>.lit (.int k x)))∈l) {g:Nat} {t e:TypeId} {m:Nat}
    (hg:P.globalNamed name=some g) (ht:(P.globals[g]?).map (·.type)=some t) (hu:P.underlying t=some (.array m e)) (he:P.underlying e=some (.int k)) (hc:P.cellsOf e=1) (hn:P.cellsOf t=m) (h0:0<m) :
    Mem W g 0 [.ints k xs.length xs]:=by
  obtain ⟨ps,hv,-,-⟩:=h
  induction l generalizing ps with
  | nil=>cases hm
  | cons x l ih =>
    obtain ⟨n,d⟩:=x
    obtain ⟨g',t',cs,fuel,p,q,h1,h2,h3,h4,h5,_⟩:=hv
    rcases List.mem_cons.1 hm with hx | hx
    · cases hx
      obtain rfl:g'=g:=Option.some.inj (h1.symm.trans hg)
      obtain rfl:t'=t:=Option.some.inj (h2.symm.trans ht)
      obtain ⟨ys,m',_,hy,hlen,hyl,hel⟩:=DataW.trod_array hu h4
      simp only [Prod.mk.injEq,DataW.agg.injEq] at hy
      have hm':m=xs.length:=by rw [← hyl]; have:=congrArg List.length hy.1; simpa using this.symm
      have hcs:cs.toList=intsCells k xs.length xs:=by
        refine intsCells_eq (by omega) fun i hi=>?_
        have h6:=hel i (by omega)
        have h7:i<ys.length:=by omega
        rw [List.getElem?_eq_getElem h7] at h6
        obtain ⟨z,h8,h9,_⟩:=DataW.trod_int he h6
        have h10:(ys.map (·.1))[i]? = some (.lit (.int k (xs.getD i 0))):=by rw [← hy.1]; simp [hi]
        rw [List.getElem?_map,List.getElem?_eq_getElem h7,Option.map_some,h9] at h10
        simp only [Option.some.injEq,DataW.lit.injEq,Lit.int.injEq,true_and] at h10
        subst h10
        rw [hc] at h8
        have:=congrArg (fun l=>l[0]?) h8
        simpa using this
      refine mem_of_cells (n:=xs.length) (cs:=cs.toList) (fun i hi=>?_) (by rw [hlen,hn,hm']) (by omega) (by rw [hcs]; simp [cells,Seg.cells]) (by simp [width,Seg.width])
      have:=World.var?_cell hg h3 i
      simpa using this
    · exact ih hx _ h5
end Go.Sx
namespace Go.Sx
open Go Go.RowKit
set_option linter.all false
theorem rd_of_SlI {W:World} {k:IntKind} {a:Option Addr} {len cap:Nat} {xs:List Int} (h:SlI W k a cap xs) (hl:len≤cap):RdSl (El.int k) W (slV (a,len,cap)) (xs.take len):=by
  have hx:=h.len
  have hlen:(xs.take len).length=len:=by rw [List.length_take]; omega
  rcases h.at_ with h0 | ⟨b,off,rfl,hm⟩
  · subst h0
    obtain rfl:len=0:=by omega
    cases a with
    | none=>exact .inl ⟨rfl,by simp⟩
    | some a=>exact .inr (.inr ⟨a,rfl,by simp⟩)
  · refine .inr (.inl ⟨b,off,cap,by rw [hlen]; rfl,by omega,fun i hi j hj=>?_⟩)
    rw [hlen] at hi
    obtain rfl:j=0:=by simp only at hj; omega
    have:=hm.cell i (by simp only [width,Seg.width]; omega)
    simp only [cells,Seg.cells,List.append_nil] at this
    simp only [Nat.mul_one,Nat.add_zero]
    rw [this,intsCells_get (by omega)]
    simp [List.getD_eq_getElem?_getD,List.getElem?_take,hi]
theorem Given.slice_bytes2 {C:Checked} {fn:Func} {W:World} {args:Array Value} (h:Given C fn W args) {t0 t e:TypeId} {ts:List TypeId} {v0:Value} {a:Addr} {len cap:Nat} {vs:List Value}
    (hp:fn.params.toList=t0::t::ts) (hu:C.prog.underlying t=some (.slice e)) (ha:args.toList=v0 :: .slice (some a) len cap::vs):cap*C.prog.bytesOf e≤reachBytes:=by
  obtain ⟨H,enc,ds,p,hA,hw⟩:=h.read
  rw [hp,ha] at hA
  rw [hp] at hw
  cases ds with
  | nil=>exact hA.elim
  | cons d0 ds =>
    obtain ⟨p0,q0,_,h0,rfl⟩:=hA
    cases ds with
    | nil=>exact h0.elim
    | cons d ds =>
      obtain ⟨p1,q1,⟨fuel,hf⟩,h2,rfl⟩:=h0
      rcases DataW.trod_slice hu hf with ⟨e1,_⟩ | ⟨a',len',cap',elems,rest,m,e1,e2,hx,_,hlc,_,hel,_,hR,_⟩
      · exact absurd e1 (by simp [Value.cells])
      · have e3:(Value.slice (some a) len cap) = .slice (some a') len' cap':=by simpa [Value.cells] using e2
        injection e3 with e4 e5 e6
        subst e5; subst e6
        obtain ⟨hr,_⟩:=hR rfl
        simp only [Prod.mk.injEq] at hx
        rw [hx.1] at hw
        simp only [DataW.weightsEach,DataW.weights,hu,List.all_append,List.all_cons,Bool.and_eq_true,decide_eq_true_eq,List.length_map,hel,hr] at hw
        have:=hw.2.1.1
        rwa [show len+(cap-len)=cap by omega] at this
end Go.Sx
