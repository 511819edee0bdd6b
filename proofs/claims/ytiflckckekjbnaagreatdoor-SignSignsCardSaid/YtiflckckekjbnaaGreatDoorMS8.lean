/- Texts of a proof, one behind the other: R8 R9 E10 G5 G6. -/
import Derived.Test.YtiflckckekjbnaaGreatDoorMS7
import Derived.JoinedOf
import Derived.LaidLaws
import Derived.Lay
import Derived.MakeChecks
import Derived.SevenTiedAt
import Derived.ChangeOld
import Derived.SizedLaws
namespace Go.Proofs.YtiflckckekjbnaaGreatDoor
open Go Go.Sx Go.RowKit
set_option linter.all false
set_option maxRecDepth 100000
set_option maxHeartbeats 1000000
theorem half_lo (p:List Int):q8_half p false=some (tk p 0 32):=by kernel_rfl
theorem half_hi (p:List Int):q8_half p true=some (tk p 32 32):=by kernel_rfl
theorem rclamp_run (p:List Int) (k:List Int→Option (List Int)):q6_Clamp_l1 p k big 0 (List.replicate 32 0)=k (tk p 0 32):=by kernel_rfl
theorem clamp_lo {x:Int} (h0:0≤x) (h1:x<256):IntKind.wrap .u8 (x-Int.tmod x 8)=bitsV .andNot .u8 x 7:=by
  have h : ∀ n:Fin 256,IntKind.wrap .u8 ((n.val:Int)-Int.tmod (n.val:Int) 8)=bitsV .andNot .u8 (n.val:Int) 7:=by decide +kernel
  have:=h ⟨x.toNat,by omega⟩
  have e:((x.toNat:Nat):Int)=x:=by omega
  simp only [e] at this
  exact this
theorem clamp_hi {x:Int} (h0:0≤x) (h1:x<256):IntKind.wrap .u8 (Int.tmod x 64+64)=bitsV .or .u8 (bitsV .and .u8 x 127) 64:=by
  have h : ∀ n:Fin 256,IntKind.wrap .u8 (Int.tmod (n.val:Int) 64+64)=bitsV .or .u8 (bitsV .and .u8 (n.val:Int) 127) 64:=by decide +kernel
  have:=h ⟨x.toNat,by omega⟩
  have e:((x.toNat:Nat):Int)=x:=by omega
  simp only [e] at this
  exact this
theorem rclamp_eq {p:List Int} (h:Byt p) (l:p.length=32):q6_Clamp p=some (clampL p):=by
  have e0:tk p 0 32=p:=tk_all l
  have b0:=h 0
  have b31:=h 31
  rw [q6_Clamp,jn_eq,rclamp_run,e0]
  simp only [bnd_eq]
  rw [clamp_lo b0.1 b0.2]
  have g31:(setD p 0 (bitsV .andNot .u8 (p.getD 0 0) 7)).getD 31 0=p.getD 31 0:=by rw [getD_setD,if_neg (by decide)]
  unfold clampL
  rw [g31,clamp_hi b31.1 b31.2]
theorem clampL_len {p:List Int} (l:p.length=32):(clampL p).length=32:=by
  unfold clampL
  rw [setD_len (by rw [setD_len (by omega)]; omega),setD_len (by omega),l]
noncomputable def mulOf (s:List Int):List Int:=clampL (tk (hashL s) 0 32)
noncomputable def preOf (s:List Int):List Int:=tk (hashL s) 32 32
noncomputable def numOf (M:List Int):List Int:=byt (wval (hashL M)%VL)
noncomputable def keyOf (s:List Int):List Int:=encG (pB (mulOf s))
noncomputable def rOf (s m:List Int):List Int:=numOf (preOf s++m)
noncomputable def kOf (s m:List Int):List Int:=numOf (encG (pB (rOf s m))++(keyOf s++m))
noncomputable def sigOf (s m:List Int):List Int:=encG (pB (rOf s m))++byt ((sval (kOf s m)*sval (mulOf s)+sval (rOf s m))%VL)
theorem mulOf_byt (s:List Int):Byt (mulOf s):=clamp_byt (tk_byt (hashL_byt s) 0 32)
theorem mulOf_len (s:List Int):(mulOf s).length=32:=clampL_len (tk_length _ _ _)
theorem preOf_byt (s:List Int):Byt (preOf s):=tk_byt (hashL_byt s) 32 32
theorem preOf_len (s:List Int):(preOf s).length=32:=tk_length _ _ _
theorem numOf_byt (M:List Int):Byt (numOf M):=byt_byt _
theorem numOf_len (M:List Int):(numOf M).length=32:=byt_length _
theorem rOf_byt (s m:List Int):Byt (rOf s m):=numOf_byt _
theorem rOf_len (s m:List Int):(rOf s m).length=32:=numOf_len _
theorem kOf_byt (s m:List Int):Byt (kOf s m):=numOf_byt _
theorem kOf_len (s m:List Int):(kOf s m).length=32:=numOf_len _
theorem keyOf_byt (s:List Int):Byt (keyOf s):=encG_byt _
theorem keyOf_len (s:List Int):(keyOf s).length=32:=encG_length _
theorem phalves {s:List Int} (hs:Byt s) (l:s.length=32):sign_halves s=some (mulOf s,preOf s):=by
  have e0:tk s 0 32=s:=tk_all l
  have e2:tk (tk (hashL s) 0 32) 0 32=tk (hashL s) 0 32:=tk_all (tk_length _ _ _)
  rw [sign_halves,e0,opt_some (Sum_val (by omega) hs),chk_t (by rw [tk_length]; rfl),bnd_eq,e2,opt_some (clamp_eq _)]
  rfl
theorem ppublic {s:List Int} (hs:Byt s) (l:s.length=32):sign_Public s=some (keyOf s):=by
  obtain ⟨q,eq1,rq⟩:=mulBase_enc (mulOf_byt s)
  rw [sign_Public,opt_some (phalves hs l)]
  dsimp only
  rw [opt_some eq1,opt_some (encode_rep rq)]
  rfl
theorem byt3 {a b c:List Int} (ha:Byt a) (hb:Byt b) (hc:Byt c) : ∀ i,Byt (([a,b,c]:List (List Int)).getD i []):=by
  intro i
  match i with
  | 0=>exact ha
  | 1=>exact hb
  | 2=>exact hc
  | i+3=>exact Byt_nil
theorem byt2 {a b:List Int} (ha:Byt a) (hb:Byt b) : ∀ i,Byt (([a,b]:List (List Int)).getD i []):=by
  intro i
  match i with
  | 0=>exact ha
  | 1=>exact hb
  | i+2=>exact Byt_nil
theorem phash2 {a m:List Int} (ha:Byt a) (hm:Byt m) (h:a.length+m.length<9223372036854775808):sign_hash [a,m]=some (numOf (a++m)):=by
  have e:([a,m]:List (List Int)).flatten=a++m:=by simp
  rw [hash_val (byt2 ha hm) (by simp) (by rw [e,List.length_append]; exact h),e]
  rfl
theorem phash3 {a b m:List Int} (ha:Byt a) (hb:Byt b) (hm:Byt m) (h:a.length+(b.length+m.length)<9223372036854775808):sign_hash [a,b,m]=some (numOf (a++(b++m))):=by
  have e:([a,b,m]:List (List Int)).flatten=a++(b++m):=by simp
  rw [hash_val (byt3 ha hb hm) (by simp) (by rw [e,List.length_append,List.length_append]; exact h),e]
  rfl
theorem psign {s m:List Int} (hs:Byt s) (l:s.length=32) (hm:Byt m) (lm:m.length<9223372036854775000):sign_Sign s m=some (sigOf s m):=by
  obtain ⟨q,eq1,rq⟩:=mulBase_enc (mulOf_byt s)
  obtain ⟨q2,eq2,rq2⟩:=mulBase_enc (numOf_byt (preOf s++m))
  have hk:=phash3 (encG_byt (pB (rOf s m))) (keyOf_byt s) hm (by rw [encG_length,keyOf_len]; omega)
  rw [sign_Sign,opt_some (phalves hs l)]
  dsimp only
  rw [opt_some eq1,opt_some (encode_rep rq),opt_some (phash2 (preOf_byt s) hm (by rw [preOf_len]; omega)),opt_some eq2,opt_some (encode_rep rq2),jn_eq,tk_enc,tk_enc]
  show opt (sign_hash [encG (pB (rOf s m)),keyOf s,m]) _=_
  rw [opt_some hk]
  show opt (scalar_MulAdd (kOf s m) (mulOf s) (rOf s m)) _=_
  rw [opt_some (sMulAdd_val (kOf_byt s m) (mulOf_byt s) (rOf_byt s m)),bnd_eq,bnd_eq,tk_all (byt_length _)]
  show some (wr (wr (List.replicate 64 0) 0 ((encG (pB (rOf s m))).take 32)) 32 ((byt _).take (64-32)))=_
  rw [wr_two (encG_length _) (byt_length _)]
  rfl
theorem rjoined {a b c:List Int} (h:a.length+b.length+c.length≤140737488355328):q8_joined a b c=some (a++(b++c)):=by
  rw [q8_joined,chk_t (by simp; omega),bnd_eq,List.nil_append,chk_t (by simp; omega),bnd_eq,chk_t (by simp; omega),bnd_eq,List.append_assoc]
theorem rmultiplier {s:List Int} (hs:Byt s) (l:s.length=32):q8_multiplier s=some (mulOf s):=by
  have e0:tk s 0 32=s:=tk_all l
  rw [q8_multiplier,e0,opt_some (rSum_val (by omega) hs),opt_some (half_lo _),opt_some (rclamp_eq (tk_byt (hashL_byt s) 0 32) (tk_length _ _ _))]
  rfl
theorem rpublic {s:List Int} (hs:Byt s) (l:s.length=32):q8_Public s=some (keyOf s):=by
  obtain ⟨q,eq1,rq⟩:=rmulbase (mulOf_byt s)
  rw [q8_Public,opt_some (rmultiplier hs l),opt_some eq1,opt_some (rencode rq)]
  rfl
theorem rput_run (a b:List Int) (k:List Int→Option (List Int)):q8_Sign_l1 a b k big 0 (List.replicate 64 0)=k (tk a 0 32++tk b 0 32):=by kernel_rfl
theorem rred (M:List Int):q6_Reduce (hashL M)=some (numOf M):=rReduce (hashL_byt _) (hashL_len _)
theorem rsign {s m:List Int} (hs:Byt s) (l:s.length=32) (hm:Byt m) (lm:m.length+209≤140737488355328):q8_Sign s m=some (sigOf s m):=by
  have e0:tk s 0 32=s:=tk_all l
  obtain ⟨q2,eq2,rq2⟩:=rmulbase (numOf_byt (preOf s++m))
  have ep:tk (tk (hashL s) 32 32) 0 32=preOf s:=tk_all (tk_length _ _ _)
  have ek:tk (keyOf s) 0 32=keyOf s:=tk_all (keyOf_len s)
  have b1:Byt (preOf s++m):=Byt_cat (preOf_byt s) hm
  have b2:Byt (encG (pB (rOf s m))++(keyOf s++m)):=Byt_cat (encG_byt _) (Byt_cat (keyOf_byt s) hm)
  have l1:(preOf s++m).length+145≤140737488355328:=by rw [List.length_append,preOf_len]; omega
  have l2:(encG (pB (rOf s m))++(keyOf s++m)).length+145≤140737488355328:=by rw [List.length_append,List.length_append,encG_length,keyOf_len]; omega
  rw [q8_Sign,opt_some (rmultiplier hs l),opt_some (rpublic hs l),e0,opt_some (rSum_val (by omega) hs),opt_some (half_hi _),ep,opt_some (rjoined (by rw [preOf_len]; simp; omega)),List.append_nil]
  rw [opt_some (rSum_val l1 b1),opt_some (rred _),opt_some eq2,opt_some (rencode rq2),jn_eq,tk_enc,ek]
  show opt (q8_joined (encG (pB (rOf s m))) (keyOf s) m) _=_
  rw [opt_some (rjoined (by rw [encG_length,keyOf_len]; omega)),opt_some (rSum_val l2 b2),opt_some (rred _)]
  show opt (q6_MulAdd (kOf s m) (mulOf s) (rOf s m)) _=_
  rw [opt_some (rMulAdd (kOf_byt s m) (mulOf_byt s) (rOf_byt s m) (kOf_len s m) (mulOf_len s) (rOf_len s m)),jn_eq,rput_run]
  show some (tk (encG (pB (rOf s m))) 0 32++tk (byt _) 0 32)=_
  rw [tk_enc,tk_all (byt_length _)]
  rfl
def mks:List Int:=List.replicate 130 165
theorem marked_run (k:List Int→Option (List Int×Int)) : ∀ (d f:Nat) (l:List Int),d≤130→l.length+d≤140737488355328→fareboxlaw08_marked_l1 k (f+1+d) l (130-(d:Int))=k (l++List.replicate d 165)
  | 0,f,l,_,_=>by
    show fareboxlaw08_marked_b1 k _ l (130-((0:Nat):Int))=_
    rw [fareboxlaw08_marked_b1,br_ff (decide_eq_false (by omega)),List.replicate_zero,List.append_nil]
  | d+1,f,l,hd,hl=>by
    show fareboxlaw08_marked_b1 k (fareboxlaw08_marked_l1 k (f+1+d)) l (130-((d+1:Nat):Int))=_
    have e:IntKind.wrap .i64 (130-((d+1:Nat):Int)+1)=130-(d:Int):=by rw [wi64_small (by omega) (by omega)]; omega
    rw [fareboxlaw08_marked_b1,br_tt (decide_eq_true (by omega)),chk_t (by simp; omega),bnd_eq,bnd_eq,e,marked_run k d f (l ++ [165]) (by omega) (by simp; omega),List.append_assoc]
    rfl
theorem marked_eq {m:List Int} (h:m.length+130≤140737488355328):fareboxlaw08_marked m=some (m++mks,(m.length:Int)):=by
  obtain ⟨f,hf⟩ : ∃ f,big=f+1+130:=⟨18446744073709551485,big_eq⟩
  rw [fareboxlaw08_marked,chk_t (by simp; omega),bnd_eq,jn_eq,hf,List.nil_append]
  have h1:=marked_run (fun l61=>chk (cutB 0 (m.length:Int) l61.length) (some (l61,(m.length:Int)))) 130 f m (by omega) h
  have e:(130-((130:Nat):Int))=0:=by omega
  rw [e] at h1
  rw [h1,chk_t (by simp [cutB]; omega)]
  rfl
theorem left_run1 {p b:List Int} {z:Int} {k:Unit→Option Bool} (hz:z=((b.length+130:Nat):Int)) (hb:b.length≤140737488355328) (he : ∀ i,i<b.length→p.getD i 0=b.getD i 0) :
    ∀ (d f:Nat),d≤b.length→fareboxlaw08_left_l1 p b z k (f+1+d) ((b.length:Int)-(d:Int))=k ()
  | 0,f,_=>by
    show fareboxlaw08_left_b1 p b z k _ _=_
    rw [fareboxlaw08_left_b1,br_ff (decide_eq_false (by omega))]
  | d+1,f,hd=>by
    show fareboxlaw08_left_b1 p b z k (fareboxlaw08_left_l1 p b z k (f+1+d)) _=_
    have e:IntKind.wrap .i64 ((b.length:Int)-((d+1:Nat):Int)+1)=(b.length:Int)-(d:Int):=by rw [wi64_small (by omega) (by omega)]; omega
    have h1:=he ((b.length:Int)-((d+1:Nat):Int)).toNat (by omega)
    rw [fareboxlaw08_left_b1,br_tt (decide_eq_true (by omega)),chk_t (inB_t (by omega) (by omega)),chk_t (inB_t (by omega) (by omega)),bnd_eq,bnd_eq,h1,br_ff (by simp),bnd_eq,e]
    exact left_run1 hz hb he d f (by omega)
theorem left_run2 {p:List Int} {n:Nat} {z:Int} {k:Unit→Option Bool} (hz:z=((n+130:Nat):Int)) (hb:n≤140737488355328) (he : ∀ i,n≤i→i<n+130→p.getD i 0=165) :
    ∀ (d f:Nat),d≤130→fareboxlaw08_left_l2 p z k (f+1+d) (z-(d:Int))=k ()
  | 0,f,_=>by
    show fareboxlaw08_left_b2 p z k _ _=_
    rw [fareboxlaw08_left_b2,br_ff (decide_eq_false (by omega))]
  | d+1,f,hd=>by
    show fareboxlaw08_left_b2 p z k (fareboxlaw08_left_l2 p z k (f+1+d)) _=_
    have e:IntKind.wrap .i64 (z-((d+1:Nat):Int)+1)=z-(d:Int):=by rw [wi64_small (by omega) (by omega)]; omega
    have h1:=he (z-((d+1:Nat):Int)).toNat (by omega) (by omega)
    rw [fareboxlaw08_left_b2,br_tt (decide_eq_true (by omega)),chk_t (inB_t (by omega) (by omega)),bnd_eq,h1,br_ff (by simp),bnd_eq,e]
    exact left_run2 hz hb he d f (by omega)
theorem left_eq {b:List Int} {n:Int} (h:b.length+130≤140737488355328):fareboxlaw08_left (b++mks) n b=some true:=by
  have ew:IntKind.wrap .i64 ((b.length:Int)+130)=((b.length+130:Nat):Int):=by rw [wi64_small (by omega) (by omega)]; omega
  have lm:mks.length=130:=List.length_replicate
  obtain ⟨f,hf⟩ : ∃ f,big=f+1+b.length:=⟨18446744073709551615-b.length,by have:big=18446744073709551616:=big_eq; omega⟩
  obtain ⟨g,hg⟩ : ∃ f,big=f+1+130:=⟨18446744073709551485,big_eq⟩
  rw [fareboxlaw08_left,bnd_eq,ew,chk_t (by simp [cutB,lm]; omega),jn_eq]
  have h1:=@left_run1 (b++mks) b _ (fun (_:Unit)=>jn (fun (_:Unit)=>some true) fun k111=>fareboxlaw08_left_l2 (b++mks) ((b.length+130:Nat):Int) k111 big (b.length:Int)) rfl (by omega) (fun i hi=>app_getD1 hi) b.length f (Nat.le_refl _)
  have e:(b.length:Int)-(b.length:Int)=0:=by omega
  rw [e,← hf] at h1
  rw [h1,jn_eq]
  have h2:=@left_run2 (b++mks) b.length _ (fun (_:Unit)=>some true) rfl (by omega) (fun i h1 h2=>by
    rw [app_getD2 h1]
    simp only [mks,List.getD_eq_getElem?_getD,List.getElem?_replicate]
    rw [if_pos (by omega)]; rfl) 130 g (Nat.le_refl _)
  have e2:((b.length+130:Nat):Int)-((130:Nat):Int)=(b.length:Int):=by omega
  rw [e2,← hg] at h2
  exact h2
def oth (m:List Int):List Int:=if 0<m.length then m.set 0 (bitsV .xor .u8 (m.getD 0 0) 64) else m
theorem oth_len (m:List Int):(oth m).length=m.length:=by unfold oth; split <;> simp
theorem xor_byt {x:Int} (h:0≤x∧x<256):0≤bitsV .xor .u8 x 64∧bitsV .xor .u8 x 64<256:=by
  have g : ∀ n:Fin 256,0≤bitsV .xor .u8 (n.val:Int) 64∧bitsV .xor .u8 (n.val:Int) 64<256:=by decide +kernel
  have:=g ⟨x.toNat,by omega⟩
  have e:((x.toNat:Nat):Int)=x:=by omega
  simp only [e] at this
  exact this
theorem oth_byt {m:List Int} (h:Byt m):Byt (oth m):=by
  unfold oth
  split
  · intro i
    by_cases hi:i<m.length
    · simp only [List.getD_eq_getElem?_getD,List.getElem?_set]
      by_cases e:0=i
      · subst e
        rw [if_pos rfl,if_pos hi]
        exact xor_byt (h 0)
      · rw [if_neg e,← List.getD_eq_getElem?_getD]; exact h i
    · rw [getD_end (by simp; omega)]; decide
  · exact h
theorem turned_eq {m:List Int} (h:m.length+130≤140737488355328):fareboxlaw08_turned (m++mks) (m.length:Int)=some (oth m,oth m++mks):=by
  rw [fareboxlaw08_turned,jn_eq]
  unfold oth
  by_cases h0:0<m.length
  · rw [if_pos h0,br_tt (decide_eq_true (by omega)),chk_t (inB_t (by omega) (by omega)),bnd_eq,bnd_eq,chk_t (inB_t (by omega) (by omega)),bnd_eq,setG_eq (by simp; omega),app_getD1 h0,List.set_append_left _ _ h0]
    have hc:cutB 0 (m.length:Int) (m.set 0 (bitsV .xor .u8 (m.getD 0 0) 64)++mks).length=true:=by simp [cutB]; omega
    have ht:(m.set 0 (bitsV .xor .u8 (m.getD 0 0) 64)++mks).take m.length=m.set 0 (bitsV .xor .u8 (m.getD 0 0) 64):=List.take_left' (by simp)
    rw [chk_t hc,chk_t hc,chk_t hc,chk_t hc,Int.toNat_natCast]
    show chk _ _=_
    rw [ht,chk_t (by simp; omega),bnd_eq,List.nil_append]
  · rw [if_neg h0,br_ff (decide_eq_false (by omega)),Int.toNat_natCast]
    show chk _ _=_
    rw [List.take_left' rfl,chk_t (by simp; omega),bnd_eq,List.nil_append]
theorem mks_take (m:List Int):(m++mks).take ((m.length:Int)).toNat=m:=by rw [Int.toNat_natCast,List.take_left' rfl]
theorem mks_cut (m:List Int):cutB 0 (m.length:Int) (oth m++mks).length=true:=by rw [List.length_append,oth_len]; simp [cutB]; omega
theorem oth_take (m:List Int):(oth m++mks).take ((m.length:Int)).toNat=oth m:=by rw [← oth_len m]; exact mks_take _
theorem signSigns_eq {s m:List Int} (hs:Byt s) (l:s.length=32) (hm:Byt m) (lm:m.length+209≤140737488355328):fareboxlaw08_SignSigns s m=some true:=by
  have ho:=oth_byt hm
  have lo:=oth_len m
  have e1:ieq 32 (keyOf s) (keyOf s)=true:=decide_eq_true rfl
  have e2 (x:List Int):ieq 64 x x=true:=decide_eq_true rfl
  rw [fareboxlaw08_SignSigns,opt_some (marked_eq (by omega))]
  dsimp only
  rw [mks_take,opt_some (psign hs l hm (by omega)),opt_some (ppublic hs l),opt_some (rpublic hs l),rsign hs l hm lm,left_eq (by omega)]
  rw [chk_t (by simp [imp]),chk_t (by simp [imp]),br_ff (by simp [e1,e2]),opt_some (turned_eq (by omega))]
  dsimp only
  rw [chk_t (mks_cut m),chk_t (mks_cut m),chk_t (mks_cut m),chk_t (mks_cut m),oth_take,opt_some (psign hs l ho (by omega)),opt_some (rsign hs l ho (by omega)),left_eq (by omega),chk_t (by simp [imp]),e2]
  rfl
end Go.Proofs.YtiflckckekjbnaaGreatDoor
namespace Go.Sx
open Go Go.RowKit Go.ChangeShapes
set_option linter.all false
section
variable {H:Type} {enc:TypeId×Value→H}
theorem below_trodAll {P:Program} (hl:laidOutB P=true) {W W':World} (hb:Below W.heap.size W W') :
    ∀ {ts:List TypeId} {vs:List Value} {ds:List (DataW H)} {ps:List MemPlace},(ts.all fun t=>P.readableRec t&&decide (t<P.types.size))=true→(∀ x∈ps,x.block<W.heap.size) →
      DataW.TrodAll enc P W 0 (fun _=>true) true ts vs ds ps→DataW.TrodAll enc P W' 0 (fun b=>decide (b<W.heap.size)) true ts vs ds ps
  | [],[],[],_,_,_,h=>h
  | t::ts,v::vs,d::ds,ps,hr,hlt,h=>by
    obtain ⟨p,q,h1,h2,rfl⟩:=h
    simp only [List.all_cons,Bool.and_eq_true,decide_eq_true_eq] at hr
    exact ⟨p,q,Below.trod hl hr.1.1 hr.1.2 h1 hb (fun x hx=>hlt x (by simp [hx])),below_trodAll hl hb hr.2 (fun x hx=>hlt x (by simp [hx])) h2,rfl⟩
  | [],_::_,_,_,_,_,h=>h.elim
  | [],[],_::_,_,_,_,h=>h.elim
  | _::_,[],_,_,_,_,h=>h.elim
  | _::_,_::_,[],_,_,_,h=>h.elim
def LawAt (P:Program) (f:FuncId) (args:Array Value) (W:World):Prop:=Calls P f args W fun e w'=>e = .returned (.bool true)∧Below W.heap.size W w'
theorem trodAll_len {P:Program} {W:World} {base:Nat} {sp:Nat→Bool} {held:Bool} : ∀ {ts:List TypeId} {vs:List Value} {ds:List (DataW H)} {ps:List MemPlace},DataW.TrodAll enc P W base sp held ts vs ds ps→ds.length=ts.length∧vs.length=ts.length
  | [],[],[],_,_=>⟨rfl,rfl⟩
  | t::ts,v::vs,d::ds,ps,h=>by
    obtain ⟨p,q,_,h2,_⟩:=h
    have:=trodAll_len h2
    simp [this]
  | [],_::_,_,_,h=>h.elim
  | [],[],_::_,_,h=>h.elim
  | _::_,[],_,_,h=>h.elim
  | _::_,_::_,[],_,h=>h.elim
theorem law_post {C:Checked} {f:FuncId} {fn:Func} {s:ChangeSpec} {tb:TypeId} (hvars:s.vars = [])
    (hs : ∀ ds:List (DataW H),ds.length=fn.params.size→s.fn H ds = { results:=[.lit (.bool true)],args:=ds }) (hres:fn.resultTypes = #[tb]) (htb:C.prog.underlying tb=some .bool)
    (hl:laidOutB C.prog=true) (hpar:(fn.params.toList.all fun t=>C.prog.readableRec t&&decide (t<C.prog.types.size))=true)
    {W:World} {args:Array Value} {ds gs:List (DataW H)} {before:List MemPlace} (hW:DataW.Whole enc C.prog fn.params.toList s.vars false W args.toList ds gs before)
    (h:LawAt C.prog f args W):Calls C.prog f args W fun e W'=>∃ v,e = .returned v∧s.post enc C.prog fn false true false false W args v W':=by
  have hW':=hW
  have hlt:=hW.lt
  obtain ⟨p,q,hA,hV,rfl,hfz,hnd⟩:=hW
  rw [hvars] at hV
  obtain ⟨rfl,rfl⟩:=trodVars_none hV
  refine h.mono fun e W' ⟨he,bel⟩=>⟨_,he,ds,[],p ++ [],[],p,[],hW',?_,?_,?_,bel.frame _,fun h=>by cases h⟩
  · rw [List.append_nil,hs ds (by simpa using (trodAll_len hA).1),hres]
    exact trodAll_mk1 (shut_bool htb true)
  · rw [List.append_nil,hs ds (by simpa using (trodAll_len hA).1)]
    exact below_trodAll hl bel hpar (fun x hx=>hlt x (by simp [hx])) hA
  · rw [List.append_nil,hs ds (by simpa using (trodAll_len hA).1),hvars]
    rfl
structure Given (C:Checked) (fn:Func) (W:World) (args:Array Value):Prop where
  wide : ∃ base,∀ (j:Nat) t v,fn.params[j]? = some t→args[j]? = some v→Value.okWide C.prog W .any base t v
  read : ∃ (H:Type) (enc:TypeId×Value→H) (ds:List (DataW H)) (p:List MemPlace),DataW.TrodAll enc C.prog W 0 (fun _=>true) true fn.params.toList args.toList ds p ∧
    ((DataW.weightsEach C.prog fn.params.toList ds).all (· ≤ reachBytes)=true)
theorem law_laid {C:Checked} {os:Os} {f:FuncId} {fn:Func} {s:ChangeSpec} {tb:TypeId} {conds:List PathCond} {laid:List (String×DataW Unit)}
    (own:ownKnob C.prog.godebug=none) (started:os.Started) (noInit:C.prog.inits.idxOf? f=none) (hfn:C.prog.funcs[f]? = some fn) (hvars:s.vars = [])
    (hs : ∀ ds:List (DataW H),ds.length=fn.params.size→s.fn H ds = { results:=[.lit (.bool true)],args:=ds }) (hres:fn.resultTypes = #[tb]) (htb:C.prog.underlying tb=some .bool)
    (hl:laidOutB C.prog=true) (hpar:(fn.params.toList.all fun t=>C.prog.readableRec t&&decide (t<C.prog.types.size))=true)
    (witness : ∃ (w:World) (tape:Tape) (i:Input),w.os=os∧(w.forCall tape i).Shaped C.prog∧i.vars = []∧Input.okWide C.prog (w.forCall tape i) .any w.heap.size f i ∧
      ((s.pre enc C.prog fn conds false (w.forCall tape i).memory i.args∧laidMetH C.prog laid (w.forCall tape i).memory)∧sizedMet enc C.prog fn (OpenSpec.ofChange s) false (w.forCall tape i).memory i.args)∧({}:Assume).holds C.prog (lone (Frame.enter C.prog f i.args .normal) [] (w.forCall tape i)))
    (h : ∀ (W:World) (args:Array Value),laidMetH C.prog laid W→Given C fn W args→LawAt C.prog f args W) :
    ReturnsInHanded {} C os f .any (fun w args=>(s.pre enc C.prog fn conds false w args∧laidMetH C.prog laid w)∧sizedMet enc C.prog fn (OpenSpec.ofChange s) false w args) (s.post enc C.prog fn false true false false):=by
  refine returnsInHanded_of_change_and (X:=fun w _=>laidMetH C.prog laid w) (fun _ _ _ hh h=>h.of_heap hh) own started noInit hfn witness ?_
  intro W base args ds gs before hval hW _ hsz hL _
  refine law_post hvars hs hres htb hl hpar hW (h W args hL ⟨⟨base,hval⟩,?_⟩)
  obtain ⟨p,q,hA,hV,rfl,hfz,hnd⟩:=hW
  rw [hvars] at hV
  obtain ⟨rfl,rfl⟩:=trodVars_none hV
  refine ⟨H,enc,ds,p,hA,?_⟩
  simpa [ChangeSpec.plain,DataSpec.varTypes,hvars] using hsz
end
theorem fits_of_read {H:Type} {enc:TypeId×Value→H} {P:Program} {W:World} {n:Nat} {t:TypeId} {v:Value} {d:DataW H} {p:List MemPlace} {L:Lay}
    (hL:lay P n t .nil=some L) (h:DataW.Trod enc P W 0 (fun _=>true) true t v d p):Fits W maxLen L v.cells.toList:=by
  obtain ⟨fuel,hf⟩:=h
  have:=trod_fits (Small.all) n t .nil L hL fuel v.cells.toList d p hf trivial [] rfl
  simpa using this
def Open (C:Checked) (W:World) (n:Nat):List TypeId→List Value→Prop
  | [],vs=>vs = []
  | t::ts,vs=>∃ v vs',vs=v::vs'∧(∃ base,Value.okWide C.prog W .any base t v)∧(∀ L,lay C.prog n t .nil=some L→Fits W maxLen L v.cells.toList)∧Open C W n ts vs'
theorem Given.open {C:Checked} {fn:Func} {W:World} {args:Array Value} (h:Given C fn W args) (n:Nat):Open C W n fn.params.toList args.toList:=by
  obtain ⟨⟨base,hw⟩,⟨H,enc,ds,p,hA,_⟩⟩:=h
  have key : ∀ (ts:List TypeId) (vs:List Value) (ds:List (DataW H)) (p:List MemPlace),DataW.TrodAll enc C.prog W 0 (fun _=>true) true ts vs ds p →
      (∀ (j:Nat) t v,ts[j]? = some t→vs[j]? = some v→Value.okWide C.prog W .any base t v)→Open C W n ts vs:=by
    intro ts
    induction ts with
    | nil =>
      intro vs ds p h _
      cases vs with
      | nil=>rfl
      | cons v vs=>cases ds <;> exact h.elim
    | cons t ts ih =>
      intro vs ds p h hv
      cases vs with
      | nil=>cases ds <;> exact h.elim
      | cons v vs =>
        cases ds with
        | nil=>exact h.elim
        | cons d ds =>
          obtain ⟨p1,q1,h1,h2,rfl⟩:=h
          exact ⟨v,vs,rfl,⟨base,hv 0 t v rfl rfl⟩,fun L hL=>fits_of_read hL h1,ih vs ds q1 h2 fun j t v h3 h4=>hv (j+1) t v h3 h4⟩
  exact key _ _ ds p hA fun j t v h1 h2=>hw j t v (by simpa using h1) (by simpa using h2)
theorem wide_one {P:Program} {W:World} {base:Nat} {t:TypeId} {v x:Value} (hw:Value.okWide P W .any base t v) (hn:(match P.underlying t with | some (.struct _) | some (.array _ _)=>false | _=>true)=true)
    (h:v.cells.toList = [x]):v=x:=by
  cases v with
  | agg cs =>
    exfalso
    unfold Value.okWide at hw
    split at hw
    · rename_i hu; rw [hu] at hn; cases hn
    · rename_i hu; rw [hu] at hn; cases hn
    · unfold Cell.okWide at hw
      split at hw <;> first | (rename_i h2; cases h2; done) | skip
      simp only [Cell.ok] at hw
      split at hw <;> simp_all
  | _=>simpa [Value.cells] using h
theorem wide_agg {P:Program} {W:World} {base:Nat} {t:TypeId} {v:Value} (hw:Value.okWide P W .any base t v) (hn:(match P.underlying t with | some (.struct _) | some (.array _ _)=>true | _=>false)=true):v = .agg v.cells.toList.toArray:=by
  unfold Value.okWide at hw
  split at hw
  · obtain ⟨cs,rfl,_⟩:=hw; simp [Value.cells]
  · obtain ⟨cs,rfl,_⟩:=hw; simp [Value.cells]
  · rename_i h1 h2
    split at hn
    · rename_i hu; exact absurd hu (h1 _)
    · rename_i hu; exact absurd hu (h2 _ _)
    · cases hn
theorem intsCells_eq {k:IntKind} {cs:List Value} {xs:List Int} (hl:cs.length=xs.length) (h : ∀ i,i<xs.length→cs[i]? = some (.int k (xs.getD i 0))):cs=intsCells k xs.length xs:=by
  apply List.ext_getElem?
  intro i
  by_cases hi:i<xs.length
  · rw [h i hi]
    simp [intsCells,hi]
  · rw [List.getElem?_eq_none (by omega),List.getElem?_eq_none (by simp [intsCells]; omega)]
theorem laid_ints {P:Program} {W:World} {l:List (String×DataW Unit)} (h:laidMet P l W) {name:String} {k:IntKind} {xs:List Int} (hm:(name,DataW.agg (xs.map fun x=>.lit (.int k x)))∈l) {g:Nat} {t e:TypeId} {m:Nat}
    (hg:P.globalNamed name=some g) (ht:(P.globals[g]?).map (·.type)=some t) (hu:P.underlying t=some (.array m e)) (he:P.underlying e=some (.int k)) (hc:P.cellsOf e=1) (hn:P.cellsOf t=m) (h0:0<m) :
    Mem W g 0 [.ints k xs.length xs]:=by
  obtain ⟨ps,hv,-,-⟩:=h
  induction l generalizing ps with
  | nil=>cases hm
  | cons x l ih =>
    obtain ⟨n,d⟩:=x
    obtain ⟨g',t',cs,fuel,p,q,h1,h2,h3,h4,h5,_⟩:=hv
    rcases List.mem_cons.1 hm with hx | hx
    · cases hx
      obtain rfl:g'=g:=Option.some.inj (h1.symm.trans hg)
      obtain rfl:t'=t:=Option.some.inj (h2.symm.trans ht)
      obtain ⟨ys,m',_,hy,hlen,hyl,hel⟩:=DataW.trod_array hu h4
      simp only [Prod.mk.injEq,DataW.agg.injEq] at hy
      have hm':m=xs.length:=by rw [← hyl]; have:=congrArg List.length hy.1; simpa using this.symm
      have hcs:cs.toList=intsCells k xs.length xs:=by
        refine intsCells_eq (by omega) fun i hi=>?_
        have h6:=hel i (by omega)
        have h7:i<ys.length:=by omega
        rw [List.getElem?_eq_getElem h7] at h6
        obtain ⟨z,h8,h9,_⟩:=DataW.trod_int he h6
        have h10:(ys.map (·.1))[i]? = some (.lit (.int k (xs.getD i 0))):=by rw [← hy.1]; simp [hi]
        rw [List.getElem?_map,List.getElem?_eq_getElem h7,Option.map_some,h9] at h10
        simp only [Option.some.injEq,DataW.lit.injEq,Lit.int.injEq,true_and] at h10
        subst h10
        rw [hc] at h8
        have:=congrArg (fun l=>l[0]?) h8
        simpa using this
      refine mem_of_cells (n:=xs.length) (cs:=cs.toList) (fun i hi=>?_) (by rw [hlen,hn,hm']) (by omega) (by rw [hcs]; simp [cells,Seg.cells]) (by simp [width,Seg.width])
      have:=World.var?_cell hg h3 i
      simpa using this
    · exact ih hx _ h5
end Go.Sx
namespace Go.Sx
open Go Go.RowKit
set_option linter.all false
theorem rd_of_SlI {W:World} {k:IntKind} {a:Option Addr} {len cap:Nat} {xs:List Int} (h:SlI W k a cap xs) (hl:len≤cap):RdSl (El.int k) W (slV (a,len,cap)) (xs.take len):=by
  have hx:=h.len
  have hlen:(xs.take len).length=len:=by rw [List.length_take]; omega
  rcases h.at_ with h0 | ⟨b,off,rfl,hm⟩
  · subst h0
    obtain rfl:len=0:=by omega
    cases a with
    | none=>exact .inl ⟨rfl,by simp⟩
    | some a=>exact .inr (.inr ⟨a,rfl,by simp⟩)
  · refine .inr (.inl ⟨b,off,cap,by rw [hlen]; rfl,by omega,fun i hi j hj=>?_⟩)
    rw [hlen] at hi
    obtain rfl:j=0:=by simp only at hj; omega
    have:=hm.cell i (by simp only [width,Seg.width]; omega)
    simp only [cells,Seg.cells,List.append_nil] at this
    simp only [Nat.mul_one,Nat.add_zero]
    rw [this,intsCells_get (by omega)]
    simp [List.getD_eq_getElem?_getD,List.getElem?_take,hi]
theorem Given.slice_bytes2 {C:Checked} {fn:Func} {W:World} {args:Array Value} (h:Given C fn W args) {t0 t e:TypeId} {ts:List TypeId} {v0:Value} {a:Addr} {len cap:Nat} {vs:List Value}
    (hp:fn.params.toList=t0::t::ts) (hu:C.prog.underlying t=some (.slice e)) (ha:args.toList=v0 :: .slice (some a) len cap::vs):cap*C.prog.bytesOf e≤reachBytes:=by
  obtain ⟨H,enc,ds,p,hA,hw⟩:=h.read
  rw [hp,ha] at hA
  rw [hp] at hw
  cases ds with
  | nil=>exact hA.elim
  | cons d0 ds =>
    obtain ⟨p0,q0,_,h0,rfl⟩:=hA
    cases ds with
    | nil=>exact h0.elim
    | cons d ds =>
      obtain ⟨p1,q1,⟨fuel,hf⟩,h2,rfl⟩:=h0
      rcases DataW.trod_slice hu hf with ⟨e1,_⟩ | ⟨a',len',cap',elems,rest,m,e1,e2,hx,_,hlc,_,hel,_,hR,_⟩
      · exact absurd e1 (by simp [Value.cells])
      · have e3:(Value.slice (some a) len cap) = .slice (some a') len' cap':=by simpa [Value.cells] using e2
        injection e3 with e4 e5 e6
        subst e5; subst e6
        obtain ⟨hr,_⟩:=hR rfl
        simp only [Prod.mk.injEq] at hx
        rw [hx.1] at hw
        simp only [DataW.weightsEach,DataW.weights,hu,List.all_append,List.all_cons,Bool.and_eq_true,decide_eq_true_eq,List.length_map,hel,hr] at hw
        have:=hw.2.1.1
        rwa [show len+(cap-len)=cap by omega] at this
end Go.Sx
