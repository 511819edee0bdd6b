/- Texts of a proof, one behind the other: N12 H1 H2 R1 R2 V2 V3 HB R3 G3 H3 R4 R5 R6 R7. -/
import Derived.Test.YtiflckckekjbnaaGreatDoorMS6
namespace Go.Proofs.YtiflckckekjbnaaGreatDoor
set_option linter.all false
set_option maxRecDepth 100000
def fi (n:Int):F:=⟨(n%57896044618658097711785492504343953926634992332820282019728792003956564819949).toNat,by
  show _<57896044618658097711785492504343953926634992332820282019728792003956564819949
  omega⟩
theorem Zdd (n:Int):((fi n).val:Int)=n%57896044618658097711785492504343953926634992332820282019728792003956564819949:=by
  show (((n%_).toNat:Nat):Int)=_
  omega
theorem Z02j:(pN:Int)=57896044618658097711785492504343953926634992332820282019728792003956564819949:=by decide +kernel
theorem Z0vs {a b:Int}:fi a=fi b↔a%57896044618658097711785492504343953926634992332820282019728792003956564819949=b%57896044618658097711785492504343953926634992332820282019728792003956564819949:=by
  constructor
  · intro h
    rw [← Zdd,← Zdd,h]
  · intro h
    apply Fin.ext
    have:((fi a).val:Int)=((fi b).val:Int):=by rw [Zdd,Zdd,h]
    omega
theorem Za1 (a b:Int):fi (a+b)=fi a+fi b:=by
  apply Fin.ext
  rw [Fin.val_add]
  apply Int.ofNat_inj.1
  rw [Zdd,Int.natCast_emod,Int.natCast_add,Zdd,Zdd,Z02j]
  exact Int.add_emod _ _ _
theorem Z24 (a b:Int):fi (a*b)=fi a*fi b:=by
  apply Fin.ext
  rw [Fin.val_mul]
  apply Int.ofNat_inj.1
  rw [Zdd,Int.natCast_emod,Int.natCast_mul,Zdd,Zdd,Z02j]
  exact Int.mul_emod _ _ _
theorem fi_1:fi 1=1:=by decide +kernel
theorem Zdc (a b:Int):fi (a-b)=fi a-fi b:=by
  have h:=Za1 (a-b) b
  rw [Int.sub_add_cancel] at h
  grind -lia -linarith (splits:=0)
theorem Zcv (a:Int):fi (a%57896044618658097711785492504343953926634992332820282019728792003956564819949)=fi a:=by
  rw [Z0vs]; exact Int.emod_emod_of_dvd _ (Int.dvd_refl _)
def fv (x:F):Int:=(x.val:Int)
theorem Zrd (x:F):0≤fv x∧fv x<57896044618658097711785492504343953926634992332820282019728792003956564819949:=by
  have:=x.isLt
  have h:=Z02j
  unfold fv
  omega
theorem Zy3 (n:Int):fv (fi n)=n%57896044618658097711785492504343953926634992332820282019728792003956564819949:=Zdd n
def pwF (x:F):Nat→F
  | 0=>1
  | n+1=>pwF x n*x
theorem Zrv (x:F):pwF x 0=1:=rfl
theorem Zgd (x:F) (n:Nat):pwF x (n+1)=pwF x n*x:=rfl
theorem Zvw (x:F) (m n:Nat):pwF x (m+n)=pwF x m*pwF x n:=by
  induction n with
  | zero=>rw [Nat.add_zero,Zrv]; generalize pwF x m=z; grind -lia -linarith (splits:=0)
  | succ n ih=>rw [← Nat.add_assoc,Zgd,Zgd,ih]; generalize pwF x m=z; generalize pwF x n=w; grind -lia -linarith (splits:=0)
theorem Z02r (x:F) (n:Nat):(pwF x n).val=x.val^n%pN:=by
  induction n with
  | zero=>rw [Zrv,Nat.pow_zero]; decide +kernel
  | succ n ih=>rw [Zgd,Fin.val_mul,ih,Nat.mod_mul_mod,Nat.pow_succ]
theorem Z022 {x:F} {n:Nat} (hn:n=pN-1) (hx:x≠0):pwF x n=1:=by
  have h0:x.val%pN≠0:=by
    intro h
    apply hx
    rw [Nat.mod_eq_of_lt x.isLt] at h
    exact Fin.ext h
  have h:=Zuz h0
  rw [← hn] at h
  unfold One at h
  apply Fin.ext
  rw [Z02r,h]
  decide +kernel
theorem Zv7 {x:F} {n:Nat} (hn:n+2=pN) (hx:x≠0):x*pwF x n=1:=by
  have h:=Z022 (n:=n+1) (by omega) hx
  rw [Zgd] at h
  rw [← h]
  generalize pwF x n=z
  grind -lia -linarith (splits:=0)
end Go.Proofs.YtiflckckekjbnaaGreatDoor
namespace Go.Proofs.YtiflckckekjbnaaGreatDoor
open Go Go.Sx Go.RowKit
set_option linter.all false
set_option maxRecDepth 100000
structure Rep (q:Q4) (P:G):Prop where
  z:fi q.z≠0
  x:fi q.x=P.x*fi q.z
  y:fi q.y=P.y*fi q.z
  t:fi q.t=P.x*P.y*fi q.z
theorem Z069:fi D2=dF+dF:=by decide +kernel
theorem Z06a:fi DD=dF:=by decide +kernel
theorem Z8n {a b:F} (ha:a≠0) (hb:b≠0):a*b≠0:=fun h=>(Zme h).elim ha hb
theorem Z18e:(1:F)+1≠0:=by decide +kernel
theorem Zlr {e f g h:Int} {P:G} (hf:fi f≠0) (hg:fi g≠0) (he:fi e=P.x*fi g) (hh:fi h=P.y*fi f):Rep (Zn8 e f g h) P:=by
  constructor
  · show fi (f*g)≠0
    rw [Z24]; exact Z8n hf hg
  · show fi (e*f)=_*fi (f*g)
    rw [Z24,Z24,he]; grind -lia -linarith (splits:=0)
  · show fi (g*h)=_*fi (f*g)
    rw [Z24,Z24,hh]; grind -lia -linarith (splits:=0)
  · show fi (e*h)=_*fi (f*g)
    rw [Z24,Z24,he,hh]; grind -lia -linarith (splits:=0)
theorem Zqt (P Q:G):(Zcb P Q).x*(1+dF*P.x*Q.x*P.y*Q.y)=P.x*Q.y+P.y*Q.x:=by
  have h:=Z5b (Zut P.on Q.on)
  show (P.x*Q.y+P.y*Q.x)*Zri (1+dF*P.x*Q.x*P.y*Q.y)*_=_
  generalize Zri (1+dF*P.x*Q.x*P.y*Q.y)=i at *
  generalize dF=d at *
  grind -lia -linarith (splits:=0)
theorem Zqu (P Q:G):(Zcb P Q).y*(1-dF*P.x*Q.x*P.y*Q.y)=P.y*Q.y+P.x*Q.x:=by
  have h:=Z5b (Zuu P.on Q.on)
  show (P.y*Q.y+P.x*Q.x)*Zri (1-dF*P.x*Q.x*P.y*Q.y)*_=_
  generalize Zri (1-dF*P.x*Q.x*P.y*Q.y)=i at *
  generalize dF=d at *
  grind -lia -linarith (splits:=0)
theorem Z04w {p q:Q4} {P Q:G} (hp:Rep p P) (hq:Rep q Q):Rep (qadd p q) (Zcb P Q):=by
  have d1:=Zut P.on Q.on
  have d2:=Zuu P.on Q.on
  have ax:=Zqt P Q
  have ay:=Zqu P Q
  have hz:=Z8n Z18e (Z8n hp.z hq.z)
  have ef:fi ((p.z+p.z)*q.z-p.t*D2*q.t)=(1+1)*(fi p.z*fi q.z)*(1-dF*P.x*Q.x*P.y*Q.y):=by
    simp only [Z24,Zdc,Za1,Z069,hp.t,hq.t]
    generalize dF=d at *
    grind -lia -linarith (splits:=0)
  have eg:fi ((p.z+p.z)*q.z+p.t*D2*q.t)=(1+1)*(fi p.z*fi q.z)*(1+dF*P.x*Q.x*P.y*Q.y):=by
    simp only [Z24,Zdc,Za1,Z069,hp.t,hq.t]
    generalize dF=d at *
    grind -lia -linarith (splits:=0)
  refine Zlr ?_ ?_ ?_ ?_
  · rw [ef]; exact Z8n hz d2
  · rw [eg]; exact Z8n hz d1
  · rw [eg]
    simp only [Z24,Zdc,Za1,hp.x,hq.x,hp.y,hq.y]
    generalize dF=d at *
    generalize (Zcb P Q).x=X at *
    grind -lia -linarith (splits:=0)
  · rw [ef]
    simp only [Z24,Zdc,Za1,hp.x,hq.x,hp.y,hq.y]
    generalize dF=d at *
    generalize (Zcb P Q).y=Y at *
    grind -lia -linarith (splits:=0)
theorem Z04y {p:Q4} {P:G} (hp:Rep p P):Rep (qdbl p) (Zcb P P):=by
  have d1:=Zut P.on P.on
  have d2:=Zuu P.on P.on
  have ax:=Zqt P P
  have ay:=Zqu P P
  have on:=P.on.eq
  have ef:fi (p.z*p.z+p.z*p.z+(p.x*p.x-p.y*p.y))=(fi p.z*fi p.z)*(1-dF*P.x*P.x*P.y*P.y):=by
    simp only [Z24,Zdc,Za1,hp.x,hp.y]
    generalize dF=d at *
    grind -lia -linarith (splits:=0)
  have eg:fi (p.x*p.x-p.y*p.y) = - (fi p.z*fi p.z)*(1+dF*P.x*P.x*P.y*P.y):=by
    simp only [Z24,Zdc,Za1,hp.x,hp.y]
    generalize dF=d at *
    grind -lia -linarith (splits:=0)
  have hz:=Z8n hp.z hp.z
  have hz' : - (fi p.z*fi p.z)≠0:=by
    intro h; apply hz
    grind -lia -linarith (splits:=0)
  refine Zlr ?_ ?_ ?_ ?_
  · rw [ef]; exact Z8n hz d2
  · rw [eg]; exact Z8n hz' d1
  · rw [eg]
    simp only [Z24,Zdc,Za1,hp.x,hp.y]
    generalize dF=d at *
    generalize (Zcb P P).x=X at *
    grind -lia -linarith (splits:=0)
  · rw [ef]
    simp only [Z24,Zdc,Za1,hp.x,hp.y]
    generalize dF=d at *
    generalize (Zcb P P).y=Y at *
    grind -lia -linarith (splits:=0)
theorem Zwb {q:Q4} {P:G} (h:Rep q P):Rep (qred q) P:=by
  constructor
  · show fi (q.z%PP)≠0; rw [Zcv]; exact h.z
  · show fi (q.x%PP)=_*fi (q.z%PP); rw [Zcv,Zcv]; exact h.x
  · show fi (q.y%PP)=_*fi (q.z%PP); rw [Zcv,Zcv]; exact h.y
  · show fi (q.t%PP)=_*fi (q.z%PP); rw [Zcv,Zcv]; exact h.t
theorem Zs3:Rep Zw1 Zel:=by
  constructor
  · show fi 1≠0; decide +kernel
  · show fi 0=0*fi 1; decide +kernel
  · show fi 1=1*fi 1; decide +kernel
  · show fi 0=0*1*fi 1; decide +kernel
theorem Zs1 {p q:Q4} {P Q:G} (hp:Rep p P) (hq:Rep q Q):Rep (Zqc p q) (Zcb P Q):=Zwb (Z04w hp hq)
theorem Ziw {p:Q4} {P:G} (hp:Rep p P):Rep (Ze8 p) (Zcb P P):=Zwb (Z04y hp)
theorem Zwc {p:Q4} {P:G} (hp:Rep p P) : ∀ j,Rep (tab p j) (Zjl j P)
  | 0=>Zs3
  | j+1=>Zs1 (Zwc hp j) hp
theorem Zy9 (P:G):Zjl 1 P=P:=Zxf P
theorem Zau (P:G):Zjl 2 P=Zcb P P:=by
  show Zcb (Zjl 1 P) P=_
  rw [Zy9]
theorem Zyz {p:Q4} {P:G} (hp:Rep p P):Rep (Zsx p) (Zjl 16 P):=by
  have h:=Ziw (Ziw (Ziw (Ziw hp)))
  rw [← Zau,← Zau,← Zau,← Zau,← Z9f,← Z9f,← Z9f] at h
  exact h
def nacc (k:List Int):Nat→Nat
  | 0=>0
  | i+1=>16*nacc k i+(nib k i).toNat
theorem Zs2 {p:Q4} {P:G} (k:List Int) (hp:Rep p P) : ∀ i,Rep (Zou k p i) (Zjl (nacc k i) P)
  | 0=>Zs3
  | i+1=>by
    have h:=Zs1 (Zyz (Zs2 k hp i)) (Zwc hp (nib k i).toNat)
    rw [← Z9f,← Zio] at h
    exact h
def Zjg (k:List Int):Nat→Int
  | 0=>0
  | j+1=>Zjg k j*256+k.getD (31-j) 0
theorem Zmu {k:List Int} (hk:Byt k) : ∀ j,(nacc k (2*j):Int)=Zjg k j
  | 0=>rfl
  | j+1=>by
    have ih:=Zmu hk j
    have hb:=hk (31-j)
    have e1:nib k (2*j)=k.getD (31-j) 0 / 16%16:=by unfold nib; rw [if_pos (by omega),show 2*j / 2=j by omega]
    have e2:nib k (2*j+1)=k.getD (31-j) 0%16:=by unfold nib; rw [if_neg (by omega),show (2*j+1) / 2=j by omega]
    show ((16*(16*nacc k (2*j)+(nib k (2*j)).toNat)+(nib k (2*j+1)).toNat:Nat):Int)=Zjg k j*256+k.getD (31-j) 0
    rw [e1,e2]
    generalize k.getD (31-j) 0=b at *
    generalize nacc k (2*j)=n at *
    generalize Zjg k j=m at *
    omega
def Z9k (x:List Int):Int:=x.getD 0 0+x.getD 1 0*256+x.getD 2 0*65536+x.getD 3 0*16777216+x.getD 4 0*4294967296+x.getD 5 0*1099511627776+x.getD 6 0*281474976710656+x.getD 7 0*72057594037927936+x.getD 8 0*18446744073709551616+x.getD 9 0*4722366482869645213696+x.getD 10 0*1208925819614629174706176+x.getD 11 0*309485009821345068724781056+x.getD 12 0*79228162514264337593543950336+x.getD 13 0*20282409603651670423947251286016+x.getD 14 0*5192296858534827628530496329220096+x.getD 15 0*1329227995784915872903807060280344576+x.getD 16 0*340282366920938463463374607431768211456+x.getD 17 0*87112285931760246646623899502532662132736+x.getD 18 0*22300745198530623141535718272648361505980416+x.getD 19 0*5708990770823839524233143877797980545530986496+x.getD 20 0*1461501637330902918203684832716283019655932542976+x.getD 21 0*374144419156711147060143317175368453031918731001856+x.getD 22 0*95780971304118053647396689196894323976171195136475136+x.getD 23 0*24519928653854221733733552434404946937899825954937634816+x.getD 24 0*6277101735386680763835789423207666416102355444464034512896+x.getD 25 0*1606938044258990275541962092341162602522202993782792835301376+x.getD 26 0*411376139330301510538742295639337626245683966408394965837152256+x.getD 27 0*105312291668557186697918027683670432318895095400549111254310977536+x.getD 28 0*26959946667150639794667015087019630673637144422540572481103610249216+x.getD 29 0*6901746346790563787434755862277025452451108972170386555162524223799296+x.getD 30 0*1766847064778384329583297500742918515827483896875618958121606201292619776+x.getD 31 0*452312848583266388373324160190187140051835877600158453279131187530910662656
theorem Zfl (k:List Int):Zjg k 32=Z9k k:=by
  simp only [Zjg,Z9k]
  simp only [Nat.reduceSub]
  omega
theorem Z02a {k:List Int} (hk:Byt k):nacc k 64=(Z9k k).toNat:=by
  have h:(nacc k 64:Int)=Zjg k 32:=Zmu hk 32
  rw [Zfl] at h
  omega
theorem Zcr {k:List Int} (hk:Byt k):0≤Z9k k:=by
  have h:(nacc k 64:Int)=Zjg k 32:=Zmu hk 32
  rw [Zfl] at h
  omega
def bnum (e:List Int):Nat→Nat
  | 0=>0
  | k+1=>if ebit e (255-k) then 2*bnum e k+1 else 2*bnum e k
theorem Zy1 (x:Int) (e:List Int) : ∀ k,fi (pw x e k)=pwF (fi x) (bnum e k)
  | 0=>fi_1
  | k+1=>by
    have ih:=Zy1 x e k
    simp only [pw,bnum]
    split
    · rw [Zcv,Z24,Zcv,Z24,ih,Zgd,Nat.two_mul,Zvw]
    · rw [Zcv,Z24,ih,Nat.two_mul,Zvw]
theorem Zqy:bnum Zpl 256+2=pN:=by decide +kernel
theorem Z023 {a:Int} (h:fi a≠0):fi a*fi (Zv0 a)=1:=by
  unfold Zv0
  rw [Zy1,Zcv]
  exact Zv7 Zqy h
def Znw (P:G):List Int:=Zjc (fv P.x) (fv P.y)
theorem Zpt {x y u v:Int} (h1:x%PP=u%PP) (h2:y%PP=v%PP):Zjc x y=Zjc u v:=by
  unfold Zjc; rw [h1,h2]
theorem Z04x {q:Q4} {P:G} (h:Rep q P):fi (q.x*Zv0 q.z)=P.x∧fi (q.y*Zv0 q.z)=P.y:=by
  have hi:=Z023 h.z
  rw [Z24,Z24,h.x,h.y]
  generalize fi (Zv0 q.z)=i at *
  generalize fi q.z=z at *
  exact ⟨by grind -lia -linarith (splits:=0),by grind -lia -linarith (splits:=0)⟩
theorem Zrc (x:F):fv x%PP=fv x:=Int.emod_eq_of_lt (Zrd x).1 (Zrd x).2
theorem Z01y {q:Q4} {P:G} (h:Rep q P):encQ q=Znw P:=by
  have ha:=Z04x h
  refine Zpt ?_ ?_
  · rw [Zrc,← ha.1,Zy3]
  · rw [Zrc,← ha.2,Zy3]
theorem Zj5 (n:Int):Byt (byt n):=byt_of (by
  unfold byt
  repeat' (first | exact List.forall_mem_nil _ | refine List.forall_mem_cons.2 ⟨?_,?_⟩)
  all_goals omega)
theorem Z6w (n:Int):(byt n).length=32:=rfl
theorem Z0bp {x:Int} (h0:0≤x) (h1:x<128):Z4 .or .u8 x 128=x+128:=by
  have:x=((x.toNat:Nat):Int):=by omega
  rw [this]
  have hx:x.toNat<128:=by omega
  generalize x.toNat=n at *
  have h : ∀ n:Fin 128,Z4 .or .u8 ((n.val:Nat):Int) 128=(n.val:Int)+128:=by decide +kernel
  exact h ⟨n,hx⟩
theorem Zzx {n:Int} (h0:0≤n) (h1:n<PP):0≤(byt n).getD 31 0∧(byt n).getD 31 0<128:=by
  have e:(byt n).getD 31 0=n / 452312848583266388373324160190187140051835877600158453279131187530910662656%256:=rfl
  rw [e]
  unfold PP at h1
  omega
theorem Zqf {l:List Int} {i:Nat} {v:Int} (h:i<l.length):(Z21 l i v).length=l.length:=by rw [Zwt h,List.length_set]
theorem Z01x (x y:Int):Byt (Zjc x y):=by
  unfold Zjc
  split
  · refine Zey (Zj5 _) ?_
    have:=Zzx (n:=y%PP) (Int.emod_nonneg _ (by decide)) (Int.emod_lt_of_pos _ Ziz)
    rw [Z0bp this.1 this.2]
    omega
  · exact Zj5 _
theorem Zt1 (x y:Int):(Zjc x y).length=32:=by
  unfold Zjc
  split
  · rw [Zqf (by rw [Z6w]; decide),Z6w]
  · exact Z6w _
set_option maxHeartbeats 1000000
def rV (l:List Int):Nat→Int
  | 0=>0
  | n+1=>rV l n+l.getD n 0*(67108864:Int)^n
theorem Z85 (l:List Int) (n:Nat):rV l (n+1)=rV l n+l.getD n 0*(67108864:Int)^n:=rfl
theorem Zk6 (l:List Int) (i:Nat) (v:Int) : ∀ n,n≤i→rV (Z21 l i v) n=rV l n
  | 0,_=>rfl
  | n+1,h=>by rw [Z85,Z85,Zk6 l i v n (by omega),Z0s,if_neg (by omega)]
theorem Zi1 (l:List Int) (i:Nat) (v:Int) : ∀ n,i<n→rV (Z21 l i v) n=rV l n+(v-l.getD i 0)*(67108864:Int)^i
  | 0,h=>by omega
  | n+1,h=>by
    rw [Z85,Z85,Z0s]
    by_cases hi:n=i
    · subst hi
      rw [if_pos rfl,Zk6 l n v n (Nat.le_refl _),Int.sub_mul]
      omega
    · rw [if_neg hi,Zi1 l i v n (by omega)]
      omega
theorem Zs6 (n:Nat):0<(67108864:Int)^n:=Int.pow_pos (by decide)
theorem Zk5 {l:List Int} : ∀ n,(∀ i,i<n→0≤l.getD i 0∧l.getD i 0<67108864)→0≤rV l n∧rV l n<(67108864:Int)^n
  | 0,_=>by show (0:Int)≤0∧(0:Int)<1; omega
  | n+1,h=>by
    have ih:=Zk5 n (fun i hi=>h i (by omega))
    have h1:=h n (by omega)
    have hp:=Zs6 n
    rw [Z85,Int.pow_succ]
    generalize (67108864:Int)^n=w at *
    generalize l.getD n 0=x at *
    generalize rV l n=v at *
    have a:0≤x*w:=Int.mul_nonneg h1.1 (by omega)
    have b:x*w≤67108863*w:=Int.mul_le_mul_of_nonneg_right (by omega) (by omega)
    omega
theorem Zuc {x:Int} (h0:0≤x) (h1:x<18446744073709551616):Z4 .and .u64 x 67108863=x%67108864:=Zgv 26 (by decide) (by decide) h0 h1
theorem Z0vf {x:Int} (h0:0≤x) (h1:x<18446744073709551616):Z4 .and .u64 x 2097151=x%2097152:=Zgv 21 (by decide) (by decide) h0 h1
theorem Zzd (x:Int):Zn .u64 x 26=x / 67108864:=by have:=Z93 .u64 (x:=x) (n:=26) (by decide); simpa using this
theorem Z189 (x:Int):Zn .u64 x 21=x / 2097152:=by have:=Z93 .u64 (x:=x) (n:=21) (by decide); simpa using this
theorem Z18b (x:Int):Zn .u64 x 52=x / 4503599627370496:=by have:=Z93 .u64 (x:=x) (n:=52) (by decide); simpa using this
theorem Z42 {l:List Int} {i:Nat} {v:Int} (h:i<l.length):(Z21 l i v).length=l.length:=by rw [Zwt h,List.length_set]
theorem Z29 {i:Nat} (h:i<1000000):IntKind.wrap .i64 ((i:Int)+1)=((i+1:Nat):Int):=by rw [Ze (by omega) (by omega)]; rfl
def Zxk (n:Int):List Int:=[n%67108864,n / 67108864%67108864,n / 4503599627370496%67108864,n / 302231454903657293676544%67108864,n / 20282409603651670423947251286016%67108864,n / 1361129467683753853853498429727072845824%67108864,n / 91343852333181432387730302044767688728495783936%67108864,n / 6129982163463555433433388108601236734474956488734408704%67108864,n / 411376139330301510538742295639337626245683966408394965837152256%67108864,n / 27606985387162255149739023449108101809804435888681546220650096895197184%67108864]
def rn (n:Int):List Int:=Zxk (n%PP)
theorem Zow (l:List Int):rV l 10=l.getD 0 0+l.getD 1 0*67108864+l.getD 2 0*4503599627370496+l.getD 3 0*302231454903657293676544+l.getD 4 0*20282409603651670423947251286016+l.getD 5 0*1361129467683753853853498429727072845824+l.getD 6 0*91343852333181432387730302044767688728495783936+l.getD 7 0*6129982163463555433433388108601236734474956488734408704+l.getD 8 0*411376139330301510538742295639337626245683966408394965837152256+l.getD 9 0*27606985387162255149739023449108101809804435888681546220650096895197184:=by
  simp only [rV]
  have e0:(67108864:Int)^0=1:=by decide
  have e1:(67108864:Int)^1=67108864:=by decide
  have e2:(67108864:Int)^2=4503599627370496:=by decide
  have e3:(67108864:Int)^3=302231454903657293676544:=by decide
  have e4:(67108864:Int)^4=20282409603651670423947251286016:=by decide
  have e5:(67108864:Int)^5=1361129467683753853853498429727072845824:=by decide
  have e6:(67108864:Int)^6=91343852333181432387730302044767688728495783936:=by decide
  have e7:(67108864:Int)^7=6129982163463555433433388108601236734474956488734408704:=by decide
  have e8:(67108864:Int)^8=411376139330301510538742295639337626245683966408394965837152256:=by decide
  have e9:(67108864:Int)^9=27606985387162255149739023449108101809804435888681546220650096895197184:=by decide
  rw [e0,e1,e2,e3,e4,e5,e6,e7,e8,e9]
  omega
theorem Zin {l:List Int} (h:l.length=10):l = [l.getD 0 0,l.getD 1 0,l.getD 2 0,l.getD 3 0,l.getD 4 0,l.getD 5 0,l.getD 6 0,l.getD 7 0,l.getD 8 0,l.getD 9 0]:=by
  match l,h with
  | [a0,a1,a2,a3,a4,a5,a6,a7,a8,a9],_=>rfl
theorem Zk7 {l:List Int} (hl:l.length=10) (hd : ∀ i,0≤l.getD i 0∧l.getD i 0<67108864):l=Zxk (rV l 10):=by
  rw [Zow]
  have e:=Zin hl
  have h0:=hd 0
  have h1:=hd 1
  have h2:=hd 2
  have h3:=hd 3
  have h4:=hd 4
  have h5:=hd 5
  have h6:=hd 6
  have h7:=hd 7
  have h8:=hd 8
  have h9:=hd 9
  generalize hq:l.getD 0 0+l.getD 1 0*67108864+l.getD 2 0*4503599627370496+l.getD 3 0*302231454903657293676544+l.getD 4 0*20282409603651670423947251286016+l.getD 5 0*1361129467683753853853498429727072845824+l.getD 6 0*91343852333181432387730302044767688728495783936+l.getD 7 0*6129982163463555433433388108601236734474956488734408704+l.getD 8 0*411376139330301510538742295639337626245683966408394965837152256+l.getD 9 0*27606985387162255149739023449108101809804435888681546220650096895197184=n
  refine e.trans ?_
  clear e hd hl
  generalize l.getD 0 0=d0 at *
  generalize l.getD 1 0=d1 at *
  generalize l.getD 2 0=d2 at *
  generalize l.getD 3 0=d3 at *
  generalize l.getD 4 0=d4 at *
  generalize l.getD 5 0=d5 at *
  generalize l.getD 6 0=d6 at *
  generalize l.getD 7 0=d7 at *
  generalize l.getD 8 0=d8 at *
  generalize l.getD 9 0=d9 at *
  unfold Zxk
  simp only [List.cons.injEq,and_true]
  refine ⟨?_,?_,?_,?_,?_,?_,?_,?_,?_,?_⟩ <;> omega
theorem Zyv (n:Int) : ∀ i,0≤(Zxk n).getD i 0∧(Zxk n).getD i 0<67108864:=by
  intro i
  match i with
  | 0=>show 0≤_%_∧_%_<_; omega
  | 1=>show 0≤_%_∧_%_<_; omega
  | 2=>show 0≤_%_∧_%_<_; omega
  | 3=>show 0≤_%_∧_%_<_; omega
  | 4=>show 0≤_%_∧_%_<_; omega
  | 5=>show 0≤_%_∧_%_<_; omega
  | 6=>show 0≤_%_∧_%_<_; omega
  | 7=>show 0≤_%_∧_%_<_; omega
  | 8=>show 0≤_%_∧_%_<_; omega
  | 9=>show 0≤_%_∧_%_<_; omega
  | i+10=>show (0:Int)≤0∧(0:Int)<_; omega
theorem Zw3 {n:Int} (h0:0≤n) (h1:n<57896044618658097711785492504343953926634992332820282019728792003956564819968):rV (Zxk n) 10=n:=by
  rw [Zow]
  simp only [Zxk,List.getD_cons_zero,List.getD_cons_succ]
  omega
theorem Zj0 (n:Int):0≤n%PP∧n%PP<PP:=⟨Int.emod_nonneg _ (by decide),Int.emod_lt_of_pos _ Ziz⟩
theorem Zov (n:Int):rV (rn n) 10=n%PP:=Zw3 (Zj0 n).1 (by have:=(Zj0 n).2; unfold PP at this ⊢; omega)
theorem Zew {a b:Int} (h:a%PP=b%PP):rn a=rn b:=by unfold rn; rw [h]
theorem Zwf (a:Int):rn (a%PP)=rn a:=Zew (Zps a)
theorem Z00j (n:Int):(rn n).length=10:=rfl
theorem Zk9 (n:Int) : ∀ i,0≤(rn n).getD i 0∧(rn n).getD i 0<67108864:=Zyv _
theorem Z0uj {a b:Int} (h:rn a=rn b):a%PP=b%PP:=by rw [← Zov,← Zov,h]
theorem Znr (k:List Int→Option (List Int)) (m:Nat) : ∀ (n i:Nat) (a:List Int),i+m=9→a.length=10→(∀ j,0≤a.getD j 0)→(∀ j,j<i→a.getD j 0<67108864)→(∀ j,i<j→a.getD j 0<1152921504606846976)→a.getD i 0<1152921504606846976+34359738368 →
    ∃ c,Z3z k (n+1+m) (i:Int) a=k c∧c.length=10∧(∀ j,0≤c.getD j 0)∧(∀ j,j<9→c.getD j 0<67108864)∧c.getD 9 0<1152921504606846976+34359738368∧rV c 10=rV a 10:=by
  induction m with
  | zero =>
    intro n i a hi hl h0 h1 h2 h3
    have e:i=9:=by omega
    subst e
    refine ⟨a,?_,hl,h0,h1,h3,rfl⟩
    rw [Nat.add_zero,Z3z,Z7l,Z0x (by decide)]
  | succ m ih =>
    intro n i a hi hl h0 h1 h2 h3
    have e1:=Z29 (i:=i) (by omega)
    have a0:=h0 i
    have b0:=h0 (i+1)
    have b2:=h2 (i+1) (by omega)
    have hs:IntKind.wrap .u64 (a.getD (i+1) 0+a.getD i 0 / 67108864)=a.getD (i+1) 0+a.getD i 0 / 67108864:=Zb (by omega) (by omega)
    have hg:(Z21 a (i+1) (a.getD (i+1) 0+a.getD i 0 / 67108864)).getD i 0=a.getD i 0:=by rw [Z0s,if_neg (by omega)]
    have hgd : ∀ j,(Z21 (Z21 a (i+1) (a.getD (i+1) 0+a.getD i 0 / 67108864)) i (a.getD i 0%67108864)).getD j 0=if j=i then a.getD i 0%67108864 else if j=i+1 then a.getD (i+1) 0+a.getD i 0 / 67108864 else a.getD j 0:=by
      intro j; rw [Z0s,Z0s]
    have hlen:(Z21 (Z21 a (i+1) (a.getD (i+1) 0+a.getD i 0 / 67108864)) i (a.getD i 0%67108864)).length=10:=by rw [Z42 (by rw [Z42 (by omega)]; omega),Z42 (by omega),hl]
    obtain ⟨c,ec,c1,c2,c3,c4,c5⟩:=ih n (i+1) _ (by omega) hlen
      (by intro j; rw [hgd]; have:=h0 j; split <;> (try split) <;> omega)
      (by intro j hj; rw [hgd]; split
          · omega
          · rw [if_neg (by omega)]; exact h1 j (by omega))
      (by intro j hj; rw [hgd,if_neg (by omega),if_neg (by omega)]; exact h2 j (by omega))
      (by rw [hgd,if_neg (by omega),if_pos rfl]; omega)
    refine ⟨c,?_,c1,c2,c3,c4,?_⟩
    · rw [← Nat.add_assoc,Z3z,Z7l,Z15 (decide_eq_true (by omega))]
      simp only [Zl,e1,Int.toNat_natCast,Zzd,hs,hg]
      rw [Zuc a0 (by omega),Zy (Z0n (by omega) (by omega)),Zy (Z0n (by omega) (by omega)),Zy (Z0n (by omega) (by omega)),Zy (Z0n (by omega) (by omega)),Zy (Z0n (by omega) (by omega))]
      exact ec
    · rw [c5,Zi1 _ _ _ _ (by omega),Zi1 _ _ _ _ (by omega),hg,Int.pow_succ]
      have hd:=Int.mul_ediv_add_emod (a.getD i 0) 67108864
      generalize a.getD i 0 / 67108864=d at *
      generalize a.getD i 0%67108864=r at *
      generalize a.getD i 0=x at *
      generalize a.getD (i+1) 0=y at *
      generalize (67108864:Int)^i=w at *
      generalize rV a 10=v at *
      clear ih ec hgd hs hg c1 c2 c3 c4 c5 hlen
      grind -lia -linarith (splits:=0)
theorem Zld {a:List Int} (hl:a.length=10) (h0 : ∀ j,0≤a.getD j 0∧a.getD j 0<1152921504606846976) : ∃ c,Z9n a=some c∧c.length=10∧(∀ j,0≤c.getD j 0)∧(∀ j,j<9→c.getD j 0<67108864)∧c.getD 9 0<1152921504606846976+34359738368∧rV c 10=rV a 10:=by
  obtain ⟨n,hn⟩ : ∃ n,big=n+1+9:=⟨18446744073709551606,Z19⟩
  rw [Z9n,Z12,hn]
  exact Znr some 9 n 0 a (by omega) hl (fun j=>(h0 j).1) (fun j h=>by omega) (fun j _=>(h0 j).2) (by have:=(h0 0).2; omega)
theorem Zj4 {a b:List Int} (ha : ∀ i,0≤a.getD i 0∧a.getD i 0<67108864) (hb : ∀ i,0≤b.getD i 0∧b.getD i 0<67108864) (k:Unit→Option Bool) (hk:k ()=some false) : ∀ (m n:Nat),m≤10 →
    Z5q a b k (n+1+m) ((m:Int)-1)=some (decide (rV a m<rV b m))
  | 0,n,_=>by
    rw [Nat.add_zero,Z5q,Zac,Z0x (by decide),hk]
    simp [rV]
  | m+1,n,hm=>by
    have ih:=Zj4 ha hb k hk m n (by omega)
    have e0:((m+1:Nat):Int)-1=(m:Int):=by omega
    have e1:IntKind.wrap .i64 ((m:Int)-1)=(m:Int)-1:=Ze (by omega) (by omega)
    have ra:=Zk5 m (fun i _=>ha i)
    have rb:=Zk5 m (fun i _=>hb i)
    rw [e0,← Nat.add_assoc,Z5q,Zac,Z15 (decide_eq_true (by omega)),Zy (Z0n (by omega) (by omega)),Zy (Z0n (by omega) (by omega))]
    simp only [Zl,e1,Int.toNat_natCast]
    rw [Z85,Z85]
    by_cases h:a.getD m 0=b.getD m 0
    · rw [Z0x (by rw [h]; simp),ih,h]
      congr 1
      by_cases h2:rV a m<rV b m
      · rw [decide_eq_true h2,decide_eq_true (by omega)]
      · rw [decide_eq_false h2,decide_eq_false (by omega)]
    · rw [Z15 (by simpa using h),Zy (Z0n (by omega) (by omega)),Zy (Z0n (by omega) (by omega))]
      congr 1
      generalize a.getD m 0=x at *
      generalize b.getD m 0=y at *
      generalize rV a m=v at *
      generalize rV b m=u at *
      have hp:=Zs6 m
      generalize (67108864:Int)^m=w at *
      by_cases h2:x<y
      · have h3:(x+1)*w≤y*w:=Int.mul_le_mul_of_nonneg_right (by omega) (by omega)
        rw [Int.add_mul,Int.one_mul] at h3
        rw [decide_eq_true h2,decide_eq_true (by omega)]
      · have h3:(y+1)*w≤x*w:=Int.mul_le_mul_of_nonneg_right (by omega) (by omega)
        rw [Int.add_mul,Int.one_mul] at h3
        rw [decide_eq_false h2,decide_eq_false (by omega)]
theorem Zuj {a b:List Int} (ha : ∀ i,0≤a.getD i 0∧a.getD i 0<67108864) (hb : ∀ i,0≤b.getD i 0∧b.getD i 0<67108864):Zes a b=some (decide (rV a 10<rV b 10)):=by
  obtain ⟨n,hn⟩ : ∃ n,big=n+1+10:=⟨18446744073709551605,Z19⟩
  rw [Zes,Z12,hn]
  exact Zj4 ha hb _ rfl 10 n (by omega)
theorem Zva {b:List Int} (hb : ∀ i,0≤b.getD i 0∧b.getD i 0<67108864) (k:List Int→Option (List Int)) {a0:List Int} (m:Nat) : ∀ (n i:Nat) (c:Int) (a:List Int),i+m=10→a.length=10→(c=0∨c=1)→(∀ j,0≤a.getD j 0∧a.getD j 0<67108864)→(∀ j,i≤j→a.getD j 0=a0.getD j 0)→rV a i=rV a0 i-rV b i+c*(67108864:Int)^i →
    ∃ r c',Z3i b k (n+1+m) c (i:Int) a=k r∧r.length=10∧(c'=0∨c'=1)∧(∀ j,0≤r.getD j 0∧r.getD j 0<67108864)∧rV r 10=rV a0 10-rV b 10+c'*(67108864:Int)^10:=by
  induction m with
  | zero =>
    intro n i c a hi hl hc ha hj hv
    have e:i=10:=by omega
    subst e
    refine ⟨a,c,?_,hl,hc,ha,hv⟩
    rw [Nat.add_zero,Z3i,Z6h,Z0x (by decide)]
  | succ m ih =>
    intro n i c a hi hl hc ha hj hv
    have e1:=Z29 (i:=i) (by omega)
    have h1:=ha i
    have h2:=hb i
    have w1:IntKind.wrap .u64 (a.getD i 0+67108863)=a.getD i 0+67108863:=Zb (by omega) (by omega)
    have w2:IntKind.wrap .u64 (a.getD i 0+67108863+1)=a.getD i 0+67108864:=by rw [Zb (by omega) (by omega)]; omega
    have w3:IntKind.wrap .u64 (a.getD i 0+67108864-b.getD i 0)=a.getD i 0+67108864-b.getD i 0:=Zb (by omega) (by omega)
    have w4:IntKind.wrap .u64 (a.getD i 0+67108864-b.getD i 0-c)=a.getD i 0+67108864-b.getD i 0-c:=Zb (by omega) (by omega)
    have w5:IntKind.wrap .u64 (1-(a.getD i 0+67108864-b.getD i 0-c) / 67108864)=1-(a.getD i 0+67108864-b.getD i 0-c) / 67108864:=Zb (by omega) (by omega)
    obtain ⟨r,c',er,r1,r2,r3,r4⟩:=ih n (i+1) (1-(a.getD i 0+67108864-b.getD i 0-c) / 67108864) (Z21 a i ((a.getD i 0+67108864-b.getD i 0-c)%67108864)) (by omega) (by rw [Z42 (by omega),hl]) (by omega)
      (by intro j; rw [Z0s]; split
          · omega
          · exact ha j)
      (by intro j h; rw [Z0s,if_neg (by omega)]; exact hj j (by omega)) (by
        rw [Z85,Z85,Z85,Zk6 _ _ _ _ (Nat.le_refl _),Z0s,if_pos rfl,hv,← hj i (Nat.le_refl _),Int.pow_succ]
        have hd:=Int.mul_ediv_add_emod (a.getD i 0+67108864-b.getD i 0-c) 67108864
        generalize (a.getD i 0+67108864-b.getD i 0-c) / 67108864=d at *
        generalize (a.getD i 0+67108864-b.getD i 0-c)%67108864=q at *
        generalize a.getD i 0=x at *
        generalize b.getD i 0=y at *
        generalize (67108864:Int)^i=w at *
        generalize rV a0 i=v at *
        generalize rV b i=u at *
        clear ih w1 w2 w3 w4 w5 hj hv e1 ha hb
        grind -lia -linarith (splits:=0))
    refine ⟨r,c',?_,r1,r2,r3,r4⟩
    rw [← Nat.add_assoc,Z3i,Z6h,Z15 (decide_eq_true (by omega))]
    simp only [Zl,e1,Int.toNat_natCast,Zzd,w1,w2,w3,w4,w5]
    rw [Zuc (by omega) (by omega),Zy (Z0n (by omega) (by omega)),Zy (Z0n (by omega) (by omega)),Zy (Z0n (by omega) (by omega))]
    exact er
theorem Zji {a b:List Int} (hl:a.length=10) (ha : ∀ i,0≤a.getD i 0∧a.getD i 0<67108864) (hb : ∀ i,0≤b.getD i 0∧b.getD i 0<67108864) (hle:rV b 10≤rV a 10) :
    ∃ r,Z6t a b=some r∧r.length=10∧(∀ j,0≤r.getD j 0∧r.getD j 0<67108864)∧rV r 10=rV a 10-rV b 10:=by
  obtain ⟨n,hn⟩ : ∃ n,big=n+1+10:=⟨18446744073709551605,Z19⟩
  obtain ⟨r,c',er,r1,r2,r3,r4⟩:=Zva hb some (a0:=a) 10 n 0 0 a (by omega) hl (.inl rfl) ha (fun _ _=>rfl) (by show (0:Int)=0-0+0*1; omega)
  have hr:=Zk5 10 (fun i _=>r3 i)
  have h1:=Zk5 10 (fun i _=>ha i)
  have h2:=Zk5 10 (fun i _=>hb i)
  refine ⟨r,?_,r1,r3,?_⟩
  · rw [Z6t,Z12,hn]; exact er
  · generalize (67108864:Int)^10=w at *
    rcases r2 with h | h <;> subst h <;> omega
def Zi2:List Int:=[67108845,67108863,67108863,67108863,67108863,67108863,67108863,67108863,67108863,2097151]
theorem Zhk : ∀ i,0≤Zi2.getD i 0∧Zi2.getD i 0<67108864:=by
  intro i
  simp only [List.getD]
  cases hi:Zi2[i]? with
  | none=>simp
  | some v =>
    have hm:=List.mem_of_getElem? hi
    have : ∀ x∈Zi2,0≤x∧x<67108864:=by decide
    exact this v hm
theorem Zc1:rV Zi2 10=PP:=by decide
structure Nrm (a:List Int):Prop where
  len:a.length=10
  pos : ∀ j,0≤a.getD j 0
  low : ∀ j,j<9→a.getD j 0<67108864
  top:a.getD 9 0<2305843009213693952
theorem Nrm.val {a:List Int} (h:Nrm a) : ∃ v,0≤v∧v<27606985387162255149739023449108101809804435888681546220650096895197184∧rV a 10=v+a.getD 9 0*27606985387162255149739023449108101809804435888681546220650096895197184:=by
  have hr:=Zk5 9 (fun i hi=>⟨h.pos i,h.low i hi⟩)
  have e:(67108864:Int)^9=27606985387162255149739023449108101809804435888681546220650096895197184:=by decide
  rw [e] at hr
  exact ⟨rV a 9,hr.1,hr.2,by rw [Z85,e]⟩
theorem Zt4 {a:List Int} (h:Nrm a) (h9 : ¬ a.getD 9 0>2097151) : ∃ v,rV a 10=v∧0≤v∧v<57896044618658097711785492504343953926634992332820282019728792003956564819968:=by
  obtain ⟨v,h0,h1,e⟩:=h.val
  have:=h.pos 9
  exact ⟨_,rfl,by omega,by omega⟩
theorem Zli {a:List Int} (h:Nrm a) (h9:a.getD 9 0>2097151) (k:List Int→Option (List Int)) (n:Nat) :
    ∃ c,Z3q k (n+1) a=Z3q k n c∧Nrm c∧rV c 10=rV a 10%57896044618658097711785492504343953926634992332820282019728792003956564819968+19*(rV a 10 / 57896044618658097711785492504343953926634992332820282019728792003956564819968):=by
  obtain ⟨v,v0,v1,ev⟩:=h.val
  have p9:=h.pos 9
  have t9:=h.top
  have p0:=h.pos 0
  have l0:=h.low 0 (by decide)
  have w1:IntKind.wrap .u64 (19*(a.getD 9 0 / 2097152))=19*(a.getD 9 0 / 2097152):=Zb (by omega) (by omega)
  have w2:IntKind.wrap .u64 (a.getD 0 0+19*(a.getD 9 0 / 2097152))=a.getD 0 0+19*(a.getD 9 0 / 2097152):=Zb (by omega) (by omega)
  have g9:(Z21 a 0 (a.getD 0 0+19*(a.getD 9 0 / 2097152))).getD 9 0=a.getD 9 0:=by rw [Z0s,if_neg (by decide)]
  have hgd : ∀ j,(Z21 (Z21 a 0 (a.getD 0 0+19*(a.getD 9 0 / 2097152))) 9 (a.getD 9 0%2097152)).getD j 0=if j=9 then a.getD 9 0%2097152 else if j=0 then a.getD 0 0+19*(a.getD 9 0 / 2097152) else a.getD j 0:=by
    intro j; rw [Z0s,Z0s]
  have hlen:(Z21 (Z21 a 0 (a.getD 0 0+19*(a.getD 9 0 / 2097152))) 9 (a.getD 9 0%2097152)).length=10:=by rw [Z42 (by rw [Z42 (by rw [h.len]; decide),h.len]; decide),Z42 (by rw [h.len]; decide),h.len]
  obtain ⟨c,ec,c1,c2,c3,c4,c5⟩:=Zld hlen (by
    intro j; rw [hgd]
    have h1:=h.pos j
    by_cases hj:j=9
    · rw [if_pos hj]; omega
    · rw [if_neg hj]
      by_cases hj0:j=0
      · rw [if_pos hj0]; omega
      · rw [if_neg hj0]
        by_cases hj9:j<9
        · have:=h.low j hj9; omega
        · have:a.getD j 0=0:=by simp [List.getD_eq_getElem?_getD,List.getElem?_eq_none (show a.length≤j by have:=h.len; omega)]
          omega)
  refine ⟨c,?_,⟨c1,c2,c3,by omega⟩,?_⟩
  · rw [Z3q,Zaa]
    simp only [Zl,Z189,w1,w2,g9]
    rw [Z0vf p9 (by omega),Z15 (decide_eq_true h9),Z3 ec]
  · rw [c5,Zi1 _ _ _ _ (by decide),Zi1 _ _ _ _ (by decide),g9]
    have e0:(67108864:Int)^0=1:=by decide
    have e9:(67108864:Int)^9=27606985387162255149739023449108101809804435888681546220650096895197184:=by decide
    rw [e0,e9,ev]
    generalize a.getD 9 0=x at *
    generalize a.getD 0 0=y at *
    clear ec hgd hlen c1 c2 c3 c4 c5 w1 w2 g9
    omega
theorem Zt5 {a:List Int} (h:Nrm a) (hb:rV a 10<63657374260452690223495913149955322682597410751168609642183824931005961838254368963428352) (k:List Int→Option (List Int)) (n:Nat) : ∃ c,Z3q k (n+1+1+1) a=k c∧Nrm c ∧ ¬ c.getD 9 0>2097151∧rV c 10%PP=rV a 10%PP:=by
  have stop : ∀ (n:Nat) (a:List Int),¬ a.getD 9 0>2097151→Z3q k (n+1) a=k a:=by
    intro n a h
    rw [Z3q,Zaa]
    simp only [Zl]
    rw [Z0x (decide_eq_false h)]
  by_cases h1:a.getD 9 0>2097151
  · obtain ⟨c,ec,nc,vc⟩:=Zli h h1 k (n+1+1)
    have p0:0≤rV a 10:=by obtain ⟨v,v0,_,ev⟩:=h.val; have:=h.pos 9; omega
    by_cases h2:c.getD 9 0>2097151
    · obtain ⟨d,ed,nd,vd⟩:=Zli nc h2 k (n+1)
      obtain ⟨u,u0,u1,eu⟩:=nd.val
      have pd:=nd.pos 9
      have h3 : ¬ d.getD 9 0>2097151:=by
        intro h3
        obtain ⟨v,v0,v1,ev⟩:=nc.val
        clear ec ed stop
        generalize rV a 10=A at *
        generalize rV c 10=C at *
        generalize rV d 10=D at *
        generalize c.getD 9 0=c9 at *
        generalize d.getD 9 0=d9 at *
        clear nc nd h h1
        omega
      refine ⟨d,by rw [ec,ed,stop _ _ h3],nd,h3,?_⟩
      rw [vd,vc]
      clear ec ed stop
      generalize rV a 10=A at *
      unfold PP
      omega
    · refine ⟨c,by rw [ec,stop _ _ h2],nc,h2,?_⟩
      rw [vc]
      generalize rV a 10=A at *
      unfold PP
      omega
  · exact ⟨a,stop _ _ h1,h,h1,rfl⟩
theorem Zim {a:List Int} (hl:a.length=10) (h0 : ∀ j,0≤a.getD j 0∧a.getD j 0<1152921504606846976):Z7i a=some (rn (rV a 10)):=by
  obtain ⟨c,ec,c1,c2,c3,c4,c5⟩:=Zld hl h0
  have nc:Nrm c:=⟨c1,c2,c3,by omega⟩
  obtain ⟨n,hn⟩ : ∃ n,big=n+1+1+1:=⟨18446744073709551613,Z19⟩
  have hb:rV c 10<63657374260452690223495913149955322682597410751168609642183824931005961838254368963428352:=by
    obtain ⟨v,v0,v1,ev⟩:=nc.val
    have:=nc.top
    rw [ev]
    omega
  rw [Z7i,Z3 ec,Z12,hn]
  obtain ⟨d,ed,nd,h9,vd⟩:=Zt5 nc hb (fun (a58:List Int)=>opt (Zcl) fun y113 =>
 opt (Zes a58 y113) fun y116 =>
 jn (fun (a120:List Int)=>some a120) fun k121=>br ((!y116)) (
 opt (Z6t a58 y113) fun y124 =>
 k121 y124
 ) (
 k121 a58
 )) n
  rw [ed]
  obtain ⟨v,ev,v0,v1⟩:=Zt4 nd h9
  have hd : ∀ j,0≤d.getD j 0∧d.getD j 0<67108864:=by
    intro j
    refine ⟨nd.pos j,?_⟩
    by_cases hj:j<9
    · exact nd.low j hj
    · by_cases hj2:j=9
      · subst hj2; omega
      · have:d.getD j 0=0:=by simp [List.getD_eq_getElem?_getD,List.getElem?_eq_none (show d.length≤j by have:=nd.len; omega)]
        omega
  have ep:Zcl=some Zi2:=rfl
  rw [Z3 ep,Z3 (Zuj hd Zhk),Z12,Zc1,ev]
  by_cases hv:v<PP
  · rw [Z0x (by simp [hv]),Zk7 nd.len hd,ev]
    unfold rn
    rw [← c5,← vd,ev,Int.emod_eq_of_lt v0 hv]
  · obtain ⟨r,er,r1,r2,r3⟩:=Zji nd.len hd Zhk (by rw [Zc1,ev]; omega)
    rw [Z15 (by simp [hv]),Z3 er,Zk7 r1 r2,r3,Zc1,ev]
    unfold rn
    rw [← c5,← vd,ev]
    congr 2
    unfold PP at *
    omega
theorem Zfg {n:Int} (h0:0≤n) (h1:n<18446744073709551616):Z5c n=some (rn n):=by
  rw [Z5c]
  simp only [Zl,Zzd,Z18b]
  rw [Zuc h0 h1,Zuc (by omega) (by omega)]
  have e:n%PP=n:=Int.emod_eq_of_lt h0 (by unfold PP; omega)
  unfold rn
  rw [e]
  unfold Zxk
  congr 1
  simp only [List.cons.injEq,and_true,true_and]
  refine ⟨?_,?_,?_,?_,?_,?_,?_,?_⟩ <;> omega
theorem Zyt (k:List Int→Option (List Int)) (x0 x1 x2 x3 x4 x5 x6 x7 x8 x9 y0 y1 y2 y3 y4 y5 y6 y7 y8 y9:Int):Zbo [y0,y1,y2,y3,y4,y5,y6,y7,y8,y9] k big 0 [x0,x1,x2,x3,x4,x5,x6,x7,x8,x9]=k [IntKind.wrap .u64 (x0+y0),IntKind.wrap .u64 (x1+y1),IntKind.wrap .u64 (x2+y2),IntKind.wrap .u64 (x3+y3),IntKind.wrap .u64 (x4+y4),IntKind.wrap .u64 (x5+y5),IntKind.wrap .u64 (x6+y6),IntKind.wrap .u64 (x7+y7),IntKind.wrap .u64 (x8+y8),IntKind.wrap .u64 (x9+y9)]:=by kernel_rfl
theorem Zrf {P:Int→Prop} (h0:P 0) {x0 x1 x2 x3 x4 x5 x6 x7 x8 x9:Int} (h0_:P x0) (h1_:P x1) (h2_:P x2) (h3_:P x3) (h4_:P x4) (h5_:P x5) (h6_:P x6) (h7_:P x7) (h8_:P x8) (h9_:P x9) : ∀ j,P (([x0,x1,x2,x3,x4,x5,x6,x7,x8,x9]:List Int).getD j 0):=by
  intro j
  match j with
  | 0=>exact h0_
  | 1=>exact h1_
  | 2=>exact h2_
  | 3=>exact h3_
  | 4=>exact h4_
  | 5=>exact h5_
  | 6=>exact h6_
  | 7=>exact h7_
  | 8=>exact h8_
  | 9=>exact h9_
  | j+10=>exact h0
theorem radd (a b:Int):Zcx (rn a) (rn b)=some (rn (a+b)):=by
  have ha:=Zk9 a
  have hb:=Zk9 b
  have va:=Zov a
  have vb:=Zov b
  have ea:=Zin (Z00j a)
  have eb:=Zin (Z00j b)
  rw [Zow] at va vb
  have a0:=ha 0
  have b0:=hb 0
  have a1:=ha 1
  have b1:=hb 1
  have a2:=ha 2
  have b2:=hb 2
  have a3:=ha 3
  have b3:=hb 3
  have a4:=ha 4
  have b4:=hb 4
  have a5:=ha 5
  have b5:=hb 5
  have a6:=ha 6
  have b6:=hb 6
  have a7:=ha 7
  have b7:=hb 7
  have a8:=ha 8
  have b8:=hb 8
  have a9:=ha 9
  have b9:=hb 9
  rw [ea,eb,Zcx,Z12,Zyt]
  clear ea eb ha hb
  generalize (rn a).getD 0 0=x0 at *
  generalize (rn b).getD 0 0=y0 at *
  generalize (rn a).getD 1 0=x1 at *
  generalize (rn b).getD 1 0=y1 at *
  generalize (rn a).getD 2 0=x2 at *
  generalize (rn b).getD 2 0=y2 at *
  generalize (rn a).getD 3 0=x3 at *
  generalize (rn b).getD 3 0=y3 at *
  generalize (rn a).getD 4 0=x4 at *
  generalize (rn b).getD 4 0=y4 at *
  generalize (rn a).getD 5 0=x5 at *
  generalize (rn b).getD 5 0=y5 at *
  generalize (rn a).getD 6 0=x6 at *
  generalize (rn b).getD 6 0=y6 at *
  generalize (rn a).getD 7 0=x7 at *
  generalize (rn b).getD 7 0=y7 at *
  generalize (rn a).getD 8 0=x8 at *
  generalize (rn b).getD 8 0=y8 at *
  generalize (rn a).getD 9 0=x9 at *
  generalize (rn b).getD 9 0=y9 at *
  rw [Zb (x:=x0+y0) (by omega) (by omega),Zb (x:=x1+y1) (by omega) (by omega),Zb (x:=x2+y2) (by omega) (by omega),Zb (x:=x3+y3) (by omega) (by omega),Zb (x:=x4+y4) (by omega) (by omega),Zb (x:=x5+y5) (by omega) (by omega),Zb (x:=x6+y6) (by omega) (by omega),Zb (x:=x7+y7) (by omega) (by omega),Zb (x:=x8+y8) (by omega) (by omega),Zb (x:=x9+y9) (by omega) (by omega)]
  rw [Z3 (Zim rfl (Zrf (P:=fun z=>0≤z∧z<1152921504606846976) (by omega) (by omega) (by omega) (by omega) (by omega) (by omega) (by omega) (by omega) (by omega) (by omega) (by omega)))]
  congr 1
  apply Zew
  rw [Zow]
  simp only [List.getD_cons_zero,List.getD_cons_succ]
  have e:(x0+y0)+(x1+y1)*67108864+(x2+y2)*4503599627370496+(x3+y3)*302231454903657293676544+(x4+y4)*20282409603651670423947251286016+(x5+y5)*1361129467683753853853498429727072845824+(x6+y6)*91343852333181432387730302044767688728495783936+(x7+y7)*6129982163463555433433388108601236734474956488734408704+(x8+y8)*411376139330301510538742295639337626245683966408394965837152256+(x9+y9)*27606985387162255149739023449108101809804435888681546220650096895197184=a%PP+b%PP:=by omega
  rw [e,← Int.add_emod]
theorem rneg (a:Int):Zlo (rn a)=some (rn (-a)):=by
  have h:=Zj0 a
  obtain ⟨r,er,r1,r2,r3⟩:=Zji (a:=Zi2) (b:=rn a) rfl Zhk (Zk9 a) (by rw [Zc1,Zov]; omega)
  have ep:Zcl=some Zi2:=rfl
  rw [Zlo,Z3 ep,Z3 er,Z3 (Zim r1 (fun j=>by have:=r2 j; omega))]
  congr 1
  apply Zew
  rw [r3,Zc1,Zov]
  unfold PP
  omega
theorem rsub (a b:Int):Zhv (rn a) (rn b)=some (rn (a-b)):=by
  rw [Zhv,Z3 (rneg b),Z3 (radd a (-b))]
  congr 2
theorem Ztm {p q:List Int} (hp : ∀ i,0≤p.getD i 0∧p.getD i 0<67108864) (hq : ∀ i,0≤q.getD i 0∧q.getD i 0<67108864) {i:Nat} (hi:i<10) (m:Nat) : ∀ (n j:Nat) (a:List Int),j+m=10→a.length=20→(∀ t,0≤a.getD t 0∧a.getD t 0≤((i:Int)+1)*4503599493152769)→(∀ t,i+j≤t→a.getD t 0≤(i:Int)*4503599493152769) →
    ∃ c,(∀ k,Z8t p q (i:Int) k (n+1+m) (j:Int) a=k c)∧c.length=20∧(∀ t,0≤c.getD t 0∧c.getD t 0≤((i:Int)+1)*4503599493152769)∧rV c 20+p.getD i 0*rV q j*(67108864:Int)^i=rV a 20+p.getD i 0*rV q 10*(67108864:Int)^i:=by
  induction m with
  | zero =>
    intro n j a hj hl h0 h1
    refine ⟨a,fun k=>?_,hl,h0,by rw [show j=10 by omega]⟩
    rw [Nat.add_zero,Z8t,Zdu,Z0x (decide_eq_false (by omega))]
  | succ m ih =>
    intro n j a hj hl h0 h1
    have e1:=Z29 (i:=j) (by omega)
    have e2:IntKind.wrap .i64 ((i:Int)+(j:Int))=((i+j:Nat):Int):=by rw [Ze (by omega) (by omega)]; omega
    have x1:=hp i
    have x2:=hq j
    have x3:=h0 (i+j)
    have x4:=h1 (i+j) (Nat.le_refl _)
    have xp:0≤p.getD i 0*q.getD j 0:=Int.mul_nonneg x1.1 x2.1
    have xq:p.getD i 0*q.getD j 0≤67108863*67108863:=Int.mul_le_mul (by omega) (by omega) x2.1 (by omega)
    have w1:IntKind.wrap .u64 (p.getD i 0*q.getD j 0)=p.getD i 0*q.getD j 0:=Zb xp (by omega)
    have w2:IntKind.wrap .u64 (a.getD (i+j) 0+p.getD i 0*q.getD j 0)=a.getD (i+j) 0+p.getD i 0*q.getD j 0:=Zb (by omega) (by omega)
    obtain ⟨c,ec,c1,c2,c3⟩:=ih n (j+1) (Z21 a (i+j) (a.getD (i+j) 0+p.getD i 0*q.getD j 0)) (by omega) (by rw [Z42 (by omega),hl])
      (by intro t; rw [Z0s]; split
          · omega
          · exact h0 t)
      (by intro t ht; rw [Z0s,if_neg (by omega)]; exact h1 t (by omega))
    refine ⟨c,fun k=>?_,c1,c2,?_⟩
    · rw [← Nat.add_assoc,Z8t,Zdu,Z15 (decide_eq_true (by omega))]
      simp only [Zl,e1,e2,Int.toNat_natCast,w1,w2]
      rw [Zy (Z0n (by omega) (by omega)),Zy (Z0n (by omega) (by omega)),Zy (Z0n (by omega) (by omega)),Zy (Z0n (by omega) (by omega))]
      exact ec k
    · rw [Zi1 _ _ _ _ (by omega),Z85 q j,Int.pow_add] at c3
      generalize (67108864:Int)^i=w at *
      generalize (67108864:Int)^j=u at *
      generalize p.getD i 0=x at *
      generalize q.getD j 0=y at *
      generalize a.getD (i+j) 0=z at *
      generalize rV a 20=va at *
      generalize rV c 20=vc at *
      generalize rV q j=vj at *
      generalize rV q 10=vq at *
      clear ih ec w1 w2 e1 e2 h0 h1 c1 c2 hp hq xp xq
      grind -lia -linarith (splits:=0)
theorem Ztn {p q:List Int} (hp : ∀ i,0≤p.getD i 0∧p.getD i 0<67108864) (hq : ∀ i,0≤q.getD i 0∧q.getD i 0<67108864) (k:List Int→Option (List Int)) (m:Nat) : ∀ (n i:Nat) (a:List Int),i+m=10→a.length=20→(∀ t,0≤a.getD t 0∧a.getD t 0≤(i:Int)*4503599493152769)→rV a 20=rV p i*rV q 10 →
    ∃ c,Z7j p q k (n+1+m) (i:Int) a=k c∧c.length=20∧(∀ t,0≤c.getD t 0∧c.getD t 0≤45035994931527690)∧rV c 20=rV p 10*rV q 10:=by
  induction m with
  | zero =>
    intro n i a hi hl h0 hv
    have e:i=10:=by omega
    subst e
    refine ⟨a,?_,hl,fun t=>by have:=h0 t; omega,hv⟩
    rw [Nat.add_zero,Z7j,Zdt,Z0x (by decide)]
  | succ m ih =>
    intro n i a hi hl h0 hv
    have e1:=Z29 (i:=i) (by omega)
    obtain ⟨n',hn⟩ : ∃ n,big=n+1+10:=⟨18446744073709551605,Z19⟩
    obtain ⟨c,ec,c1,c2,c3⟩:=Ztm hp hq (i:=i) (by omega) 10 n' 0 a (by omega) hl (fun t=>by have:=h0 t; omega) (fun t _=>(h0 t).2)
    obtain ⟨d,ed,d1,d2,d3⟩:=ih n (i+1) c (by omega) c1 (fun t=>by have:=c2 t; omega) (by
      have e0:rV q 0=0:=rfl
      rw [e0,hv] at c3
      rw [Z85 p i]
      generalize (67108864:Int)^i=w at *
      generalize p.getD i 0=x at *
      generalize rV c 20=vc at *
      generalize rV q 10=vq at *
      generalize rV p i=vp at *
      clear ih ec e1 h0 c1 c2 hp hq hv
      grind -lia -linarith (splits:=0))
    refine ⟨d,?_,d1,d2,d3⟩
    rw [← Nat.add_assoc,Z7j,Zdt,Z15 (decide_eq_true (by omega)),Z12,hn]
    refine (ec _).trans ?_
    simp only [Zl,e1]
    exact ed
theorem Zq3 (k:List Int→Option (List Int)) (m:Nat) : ∀ (n i:Nat) (a:List Int),i+m=19→a.length=20→(∀ j,0≤a.getD j 0)→(∀ j,j<i→a.getD j 0<67108864)→(∀ j,i<j→a.getD j 0<1152921504606846976)→a.getD i 0<1152921504606846976+34359738368 →
    ∃ c,Z6g k (n+1+m) (i:Int) a=k c∧c.length=20∧(∀ j,0≤c.getD j 0)∧(∀ j,j<19→c.getD j 0<67108864)∧c.getD 19 0<1152921504606846976+34359738368∧rV c 20=rV a 20:=by
  induction m with
  | zero =>
    intro n i a hi hl h0 h1 h2 h3
    have e:i=19:=by omega
    subst e
    refine ⟨a,?_,hl,h0,h1,h3,rfl⟩
    rw [Nat.add_zero,Z6g,Zdv,Z0x (by decide)]
  | succ m ih =>
    intro n i a hi hl h0 h1 h2 h3
    have e1:=Z29 (i:=i) (by omega)
    have a0:=h0 i
    have b0:=h0 (i+1)
    have b2:=h2 (i+1) (by omega)
    have hs:IntKind.wrap .u64 (a.getD (i+1) 0+a.getD i 0 / 67108864)=a.getD (i+1) 0+a.getD i 0 / 67108864:=Zb (by omega) (by omega)
    have hg:(Z21 a (i+1) (a.getD (i+1) 0+a.getD i 0 / 67108864)).getD i 0=a.getD i 0:=by rw [Z0s,if_neg (by omega)]
    have hgd : ∀ j,(Z21 (Z21 a (i+1) (a.getD (i+1) 0+a.getD i 0 / 67108864)) i (a.getD i 0%67108864)).getD j 0=if j=i then a.getD i 0%67108864 else if j=i+1 then a.getD (i+1) 0+a.getD i 0 / 67108864 else a.getD j 0:=by
      intro j; rw [Z0s,Z0s]
    have hlen:(Z21 (Z21 a (i+1) (a.getD (i+1) 0+a.getD i 0 / 67108864)) i (a.getD i 0%67108864)).length=20:=by rw [Z42 (by rw [Z42 (by omega)]; omega),Z42 (by omega),hl]
    obtain ⟨c,ec,c1,c2,c3,c4,c5⟩:=ih n (i+1) _ (by omega) hlen
      (by intro j; rw [hgd]; have:=h0 j; split <;> (try split) <;> omega)
      (by intro j hj; rw [hgd]; split
          · omega
          · rw [if_neg (by omega)]; exact h1 j (by omega))
      (by intro j hj; rw [hgd,if_neg (by omega),if_neg (by omega)]; exact h2 j (by omega))
      (by rw [hgd,if_neg (by omega),if_pos rfl]; omega)
    refine ⟨c,?_,c1,c2,c3,c4,?_⟩
    · rw [← Nat.add_assoc,Z6g,Zdv,Z15 (decide_eq_true (by omega))]
      simp only [Zl,e1,Int.toNat_natCast,Zzd,hs,hg]
      rw [Zuc a0 (by omega),Zy (Z0n (by omega) (by omega)),Zy (Z0n (by omega) (by omega)),Zy (Z0n (by omega) (by omega)),Zy (Z0n (by omega) (by omega)),Zy (Z0n (by omega) (by omega))]
      exact ec
    · rw [c5,Zi1 _ _ _ _ (by omega),Zi1 _ _ _ _ (by omega),hg,Int.pow_succ]
      have hd:=Int.mul_ediv_add_emod (a.getD i 0) 67108864
      generalize a.getD i 0 / 67108864=d at *
      generalize a.getD i 0%67108864=r at *
      generalize a.getD i 0=x at *
      generalize a.getD (i+1) 0=y at *
      generalize (67108864:Int)^i=w at *
      generalize rV a 20=v at *
      clear ih ec hgd hs hg c1 c2 c3 c4 c5 hlen
      grind -lia -linarith (splits:=0)
theorem Zz1 (k:List Int→Option (List Int)) (d:List Int):Z8u d k big 0 (List.replicate 10 0)=k [IntKind.wrap .u64 (d.getD 0 0+IntKind.wrap .u64 (608*d.getD 10 0)),IntKind.wrap .u64 (d.getD 1 0+IntKind.wrap .u64 (608*d.getD 11 0)),IntKind.wrap .u64 (d.getD 2 0+IntKind.wrap .u64 (608*d.getD 12 0)),IntKind.wrap .u64 (d.getD 3 0+IntKind.wrap .u64 (608*d.getD 13 0)),IntKind.wrap .u64 (d.getD 4 0+IntKind.wrap .u64 (608*d.getD 14 0)),IntKind.wrap .u64 (d.getD 5 0+IntKind.wrap .u64 (608*d.getD 15 0)),IntKind.wrap .u64 (d.getD 6 0+IntKind.wrap .u64 (608*d.getD 16 0)),IntKind.wrap .u64 (d.getD 7 0+IntKind.wrap .u64 (608*d.getD 17 0)),IntKind.wrap .u64 (d.getD 8 0+IntKind.wrap .u64 (608*d.getD 18 0)),IntKind.wrap .u64 (d.getD 9 0+IntKind.wrap .u64 (608*d.getD 19 0))]:=by kernel_rfl
theorem Zw4 (l:List Int):rV l 20=l.getD 0 0+l.getD 1 0*67108864+l.getD 2 0*4503599627370496+l.getD 3 0*302231454903657293676544+l.getD 4 0*20282409603651670423947251286016+l.getD 5 0*1361129467683753853853498429727072845824+l.getD 6 0*91343852333181432387730302044767688728495783936+l.getD 7 0*6129982163463555433433388108601236734474956488734408704+l.getD 8 0*411376139330301510538742295639337626245683966408394965837152256+l.getD 9 0*27606985387162255149739023449108101809804435888681546220650096895197184+l.getD 10 0*1852673427797059126777135760139006525652319754650249024631321344126610074238976+l.getD 11 0*124330809102446660538845562036705210025114037699336929360115994223289874253133343883264+l.getD 12 0*8343699359066055009355553539724812947666814540455674882605631280555545803830627148527195652096+l.getD 13 0*559936185544451052639360570142111069530411374308662383724997275240947967795040236345219373317901778944+l.getD 14 0*37576681324381331646231689548629392438010920782533117931316655544515344401833735095419183974156299248510959616+l.getD 15 0*2521728396569246669585858566409191283525103313309788586748690777871726193375821479130513040312634601011624191379636224+l.getD 16 0*169230328010303641331690318856389386196071598838855992136870091590247882556495704531248437872567112920983350278405979725889536+l.getD 17 0*11356855067118857664833184498250070849275646260739344691898284362197488876771842551971735167402555711886914400097909030211478150447104+l.getD 18 0*762145642166990290864647761179972242614403843424065222377723867096038022172794340849684107193235344521442121855812163792833978437326241529856+l.getD 19 0*51146728248377216718956089012931236753385031969422887335676427626502090568823039920051095192592252455482604439493126109519019633529459266458258243584:=by
  simp only [rV]
  have e0:(67108864:Int)^0=1:=by decide
  have e1:(67108864:Int)^1=67108864:=by decide
  have e2:(67108864:Int)^2=4503599627370496:=by decide
  have e3:(67108864:Int)^3=302231454903657293676544:=by decide
  have e4:(67108864:Int)^4=20282409603651670423947251286016:=by decide
  have e5:(67108864:Int)^5=1361129467683753853853498429727072845824:=by decide
  have e6:(67108864:Int)^6=91343852333181432387730302044767688728495783936:=by decide
  have e7:(67108864:Int)^7=6129982163463555433433388108601236734474956488734408704:=by decide
  have e8:(67108864:Int)^8=411376139330301510538742295639337626245683966408394965837152256:=by decide
  have e9:(67108864:Int)^9=27606985387162255149739023449108101809804435888681546220650096895197184:=by decide
  have e10:(67108864:Int)^10=1852673427797059126777135760139006525652319754650249024631321344126610074238976:=by decide
  have e11:(67108864:Int)^11=124330809102446660538845562036705210025114037699336929360115994223289874253133343883264:=by decide
  have e12:(67108864:Int)^12=8343699359066055009355553539724812947666814540455674882605631280555545803830627148527195652096:=by decide
  have e13:(67108864:Int)^13=559936185544451052639360570142111069530411374308662383724997275240947967795040236345219373317901778944:=by decide
  have e14:(67108864:Int)^14=37576681324381331646231689548629392438010920782533117931316655544515344401833735095419183974156299248510959616:=by decide
  have e15:(67108864:Int)^15=2521728396569246669585858566409191283525103313309788586748690777871726193375821479130513040312634601011624191379636224:=by decide
  have e16:(67108864:Int)^16=169230328010303641331690318856389386196071598838855992136870091590247882556495704531248437872567112920983350278405979725889536:=by decide
  have e17:(67108864:Int)^17=11356855067118857664833184498250070849275646260739344691898284362197488876771842551971735167402555711886914400097909030211478150447104:=by decide
  have e18:(67108864:Int)^18=762145642166990290864647761179972242614403843424065222377723867096038022172794340849684107193235344521442121855812163792833978437326241529856:=by decide
  have e19:(67108864:Int)^19=51146728248377216718956089012931236753385031969422887335676427626502090568823039920051095192592252455482604439493126109519019633529459266458258243584:=by decide
  rw [e0,e1,e2,e3,e4,e5,e6,e7,e8,e9,e10,e11,e12,e13,e14,e15,e16,e17,e18,e19]
  omega
theorem Zz2 {p q:List Int} (hp : ∀ i,0≤p.getD i 0∧p.getD i 0<67108864) (hq : ∀ i,0≤q.getD i 0∧q.getD i 0<67108864) (k:List Int→Option (List Int)) :
    ∃ c,Z7j p q k big 0 (List.replicate 20 0)=k c∧c.length=20∧(∀ t,0≤c.getD t 0∧c.getD t 0≤45035994931527690)∧rV c 20=rV p 10*rV q 10:=by
  obtain ⟨n,hn⟩ : ∃ n,big=n+1+10:=⟨18446744073709551605,Z19⟩
  have hz : ∀ t,(List.replicate 20 (0:Int)).getD t 0=0:=by
    intro t
    simp only [List.getD]
    cases hi:(List.replicate 20 (0:Int))[t]? with
    | none=>rfl
    | some v=>simpa using (List.mem_replicate.1 (List.mem_of_getElem? hi)).2
  rw [hn]
  exact Ztn hp hq k 10 n 0 (List.replicate 20 0) (by omega) (by simp) (fun t=>by rw [hz]; omega) (by
      have:rV (List.replicate 20 0) 20=0:=by decide
      rw [this]
      show 0=0*_
      omega)
theorem Zt7 (k:List Int→Option (List Int)) {c:List Int} (hl:c.length=20) (h0 : ∀ t,0≤c.getD t 0∧c.getD t 0≤45035994931527690) :
    ∃ d,Z6g k big 0 c=k d∧d.length=20∧(∀ j,0≤d.getD j 0)∧(∀ j,j<19→d.getD j 0<67108864)∧d.getD 19 0<1152921504606846976+34359738368∧rV d 20=rV c 20:=by
  obtain ⟨n,hn⟩ : ∃ n,big=n+1+19:=⟨18446744073709551596,Z19⟩
  rw [hn]
  exact Zq3 k 19 n 0 c (by omega) hl (fun j=>(h0 j).1) (fun j h=>by omega) (fun j _=>by have:=h0 j; omega) (by have:=h0 0; omega)
theorem Zfs (a b:Int):Z1p (rn a) (rn b)=some (rn (a*b)):=by
  rw [Z1p,Z12]
  obtain ⟨c,ec,c1,c2,c3⟩:=Zz2 (Zk9 a) (Zk9 b) (fun (a343:List Int)=>jn (fun (a741:List Int)=>jn (fun (a848:List Int)=>opt (Z7i a848) fun y893 =>
 some y893) fun k849=>Z8u a741 k849 big 0 (List.replicate 10 0)) fun k742=>Z6g k742 big 0 a343)
  rw [ec]
  simp only [Z12]
  obtain ⟨d,ed,d1,d2,d3,d4,d5⟩:=Zt7 (fun (a741:List Int)=>Z8u a741 (fun (a848:List Int)=>opt (Z7i a848) fun y893=>some y893) big 0 (List.replicate 10 0)) c1 c2
  rw [ed,Zz1]
  rw [Zov,Zov] at c3
  rw [c3,Zw4] at d5
  have ra:=Zj0 a
  have rb:=Zj0 b
  have hprod:a%PP*(b%PP)<3351951982485649274893506249551461531869841455148098344430890360930441007518386744200468574541725856922507964546621512713438470702986642486608412251521024:=by
    have:a%PP*(b%PP)≤PP*PP:=Int.mul_le_mul (by omega) (by omega) rb.1 (by decide)
    unfold PP at *
    omega
  have p0:=d2 0
  have p1:=d2 1
  have p2:=d2 2
  have p3:=d2 3
  have p4:=d2 4
  have p5:=d2 5
  have p6:=d2 6
  have p7:=d2 7
  have p8:=d2 8
  have p9:=d2 9
  have p10:=d2 10
  have p11:=d2 11
  have p12:=d2 12
  have p13:=d2 13
  have p14:=d2 14
  have p15:=d2 15
  have p16:=d2 16
  have p17:=d2 17
  have p18:=d2 18
  have p19:=d2 19
  have q0:=d3 0 (by decide)
  have q1:=d3 1 (by decide)
  have q2:=d3 2 (by decide)
  have q3:=d3 3 (by decide)
  have q4:=d3 4 (by decide)
  have q5:=d3 5 (by decide)
  have q6:=d3 6 (by decide)
  have q7:=d3 7 (by decide)
  have q8:=d3 8 (by decide)
  have q9:=d3 9 (by decide)
  have q10:=d3 10 (by decide)
  have q11:=d3 11 (by decide)
  have q12:=d3 12 (by decide)
  have q13:=d3 13 (by decide)
  have q14:=d3 14 (by decide)
  have q15:=d3 15 (by decide)
  have q16:=d3 16 (by decide)
  have q17:=d3 17 (by decide)
  have q18:=d3 18 (by decide)
  clear ec ed c1 c2 d1 d2 d3
  generalize d.getD 0 0=x0 at *
  generalize d.getD 1 0=x1 at *
  generalize d.getD 2 0=x2 at *
  generalize d.getD 3 0=x3 at *
  generalize d.getD 4 0=x4 at *
  generalize d.getD 5 0=x5 at *
  generalize d.getD 6 0=x6 at *
  generalize d.getD 7 0=x7 at *
  generalize d.getD 8 0=x8 at *
  generalize d.getD 9 0=x9 at *
  generalize d.getD 10 0=x10 at *
  generalize d.getD 11 0=x11 at *
  generalize d.getD 12 0=x12 at *
  generalize d.getD 13 0=x13 at *
  generalize d.getD 14 0=x14 at *
  generalize d.getD 15 0=x15 at *
  generalize d.getD 16 0=x16 at *
  generalize d.getD 17 0=x17 at *
  generalize d.getD 18 0=x18 at *
  generalize d.getD 19 0=x19 at *
  have q19:x19<65536:=by
    generalize a%PP*(b%PP)=w at *
    omega
  rw [Zb (x:=608*x10) (by omega) (by omega),Zb (x:=608*x11) (by omega) (by omega),Zb (x:=608*x12) (by omega) (by omega),Zb (x:=608*x13) (by omega) (by omega),Zb (x:=608*x14) (by omega) (by omega),Zb (x:=608*x15) (by omega) (by omega),Zb (x:=608*x16) (by omega) (by omega),Zb (x:=608*x17) (by omega) (by omega),Zb (x:=608*x18) (by omega) (by omega),Zb (x:=608*x19) (by omega) (by omega)]
  rw [Zb (x:=x0+608*x10) (by omega) (by omega),Zb (x:=x1+608*x11) (by omega) (by omega),Zb (x:=x2+608*x12) (by omega) (by omega),Zb (x:=x3+608*x13) (by omega) (by omega),Zb (x:=x4+608*x14) (by omega) (by omega),Zb (x:=x5+608*x15) (by omega) (by omega),Zb (x:=x6+608*x16) (by omega) (by omega),Zb (x:=x7+608*x17) (by omega) (by omega),Zb (x:=x8+608*x18) (by omega) (by omega),Zb (x:=x9+608*x19) (by omega) (by omega)]
  rw [Z3 (Zim rfl (Zrf (P:=fun z=>0≤z∧z<1152921504606846976) (by omega) (by omega) (by omega) (by omega) (by omega) (by omega) (by omega) (by omega) (by omega) (by omega) (by omega)))]
  congr 1
  apply Zew
  rw [Zow]
  simp only [List.getD_cons_zero,List.getD_cons_succ]
  have e:(x0+608*x10)+(x1+608*x11)*67108864+(x2+608*x12)*4503599627370496+(x3+608*x13)*302231454903657293676544+(x4+608*x14)*20282409603651670423947251286016+(x5+608*x15)*1361129467683753853853498429727072845824+(x6+608*x16)*91343852333181432387730302044767688728495783936+(x7+608*x17)*6129982163463555433433388108601236734474956488734408704+(x8+608*x18)*411376139330301510538742295639337626245683966408394965837152256+(x9+608*x19)*27606985387162255149739023449108101809804435888681546220650096895197184=a%PP*(b%PP)-PP*(32*(x10+x11*67108864+x12*4503599627370496+x13*302231454903657293676544+x14*20282409603651670423947251286016+x15*1361129467683753853853498429727072845824+x16*91343852333181432387730302044767688728495783936+x17*6129982163463555433433388108601236734474956488734408704+x18*411376139330301510538742295639337626245683966408394965837152256+x19*27606985387162255149739023449108101809804435888681546220650096895197184)):=by
    generalize a%PP*(b%PP)=w at *
    unfold PP
    omega
  rw [e,Int.sub_mul_emod_self_left,← Int.mul_emod]
theorem Ztq {x:Int} {e:List Int} (he:Byt e) {kk:List Int→Option (List Int)} {k':Int→List Int→Option (List Int)} {i:Nat} (hi:i<256) (a:Int) :
    Zbq (rn x) e kk k' (i:Int) (rn a)=k' ((i:Int)-1) (rn (if ebit e i then a*a%PP*x%PP else a*a%PP)):=by
  rw [Zbq,Z15 (by simp),Z12,Z3 (Zfs a a)]
  simp only [Zl]
  have hd:IntKind.wrap .i64 (Int.tdiv (i:Int) 8)=((i / 8:Nat):Int):=by
    rw [Int.tdiv_eq_ediv_of_nonneg (by omega),Ze (by omega) (by omega)]; omega
  have hm:Int.tmod (i:Int) 8=((i%8:Nat):Int):=by
    rw [Int.tmod_eq_emod_of_nonneg (by omega)]; omega
  rw [hd,hm,Zy (Z0n (by omega) (by omega)),Zy (by simp; omega)]
  have hb:=he (i / 8)
  simp only [Int.toNat_natCast]
  rw [Z93 .u8 (n:=i%8) (by show i%8≤8; omega)]
  have hp:(0:Int)<((2^(i%8):Nat):Int):=by have:=Nat.pow_pos (n:=i%8) (show 0<2 by decide); omega
  have hq0:=Int.ediv_nonneg hb.1 (Int.le_of_lt hp)
  have hq1:e.getD (i / 8) 0 / ((2^(i%8):Nat):Int)<256:=Int.lt_of_le_of_lt (Int.ediv_le_self _ hb.1) hb.2
  rw [Zub hq0 hq1]
  have hw:IntKind.wrap .i64 ((i:Int)-1)=(i:Int)-1:=Ze (by omega) (by omega)
  by_cases hbit:ebit e i=true
  · have hb':(e.getD (i / 8) 0 / ((2^(i%8):Nat):Int)%2==1)=true:=hbit
    rw [Z15 hb',if_pos hbit,Z3 (Zfs (a*a) x),hw]
    have:rn (a*a*x)=rn (a*a%PP*x%PP):=by
      rw [Zwf]; apply Zew; rw [Int.mul_emod (a*a%PP),Zps,← Int.mul_emod]
    rw [this]
  · rw [Bool.not_eq_true] at hbit
    have hb':(e.getD (i / 8) 0 / ((2^(i%8):Nat):Int)%2==1)=false:=hbit
    rw [Z0x hb',if_neg (by rw [hbit]; decide),hw,Zwf]
theorem Zp6 {x:Int} {e:List Int} (he:Byt e) : ∀ (k n:Nat),k≤256→Z7k (rn x) e some (n+1+k) ((k:Int)-1) (rn (pw x e (256-k)))=some (rn (pw x e 256))
  | 0,n,_=>by
    show Z7k (rn x) e some (n+1) _ _=_
    rw [Z7k,Zbq,Z0x (by decide)]
  | k+1,n,hk=>by
    have ih:=Zp6 (x:=x) he k n (by omega)
    rw [← Nat.add_assoc,Z7k]
    have hi:((k+1:Nat):Int)-1=(k:Int):=by omega
    rw [hi,Ztq he (by omega)]
    have e1:256-k=(256-(k+1))+1:=by omega
    have e2:255-(256-(k+1))=k:=by omega
    rw [e1,pw,e2] at ih
    exact ih
theorem rpow (x:Int) {e:List Int} (he:Byt e):Zjy (rn x) e=some (rn (pw x e 256)):=by
  rw [Zjy,Z3 (Zfg (by decide) (by decide)),Z12]
  obtain ⟨n,hn⟩ : ∃ n,big=n+1+256:=⟨18446744073709551359,Z19⟩
  have:=Zp6 (x:=x) he 256 n (Nat.le_refl _)
  rw [← hn] at this
  exact this
theorem Ztr:Zav 235 127=some Zpl:=by kernel_rfl
def esq8:List Int:=[254,255,255,255,255,255,255,255,255,255,255,255,255,255,255,255,255,255,255,255,255,255,255,255,255,255,255,255,255,255,255,15]
theorem Zwk:Zav 254 15=some esq8:=by kernel_rfl
theorem Zwj:Zav 251 31=some ert:=by kernel_rfl
theorem rinv (a:Int):Z8s (rn a)=some (rn (pw a Zpl 256)):=by
  rw [Z8s,Z3 Ztr,Z3 (rpow a Zr7)]
theorem rn0:([0,0,0,0,0,0,0,0,0,0]:List Int)=rn 0:=by decide
theorem Z0uu (n:Int):tk (rn n) 0 10=rn n:=rfl
theorem Zv4 (a b:Int):ieq 10 (rn a) (rn b)=decide (a%PP=b%PP):=by
  unfold ieq
  rw [Z0uu,Z0uu]
  by_cases h:a%PP=b%PP
  · rw [decide_eq_true h,decide_eq_true (Zew h)]
  · rw [decide_eq_false h,decide_eq_false (fun e=>h (Z0uj e))]
theorem Zwd (a:Int):Zbp (rn a)=some (decide (a%PP=0)):=by
  rw [Zbp,Zl,rn0,Zv4]; rfl
theorem Z00i (a:Int):Zer (rn a)=some (a%PP%2==1):=by
  have h:=Zk9 a 0
  have e:(rn a).getD 0 0=a%PP%67108864:=rfl
  rw [Zer,Zl,Zl,Zpm h.1 (by omega),e]
  congr 2
  omega
theorem Z0ui (a:Int):Zhb (rn a)=some (rn (fabs a)):=by
  rw [Zhb,Z3 (Z00i a)]
  unfold fabs
  by_cases h:(a%PP%2==1)=true
  · rw [h,Z15 rfl,Z3 (rneg a)]; rfl
  · rw [Bool.not_eq_true] at h
    rw [h,Z0x rfl]; rfl
def rq (u v:Int):Int:=u*pw v Zpl 256
def rr (u v:Int):Int:=pw (rq u v) esq8 256
def Zxl (u v:Int):Int×Bool :=
  if v%PP=0 then (0,decide (u%PP=0))
  else if rr u v*rr u v%PP=rq u v%PP then (fabs (rr u v),true)
  else if (rr u v*Ztv)*(rr u v*Ztv)%PP=rq u v%PP then (fabs (rr u v*Ztv),true)
  else (0,false)
theorem Zz8 (u v:Int):Z8v (rn u) (rn v)=some (rn (Zxl u v).1,(Zxl u v).2):=by
  rw [Z8v,Z3 (Zwd v)]
  unfold Zxl
  by_cases h:v%PP=0
  · rw [if_pos h,Z15 (by simpa using h),Zl,Z3 (Zwd u),rn0]
  · rw [if_neg h,Z0x (by simpa using h),Z3 (rinv v),Z3 (Zfs _ _),Z3 Zwk]
    have e0:u*pw v Zpl 256=rq u v:=rfl
    rw [e0,Z3 (rpow _ (byt_of (by decide)))]
    have e1:pw (rq u v) esq8 256=rr u v:=rfl
    rw [e1,Z3 (Zfs _ _),Zv4]
    by_cases h1:rr u v*rr u v%PP=rq u v%PP
    · rw [if_pos h1,Z15 (by simpa using h1),Z3 (Z0ui _)]
    · rw [if_neg h1,Z0x (by simpa using h1),Z3 (Zfg (by decide) (by decide)),Z3 Zwj,Z3 (rpow _ (byt_of (by decide)))]
      have e2:pw 2 ert 256=Ztv:=rfl
      rw [e2,Z3 (Zfs _ _),Z3 (Zfs _ _),Zv4]
      by_cases h2:(rr u v*Ztv)*(rr u v*Ztv)%PP=rq u v%PP
      · rw [if_pos h2,Z15 (by simpa using h2),Z3 (Z0ui _)]
      · rw [if_neg h2,Z0x (by simpa using h2),Zl,rn0]
theorem Zat {l:List Int} {i:Nat} (h:l.length≤i):l.getD i 0=0:=by simp [List.getD_eq_getElem?_getD,List.getElem?_eq_none h]
theorem Zvp {l:List Int} {n:Nat} (h:l.length≤n):pV l n=pV l l.length:=Zvr (fun t ht=>Zat ht) n h
theorem Zwx {p:List Int} (hp:W64 p) (hb:p.length<1000000) : ∃ a h,Z7a p=some (a,h)∧W64 a∧W64 h∧h.length=p.length-3 ∧
    V4 a=pV p p.length%7237005577332262213973186563042994240829374041602535252466099000494570602496∧pV h h.length=pV p p.length / 7237005577332262213973186563042994240829374041602535252466099000494570602496:=by
  obtain ⟨n,hn⟩ : ∃ n',big=n'+1+(p.length-3):=⟨18446744073709551615-(p.length-3),by have:big=18446744073709551616:=Z19; omega⟩
  have hw0g : ∀ i,(wr (List.replicate 4 0) 0 (p.take 4)).getD i 0=if i<4 then p.getD i 0 else 0:=by
    intro i
    rw [Zni]
    have hr:(List.replicate 4 (0:Int)).getD i 0=0:=by
      match i with
      | 0=>rfl
      | 1=>rfl
      | 2=>rfl
      | 3=>rfl
      | i+4=>rfl
    by_cases h:0≤i∧i<0+(p.take 4).length
    · rw [if_pos h]
      simp only [List.length_take] at h
      have h4':i<4:=by omega
      rw [if_pos h4']
      simp [List.getD_eq_getElem?_getD,List.getElem?_take,h4']
    · rw [if_neg h,hr]
      simp only [List.length_take] at h
      split
      · rw [Zat (by omega)]
      · rfl
  have hw0:W64 (wr (List.replicate 4 0) 0 (p.take 4)):=by
    intro i
    rw [hw0g]
    split
    · exact hp i
    · decide
  have hmask:Z4 .and .u64 ((wr (List.replicate 4 0) 0 (p.take 4)).getD 3 0) 1152921504606846975=p.getD 3 0%1152921504606846976:=by
    rw [hw0g,if_pos (by decide)]
    exact Zgv 60 (by decide) (by decide) (hp 3).1 (hp 3).2
  have hlow:V4 (Z21 (wr (List.replicate 4 0) 0 (p.take 4)) 3 (Z4 .and .u64 ((wr (List.replicate 4 0) 0 (p.take 4)).getD 3 0) 1152921504606846975))=p.getD 0 0+p.getD 1 0*18446744073709551616+p.getD 2 0*340282366920938463463374607431768211456+(p.getD 3 0%1152921504606846976)*6277101735386680763835789423207666416102355444464034512896:=by
    unfold V4
    rw [hmask]
    simp only [Z0s,hw0g]
    simp
  have h3:pV p 3=p.getD 0 0+p.getD 1 0*18446744073709551616+p.getD 2 0*340282366920938463463374607431768211456:=by
    simp only [pV]
    omega
  have hr0:=hp 0
  have hr1:=hp 1
  have hr2:=hp 2
  have hr3:=hp 3
  by_cases hlen:3≤p.length
  · obtain ⟨l',e,h1,h2,h4⟩:=Zqh hp hb (k:=fun l128=>some (Z21 (wr (List.replicate 4 0) 0 (p.take 4)) 3 (Z4 .and .u64 ((wr (List.replicate 4 0) 0 (p.take 4)).getD 3 0) 1152921504606846975),l128)) (p.length-3) n 0 [] (by omega) rfl (Z9e 0)
    refine ⟨(Z21 (wr (List.replicate 4 0) 0 (p.take 4)) 3 (Z4 .and .u64 ((wr (List.replicate 4 0) 0 (p.take 4)).getD 3 0) 1152921504606846975)),l',?_,Zb1 hw0 (Zud _ _),h2,by omega,?_⟩
    · simp only [Z7a,Zl,Z12]
      rw [hn]
      exact e
    · rw [hlow]
      rw [Nat.add_zero,h3] at h4
      have e0:pV ([]:List Int) ([]:List Int).length=0:=rfl
      have e3:(18446744073709551616:Int)^3=6277101735386680763835789423207666416102355444464034512896:=by decide
      rw [e0,e3] at h4
      generalize pV p p.length=X at *
      generalize pV l' l'.length=Y at *
      omega
  · have e3:p.getD 3 0=0:=Zat (by omega)
    have hx:pV p p.length=pV p 3:=(Zvp (by omega)).symm
    refine ⟨(Z21 (wr (List.replicate 4 0) 0 (p.take 4)) 3 (Z4 .and .u64 ((wr (List.replicate 4 0) 0 (p.take 4)).getD 3 0) 1152921504606846975)),[],?_,Zb1 hw0 (Zud _ _),Z9e 0,by simp; omega,?_⟩
    · simp only [Z7a,Zl,Z12]
      rw [hn,show p.length-3=0 by omega,Nat.add_zero,Z20,Z3r,Z0x (by simp; omega)]
    · rw [hlow,hx,h3,e3]
      have e0:pV ([]:List Int) ([]:List Int).length=0:=rfl
      rw [e0]
      omega
theorem Z9i {l:List Int} (n:Nat) {i:Nat} {a:List (List Int)} (hi:i<4) (hl:W64 l) (hb:l.length<1000) (ha : ∀ i,W64 (a.getD i (List.replicate 4 0)))
    (hs:V4 (a.getD (i%2) (List.replicate 4 0))+pV l l.length%7237005577332262213973186563042994240829374041602535252466099000494570602496<B4) :
    ∃ l' a',(∀ k:List (List Int)→Option (List Int),Z23 k (n+1) l (i:Int) a=Z23 k n l' ((i+1:Nat):Int) a')∧W64 l'∧l'.length=l.length-3+2∧(∀ i,W64 (a'.getD i (List.replicate 4 0))) ∧
      pV l' l'.length=pV l l.length / 7237005577332262213973186563042994240829374041602535252466099000494570602496*27742317777372353535851937790883648493 ∧
      V4 (a'.getD (i%2) (List.replicate 4 0))=V4 (a.getD (i%2) (List.replicate 4 0))+pV l l.length%7237005577332262213973186563042994240829374041602535252466099000494570602496 ∧
      (∀ j,j≠i%2→a'.getD j (List.replicate 4 0)=a.getD j (List.replicate 4 0)):=by
  obtain ⟨lo,h,e,w1,w2,w3,v1,v2⟩:=Zwx hl (by omega)
  obtain ⟨s,c,e2,ws,hc,vs⟩:=Zmx (ha (i%2)) w1
  obtain ⟨t,e3,l3,wt,vt⟩:=Zpi w2 Zxm (by simp; omega)
  have em:Int.tmod (i:Int) 2=((i%2:Nat):Int):=by rw [Int.tmod_eq_emod_of_nonneg (by omega)]; omega
  have e1:IntKind.wrap .i64 ((i:Int)+1)=((i+1:Nat):Int):=by rw [Ze (by omega) (by omega)]; rfl
  refine ⟨t,Zcp (List.replicate 4 0) a (i%2) s,?_,wt,by rw [l3,w3]; rfl,?_,?_,?_,?_⟩
  · intro k
    rw [Z23,Z51,Z15 (by simp; omega),Z3 e]
    simp only [Zl,em,e1,Int.toNat_natCast]
    rw [Zy (Z0n (by omega) (by omega)),Z3 e2,Zy (Z0n (by omega) (by omega)),Zcm,Z3 rfl,Z3 e3]
  · intro j
    rw [Z2z]
    split
    · exact ws
    · exact ha j
  · rw [vt,v2]; rfl
  · rw [Z2z,if_pos rfl]
    have hr:=Zf8 ws
    have hr2:=Zf8 (ha (i%2))
    rw [← v1] at hs ⊢
    have hc0:c=0:=by
      unfold B4 at *
      rcases hc with h | h
      · exact h
      · exfalso; subst h; omega
    rw [vs,hc0]; omega
  · intro j hj
    rw [Z2z,if_neg hj]
theorem Zqr:V4 (List.replicate 4 0)=0:=by decide
theorem Zhj {p:List Int} (hp:W64 p) (h8:p.length≤8) : ∃ r,Z4w p=some r∧W64 r∧V4 r=pV p p.length%VL:=by
  obtain ⟨n,hn⟩ : ∃ n,big=n+1+1+1+1+1:=⟨18446744073709551611,Z19⟩
  rw [Z4w,Z12,hn]
  have ha0 : ∀ i,(List.replicate 2 (List.replicate 4 0):List (List Int)).getD i (List.replicate 4 0)=List.replicate 4 0:=by
    intro i
    match i with
    | 0=>rfl
    | 1=>rfl
    | i+2=>rfl
  have hX:=Z006 hp 8
  rw [Zvp h8] at hX
  have e8:(18446744073709551616:Int)^8=13407807929942597099574024998205846127479365820592393377723561443721764030073546976801874298166903427690031858186486050853753882811946569946433649006084096:=by decide
  rw [e8] at hX
  obtain ⟨l1,a1,f1,w1,n1,h1,x1,s1,o1⟩:=Z9i (n+1+1+1+1) (i:=0) (l:=p) (a:=List.replicate 2 (List.replicate 4 0)) (by decide) hp (by omega) (by intro i; rw [ha0]; exact Z9e 4) (by
    rw [ha0,Zqr]
    generalize pV p p.length=X at *
    unfold B4
    omega)
  rw [ha0,Zqr] at s1
  have t1:=o1 1 (by decide)
  rw [ha0] at t1
  obtain ⟨l2,a2,f2,w2,n2,h2,x2,s2,o2⟩:=Z9i (n+1+1+1) (i:=1) (by decide) w1 (by omega) h1 (by
    rw [t1,Zqr]
    generalize pV l1 l1.length=X at *
    unfold B4
    omega)
  rw [t1,Zqr] at s2
  have t2:=o2 0 (by decide)
  obtain ⟨l3,a3,f3,w3,n3,h3,x3,s3,o3⟩:=Z9i (n+1+1) (i:=2) (by decide) w2 (by omega) h2 (by
    have e:a2.getD (2%2) (List.replicate 4 0)=a1.getD 0 (List.replicate 4 0):=t2
    have s1':V4 (a1.getD 0 (List.replicate 4 0))=_:=s1
    rw [e,s1']
    generalize pV p p.length=X at *
    generalize pV l2 l2.length=Y at *
    unfold B4
    omega)
  have t3:=o3 1 (by decide)
  obtain ⟨l4,a4,f4,w4,n4,h4,x4,s4,o4⟩:=Z9i (n+1) (i:=3) (by decide) w3 (by omega) h3 (by
    have e:a3.getD (3%2) (List.replicate 4 0)=a2.getD 1 (List.replicate 4 0):=t3
    have s2':V4 (a2.getD 1 (List.replicate 4 0))=_:=s2
    rw [e,s2']
    generalize pV l1 l1.length=X at *
    generalize pV l3 l3.length=Y at *
    unfold B4
    omega)
  have t4:=o4 0 (by decide)
  have v0:V4 (a4.getD 0 (List.replicate 4 0))=pV p p.length%7237005577332262213973186563042994240829374041602535252466099000494570602496+pV l2 l2.length%7237005577332262213973186563042994240829374041602535252466099000494570602496:=by
    have s3':V4 (a3.getD 0 (List.replicate 4 0))=V4 (a2.getD 0 (List.replicate 4 0))+_:=s3
    have s1':V4 (a1.getD 0 (List.replicate 4 0))=_:=s1
    rw [t4,s3',t2,s1']
    omega
  have v1:V4 (a4.getD 1 (List.replicate 4 0))=pV l1 l1.length%7237005577332262213973186563042994240829374041602535252466099000494570602496+pV l3 l3.length%7237005577332262213973186563042994240829374041602535252466099000494570602496:=by
    have s4':V4 (a4.getD 1 (List.replicate 4 0))=V4 (a3.getD 1 (List.replicate 4 0))+_:=s4
    have s2':V4 (a2.getD 1 (List.replicate 4 0))=_:=s2
    rw [s4',t3,s2']
    omega
  obtain ⟨g1,c1,q1,z1,hc1,y1⟩:=Zmx Zj1 Zj1
  obtain ⟨g2,c2,q2,z2,hc2,y2⟩:=Zmx (h4 0) z1
  obtain ⟨g3,c3,q3,z3,hc3,y3⟩:=Zrj z2 (h4 1)
  obtain ⟨r,q4,z4,y4⟩:=Zqw z3
  refine ⟨r,?_,z4,?_⟩
  · refine (f1 _).trans ((f2 _).trans ((f3 _).trans ((f4 _).trans ?_)))
    rw [Z23,Z51,Z0x (by decide),Z3 q1,Zl,Z3 q2,Zl,Z3 q3,Z3 q4]
  · have r1:=Zf8 z1
    have r2:=Zf8 z2
    have r3:=Zf8 z3
    rw [y4]
    rw [Zqq] at y1
    rw [v0] at y2
    rw [v1] at y3
    generalize V4 g1=G1 at *
    generalize V4 g2=G2 at *
    generalize V4 g3=G3 at *
    generalize pV p p.length=X at *
    generalize pV l1 l1.length=X1 at *
    generalize pV l2 l2.length=X2 at *
    generalize pV l3 l3.length=X3 at *
    clear f1 f2 f3 f4 q1 q2 q3 q4 e8
    unfold VL at *
    unfold B4 at *
    have k1:c1=0:=by rcases hc1 with h | h <;> omega
    subst k1
    have b1:X1<51397454971639728862728594851412511588645886491167898648663828096174877345658614143171087801555262538602929264263168:=by omega
    have b2:X2<197026866089141791222560432227205258386878298291626920115022677913390379788544:=by omega
    have b3:X3<776784897766425899003854258144742157804:=by omega
    have k2:c2=0:=by rcases hc2 with h | h <;> omega
    subst k2
    have k3:c3=0:=by rcases hc3 with h | h <;> omega
    subst k3
    have e:G3=X-7237005577332262213973186563042994240857116359379907606001950938285454250989*(X / 7237005577332262213973186563042994240829374041602535252466099000494570602496-X1 / 7237005577332262213973186563042994240829374041602535252466099000494570602496+X2 / 7237005577332262213973186563042994240829374041602535252466099000494570602496-2):=by omega
    rw [e,Int.sub_mul_emod_self_left]
theorem Zpc (k:Nat) {b:Int} (hk:k≤56) (h:0≤b∧b<256):Zj .u64 (IntKind.wrap .u64 b) (k:Int)=b*((2^k:Nat):Int):=by
  have hp:(0:Int)<((2^k:Nat):Int):=by have:=Nat.pow_pos (n:=k) (show 0<2 by decide); omega
  have hle:((2^k:Nat):Int)≤72057594037927936:=by
    have:=Nat.pow_le_pow_right (show 0<2 by decide) hk
    have e:(2^56:Nat)=72057594037927936:=by decide
    omega
  have h1:b*((2^k:Nat):Int)≤255*72057594037927936:=Int.mul_le_mul (by omega) hle (by omega) (by omega)
  have h0:0≤b*((2^k:Nat):Int):=Int.mul_nonneg h.1 (by omega)
  rw [Zb h.1 (by omega),Zeg .u64 (n:=k) (by show k≤64; omega),Zb h0 (by omega)]
theorem Z9a {b0 b1 b2 b3 b4 b5 b6 b7:Int} (h0:0≤b0∧b0<256) (h1:0≤b1∧b1<256) (h2:0≤b2∧b2<256) (h3:0≤b3∧b3<256) (h4:0≤b4∧b4<256) (h5:0≤b5∧b5<256) (h6:0≤b6∧b6<256) (h7:0≤b7∧b7<256):Z4 .or .u64 (Z4 .or .u64 (Z4 .or .u64 (Z4 .or .u64 (Z4 .or .u64 (Z4 .or .u64 (Z4 .or .u64 (Z4 .or .u64 (0) (Zj .u64 (IntKind.wrap .u64 (b0)) 0)) (Zj .u64 (IntKind.wrap .u64 (b1)) 8)) (Zj .u64 (IntKind.wrap .u64 (b2)) 16)) (Zj .u64 (IntKind.wrap .u64 (b3)) 24)) (Zj .u64 (IntKind.wrap .u64 (b4)) 32)) (Zj .u64 (IntKind.wrap .u64 (b5)) 40)) (Zj .u64 (IntKind.wrap .u64 (b6)) 48)) (Zj .u64 (IntKind.wrap .u64 (b7)) 56)=b0+b1*256+b2*65536+b3*16777216+b4*4294967296+b5*1099511627776+b6*281474976710656+b7*72057594037927936:=by
  have s0:=Zpc 0 (by decide) h0
  have s1:=Zpc 8 (by decide) h1
  have s2:=Zpc 16 (by decide) h2
  have s3:=Zpc 24 (by decide) h3
  have s4:=Zpc 32 (by decide) h4
  have s5:=Zpc 40 (by decide) h5
  have s6:=Zpc 48 (by decide) h6
  have s7:=Zpc 56 (by decide) h7
  have t0:Zj .u64 (IntKind.wrap .u64 b0) 0=b0*1:=s0
  have t1:Zj .u64 (IntKind.wrap .u64 b1) 8=b1*256:=s1
  have t2:Zj .u64 (IntKind.wrap .u64 b2) 16=b2*65536:=s2
  have t3:Zj .u64 (IntKind.wrap .u64 b3) 24=b3*16777216:=s3
  have t4:Zj .u64 (IntKind.wrap .u64 b4) 32=b4*4294967296:=s4
  have t5:Zj .u64 (IntKind.wrap .u64 b5) 40=b5*1099511627776:=s5
  have t6:Zj .u64 (IntKind.wrap .u64 b6) 48=b6*281474976710656:=s6
  have t7:Zj .u64 (IntKind.wrap .u64 b7) 56=b7*72057594037927936:=s7
  rw [t0,t1,t2,t3,t4,t5,t6,t7]
  rw [Z0k 0 (x:=b0*1) (y:=0) (a:=b0) rfl (by omega) (by omega) (by decide) (by omega)]
  rw [Z0k 8 (x:=b1*256) (a:=b1) rfl (by omega) (by omega) (by show _<(256:Int); omega) (by omega)]
  rw [Z0k 16 (x:=b2*65536) (a:=b2) rfl (by omega) (by omega) (by show _<(65536:Int); omega) (by omega)]
  rw [Z0k 24 (x:=b3*16777216) (a:=b3) rfl (by omega) (by omega) (by show _<(16777216:Int); omega) (by omega)]
  rw [Z0k 32 (x:=b4*4294967296) (a:=b4) rfl (by omega) (by omega) (by show _<(4294967296:Int); omega) (by omega)]
  rw [Z0k 40 (x:=b5*1099511627776) (a:=b5) rfl (by omega) (by omega) (by show _<(1099511627776:Int); omega) (by omega)]
  rw [Z0k 48 (x:=b6*281474976710656) (a:=b6) rfl (by omega) (by omega) (by show _<(281474976710656:Int); omega) (by omega)]
  rw [Z0k 56 (x:=b7*72057594037927936) (a:=b7) rfl (by omega) (by omega) (by show _<(72057594037927936:Int); omega) (by omega)]
  omega
theorem Zy6 {p:List Int} (h:Byt p) : ∃ r,Zak p=some r∧W64 r∧r.length=4∧V4 r=Z9k p:=by
  refine ⟨_,Zt6 p,Zm8 ?_,rfl,?_⟩
  · repeat' (first | exact Zvo _ _ | exact List.forall_mem_nil _ | refine List.forall_mem_cons.2 ⟨?_,?_⟩)
  · unfold V4
    simp only [List.getD_cons_zero,List.getD_cons_succ]
    rw [Z9a (h 0) (h 1) (h 2) (h 3) (h 4) (h 5) (h 6) (h 7)]
    rw [Z9a (h 8) (h 9) (h 10) (h 11) (h 12) (h 13) (h 14) (h 15)]
    rw [Z9a (h 16) (h 17) (h 18) (h 19) (h 20) (h 21) (h 22) (h 23)]
    rw [Z9a (h 24) (h 25) (h 26) (h 27) (h 28) (h 29) (h 30) (h 31)]
    unfold Z9k
    omega
theorem Z1w (x:Int):Zn .u64 x 8=x / 256:=by have:=Z93 .u64 (x:=x) (n:=8) (by decide); simpa using this
theorem Z00s {p:List Int} (h:W64 p):V4 p%18446744073709551616=p.getD 0 0∧V4 p / 18446744073709551616%18446744073709551616=p.getD 1 0∧V4 p / 340282366920938463463374607431768211456%18446744073709551616=p.getD 2 0∧V4 p / 6277101735386680763835789423207666416102355444464034512896%18446744073709551616=p.getD 3 0:=by
  have h0:=h 0
  have h1:=h 1
  have h2:=h 2
  have h3:=h 3
  unfold V4
  refine ⟨by omega,by omega,by omega,by omega⟩
theorem sb_0 {n x:Int} (h:n%18446744073709551616=x):IntKind.wrap .u8 (x)=n%256:=by
  simp only [Z1w,Z0d]
  omega
theorem sb_1 {n x:Int} (h:n%18446744073709551616=x):IntKind.wrap .u8 (Zn .u64 (x) 8)=n / 256%256:=by
  simp only [Z1w,Z0d]
  omega
theorem sb_2 {n x:Int} (h:n%18446744073709551616=x):IntKind.wrap .u8 (Zn .u64 (Zn .u64 (x) 8) 8)=n / 65536%256:=by
  simp only [Z1w,Z0d]
  omega
theorem sb_3 {n x:Int} (h:n%18446744073709551616=x):IntKind.wrap .u8 (Zn .u64 (Zn .u64 (Zn .u64 (x) 8) 8) 8)=n / 16777216%256:=by
  simp only [Z1w,Z0d]
  omega
theorem sb_4 {n x:Int} (h:n%18446744073709551616=x):IntKind.wrap .u8 (Zn .u64 (Zn .u64 (Zn .u64 (Zn .u64 (x) 8) 8) 8) 8)=n / 4294967296%256:=by
  simp only [Z1w,Z0d]
  omega
theorem sb_5 {n x:Int} (h:n%18446744073709551616=x):IntKind.wrap .u8 (Zn .u64 (Zn .u64 (Zn .u64 (Zn .u64 (Zn .u64 (x) 8) 8) 8) 8) 8)=n / 1099511627776%256:=by
  simp only [Z1w,Z0d]
  omega
theorem sb_6 {n x:Int} (h:n%18446744073709551616=x):IntKind.wrap .u8 (Zn .u64 (Zn .u64 (Zn .u64 (Zn .u64 (Zn .u64 (Zn .u64 (x) 8) 8) 8) 8) 8) 8)=n / 281474976710656%256:=by
  simp only [Z1w,Z0d]
  omega
theorem sb_7 {n x:Int} (h:n%18446744073709551616=x):IntKind.wrap .u8 (Zn .u64 (Zn .u64 (Zn .u64 (Zn .u64 (Zn .u64 (Zn .u64 (Zn .u64 (x) 8) 8) 8) 8) 8) 8) 8)=n / 72057594037927936%256:=by
  simp only [Z1w,Z0d]
  omega
theorem sb_8 {n x:Int} (h:n / 18446744073709551616%18446744073709551616=x):IntKind.wrap .u8 (x)=n / 18446744073709551616%256:=by
  simp only [Z1w,Z0d]
  omega
theorem sb_9 {n x:Int} (h:n / 18446744073709551616%18446744073709551616=x):IntKind.wrap .u8 (Zn .u64 (x) 8)=n / 4722366482869645213696%256:=by
  simp only [Z1w,Z0d]
  omega
theorem Z17n {n x:Int} (h:n / 18446744073709551616%18446744073709551616=x):IntKind.wrap .u8 (Zn .u64 (Zn .u64 (x) 8) 8)=n / 1208925819614629174706176%256:=by
  simp only [Z1w,Z0d]
  omega
theorem Z17o {n x:Int} (h:n / 18446744073709551616%18446744073709551616=x):IntKind.wrap .u8 (Zn .u64 (Zn .u64 (Zn .u64 (x) 8) 8) 8)=n / 309485009821345068724781056%256:=by
  simp only [Z1w,Z0d]
  omega
theorem Z17p {n x:Int} (h:n / 18446744073709551616%18446744073709551616=x):IntKind.wrap .u8 (Zn .u64 (Zn .u64 (Zn .u64 (Zn .u64 (x) 8) 8) 8) 8)=n / 79228162514264337593543950336%256:=by
  simp only [Z1w,Z0d]
  omega
theorem Z17q {n x:Int} (h:n / 18446744073709551616%18446744073709551616=x):IntKind.wrap .u8 (Zn .u64 (Zn .u64 (Zn .u64 (Zn .u64 (Zn .u64 (x) 8) 8) 8) 8) 8)=n / 20282409603651670423947251286016%256:=by
  simp only [Z1w,Z0d]
  omega
theorem Z17r {n x:Int} (h:n / 18446744073709551616%18446744073709551616=x):IntKind.wrap .u8 (Zn .u64 (Zn .u64 (Zn .u64 (Zn .u64 (Zn .u64 (Zn .u64 (x) 8) 8) 8) 8) 8) 8)=n / 5192296858534827628530496329220096%256:=by
  simp only [Z1w,Z0d]
  omega
theorem Z17s {n x:Int} (h:n / 18446744073709551616%18446744073709551616=x):IntKind.wrap .u8 (Zn .u64 (Zn .u64 (Zn .u64 (Zn .u64 (Zn .u64 (Zn .u64 (Zn .u64 (x) 8) 8) 8) 8) 8) 8) 8)=n / 1329227995784915872903807060280344576%256:=by
  simp only [Z1w,Z0d]
  omega
theorem Z17t {n x:Int} (h:n / 340282366920938463463374607431768211456%18446744073709551616=x):IntKind.wrap .u8 (x)=n / 340282366920938463463374607431768211456%256:=by
  simp only [Z1w,Z0d]
  omega
theorem Z17u {n x:Int} (h:n / 340282366920938463463374607431768211456%18446744073709551616=x):IntKind.wrap .u8 (Zn .u64 (x) 8)=n / 87112285931760246646623899502532662132736%256:=by
  simp only [Z1w,Z0d]
  omega
theorem Z17v {n x:Int} (h:n / 340282366920938463463374607431768211456%18446744073709551616=x):IntKind.wrap .u8 (Zn .u64 (Zn .u64 (x) 8) 8)=n / 22300745198530623141535718272648361505980416%256:=by
  simp only [Z1w,Z0d]
  omega
theorem Z17w {n x:Int} (h:n / 340282366920938463463374607431768211456%18446744073709551616=x):IntKind.wrap .u8 (Zn .u64 (Zn .u64 (Zn .u64 (x) 8) 8) 8)=n / 5708990770823839524233143877797980545530986496%256:=by
  simp only [Z1w,Z0d]
  omega
theorem Z17x {n x:Int} (h:n / 340282366920938463463374607431768211456%18446744073709551616=x):IntKind.wrap .u8 (Zn .u64 (Zn .u64 (Zn .u64 (Zn .u64 (x) 8) 8) 8) 8)=n / 1461501637330902918203684832716283019655932542976%256:=by
  simp only [Z1w,Z0d]
  omega
theorem Z17y {n x:Int} (h:n / 340282366920938463463374607431768211456%18446744073709551616=x):IntKind.wrap .u8 (Zn .u64 (Zn .u64 (Zn .u64 (Zn .u64 (Zn .u64 (x) 8) 8) 8) 8) 8)=n / 374144419156711147060143317175368453031918731001856%256:=by
  simp only [Z1w,Z0d]
  omega
theorem Z17z {n x:Int} (h:n / 340282366920938463463374607431768211456%18446744073709551616=x):IntKind.wrap .u8 (Zn .u64 (Zn .u64 (Zn .u64 (Zn .u64 (Zn .u64 (Zn .u64 (x) 8) 8) 8) 8) 8) 8)=n / 95780971304118053647396689196894323976171195136475136%256:=by
  simp only [Z1w,Z0d]
  omega
theorem Z180 {n x:Int} (h:n / 340282366920938463463374607431768211456%18446744073709551616=x):IntKind.wrap .u8 (Zn .u64 (Zn .u64 (Zn .u64 (Zn .u64 (Zn .u64 (Zn .u64 (Zn .u64 (x) 8) 8) 8) 8) 8) 8) 8)=n / 24519928653854221733733552434404946937899825954937634816%256:=by
  simp only [Z1w,Z0d]
  omega
theorem Z181 {n x:Int} (h:n / 6277101735386680763835789423207666416102355444464034512896%18446744073709551616=x):IntKind.wrap .u8 (x)=n / 6277101735386680763835789423207666416102355444464034512896%256:=by
  simp only [Z1w,Z0d]
  omega
theorem Z182 {n x:Int} (h:n / 6277101735386680763835789423207666416102355444464034512896%18446744073709551616=x):IntKind.wrap .u8 (Zn .u64 (x) 8)=n / 1606938044258990275541962092341162602522202993782792835301376%256:=by
  simp only [Z1w,Z0d]
  omega
theorem Z183 {n x:Int} (h:n / 6277101735386680763835789423207666416102355444464034512896%18446744073709551616=x):IntKind.wrap .u8 (Zn .u64 (Zn .u64 (x) 8) 8)=n / 411376139330301510538742295639337626245683966408394965837152256%256:=by
  simp only [Z1w,Z0d]
  omega
theorem Z184 {n x:Int} (h:n / 6277101735386680763835789423207666416102355444464034512896%18446744073709551616=x):IntKind.wrap .u8 (Zn .u64 (Zn .u64 (Zn .u64 (x) 8) 8) 8)=n / 105312291668557186697918027683670432318895095400549111254310977536%256:=by
  simp only [Z1w,Z0d]
  omega
theorem Z185 {n x:Int} (h:n / 6277101735386680763835789423207666416102355444464034512896%18446744073709551616=x):IntKind.wrap .u8 (Zn .u64 (Zn .u64 (Zn .u64 (Zn .u64 (x) 8) 8) 8) 8)=n / 26959946667150639794667015087019630673637144422540572481103610249216%256:=by
  simp only [Z1w,Z0d]
  omega
theorem Z186 {n x:Int} (h:n / 6277101735386680763835789423207666416102355444464034512896%18446744073709551616=x):IntKind.wrap .u8 (Zn .u64 (Zn .u64 (Zn .u64 (Zn .u64 (Zn .u64 (x) 8) 8) 8) 8) 8)=n / 6901746346790563787434755862277025452451108972170386555162524223799296%256:=by
  simp only [Z1w,Z0d]
  omega
theorem Z187 {n x:Int} (h:n / 6277101735386680763835789423207666416102355444464034512896%18446744073709551616=x):IntKind.wrap .u8 (Zn .u64 (Zn .u64 (Zn .u64 (Zn .u64 (Zn .u64 (Zn .u64 (x) 8) 8) 8) 8) 8) 8)=n / 1766847064778384329583297500742918515827483896875618958121606201292619776%256:=by
  simp only [Z1w,Z0d]
  omega
theorem Z188 {n x:Int} (h:n / 6277101735386680763835789423207666416102355444464034512896%18446744073709551616=x):IntKind.wrap .u8 (Zn .u64 (Zn .u64 (Zn .u64 (Zn .u64 (Zn .u64 (Zn .u64 (Zn .u64 (x) 8) 8) 8) 8) 8) 8) 8)=n / 452312848583266388373324160190187140051835877600158453279131187530910662656%256:=by
  simp only [Z1w,Z0d]
  omega
theorem Zkj {p:List Int} (h:W64 p):Z5y p=some (byt (V4 p)):=by
  obtain ⟨e0,e1,e2,e3⟩:=Z00s h
  rw [Zx0]
  unfold byt
  rw [sb_0 e0,sb_1 e0,sb_2 e0,sb_3 e0,sb_4 e0,sb_5 e0,sb_6 e0,sb_7 e0,sb_8 e1,sb_9 e1,Z17n e1,Z17o e1,Z17p e1,Z17q e1,Z17r e1,Z17s e1,Z17t e2,Z17u e2,Z17v e2,Z17w e2,Z17x e2,Z17y e2,Z17z e2,Z180 e2,Z181 e3,Z182 e3,Z183 e3,Z184 e3,Z185 e3,Z186 e3,Z187 e3,Z188 e3]
theorem Zsg {n:Int} (h0:0≤n) (h1:n<115792089237316195423570985008687907853269984665640564039457584007913129639936):Z9k (byt n)=n:=by
  simp only [Z9k,byt,List.getD_cons_zero,List.getD_cons_succ]
  omega
theorem Z02k (r:List Int):pV r 4=V4 r:=by
  simp only [pV,V4]
  have e1:(18446744073709551616:Int)^0=1:=by decide
  have e2:(18446744073709551616:Int)^1=18446744073709551616:=by decide
  have e3:(18446744073709551616:Int)^2=340282366920938463463374607431768211456:=by decide
  have e4:(18446744073709551616:Int)^3=6277101735386680763835789423207666416102355444464034512896:=by decide
  rw [e1,e2,e3,e4]
  omega
theorem Zkm {p:List Int} (h:Byt p) : ∃ r,Z62 p=some r∧W64 r∧r.length=4∧pV r r.length=Z9k p:=by
  obtain ⟨r,e,w,l,v⟩:=Zy6 h
  refine ⟨r,?_,w,l,by rw [l,Z02k,v]⟩
  rw [Z62,Z3 e,Z96 l]
theorem Zvd {p:List Int} (h:Byt p) : ∃ r,Z9r p=some r∧W64 r∧V4 r=Z9k p%VL:=by
  obtain ⟨r,e,w,l,v⟩:=Zkm h
  obtain ⟨s,e2,w2,v2⟩:=Zhj w (by omega)
  exact ⟨s,by rw [Z9r,Z3 e,Z3 e2],w2,by rw [v2,v]⟩
theorem Znk (n:Int):0≤n%VL∧n%VL<VL:=⟨Int.emod_nonneg _ (by decide),Int.emod_lt_of_pos _ (by decide)⟩
theorem Zza {p q:List Int} (hp:Byt p) (hq:Byt q):Zc4 p q=some (byt (Z9k p*Z9k q%VL)):=by
  obtain ⟨a,e1,w1,l1,v1⟩:=Zkm hp
  obtain ⟨b,e2,w2,l2,v2⟩:=Zkm hq
  obtain ⟨c,e3,l3,w3,v3⟩:=Zpi w1 w2 (by omega)
  obtain ⟨d,e4,w4,v4⟩:=Zhj w3 (by omega)
  rw [Zc4,Z3 e1,Z3 e2,Z3 e3,Z3 e4,Z3 (Zkj w4),v4,v3,v1,v2]
theorem Zz9 {p q:List Int} (hp:Byt p) (hq:Byt q):Zc3 p q=some (byt ((Z9k p+Z9k q)%VL)):=by
  obtain ⟨a,e1,w1,v1⟩:=Zvd hp
  obtain ⟨b,e2,w2,v2⟩:=Zvd hq
  obtain ⟨c,o,e3,w3,ho,v3⟩:=Zmx w1 w2
  obtain ⟨d,e4,w4,v4⟩:=Zqw w3
  have h1:=Znk (Z9k p)
  have h2:=Znk (Z9k q)
  have h3:=Zf8 w3
  have e:V4 c=Z9k p%VL+Z9k q%VL:=by
    rw [v1,v2] at v3
    unfold VL B4 at *
    rcases ho with h | h <;> subst h <;> omega
  rw [Zc3,Z3 e1,Z3 e2,Z3 e3,Z3 e4,Z3 (Zkj w4),v4,e,← Int.add_emod]
theorem Zqe {p q r:List Int} (hp:Byt p) (hq:Byt q) (hr:Byt r):Z69 p q r=some (byt ((Z9k p*Z9k q+Z9k r)%VL)):=by
  have h:=Znk (Z9k p*Z9k q)
  rw [Z69,Z3 (Zza hp hq),Z3 (Zz9 (Zj5 _) hr),Zsg h.1 (by unfold VL at h ⊢; omega),Int.emod_add_emod]
def Zzu (x:List Int):Int:=x.getD 0 0+x.getD 1 0*256+x.getD 2 0*65536+x.getD 3 0*16777216+x.getD 4 0*4294967296+x.getD 5 0*1099511627776+x.getD 6 0*281474976710656+x.getD 7 0*72057594037927936+x.getD 8 0*18446744073709551616+x.getD 9 0*4722366482869645213696+x.getD 10 0*1208925819614629174706176+x.getD 11 0*309485009821345068724781056+x.getD 12 0*79228162514264337593543950336+x.getD 13 0*20282409603651670423947251286016+x.getD 14 0*5192296858534827628530496329220096+x.getD 15 0*1329227995784915872903807060280344576+x.getD 16 0*340282366920938463463374607431768211456+x.getD 17 0*87112285931760246646623899502532662132736+x.getD 18 0*22300745198530623141535718272648361505980416+x.getD 19 0*5708990770823839524233143877797980545530986496+x.getD 20 0*1461501637330902918203684832716283019655932542976+x.getD 21 0*374144419156711147060143317175368453031918731001856+x.getD 22 0*95780971304118053647396689196894323976171195136475136+x.getD 23 0*24519928653854221733733552434404946937899825954937634816+x.getD 24 0*6277101735386680763835789423207666416102355444464034512896+x.getD 25 0*1606938044258990275541962092341162602522202993782792835301376+x.getD 26 0*411376139330301510538742295639337626245683966408394965837152256+x.getD 27 0*105312291668557186697918027683670432318895095400549111254310977536+x.getD 28 0*26959946667150639794667015087019630673637144422540572481103610249216+x.getD 29 0*6901746346790563787434755862277025452451108972170386555162524223799296+x.getD 30 0*1766847064778384329583297500742918515827483896875618958121606201292619776+x.getD 31 0*452312848583266388373324160190187140051835877600158453279131187530910662656+x.getD 32 0*115792089237316195423570985008687907853269984665640564039457584007913129639936+x.getD 33 0*29642774844752946028434172162224104410437116074403984394101141506025761187823616+x.getD 34 0*7588550360256754183279148073529370729071901715047420004889892225542594864082845696+x.getD 35 0*1942668892225729070919461906823518906642406839052139521251812409738904285205208498176+x.getD 36 0*497323236409786642155382248146820840100456150797347717440463976893159497012533375533056+x.getD 37 0*127314748520905380391777855525586135065716774604121015664758778084648831235208544136462336+x.getD 38 0*32592575621351777380295131014550050576823494298654980010178247189670100796213387298934358016+x.getD 39 0*8343699359066055009355553539724812947666814540455674882605631280555545803830627148527195652096+x.getD 40 0*2135987035920910082395021706169552114602704522356652769947041607822219725780640550022962086936576+x.getD 41 0*546812681195752981093125556779405341338292357723303109106442651602488249799843980805878294255763456+x.getD 42 0*139984046386112763159840142535527767382602843577165595931249318810236991948760059086304843329475444736+x.getD 43 0*35835915874844867368919076489095108449946327955754392558399825615420669938882575126094039892345713852416+x.getD 44 0*9173994463960286046443283581208347763186259956673124494950355357547691504353939232280074212440502746218496+x.getD 45 0*2348542582773833227889480596789337027375682548908319870707290971532209025114608443463698998384768703031934976+x.getD 46 0*601226901190101306339707032778070279008174732520529886901066488712245510429339761526706943586500787976175353856+x.getD 47 0*153914086704665934422965000391185991426092731525255651046673021110334850669910978950836977558144201721900890587136+x.getD 48 0*39402006196394479212279040100143613805079739270465446667948293404245721771497210611414266254884915640806627990306816+x.getD 49 0*10086913586276986678343434265636765134100413253239154346994763111486904773503285916522052161250538404046496765518544896+x.getD 50 0*2582249878086908589655919172003011874329705792829223512830659356540647622016841194629645353280137831435903171972747493376+x.getD 51 0*661055968790248598951915308032771039828404682964281219284648795274405791236311345825189210439715284847591212025023358304256+x.getD 52 0*169230328010303641331690318856389386196071598838855992136870091590247882556495704531248437872567112920983350278405979725889536+x.getD 53 0*43322963970637732180912721627235682866194329302747133987038743447103457934462900359999600095377180907771737671271930809827721216+x.getD 54 0*11090678776483259438313656736572334813745748301503266300681918322458485231222502492159897624416558312389564843845614287315896631296+x.getD 55 0*2839213766779714416208296124562517712318911565184836172974571090549372219192960637992933791850638927971728600024477257552869537611776+x.getD 56 0*726838724295606890549323807888004534353641360687318060281490199180639288113397923326191050713763565560762521606266177933534601628614656+x.getD 57 0*186070713419675363980626894819329160794532188335953423432061490990243657757029868371504908982723472783555205531204141550984858016925351936+x.getD 58 0*47634102635436893179040485073748265163400240214004076398607741693502376385799646303105256699577209032590132615988260237052123652332890095616+x.getD 59 0*12194330274671844653834364178879555881830461494785043558043581873536608354764709453594945715091765512343073949692994620685343654997219864477696+x.getD 60 0*3121748550315992231381597229793166305748598142664971150859156959625371738819765620120306103063491971159826931121406622895447975679288285306290176+x.getD 61 0*799167628880894011233688890827050574271641124522232614619944181664095165137859998750798362384253944616915694367080095461234681773897801038410285056+x.getD 62 0*204586912993508866875824356051724947013540127877691549342705710506008362275292159680204380770369009821930417757972504438076078534117837065833032974336+x.getD 63 0*52374249726338269920211035149241586435466272736689036631732661889538140742474792878132321477214466514414186946040961136147476104734166288853256441430016
theorem Zsr {p:List Int} (h:Byt p):Z4v p=some (byt (Zzu p%VL)):=by
  rw [Z4v,Z12,Zsq]
  have hw:W64 ([Z4 .or .u64 (Z4 .or .u64 (Z4 .or .u64 (Z4 .or .u64 (Z4 .or .u64 (Z4 .or .u64 (Z4 .or .u64 (Z4 .or .u64 (0) (Zj .u64 (IntKind.wrap .u64 (p.getD 0 0)) 0)) (Zj .u64 (IntKind.wrap .u64 (p.getD 1 0)) 8)) (Zj .u64 (IntKind.wrap .u64 (p.getD 2 0)) 16)) (Zj .u64 (IntKind.wrap .u64 (p.getD 3 0)) 24)) (Zj .u64 (IntKind.wrap .u64 (p.getD 4 0)) 32)) (Zj .u64 (IntKind.wrap .u64 (p.getD 5 0)) 40)) (Zj .u64 (IntKind.wrap .u64 (p.getD 6 0)) 48)) (Zj .u64 (IntKind.wrap .u64 (p.getD 7 0)) 56),Z4 .or .u64 (Z4 .or .u64 (Z4 .or .u64 (Z4 .or .u64 (Z4 .or .u64 (Z4 .or .u64 (Z4 .or .u64 (Z4 .or .u64 (0) (Zj .u64 (IntKind.wrap .u64 (p.getD 8 0)) 0)) (Zj .u64 (IntKind.wrap .u64 (p.getD 9 0)) 8)) (Zj .u64 (IntKind.wrap .u64 (p.getD 10 0)) 16)) (Zj .u64 (IntKind.wrap .u64 (p.getD 11 0)) 24)) (Zj .u64 (IntKind.wrap .u64 (p.getD 12 0)) 32)) (Zj .u64 (IntKind.wrap .u64 (p.getD 13 0)) 40)) (Zj .u64 (IntKind.wrap .u64 (p.getD 14 0)) 48)) (Zj .u64 (IntKind.wrap .u64 (p.getD 15 0)) 56),Z4 .or .u64 (Z4 .or .u64 (Z4 .or .u64 (Z4 .or .u64 (Z4 .or .u64 (Z4 .or .u64 (Z4 .or .u64 (Z4 .or .u64 (0) (Zj .u64 (IntKind.wrap .u64 (p.getD 16 0)) 0)) (Zj .u64 (IntKind.wrap .u64 (p.getD 17 0)) 8)) (Zj .u64 (IntKind.wrap .u64 (p.getD 18 0)) 16)) (Zj .u64 (IntKind.wrap .u64 (p.getD 19 0)) 24)) (Zj .u64 (IntKind.wrap .u64 (p.getD 20 0)) 32)) (Zj .u64 (IntKind.wrap .u64 (p.getD 21 0)) 40)) (Zj .u64 (IntKind.wrap .u64 (p.getD 22 0)) 48)) (Zj .u64 (IntKind.wrap .u64 (p.getD 23 0)) 56),Z4 .or .u64 (Z4 .or .u64 (Z4 .or .u64 (Z4 .or .u64 (Z4 .or .u64 (Z4 .or .u64 (Z4 .or .u64 (Z4 .or .u64 (0) (Zj .u64 (IntKind.wrap .u64 (p.getD 24 0)) 0)) (Zj .u64 (IntKind.wrap .u64 (p.getD 25 0)) 8)) (Zj .u64 (IntKind.wrap .u64 (p.getD 26 0)) 16)) (Zj .u64 (IntKind.wrap .u64 (p.getD 27 0)) 24)) (Zj .u64 (IntKind.wrap .u64 (p.getD 28 0)) 32)) (Zj .u64 (IntKind.wrap .u64 (p.getD 29 0)) 40)) (Zj .u64 (IntKind.wrap .u64 (p.getD 30 0)) 48)) (Zj .u64 (IntKind.wrap .u64 (p.getD 31 0)) 56),Z4 .or .u64 (Z4 .or .u64 (Z4 .or .u64 (Z4 .or .u64 (Z4 .or .u64 (Z4 .or .u64 (Z4 .or .u64 (Z4 .or .u64 (0) (Zj .u64 (IntKind.wrap .u64 (p.getD 32 0)) 0)) (Zj .u64 (IntKind.wrap .u64 (p.getD 33 0)) 8)) (Zj .u64 (IntKind.wrap .u64 (p.getD 34 0)) 16)) (Zj .u64 (IntKind.wrap .u64 (p.getD 35 0)) 24)) (Zj .u64 (IntKind.wrap .u64 (p.getD 36 0)) 32)) (Zj .u64 (IntKind.wrap .u64 (p.getD 37 0)) 40)) (Zj .u64 (IntKind.wrap .u64 (p.getD 38 0)) 48)) (Zj .u64 (IntKind.wrap .u64 (p.getD 39 0)) 56),Z4 .or .u64 (Z4 .or .u64 (Z4 .or .u64 (Z4 .or .u64 (Z4 .or .u64 (Z4 .or .u64 (Z4 .or .u64 (Z4 .or .u64 (0) (Zj .u64 (IntKind.wrap .u64 (p.getD 40 0)) 0)) (Zj .u64 (IntKind.wrap .u64 (p.getD 41 0)) 8)) (Zj .u64 (IntKind.wrap .u64 (p.getD 42 0)) 16)) (Zj .u64 (IntKind.wrap .u64 (p.getD 43 0)) 24)) (Zj .u64 (IntKind.wrap .u64 (p.getD 44 0)) 32)) (Zj .u64 (IntKind.wrap .u64 (p.getD 45 0)) 40)) (Zj .u64 (IntKind.wrap .u64 (p.getD 46 0)) 48)) (Zj .u64 (IntKind.wrap .u64 (p.getD 47 0)) 56),Z4 .or .u64 (Z4 .or .u64 (Z4 .or .u64 (Z4 .or .u64 (Z4 .or .u64 (Z4 .or .u64 (Z4 .or .u64 (Z4 .or .u64 (0) (Zj .u64 (IntKind.wrap .u64 (p.getD 48 0)) 0)) (Zj .u64 (IntKind.wrap .u64 (p.getD 49 0)) 8)) (Zj .u64 (IntKind.wrap .u64 (p.getD 50 0)) 16)) (Zj .u64 (IntKind.wrap .u64 (p.getD 51 0)) 24)) (Zj .u64 (IntKind.wrap .u64 (p.getD 52 0)) 32)) (Zj .u64 (IntKind.wrap .u64 (p.getD 53 0)) 40)) (Zj .u64 (IntKind.wrap .u64 (p.getD 54 0)) 48)) (Zj .u64 (IntKind.wrap .u64 (p.getD 55 0)) 56),Z4 .or .u64 (Z4 .or .u64 (Z4 .or .u64 (Z4 .or .u64 (Z4 .or .u64 (Z4 .or .u64 (Z4 .or .u64 (Z4 .or .u64 (0) (Zj .u64 (IntKind.wrap .u64 (p.getD 56 0)) 0)) (Zj .u64 (IntKind.wrap .u64 (p.getD 57 0)) 8)) (Zj .u64 (IntKind.wrap .u64 (p.getD 58 0)) 16)) (Zj .u64 (IntKind.wrap .u64 (p.getD 59 0)) 24)) (Zj .u64 (IntKind.wrap .u64 (p.getD 60 0)) 32)) (Zj .u64 (IntKind.wrap .u64 (p.getD 61 0)) 40)) (Zj .u64 (IntKind.wrap .u64 (p.getD 62 0)) 48)) (Zj .u64 (IntKind.wrap .u64 (p.getD 63 0)) 56)]):=Zm8 (by
    repeat' (first | exact Zvo _ _ | exact List.forall_mem_nil _ | refine List.forall_mem_cons.2 ⟨?_,?_⟩))
  have hv:pV ([Z4 .or .u64 (Z4 .or .u64 (Z4 .or .u64 (Z4 .or .u64 (Z4 .or .u64 (Z4 .or .u64 (Z4 .or .u64 (Z4 .or .u64 (0) (Zj .u64 (IntKind.wrap .u64 (p.getD 0 0)) 0)) (Zj .u64 (IntKind.wrap .u64 (p.getD 1 0)) 8)) (Zj .u64 (IntKind.wrap .u64 (p.getD 2 0)) 16)) (Zj .u64 (IntKind.wrap .u64 (p.getD 3 0)) 24)) (Zj .u64 (IntKind.wrap .u64 (p.getD 4 0)) 32)) (Zj .u64 (IntKind.wrap .u64 (p.getD 5 0)) 40)) (Zj .u64 (IntKind.wrap .u64 (p.getD 6 0)) 48)) (Zj .u64 (IntKind.wrap .u64 (p.getD 7 0)) 56),Z4 .or .u64 (Z4 .or .u64 (Z4 .or .u64 (Z4 .or .u64 (Z4 .or .u64 (Z4 .or .u64 (Z4 .or .u64 (Z4 .or .u64 (0) (Zj .u64 (IntKind.wrap .u64 (p.getD 8 0)) 0)) (Zj .u64 (IntKind.wrap .u64 (p.getD 9 0)) 8)) (Zj .u64 (IntKind.wrap .u64 (p.getD 10 0)) 16)) (Zj .u64 (IntKind.wrap .u64 (p.getD 11 0)) 24)) (Zj .u64 (IntKind.wrap .u64 (p.getD 12 0)) 32)) (Zj .u64 (IntKind.wrap .u64 (p.getD 13 0)) 40)) (Zj .u64 (IntKind.wrap .u64 (p.getD 14 0)) 48)) (Zj .u64 (IntKind.wrap .u64 (p.getD 15 0)) 56),Z4 .or .u64 (Z4 .or .u64 (Z4 .or .u64 (Z4 .or .u64 (Z4 .or .u64 (Z4 .or .u64 (Z4 .or .u64 (Z4 .or .u64 (0) (Zj .u64 (IntKind.wrap .u64 (p.getD 16 0)) 0)) (Zj .u64 (IntKind.wrap .u64 (p.getD 17 0)) 8)) (Zj .u64 (IntKind.wrap .u64 (p.getD 18 0)) 16)) (Zj .u64 (IntKind.wrap .u64 (p.getD 19 0)) 24)) (Zj .u64 (IntKind.wrap .u64 (p.getD 20 0)) 32)) (Zj .u64 (IntKind.wrap .u64 (p.getD 21 0)) 40)) (Zj .u64 (IntKind.wrap .u64 (p.getD 22 0)) 48)) (Zj .u64 (IntKind.wrap .u64 (p.getD 23 0)) 56),Z4 .or .u64 (Z4 .or .u64 (Z4 .or .u64 (Z4 .or .u64 (Z4 .or .u64 (Z4 .or .u64 (Z4 .or .u64 (Z4 .or .u64 (0) (Zj .u64 (IntKind.wrap .u64 (p.getD 24 0)) 0)) (Zj .u64 (IntKind.wrap .u64 (p.getD 25 0)) 8)) (Zj .u64 (IntKind.wrap .u64 (p.getD 26 0)) 16)) (Zj .u64 (IntKind.wrap .u64 (p.getD 27 0)) 24)) (Zj .u64 (IntKind.wrap .u64 (p.getD 28 0)) 32)) (Zj .u64 (IntKind.wrap .u64 (p.getD 29 0)) 40)) (Zj .u64 (IntKind.wrap .u64 (p.getD 30 0)) 48)) (Zj .u64 (IntKind.wrap .u64 (p.getD 31 0)) 56),Z4 .or .u64 (Z4 .or .u64 (Z4 .or .u64 (Z4 .or .u64 (Z4 .or .u64 (Z4 .or .u64 (Z4 .or .u64 (Z4 .or .u64 (0) (Zj .u64 (IntKind.wrap .u64 (p.getD 32 0)) 0)) (Zj .u64 (IntKind.wrap .u64 (p.getD 33 0)) 8)) (Zj .u64 (IntKind.wrap .u64 (p.getD 34 0)) 16)) (Zj .u64 (IntKind.wrap .u64 (p.getD 35 0)) 24)) (Zj .u64 (IntKind.wrap .u64 (p.getD 36 0)) 32)) (Zj .u64 (IntKind.wrap .u64 (p.getD 37 0)) 40)) (Zj .u64 (IntKind.wrap .u64 (p.getD 38 0)) 48)) (Zj .u64 (IntKind.wrap .u64 (p.getD 39 0)) 56),Z4 .or .u64 (Z4 .or .u64 (Z4 .or .u64 (Z4 .or .u64 (Z4 .or .u64 (Z4 .or .u64 (Z4 .or .u64 (Z4 .or .u64 (0) (Zj .u64 (IntKind.wrap .u64 (p.getD 40 0)) 0)) (Zj .u64 (IntKind.wrap .u64 (p.getD 41 0)) 8)) (Zj .u64 (IntKind.wrap .u64 (p.getD 42 0)) 16)) (Zj .u64 (IntKind.wrap .u64 (p.getD 43 0)) 24)) (Zj .u64 (IntKind.wrap .u64 (p.getD 44 0)) 32)) (Zj .u64 (IntKind.wrap .u64 (p.getD 45 0)) 40)) (Zj .u64 (IntKind.wrap .u64 (p.getD 46 0)) 48)) (Zj .u64 (IntKind.wrap .u64 (p.getD 47 0)) 56),Z4 .or .u64 (Z4 .or .u64 (Z4 .or .u64 (Z4 .or .u64 (Z4 .or .u64 (Z4 .or .u64 (Z4 .or .u64 (Z4 .or .u64 (0) (Zj .u64 (IntKind.wrap .u64 (p.getD 48 0)) 0)) (Zj .u64 (IntKind.wrap .u64 (p.getD 49 0)) 8)) (Zj .u64 (IntKind.wrap .u64 (p.getD 50 0)) 16)) (Zj .u64 (IntKind.wrap .u64 (p.getD 51 0)) 24)) (Zj .u64 (IntKind.wrap .u64 (p.getD 52 0)) 32)) (Zj .u64 (IntKind.wrap .u64 (p.getD 53 0)) 40)) (Zj .u64 (IntKind.wrap .u64 (p.getD 54 0)) 48)) (Zj .u64 (IntKind.wrap .u64 (p.getD 55 0)) 56),Z4 .or .u64 (Z4 .or .u64 (Z4 .or .u64 (Z4 .or .u64 (Z4 .or .u64 (Z4 .or .u64 (Z4 .or .u64 (Z4 .or .u64 (0) (Zj .u64 (IntKind.wrap .u64 (p.getD 56 0)) 0)) (Zj .u64 (IntKind.wrap .u64 (p.getD 57 0)) 8)) (Zj .u64 (IntKind.wrap .u64 (p.getD 58 0)) 16)) (Zj .u64 (IntKind.wrap .u64 (p.getD 59 0)) 24)) (Zj .u64 (IntKind.wrap .u64 (p.getD 60 0)) 32)) (Zj .u64 (IntKind.wrap .u64 (p.getD 61 0)) 40)) (Zj .u64 (IntKind.wrap .u64 (p.getD 62 0)) 48)) (Zj .u64 (IntKind.wrap .u64 (p.getD 63 0)) 56)]) 8=Zzu p:=by
    simp only [pV,List.getD_cons_zero,List.getD_cons_succ]
    rw [Z9a (h 0) (h 1) (h 2) (h 3) (h 4) (h 5) (h 6) (h 7)]
    rw [Z9a (h 8) (h 9) (h 10) (h 11) (h 12) (h 13) (h 14) (h 15)]
    rw [Z9a (h 16) (h 17) (h 18) (h 19) (h 20) (h 21) (h 22) (h 23)]
    rw [Z9a (h 24) (h 25) (h 26) (h 27) (h 28) (h 29) (h 30) (h 31)]
    rw [Z9a (h 32) (h 33) (h 34) (h 35) (h 36) (h 37) (h 38) (h 39)]
    rw [Z9a (h 40) (h 41) (h 42) (h 43) (h 44) (h 45) (h 46) (h 47)]
    rw [Z9a (h 48) (h 49) (h 50) (h 51) (h 52) (h 53) (h 54) (h 55)]
    rw [Z9a (h 56) (h 57) (h 58) (h 59) (h 60) (h 61) (h 62) (h 63)]
    have e0:(18446744073709551616:Int)^0=1:=by decide
    have e1:(18446744073709551616:Int)^1=18446744073709551616:=by decide
    have e2:(18446744073709551616:Int)^2=340282366920938463463374607431768211456:=by decide
    have e3:(18446744073709551616:Int)^3=6277101735386680763835789423207666416102355444464034512896:=by decide
    have e4:(18446744073709551616:Int)^4=115792089237316195423570985008687907853269984665640564039457584007913129639936:=by decide
    have e5:(18446744073709551616:Int)^5=2135987035920910082395021706169552114602704522356652769947041607822219725780640550022962086936576:=by decide
    have e6:(18446744073709551616:Int)^6=39402006196394479212279040100143613805079739270465446667948293404245721771497210611414266254884915640806627990306816:=by decide
    have e7:(18446744073709551616:Int)^7=726838724295606890549323807888004534353641360687318060281490199180639288113397923326191050713763565560762521606266177933534601628614656:=by decide
    rw [e0,e1,e2,e3,e4,e5,e6,e7]
    unfold Zzu
    omega
  obtain ⟨r,e,w,v⟩:=Zhj hw (Nat.le_refl _)
  rw [tk8,Z3 e,Z3 (Zkj w),v]
  rw [show pV ([Z4 .or .u64 (Z4 .or .u64 (Z4 .or .u64 (Z4 .or .u64 (Z4 .or .u64 (Z4 .or .u64 (Z4 .or .u64 (Z4 .or .u64 (0) (Zj .u64 (IntKind.wrap .u64 (p.getD 0 0)) 0)) (Zj .u64 (IntKind.wrap .u64 (p.getD 1 0)) 8)) (Zj .u64 (IntKind.wrap .u64 (p.getD 2 0)) 16)) (Zj .u64 (IntKind.wrap .u64 (p.getD 3 0)) 24)) (Zj .u64 (IntKind.wrap .u64 (p.getD 4 0)) 32)) (Zj .u64 (IntKind.wrap .u64 (p.getD 5 0)) 40)) (Zj .u64 (IntKind.wrap .u64 (p.getD 6 0)) 48)) (Zj .u64 (IntKind.wrap .u64 (p.getD 7 0)) 56),Z4 .or .u64 (Z4 .or .u64 (Z4 .or .u64 (Z4 .or .u64 (Z4 .or .u64 (Z4 .or .u64 (Z4 .or .u64 (Z4 .or .u64 (0) (Zj .u64 (IntKind.wrap .u64 (p.getD 8 0)) 0)) (Zj .u64 (IntKind.wrap .u64 (p.getD 9 0)) 8)) (Zj .u64 (IntKind.wrap .u64 (p.getD 10 0)) 16)) (Zj .u64 (IntKind.wrap .u64 (p.getD 11 0)) 24)) (Zj .u64 (IntKind.wrap .u64 (p.getD 12 0)) 32)) (Zj .u64 (IntKind.wrap .u64 (p.getD 13 0)) 40)) (Zj .u64 (IntKind.wrap .u64 (p.getD 14 0)) 48)) (Zj .u64 (IntKind.wrap .u64 (p.getD 15 0)) 56),Z4 .or .u64 (Z4 .or .u64 (Z4 .or .u64 (Z4 .or .u64 (Z4 .or .u64 (Z4 .or .u64 (Z4 .or .u64 (Z4 .or .u64 (0) (Zj .u64 (IntKind.wrap .u64 (p.getD 16 0)) 0)) (Zj .u64 (IntKind.wrap .u64 (p.getD 17 0)) 8)) (Zj .u64 (IntKind.wrap .u64 (p.getD 18 0)) 16)) (Zj .u64 (IntKind.wrap .u64 (p.getD 19 0)) 24)) (Zj .u64 (IntKind.wrap .u64 (p.getD 20 0)) 32)) (Zj .u64 (IntKind.wrap .u64 (p.getD 21 0)) 40)) (Zj .u64 (IntKind.wrap .u64 (p.getD 22 0)) 48)) (Zj .u64 (IntKind.wrap .u64 (p.getD 23 0)) 56),Z4 .or .u64 (Z4 .or .u64 (Z4 .or .u64 (Z4 .or .u64 (Z4 .or .u64 (Z4 .or .u64 (Z4 .or .u64 (Z4 .or .u64 (0) (Zj .u64 (IntKind.wrap .u64 (p.getD 24 0)) 0)) (Zj .u64 (IntKind.wrap .u64 (p.getD 25 0)) 8)) (Zj .u64 (IntKind.wrap .u64 (p.getD 26 0)) 16)) (Zj .u64 (IntKind.wrap .u64 (p.getD 27 0)) 24)) (Zj .u64 (IntKind.wrap .u64 (p.getD 28 0)) 32)) (Zj .u64 (IntKind.wrap .u64 (p.getD 29 0)) 40)) (Zj .u64 (IntKind.wrap .u64 (p.getD 30 0)) 48)) (Zj .u64 (IntKind.wrap .u64 (p.getD 31 0)) 56),Z4 .or .u64 (Z4 .or .u64 (Z4 .or .u64 (Z4 .or .u64 (Z4 .or .u64 (Z4 .or .u64 (Z4 .or .u64 (Z4 .or .u64 (0) (Zj .u64 (IntKind.wrap .u64 (p.getD 32 0)) 0)) (Zj .u64 (IntKind.wrap .u64 (p.getD 33 0)) 8)) (Zj .u64 (IntKind.wrap .u64 (p.getD 34 0)) 16)) (Zj .u64 (IntKind.wrap .u64 (p.getD 35 0)) 24)) (Zj .u64 (IntKind.wrap .u64 (p.getD 36 0)) 32)) (Zj .u64 (IntKind.wrap .u64 (p.getD 37 0)) 40)) (Zj .u64 (IntKind.wrap .u64 (p.getD 38 0)) 48)) (Zj .u64 (IntKind.wrap .u64 (p.getD 39 0)) 56),Z4 .or .u64 (Z4 .or .u64 (Z4 .or .u64 (Z4 .or .u64 (Z4 .or .u64 (Z4 .or .u64 (Z4 .or .u64 (Z4 .or .u64 (0) (Zj .u64 (IntKind.wrap .u64 (p.getD 40 0)) 0)) (Zj .u64 (IntKind.wrap .u64 (p.getD 41 0)) 8)) (Zj .u64 (IntKind.wrap .u64 (p.getD 42 0)) 16)) (Zj .u64 (IntKind.wrap .u64 (p.getD 43 0)) 24)) (Zj .u64 (IntKind.wrap .u64 (p.getD 44 0)) 32)) (Zj .u64 (IntKind.wrap .u64 (p.getD 45 0)) 40)) (Zj .u64 (IntKind.wrap .u64 (p.getD 46 0)) 48)) (Zj .u64 (IntKind.wrap .u64 (p.getD 47 0)) 56),Z4 .or .u64 (Z4 .or .u64 (Z4 .or .u64 (Z4 .or .u64 (Z4 .or .u64 (Z4 .or .u64 (Z4 .or .u64 (Z4 .or .u64 (0) (Zj .u64 (IntKind.wrap .u64 (p.getD 48 0)) 0)) (Zj .u64 (IntKind.wrap .u64 (p.getD 49 0)) 8)) (Zj .u64 (IntKind.wrap .u64 (p.getD 50 0)) 16)) (Zj .u64 (IntKind.wrap .u64 (p.getD 51 0)) 24)) (Zj .u64 (IntKind.wrap .u64 (p.getD 52 0)) 32)) (Zj .u64 (IntKind.wrap .u64 (p.getD 53 0)) 40)) (Zj .u64 (IntKind.wrap .u64 (p.getD 54 0)) 48)) (Zj .u64 (IntKind.wrap .u64 (p.getD 55 0)) 56),Z4 .or .u64 (Z4 .or .u64 (Z4 .or .u64 (Z4 .or .u64 (Z4 .or .u64 (Z4 .or .u64 (Z4 .or .u64 (Z4 .or .u64 (0) (Zj .u64 (IntKind.wrap .u64 (p.getD 56 0)) 0)) (Zj .u64 (IntKind.wrap .u64 (p.getD 57 0)) 8)) (Zj .u64 (IntKind.wrap .u64 (p.getD 58 0)) 16)) (Zj .u64 (IntKind.wrap .u64 (p.getD 59 0)) 24)) (Zj .u64 (IntKind.wrap .u64 (p.getD 60 0)) 32)) (Zj .u64 (IntKind.wrap .u64 (p.getD 61 0)) 40)) (Zj .u64 (IntKind.wrap .u64 (p.getD 62 0)) 48)) (Zj .u64 (IntKind.wrap .u64 (p.getD 63 0)) 56)]) ([Z4 .or .u64 (Z4 .or .u64 (Z4 .or .u64 (Z4 .or .u64 (Z4 .or .u64 (Z4 .or .u64 (Z4 .or .u64 (Z4 .or .u64 (0) (Zj .u64 (IntKind.wrap .u64 (p.getD 0 0)) 0)) (Zj .u64 (IntKind.wrap .u64 (p.getD 1 0)) 8)) (Zj .u64 (IntKind.wrap .u64 (p.getD 2 0)) 16)) (Zj .u64 (IntKind.wrap .u64 (p.getD 3 0)) 24)) (Zj .u64 (IntKind.wrap .u64 (p.getD 4 0)) 32)) (Zj .u64 (IntKind.wrap .u64 (p.getD 5 0)) 40)) (Zj .u64 (IntKind.wrap .u64 (p.getD 6 0)) 48)) (Zj .u64 (IntKind.wrap .u64 (p.getD 7 0)) 56),Z4 .or .u64 (Z4 .or .u64 (Z4 .or .u64 (Z4 .or .u64 (Z4 .or .u64 (Z4 .or .u64 (Z4 .or .u64 (Z4 .or .u64 (0) (Zj .u64 (IntKind.wrap .u64 (p.getD 8 0)) 0)) (Zj .u64 (IntKind.wrap .u64 (p.getD 9 0)) 8)) (Zj .u64 (IntKind.wrap .u64 (p.getD 10 0)) 16)) (Zj .u64 (IntKind.wrap .u64 (p.getD 11 0)) 24)) (Zj .u64 (IntKind.wrap .u64 (p.getD 12 0)) 32)) (Zj .u64 (IntKind.wrap .u64 (p.getD 13 0)) 40)) (Zj .u64 (IntKind.wrap .u64 (p.getD 14 0)) 48)) (Zj .u64 (IntKind.wrap .u64 (p.getD 15 0)) 56),Z4 .or .u64 (Z4 .or .u64 (Z4 .or .u64 (Z4 .or .u64 (Z4 .or .u64 (Z4 .or .u64 (Z4 .or .u64 (Z4 .or .u64 (0) (Zj .u64 (IntKind.wrap .u64 (p.getD 16 0)) 0)) (Zj .u64 (IntKind.wrap .u64 (p.getD 17 0)) 8)) (Zj .u64 (IntKind.wrap .u64 (p.getD 18 0)) 16)) (Zj .u64 (IntKind.wrap .u64 (p.getD 19 0)) 24)) (Zj .u64 (IntKind.wrap .u64 (p.getD 20 0)) 32)) (Zj .u64 (IntKind.wrap .u64 (p.getD 21 0)) 40)) (Zj .u64 (IntKind.wrap .u64 (p.getD 22 0)) 48)) (Zj .u64 (IntKind.wrap .u64 (p.getD 23 0)) 56),Z4 .or .u64 (Z4 .or .u64 (Z4 .or .u64 (Z4 .or .u64 (Z4 .or .u64 (Z4 .or .u64 (Z4 .or .u64 (Z4 .or .u64 (0) (Zj .u64 (IntKind.wrap .u64 (p.getD 24 0)) 0)) (Zj .u64 (IntKind.wrap .u64 (p.getD 25 0)) 8)) (Zj .u64 (IntKind.wrap .u64 (p.getD 26 0)) 16)) (Zj .u64 (IntKind.wrap .u64 (p.getD 27 0)) 24)) (Zj .u64 (IntKind.wrap .u64 (p.getD 28 0)) 32)) (Zj .u64 (IntKind.wrap .u64 (p.getD 29 0)) 40)) (Zj .u64 (IntKind.wrap .u64 (p.getD 30 0)) 48)) (Zj .u64 (IntKind.wrap .u64 (p.getD 31 0)) 56),Z4 .or .u64 (Z4 .or .u64 (Z4 .or .u64 (Z4 .or .u64 (Z4 .or .u64 (Z4 .or .u64 (Z4 .or .u64 (Z4 .or .u64 (0) (Zj .u64 (IntKind.wrap .u64 (p.getD 32 0)) 0)) (Zj .u64 (IntKind.wrap .u64 (p.getD 33 0)) 8)) (Zj .u64 (IntKind.wrap .u64 (p.getD 34 0)) 16)) (Zj .u64 (IntKind.wrap .u64 (p.getD 35 0)) 24)) (Zj .u64 (IntKind.wrap .u64 (p.getD 36 0)) 32)) (Zj .u64 (IntKind.wrap .u64 (p.getD 37 0)) 40)) (Zj .u64 (IntKind.wrap .u64 (p.getD 38 0)) 48)) (Zj .u64 (IntKind.wrap .u64 (p.getD 39 0)) 56),Z4 .or .u64 (Z4 .or .u64 (Z4 .or .u64 (Z4 .or .u64 (Z4 .or .u64 (Z4 .or .u64 (Z4 .or .u64 (Z4 .or .u64 (0) (Zj .u64 (IntKind.wrap .u64 (p.getD 40 0)) 0)) (Zj .u64 (IntKind.wrap .u64 (p.getD 41 0)) 8)) (Zj .u64 (IntKind.wrap .u64 (p.getD 42 0)) 16)) (Zj .u64 (IntKind.wrap .u64 (p.getD 43 0)) 24)) (Zj .u64 (IntKind.wrap .u64 (p.getD 44 0)) 32)) (Zj .u64 (IntKind.wrap .u64 (p.getD 45 0)) 40)) (Zj .u64 (IntKind.wrap .u64 (p.getD 46 0)) 48)) (Zj .u64 (IntKind.wrap .u64 (p.getD 47 0)) 56),Z4 .or .u64 (Z4 .or .u64 (Z4 .or .u64 (Z4 .or .u64 (Z4 .or .u64 (Z4 .or .u64 (Z4 .or .u64 (Z4 .or .u64 (0) (Zj .u64 (IntKind.wrap .u64 (p.getD 48 0)) 0)) (Zj .u64 (IntKind.wrap .u64 (p.getD 49 0)) 8)) (Zj .u64 (IntKind.wrap .u64 (p.getD 50 0)) 16)) (Zj .u64 (IntKind.wrap .u64 (p.getD 51 0)) 24)) (Zj .u64 (IntKind.wrap .u64 (p.getD 52 0)) 32)) (Zj .u64 (IntKind.wrap .u64 (p.getD 53 0)) 40)) (Zj .u64 (IntKind.wrap .u64 (p.getD 54 0)) 48)) (Zj .u64 (IntKind.wrap .u64 (p.getD 55 0)) 56),Z4 .or .u64 (Z4 .or .u64 (Z4 .or .u64 (Z4 .or .u64 (Z4 .or .u64 (Z4 .or .u64 (Z4 .or .u64 (Z4 .or .u64 (0) (Zj .u64 (IntKind.wrap .u64 (p.getD 56 0)) 0)) (Zj .u64 (IntKind.wrap .u64 (p.getD 57 0)) 8)) (Zj .u64 (IntKind.wrap .u64 (p.getD 58 0)) 16)) (Zj .u64 (IntKind.wrap .u64 (p.getD 59 0)) 24)) (Zj .u64 (IntKind.wrap .u64 (p.getD 60 0)) 32)) (Zj .u64 (IntKind.wrap .u64 (p.getD 61 0)) 40)) (Zj .u64 (IntKind.wrap .u64 (p.getD 62 0)) 48)) (Zj .u64 (IntKind.wrap .u64 (p.getD 63 0)) 56)]).length=Zzu p from hv]
theorem Zrg {a b:List Int} (ha:Byt a) (hb:Byt b) : ∀ j,Zjg a j=Zjg b j→∀ i,i<j→a.getD (31-i) 0=b.getD (31-i) 0
  | 0,_,i,hi=>by omega
  | j+1,h,i,hi=>by
    have h1:=ha (31-j)
    have h2:=hb (31-j)
    have h':Zjg a j*256+a.getD (31-j) 0=Zjg b j*256+b.getD (31-j) 0:=h
    by_cases e:i=j
    · subst e; omega
    · exact Zrg ha hb j (by omega) i (by omega)
theorem Zzk {a b:List Int} (ha:Byt a) (hb:Byt b) (la:a.length=32) (lb:b.length=32) (h:Z9k a=Z9k b):a=b:=by
  rw [← Zfl,← Zfl] at h
  apply List.ext_getElem
  · rw [la,lb]
  · intro i h1 h2
    have:=Zrg ha hb 32 h (31-i) (by omega)
    rw [show 31-(31-i)=i by omega] at this
    simpa [List.getD_eq_getElem?_getD,List.getElem?_eq_getElem h1,List.getElem?_eq_getElem h2] using this
theorem Zm6 {a:List Int} (ha:Byt a):Z9k a<115792089237316195423570985008687907853269984665640564039457584007913129639936:=by
  have key : ∀ j,j≤32→Zjg a j<(256:Int)^j:=by
    intro j
    induction j with
    | zero=>intro _; show (0:Int)<1; omega
    | succ j ih =>
      intro hj
      have h1:=ha (31-j)
      have h2:=ih (by omega)
      show Zjg a j*256+a.getD (31-j) 0<_
      rw [Int.pow_succ]
      omega
  have:=key 32 (Nat.le_refl _)
  rw [Zfl] at this
  have e2:(256:Int)^32=115792089237316195423570985008687907853269984665640564039457584007913129639936:=by decide
  omega
theorem Zr0 {a:List Int} (h:Byt a) (la:a.length=32):byt (Z9k a)=a :=
  Zzk (Zj5 _) h (Z6w _) la (Zsg (Zcr h) (Zm6 h))
theorem Zqz (n:Int) : ∀ j,j<32→(byt n).getD j 0=n / ((256^j:Nat):Int)%256:=by
  intro j hj
  match j,hj with
  | 0,_=>show n%256=n / 1%256; rw [Int.ediv_one]
  | 1,_=>rfl
  | 2,_=>rfl
  | 3,_=>rfl
  | 4,_=>rfl
  | 5,_=>rfl
  | 6,_=>rfl
  | 7,_=>rfl
  | 8,_=>rfl
  | 9,_=>rfl
  | 10,_=>rfl
  | 11,_=>rfl
  | 12,_=>rfl
  | 13,_=>rfl
  | 14,_=>rfl
  | 15,_=>rfl
  | 16,_=>rfl
  | 17,_=>rfl
  | 18,_=>rfl
  | 19,_=>rfl
  | 20,_=>rfl
  | 21,_=>rfl
  | 22,_=>rfl
  | 23,_=>rfl
  | 24,_=>rfl
  | 25,_=>rfl
  | 26,_=>rfl
  | 27,_=>rfl
  | 28,_=>rfl
  | 29,_=>rfl
  | 30,_=>rfl
  | 31,_=>rfl
  | j+32,h=>exact absurd h (by omega)
theorem Z01l {p:List Int} (h:Byt p) (l:p.length=32) {j:Nat} (hj:j<32):p.getD j 0=Z9k p / ((256^j:Nat):Int)%256:=by
  have e:=Zqz (Z9k p) j hj
  rw [Zr0 h l] at e
  exact e
theorem Zxq {w m b i j:Nat} (hw:0<w) (hm:m<2^i) (hb:b≤1):(m+b*2^i) / 2^(w*j)%2^w=m / 2^(w*j)%2^w+(if j=i / w then b*2^(i%w) else 0):=by
  have hpos:0<2^(w*j):=Nat.pow_pos (by decide)
  by_cases h:j=i / w
  · rw [if_pos h]
    have hi:i=w*j+i%w:=by rw [h]; exact (Nat.div_add_mod i w).symm
    have ht:i%w<w:=Nat.mod_lt _ hw
    generalize i%w=t at *
    have hq:m / 2^(w*j)<2^t:=by
      rw [Nat.div_lt_iff_lt_mul hpos,← Nat.pow_add,Nat.add_comm t,← hi]; exact hm
    have e:m+b*2^i=m+b*2^t*2^(w*j):=by
      rw [hi,Nat.pow_add,Nat.mul_assoc,Nat.mul_comm (2^t)]
    rw [e,Nat.add_mul_div_right _ _ hpos]
    have h2:2^(t+1)≤2^w:=Nat.pow_le_pow_right (by decide) (by omega)
    have h3:b*2^t≤1*2^t:=Nat.mul_le_mul_right _ hb
    rw [Nat.pow_succ] at h2
    generalize 2^t=p at *
    generalize b*p=bp at *
    rw [Nat.mod_eq_of_lt (by omega),Nat.mod_eq_of_lt (by omega)]
  · rw [if_neg h,Nat.add_zero]
    rcases Nat.lt_or_gt_of_ne h with h1 | h1
    · have hle:w*(j+1)≤i:=by
        have h5:w*(j+1)≤w*(i / w):=Nat.mul_le_mul_left _ h1
        have h6:=Nat.mul_div_le i w
        omega
      obtain ⟨r,hr⟩:=Nat.exists_eq_add_of_le hle
      have e:m+b*2^i=m+b*2^r*2^w*2^(w*j):=by
        rw [hr,Nat.pow_add,Nat.mul_succ,Nat.pow_add]
        congr 1
        generalize 2^(w*j)=x
        generalize 2^w=y
        generalize 2^r=z
        ac_rfl
      rw [e,Nat.add_mul_div_right _ _ hpos,Nat.add_mul_mod_self_right]
    · have hle:i+1≤w*j:=by
        have h5:i<w*(i / w+1):=by
          have:=Nat.div_add_mod i w
          have:=Nat.mod_lt i hw
          rw [Nat.mul_succ]
          omega
        have h6:w*(i / w+1)≤w*j:=Nat.mul_le_mul_left _ h1
        omega
      have h7:2^(i+1)≤2^(w*j):=Nat.pow_le_pow_right (by decide) hle
      have h8:b*2^i≤1*2^i:=Nat.mul_le_mul_right _ hb
      rw [Nat.pow_succ] at h7
      rw [Nat.div_eq_of_lt (by omega),Nat.div_eq_of_lt (by omega)]
theorem Zsz {w N i j:Nat} (hw:0<w):N%2^(i+1) / 2^(w*j)%2^w=N%2^i / 2^(w*j)%2^w+(if j=i / w then (N / 2^i%2)*2^(i%w) else 0):=by
  rw [Nat.mod_pow_succ,Nat.mul_comm (2^i)]
  exact Zxq hw (Nat.mod_lt _ (Nat.pow_pos (by decide))) (by omega)
theorem Z05o {w N j t:Nat} (ht:t<w):N / 2^(w*j)%2^w / 2^t%2=N / 2^(w*j+t)%2:=by
  have e:2^w=2^t*2^(w-t):=by rw [← Nat.pow_add]; congr 1; omega
  rw [e,Nat.mod_mul_right_div_self,Nat.div_div_eq_div_mul,← Nat.pow_add]
  refine Nat.mod_mod_of_dvd _ ?_
  have:w-t=(w-t-1)+1:=by omega
  rw [this,Nat.pow_succ]
  exact Nat.dvd_mul_left 2 _
structure Dgs (w L N i:Nat) (a:List Int):Prop where
  len:a.length=L
  dig : ∀ j,j<L→a.getD j 0=((N%2^i / 2^(w*j)%2^w:Nat):Int)
theorem Dgs.start (w L N:Nat):Dgs w L N 0 (List.replicate L 0):=by
  refine ⟨by simp,fun j hj=>?_⟩
  rw [Nat.pow_zero,Nat.mod_one,Nat.zero_div,Nat.zero_mod]
  simp [List.getD_eq_getElem?_getD,hj]
theorem Dgs.put {w L N i:Nat} {a:List Int} (h:Dgs w L N i a) (hw:0<w) (hi:i<w*L):Dgs w L N (i+1) (Z21 a (i / w) (a.getD (i / w) 0+((N / 2^i%2*2^(i%w):Nat):Int))):=by
  have hj:i / w<L:=by rw [Nat.div_lt_iff_lt_mul hw,Nat.mul_comm]; exact hi
  refine ⟨by rw [Z42 (by rw [h.len]; exact hj),h.len],fun j hjl=>?_⟩
  rw [Z0s,Zsz hw]
  by_cases e:j=i / w
  · subst e
    rw [if_pos rfl,if_pos rfl,h.dig _ hjl,← Int.natCast_add]
  · rw [if_neg e,if_neg e,Nat.add_zero,h.dig _ hjl]
theorem Dgs.bound {w L N i:Nat} {a:List Int} (h:Dgs w L N i a) (hw:0<w) (hi:i<w*L):0≤a.getD (i / w) 0+((N / 2^i%2*2^(i%w):Nat):Int)∧a.getD (i / w) 0+((N / 2^i%2*2^(i%w):Nat):Int)<((2^w:Nat):Int):=by
  have hj:i / w<L:=by rw [Nat.div_lt_iff_lt_mul hw,Nat.mul_comm]; exact hi
  have h2:=(h.put hw hi).dig _ hj
  rw [Z0s,if_pos rfl] at h2
  rw [h2]
  have:=Nat.mod_lt (N%2^(i+1) / 2^(w*(i / w))) (Nat.pow_pos (n:=w) (show 0<2 by decide))
  omega
theorem Zqj {w N:Nat} {l:List Int} {i:Nat} {L:Nat} (hw:0<w) (hl : ∀ j,j<L→l.getD j 0=((N / 2^(w*j)%2^w:Nat):Int)) (hi:i<w*L) :
    l.getD (i / w) 0 / ((2^(i%w):Nat):Int)%2=((N / 2^i%2:Nat):Int):=by
  have hj:i / w<L:=by rw [Nat.div_lt_iff_lt_mul hw,Nat.mul_comm]; exact hi
  rw [hl _ hj]
  have e:=Z05o (w:=w) (N:=N) (j:=i / w) (t:=i%w) (Nat.mod_lt _ hw)
  rw [Nat.div_add_mod] at e
  rw [← e]
  rfl
theorem Zwu {k:IntKind} {b t:Nat} (hk:t≤k.bits) (hb:IntKind.wrap k ((b*2^t:Nat):Int)=((b*2^t:Nat):Int)):Zj k (b:Int) (t:Int)=((b*2^t:Nat):Int):=by
  rw [Zeg k hk,← Int.natCast_mul,hb]
theorem Zuk {b t:Nat} (hb:b≤1) (ht:t<26):b*2^t<67108864:=by
  have h1:2^t≤2^25:=Nat.pow_le_pow_right (by decide) (by omega)
  have h2:b*2^t≤1*2^t:=Nat.mul_le_mul_right _ hb
  omega
theorem Zsu {b t:Nat} (hb:b≤1) (ht:t<8):b*2^t<256:=by
  have h1:2^t≤2^7:=Nat.pow_le_pow_right (by decide) (by omega)
  have h2:b*2^t≤1*2^t:=Nat.mul_le_mul_right _ hb
  omega
theorem Zuv {i:Nat} (h:i<1000):IntKind.wrap .i64 (Int.tdiv (i:Int) 8)=((i / 8:Nat):Int):=by
  rw [Int.tdiv_eq_ediv_of_nonneg (by omega),Ze (by omega) (by omega)]; omega
theorem Zmr (i:Nat):Int.tmod (i:Int) 8=((i%8:Nat):Int):=by
  rw [Int.tmod_eq_emod_of_nonneg (by omega)]; omega
theorem Zr4 {i:Nat} (h:i<1000):IntKind.wrap .i64 (Int.tdiv (i:Int) 26)=((i / 26:Nat):Int):=by
  rw [Int.tdiv_eq_ediv_of_nonneg (by omega),Ze (by omega) (by omega)]; omega
theorem Zrk (i:Nat):Int.tmod (i:Int) 26=((i%26:Nat):Int):=by
  rw [Int.tmod_eq_emod_of_nonneg (by omega)]; omega
theorem Ztl {p:List Int} (hp:Byt p) {N:Nat} (hN : ∀ j,j<32→p.getD j 0=((N / 2^(8*j)%2^8:Nat):Int)) (k:List Int→Option (List Int)) (m:Nat) : ∀ (n i:Nat) (a:List Int),i+m=255→Dgs 26 10 N i a →
    ∃ c,Z31 p k (n+1+m) (i:Int) a=k c∧Dgs 26 10 N 255 c:=by
  induction m with
  | zero =>
    intro n i a hi ha
    have e:i=255:=by omega
    subst e
    refine ⟨a,?_,ha⟩
    rw [Nat.add_zero,Z31,Z5p,Z0x (by decide)]
  | succ m ih =>
    intro n i a hi ha
    have e1:=Z29 (i:=i) (by omega)
    have hb:=ha.bound (by decide) (i:=i) (by omega)
    have hs:=Zqj (w:=8) (by decide) hN (i:=i) (by omega)
    have hpb:=hp (i / 8)
    have hpp:(0:Int)<((2^(i%8):Nat):Int):=by have:=Nat.pow_pos (n:=i%8) (show 0<2 by decide); omega
    have hq0:=Int.ediv_nonneg hpb.1 (Int.le_of_lt hpp)
    have hq1:p.getD (i / 8) 0 / ((2^(i%8):Nat):Int)<256:=Int.lt_of_le_of_lt (Int.ediv_le_self _ hpb.1) hpb.2
    have hbit:N / 2^i%2≤1:=by omega
    have hsm:=Zuk hbit (Nat.mod_lt i (show 0<26 by decide))
    obtain ⟨c,ec,hc⟩:=ih n (i+1) _ (by omega) (ha.put (by decide) (by omega))
    refine ⟨c,?_,hc⟩
    rw [← Nat.add_assoc,Z31,Z5p,Z15 (decide_eq_true (by omega))]
    simp only [Zl,e1,Zuv (show i<1000 by omega),Zmr,Zr4 (show i<1000 by omega),Zrk,Int.toNat_natCast]
    have w1:IntKind.wrap .u64 ((N / 2^i%2:Nat):Int)=((N / 2^i%2:Nat):Int):=Zb (by omega) (by omega)
    have w2:IntKind.wrap .u64 ((N / 2^i%2*2^(i%26):Nat):Int)=((N / 2^i%2*2^(i%26):Nat):Int):=Zb (by omega) (by omega)
    have w3:IntKind.wrap .u64 (a.getD (i / 26) 0+((N / 2^i%2*2^(i%26):Nat):Int))=a.getD (i / 26) 0+((N / 2^i%2*2^(i%26):Nat):Int):=by
      have h26:((2^26:Nat):Int)=67108864:=by decide
      have:=hb.2
      exact Zb hb.1 (by omega)
    rw [Z93 .u8 (n:=i%8) (by show i%8≤8; omega),Zub hq0 hq1,hs,w1,Zwu (by show i%26≤64; omega) w2,w3]
    rw [Zy (Z0n (by omega) (by omega)),Zy (by simp; omega),Zy (Z0n (by omega) (by omega)),Zy (by simp; omega),Zy (Z0n (by omega) (by omega))]
    exact ec
theorem pow8 (j:Nat):2^(8*j)=256^j:=by rw [Nat.pow_mul]
theorem Zwy {p:List Int} (hp:Byt p) (l:p.length=32) : ∀ j,j<32→p.getD j 0=(((Z9k p).toNat / 2^(8*j)%2^8:Nat):Int):=by
  intro j hj
  rw [Z01l hp l hj,pow8]
  have h:=Zcr hp
  obtain ⟨n,hn⟩:=Int.eq_ofNat_of_zero_le h
  rw [hn]
  rfl
theorem Zsy {N:Nat} {c:List Int} (h:Dgs 26 10 N 255 c):rV c 10=((N%2^255:Nat):Int):=by
  have e:c=Zxk ((N%2^255:Nat):Int):=by
    rw [Zin h.len]
    unfold Zxk
    have hh:=h.dig
    generalize N%2^255=M at *
    rw [hh 0 (by decide),hh 1 (by decide),hh 2 (by decide),hh 3 (by decide),hh 4 (by decide),hh 5 (by decide),hh 6 (by decide),hh 7 (by decide),hh 8 (by decide),hh 9 (by decide)]
    simp only [List.cons.injEq,and_true]
    refine ⟨?_,rfl,rfl,rfl,rfl,rfl,rfl,rfl,rfl,rfl⟩
    show ((M / 1%67108864:Nat):Int)=(M:Int)%67108864
    rw [Nat.div_one]; rfl
  have hlt:N%2^255<2^255:=Nat.mod_lt _ (by decide)
  have e2:(2^255:Nat)=57896044618658097711785492504343953926634992332820282019728792003956564819968:=by decide
  generalize N%2^255=M at *
  rw [e,Zw3 (by omega) (by omega)]
theorem Z01r {N i:Nat} {c:List Int} (h:Dgs 26 10 N i c) : ∀ j,0≤c.getD j 0∧c.getD j 0<1152921504606846976:=by
  intro j
  by_cases hj:j<10
  · rw [h.dig j hj]
    have:=Nat.mod_lt (N%2^i / 2^(26*j)) (Nat.pow_pos (n:=26) (show 0<2 by decide))
    omega
  · have:c.getD j 0=0:=by simp [List.getD_eq_getElem?_getD,List.getElem?_eq_none (show c.length≤j by have:=h.len; omega)]
    omega
theorem Zul (p:List Int):Zsv p=Z9k p-p.getD 31 0 / 128*57896044618658097711785492504343953926634992332820282019728792003956564819968:=by
  unfold Zsv Z9k
  omega
theorem Zzl {p:List Int} (hp:Byt p):(((Z9k p).toNat%2^255:Nat):Int)=Zsv p:=by
  have h:=Zcr hp
  have hb:0≤Zsv p∧Zsv p<57896044618658097711785492504343953926634992332820282019728792003956564819968:=by
    have h2:=Zcr (Zey hp (j:=31) (v:=p.getD 31 0%128) (by omega))
    have h3:=Zm6 (Zey hp (j:=31) (v:=p.getD 31 0%128) (by omega))
    have e:Z9k (Z21 p 31 (p.getD 31 0%128))=Zsv p:=by
      unfold Zsv Z9k
      simp only [Z0s]
      simp [-List.getD_eq_getElem?_getD]
    have h31:=hp 31
    rw [e] at h2
    refine ⟨h2,?_⟩
    have:Zjg (Z21 p 31 (p.getD 31 0%128)) 32<128*(256:Int)^31:=by
      have key : ∀ j,j<32→Zjg (Z21 p 31 (p.getD 31 0%128)) (j+1)<128*(256:Int)^j:=by
        intro j
        induction j with
        | zero =>
          intro _
          show 0*256+(Z21 p 31 (p.getD 31 0%128)).getD 31 0<128*1
          rw [Z0s,if_pos rfl]; omega
        | succ j ih =>
          intro hj
          have i1:=ih (by omega)
          have i2:=Zey hp (j:=31) (v:=p.getD 31 0%128) (by omega) (31-(j+1))
          show Zjg _ (j+1)*256+(Z21 p 31 (p.getD 31 0%128)).getD (31-(j+1)) 0<_
          rw [Int.pow_succ]
          omega
      exact key 31 (by decide)
    rw [Zfl,e] at this
    have e3:128*(256:Int)^31=57896044618658097711785492504343953926634992332820282019728792003956564819968:=by decide
    omega
  have e:=Zul p
  have e2:(2^255:Nat)=57896044618658097711785492504343953926634992332820282019728792003956564819968:=by decide
  obtain ⟨n,hn⟩:=Int.eq_ofNat_of_zero_le h
  rw [e2,hn]
  rw [hn] at e
  have h31:=hp 31
  generalize p.getD 31 0 / 128=q at *
  generalize Zsv p=b at *
  show ((n%57896044618658097711785492504343953926634992332820282019728792003956564819968:Nat):Int)=b
  clear hn h h31 e2
  omega
theorem Z17g {p:List Int} (hp:Byt p) (l:p.length=32):Z8r p=some (rn (Zsv p)):=by
  obtain ⟨n,hn⟩ : ∃ n,big=n+1+255:=⟨18446744073709551360,Z19⟩
  obtain ⟨c,ec,hc⟩:=Ztl hp (Zwy hp l) (fun (a73:List Int)=>opt (Z7i a73) fun y142=>some y142) 255 n 0 _ (by omega) (Dgs.start 26 10 _)
  rw [Z8r,Z12,hn]
  refine ec.trans ?_
  rw [Z3 (Zim hc.len (Z01r hc)),Zsy hc,Zzl hp]
theorem Zqd {p:List Int} {N:Nat} (hp : ∀ j,0≤p.getD j 0∧p.getD j 0<67108864) (hN : ∀ j,j<10→p.getD j 0=((N / 2^(26*j)%2^26:Nat):Int)) (k:List Int→Option (List Int)) (m:Nat) : ∀ (n i:Nat) (a:List Int),i+m=255→Dgs 8 32 N i a →
    ∃ c,Z5o p k (n+1+m) (i:Int) a=k c∧Dgs 8 32 N 255 c:=by
  induction m with
  | zero =>
    intro n i a hi ha
    have e:i=255:=by omega
    subst e
    refine ⟨a,?_,ha⟩
    rw [Nat.add_zero,Z5o,Za9,Z0x (by decide)]
  | succ m ih =>
    intro n i a hi ha
    have e1:=Z29 (i:=i) (by omega)
    have hb:=ha.bound (by decide) (i:=i) (by omega)
    have hs:=Zqj (w:=26) (by decide) hN (i:=i) (by omega)
    have hpb:=hp (i / 26)
    have hpp:(0:Int)<((2^(i%26):Nat):Int):=by have:=Nat.pow_pos (n:=i%26) (show 0<2 by decide); omega
    have hq0:=Int.ediv_nonneg hpb.1 (Int.le_of_lt hpp)
    have hq1:p.getD (i / 26) 0 / ((2^(i%26):Nat):Int)<67108864:=Int.lt_of_le_of_lt (Int.ediv_le_self _ hpb.1) hpb.2
    have hbit:N / 2^i%2≤1:=by omega
    have hsm:=Zsu hbit (Nat.mod_lt i (show 0<8 by decide))
    obtain ⟨c,ec,hc⟩:=ih n (i+1) _ (by omega) (ha.put (by decide) (by omega))
    refine ⟨c,?_,hc⟩
    rw [← Nat.add_assoc,Z5o,Za9,Z15 (decide_eq_true (by omega))]
    simp only [Zl,e1,Zuv (show i<1000 by omega),Zmr,Zr4 (show i<1000 by omega),Zrk,Int.toNat_natCast]
    have w1:IntKind.wrap .u8 ((N / 2^i%2:Nat):Int)=((N / 2^i%2:Nat):Int):=by rw [Z0d]; omega
    have w2:IntKind.wrap .u8 ((N / 2^i%2*2^(i%8):Nat):Int)=((N / 2^i%2*2^(i%8):Nat):Int):=by rw [Z0d]; omega
    have w3:IntKind.wrap .u8 (a.getD (i / 8) 0+((N / 2^i%2*2^(i%8):Nat):Int))=a.getD (i / 8) 0+((N / 2^i%2*2^(i%8):Nat):Int):=by
      rw [Z0d]
      have h8:((2^8:Nat):Int)=256:=by decide
      have:=hb.2
      exact Int.emod_eq_of_lt hb.1 (by omega)
    rw [Z93 .u64 (n:=i%26) (by show i%26≤64; omega),Zpm hq0 (by omega),hs,w1,Zwu (by show i%8≤8; omega) w2,w3]
    rw [Zy (Z0n (by omega) (by omega)),Zy (by simp; omega),Zy (Z0n (by omega) (by omega)),Zy (by simp; omega),Zy (Z0n (by omega) (by omega))]
    exact ec
theorem Ztw (n:Int) : ∀ j,j<10→(rn n).getD j 0=(((n%PP).toNat / 2^(26*j)%2^26:Nat):Int):=by
  intro j hj
  have h:=(Zj0 n).1
  unfold rn
  obtain ⟨m,hm⟩:=Int.eq_ofNat_of_zero_le h
  rw [hm]
  match j,hj with
  | 0,_=>show (m:Int)%67108864=((m / 1%67108864:Nat):Int); rw [Nat.div_one]; rfl
  | 1,_=>rfl
  | 2,_=>rfl
  | 3,_=>rfl
  | 4,_=>rfl
  | 5,_=>rfl
  | 6,_=>rfl
  | 7,_=>rfl
  | 8,_=>rfl
  | 9,_=>rfl
  | j+10,h=>exact absurd h (by omega)
theorem Zmp {l:List Int} {i:Nat} (h:i<l.length):l.getD i 0=l[i]:=by simp [List.getD_eq_getElem?_getD,List.getElem?_eq_getElem h]
theorem Z0ue (n:Int):Zgf (rn n)=some (byt (n%PP)):=by
  obtain ⟨f,hf⟩ : ∃ n,big=n+1+255:=⟨18446744073709551360,Z19⟩
  obtain ⟨c,ec,hc⟩:=Zqd (Zk9 n) (Ztw n) some 255 f 0 _ (by omega) (Dgs.start 8 32 _)
  rw [Zgf,Z12,hf]
  refine ec.trans ?_
  congr 1
  have h:=Zj0 n
  obtain ⟨m,hm⟩:=Int.eq_ofNat_of_zero_le h.1
  have e:(n%PP).toNat=m:=by rw [hm]; rfl
  have h1:m<57896044618658097711785492504343953926634992332820282019728792003956564819949:=by
    have:=h.2
    rw [hm] at this
    unfold PP at this
    omega
  have e2:(2^255:Nat)=57896044618658097711785492504343953926634992332820282019728792003956564819968:=by decide
  rw [hm]
  apply List.ext_getElem
  · rw [hc.len]; rfl
  · intro i h2 h3
    have hi:i<32:=by rw [hc.len] at h2; exact h2
    have hd:=hc.dig i hi
    rw [e,Nat.mod_eq_of_lt (a:=m) (b:=2^255) (by rw [e2]; omega),pow8] at hd
    have hb:=Zqz (m:Int) i hi
    rw [← Zmp h2,← Zmp h3,hd,hb]
    rfl
theorem Zsj {p:List Int} (h:Byt p) (o n:Nat):Byt (tk p o n):=by
  intro i
  rw [Zkk]
  split
  · exact h _
  · decide
noncomputable def Z00x:G:=⟨fi BX,fi BY,⟨by decide +kernel⟩⟩
theorem Zyy:Rep Z02v Z00x:=by
  constructor
  · show fi 1≠0; decide +kernel
  · show fi BX=fi BX*fi 1; decide +kernel
  · show fi BY=fi BY*fi 1; decide +kernel
  · show fi (BX*BY)=fi BX*fi BY*fi 1; decide +kernel
def VLn:Nat:=7237005577332262213973186563042994240857116359379907606001950938285454250989
theorem Znj:VL=(VLn:Int):=by decide
def be8 (x:Int):List Int:=[IntKind.wrap .u8 (Zn .u64 (Zn .u64 (Zn .u64 (Zn .u64 (Zn .u64 (Zn .u64 (Zn .u64 x 8) 8) 8) 8) 8) 8) 8),IntKind.wrap .u8 (Zn .u64 (Zn .u64 (Zn .u64 (Zn .u64 (Zn .u64 (Zn .u64 x 8) 8) 8) 8) 8) 8),IntKind.wrap .u8 (Zn .u64 (Zn .u64 (Zn .u64 (Zn .u64 (Zn .u64 x 8) 8) 8) 8) 8),IntKind.wrap .u8 (Zn .u64 (Zn .u64 (Zn .u64 (Zn .u64 x 8) 8) 8) 8),IntKind.wrap .u8 (Zn .u64 (Zn .u64 (Zn .u64 x 8) 8) 8),IntKind.wrap .u8 (Zn .u64 (Zn .u64 x 8) 8),IntKind.wrap .u8 (Zn .u64 x 8),IntKind.wrap .u8 x]
theorem Zm5 (x:Int):Z2n x=some (be8 x):=by kernel_rfl
theorem Zuh (x:Int) : ∀ y∈be8 x,0≤y∧y<256:=by
  unfold be8
  repeat' (first | exact List.forall_mem_nil _ | refine List.forall_mem_cons.2 ⟨Zsl _,?_⟩)
def told (s:List Int):List Int:=be8 (s.getD 0 0)++(be8 (s.getD 1 0)++(be8 (s.getD 2 0)++(be8 (s.getD 3 0)++(be8 (s.getD 4 0)++(be8 (s.getD 5 0)++(be8 (s.getD 6 0)++be8 (s.getD 7 0)))))))
theorem Zzj (y d:Zs):Z2h y (fun a74=>some (a74,d)) big 0 (List.replicate 64 0)=some (told y.gstate,d):=by kernel_rfl
theorem Zzo (s:List Int):Byt (told s):=by
  apply byt_of
  unfold told
  intro x hx
  simp only [List.mem_append] at hx
  rcases hx with h | h | h | h | h | h | h | h <;> exact Zuh _ _ h
theorem Znq (o:BinOp) (x y:Int) (h:o = .and∨o = .or∨o = .andNot):0≤Z4 o .u8 x y∧Z4 o .u8 x y<256:=by
  rcases h with h | h | h <;> subst h
  · show 0≤IntKind.u8.wrap _∧IntKind.u8.wrap _<_; exact Zsl _
  · show 0≤IntKind.u8.wrap _∧IntKind.u8.wrap _<_; exact Zsl _
  · show 0≤IntKind.u8.wrap _∧IntKind.u8.wrap _<_; exact Zsl _
def Zj8 (p:List Int):List Int:=Z21 (Z21 p 0 (Z4 .andNot .u8 (p.getD 0 0) 7)) 31 (Z4 .or .u8 (Z4 .and .u8 ((Z21 p 0 (Z4 .andNot .u8 (p.getD 0 0) 7)).getD 31 0) 127) 64)
theorem Zxu (p:List Int):Z91 p=some (Zj8 p):=by
  rw [Z91]
  simp only [Zl]
  rfl
theorem Zuq {p:List Int} (h:Byt p):Byt (Zj8 p):=Zey (Zey h (Znq _ _ _ (.inr (.inr rfl)))) (Znq _ _ _ (.inr (.inl rfl)))
noncomputable def pB (a:List Int):G:=Zjl (Z9k a).toNat Z00x
theorem Zjk {a:List Int} (h:Byt a) : ∃ q,Z4r a=some (pt q)∧Rep q (pB a):=by
  refine ⟨_,Zt9 h,?_⟩
  have:=Zs2 a Zyy 64
  rw [Z02a h] at this
  exact this
theorem Zlg {q:Q4} {P:G} (h:Rep q P):Z5f (pt q)=some (Znw P):=by rw [Zux,Z01y h]
theorem Zmm (P:G):Byt (Znw P):=Z01x _ _
theorem Z80 (P:G):(Znw P).length=32:=Zt1 _ _
theorem Zsk (P:G):tk (Znw P) 0 32=Znw P:=Z96 (Z80 P)
theorem Z0v1 {x y:List Int} (hx:x.length=32) (hy:y.length=32):wr (wr (List.replicate 64 0) 0 (x.take 32)) 32 (y.take (64-32))=x++y:=by
  have h1:x.take 32=x:=List.take_of_length_le (by omega)
  have h2:y.take (64-32)=y:=List.take_of_length_le (by omega)
  rw [h1,h2]
  have h3:wr (List.replicate 64 0) 0 x=x++List.replicate 32 0:=by
    unfold wr
    rw [hx]
    rfl
  have h4:tk (x++List.replicate 32 0) 0 32=x:=by
    apply List.ext_getElem
    · rw [Z0m,hx]
    · intro i h1 h2
      simp only [tk,List.getElem_map,List.getElem_range,Nat.zero_add]
      rw [List.getD_eq_getElem?_getD,List.getElem?_append_left h2,List.getElem?_eq_getElem h2]
      rfl
  have h5:(x++List.replicate 32 (0:Int)).drop (32+32) = []:=List.drop_eq_nil_of_le (by simp [hx])
  rw [h3]
  unfold wr
  rw [h4,hy,h5,List.append_nil]
structure Q3 where
  x:Int
  y:Int
  z:Int
def rp (q:Q3):Z1s:=⟨rn q.x,rn q.y,rn q.z⟩
structure Zl7 (q:Q3) (P:G):Prop where
  z:fi q.z≠0
  x:fi q.x=P.x*fi q.z
  y:fi q.y=P.y*fi q.z
theorem rD:q7_D=some (rn DD):=by
  rw [q7_D,Zl,Z3 (Z17g (byt_of (by decide)) rfl)]
  decide
def Zp7 (p q:Q3):Q3 :=
  let a:=p.z*q.z
  let b:=a*a
  let c:=p.x*q.x
  let d:=p.y*q.y
  let e:=DD*(c*d)
  let f:=b-e
  let g:=b+e
  let s:=p.x*q.y+p.y*q.x
  ⟨a*f*s,a*g*(d+c),f*g⟩
theorem Zne (p q:Q3):Zk1 (rp p) (rp q)=some (rp (Zp7 p q)):=by
  rw [Zk1]
  show opt (Z1p (rn p.z) (rn q.z)) _=_
  rw [Z3 (Zfs _ _),Z3 (Zfs _ _)]
  show opt (Z1p (rn p.x) (rn q.x)) _=_
  rw [Z3 (Zfs _ _)]
  show opt (Z1p (rn p.y) (rn q.y)) _=_
  rw [Z3 (Zfs _ _),Z3 rD,Z3 (Zfs _ _),Z3 (Zfs _ _),Z3 (rsub _ _),Z3 (radd _ _)]
  show opt (Z1p (rn p.x) (rn q.y)) _=_
  rw [Z3 (Zfs _ _)]
  show opt (Z1p (rn p.y) (rn q.x)) _=_
  rw [Z3 (Zfs _ _),Z3 (radd _ _),Z3 (Zfs _ _),Z3 (Zfs _ _),Z3 (Zfs _ _),Z3 (radd _ _),Z3 (Zfs _ _),Z3 (Zfs _ _)]
  rfl
def Zgm (p:Q3):Q3 :=
  let xx:=p.x*p.x
  let yy:=p.y*p.y
  let zz:=p.z*p.z
  let l:=yy-xx
  let m:=zz+zz-l
  let xy:=p.x*p.y
  ⟨(xy+xy)*m,(xx+yy)*l,l*m⟩
theorem Zay (p:Q3):Z50 (rp p)=some (rp (Zgm p)):=by
  rw [Z50]
  show opt (Z1p (rn p.x) (rn p.x)) _=_
  rw [Z3 (Zfs _ _)]
  show opt (Z1p (rn p.y) (rn p.y)) _=_
  rw [Z3 (Zfs _ _)]
  show opt (Z1p (rn p.z) (rn p.z)) _=_
  rw [Z3 (Zfs _ _),Z3 (rsub _ _),Z3 (radd _ _),Z3 (rsub _ _)]
  show opt (Z1p (rn p.x) (rn p.y)) _=_
  rw [Z3 (Zfs _ _),Z3 (radd _ _),Z3 (Zfs _ _),Z3 (radd _ _),Z3 (Zfs _ _),Z3 (Zfs _ _)]
  rfl
theorem Zna {p q:Q3} {P Q:G} (hp:Zl7 p P) (hq:Zl7 q Q):Zl7 (Zp7 p q) (Zcb P Q):=by
  have d1:=Zut P.on Q.on
  have d2:=Zuu P.on Q.on
  have ax:=Zqt P Q
  have ay:=Zqu P Q
  have hz:=Z8n hp.z hq.z
  have hb:=Z8n hz hz
  have ef:fi (p.z*q.z*(p.z*q.z)-DD*(p.x*q.x*(p.y*q.y)))=(fi p.z*fi q.z*(fi p.z*fi q.z))*(1-dF*P.x*Q.x*P.y*Q.y):=by
    simp only [Z24,Zdc,Z06a,hp.x,hq.x,hp.y,hq.y]
    generalize dF=d at *
    clear d1 d2 ax ay hz hb
    grind -lia -linarith (splits:=0)
  have eg:fi (p.z*q.z*(p.z*q.z)+DD*(p.x*q.x*(p.y*q.y)))=(fi p.z*fi q.z*(fi p.z*fi q.z))*(1+dF*P.x*Q.x*P.y*Q.y):=by
    simp only [Z24,Za1,Z06a,hp.x,hq.x,hp.y,hq.y]
    generalize dF=d at *
    clear d1 d2 ax ay hz hb
    grind -lia -linarith (splits:=0)
  constructor
  · show fi ((p.z*q.z*(p.z*q.z)-DD*(p.x*q.x*(p.y*q.y)))*(p.z*q.z*(p.z*q.z)+DD*(p.x*q.x*(p.y*q.y))))≠0
    rw [Z24,ef,eg]
    exact Z8n (Z8n hb d2) (Z8n hb d1)
  · show fi (p.z*q.z*(p.z*q.z*(p.z*q.z)-DD*(p.x*q.x*(p.y*q.y)))*(p.x*q.y+p.y*q.x))=(Zcb P Q).x*fi ((p.z*q.z*(p.z*q.z)-DD*(p.x*q.x*(p.y*q.y)))*(p.z*q.z*(p.z*q.z)+DD*(p.x*q.x*(p.y*q.y))))
    rw [Z24 (p.z*q.z*(p.z*q.z)-_),Z24,Z24,ef,eg]
    simp only [Z24,Za1,hp.x,hq.x,hp.y,hq.y]
    generalize (Zcb P Q).x=X at *
    generalize dF=d at *
    clear d1 d2 ay hz hb ef eg
    grind -lia -linarith (splits:=0)
  · show fi (p.z*q.z*(p.z*q.z*(p.z*q.z)+DD*(p.x*q.x*(p.y*q.y)))*(p.y*q.y+p.x*q.x))=(Zcb P Q).y*fi ((p.z*q.z*(p.z*q.z)-DD*(p.x*q.x*(p.y*q.y)))*(p.z*q.z*(p.z*q.z)+DD*(p.x*q.x*(p.y*q.y))))
    rw [Z24 (p.z*q.z*(p.z*q.z)-_),Z24,Z24,ef,eg]
    simp only [Z24,Za1,hp.x,hq.x,hp.y,hq.y]
    generalize (Zcb P Q).y=Y at *
    generalize dF=d at *
    clear d1 d2 ax hz hb ef eg
    grind -lia -linarith (splits:=0)
theorem Ziv {p:Q3} {P:G} (hp:Zl7 p P):Zl7 (Zgm p) (Zcb P P):=by
  have d1:=Zut P.on P.on
  have d2:=Zuu P.on P.on
  have ax:=Zqt P P
  have ay:=Zqu P P
  have on:=P.on.eq
  have hz:=Z8n hp.z hp.z
  have el:fi (p.y*p.y-p.x*p.x)=(fi p.z*fi p.z)*(1+dF*P.x*P.x*P.y*P.y):=by
    simp only [Z24,Zdc,hp.x,hp.y]
    generalize dF=d at *
    clear d1 d2 ax ay hz
    grind -lia -linarith (splits:=0)
  have em:fi (p.z*p.z+p.z*p.z-(p.y*p.y-p.x*p.x))=(fi p.z*fi p.z)*(1-dF*P.x*P.x*P.y*P.y):=by
    simp only [Z24,Zdc,Za1,hp.x,hp.y]
    generalize dF=d at *
    clear d1 d2 ax ay hz el
    grind -lia -linarith (splits:=0)
  constructor
  · show fi ((p.y*p.y-p.x*p.x)*(p.z*p.z+p.z*p.z-(p.y*p.y-p.x*p.x)))≠0
    rw [Z24,el,em]
    exact Z8n (Z8n hz d1) (Z8n hz d2)
  · show fi ((p.x*p.y+p.x*p.y)*(p.z*p.z+p.z*p.z-(p.y*p.y-p.x*p.x)))=(Zcb P P).x*fi ((p.y*p.y-p.x*p.x)*(p.z*p.z+p.z*p.z-(p.y*p.y-p.x*p.x)))
    rw [Z24,Z24 (p.y*p.y-p.x*p.x),el,em]
    simp only [Z24,Za1,hp.x,hp.y]
    generalize (Zcb P P).x=X at *
    generalize dF=d at *
    clear d1 d2 ay hz el em
    grind -lia -linarith (splits:=0)
  · show fi ((p.x*p.x+p.y*p.y)*(p.y*p.y-p.x*p.x))=(Zcb P P).y*fi ((p.y*p.y-p.x*p.x)*(p.z*p.z+p.z*p.z-(p.y*p.y-p.x*p.x)))
    rw [Z24,Z24 (p.y*p.y-p.x*p.x),el,em]
    simp only [Z24,Za1,hp.x,hp.y]
    generalize (Zcb P P).y=Y at *
    generalize dF=d at *
    clear d1 d2 ax hz el em
    grind -lia -linarith (splits:=0)
def Zp8:Q3:=⟨0,1,1⟩
theorem Zs9:Zhf=some (rp Zp8):=by
  rw [Zhf,Z3 (Zfg (by decide) (by decide)),Z3 (Zfg (by decide) (by decide)),Z3 (Zfg (by decide) (by decide))]
  rfl
theorem Zp1:Zl7 Zp8 Zel:=by
  constructor
  · show fi 1≠0; decide +kernel
  · show fi 0=0*fi 1; decide +kernel
  · show fi 1=1*fi 1; decide +kernel
def Zs7 (p:Q3):Nat→Q3
  | 0=>Zp8
  | i+1=>Zp7 (Zs7 p i) p
theorem Znb {p:Q3} {P:G} (hp:Zl7 p P) : ∀ j,Zl7 (Zs7 p j) (Zjl j P)
  | 0=>Zp1
  | j+1=>Zna (Znb hp j) hp
def Zhl (f:Nat→Z1s) (i:Nat):List Z1s:=(List.range 16).map fun j=>if j≤i then f j else Z5s
theorem Zwo (f:Nat→Z1s) {i:Nat} (hi:i<15):Zcp Z5s (Zhl f i) (i+1) (f (i+1))=Zhl f (i+1):=by
  rw [Zb8 (by simp [Zhl]; omega)]
  apply List.ext_getElem
  · simp [Zhl]
  · intro j h1 h2
    simp only [Zhl,List.getElem_set,List.getElem_map,List.getElem_range]
    by_cases hj:i+1=j
    · subst hj; simp
    · rw [if_neg hj]
      by_cases h:j≤i
      · rw [if_pos h,if_pos (by omega)]
      · rw [if_neg h,if_neg (by omega)]
theorem Zka (f:Nat→Z1s) {i j:Nat} (hj:j≤i) (hi:i<16):(Zhl f i).getD j Z5s=f j:=by
  simp only [Zhl,List.getD,List.getElem?_map,List.getElem?_range (show j<16 by omega),Option.map_some,Option.getD_some,if_pos hj]
theorem Zlz (p:Q3) (k:List Z1s→Option (List Z1s)) : ∀ (m n i:Nat),i+m=15→Z4p (rp p) k (n+1+m) ((i+1:Nat):Int) (Zhl (fun j=>rp (Zs7 p j)) i)=k (Zhl (fun j=>rp (Zs7 p j)) 15)
  | 0,n,i,hi=>by
    have e:i=15:=by omega
    subst e
    rw [Nat.add_zero,Z4p,Z8z,Z0x (by decide)]
  | m+1,n,i,hi=>by
    have ih:=Zlz p k m n (i+1) (by omega)
    have e1:=Z29 (i:=i+1) (by omega)
    have e2:IntKind.wrap .i64 (((i+1:Nat):Int)-1)=(i:Int):=by rw [Ze (by omega) (by omega)]; omega
    rw [← Nat.add_assoc,Z4p,Z8z,Z15 (decide_eq_true (by omega))]
    simp only [Zl,e1,e2,Int.toNat_natCast]
    rw [Zy (Z0n (by omega) (by omega)),Zka _ (Nat.le_refl i) (by omega),Z3 (Zne _ _),Zy (Z0n (by omega) (by omega))]
    have:=Zwo (fun j=>rp (Zs7 p j)) (i:=i) (by omega)
    rw [show rp (Zp7 (Zs7 p i) p)=rp (Zs7 p (i+1)) from rfl,this]
    exact ih
theorem Z17m (p:Q3):Ze4 (rp p)=some (Zhl (fun j=>rp (Zs7 p j)) 15):=by
  obtain ⟨n,hn⟩ : ∃ n,big=n+1+15:=⟨18446744073709551600,Z19⟩
  rw [Ze4,Z3 Zs9,Zl,Z12,hn]
  have e:Zcp Z5s (List.replicate 16 Z5s) 0 (rp Zp8)=Zhl (fun j=>rp (Zs7 p j)) 0:=by
    simp [Zcp,Zhl,List.range,List.range.loop,List.replicate]
    rfl
  rw [e]
  exact Zlz p some 15 n 0 (by omega)
def Z04u (q:Q3):Q3:=Zgm (Zgm (Zgm (Zgm q)))
theorem Zoz {p:Q3} {P:G} (hp:Zl7 p P):Zl7 (Z04u p) (Zjl 16 P):=by
  have h:=Ziv (Ziv (Ziv (Ziv hp)))
  rw [← Zau,← Zau,← Zau,← Zau,← Z9f,← Z9f,← Z9f] at h
  exact h
def Zwl (p q:Q3) (b:Int):Q3:=Zp7 (Z04u (Zp7 (Z04u q) (Zs7 p (b / 16).toNat))) (Zs7 p (b%16).toNat)
theorem Ztk {p q:Q3} {P:G} {n:Nat} (hp:Zl7 p P) (hq:Zl7 q (Zjl n P)) {b:Int} (hb:0≤b∧b<256):Zl7 (Zwl p q b) (Zjl (n*256+b.toNat) P):=by
  have h:=Zna (Zoz (Zna (Zoz hq) (Znb hp (b / 16).toNat))) (Znb hp (b%16).toNat)
  rw [← Z9f,← Zio,← Z9f,← Zio] at h
  have e:16*(16*n+(b / 16).toNat)+(b%16).toNat=n*256+b.toNat:=by omega
  rw [e] at h
  exact h
def Zoy (k:List Int) (p:Q3):Nat→Q3
  | 0=>Zp8
  | j+1=>Zwl p (Zoy k p j) (k.getD (31-j) 0)
theorem Zjh {k:List Int} (hk:Byt k) : ∀ j,0≤Zjg k j
  | 0=>Int.le_refl _
  | j+1=>by
    have h1:=Zjh hk j
    have h2:=hk (31-j)
    show 0≤Zjg k j*256+k.getD (31-j) 0
    omega
theorem Zp0 {k:List Int} (hk:Byt k) {p:Q3} {P:G} (hp:Zl7 p P) : ∀ j,Zl7 (Zoy k p j) (Zjl (Zjg k j).toNat P)
  | 0=>Zp1
  | j+1=>by
    have h:=Ztk hp (Zp0 hk hp j) (hk (31-j))
    have h1:=Zjh hk j
    have h2:=hk (31-j)
    have e:(Zjg k j).toNat*256+(k.getD (31-j) 0).toNat=(Zjg k (j+1)).toNat:=by
      show _=(Zjg k j*256+k.getD (31-j) 0).toNat
      omega
    rw [e] at h
    exact h
theorem Zp4 {k:List Int} (hk:Byt k) (p:Q3) (kk:List Int→List Int→List Int→Option Z1s) : ∀ (m n j:Nat),j+m=32→Z8y k (Zhl (fun j=>rp (Zs7 p j)) 15) kk (n+1+m) ((m:Int)-1) (rp (Zoy k p j)).gX (rp (Zoy k p j)).gY (rp (Zoy k p j)).gZ=kk (rp (Zoy k p 32)).gX (rp (Zoy k p 32)).gY (rp (Zoy k p 32)).gZ
  | 0,n,j,hj=>by
    have e:j=32:=by omega
    subst e
    rw [Nat.add_zero,Z8y,Ze2,Z0x (by decide)]
  | m+1,n,j,hj=>by
    have ih:=Zp4 hk p kk m n (j+1) (by omega)
    have hb:=hk m
    have e0:((m+1:Nat):Int)-1=(m:Int):=by omega
    have e1:IntKind.wrap .i64 ((m:Int)-1)=(m:Int)-1:=Ze (by omega) (by omega)
    have e2:IntKind.wrap .u8 (Int.tdiv (k.getD m 0) 16)=k.getD m 0 / 16:=by
      rw [Int.tdiv_eq_ediv_of_nonneg hb.1,Z0d]; omega
    have e3:Int.tmod (k.getD m 0) 16=k.getD m 0%16:=Int.tmod_eq_emod_of_nonneg hb.1
    have em:31-j=m:=by omega
    rw [e0,← Nat.add_assoc,Z8y,Ze2,Z15 (decide_eq_true (by omega)),Zy (Z0n (by omega) (by omega))]
    rw [show (⟨(rp (Zoy k p j)).gX,(rp (Zoy k p j)).gY,(rp (Zoy k p j)).gZ⟩:Z1s)=rp (Zoy k p j) from rfl]
    rw [Z3 (Zay _),Z3 (Zay _),Z3 (Zay _),Z3 (Zay _)]
    simp only [Zl,e1,e2,e3,Int.toNat_natCast]
    rw [Zy (Z0n (by omega) (by omega)),Zka _ (by omega) (by decide),Z3 (Zne _ _),Zy (Z0n (by omega) (by omega))]
    rw [Z3 (Zay _),Z3 (Zay _),Z3 (Zay _),Z3 (Zay _),Zy (Z0n (by omega) (by omega)),Zka _ (by omega) (by decide),Z3 (Zne _ _)]
    have er:rp (Zp7 (Zgm (Zgm (Zgm (Zgm (Zp7 (Zgm (Zgm (Zgm (Zgm (Zoy k p j))))) (Zs7 p (k.getD m 0 / 16).toNat)))))) (Zs7 p (k.getD m 0%16).toNat))=rp (Zoy k p (j+1)):=by
      show _=rp (Zwl p (Zoy k p j) (k.getD (31-j) 0))
      rw [em]; rfl
    rw [er]
    exact ih
theorem Z17i {k:List Int} (hk:Byt k) (p:Q3):Zop k (rp p)=some (rp (Zoy k p 32)):=by
  obtain ⟨n,hn⟩ : ∃ n,big=n+1+32:=⟨18446744073709551583,Z19⟩
  rw [Zop,Z3 (Z17m p),Z3 Zs9,Z12,hn]
  exact Zp4 hk p _ 32 n 0 (by omega)
theorem Zyx {k:List Int} (hk:Byt k) {p:Q3} {P:G} (hp:Zl7 p P):Zl7 (Zoy k p 32) (Zjl (Z9k k).toNat P):=by
  have h:=Zp0 hk hp 32
  rw [Zfl] at h
  exact h
theorem Z04q (y:Int):Ze3 (rn y)=some (rn (Zxl (y*y-1) (DD*(y*y)+1)).1,(Zxl (y*y-1) (DD*(y*y)+1)).2):=by
  rw [Ze3,Z3 (Zfs _ _),Z3 (Zfg (by decide) (by decide)),Z3 (rsub _ _),Z3 rD,Z3 (Zfs _ _),Z3 (Zfg (by decide) (by decide)),Z3 (radd _ _),Z3 (Zz8 _ _)]
theorem Z04r (x y:Int):Zbx (rn x) (rn y)=some (rp ⟨x,y,1⟩):=by
  rw [Zbx,Z3 (Zfg (by decide) (by decide))]
  rfl
theorem Z05n:(4*pw 5 Zpl 256)%PP=BY:=by decide +kernel
theorem Z05m:(Zxl (BY*BY-1) (DD*(BY*BY)+1)).1%PP=BX:=by decide +kernel
def Z00k:Q3:=⟨(Zxl (BY*BY-1) (DD*(BY*BY)+1)).1,BY,1⟩
theorem Zyu:Zk2=some (rp Z00k):=by
  have e:rn (4*pw 5 Zpl 256)=rn BY:=by rw [← Zwf,Z05n]
  rw [Zk2,Z3 (Zfg (by decide) (by decide)),Z3 (Zfg (by decide) (by decide)),Z3 (rinv _),Z3 (Zfs _ _),e,Z3 (Z04q _)]
  show opt (Zbx (rn (Zxl (BY*BY-1) (DD*(BY*BY)+1)).1) (rn BY)) _=_
  rw [Z3 (Z04r _ _)]
  rfl
theorem Zwa:Zl7 Z00k Z00x:=by
  constructor
  · show fi 1≠0; decide +kernel
  · show fi (Zxl (BY*BY-1) (DD*(BY*BY)+1)).1=fi BX*fi 1
    rw [← Zcv,show (Zxl (BY*BY-1) (DD*(BY*BY)+1)).1%57896044618658097711785492504343953926634992332820282019728792003956564819949=BX from Z05m]
    decide +kernel
  · show fi BY=fi BY*fi 1; decide +kernel
theorem Zs4 {k:List Int} (hk:Byt k) : ∃ q,Z9o k=some (rp q)∧Zl7 q (pB k):=by
  refine ⟨_,?_,Zyx hk Zwa⟩
  rw [Z9o,Z3 Zyu,Z3 (Z17i hk _)]
theorem Zw9 {q:Q3} {P:G} (h:Zl7 q P):Zbw (rp q)=some (Znw P):=by
  have hi:=Zv7 Zqy h.z
  have hx:fi (q.x*pw q.z Zpl 256)=P.x:=by
    rw [Z24,Zy1,h.x]
    generalize pwF (fi q.z) (bnum Zpl 256)=i at *
    generalize fi q.z=z at *
    grind -lia -linarith (splits:=0)
  have hy:fi (q.y*pw q.z Zpl 256)=P.y:=by
    rw [Z24,Zy1,h.y]
    generalize pwF (fi q.z) (bnum Zpl 256)=i at *
    generalize fi q.z=z at *
    grind -lia -linarith (splits:=0)
  have ex:q.x*pw q.z Zpl 256%PP=fv P.x:=by rw [← hx,Zy3]
  have ey:q.y*pw q.z Zpl 256%PP=fv P.y:=by rw [← hy,Zy3]
  rw [Zbw]
  show opt (Z8s (rn q.z)) _=_
  rw [Z3 (rinv _)]
  show opt (Z1p (rn q.y) _) _=_
  rw [Z3 (Zfs _ _),Z3 (Z0ue _)]
  show opt (Z1p (rn q.x) _) _=_
  rw [Z3 (Zfs _ _),Z3 (Z00i _),Z12,ex,ey]
  have h31:=Zzx (n:=fv P.y) (Zrd _).1 (Zrd _).2
  unfold Znw Zjc
  rw [Zrc,Zrc]
  by_cases ho:fv P.x%2=1
  · rw [Z15 (by simpa using ho),if_pos ho,Z0bp h31.1 h31.2,Zl,Zl,Zl,Z0d,Int.emod_eq_of_lt (by omega) (by omega)]
  · rw [Z0x (by simpa using ho),if_neg ho]
def qV (l:List Int):Nat→Int
  | 0=>0
  | n+1=>qV l n+l.getD n 0*(256:Int)^n
theorem Z3t (l:List Int) (n:Nat):qV l (n+1)=qV l n+l.getD n 0*(256:Int)^n:=rfl
theorem Zrz (n:Nat):0<(256:Int)^n:=Int.pow_pos (by decide)
theorem Zit {l r:List Int} : ∀ n,(∀ i,i<n→l.getD i 0=r.getD i 0)→qV l n=qV r n
  | 0,_=>rfl
  | n+1,h=>by rw [Z3t,Z3t,Zit n (fun i hi=>h i (by omega)),h n (by omega)]
theorem Zot (l:List Int) (i:Nat) (v:Int) (n:Nat) (h:n≤i):qV (Zcp 0 l i v) n=qV l n :=
  Zit n (fun j hj=>by rw [Z2z,if_neg (by omega)])
theorem Zvy (l:List Int) (i:Nat) (v:Int) : ∀ n,i<n→qV (Zcp 0 l i v) n=qV l n+(v-l.getD i 0)*(256:Int)^i
  | 0,h=>by omega
  | n+1,h=>by
    rw [Z3t,Z3t,Z2z]
    by_cases hi:n=i
    · subst hi
      rw [if_pos rfl,Zot l n v n (Nat.le_refl _),Int.sub_mul]
      omega
    · rw [if_neg hi,Zvy l i v n (by omega)]
      omega
theorem Z00c {l:List Int} {m:Nat} (h:l.length≤m) : ∀ n,m≤n→qV l n=qV l m
  | 0,hn=>by rw [show m=0 by omega]
  | n+1,hn=>by
    by_cases e:m=n+1
    · rw [e]
    · rw [Z3t,Zat (show l.length≤n by omega),Z00c h n (by omega)]; omega
theorem Zfe {l:List Int} (h:Byt l) : ∀ n,0≤qV l n∧qV l n<(256:Int)^n
  | 0=>by show (0:Int)≤0∧(0:Int)<1; omega
  | n+1=>by
    have ih:=Zfe h n
    have h1:=h n
    have hp:=Zrz n
    rw [Z3t,Int.pow_succ]
    generalize (256:Int)^n=w at *
    generalize l.getD n 0=x at *
    generalize qV l n=v at *
    have a:0≤x*w:=Int.mul_nonneg h1.1 (by omega)
    have b:x*w≤255*w:=Int.mul_le_mul_of_nonneg_right (by omega) (by omega)
    omega
theorem Zm9 {l:List Int} {v:Int} (h:Byt l) (hv:0≤v∧v<256):Byt (l ++ [v]):=by
  intro i
  by_cases hi:i<l.length
  · have:(l ++ [v]).getD i 0=l.getD i 0:=by simp [List.getD_eq_getElem?_getD,List.getElem?_append_left hi]
    rw [this]; exact h i
  · by_cases h2:i=l.length
    · have:(l ++ [v]).getD i 0=v:=by subst h2; simp [List.getD_eq_getElem?_getD]
      rw [this]; exact hv
    · rw [Zat (by simp; omega)]; decide
theorem Zfh:Byt []:=fun i=>by
  have:([]:List Int).getD i 0=0:=rfl
  rw [this]; decide
theorem Zmc {l:List Int} {i:Nat} {v:Int} (h:Byt l) (hv:0≤v∧v<256):Byt (Zcp 0 l i v):=by
  intro j; rw [Z2z]; split
  · exact hv
  · exact h j
theorem Zmb (n:Nat):Byt (List.replicate n 0):=by
  intro t
  have:(List.replicate n (0:Int)).getD t 0=0:=by
    simp only [List.getD]
    cases hi:(List.replicate n (0:Int))[t]? with
    | none=>rfl
    | some v=>simpa using (List.mem_replicate.1 (List.mem_of_getElem? hi)).2
  rw [this]; decide
theorem Zvx (m:Nat) : ∀ n,qV (List.replicate m 0) n=0
  | 0=>rfl
  | n+1=>by
    have:(List.replicate m (0:Int)).getD n 0=0:=by
      simp only [List.getD]
      cases hi:(List.replicate m (0:Int))[n]? with
      | none=>rfl
      | some v=>simpa using (List.mem_replicate.1 (List.mem_of_getElem? hi)).2
    rw [Z3t,Zvx m n,this]; omega
theorem Zrw (l:List Int) (v:Int):qV (l ++ [v]) (l.length+1)=qV l l.length+v*(256:Int)^l.length:=by
  have e:(l ++ [v]).getD l.length 0=v:=by simp [List.getD_eq_getElem?_getD]
  rw [Z3t,e]
  congr 1
  exact Zit _ (fun i hi=>by simp [List.getD_eq_getElem?_getD,List.getElem?_append_left hi])
theorem Zng {l:List Int} {i:Nat} {v:Int} (h:i<l.length):(Zcp 0 l i v).length=l.length:=by rw [Zb8 h,List.length_set]
theorem Zmk (p:List Int) (i:Nat):Zhe p (i:Int)=some (p.getD i 0):=by
  rw [Zhe]
  by_cases h:i<p.length
  · rw [Z15 (decide_eq_true (by omega)),Zy (Z0n (by omega) (by omega)),Zl,Int.toNat_natCast]
  · rw [Z0x (decide_eq_false (by omega)),Zat (by omega)]
theorem Zjj (p q:List Int):Zbv p q=some ((max p.length q.length:Nat):Int):=by
  rw [Zbv]
  by_cases h:(p.length:Int)<(q.length:Int)
  · rw [Z15 (decide_eq_true h)]; congr 2; omega
  · rw [Z0x (decide_eq_false h)]; congr 2; omega
theorem Z02e {p:List Int} (hp:Byt p) (hb:p.length<1000000) (k:List Int→Option (List Int)) (m:Nat) : ∀ (n i:Nat),i+m=p.length→Zaw p k (n+1+m) (p.take i) (i:Int)=k p:=by
  induction m with
  | zero =>
    intro n i hi
    rw [Nat.add_zero,Zaw,Zgj,Z0x (decide_eq_false (by omega)),List.take_of_length_le (by omega)]
  | succ m ih =>
    intro n i hi
    have e1:=Z29 (i:=i) (by omega)
    have hx:=hp i
    have hlt:i<p.length:=by omega
    have ht:p.take i ++ [p.getD i 0]=p.take (i+1):=by
      rw [List.take_add_one,List.getD_eq_getElem?_getD,List.getElem?_eq_getElem hlt]; rfl
    rw [← Nat.add_assoc,Zaw,Zgj,Z15 (decide_eq_true (by omega)),Zy (Z0n (by omega) (by omega))]
    simp only [Zl,e1,Int.toNat_natCast]
    rw [Ze (by omega) (by omega),Zy (decide_eq_true (by simp only [List.length_take,List.length_singleton]; omega)),ht]
    exact ih n (i+1) (by omega)
theorem Zyc {p:List Int} (hp:Byt p) (hb:p.length<1000000):Zok p=some p:=by
  obtain ⟨n,hn⟩ : ∃ n',big=n'+1+p.length:=⟨18446744073709551615-p.length,by have:big=18446744073709551616:=Z19; omega⟩
  rw [Zok,Z12,hn]
  exact Z02e hp hb some p.length n 0 (by omega)
def Zgl:List Int:=[237,211,245,92,26,99,18,88,214,156,247,162,222,249,222,20,0,0,0,0,0,0,0,0,0,0,0,0,0,0,0,16]
theorem Zwg:Zis=some Zgl:=rfl
theorem Zlv:Byt Zgl:=byt_of (by decide)
theorem Zeb:qV Zgl 33=VL:=by decide
theorem Zlj {a b:List Int} (ha:Byt a) (hb:Byt b) (k:Unit→Option Bool) (hk:k ()=some false) : ∀ (m n:Nat),m<1000000 →
    Z74 a b k (n+1+m) ((m:Int)-1)=some (decide (qV a m<qV b m))
  | 0,n,_=>by
    rw [Nat.add_zero,Z74,Zbr,Z0x (by decide),hk]
    simp [qV]
  | m+1,n,hm=>by
    have ih:=Zlj ha hb k hk m n (by omega)
    have e0:((m+1:Nat):Int)-1=(m:Int):=by omega
    have e1:IntKind.wrap .i64 ((m:Int)-1)=(m:Int)-1:=Ze (by omega) (by omega)
    have ra:=Zfe ha m
    have rb:=Zfe hb m
    rw [e0,← Nat.add_assoc,Z74,Zbr,Z15 (decide_eq_true (by omega)),Z3 (Zmk _ _),Z3 (Zmk _ _)]
    rw [Z3t,Z3t]
    by_cases h:a.getD m 0=b.getD m 0
    · rw [Z0x (by rw [h]; simp),Zl,e1,ih,h]
      congr 1
      by_cases h2:qV a m<qV b m
      · rw [decide_eq_true h2,decide_eq_true (by omega)]
      · rw [decide_eq_false h2,decide_eq_false (by omega)]
    · rw [Z15 (by simpa using h),Z3 (Zmk _ _),Z3 (Zmk _ _)]
      congr 1
      generalize a.getD m 0=x at *
      generalize b.getD m 0=y at *
      generalize qV a m=v at *
      generalize qV b m=u at *
      have hp:=Zrz m
      generalize (256:Int)^m=w at *
      by_cases h2:x<y
      · have h3:(x+1)*w≤y*w:=Int.mul_le_mul_of_nonneg_right (by omega) (by omega)
        rw [Int.add_mul,Int.one_mul] at h3
        rw [decide_eq_true h2,decide_eq_true (by omega)]
      · have h3:(y+1)*w≤x*w:=Int.mul_le_mul_of_nonneg_right (by omega) (by omega)
        rw [Int.add_mul,Int.one_mul] at h3
        rw [decide_eq_false h2,decide_eq_false (by omega)]
theorem Z0xk {a b:List Int} (ha:Byt a) (hb:Byt b) (la:a.length<1000000) (lb:b.length<1000000):Zhc a b=some (decide (qV a (max a.length b.length)<qV b (max a.length b.length))):=by
  have hm:max a.length b.length<1000000:=by omega
  have h:=Zlj ha hb (fun _=>some false) rfl
  obtain ⟨n,hn⟩ : ∃ n',big=n'+1+max a.length b.length:=⟨18446744073709551615-max a.length b.length,by have:big=18446744073709551616:=Z19; omega⟩
  rw [Zhc,Z3 (Zjj a b),Zl,Z12,Ze (by omega) (by omega),hn]
  exact h _ n hm
theorem Zzi {a b:List Int} (ha:Byt a) (hb:Byt b) {M:Nat} (hM:M=max a.length b.length) (hl:M<1000000) (k:List Int→Int→Option (List Int)) (m:Nat) : ∀ (n i:Nat) (l:List Int) (c:Int),i+m=M→l.length=i→Byt l→(c=0∨c=1)→qV l i+c*(256:Int)^i=qV a i+qV b i →
    ∃ r c',Z8w a b k (n+1+m) l c (i:Int)=k r c'∧r.length=M∧Byt r∧(c'=0∨c'=1)∧qV r M+c'*(256:Int)^M=qV a M+qV b M:=by
  induction m with
  | zero =>
    intro n i l c hi hli hb' hc hv
    have e:i=M:=by omega
    subst e
    refine ⟨l,c,?_,hli,hb',hc,hv⟩
    rw [Nat.add_zero,Z8w,Zdz,Z3 (Zjj a b),← hM,Z0x (decide_eq_false (by omega))]
  | succ m ih =>
    intro n i l c hi hli hbl hc hv
    have e1:=Z29 (i:=i) (by omega)
    have x:=ha i
    have y:=hb i
    have w1:IntKind.wrap .i64 (a.getD i 0+b.getD i 0)=a.getD i 0+b.getD i 0:=Ze (by omega) (by omega)
    have w2:IntKind.wrap .i64 (a.getD i 0+b.getD i 0+c)=a.getD i 0+b.getD i 0+c:=Ze (by omega) (by omega)
    have w3:Int.tmod (a.getD i 0+b.getD i 0+c) 256=(a.getD i 0+b.getD i 0+c)%256:=Int.tmod_eq_emod_of_nonneg (by omega)
    have w4:IntKind.wrap .i64 (Int.tdiv (a.getD i 0+b.getD i 0+c) 256)=(a.getD i 0+b.getD i 0+c) / 256:=by
      rw [Int.tdiv_eq_ediv_of_nonneg (by omega),Ze (by omega) (by omega)]
    obtain ⟨r,c',er,h1,h2,h3,h4⟩:=ih n (i+1) (l ++ [(a.getD i 0+b.getD i 0+c)%256]) ((a.getD i 0+b.getD i 0+c) / 256) (by omega) (by simp; omega) (Zm9 hbl (by omega)) (by omega) (by
      have:=Zrw l ((a.getD i 0+b.getD i 0+c)%256)
      rw [hli] at this
      rw [this,Z3t a,Z3t b,Int.pow_succ]
      have hd:=Int.mul_ediv_add_emod (a.getD i 0+b.getD i 0+c) 256
      generalize (a.getD i 0+b.getD i 0+c) / 256=d at *
      generalize (a.getD i 0+b.getD i 0+c)%256=q at *
      generalize a.getD i 0=xa at *
      generalize b.getD i 0=xb at *
      generalize (256:Int)^i=w at *
      generalize qV l i=v1 at *
      generalize qV a i=v2 at *
      generalize qV b i=v3 at *
      clear ih w1 w2 w3 w4 e1 this hM hl hi hc
      grind -lia -linarith (splits:=0))
    refine ⟨r,c',?_,h1,h2,h3,h4⟩
    rw [← Nat.add_assoc,Z8w,Zdz,Z3 (Zjj a b),← hM,Z15 (decide_eq_true (by omega)),Z3 (Zmk _ _),Z3 (Zmk _ _)]
    simp only [Zl,e1,w1,w2,w3,w4]
    rw [Zy (decide_eq_true (by simp only [List.length_singleton]; omega))]
    exact er
theorem sum6 {a b:List Int} (ha:Byt a) (hb:Byt b) (la:a.length<100000) (lb:b.length<100000) : ∃ r,Zol a b=some r∧r.length=max a.length b.length+1∧Byt r∧qV r r.length=qV a (max a.length b.length)+qV b (max a.length b.length):=by
  obtain ⟨n,hn⟩ : ∃ n',big=n'+1+max a.length b.length:=⟨18446744073709551615-max a.length b.length,by have:big=18446744073709551616:=Z19; omega⟩
  obtain ⟨r,c,er,h1,h2,h3,h4⟩:=Zzi ha hb rfl (by omega) (fun (l86:List (Int)) (i88:Int)=>chk (decide ((l86.length+([i88]:List (Int)).length)*8≤140737488355328)) <|
 bnd (l86++([i88]:List (Int))) fun l174 =>
 some l174) (max a.length b.length) n 0 [] 0 (by omega) rfl Zfh (.inl rfl) (by show (0:Int)+0*1=0+0; omega)
  refine ⟨r ++ [c],?_,by simp [h1],Zm9 h2 (by omega),?_⟩
  · rw [Zol,Z12,hn]
    refine er.trans ?_
    rw [Zy (decide_eq_true (by simp only [List.length_singleton]; omega)),Zl]
  · have:=Zrw r c
    rw [h1] at this
    rw [List.length_append,h1]
    show qV (r ++ [c]) (max a.length b.length+1)=_
    rw [this,h4]
theorem Zt8 {a b:List Int} (ha:Byt a) (hb:Byt b) (hl:a.length<1000000) (k:List Int→Option (List Int)) (m:Nat) : ∀ (n i:Nat) (l:List Int) (c:Int),i+m=a.length→l.length=i→Byt l→(c=0∨c=1)→qV l i=qV a i-qV b i+c*(256:Int)^i →
    ∃ r c',Z5r a b k (n+1+m) l c (i:Int)=k r∧r.length=a.length∧Byt r∧(c'=0∨c'=1)∧qV r a.length=qV a a.length-qV b a.length+c'*(256:Int)^a.length:=by
  induction m with
  | zero =>
    intro n i l c hi hli hbl hc hv
    have e:i=a.length:=by omega
    subst e
    refine ⟨l,c,?_,hli,hbl,hc,hv⟩
    rw [Nat.add_zero,Z5r,Zae,Z0x (decide_eq_false (by omega))]
  | succ m ih =>
    intro n i l c hi hli hbl hc hv
    have e1:=Z29 (i:=i) (by omega)
    have x:=ha i
    have y:=hb i
    have w1:IntKind.wrap .i64 (a.getD i 0-b.getD i 0)=a.getD i 0-b.getD i 0:=Ze (by omega) (by omega)
    have w2:IntKind.wrap .i64 (a.getD i 0-b.getD i 0-c)=a.getD i 0-b.getD i 0-c:=Ze (by omega) (by omega)
    rw [← Nat.add_assoc,Z5r,Zae,Z15 (decide_eq_true (by omega)),Zy (Z0n (by omega) (by omega))]
    simp only [Zl,e1,Int.toNat_natCast]
    rw [Z3 (Zmk _ _),w1,w2,Z12]
    by_cases hn:a.getD i 0-b.getD i 0-c<0
    · have w3:IntKind.wrap .i64 (a.getD i 0-b.getD i 0-c+256)=a.getD i 0-b.getD i 0-c+256:=Ze (by omega) (by omega)
      rw [Z15 (decide_eq_true hn),w3]
      dsimp only
      rw [Zy (decide_eq_true (by simp only [List.length_singleton]; omega))]
      refine ih n (i+1) (l ++ [a.getD i 0-b.getD i 0-c+256]) 1 (by omega) (by simp; omega) (Zm9 hbl (by omega)) (.inr rfl) ?_
      have:=Zrw l (a.getD i 0-b.getD i 0-c+256)
      rw [hli] at this
      rw [this,Z3t a,Z3t b,Int.pow_succ,hv]
      generalize a.getD i 0=xa at *
      generalize b.getD i 0=xb at *
      generalize (256:Int)^i=w at *
      generalize qV a i=v2 at *
      generalize qV b i=v3 at *
      clear ih w1 w2 w3 e1 this hl hi hc hv
      grind -lia -linarith (splits:=0)
    · rw [Z0x (decide_eq_false hn)]
      dsimp only
      rw [Zy (decide_eq_true (by simp only [List.length_singleton]; omega))]
      refine ih n (i+1) (l ++ [a.getD i 0-b.getD i 0-c]) 0 (by omega) (by simp; omega) (Zm9 hbl (by omega)) (.inl rfl) ?_
      have:=Zrw l (a.getD i 0-b.getD i 0-c)
      rw [hli] at this
      rw [this,Z3t a,Z3t b,Int.pow_succ,hv]
      generalize a.getD i 0=xa at *
      generalize b.getD i 0=xb at *
      generalize (256:Int)^i=w at *
      generalize qV a i=v2 at *
      generalize qV b i=v3 at *
      clear ih w1 w2 e1 this hl hi hc hv
      grind -lia -linarith (splits:=0)
theorem Z0bn {a b:List Int} (ha:Byt a) (hb:Byt b) (hl:a.length<1000000) (hle:qV b a.length≤qV a a.length) : ∃ r,Zeu a b=some r∧r.length=a.length∧Byt r∧qV r a.length=qV a a.length-qV b a.length:=by
  obtain ⟨n,hn⟩ : ∃ n',big=n'+1+a.length:=⟨18446744073709551615-a.length,by have:big=18446744073709551616:=Z19; omega⟩
  obtain ⟨r,c,er,h1,h2,h3,h4⟩:=Zt8 ha hb hl some a.length n 0 [] 0 (by omega) rfl Zfh (.inl rfl) (by show (0:Int)=0-0+0*1; omega)
  have rr:=Zfe h2 a.length
  have ra:=Zfe ha a.length
  have rb:=Zfe hb a.length
  refine ⟨r,?_,h1,h2,?_⟩
  · rw [Zeu,Z12,hn]; exact er
  · generalize (256:Int)^a.length=w at *
    rcases h3 with h | h <;> subst h <;> omega
theorem Zte {p q:List Int} (hp:Byt p) (hq:Byt q) {i:Nat} (hi:i<p.length) {L:Nat} (hL:i+q.length≤L) (hb:L<1000000) (m:Nat) : ∀ (n j:Nat) (l:List Int) (c:Int),j+m=q.length→l.length=L→Byt l→(0≤c∧c<256) →
    ∃ l' c',(∀ k,Z41 p q (i:Int) k (n+1+m) l c (j:Int)=k l' c')∧l'.length=L∧Byt l'∧(0≤c'∧c'<256) ∧
      qV l' L+c'*(256:Int)^(i+q.length)+p.getD i 0*qV q j*(256:Int)^i=qV l L+c*(256:Int)^(i+j)+p.getD i 0*qV q q.length*(256:Int)^i∧(∀ t,i+q.length≤t→l'.getD t 0=l.getD t 0):=by
  induction m with
  | zero =>
    intro n j l c hj hl hw hc
    refine ⟨l,c,fun k=>?_,hl,hw,hc,?_,fun _ _=>rfl⟩
    · rw [Nat.add_zero,Z41,Z7o,Z0x (decide_eq_false (by omega))]
    · rw [show j=q.length by omega]
  | succ m ih =>
    intro n j l c hj hl hw hc
    have e1:=Z29 (i:=j) (by omega)
    have e2:IntKind.wrap .i64 ((i:Int)+(j:Int))=((i+j:Nat):Int):=by rw [Ze (by omega) (by omega)]; omega
    have x:=hp i
    have y:=hq j
    have z:=hw (i+j)
    have p0:0≤p.getD i 0*q.getD j 0:=Int.mul_nonneg x.1 y.1
    have p1:p.getD i 0*q.getD j 0≤255*255:=Int.mul_le_mul (by omega) (by omega) y.1 (by omega)
    have w1:IntKind.wrap .i64 (p.getD i 0*q.getD j 0)=p.getD i 0*q.getD j 0:=Ze (by omega) (by omega)
    have w2:IntKind.wrap .i64 (l.getD (i+j) 0+p.getD i 0*q.getD j 0)=l.getD (i+j) 0+p.getD i 0*q.getD j 0:=Ze (by omega) (by omega)
    have w3:IntKind.wrap .i64 (l.getD (i+j) 0+p.getD i 0*q.getD j 0+c)=l.getD (i+j) 0+p.getD i 0*q.getD j 0+c:=Ze (by omega) (by omega)
    have w4:Int.tmod (l.getD (i+j) 0+p.getD i 0*q.getD j 0+c) 256=(l.getD (i+j) 0+p.getD i 0*q.getD j 0+c)%256:=Int.tmod_eq_emod_of_nonneg (by omega)
    have w5:IntKind.wrap .i64 (Int.tdiv (l.getD (i+j) 0+p.getD i 0*q.getD j 0+c) 256)=(l.getD (i+j) 0+p.getD i 0*q.getD j 0+c) / 256:=by
      rw [Int.tdiv_eq_ediv_of_nonneg (by omega),Ze (by omega) (by omega)]
    obtain ⟨l',c',e,h1,h2,h3,h4,h5⟩:=ih n (j+1) (Zcp 0 l (i+j) ((l.getD (i+j) 0+p.getD i 0*q.getD j 0+c)%256)) ((l.getD (i+j) 0+p.getD i 0*q.getD j 0+c) / 256) (by omega) (by rw [Zng (by omega),hl]) (Zmc hw (by omega)) (by omega)
    refine ⟨l',c',fun k=>?_,h1,h2,h3,?_,?_⟩
    · rw [← Nat.add_assoc,Z41,Z7o,Z15 (decide_eq_true (by omega))]
      simp only [Zl,e1,e2,Int.toNat_natCast,w1,w2,w3,w4,w5]
      rw [Zy (Z0n (by omega) (by omega)),Zy (Z0n (by omega) (by omega)),Zy (Z0n (by omega) (by omega)),Zy (Z0n (by omega) (by omega))]
      exact e k
    · rw [Zvy _ _ _ _ (by omega),Z3t q j,← Nat.add_assoc,Int.pow_succ,Int.pow_add 256 i j] at h4
      rw [Int.pow_add 256 i j]
      have hd:=Int.mul_ediv_add_emod (l.getD (i+j) 0+p.getD i 0*q.getD j 0+c) 256
      generalize (l.getD (i+j) 0+p.getD i 0*q.getD j 0+c) / 256=d at *
      generalize (l.getD (i+j) 0+p.getD i 0*q.getD j 0+c)%256=r at *
      generalize (256:Int)^(i+q.length)=u1 at *
      generalize (256:Int)^i=u2 at *
      generalize (256:Int)^j=u3 at *
      generalize q.getD j 0=qj at *
      generalize p.getD i 0=pi at *
      generalize l.getD (i+j) 0=oo at *
      generalize qV l' L=a1 at *
      generalize qV l L=a2 at *
      generalize qV q j=a3 at *
      generalize qV q q.length=a4 at *
      clear e ih w1 w2 w3 w4 w5 e1 e2 hL hb hi hj h5 p0 p1 hw hp hq
      grind -lia -linarith (splits:=0)
    · intro t ht
      rw [h5 t ht,Z2z,if_neg (by omega)]
theorem Ztf {p q:List Int} (hp:Byt p) (hq:Byt q) {L:Nat} (hL:p.length+q.length=L) (hb:L<1000000) (k:List Int→Option (List Int)) (m:Nat) : ∀ (n i:Nat) (l:List Int),i+m=p.length→l.length=L→Byt l→(∀ t,i+q.length≤t→l.getD t 0=0)→qV l L=qV p i*qV q q.length →
    ∃ l',Z40 p q k (n+1+m) l (i:Int)=k l'∧l'.length=L∧Byt l'∧qV l' L=qV p p.length*qV q q.length:=by
  induction m with
  | zero =>
    intro n i l hi hl hw hz hv
    refine ⟨l,?_,hl,hw,by rw [hv,show i=p.length by omega]⟩
    rw [Nat.add_zero,Z40,Z7n,Z0x (decide_eq_false (by omega))]
  | succ m ih =>
    intro n i l hi hl hw hz hv
    obtain ⟨n',hn⟩ : ∃ n',big=n'+1+q.length:=⟨18446744073709551615-q.length,by have:big=18446744073709551616:=Z19; omega⟩
    obtain ⟨l',c',e,hl',hw',hc',v',z'⟩:=Zte hp hq (i:=i) (by omega) (L:=L) (by omega) hb q.length n' 0 l 0 (by omega) hl hw (by decide)
    have e1:=Z29 (i:=i) (by omega)
    have e2:IntKind.wrap .i64 ((i:Int)+(q.length:Int))=((i+q.length:Nat):Int):=by rw [Ze (by omega) (by omega)]; omega
    have hz0:l'.getD (i+q.length) 0=0:=by rw [z' _ (Nat.le_refl _),hz _ (Nat.le_refl _)]
    obtain ⟨l2,e3,hl2,hw2,v2⟩:=ih n (i+1) (Zcp 0 l' (i+q.length) c') (by omega) (by rw [Zng (by omega),hl']) (Zmc hw' hc') (by
      intro t ht
      rw [Z2z,if_neg (by omega),z' t (by omega),hz t (by omega)]) (by
      rw [Zvy _ _ _ _ (by omega),hz0,Z3t p i]
      rw [hv] at v'
      have e0:qV q 0=0:=rfl
      rw [e0] at v'
      generalize (256:Int)^(i+q.length)=u1 at *
      generalize (256:Int)^i=u2 at *
      generalize qV l' L=a1 at *
      generalize qV q q.length=a4 at *
      generalize qV p i=a5 at *
      generalize p.getD i 0=a6 at *
      clear e ih e1 e2 hz hz0 z' hL hb hi hw hw' hp hq hv
      grind -lia -linarith (splits:=0))
    refine ⟨l2,?_,hl2,hw2,v2⟩
    rw [← Nat.add_assoc,Z40,Z7n,Z15 (decide_eq_true (by omega)),Z12,hn]
    refine (e _).trans ?_
    simp only [Zl,e1,e2,Int.toNat_natCast]
    rw [Zy (Z0n (by omega) (by omega))]
    exact e3
theorem Zym {p q:List Int} (hp:Byt p) (hq:Byt q) (hb:p.length+q.length<100000) : ∃ r,Zbt p q=some r∧r.length=p.length+q.length∧Byt r∧qV r r.length=qV p p.length*qV q q.length:=by
  have e1:IntKind.wrap .i64 ((p.length:Int)+(q.length:Int))=((p.length+q.length:Nat):Int):=by rw [Ze (by omega) (by omega)]; omega
  obtain ⟨n,hn⟩ : ∃ n',big=n'+1+p.length:=⟨18446744073709551615-p.length,by have:big=18446744073709551616:=Z19; omega⟩
  have hz : ∀ t,(List.replicate (p.length+q.length) (0:Int)).getD t 0=0:=by
    intro t
    simp only [List.getD]
    cases hi:(List.replicate (p.length+q.length) (0:Int))[t]? with
    | none=>rfl
    | some v=>simpa using (List.mem_replicate.1 (List.mem_of_getElem? hi)).2
  obtain ⟨r,e,h1,h2,h3⟩:=Ztf hp hq (L:=p.length+q.length) rfl (by omega) some p.length n 0 (List.replicate (p.length+q.length) 0) (by omega) (by simp) (Zmb _) (fun t _=>hz t) (by
    rw [Zvx]
    show 0=0*_
    omega)
  refine ⟨r,?_,h1,h2,by rw [h1]; exact h3⟩
  rw [Zbt,Zl,e1,Zy (by unfold mkB; simp; omega),Z12,Int.toNat_natCast,hn]
  exact e
theorem Zpy (i:Nat) (k:Int→Option Int) (m:Nat) : ∀ (n t:Nat) (d:Int),t+m=i%8→(0≤d∧d<256)→Z8x (i:Int) k (n+1+m) d (t:Int)=k (d / ((2^m:Nat):Int)):=by
  induction m with
  | zero =>
    intro n t d ht hd
    rw [Nat.add_zero,Z8x,Ze0,Zl,Zmr,Z0x (decide_eq_false (by omega))]
    show k d=k (d / 1)
    rw [Int.ediv_one]
  | succ m ih =>
    intro n t d ht hd
    have e1:=Z29 (i:=t) (by omega)
    have w1:IntKind.wrap .i64 (Int.tdiv d 2)=d / 2:=by rw [Int.tdiv_eq_ediv_of_nonneg hd.1,Ze (by omega) (by omega)]
    rw [← Nat.add_assoc,Z8x,Ze0,Zl,Zmr,Z15 (decide_eq_true (by omega))]
    simp only [Zl,e1,w1]
    rw [ih n (t+1) (d / 2) (by omega) (by omega),Nat.pow_succ,Int.natCast_mul,Int.mul_comm,← Int.ediv_ediv_of_nonneg (by decide)]
    rfl
theorem bit6 {p:List Int} (hp:Byt p) {i:Nat} (hi:i<1000000):Zom p (i:Int)=some (p.getD (i / 8) 0 / ((2^(i%8):Nat):Int)%2):=by
  have hb:=hp (i / 8)
  obtain ⟨n,hn⟩ : ∃ n',big=n'+1+i%8:=⟨18446744073709551615-i%8,by have:big=18446744073709551616:=Z19; omega⟩
  have e1:IntKind.wrap .i64 (Int.tdiv (i:Int) 8)=((i / 8:Nat):Int):=by
    rw [Int.tdiv_eq_ediv_of_nonneg (by omega),Ze (by omega) (by omega)]; omega
  have hpp:(0:Int)<((2^(i%8):Nat):Int):=by have:=Nat.pow_pos (n:=i%8) (show 0<2 by decide); omega
  have hq0:=Int.ediv_nonneg hb.1 (Int.le_of_lt hpp)
  rw [Zom,Zl,e1,Z3 (Zmk _ _),Z12,hn]
  refine (Zpy i _ (i%8) n 0 _ (by omega) hb).trans ?_
  rw [Zl,Int.tmod_eq_emod_of_nonneg hq0]
theorem Zxx {b:Int} (hb:b=0∨b=1) {l0:List Int} (k:List Int→Option (List Int)) (m:Nat) : ∀ (n i:Nat) (l:List Int) (c:Int),i+m=33→l.length=33→Byt l→(c=0∨c=1)→(∀ j,i≤j→l.getD j 0=l0.getD j 0)→qV l i+c*(256:Int)^i=2*qV l0 i+b →
    ∃ r c',Z7m k (n+1+m) l c (i:Int)=k r∧r.length=33∧Byt r∧(c'=0∨c'=1)∧qV r 33+c'*(256:Int)^33=2*qV l0 33+b:=by
  induction m with
  | zero =>
    intro n i l c hi hl hbl hc hj hv
    have e:i=33:=by omega
    subst e
    refine ⟨l,c,?_,hl,hbl,hc,hv⟩
    rw [Nat.add_zero,Z7m,Zdy,Z0x (by decide)]
  | succ m ih =>
    intro n i l c hi hl hbl hc hj hv
    have e1:=Z29 (i:=i) (by omega)
    have x:=hbl i
    have w1:IntKind.wrap .i64 (2*l.getD i 0)=2*l.getD i 0:=Ze (by omega) (by omega)
    have w2:IntKind.wrap .i64 (2*l.getD i 0+c)=2*l.getD i 0+c:=Ze (by omega) (by omega)
    have w3:Int.tmod (2*l.getD i 0+c) 256=(2*l.getD i 0+c)%256:=Int.tmod_eq_emod_of_nonneg (by omega)
    have w4:IntKind.wrap .i64 (Int.tdiv (2*l.getD i 0+c) 256)=(2*l.getD i 0+c) / 256:=by
      rw [Int.tdiv_eq_ediv_of_nonneg (by omega),Ze (by omega) (by omega)]
    obtain ⟨r,c',er,h1,h2,h3,h4⟩:=ih n (i+1) (Zcp 0 l i ((2*l.getD i 0+c)%256)) ((2*l.getD i 0+c) / 256) (by omega) (by rw [Zng (by omega),hl]) (Zmc hbl (by omega)) (by omega)
      (by intro j hji; rw [Z2z,if_neg (by omega)]; exact hj j (by omega)) (by
      rw [Z3t (Zcp 0 l i _),Zot _ _ _ _ (Nat.le_refl _),Z2z,if_pos rfl,Z3t l0,Int.pow_succ,← hj i (Nat.le_refl _)]
      have hd:=Int.mul_ediv_add_emod (2*l.getD i 0+c) 256
      generalize (2*l.getD i 0+c) / 256=d at *
      generalize (2*l.getD i 0+c)%256=q at *
      generalize l.getD i 0=xa at *
      generalize (256:Int)^i=w at *
      generalize qV l i=v1 at *
      generalize qV l0 i=v2 at *
      clear ih w1 w2 w3 w4 e1 hj hi hc hb hbl
      grind -lia -linarith (splits:=0))
    refine ⟨r,c',?_,h1,h2,h3,h4⟩
    rw [← Nat.add_assoc,Z7m,Zdy,Z15 (decide_eq_true (by omega))]
    simp only [Zl,e1,Int.toNat_natCast,w1,w2,w3,w4]
    rw [Zy (Z0n (by omega) (by omega)),Zy (Z0n (by omega) (by omega))]
    exact er
theorem Z01q {b:Int} (hb:b=0∨b=1) {l:List Int} (hl:l.length=33) (hbl:Byt l) (hs:qV l 33<VL) (k:List Int→Option (List Int)) : ∃ r,Z7m k big l b 0=k r∧r.length=33∧Byt r∧qV r 33=2*qV l 33+b:=by
  obtain ⟨n,hn⟩ : ∃ n,big=n+1+33:=⟨18446744073709551582,Z19⟩
  obtain ⟨r,c',er,h1,h2,h3,h4⟩:=Zxx hb (l0:=l) k 33 n 0 l b (by omega) hl hbl hb (fun _ _=>rfl) (by show 0+b*1=2*0+b; omega)
  have rr:=Zfe h2 33
  have e33:(256:Int)^33=29642774844752946028434172162224104410437116074403984394101141506025761187823616:=by decide
  refine ⟨r,by rw [hn]; exact er,h1,h2,?_⟩
  rw [e33] at h4 rr
  unfold VL at hs
  rcases h3 with h | h <;> subst h <;> omega
theorem Zms {p:List Int} (hp:Byt p) (hl:p.length<10000) {V:Nat} (hV : ∀ j,j<p.length→p.getD j 0=((V / 2^(8*j)%2^8:Nat):Int)) (k:List Int→Option (List Int)) : ∀ (m n:Nat) (l:List Int),m≤8*p.length→l.length=33→Byt l→qV l 33=((V / 2^m%VLn:Nat):Int) →
    ∃ r,Z6i p Zgl k (n+1+m) l ((m:Int)-1)=k r∧r.length=33∧Byt r∧qV r 33=((V%VLn:Nat):Int)
  | 0,n,l,hm,h1,h2,h3=>by
    refine ⟨l,?_,h1,h2,?_⟩
    · rw [Nat.add_zero,Z6i,Zdx,Z0x (by decide)]
    · rw [h3,Nat.pow_zero,Nat.div_one]
  | m+1,n,l,hm,h1,h2,h3=>by
    have e0:((m+1:Nat):Int)-1=(m:Int):=by omega
    have e1:IntKind.wrap .i64 ((m:Int)-1)=(m:Int)-1:=Ze (by omega) (by omega)
    have hbit:=Zqj (w:=8) (N:=V) (l:=p) (L:=p.length) (i:=m) (by decide) hV (by omega)
    have hlt:qV l 33<VL:=by
      rw [h3,Znj]
      have:=Nat.mod_lt (V / 2^(m+1)) (show 0<VLn by decide)
      omega
    have hV2:V / 2^m=2*(V / 2^(m+1))+V / 2^m%2:=by
      have e:V / 2^(m+1)=V / 2^m / 2:=by rw [Nat.pow_succ,Nat.div_div_eq_div_mul]
      rw [e]; omega
    rw [e0,← Nat.add_assoc,Z6i,Zdx,Z15 (decide_eq_true (by omega)),Z12,Z3 (bit6 hp (by omega)),Z12,hbit]
    have hb01:((V / 2^m%2:Nat):Int)=0∨((V / 2^m%2:Nat):Int)=1:=by omega
    obtain ⟨r,er,r1,r2,r3⟩:=Z01q hb01 h1 h2 hlt (fun (l1750:List (Int))=>opt (Zhc l1750 Zgl) fun y1817 =>
 br ((!y1817)) (
 opt (Zeu l1750 Zgl) fun y1820 =>
 (fun (l1679:List (Int))=>bnd (IntKind.wrap .i64 ((m:Int)-1)) fun z1827 =>
 Z6i p Zgl k (n+1+m) l1679 z1827) y1820
 ) (
 (fun (l1679:List (Int))=>bnd (IntKind.wrap .i64 ((m:Int)-1)) fun z1827 =>
 Z6i p Zgl k (n+1+m) l1679 z1827) l1750
 ))
    refine (?_ : ∃ q,_∧_)
    have hless:=Z0xk r2 Zlv (by omega) (by decide)
    have e33:max r.length Zgl.length=33:=by rw [r1]; rfl
    rw [e33,Zeb] at hless
    rw [h3] at r3
    by_cases hc:qV r 33<VL
    · have hv:qV r 33=((V / 2^m%VLn:Nat):Int):=by
        rw [Znj,r3] at hc
        rw [r3,hV2]
        generalize V / 2^m%2=bb at *
        generalize V / 2^(m+1)=x at *
        unfold VLn at *
        omega
      obtain ⟨q,eq,q1,q2,q3⟩:=Zms hp hl hV k m n r (by omega) r1 r2 hv
      refine ⟨q,?_,q1,q2,q3⟩
      refine er.trans ?_
      dsimp only
      rw [Z3 hless,decide_eq_true hc,Z0x (c := !true) rfl,Zl,e1]
      exact eq
    · obtain ⟨s,es,s1,s2,s3⟩:=Z0bn r2 Zlv (by omega) (by rw [r1,Zeb]; omega)
      rw [r1,Zeb] at s3
      have hv:qV s 33=((V / 2^m%VLn:Nat):Int):=by
        rw [Znj,r3] at hc
        rw [Znj] at s3
        rw [s3,r3,hV2]
        generalize V / 2^m%2=bb at *
        generalize V / 2^(m+1)=x at *
        unfold VLn at *
        omega
      obtain ⟨q,eq,q1,q2,q3⟩:=Zms hp hl hV k m n s (by omega) (by rw [s1,r1]) s2 hv
      refine ⟨q,?_,q1,q2,q3⟩
      refine er.trans ?_
      dsimp only
      rw [Z3 hless,decide_eq_false hc,Z15 (c := !false) rfl,Z3 es,Zl,e1]
      exact eq
theorem Z00b {p:List Int} (hp:Byt p) : ∀ (n j:Nat),j<n→p.getD j 0=(((qV p n).toNat / 2^(8*j)%2^8:Nat):Int)
  | 0,j,h=>by omega
  | n+1,j,h=>by
    have hr:=Zfe hp n
    have hb:=hp n
    obtain ⟨v,hv⟩:=Int.eq_ofNat_of_zero_le hr.1
    obtain ⟨x,hx⟩:=Int.eq_ofNat_of_zero_le hb.1
    have hpw:(256:Int)^n=((256^n:Nat):Int):=by rw [Int.natCast_pow]; rfl
    have hvlt:v<256^n:=by
      have:=hr.2
      rw [hv,hpw] at this
      exact Int.ofNat_lt.1 this
    have hxlt:x<256:=by
      have:=hb.2
      rw [hx] at this
      exact Int.ofNat_lt.1 this
    have e:(qV p (n+1)).toNat=v+x*256^n:=by
      rw [Z3t,hv,hx,hpw,← Int.natCast_mul,← Int.natCast_add,Int.toNat_natCast]
    rw [e,pow8]
    by_cases hj:j=n
    · subst hj
      rw [Nat.add_mul_div_right _ _ (Nat.pow_pos (by decide)),Nat.div_eq_of_lt hvlt,Nat.zero_add,hx]
      show (x:Int)=((x%256:Nat):Int)
      rw [Nat.mod_eq_of_lt hxlt]
    · have ih:=Z00b hp n j (by omega)
      rw [hv,Int.toNat_natCast,pow8] at ih
      have hs:n=j+1+(n-j-1):=by omega
      have e2:x*256^n=x*256^(n-j-1)*256*256^j:=by
        conv=>lhs; rw [hs,Nat.pow_add,Nat.pow_succ]
        ac_rfl
      rw [e2,Nat.add_mul_div_right _ _ (Nat.pow_pos (by decide))]
      rw [ih]
      show ((v / 256^j%256:Nat):Int)=(((v / 256^j+x*256^(n-j-1)*256)%256:Nat):Int)
      rw [Nat.add_mul_mod_self_right]
theorem mod6 {p:List Int} (hp:Byt p) (hl:p.length<10000) : ∃ r,Zlp p=some r∧r.length=33∧Byt r∧qV r 33=qV p p.length%VL:=by
  obtain ⟨n,hn⟩ : ∃ n',big=n'+1+8*p.length:=⟨18446744073709551615-8*p.length,by have:big=18446744073709551616:=Z19; omega⟩
  have hr:=Zfe hp p.length
  obtain ⟨v,hv⟩:=Int.eq_ofNat_of_zero_le hr.1
  have hpw:(256:Int)^p.length=((256^p.length:Nat):Int):=by rw [Int.natCast_pow]; rfl
  have hvlt:v<2^(8*p.length):=by
    have:=hr.2
    rw [hv,hpw] at this
    rw [pow8]
    exact Int.ofNat_lt.1 this
  have hd:=Z00b hp p.length
  rw [hv,Int.toNat_natCast] at hd
  obtain ⟨r,er,r1,r2,r3⟩:=Zms hp hl hd some (8*p.length) n (List.replicate 33 0) (Nat.le_refl _) (by simp) (Zmb _) (by
    rw [Zvx,Nat.div_eq_of_lt hvlt]; rfl)
  refine ⟨r,?_,r1,r2,?_⟩
  · have e1:IntKind.wrap .i64 (8*(p.length:Int))=((8*p.length:Nat):Int):=by rw [Ze (by omega) (by omega)]; omega
    have e2:IntKind.wrap .i64 (((8*p.length:Nat):Int)-1)=((8*p.length:Nat):Int)-1:=Ze (by omega) (by omega)
    rw [Zlp,Z3 Zwg,Zy (by decide),Zl,Zl,Z12,e1,e2,hn]
    exact er
  · rw [r3,hv,Znj]; rfl
theorem Zx5 {p:List Int} (hp:Byt p) (k:List Int→Option (List Int)) (m:Nat) : ∀ (n i:Nat) (a:List Int),i+m=32→a.length=32→(∀ j,a.getD j 0=if j<i then p.getD j 0 else 0) →
    ∃ r,Z75 p k (n+1+m) (i:Int) a=k r∧r.length=32∧(∀ j,r.getD j 0=if j<32 then p.getD j 0 else 0):=by
  induction m with
  | zero =>
    intro n i a hi hl h
    have e:i=32:=by omega
    subst e
    refine ⟨a,?_,hl,h⟩
    rw [Nat.add_zero,Z75,Zbu,Z0x (by decide)]
  | succ m ih =>
    intro n i a hi hl h
    have e1:=Z29 (i:=i) (by omega)
    have x:=hp i
    have w1:IntKind.wrap .u8 (p.getD i 0)=p.getD i 0:=by rw [Z0d]; omega
    rw [← Nat.add_assoc,Z75,Zbu,Z15 (decide_eq_true (by omega)),Z3 (Zmk _ _)]
    simp only [Zl,e1,w1,Int.toNat_natCast]
    rw [Zy (Z0n (by omega) (by omega))]
    refine ih n (i+1) _ (by omega) (by rw [Z42 (by omega),hl]) ?_
    intro j
    rw [Z0s,h j]
    by_cases hj:j=i
    · subst hj; rw [if_pos rfl,if_pos (by omega)]
    · rw [if_neg hj]
      by_cases h2:j<i
      · rw [if_pos h2,if_pos (by omega)]
      · rw [if_neg h2,if_neg (by omega)]
theorem Zn7 (p:List Int):qV p 32=Z9k p:=by
  simp only [qV]
  have e0:(256:Int)^0=1:=by decide
  have e1:(256:Int)^1=256:=by decide
  have e2:(256:Int)^2=65536:=by decide
  have e3:(256:Int)^3=16777216:=by decide
  have e4:(256:Int)^4=4294967296:=by decide
  have e5:(256:Int)^5=1099511627776:=by decide
  have e6:(256:Int)^6=281474976710656:=by decide
  have e7:(256:Int)^7=72057594037927936:=by decide
  have e8:(256:Int)^8=18446744073709551616:=by decide
  have e9:(256:Int)^9=4722366482869645213696:=by decide
  have e10:(256:Int)^10=1208925819614629174706176:=by decide
  have e11:(256:Int)^11=309485009821345068724781056:=by decide
  have e12:(256:Int)^12=79228162514264337593543950336:=by decide
  have e13:(256:Int)^13=20282409603651670423947251286016:=by decide
  have e14:(256:Int)^14=5192296858534827628530496329220096:=by decide
  have e15:(256:Int)^15=1329227995784915872903807060280344576:=by decide
  have e16:(256:Int)^16=340282366920938463463374607431768211456:=by decide
  have e17:(256:Int)^17=87112285931760246646623899502532662132736:=by decide
  have e18:(256:Int)^18=22300745198530623141535718272648361505980416:=by decide
  have e19:(256:Int)^19=5708990770823839524233143877797980545530986496:=by decide
  have e20:(256:Int)^20=1461501637330902918203684832716283019655932542976:=by decide
  have e21:(256:Int)^21=374144419156711147060143317175368453031918731001856:=by decide
  have e22:(256:Int)^22=95780971304118053647396689196894323976171195136475136:=by decide
  have e23:(256:Int)^23=24519928653854221733733552434404946937899825954937634816:=by decide
  have e24:(256:Int)^24=6277101735386680763835789423207666416102355444464034512896:=by decide
  have e25:(256:Int)^25=1606938044258990275541962092341162602522202993782792835301376:=by decide
  have e26:(256:Int)^26=411376139330301510538742295639337626245683966408394965837152256:=by decide
  have e27:(256:Int)^27=105312291668557186697918027683670432318895095400549111254310977536:=by decide
  have e28:(256:Int)^28=26959946667150639794667015087019630673637144422540572481103610249216:=by decide
  have e29:(256:Int)^29=6901746346790563787434755862277025452451108972170386555162524223799296:=by decide
  have e30:(256:Int)^30=1766847064778384329583297500742918515827483896875618958121606201292619776:=by decide
  have e31:(256:Int)^31=452312848583266388373324160190187140051835877600158453279131187530910662656:=by decide
  rw [e0,e1,e2,e3,e4,e5,e6,e7,e8,e9,e10,e11,e12,e13,e14,e15,e16,e17,e18,e19,e20,e21,e22,e23,e24,e25,e26,e27,e28,e29,e30,e31]
  unfold Z9k
  omega
theorem Z02s (p:List Int):qV p 64=Zzu p:=by
  simp only [qV]
  have e0:(256:Int)^0=1:=by decide
  have e1:(256:Int)^1=256:=by decide
  have e2:(256:Int)^2=65536:=by decide
  have e3:(256:Int)^3=16777216:=by decide
  have e4:(256:Int)^4=4294967296:=by decide
  have e5:(256:Int)^5=1099511627776:=by decide
  have e6:(256:Int)^6=281474976710656:=by decide
  have e7:(256:Int)^7=72057594037927936:=by decide
  have e8:(256:Int)^8=18446744073709551616:=by decide
  have e9:(256:Int)^9=4722366482869645213696:=by decide
  have e10:(256:Int)^10=1208925819614629174706176:=by decide
  have e11:(256:Int)^11=309485009821345068724781056:=by decide
  have e12:(256:Int)^12=79228162514264337593543950336:=by decide
  have e13:(256:Int)^13=20282409603651670423947251286016:=by decide
  have e14:(256:Int)^14=5192296858534827628530496329220096:=by decide
  have e15:(256:Int)^15=1329227995784915872903807060280344576:=by decide
  have e16:(256:Int)^16=340282366920938463463374607431768211456:=by decide
  have e17:(256:Int)^17=87112285931760246646623899502532662132736:=by decide
  have e18:(256:Int)^18=22300745198530623141535718272648361505980416:=by decide
  have e19:(256:Int)^19=5708990770823839524233143877797980545530986496:=by decide
  have e20:(256:Int)^20=1461501637330902918203684832716283019655932542976:=by decide
  have e21:(256:Int)^21=374144419156711147060143317175368453031918731001856:=by decide
  have e22:(256:Int)^22=95780971304118053647396689196894323976171195136475136:=by decide
  have e23:(256:Int)^23=24519928653854221733733552434404946937899825954937634816:=by decide
  have e24:(256:Int)^24=6277101735386680763835789423207666416102355444464034512896:=by decide
  have e25:(256:Int)^25=1606938044258990275541962092341162602522202993782792835301376:=by decide
  have e26:(256:Int)^26=411376139330301510538742295639337626245683966408394965837152256:=by decide
  have e27:(256:Int)^27=105312291668557186697918027683670432318895095400549111254310977536:=by decide
  have e28:(256:Int)^28=26959946667150639794667015087019630673637144422540572481103610249216:=by decide
  have e29:(256:Int)^29=6901746346790563787434755862277025452451108972170386555162524223799296:=by decide
  have e30:(256:Int)^30=1766847064778384329583297500742918515827483896875618958121606201292619776:=by decide
  have e31:(256:Int)^31=452312848583266388373324160190187140051835877600158453279131187530910662656:=by decide
  have e32:(256:Int)^32=115792089237316195423570985008687907853269984665640564039457584007913129639936:=by decide
  have e33:(256:Int)^33=29642774844752946028434172162224104410437116074403984394101141506025761187823616:=by decide
  have e34:(256:Int)^34=7588550360256754183279148073529370729071901715047420004889892225542594864082845696:=by decide
  have e35:(256:Int)^35=1942668892225729070919461906823518906642406839052139521251812409738904285205208498176:=by decide
  have e36:(256:Int)^36=497323236409786642155382248146820840100456150797347717440463976893159497012533375533056:=by decide
  have e37:(256:Int)^37=127314748520905380391777855525586135065716774604121015664758778084648831235208544136462336:=by decide
  have e38:(256:Int)^38=32592575621351777380295131014550050576823494298654980010178247189670100796213387298934358016:=by decide
  have e39:(256:Int)^39=8343699359066055009355553539724812947666814540455674882605631280555545803830627148527195652096:=by decide
  have e40:(256:Int)^40=2135987035920910082395021706169552114602704522356652769947041607822219725780640550022962086936576:=by decide
  have e41:(256:Int)^41=546812681195752981093125556779405341338292357723303109106442651602488249799843980805878294255763456:=by decide
  have e42:(256:Int)^42=139984046386112763159840142535527767382602843577165595931249318810236991948760059086304843329475444736:=by decide
  have e43:(256:Int)^43=35835915874844867368919076489095108449946327955754392558399825615420669938882575126094039892345713852416:=by decide
  have e44:(256:Int)^44=9173994463960286046443283581208347763186259956673124494950355357547691504353939232280074212440502746218496:=by decide
  have e45:(256:Int)^45=2348542582773833227889480596789337027375682548908319870707290971532209025114608443463698998384768703031934976:=by decide
  have e46:(256:Int)^46=601226901190101306339707032778070279008174732520529886901066488712245510429339761526706943586500787976175353856:=by decide
  have e47:(256:Int)^47=153914086704665934422965000391185991426092731525255651046673021110334850669910978950836977558144201721900890587136:=by decide
  have e48:(256:Int)^48=39402006196394479212279040100143613805079739270465446667948293404245721771497210611414266254884915640806627990306816:=by decide
  have e49:(256:Int)^49=10086913586276986678343434265636765134100413253239154346994763111486904773503285916522052161250538404046496765518544896:=by decide
  have e50:(256:Int)^50=2582249878086908589655919172003011874329705792829223512830659356540647622016841194629645353280137831435903171972747493376:=by decide
  have e51:(256:Int)^51=661055968790248598951915308032771039828404682964281219284648795274405791236311345825189210439715284847591212025023358304256:=by decide
  have e52:(256:Int)^52=169230328010303641331690318856389386196071598838855992136870091590247882556495704531248437872567112920983350278405979725889536:=by decide
  have e53:(256:Int)^53=43322963970637732180912721627235682866194329302747133987038743447103457934462900359999600095377180907771737671271930809827721216:=by decide
  have e54:(256:Int)^54=11090678776483259438313656736572334813745748301503266300681918322458485231222502492159897624416558312389564843845614287315896631296:=by decide
  have e55:(256:Int)^55=2839213766779714416208296124562517712318911565184836172974571090549372219192960637992933791850638927971728600024477257552869537611776:=by decide
  have e56:(256:Int)^56=726838724295606890549323807888004534353641360687318060281490199180639288113397923326191050713763565560762521606266177933534601628614656:=by decide
  have e57:(256:Int)^57=186070713419675363980626894819329160794532188335953423432061490990243657757029868371504908982723472783555205531204141550984858016925351936:=by decide
  have e58:(256:Int)^58=47634102635436893179040485073748265163400240214004076398607741693502376385799646303105256699577209032590132615988260237052123652332890095616:=by decide
  have e59:(256:Int)^59=12194330274671844653834364178879555881830461494785043558043581873536608354764709453594945715091765512343073949692994620685343654997219864477696:=by decide
  have e60:(256:Int)^60=3121748550315992231381597229793166305748598142664971150859156959625371738819765620120306103063491971159826931121406622895447975679288285306290176:=by decide
  have e61:(256:Int)^61=799167628880894011233688890827050574271641124522232614619944181664095165137859998750798362384253944616915694367080095461234681773897801038410285056:=by decide
  have e62:(256:Int)^62=204586912993508866875824356051724947013540127877691549342705710506008362275292159680204380770369009821930417757972504438076078534117837065833032974336:=by decide
  have e63:(256:Int)^63=52374249726338269920211035149241586435466272736689036631732661889538140742474792878132321477214466514414186946040961136147476104734166288853256441430016:=by decide
  rw [e0,e1,e2,e3,e4,e5,e6,e7,e8,e9,e10,e11,e12,e13,e14,e15,e16,e17,e18,e19,e20,e21,e22,e23,e24,e25,e26,e27,e28,e29,e30,e31,e32,e33,e34,e35,e36,e37,e38,e39,e40,e41,e42,e43,e44,e45,e46,e47,e48,e49,e50,e51,e52,e53,e54,e55,e56,e57,e58,e59,e60,e61,e62,e63]
  unfold Zzu
  omega
theorem Z0us {p:List Int} (hp:Byt p) (hl:p.length=33) (hs:qV p 33<VL):Zhd p=some (byt (qV p 33)):=by
  obtain ⟨n,hn⟩ : ∃ n,big=n+1+32:=⟨18446744073709551583,Z19⟩
  obtain ⟨r,er,r1,r2⟩:=Zx5 hp some 32 n 0 (List.replicate 32 0) (by omega) (by simp) (by
    intro j
    rw [if_neg (by omega)]
    simp only [List.getD]
    cases hi:(List.replicate 32 (0:Int))[j]? with
    | none=>rfl
    | some v=>simpa using (List.mem_replicate.1 (List.mem_of_getElem? hi)).2)
  rw [Zhd,Z12,hn]
  refine er.trans ?_
  congr 1
  have br:Byt r:=by
    intro j; rw [r2]; split
    · exact hp j
    · decide
  have hr:=Zfe hp 32
  have h33:qV p 33=qV p 32+p.getD 32 0*(256:Int)^32:=Z3t p 32
  have e32:(256:Int)^32=115792089237316195423570985008687907853269984665640564039457584007913129639936:=by decide
  have hb:=hp 32
  rw [e32] at h33 hr
  have h0:qV p 33=qV p 32:=by
    unfold VL at hs
    omega
  have hv:Z9k r=qV p 33:=by
    rw [h0,← Zn7]
    exact Zit 32 (fun i hi=>by rw [r2,if_pos hi])
  rw [← hv,Zr0 br r1]
theorem Z04p {p:List Int} (hp:Byt p) (l:p.length=64):Zad p=some (byt (Zzu p%VL)):=by
  have e:tk p 0 64=p:=Z96 l
  obtain ⟨r,er,r1,r2,r3⟩:=mod6 hp (by omega)
  have h:=Znk (qV p p.length)
  rw [Zad,e,Z3 (Zyc hp (by omega)),Z3 er,Z3 (Z0us r2 r1 (by rw [r3]; exact h.2)),r3,l,Z02s]
theorem Z04n {p q r:List Int} (hp:Byt p) (hq:Byt q) (hr:Byt r) (lp:p.length=32) (lq:q.length=32) (lr:r.length=32):Zbs p q r=some (byt ((Z9k p*Z9k q+Z9k r)%VL)):=by
  have e1:tk p 0 32=p:=Z96 lp
  have e2:tk q 0 32=q:=Z96 lq
  have e3:tk r 0 32=r:=Z96 lr
  obtain ⟨a,ea,a1,a2,a3⟩:=Zym hp hq (by omega)
  obtain ⟨b,eb,b1,b2,b3⟩:=sum6 a2 hr (by omega) (by omega)
  obtain ⟨c,ec,c1,c2,c3⟩:=mod6 b2 (by omega)
  have h:=Znk (qV b b.length)
  rw [Zbs,e1,e2,e3,Z3 (Zyc hp (by omega)),Z3 (Zyc hq (by omega)),Z3 ea,Z3 (Zyc hr (by omega)),Z3 eb,Z3 ec,Z3 (Z0us c2 c1 (by rw [c3]; exact h.2)),c3,b3]
  have m1:max a.length r.length=64:=by rw [a1,lp,lq,lr]; rfl
  have v1:qV a 64=Z9k p*Z9k q:=by
    rw [a1,lp,lq] at a3
    have:qV a 64=qV p 32*qV q 32:=a3
    rw [this,Zn7,Zn7]
  have v2:qV r 64=Z9k r:=by rw [Z00c (l:=r) (m:=32) (by omega) 64 (by omega),Zn7]
  rw [m1,v1,v2]
def beV (l:List Int) (o:Nat):Int:=(((((((l.getD o 0*256+l.getD (o+1) 0)*256+l.getD (o+2) 0)*256+l.getD (o+3) 0)*256+l.getD (o+4) 0)*256+l.getD (o+5) 0)*256+l.getD (o+6) 0)*256+l.getD (o+7) 0)
theorem Z0vh {x b:Int} (hx:0≤x∧x<72057594037927936) (hb:0≤b∧b<256):Z4 .or .u64 (Zj .u64 x 8) b=x*256+b:=by
  have h:=Zeg .u64 (x:=x) (n:=8) (by decide)
  have e:((2^8:Nat):Int)=256:=by decide
  rw [e,Zb (by omega) (by omega)] at h
  have h2:Zj .u64 x 8=x*256:=h
  rw [h2]
  exact Zrq 8 (a:=x) rfl hx.1 hb.1 hb.2 (by omega)
theorem Zvc (y:Bool×List Int) (hy:y.2.length=8) (hb:Byt y.2):Z0l y (fun i49=>some (i49,(!y.1))) big 0 0=some (beV y.2 0,!y.1):=by
  obtain ⟨n,hn⟩ : ∃ n,big=n+1+1+1+1+1+1+1+1+1:=⟨18446744073709551607,Z19⟩
  have step : ∀ (n i:Nat) (x:Int),i<8→(0≤x∧x<72057594037927936)→Z0l y (fun i49=>some (i49,(!y.1))) (n+1) x (i:Int)=Z0l y (fun i49=>some (i49,(!y.1))) n (x*256+y.2.getD i 0) ((i+1:Nat):Int):=by
    intro n i x hi hx
    have b:=hb i
    have e1:=Z29 (i:=i) (by omega)
    rw [Z0l,Z2v,Z15 (decide_eq_true (by omega)),Zy (Z0n (by omega) (by omega))]
    simp only [Zl,e1,Int.toNat_natCast]
    rw [Zb b.1 (by omega),Z0vh hx b]
  have b0:=hb 0
  have b1:=hb 1
  have b2:=hb 2
  have b3:=hb 3
  have b4:=hb 4
  have b5:=hb 5
  have b6:=hb 6
  have b7:=hb 7
  rw [hn]
  have s0:=step (n+1+1+1+1+1+1+1+1) 0 0 (by decide) (by decide)
  have s1:=step (n+1+1+1+1+1+1+1) 1 (0*256+y.2.getD 0 0) (by decide) (by omega)
  have s2:=step (n+1+1+1+1+1+1) 2 ((0*256+y.2.getD 0 0)*256+y.2.getD 1 0) (by decide) (by omega)
  have s3:=step (n+1+1+1+1+1) 3 (((0*256+y.2.getD 0 0)*256+y.2.getD 1 0)*256+y.2.getD 2 0) (by decide) (by omega)
  have s4:=step (n+1+1+1+1) 4 ((((0*256+y.2.getD 0 0)*256+y.2.getD 1 0)*256+y.2.getD 2 0)*256+y.2.getD 3 0) (by decide) (by omega)
  have s5:=step (n+1+1+1) 5 (((((0*256+y.2.getD 0 0)*256+y.2.getD 1 0)*256+y.2.getD 2 0)*256+y.2.getD 3 0)*256+y.2.getD 4 0) (by decide) (by omega)
  have s6:=step (n+1+1) 6 ((((((0*256+y.2.getD 0 0)*256+y.2.getD 1 0)*256+y.2.getD 2 0)*256+y.2.getD 3 0)*256+y.2.getD 4 0)*256+y.2.getD 5 0) (by decide) (by omega)
  have s7:=step (n+1) 7 (((((((0*256+y.2.getD 0 0)*256+y.2.getD 1 0)*256+y.2.getD 2 0)*256+y.2.getD 3 0)*256+y.2.getD 4 0)*256+y.2.getD 5 0)*256+y.2.getD 6 0) (by decide) (by omega)
  refine s0.trans (s1.trans (s2.trans (s3.trans (s4.trans (s5.trans (s6.trans (s7.trans ?_)))))))
  rw [Z0l,Z2v,Z0x (decide_eq_false (by rw [hy]; omega))]
  unfold beV
  simp only [Nat.zero_add]
  congr 2
  omega
theorem Zxa {l:List Int} (hl:l.length=8) (hb:Byt l):Zju l=some (beV l 0):=by
  obtain ⟨n,hn⟩ : ∃ n,big=n+1+1+1+1+1+1+1+1+1:=⟨18446744073709551607,Z19⟩
  have step : ∀ (n i:Nat) (x:Int),i<8→(0≤x∧x<72057594037927936)→Z66 l some (n+1) x (i:Int)=Z66 l some n (x*256+l.getD i 0) ((i+1:Nat):Int):=by
    intro n i x hi hx
    have b:=hb i
    have e1:=Z29 (i:=i) (by omega)
    rw [Z66,Zbn,Z15 (decide_eq_true (by omega))]
    simp only [Zl,e1,Int.toNat_natCast]
    rw [Zy (Z0n (by omega) (by omega)),Zb (x:=x*256) (by omega) (by omega),Zb b.1 (by omega),Zb (by omega) (by omega)]
  have b0:=hb 0
  have b1:=hb 1
  have b2:=hb 2
  have b3:=hb 3
  have b4:=hb 4
  have b5:=hb 5
  have b6:=hb 6
  have b7:=hb 7
  rw [Zju,Z12,hn]
  have s0:=step (n+1+1+1+1+1+1+1+1) 0 0 (by decide) (by decide)
  have s1:=step (n+1+1+1+1+1+1+1) 1 (0*256+l.getD 0 0) (by decide) (by omega)
  have s2:=step (n+1+1+1+1+1+1) 2 ((0*256+l.getD 0 0)*256+l.getD 1 0) (by decide) (by omega)
  have s3:=step (n+1+1+1+1+1) 3 (((0*256+l.getD 0 0)*256+l.getD 1 0)*256+l.getD 2 0) (by decide) (by omega)
  have s4:=step (n+1+1+1+1) 4 ((((0*256+l.getD 0 0)*256+l.getD 1 0)*256+l.getD 2 0)*256+l.getD 3 0) (by decide) (by omega)
  have s5:=step (n+1+1+1) 5 (((((0*256+l.getD 0 0)*256+l.getD 1 0)*256+l.getD 2 0)*256+l.getD 3 0)*256+l.getD 4 0) (by decide) (by omega)
  have s6:=step (n+1+1) 6 ((((((0*256+l.getD 0 0)*256+l.getD 1 0)*256+l.getD 2 0)*256+l.getD 3 0)*256+l.getD 4 0)*256+l.getD 5 0) (by decide) (by omega)
  have s7:=step (n+1) 7 (((((((0*256+l.getD 0 0)*256+l.getD 1 0)*256+l.getD 2 0)*256+l.getD 3 0)*256+l.getD 4 0)*256+l.getD 5 0)*256+l.getD 6 0) (by decide) (by omega)
  refine s0.trans (s1.trans (s2.trans (s3.trans (s4.trans (s5.trans (s6.trans (s7.trans ?_)))))))
  rw [Z66,Zbn,Z0x (by decide)]
  unfold beV
  simp only [Nat.zero_add]
  congr 1
  omega
theorem Z7f (p:List Int) (o i:Nat) (hi:i<8):((p.drop o).take 8).getD i 0=p.getD (o+i) 0:=by
  simp [List.getD_eq_getElem?_getD,List.getElem?_take,hi,List.getElem?_drop]
theorem Zr3 {p:List Int} (h:Byt p) (o:Nat):Byt ((p.drop o).take 8):=by
  intro i
  by_cases hi:i<8
  · rw [Z7f p o i hi]; exact h _
  · rw [Zat (by rw [List.length_take]; omega)]; decide
theorem Zui (p:List Int) (o:Nat):beV ((p.drop o).take 8) 0=beV p o:=by
  unfold beV
  simp only [Z7f _ _ _ (show 0<8 by decide),Z7f _ _ (0+1) (by decide),Z7f _ _ (0+2) (by decide),Z7f _ _ (0+3) (by decide),Z7f _ _ (0+4) (by decide),Z7f _ _ (0+5) (by decide),Z7f _ _ (0+6) (by decide),Z7f _ _ (0+7) (by decide),Nat.zero_add,Nat.add_zero]
theorem Zzs:Z2o=some 64:=by kernel_rfl
theorem Zvb {p:List Int} (h:Byt p) (l:p.length=128) {t:Nat} (ht:t<16):Z3x p ((8*t:Nat):Int)=some (beV p (8*t),true):=by
  have e1:IntKind.wrap .i64 (Int.tdiv 64 8)=8:=by decide
  have e2:IntKind.wrap .i64 ((p.length:Int)-8)=120:=by rw [l]; decide
  have e3:IntKind.wrap .i64 (((8*t:Nat):Int)+8)=((8*t+8:Nat):Int):=by rw [Ze (by omega) (by omega)]; omega
  have hlen:((p.drop (8*t)).take (8*t+8-8*t)).length=8:=by rw [List.length_take,List.length_drop,l]; omega
  have hp:Z3m p ((8*t:Nat):Int)=some (false,(p.drop (8*t)).take (8*t+8-8*t)):=by
    rw [Z3m,Z3 Zzs]
    simp only [Zl,e1,e2]
    rw [Z0x (by simp; omega)]
    simp only [e3,Int.toNat_natCast]
    rw [Zy (by simp [Zks]; omega),Zy (decide_eq_true (by rw [hlen]; decide))]
  have e8:8*t+8-8*t=8:=by omega
  rw [Z3x,Z3 hp,Z12,e8]
  have:=Zvc (false,(p.drop (8*t)).take 8) (by rw [e8] at hlen; exact hlen) (Zr3 h _)
  refine this.trans ?_
  rw [Zui]; rfl
theorem Z0ut {p:List Int} (l:p.length=128):tk p 0 128=p:=Z96 l
def rot (x:Int) (n m:Int):Int:=Z4 .or .u64 (Zn .u64 x n) (Zj .u64 x m)
def sg0 (x:Int):Int:=Z4 .xor .u64 (Z4 .xor .u64 (rot x 1 63) (rot x 8 56)) (Zn .u64 x 7)
def sg1 (x:Int):Int:=Z4 .xor .u64 (Z4 .xor .u64 (rot x 19 45) (rot x 61 3)) (Zn .u64 x 6)
def bs1 (x:Int):Int:=Z4 .xor .u64 (Z4 .xor .u64 (rot x 14 50) (rot x 18 46)) (rot x 41 23)
def bs0 (x:Int):Int:=Z4 .xor .u64 (Z4 .xor .u64 (rot x 28 36) (rot x 34 30)) (rot x 39 25)
theorem Z0vj (x:Int):Z89 x 19 61 6=some (sg1 x):=by kernel_rfl
theorem Z0vi (x:Int):Z89 x 1 8 7=some (sg0 x):=by kernel_rfl
theorem mix1 (x:Int):Z9u x 14 18 41=some (bs1 x):=by kernel_rfl
theorem mix0 (x:Int):Z9u x 28 34 39=some (bs0 x):=by kernel_rfl
theorem Z0uk (x:Int):Zyn x=some (sg0 x):=by kernel_rfl
theorem Z0ul (x:Int):Zyo x=some (sg1 x):=by kernel_rfl
def Zmv (p l:List Int) (n:Nat):Int:=if n<16 then beV p (8*n) else IntKind.wrap .u64 (IntKind.wrap .u64 (IntKind.wrap .u64 (sg1 (l.getD (n-2) 0)+l.getD (n-7) 0)+sg0 (l.getD (n-15) 0))+l.getD (n-16) 0)
def wl (p:List Int):Nat→List Int
  | 0=>[]
  | n+1=>wl p n ++ [Zmv p (wl p n) n]
theorem Zkl (p:List Int) : ∀ n,(wl p n).length=n
  | 0=>rfl
  | n+1=>by show (wl p n ++ [_]).length=_; rw [List.length_append,Zkl p n]; rfl
theorem Z05a (p:List Int) (n j:Nat) (h:j<n):(wl p (n+1)).getD j 0=(wl p n).getD j 0:=by
  show (wl p n ++ [_]).getD j 0=_
  simp [List.getD_eq_getElem?_getD,List.getElem?_append_left (show j<(wl p n).length by rw [Zkl]; exact h)]
theorem Z05b (p:List Int) (n:Nat):(wl p (n+1)).getD n 0=Zmv p (wl p n) n:=by
  show (wl p n ++ [_]).getD n 0=_
  have:=Zkl p n
  simp [List.getD_eq_getElem?_getD,this]
theorem Z8m {i k:Nat} (h:k≤i) (hi:i<1000000):IntKind.wrap .i64 ((i:Int)-(k:Int))=((i-k:Nat):Int):=by rw [Ze (by omega) (by omega)]; omega
theorem Ztt {p:List Int} (h:Byt p) (l:p.length=128) (k:List Int→Option (List Int)) (m:Nat) : ∀ (n i:Nat) (a:List Int),i+m=80→a.length=80→(∀ j,j<i→a.getD j 0=(wl p i).getD j 0) →
    ∃ c,Z1d p k (n+1+m) (i:Int) a=k c∧c.length=80∧(∀ j,j<80→c.getD j 0=(wl p 80).getD j 0):=by
  induction m with
  | zero =>
    intro n i a hi hl hj
    have e:i=80:=by omega
    subst e
    refine ⟨a,?_,hl,hj⟩
    rw [Nat.add_zero,Z1d,Z43,Z0x (by decide)]
  | succ m ih =>
    intro n i a hi hl hj
    have e1:=Z29 (i:=i) (by omega)
    have fin : ∀ z,z=Zmv p (wl p i) i→∃ c,Z1d p k (n+1+m) ((i+1:Nat):Int) (Z21 a i z)=k c∧c.length=80∧(∀ j,j<80→c.getD j 0=(wl p 80).getD j 0):=by
      intro z hz
      refine ih n (i+1) (Z21 a i z) (by omega) (by rw [Z42 (by omega),hl]) ?_
      intro j hji
      rw [Z0s]
      by_cases hjj:j=i
      · subst hjj; rw [if_pos rfl,Z05b,hz]
      · rw [if_neg hjj,Z05a p i j (by omega)]; exact hj j (by omega)
    rw [← Nat.add_assoc,Z1d,Z43,Z15 (decide_eq_true (by omega)),Z12]
    by_cases h16:i<16
    · have e8:IntKind.wrap .i64 (8*(i:Int))=((8*i:Nat):Int):=by rw [Ze (by omega) (by omega)]; omega
      rw [Z15 (decide_eq_true (by omega)),Zl,e8,Z0ut l,Z3 (Zvb h l h16),Zy (Z0n (by omega) (by omega))]
      simp only [Zl,e1,Int.toNat_natCast]
      exact fin _ (by unfold Zmv; rw [if_pos h16])
    · have m2:IntKind.wrap .i64 ((i:Int)-2)=((i-2:Nat):Int):=Z8m (k:=2) (by omega) (by omega)
      have m7:IntKind.wrap .i64 ((i:Int)-7)=((i-7:Nat):Int):=Z8m (k:=7) (by omega) (by omega)
      have m15:IntKind.wrap .i64 ((i:Int)-15)=((i-15:Nat):Int):=Z8m (k:=15) (by omega) (by omega)
      have m16:IntKind.wrap .i64 ((i:Int)-16)=((i-16:Nat):Int):=Z8m (k:=16) (by omega) (by omega)
      rw [Z0x (decide_eq_false (by omega))]
      simp only [Zl,m2,m7,m15,m16,e1,Int.toNat_natCast]
      rw [Zy (Z0n (by omega) (by omega)),Zy (Z0n (by omega) (by omega)),Zy (Z0n (by omega) (by omega)),Zy (Z0n (by omega) (by omega)),Z3 (Z0vj _),Z3 (Z0vi _),Zy (Z0n (by omega) (by omega))]
      exact fin _ (by
        unfold Zmv
        rw [if_neg h16,hj (i-2) (by omega),hj (i-7) (by omega),hj (i-15) (by omega),hj (i-16) (by omega)])
theorem Zmq {a b:List Int} {n:Nat} (ha:a.length=n) (hb:b.length=n) (h : ∀ j,j<n→a.getD j 0=b.getD j 0):a=b:=by
  apply List.ext_getElem
  · rw [ha,hb]
  · intro i h1 h2
    rw [← Zmp h1,← Zmp h2,h i (by omega)]
theorem Zzb {p:List Int} (h:Byt p) (l:p.length=128):Z64 p=some (wl p 80):=by
  obtain ⟨n,hn⟩ : ∃ n,big=n+1+80:=⟨18446744073709551535,Z19⟩
  obtain ⟨c,ec,c1,c2⟩:=Ztt h l some 80 n 0 (List.replicate 80 0) (by omega) (by simp) (fun j hj=>by omega)
  rw [Z64,Z12,hn]
  exact ec.trans (congrArg some (Zmq c1 (Zkl p 80) c2))
theorem Zqm {p:List Int} (h:Byt p) (l:p.length=128) (k:List Int→Option (List Int)) (m:Nat) : ∀ (n i:Nat),i+m=16→Z4s p k (n+1+m) (wl p i) (i:Int)=k (wl p 16):=by
  induction m with
  | zero =>
    intro n i hi
    have e:i=16:=by omega
    subst e
    rw [Nat.add_zero,Z4s,Za7,Z0x (by decide)]
  | succ m ih =>
    intro n i hi
    have e1:=Z29 (i:=i) (by omega)
    have e8:IntKind.wrap .i64 (8*(i:Int))=((8*i:Nat):Int):=by rw [Ze (by omega) (by omega)]; omega
    have e9:IntKind.wrap .i64 (((8*i:Nat):Int)+8)=((8*i+8:Nat):Int):=by rw [Ze (by omega) (by omega)]; omega
    have e10:8*i+8-8*i=8:=by omega
    have hlen:((p.drop (8*i)).take 8).length=8:=by rw [List.length_take,List.length_drop,l]; omega
    have hw:=Zkl p i
    rw [← Nat.add_assoc,Z4s,Za7,Z15 (decide_eq_true (by omega))]
    simp only [Zl,e8,e9,e1,Int.toNat_natCast,e10]
    rw [Zy (by simp [Zks]; omega),Z3 (Zxa hlen (Zr3 h _)),Zy (decide_eq_true (by simp only [List.length_singleton]; omega)),Zui]
    have e:wl p i ++ [beV p (8*i)]=wl p (i+1):=by
      show _=wl p i ++ [Zmv p (wl p i) i]
      unfold Zmv
      rw [if_pos (by omega)]
    rw [e]
    exact ih n (i+1) (by omega)
theorem Zqn {p:List Int} (k:List Int→Option (List Int)) (m:Nat) : ∀ (n i:Nat),i+m=80→16≤i→Z4t k (n+1+m) (wl p i) (i:Int)=k (wl p 80):=by
  induction m with
  | zero =>
    intro n i hi h16
    have e:i=80:=by omega
    subst e
    rw [Nat.add_zero,Z4t,Za8,Z0x (by decide)]
  | succ m ih =>
    intro n i hi h16
    have e1:=Z29 (i:=i) (by omega)
    have hw:=Zkl p i
    have m2:IntKind.wrap .i64 ((i:Int)-2)=((i-2:Nat):Int):=Z8m (k:=2) (by omega) (by omega)
    have m7:IntKind.wrap .i64 ((i:Int)-7)=((i-7:Nat):Int):=Z8m (k:=7) (by omega) (by omega)
    have m15:IntKind.wrap .i64 ((i:Int)-15)=((i-15:Nat):Int):=Z8m (k:=15) (by omega) (by omega)
    have m16:IntKind.wrap .i64 ((i:Int)-16)=((i-16:Nat):Int):=Z8m (k:=16) (by omega) (by omega)
    rw [← Nat.add_assoc,Z4t,Za8,Z15 (decide_eq_true (by omega))]
    simp only [Zl,m2,m7,m15,m16,e1,Int.toNat_natCast]
    rw [Zy (Z0n (by omega) (by omega)),Zy (Z0n (by omega) (by omega)),Zy (Z0n (by omega) (by omega)),Zy (Z0n (by omega) (by omega)),Z3 (Z0ul _),Z3 (Z0uk _),Zy (decide_eq_true (by simp only [List.length_singleton]; omega))]
    have e:wl p i ++ [IntKind.wrap .u64 (IntKind.wrap .u64 (IntKind.wrap .u64 (sg1 ((wl p i).getD (i-2) 0)+(wl p i).getD (i-7) 0)+sg0 ((wl p i).getD (i-15) 0))+(wl p i).getD (i-16) 0)]=wl p (i+1):=by
      show _=wl p i ++ [Zmv p (wl p i) i]
      unfold Zmv
      rw [if_neg (by omega)]
    rw [e]
    exact ih n (i+1) (by omega) (by omega)
theorem Zxb {p:List Int} (k:List Int→Option (List Int)):Z4t k big (wl p 16) 16=k (wl p 80):=by
  obtain ⟨n,hn⟩ : ∃ n,big=n+1+64:=⟨18446744073709551551,Z19⟩
  rw [hn]
  exact Zqn k 64 n 16 (by omega) (by omega)
theorem Zwr {p:List Int} (h:Byt p) (l:p.length=128):Zge p=some (wl p 80):=by
  have key : ∀ k:List Int→Option (List Int),Z4s p k big [] 0=k (wl p 16):=by
    intro k
    obtain ⟨n,hn⟩ : ∃ n,big=n+1+16:=⟨18446744073709551599,Z19⟩
    rw [hn]
    exact Zqm h l k 16 n 0 (by omega)
  rw [Zge,Z12,key,Z12,Zxb]
def rnd (s:List Int) (k w:Int):List Int :=
  let x:=IntKind.wrap .u64 (IntKind.wrap .u64 (IntKind.wrap .u64 (IntKind.wrap .u64 (s.getD 7 0+bs1 (s.getD 4 0))+Z4 .xor .u64 (Z4 .and .u64 (s.getD 4 0) (s.getD 5 0)) (Z4 .and .u64 (Z4 .xor .u64 18446744073709551615 (s.getD 4 0)) (s.getD 6 0)))+k)+w)
  let y:=IntKind.wrap .u64 (bs0 (s.getD 0 0)+Z4 .xor .u64 (Z4 .xor .u64 (Z4 .and .u64 (s.getD 0 0) (s.getD 1 0)) (Z4 .and .u64 (s.getD 0 0) (s.getD 2 0))) (Z4 .and .u64 (s.getD 1 0) (s.getD 2 0)))
  [IntKind.wrap .u64 (x+y),s.getD 0 0,s.getD 1 0,s.getD 2 0,IntKind.wrap .u64 (s.getD 3 0+x),s.getD 4 0,s.getD 5 0,s.getD 6 0]
def Zff (w s:List Int):Nat→List Int
  | 0=>s
  | n+1=>rnd (Zff w s n) (G_table.getD n 0) (w.getD n 0)
theorem Zwm (s:List Int) (k w:Int):Zir s k w=some (rnd s k w):=by kernel_rfl
theorem Zx4:G_rtable=G_table:=by kernel_rfl
theorem Zv1:G_rfirst=G_first:=by kernel_rfl
theorem Z0um {w:List Int} (hw:w.length=80) (s:List Int) (k:List Int→Option (List Int)) (m:Nat) : ∀ (n i:Nat),i+m=80→Z65 w k (n+1+m) (i:Int) (Zff w s i)=k (Zff w s 80):=by
  induction m with
  | zero =>
    intro n i hi
    have e:i=80:=by omega
    subst e
    rw [Nat.add_zero,Z65,Zbl,Z0x (by decide)]
  | succ m ih =>
    intro n i hi
    have e1:=Z29 (i:=i) (by omega)
    rw [← Nat.add_assoc,Z65,Zbl,Z15 (decide_eq_true (by omega)),Zy (Z0n (by omega) (by omega)),Zy (Z0n (by omega) (by omega))]
    simp only [Zl,e1,Int.toNat_natCast]
    rw [Z3 (Zwm _ _ _),Zx4]
    exact ih n (i+1) (by omega)
theorem Z0bx {w:List Int} (s:List Int) (k:Int→Int→Int→Int→Int→Int→Int→Int→Option (List Int)) (m:Nat) : ∀ (n i:Nat),i+m=80 →
    Z2g w k (n+1+m) ((Zff w s i).getD 0 0) ((Zff w s i).getD 1 0) ((Zff w s i).getD 2 0) ((Zff w s i).getD 3 0) ((Zff w s i).getD 4 0) ((Zff w s i).getD 5 0) ((Zff w s i).getD 6 0) ((Zff w s i).getD 7 0) (i:Int) =
    k ((Zff w s 80).getD 0 0) ((Zff w s 80).getD 1 0) ((Zff w s 80).getD 2 0) ((Zff w s 80).getD 3 0) ((Zff w s 80).getD 4 0) ((Zff w s 80).getD 5 0) ((Zff w s 80).getD 6 0) ((Zff w s 80).getD 7 0):=by
  induction m with
  | zero =>
    intro n i hi
    have e:i=80:=by omega
    subst e
    rw [Nat.add_zero,Z2g,Z63,Z0x (by decide)]
  | succ m ih =>
    intro n i hi
    have e1:=Z29 (i:=i) (by omega)
    rw [← Nat.add_assoc,Z2g,Z63,Z15 (decide_eq_true (by omega)),Zy (Z0n (by omega) (by omega))]
    simp only [Zl,e1,Int.toNat_natCast]
    rw [Z3 (mix1 _),Zy (Z0n (by omega) (by omega)),Z3 (mix0 _)]
    exact ih n (i+1) (by omega)
def blk (s p:List Int):List Int :=
  let v:=Zff (wl p 80) s 80
  [IntKind.wrap .u64 (v.getD 0 0+s.getD 0 0),IntKind.wrap .u64 (v.getD 1 0+s.getD 1 0),IntKind.wrap .u64 (v.getD 2 0+s.getD 2 0),IntKind.wrap .u64 (v.getD 3 0+s.getD 3 0),IntKind.wrap .u64 (v.getD 4 0+s.getD 4 0),IntKind.wrap .u64 (v.getD 5 0+s.getD 5 0),IntKind.wrap .u64 (v.getD 6 0+s.getD 6 0),IntKind.wrap .u64 (v.getD 7 0+s.getD 7 0)]
theorem Zyi (k:List Int→Option (List Int)) (v s0 s1 s2 s3 s4 s5 s6 s7:Int) (a0 a1 a2 a3 a4 a5 a6 a7:Int):Z4j [a0,a1,a2,a3,a4,a5,a6,a7] k big 0 [s0,s1,s2,s3,s4,s5,s6,s7]=k [IntKind.wrap .u64 (s0+a0),IntKind.wrap .u64 (s1+a1),IntKind.wrap .u64 (s2+a2),IntKind.wrap .u64 (s3+a3),IntKind.wrap .u64 (s4+a4),IntKind.wrap .u64 (s5+a5),IntKind.wrap .u64 (s6+a6),IntKind.wrap .u64 (s7+a7)]:=by kernel_rfl
theorem Zw5 (k:List Int→Option (List Int)) (s:List Int) (a0 a1 a2 a3 a4 a5 a6 a7:Int):Z9m s k big 0 [a0,a1,a2,a3,a4,a5,a6,a7]=k [IntKind.wrap .u64 (a0+s.getD 0 0),IntKind.wrap .u64 (a1+s.getD 1 0),IntKind.wrap .u64 (a2+s.getD 2 0),IntKind.wrap .u64 (a3+s.getD 3 0),IntKind.wrap .u64 (a4+s.getD 4 0),IntKind.wrap .u64 (a5+s.getD 5 0),IntKind.wrap .u64 (a6+s.getD 6 0),IntKind.wrap .u64 (a7+s.getD 7 0)]:=by kernel_rfl
theorem Zlk {l:List Int} (h:l.length=8):l = [l.getD 0 0,l.getD 1 0,l.getD 2 0,l.getD 3 0,l.getD 4 0,l.getD 5 0,l.getD 6 0,l.getD 7 0]:=by
  match l,h with
  | [a0,a1,a2,a3,a4,a5,a6,a7],_=>rfl
theorem Zz3 (w s:List Int) (hs:s.length=8) : ∀ n,(Zff w s n).length=8
  | 0=>hs
  | n+1=>rfl
theorem Zxr {s p:List Int} (hs:s.length=8) (h:Byt p) (l:p.length=128):Z92 s p=some (blk s p):=by
  have key : ∀ k,Z2g (wl p 80) k big (s.getD 0 0) (s.getD 1 0) (s.getD 2 0) (s.getD 3 0) (s.getD 4 0) (s.getD 5 0) (s.getD 6 0) (s.getD 7 0) 0=k ((Zff (wl p 80) s 80).getD 0 0) ((Zff (wl p 80) s 80).getD 1 0) ((Zff (wl p 80) s 80).getD 2 0) ((Zff (wl p 80) s 80).getD 3 0) ((Zff (wl p 80) s 80).getD 4 0) ((Zff (wl p 80) s 80).getD 5 0) ((Zff (wl p 80) s 80).getD 6 0) ((Zff (wl p 80) s 80).getD 7 0):=by
    intro k
    obtain ⟨n,hn⟩ : ∃ n,big=n+1+80:=⟨18446744073709551535,Z19⟩
    rw [hn]
    exact Z0bx s k 80 n 0 (by omega)
  rw [Z92,Z3 (Zzb h l)]
  simp only [Zl,Z12]
  rw [key]
  unfold blk
  dsimp only
  generalize Zff (wl p 80) s 80=v at *
  have e:=Zyi some 0 (s.getD 0 0) (s.getD 1 0) (s.getD 2 0) (s.getD 3 0) (s.getD 4 0) (s.getD 5 0) (s.getD 6 0) (s.getD 7 0) (v.getD 0 0) (v.getD 1 0) (v.getD 2 0) (v.getD 3 0) (v.getD 4 0) (v.getD 5 0) (v.getD 6 0) (v.getD 7 0)
  rw [← Zlk hs] at e
  refine e.trans ?_
  rw [Int.add_comm (s.getD 0 0),Int.add_comm (s.getD 1 0),Int.add_comm (s.getD 2 0),Int.add_comm (s.getD 3 0),Int.add_comm (s.getD 4 0),Int.add_comm (s.getD 5 0),Int.add_comm (s.getD 6 0),Int.add_comm (s.getD 7 0)]
theorem Z053 {s p:List Int} (hs:s.length=8) (h:Byt p) (l:p.length=128):Zjt s p=some (blk s p):=by
  have key : ∀ k,Z65 (wl p 80) k big 0 s=k (Zff (wl p 80) s 80):=by
    intro k
    obtain ⟨n,hn⟩ : ∃ n,big=n+1+80:=⟨18446744073709551535,Z19⟩
    rw [hn]
    exact Z0um (Zkl p 80) s k 80 n 0 (by omega)
  have hv:=Zz3 (wl p 80) s hs 80
  rw [Zjt,Z3 (Zwr h l)]
  simp only [Z12]
  rw [key]
  unfold blk
  dsimp only
  generalize Zff (wl p 80) s 80=v at *
  have e:=Zw5 some s (v.getD 0 0) (v.getD 1 0) (v.getD 2 0) (v.getD 3 0) (v.getD 4 0) (v.getD 5 0) (v.getD 6 0) (v.getD 7 0)
  rw [← Zlk hv] at e
  exact e
theorem Zj2 {M x:List Int} {i:Nat} (h:i<M.length):(M++x).getD i 0=M.getD i 0:=by simp [List.getD_eq_getElem?_getD,List.getElem?_append_left h]
theorem Zno {M x:List Int} {i:Nat} (h:M.length≤i):(M++x).getD i 0=x.getD (i-M.length) 0:=by simp [List.getD_eq_getElem?_getD,List.getElem?_append_right h]
theorem Zb0 {M x:List Int} (h:Byt M) (hx:Byt x):Byt (M++x):=by
  intro i
  by_cases hi:i<M.length
  · rw [Zj2 hi]; exact h i
  · rw [Zno (by omega)]; exact hx _
theorem Zpf {l:List Int} {q i:Nat} (h:i<q):(l.take q).getD i 0=l.getD i 0:=by simp [List.getD_eq_getElem?_getD,List.getElem?_take,h]
theorem Znv {l:List Int} {q i:Nat}:(l.drop q).getD i 0=l.getD (q+i) 0:=by simp [List.getD_eq_getElem?_getD,List.getElem?_drop]
theorem Zmd {l:List Int} (h:Byt l) (q:Nat):Byt (l.take q):=by
  intro i
  by_cases hi:i<q
  · rw [Zpf hi]; exact h i
  · rw [Zat (by rw [List.length_take]; omega)]; decide
theorem Zma {l:List Int} (h:Byt l) (q:Nat):Byt (l.drop q):=by
  intro i
  rw [Znv]; exact h _
def bk (M:List Int) (n:Nat):List Int:=(M.drop (128*n)).take 128
theorem Zqx {M:List Int} {n:Nat} (h:128*n+128≤M.length):(bk M n).length=128:=by unfold bk; rw [List.length_take,List.length_drop]; omega
theorem Zpp {M:List Int} {n i:Nat} (hi:i<128):(bk M n).getD i 0=M.getD (128*n+i) 0:=by unfold bk; rw [Zpf hi,Znv]
theorem Z05q {M:List Int} (h:Byt M) (n:Nat):Byt (bk M n):=Zmd (Zma h _) _
theorem Z05p {M x:List Int} {n:Nat} (h:128*n+128≤M.length):bk (M++x) n=bk M n :=
  Zmq (n:=128) (Zqx (by rw [List.length_append]; omega)) (Zqx h) (fun j hj=>by rw [Zpp hj,Zpp hj,Zj2 (by omega)])
def fbn (M:List Int):Nat→List Int
  | 0=>G_first
  | n+1=>blk (fbn M n) (bk M n)
theorem Zuy (M:List Int) : ∀ n,(fbn M n).length=8
  | 0=>by show G_first.length=8; decide
  | n+1=>rfl
theorem Zpu {M x:List Int} : ∀ n,128*n≤M.length→fbn (M++x) n=fbn M n
  | 0,_=>rfl
  | n+1,h=>by
    show blk (fbn (M++x) n) (bk (M++x) n)=blk (fbn M n) (bk M n)
    rw [Zpu n (by omega),Z05p (by omega)]
structure Dst (M:List Int) (a h:List Int) (c:Int):Prop where
  st:a=fbn M (M.length / 128)
  hv:c=((M.length%128:Nat):Int)
  hl:h.length=128
  hd : ∀ i,i<M.length%128→h.getD i 0=M.getD (128*(M.length / 128)+i) 0
  hb:Byt h
theorem Z0v0 {xs ys:List Int} {i:Nat} (h:i+ys.length≤xs.length):(wr xs i ys).length=xs.length:=by
  unfold wr
  rw [List.length_append,List.length_append,Z0m,List.length_drop]; omega
theorem Z0uz {xs ys:List Int} {i:Nat} (hx:Byt xs) (hy:Byt ys):Byt (wr xs i ys):=by
  intro j
  rw [Zni]
  split
  · exact hy _
  · exact hx _
theorem Zxe (z:Int) (m:Nat) : ∀ (l a h:List Int) (c:Int) (M:List Int),l.length≤m→Byt l→Byt M→Dst M a h c→∀ n,∃ r,Z0r z (n+1+m) l a h c=some r∧r.glength=z∧Dst (M++l) r.gstate r.gheld r.ghave:=by
  induction m with
  | zero =>
    intro l a h c M hl hbl hbM hD n
    have e:l = []:=List.length_eq_zero_iff.1 (by omega)
    subst e
    refine ⟨⟨a,h,c,z⟩,?_,rfl,by rw [List.append_nil]; exact hD⟩
    rw [Nat.add_zero,Z0r,Z1z,Z0x (decide_eq_false (by simp))]
  | succ m ih =>
    intro l a h c M hl hbl hbM hD n
    by_cases he:l.length=0
    · have e:l = []:=List.length_eq_zero_iff.1 he
      subst e
      refine ⟨⟨a,h,c,z⟩,?_,rfl,by rw [List.append_nil]; exact hD⟩
      rw [← Nat.add_assoc,Z0r,Z1z,Z0x (decide_eq_false (by simp))]
    · have hr:=Nat.mod_lt M.length (show 0<128 by decide)
      have hdm:=Nat.div_add_mod M.length 128
      have hc:=hD.hv
      have hcn:c.toNat=M.length%128:=by rw [hc,Int.toNat_natCast]
      obtain ⟨q,hq⟩ : ∃ q,q=Nat.min l.length (128-c.toNat):=⟨_,rfl⟩
      have hq1:0<q∧q≤l.length∧q≤128-M.length%128∧(q=l.length∨q=128-M.length%128):=by
        rw [hq,hcn]
        show 0<min l.length (128-M.length%128)∧min l.length (128-M.length%128)≤l.length∧min l.length (128-M.length%128)≤128-M.length%128∧(min l.length (128-M.length%128)=l.length∨min l.length (128-M.length%128)=128-M.length%128)
        omega
      have htake:l.take (128-c.toNat)=l.take q:=by
        rw [hq]
        rcases Nat.le_total l.length (128-c.toNat) with h1 | h1
        · rw [List.take_of_length_le h1,List.take_of_length_le (by show l.length≤min l.length (128-c.toNat); omega)]
        · congr 1; show _=min l.length (128-c.toNat); omega
      have hrest:(l.drop ((q:Int)).toNat).take (((l.length:Int)).toNat-((q:Int)).toNat)=l.drop q:=by
        rw [Int.toNat_natCast,Int.toNat_natCast,List.take_of_length_le (by rw [List.length_drop]; omega)]
      have hM:M++l=(M++l.take q)++l.drop q:=by rw [List.append_assoc,List.take_append_drop]
      have hlq:(l.take q).length=q:=by rw [List.length_take]; omega
      have hl1:(M++l.take q).length=M.length+q:=by rw [List.length_append,hlq]
      have hwl:(wr h c.toNat (l.take q)).length=128:=by rw [Z0v0 (by rw [hlq,hD.hl,hcn]; omega),hD.hl]
      have hwb:Byt (wr h c.toNat (l.take q)):=Z0uz hD.hb (Zmd hbl _)
      have hwd : ∀ i,i<M.length%128+q→(wr h c.toNat (l.take q)).getD i 0=(M++l.take q).getD (128*(M.length / 128)+i) 0:=by
        intro i hi
        rw [Zni,hlq,hcn]
        by_cases h1:M.length%128≤i∧i<M.length%128+q
        · rw [if_pos h1,Zno (by omega)]
          congr 1; omega
        · rw [if_neg h1,hD.hd i (by omega),Zj2 (by omega)]
      have ew:IntKind.wrap .i64 (c+(q:Int))=c+(q:Int):=Ze (by omega) (by omega)
      have hbM1:Byt (M++l.take q):=Zb0 hbM (Zmd hbl _)
      rw [← Nat.add_assoc,Z0r,Z1z,Z15 (decide_eq_true (by omega)),Zy (by simp [Zks]; omega),Zl,← hq,Zy (by simp [Zks]; omega),Zl,ew,htake,hrest]
      by_cases h128:c+(q:Int)=128
      · have hblock:wr h c.toNat (l.take q)=bk (M++l.take q) (M.length / 128) :=
          Zmq hwl (Zqx (by rw [hl1]; omega)) (fun j hj=>by rw [hwd j (by omega),Zpp hj])
        have ha8:a.length=8:=by rw [hD.st]; exact Zuy _ _
        rw [Z15 (by simpa using h128),Z3 (Zxr ha8 hwb hwl)]
        have hdiv:(M.length+q) / 128=M.length / 128+1:=by omega
        have hmod:(M.length+q)%128=0:=by omega
        have hD2:Dst (M++l.take q) (blk a (wr h c.toNat (l.take q))) (wr h c.toNat (l.take q)) 0:=by
          refine ⟨?_,?_,hwl,?_,hwb⟩
          · rw [hl1,hdiv,hblock,hD.st]
            show _=blk (fbn (M++l.take q) (M.length / 128)) _
            rw [Zpu _ (by omega)]
          · rw [hl1,hmod]; rfl
          · intro i hi
            rw [hl1,hmod] at hi
            omega
        obtain ⟨r,er,h1,h2⟩:=ih (l.drop q) _ _ 0 (M++l.take q) (by rw [List.length_drop]; omega) (Zma hbl _) hbM1 hD2 n
        exact ⟨r,er,h1,by rw [hM]; exact h2⟩
      · rw [Z0x (by simpa using h128)]
        have hdiv:(M.length+q) / 128=M.length / 128:=by omega
        have hmod:(M.length+q)%128=M.length%128+q:=by omega
        have hD2:Dst (M++l.take q) a (wr h c.toNat (l.take q)) (c+(q:Int)):=by
          refine ⟨?_,?_,hwl,?_,hwb⟩
          · rw [hl1,hdiv,Zpu _ (by omega)]; exact hD.st
          · rw [hl1,hmod,hc]; omega
          · intro i hi
            rw [hl1,hmod] at hi
            rw [hl1,hdiv]
            exact hwd i hi
        obtain ⟨r,er,h1,h2⟩:=ih (l.drop q) _ _ _ (M++l.take q) (by rw [List.length_drop]; omega) (Zma hbl _) hbM1 hD2 n
        exact ⟨r,er,h1,by rw [hM]; exact h2⟩
theorem Zkn {d:Zs} {M l:List Int} (hl:l.length<18446744073709551615) (hbl:Byt l) (hbM:Byt M) (hD:Dst M d.gstate d.gheld d.ghave) : ∃ r,Z18 d l=some r∧r.glength=IntKind.wrap .u64 (d.glength+IntKind.wrap .u64 (l.length:Int))∧Dst (M++l) r.gstate r.gheld r.ghave:=by
  obtain ⟨n,hn⟩ : ∃ n',big=n'+1+l.length:=⟨18446744073709551615-l.length,by have:big=18446744073709551616:=Z19; omega⟩
  rw [Z18,Zl,Zl,hn]
  exact Zxe _ l.length l d.gstate d.gheld d.ghave M (Nat.le_refl _) hbl hbM hD n
theorem Dst.start:Dst [] G_first (List.replicate 128 0) 0:=⟨rfl,rfl,by simp,fun i hi=>by simp at hi,Zmb _⟩
def Zgb (x:Int):Nat:=((128-(x+17)%128)%128).toNat
def Zxj (x:Int):List Int:=(([128]++List.replicate (Zgb x) 0)++be8 (Zn .u64 x 61))++be8 (Zj .u64 x 3)
theorem Zj3 (x:Int):(be8 x).length=8:=rfl
theorem Zmw (x:Int):(Zxj x).length=17+Zgb x:=by
  unfold Zxj
  simp [Zj3]
  omega
theorem Zug (x:Int):Byt (be8 x):=byt_of (Zuh x)
theorem Zrs (x:Int):Byt (Zxj x):=Zb0 (Zb0 (Zb0 (byt_of (by decide)) (Zmb _)) (Zug _)) (Zug _)
theorem Z02m {x:Int} (h0:0≤x) (h1:x<18446744073709551616):Z9t x=some (Zxj x):=by
  have hz:IntKind.wrap .u64 (x+17)%128=(x+17)%128:=by rw [Zcu]; omega
  have hz3:=Z059 (x+17)
  have et:Int.tmod (IntKind.wrap .u64 (x+17)) 128=(x+17)%128:=by rw [Int.tmod_eq_emod_of_nonneg hz3.1,hz]
  have ew:IntKind.wrap .i64 ((x+17)%128)=(x+17)%128:=Ze (by omega) (by omega)
  have ew2:IntKind.wrap .i64 (128-(x+17)%128)=128-(x+17)%128:=Ze (by omega) (by omega)
  have et2:Int.tmod (128-(x+17)%128) 128=(128-(x+17)%128)%128:=Int.tmod_eq_emod_of_nonneg (by omega)
  have ew3:IntKind.wrap .i64 (17+(128-(x+17)%128)%128)=17+(128-(x+17)%128)%128:=Ze (by omega) (by omega)
  simp only [Z9t,Zl,et,ew,ew2,et2,ew3]
  have hp:((128-(x+17)%128)%128).toNat=Zgb x:=rfl
  rw [hp]
  have hpz:Zgb x<128:=by unfold Zgb; omega
  rw [Zy (by unfold mkB; simp only [Bool.and_eq_true,decide_eq_true_eq]; omega),Zy (by simp),Zy (by simp; omega),Zy (by simp; omega),Z3 (Zm5 _),Zy (by simp [Zj3]; omega),Z3 (Zm5 _),Zy (by simp [Zj3]; omega)]
  rfl
theorem Z0un (x:Int):Zfn x=some [IntKind.wrap .u8 (Zn .u64 x 56),IntKind.wrap .u8 (Zn .u64 x 48),IntKind.wrap .u8 (Zn .u64 x 40),IntKind.wrap .u8 (Zn .u64 x 32),IntKind.wrap .u8 (Zn .u64 x 24),IntKind.wrap .u8 (Zn .u64 x 16),IntKind.wrap .u8 (Zn .u64 x 8),IntKind.wrap .u8 (Zn .u64 x 0)]:=by kernel_rfl
theorem shrl (x:Int) (n:Nat) (h:n≤64):Zn .u64 x (n:Int)=x / ((2^n:Nat):Int):=Z93 .u64 h
theorem Znf (x:Int):Zfn x=some (be8 x):=by
  rw [Z0un]
  have e56:Zn .u64 x 56=x / 72057594037927936:=shrl x 56 (by decide)
  have e48:Zn .u64 x 48=x / 281474976710656:=shrl x 48 (by decide)
  have e40:Zn .u64 x 40=x / 1099511627776:=shrl x 40 (by decide)
  have e32:Zn .u64 x 32=x / 4294967296:=shrl x 32 (by decide)
  have e24:Zn .u64 x 24=x / 16777216:=shrl x 24 (by decide)
  have e16:Zn .u64 x 16=x / 65536:=shrl x 16 (by decide)
  have e0:Zn .u64 x 0=x:=by
    have:Zn .u64 x 0=x / 1:=shrl x 0 (by decide)
    rw [this,Int.ediv_one]
  unfold be8
  simp only [Z1w,e56,e48,e40,e32,e24,e16,e0]
  congr 1
  simp only [List.cons.injEq,and_true,true_and]
  refine ⟨?_,?_,?_,?_,?_,?_⟩ <;> (congr 1; omega)
theorem Zwi (x:Int) (k:List Int→Option (List Int)) (hx:0≤x) (m:Nat) : ∀ (n t:Nat),t+m=Zgb x→Z8q (x%128) k (n+1+m) ([128]++List.replicate t 0)=k ([128]++List.replicate (Zgb x) 0):=by
  have hz:Zgb x<128:=by unfold Zgb; omega
  induction m with
  | zero =>
    intro n t ht
    have e:t=Zgb x:=by omega
    subst e
    have el:((([128]++List.replicate (Zgb x) 0:List Int).length:Nat):Int)=1+(Zgb x:Int):=by simp; omega
    have w1:IntKind.wrap .i64 (x%128+(1+(Zgb x:Int)))=x%128+(1+(Zgb x:Int)):=Ze (by omega) (by omega)
    have w2:IntKind.wrap .i64 (x%128+(1+(Zgb x:Int))+16)=x%128+(1+(Zgb x:Int))+16:=Ze (by omega) (by omega)
    have w3:Int.tmod (x%128+(1+(Zgb x:Int))+16) 128=0:=by
      rw [Int.tmod_eq_emod_of_nonneg (by omega)]
      unfold Zgb
      omega
    rw [Nat.add_zero,Z8q,Zdp]
    simp only [Zl,el,w1,w2,w3]
    rw [Z0x (by decide)]
  | succ m ih =>
    intro n t ht
    have el:((([128]++List.replicate t 0:List Int).length:Nat):Int)=1+(t:Int):=by simp; omega
    have w1:IntKind.wrap .i64 (x%128+(1+(t:Int)))=x%128+(1+(t:Int)):=Ze (by omega) (by omega)
    have w2:IntKind.wrap .i64 (x%128+(1+(t:Int))+16)=x%128+(1+(t:Int))+16:=Ze (by omega) (by omega)
    have w3:Int.tmod (x%128+(1+(t:Int))+16) 128≠0:=by
      rw [Int.tmod_eq_emod_of_nonneg (by omega)]
      unfold Zgb at ht
      omega
    have ea:([128]++List.replicate t 0:List Int) ++ [0] = [128]++List.replicate (t+1) 0:=by
      rw [List.append_assoc,List.replicate_succ']
    rw [← Nat.add_assoc,Z8q,Zdp]
    simp only [Zl,el,w1,w2]
    rw [Z15 (by simpa using w3),Zy (by simp; omega),ea]
    exact ih n (t+1) (by omega)
theorem Zz6 {x:Int} (h0:0≤x) (h1:x<18446744073709551616):Zog x=some (Zxj x):=by
  have hz:Zgb x<128:=by unfold Zgb; omega
  obtain ⟨n,hn⟩ : ∃ n',big=n'+1+Zgb x:=⟨18446744073709551615-Zgb x,by have:big=18446744073709551616:=Z19; omega⟩
  have e1:Int.tmod x 128=x%128:=Int.tmod_eq_emod_of_nonneg h0
  have e2:IntKind.wrap .i64 (x%128)=x%128:=Ze (by omega) (by omega)
  have e3:IntKind.wrap .u64 (Int.tdiv x 2305843009213693952)=Zn .u64 x 61:=by
    have:Zn .u64 x 61=x / 2305843009213693952:=shrl x 61 (by decide)
    rw [this,Int.tdiv_eq_ediv_of_nonneg h0,Zb (by omega) (by omega)]
  have e4:IntKind.wrap .u64 (x*8)=Zj .u64 x 3:=(Zeg .u64 (x:=x) (n:=3) (by decide)).symm
  rw [Zog]
  simp only [Zl,e1,e2,e3,e4,Z12]
  rw [hn]
  refine (Zwi x _ h0 (Zgb x) n 0 (by omega)).trans ?_
  rw [Z3 (Znf _),Zy (by simp [Zj3]; omega),Z3 (Znf _),Zy (by simp [Zj3]; omega)]
  rfl
def Zf5 (M:List Int):List Int:=M++Zxj (M.length:Int)
def Zg4 (M:List Int):List Int:=told (fbn (Zf5 M) ((Zf5 M).length / 128))
theorem Zx9 (M:List Int):(Zf5 M).length%128=0:=by
  unfold Zf5 Zxj
  rw [List.length_append]
  have:=Zmw (M.length:Int)
  unfold Zxj at this
  rw [this]
  unfold Zgb
  omega
theorem Zdi (M:List Int):Byt (Zg4 M):=Zzo _
theorem Zv2 (M:List Int):(Zg4 M).length=64:=rfl
theorem Zx3 {d:Zs} {M:List Int} (hM:M.length<9223372036854775808) (hb:Byt M) (hD:Dst M d.gstate d.gheld d.ghave) (hl:d.glength=(M.length:Int)):Z2q d=some (Zg4 M,d):=by
  obtain ⟨r,er,_,hr⟩:=Zkn (d:=d) (l:=Zxj d.glength) (by rw [Zmw]; unfold Zgb; omega) (Zrs _) hb hD
  rw [Z2q,Z4x,Z3 rfl]
  show opt (Z9t d.glength) _=_
  rw [Z3 (Z02m (by omega) (by omega))]
  show opt (Z18 d (Zxj d.glength)) _=_
  rw [Z3 er,Z12,Zzj]
  have e:r.gstate=fbn (Zf5 M) ((Zf5 M).length / 128):=by
    have:=hr.st
    rw [hl] at this
    exact this
  rw [e]
  rfl
theorem Z00r {M:List Int} (hM:M.length<9223372036854775808) (hb:Byt M):Zc9 M=some (Zg4 M):=by
  obtain ⟨r,er,el,hr⟩:=Zkn (d:=⟨G_first,List.replicate 128 0,0,0⟩) (l:=M) (by omega) hb Zfh Dst.start
  have e1:r.glength=(M.length:Int):=by
    rw [el]
    show IntKind.wrap .u64 (0+IntKind.wrap .u64 (M.length:Int))=_
    rw [Int.zero_add,Zb (x:=(M.length:Int)) (by omega) (by omega),Zb (by omega) (by omega)]
  rw [Zc9,Z9s,Z3 rfl]
  show opt (Z18 ⟨G_first,List.replicate 128 0,0,0⟩ M) _=_
  rw [Z3 er,Z3 (Zx3 hM hb hr e1)]
theorem Zwn {L:List Int} (hb:Byt L) (h128:L.length%128=0) (hL:L.length<9223372036854775000) (k:List Int→Option (List Int)) (m:Nat) : ∀ (n j:Nat),128*(j+m)=L.length→Z6f L k (n+1+m) ((128*j:Nat):Int) (fbn L j)=k (fbn L (L.length / 128)):=by
  induction m with
  | zero =>
    intro n j hj
    have e:j=L.length / 128:=by omega
    rw [Nat.add_zero,Z6f,Zdq,Z0x (decide_eq_false (by omega)),← e]
  | succ m ih =>
    intro n j hj
    have e1:IntKind.wrap .i64 (((128*j:Nat):Int)+128)=((128*(j+1):Nat):Int):=by rw [Ze (by omega) (by omega)]; omega
    have e2:128*(j+1)-128*j=128:=by omega
    rw [← Nat.add_assoc,Z6f,Zdq,Z15 (decide_eq_true (by omega))]
    simp only [Zl,e1,Int.toNat_natCast,e2]
    have hbk:(L.drop (128*j)).take 128=bk L j:=rfl
    rw [Zy (by simp [Zks]; omega),hbk,Z3 (Z053 (Zuy L j) (Z05q hb j) (Zqx (by omega)))]
    exact ih n (j+1) (by omega)
def Znh (x:Int):List Int:=[IntKind.wrap .u8 (Zn .u64 x 56),IntKind.wrap .u8 (Zn .u64 x 48),IntKind.wrap .u8 (Zn .u64 x 40),IntKind.wrap .u8 (Zn .u64 x 32),IntKind.wrap .u8 (Zn .u64 x 24),IntKind.wrap .u8 (Zn .u64 x 16),IntKind.wrap .u8 (Zn .u64 x 8),IntKind.wrap .u8 (Zn .u64 x 0)]
theorem Zzn (x:Int):Znh x=be8 x:=by
  have h:=Znf x
  rw [Z0un] at h
  exact Option.some.inj h
theorem Zwp (a:List Int) (k:List Int→Option (List Int)):Zbk a k big 0 (List.replicate 64 0)=k (Znh (a.getD 0 0)++(Znh (a.getD 1 0)++(Znh (a.getD 2 0)++(Znh (a.getD 3 0)++(Znh (a.getD 4 0)++(Znh (a.getD 5 0)++(Znh (a.getD 6 0)++Znh (a.getD 7 0)))))))):=by kernel_rfl
theorem Ziu {M:List Int} (hM:M.length+145≤140737488355328) (hb:Byt M):Zhu M=some (Zg4 M):=by
  have hz:Zgb (M.length:Int)<128:=by unfold Zgb; omega
  have hp:=Zmw (M.length:Int)
  have hw:(Zf5 M).length=M.length+(17+Zgb (M.length:Int)):=by unfold Zf5; rw [List.length_append,hp]
  have hm:=Zx9 M
  have key : ∀ k,Z6f (Zf5 M) k big 0 G_rfirst=k (fbn (Zf5 M) ((Zf5 M).length / 128)):=by
    intro k
    obtain ⟨n,hn⟩ : ∃ n',big=n'+1+(Zf5 M).length / 128:=⟨18446744073709551615-(Zf5 M).length / 128,by have:big=18446744073709551616:=Z19; omega⟩
    rw [hn,Zv1]
    exact Zwn (show Byt (Zf5 M) from Zb0 hb (Zrs _)) hm (by omega) k ((Zf5 M).length / 128) n 0 (by omega)
  rw [Zhu,Zy (by simp; omega),Zl,Zl,List.nil_append,Zb (by omega) (by omega),Z3 (Zz6 (by omega) (by omega)),Zy (by rw [hp]; simp; omega),Zl,Z12]
  show Z6f (Zf5 M) _ big 0 G_rfirst=_
  rw [key,Z12,Zwp]
  simp only [Zzn]
  rfl
theorem Zpz {p:List (List Int)} (hp : ∀ i,Byt (p.getD i [])) (hb:p.length<1000000) {k:List Int→List Int→Int→Int→Option (List Int)} (m:Nat) : ∀ (n i:Nat) (a h:List Int) (c:Int) (M:List Int),i+m=p.length→Byt M→M.length+(p.drop i).flatten.length<9223372036854775808→Dst M a h c →
    ∃ a' h' c',Z4q p k (n+1+m) (i:Int) a h c (M.length:Int)=k a' h' c' ((M++(p.drop i).flatten).length:Int)∧Dst (M++(p.drop i).flatten) a' h' c'∧Byt (M++(p.drop i).flatten):=by
  induction m with
  | zero =>
    intro n i a h c M hi hbM hlen hD
    have e:p.drop i = []:=List.drop_eq_nil_of_le (by omega)
    rw [e,List.flatten_nil,List.append_nil]
    refine ⟨a,h,c,?_,hD,hbM⟩
    rw [Nat.add_zero,Z4q,Z94,Z0x (decide_eq_false (by omega))]
  | succ m ih =>
    intro n i a h c M hi hbM hlen hD
    have e1:=Z29 (i:=i) (by omega)
    have hlt:i<p.length:=by omega
    have hd:p.drop i=p.getD i []::p.drop (i+1):=by
      rw [List.drop_eq_getElem_cons hlt]
      congr 1
      simp [List.getD_eq_getElem?_getD,List.getElem?_eq_getElem hlt]
    rw [hd,List.flatten_cons] at hlen ⊢
    rw [List.length_append] at hlen
    obtain ⟨r,er,el,hr⟩:=Zkn (d:=⟨a,h,c,(M.length:Int)⟩) (l:=p.getD i []) (by omega) (hp i) hbM hD
    have el2:r.glength=((M++p.getD i []).length:Int):=by
      rw [el,List.length_append]
      show IntKind.wrap .u64 ((M.length:Int)+IntKind.wrap .u64 ((p.getD i []).length:Int))=_
      rw [Zb (x:=((p.getD i []).length:Int)) (by omega) (by omega),Zb (by omega) (by omega)]
      omega
    obtain ⟨a',h',c',e',hD',hb'⟩:=ih n (i+1) r.gstate r.gheld r.ghave (M++p.getD i []) (by omega) (Zb0 hbM (hp i)) (by rw [List.length_append]; omega) hr
    refine ⟨a',h',c',?_,by rw [← List.append_assoc]; exact hD',by rw [← List.append_assoc]; exact hb'⟩
    rw [← Nat.add_assoc,Z4q,Z94,Z15 (decide_eq_true (by omega)),Zy (Z0n (by omega) (by omega)),Int.toNat_natCast,Z3 er,Zl,e1,el2,e',List.append_assoc]
theorem Zrh {p:List (List Int)} (hp : ∀ i,Byt (p.getD i [])) (hb:p.length<1000000) (hl:p.flatten.length<9223372036854775808):Z7t p=some (byt (Zzu (Zg4 p.flatten)%VL)):=by
  obtain ⟨n,hn⟩ : ∃ n',big=n'+1+p.length:=⟨18446744073709551615-p.length,by have:big=18446744073709551616:=Z19; omega⟩
  obtain ⟨a,h,c,e,hD,hbM⟩:=Zpz hp hb (k:=fun (a51:List Int) (a52:List Int) (i53:Int) (i54:Int)=>opt (Z2q (⟨a51,a52,i53,i54⟩:Zs)) fun y98 =>
 opt (Z4v y98.1) fun y101 =>
 some y101) p.length n 0 G_first (List.replicate 128 0) 0 [] (by omega) Zfh (by simpa using hl) Dst.start
  rw [List.drop_zero,List.nil_append] at e hD hbM
  rw [Z7t,Z9s,Z3 rfl,Z12,hn]
  refine e.trans ?_
  rw [Z3 (Zx3 (d:=⟨a,h,c,(p.flatten.length:Int)⟩) hl hbM hD rfl)]
  show opt (Z4v (Zg4 p.flatten)) _=_
  rw [Z3 (Zsr (Zdi _))]
end Go.Proofs.YtiflckckekjbnaaGreatDoor
