/- Texts of a proof, one behind the other: H1 H2 V3 G3 H3 Q10 Q11 Q12 E10 G5 G6. -/
import Derived.Test.YtiflckckekjbnaaGreatDoorOM5
import Derived.JoinedOf
import Derived.LaidLaws
import Derived.Lay
import Derived.MakeChecks
import Derived.SevenTiedAt
import Derived.ChangeOld
import Derived.SizedLaws
namespace Go.Proofs.YtiflckckekjbnaaGreatDoor
open Go Go.Sx Go.RowKit
set_option linter.all false
set_option maxRecDepth 100000
structure Rep (q:Q4) (P:G):Prop where
  z:fi q.z≠0
  x:fi q.x=P.x*fi q.z
  y:fi q.y=P.y*fi q.z
  t:fi q.t=P.x*P.y*fi q.z
theorem Zwm:fi D2=dF+dF:=by decide +kernel
theorem Zek {a b:F} (ha:a≠0) (hb:b≠0):a*b≠0:=fun h=>(Zhc h).elim ha hb
theorem Z0mi:(1:F)+1≠0:=by decide +kernel
theorem Zh1 {e f g h:Int} {P:G} (hf:fi f≠0) (hg:fi g≠0) (he:fi e=P.x*fi g) (hh:fi h=P.y*fi f):Rep (Zhw e f g h) P:=by
  constructor
  · show fi (f*g)≠0
    rw [Z6s]; exact Zek hf hg
  · show fi (e*f)=_*fi (f*g)
    rw [Z6s,Z6s,he]; grind -lia -linarith (splits:=0)
  · show fi (g*h)=_*fi (f*g)
    rw [Z6s,Z6s,hh]; grind -lia -linarith (splits:=0)
  · show fi (e*h)=_*fi (f*g)
    rw [Z6s,Z6s,he,hh]; grind -lia -linarith (splits:=0)
theorem Zr5 (P Q:G):(Zd3 P Q).x*(1+dF*P.x*Q.x*P.y*Q.y)=P.x*Q.y+P.y*Q.x:=by
  have h:=Z58 (Zph P.on Q.on)
  show (P.x*Q.y+P.y*Q.x)*Zkt (1+dF*P.x*Q.x*P.y*Q.y)*_=_
  generalize Zkt (1+dF*P.x*Q.x*P.y*Q.y)=i at *
  generalize dF=d at *
  grind -lia -linarith (splits:=0)
theorem Zr6 (P Q:G):(Zd3 P Q).y*(1-dF*P.x*Q.x*P.y*Q.y)=P.y*Q.y+P.x*Q.x:=by
  have h:=Z58 (Zpi P.on Q.on)
  show (P.y*Q.y+P.x*Q.x)*Zkt (1-dF*P.x*Q.x*P.y*Q.y)*_=_
  generalize Zkt (1-dF*P.x*Q.x*P.y*Q.y)=i at *
  generalize dF=d at *
  grind -lia -linarith (splits:=0)
theorem Zvc {p q:Q4} {P Q:G} (hp:Rep p P) (hq:Rep q Q):Rep (qadd p q) (Zd3 P Q):=by
  have d1:=Zph P.on Q.on
  have d2:=Zpi P.on Q.on
  have ax:=Zr5 P Q
  have ay:=Zr6 P Q
  have hz:=Zek Z0mi (Zek hp.z hq.z)
  have ef:fi ((p.z+p.z)*q.z-p.t*D2*q.t)=(1+1)*(fi p.z*fi q.z)*(1-dF*P.x*Q.x*P.y*Q.y):=by
    simp only [Z6s,Zeg,Zdb,Zwm,hp.t,hq.t]
    generalize dF=d at *
    grind -lia -linarith (splits:=0)
  have eg:fi ((p.z+p.z)*q.z+p.t*D2*q.t)=(1+1)*(fi p.z*fi q.z)*(1+dF*P.x*Q.x*P.y*Q.y):=by
    simp only [Z6s,Zeg,Zdb,Zwm,hp.t,hq.t]
    generalize dF=d at *
    grind -lia -linarith (splits:=0)
  refine Zh1 ?_ ?_ ?_ ?_
  · rw [ef]; exact Zek hz d2
  · rw [eg]; exact Zek hz d1
  · rw [eg]
    simp only [Z6s,Zeg,Zdb,hp.x,hq.x,hp.y,hq.y]
    generalize dF=d at *
    generalize (Zd3 P Q).x=X at *
    grind -lia -linarith (splits:=0)
  · rw [ef]
    simp only [Z6s,Zeg,Zdb,hp.x,hq.x,hp.y,hq.y]
    generalize dF=d at *
    generalize (Zd3 P Q).y=Y at *
    grind -lia -linarith (splits:=0)
theorem Zve {p:Q4} {P:G} (hp:Rep p P):Rep (qdbl p) (Zd3 P P):=by
  have d1:=Zph P.on P.on
  have d2:=Zpi P.on P.on
  have ax:=Zr5 P P
  have ay:=Zr6 P P
  have on:=P.on.eq
  have ef:fi (p.z*p.z+p.z*p.z+(p.x*p.x-p.y*p.y))=(fi p.z*fi p.z)*(1-dF*P.x*P.x*P.y*P.y):=by
    simp only [Z6s,Zeg,Zdb,hp.x,hp.y]
    generalize dF=d at *
    grind -lia -linarith (splits:=0)
  have eg:fi (p.x*p.x-p.y*p.y) = - (fi p.z*fi p.z)*(1+dF*P.x*P.x*P.y*P.y):=by
    simp only [Z6s,Zeg,Zdb,hp.x,hp.y]
    generalize dF=d at *
    grind -lia -linarith (splits:=0)
  have hz:=Zek hp.z hp.z
  have hz' : - (fi p.z*fi p.z)≠0:=by
    intro h; apply hz
    grind -lia -linarith (splits:=0)
  refine Zh1 ?_ ?_ ?_ ?_
  · rw [ef]; exact Zek hz d2
  · rw [eg]; exact Zek hz' d1
  · rw [eg]
    simp only [Z6s,Zeg,Zdb,hp.x,hp.y]
    generalize dF=d at *
    generalize (Zd3 P P).x=X at *
    grind -lia -linarith (splits:=0)
  · rw [ef]
    simp only [Z6s,Zeg,Zdb,hp.x,hp.y]
    generalize dF=d at *
    generalize (Zd3 P P).y=Y at *
    grind -lia -linarith (splits:=0)
theorem Zo9 {q:Q4} {P:G} (h:Rep q P):Rep (Zzq q) P:=by
  constructor
  · show fi (q.z%PP)≠0; rw [Zbg]; exact h.z
  · show fi (q.x%PP)=_*fi (q.z%PP); rw [Zbg,Zbg]; exact h.x
  · show fi (q.y%PP)=_*fi (q.z%PP); rw [Zbg,Zbg]; exact h.y
  · show fi (q.t%PP)=_*fi (q.z%PP); rw [Zbg,Zbg]; exact h.t
theorem Zle:Rep Zma Zcp:=by
  constructor
  · show fi 1≠0; decide +kernel
  · show fi 0=0*fi 1; decide +kernel
  · show fi 1=1*fi 1; decide +kernel
  · show fi 0=0*1*fi 1; decide +kernel
theorem Zlc {p q:Q4} {P Q:G} (hp:Rep p P) (hq:Rep q Q):Rep (Zet p q) (Zd3 P Q):=Zo9 (Zvc hp hq)
theorem Zf8 {p:Q4} {P:G} (hp:Rep p P):Rep (Z7z p) (Zd3 P P):=Zo9 (Zve hp)
theorem Zoa {p:Q4} {P:G} (hp:Rep p P) : ∀ j,Rep (tab p j) (Zil j P)
  | 0=>Zle
  | j+1=>Zlc (Zoa hp j) hp
theorem Zpy (P:G):Zil 1 P=P:=Zp5 P
theorem Zf5 (P:G):Zil 2 P=Zd3 P P:=by
  show Zd3 (Zil 1 P) P=_
  rw [Zpy]
theorem Zqi {p:Q4} {P:G} (hp:Rep p P):Rep (Zgf p) (Zil 16 P):=by
  have h:=Zf8 (Zf8 (Zf8 (Zf8 hp)))
  rw [← Zf5,← Zf5,← Zf5,← Zf5,← Zf4,← Zf4,← Zf4] at h
  exact h
def Ztp (k:List Int):Nat→Nat
  | 0=>0
  | i+1=>16*Ztp k i+(nib k i).toNat
theorem Zld {p:Q4} {P:G} (k:List Int) (hp:Rep p P) : ∀ i,Rep (Zix k p i) (Zil (Ztp k i) P)
  | 0=>Zle
  | i+1=>by
    have h:=Zlc (Zqi (Zld k hp i)) (Zoa hp (nib k i).toNat)
    rw [← Zf4,← Zkv] at h
    exact h
def Ztk (k:List Int):Nat→Int
  | 0=>0
  | j+1=>Ztk k j*256+k.getD (31-j) 0
theorem Zkw {k:List Int} (hk:Byt k) : ∀ j,(Ztp k (2*j):Int)=Ztk k j
  | 0=>rfl
  | j+1=>by
    have ih:=Zkw hk j
    have hb:=hk (31-j)
    have e1:nib k (2*j)=k.getD (31-j) 0 / 16%16:=by unfold nib; rw [if_pos (by omega),show 2*j / 2=j by omega]
    have e2:nib k (2*j+1)=k.getD (31-j) 0%16:=by unfold nib; rw [if_neg (by omega),show (2*j+1) / 2=j by omega]
    show ((16*(16*Ztp k (2*j)+(nib k (2*j)).toNat)+(nib k (2*j+1)).toNat:Nat):Int)=Ztk k j*256+k.getD (31-j) 0
    rw [e1,e2]
    generalize k.getD (31-j) 0=b at *
    generalize Ztp k (2*j)=n at *
    generalize Ztk k j=m at *
    omega
def Zdr (x:List Int):Int:=x.getD 0 0+x.getD 1 0*256+x.getD 2 0*65536+x.getD 3 0*16777216+x.getD 4 0*4294967296+x.getD 5 0*1099511627776+x.getD 6 0*281474976710656+x.getD 7 0*72057594037927936+x.getD 8 0*18446744073709551616+x.getD 9 0*4722366482869645213696+x.getD 10 0*1208925819614629174706176+x.getD 11 0*309485009821345068724781056+x.getD 12 0*79228162514264337593543950336+x.getD 13 0*20282409603651670423947251286016+x.getD 14 0*5192296858534827628530496329220096+x.getD 15 0*1329227995784915872903807060280344576+x.getD 16 0*340282366920938463463374607431768211456+x.getD 17 0*87112285931760246646623899502532662132736+x.getD 18 0*22300745198530623141535718272648361505980416+x.getD 19 0*5708990770823839524233143877797980545530986496+x.getD 20 0*1461501637330902918203684832716283019655932542976+x.getD 21 0*374144419156711147060143317175368453031918731001856+x.getD 22 0*95780971304118053647396689196894323976171195136475136+x.getD 23 0*24519928653854221733733552434404946937899825954937634816+x.getD 24 0*6277101735386680763835789423207666416102355444464034512896+x.getD 25 0*1606938044258990275541962092341162602522202993782792835301376+x.getD 26 0*411376139330301510538742295639337626245683966408394965837152256+x.getD 27 0*105312291668557186697918027683670432318895095400549111254310977536+x.getD 28 0*26959946667150639794667015087019630673637144422540572481103610249216+x.getD 29 0*6901746346790563787434755862277025452451108972170386555162524223799296+x.getD 30 0*1766847064778384329583297500742918515827483896875618958121606201292619776+x.getD 31 0*452312848583266388373324160190187140051835877600158453279131187530910662656
theorem Ztl (k:List Int):Ztk k 32=Zdr k:=by
  simp only [Ztk,Zdr]
  simp only [Nat.reduceSub]
  omega
theorem Ztq {k:List Int} (hk:Byt k):Ztp k 64=(Zdr k).toNat:=by
  have h:(Ztp k 64:Int)=Ztk k 32:=Zkw hk 32
  rw [Ztl] at h
  omega
def Zw4 (e:List Int):Nat→Nat
  | 0=>0
  | k+1=>if ebit e (255-k) then 2*Zw4 e k+1 else 2*Zw4 e k
theorem Zwn (x:Int) (e:List Int) : ∀ k,fi (pw x e k)=pwF (fi x) (Zw4 e k)
  | 0=>fi_1
  | k+1=>by
    have ih:=Zwn x e k
    simp only [pw,Zw4]
    split
    · rw [Zbg,Z6s,Zbg,Z6s,ih,Zdj,Nat.two_mul,Zo4]
    · rw [Zbg,Z6s,ih,Nat.two_mul,Zo4]
theorem Zpc:Zw4 einv 256+2=pN:=by decide +kernel
theorem Zth {a:Int} (h:fi a≠0):fi a*fi (Zna a)=1:=by
  unfold Zna
  rw [Zwn,Zbg]
  exact Ztm Zpc h
def Zmn (P:G):List Int:=Zie (fv P.x) (fv P.y)
theorem Zjs {x y u v:Int} (h1:x%PP=u%PP) (h2:y%PP=v%PP):Zie x y=Zie u v:=by
  unfold Zie; rw [h1,h2]
theorem Zvd {q:Q4} {P:G} (h:Rep q P):fi (q.x*Zna q.z)=P.x∧fi (q.y*Zna q.z)=P.y:=by
  have hi:=Zth h.z
  rw [Z6s,Z6s,h.x,h.y]
  generalize fi (Zna q.z)=i at *
  generalize fi q.z=z at *
  exact ⟨by grind -lia -linarith (splits:=0),by grind -lia -linarith (splits:=0)⟩
theorem Zrh (x:F):fv x%PP=fv x:=Int.emod_eq_of_lt (Zri x).1 (Zri x).2
theorem Ztd {q:Q4} {P:G} (h:Rep q P):encQ q=Zmn P:=by
  have ha:=Zvd h
  refine Zjs ?_ ?_
  · rw [Zrh,← ha.1,Zwq]
  · rw [Zrh,← ha.2,Zwq]
theorem Zsh (n:Int):Byt (byt n):=byt_of (by
  unfold byt
  repeat' (first | exact List.forall_mem_nil _ | refine List.forall_mem_cons.2 ⟨?_,?_⟩)
  all_goals omega)
theorem Za5 (n:Int):(byt n).length=32:=rfl
theorem Zk6 {l:List Int} {i:Nat} {v:Int} (h:i<l.length):(Z4q l i v).length=l.length:=by rw [Zvg h,List.length_set]
theorem Zly (x y:Int):(Zie x y).length=32:=by
  unfold Zie
  split
  · rw [Zk6 (by rw [Za5]; decide),Za5]
  · exact Za5 _
set_option maxHeartbeats 1000000
theorem Zj4 (k:Nat) {b:Int} (hk:k≤56) (h:0≤b∧b<256):Zq .u64 (IntKind.wrap .u64 b) (k:Int)=b*((2^k:Nat):Int):=by
  have hp:(0:Int)<((2^k:Nat):Int):=by have:=Nat.pow_pos (n:=k) (show 0<2 by decide); omega
  have hle:((2^k:Nat):Int)≤72057594037927936:=by
    have:=Nat.pow_le_pow_right (show 0<2 by decide) hk
    have e:(2^56:Nat)=72057594037927936:=by decide
    omega
  have h1:b*((2^k:Nat):Int)≤255*72057594037927936:=Int.mul_le_mul (by omega) hle (by omega) (by omega)
  have h0:0≤b*((2^k:Nat):Int):=Int.mul_nonneg h.1 (by omega)
  rw [Zt h.1 (by omega),Zen .u64 (n:=k) (by show k≤64; omega),Zt h0 (by omega)]
theorem Zi4 {b0 b1 b2 b3 b4 b5 b6 b7:Int} (h0:0≤b0∧b0<256) (h1:0≤b1∧b1<256) (h2:0≤b2∧b2<256) (h3:0≤b3∧b3<256) (h4:0≤b4∧b4<256) (h5:0≤b5∧b5<256) (h6:0≤b6∧b6<256) (h7:0≤b7∧b7<256):Z4 .or .u64 (Z4 .or .u64 (Z4 .or .u64 (Z4 .or .u64 (Z4 .or .u64 (Z4 .or .u64 (Z4 .or .u64 (Z4 .or .u64 (0) (Zq .u64 (IntKind.wrap .u64 (b0)) 0)) (Zq .u64 (IntKind.wrap .u64 (b1)) 8)) (Zq .u64 (IntKind.wrap .u64 (b2)) 16)) (Zq .u64 (IntKind.wrap .u64 (b3)) 24)) (Zq .u64 (IntKind.wrap .u64 (b4)) 32)) (Zq .u64 (IntKind.wrap .u64 (b5)) 40)) (Zq .u64 (IntKind.wrap .u64 (b6)) 48)) (Zq .u64 (IntKind.wrap .u64 (b7)) 56)=b0+b1*256+b2*65536+b3*16777216+b4*4294967296+b5*1099511627776+b6*281474976710656+b7*72057594037927936:=by
  have s0:=Zj4 0 (by decide) h0
  have s1:=Zj4 8 (by decide) h1
  have s2:=Zj4 16 (by decide) h2
  have s3:=Zj4 24 (by decide) h3
  have s4:=Zj4 32 (by decide) h4
  have s5:=Zj4 40 (by decide) h5
  have s6:=Zj4 48 (by decide) h6
  have s7:=Zj4 56 (by decide) h7
  have t0:Zq .u64 (IntKind.wrap .u64 b0) 0=b0*1:=s0
  have t1:Zq .u64 (IntKind.wrap .u64 b1) 8=b1*256:=s1
  have t2:Zq .u64 (IntKind.wrap .u64 b2) 16=b2*65536:=s2
  have t3:Zq .u64 (IntKind.wrap .u64 b3) 24=b3*16777216:=s3
  have t4:Zq .u64 (IntKind.wrap .u64 b4) 32=b4*4294967296:=s4
  have t5:Zq .u64 (IntKind.wrap .u64 b5) 40=b5*1099511627776:=s5
  have t6:Zq .u64 (IntKind.wrap .u64 b6) 48=b6*281474976710656:=s6
  have t7:Zq .u64 (IntKind.wrap .u64 b7) 56=b7*72057594037927936:=s7
  rw [t0,t1,t2,t3,t4,t5,t6,t7]
  rw [Z0d 0 (x:=b0*1) (y:=0) (a:=b0) rfl (by omega) (by omega) (by decide) (by omega)]
  rw [Z0d 8 (x:=b1*256) (a:=b1) rfl (by omega) (by omega) (by show _<(256:Int); omega) (by omega)]
  rw [Z0d 16 (x:=b2*65536) (a:=b2) rfl (by omega) (by omega) (by show _<(65536:Int); omega) (by omega)]
  rw [Z0d 24 (x:=b3*16777216) (a:=b3) rfl (by omega) (by omega) (by show _<(16777216:Int); omega) (by omega)]
  rw [Z0d 32 (x:=b4*4294967296) (a:=b4) rfl (by omega) (by omega) (by show _<(4294967296:Int); omega) (by omega)]
  rw [Z0d 40 (x:=b5*1099511627776) (a:=b5) rfl (by omega) (by omega) (by show _<(1099511627776:Int); omega) (by omega)]
  rw [Z0d 48 (x:=b6*281474976710656) (a:=b6) rfl (by omega) (by omega) (by show _<(281474976710656:Int); omega) (by omega)]
  rw [Z0d 56 (x:=b7*72057594037927936) (a:=b7) rfl (by omega) (by omega) (by show _<(72057594037927936:Int); omega) (by omega)]
  omega
theorem Zpu {p:List Int} (h:Byt p) : ∃ r,Z6n p=some r∧W64 r∧r.length=4∧V4 r=Zdr p:=by
  refine ⟨_,Zgw p,Zg6 ?_,rfl,?_⟩
  · repeat' (first | exact Zio _ _ | exact List.forall_mem_nil _ | refine List.forall_mem_cons.2 ⟨?_,?_⟩)
  · unfold V4
    simp only [List.getD_cons_zero,List.getD_cons_succ]
    rw [Zi4 (h 0) (h 1) (h 2) (h 3) (h 4) (h 5) (h 6) (h 7)]
    rw [Zi4 (h 8) (h 9) (h 10) (h 11) (h 12) (h 13) (h 14) (h 15)]
    rw [Zi4 (h 16) (h 17) (h 18) (h 19) (h 20) (h 21) (h 22) (h 23)]
    rw [Zi4 (h 24) (h 25) (h 26) (h 27) (h 28) (h 29) (h 30) (h 31)]
    unfold Zdr
    omega
theorem Z1o (x:Int):Zi .u64 x 8=x / 256:=by have:=Zby .u64 (x:=x) (n:=8) (by decide); simpa using this
theorem Zsa {p:List Int} (h:W64 p):V4 p%18446744073709551616=p.getD 0 0∧V4 p / 18446744073709551616%18446744073709551616=p.getD 1 0∧V4 p / 340282366920938463463374607431768211456%18446744073709551616=p.getD 2 0∧V4 p / 6277101735386680763835789423207666416102355444464034512896%18446744073709551616=p.getD 3 0:=by
  have h0:=h 0
  have h1:=h 1
  have h2:=h 2
  have h3:=h 3
  unfold V4
  refine ⟨by omega,by omega,by omega,by omega⟩
theorem sb_0 {n x:Int} (h:n%18446744073709551616=x):IntKind.wrap .u8 (x)=n%256:=by
  simp only [Z1o,Z0c]
  omega
theorem sb_1 {n x:Int} (h:n%18446744073709551616=x):IntKind.wrap .u8 (Zi .u64 (x) 8)=n / 256%256:=by
  simp only [Z1o,Z0c]
  omega
theorem sb_2 {n x:Int} (h:n%18446744073709551616=x):IntKind.wrap .u8 (Zi .u64 (Zi .u64 (x) 8) 8)=n / 65536%256:=by
  simp only [Z1o,Z0c]
  omega
theorem sb_3 {n x:Int} (h:n%18446744073709551616=x):IntKind.wrap .u8 (Zi .u64 (Zi .u64 (Zi .u64 (x) 8) 8) 8)=n / 16777216%256:=by
  simp only [Z1o,Z0c]
  omega
theorem sb_4 {n x:Int} (h:n%18446744073709551616=x):IntKind.wrap .u8 (Zi .u64 (Zi .u64 (Zi .u64 (Zi .u64 (x) 8) 8) 8) 8)=n / 4294967296%256:=by
  simp only [Z1o,Z0c]
  omega
theorem sb_5 {n x:Int} (h:n%18446744073709551616=x):IntKind.wrap .u8 (Zi .u64 (Zi .u64 (Zi .u64 (Zi .u64 (Zi .u64 (x) 8) 8) 8) 8) 8)=n / 1099511627776%256:=by
  simp only [Z1o,Z0c]
  omega
theorem sb_6 {n x:Int} (h:n%18446744073709551616=x):IntKind.wrap .u8 (Zi .u64 (Zi .u64 (Zi .u64 (Zi .u64 (Zi .u64 (Zi .u64 (x) 8) 8) 8) 8) 8) 8)=n / 281474976710656%256:=by
  simp only [Z1o,Z0c]
  omega
theorem sb_7 {n x:Int} (h:n%18446744073709551616=x):IntKind.wrap .u8 (Zi .u64 (Zi .u64 (Zi .u64 (Zi .u64 (Zi .u64 (Zi .u64 (Zi .u64 (x) 8) 8) 8) 8) 8) 8) 8)=n / 72057594037927936%256:=by
  simp only [Z1o,Z0c]
  omega
theorem sb_8 {n x:Int} (h:n / 18446744073709551616%18446744073709551616=x):IntKind.wrap .u8 (x)=n / 18446744073709551616%256:=by
  simp only [Z1o,Z0c]
  omega
theorem sb_9 {n x:Int} (h:n / 18446744073709551616%18446744073709551616=x):IntKind.wrap .u8 (Zi .u64 (x) 8)=n / 4722366482869645213696%256:=by
  simp only [Z1o,Z0c]
  omega
theorem Z0ls {n x:Int} (h:n / 18446744073709551616%18446744073709551616=x):IntKind.wrap .u8 (Zi .u64 (Zi .u64 (x) 8) 8)=n / 1208925819614629174706176%256:=by
  simp only [Z1o,Z0c]
  omega
theorem Z0lt {n x:Int} (h:n / 18446744073709551616%18446744073709551616=x):IntKind.wrap .u8 (Zi .u64 (Zi .u64 (Zi .u64 (x) 8) 8) 8)=n / 309485009821345068724781056%256:=by
  simp only [Z1o,Z0c]
  omega
theorem Z0lu {n x:Int} (h:n / 18446744073709551616%18446744073709551616=x):IntKind.wrap .u8 (Zi .u64 (Zi .u64 (Zi .u64 (Zi .u64 (x) 8) 8) 8) 8)=n / 79228162514264337593543950336%256:=by
  simp only [Z1o,Z0c]
  omega
theorem Z0lv {n x:Int} (h:n / 18446744073709551616%18446744073709551616=x):IntKind.wrap .u8 (Zi .u64 (Zi .u64 (Zi .u64 (Zi .u64 (Zi .u64 (x) 8) 8) 8) 8) 8)=n / 20282409603651670423947251286016%256:=by
  simp only [Z1o,Z0c]
  omega
theorem Z0lw {n x:Int} (h:n / 18446744073709551616%18446744073709551616=x):IntKind.wrap .u8 (Zi .u64 (Zi .u64 (Zi .u64 (Zi .u64 (Zi .u64 (Zi .u64 (x) 8) 8) 8) 8) 8) 8)=n / 5192296858534827628530496329220096%256:=by
  simp only [Z1o,Z0c]
  omega
theorem Z0lx {n x:Int} (h:n / 18446744073709551616%18446744073709551616=x):IntKind.wrap .u8 (Zi .u64 (Zi .u64 (Zi .u64 (Zi .u64 (Zi .u64 (Zi .u64 (Zi .u64 (x) 8) 8) 8) 8) 8) 8) 8)=n / 1329227995784915872903807060280344576%256:=by
  simp only [Z1o,Z0c]
  omega
theorem Z0ly {n x:Int} (h:n / 340282366920938463463374607431768211456%18446744073709551616=x):IntKind.wrap .u8 (x)=n / 340282366920938463463374607431768211456%256:=by
  simp only [Z1o,Z0c]
  omega
theorem Z0lz {n x:Int} (h:n / 340282366920938463463374607431768211456%18446744073709551616=x):IntKind.wrap .u8 (Zi .u64 (x) 8)=n / 87112285931760246646623899502532662132736%256:=by
  simp only [Z1o,Z0c]
  omega
theorem Z0m0 {n x:Int} (h:n / 340282366920938463463374607431768211456%18446744073709551616=x):IntKind.wrap .u8 (Zi .u64 (Zi .u64 (x) 8) 8)=n / 22300745198530623141535718272648361505980416%256:=by
  simp only [Z1o,Z0c]
  omega
theorem Z0m1 {n x:Int} (h:n / 340282366920938463463374607431768211456%18446744073709551616=x):IntKind.wrap .u8 (Zi .u64 (Zi .u64 (Zi .u64 (x) 8) 8) 8)=n / 5708990770823839524233143877797980545530986496%256:=by
  simp only [Z1o,Z0c]
  omega
theorem Z0m2 {n x:Int} (h:n / 340282366920938463463374607431768211456%18446744073709551616=x):IntKind.wrap .u8 (Zi .u64 (Zi .u64 (Zi .u64 (Zi .u64 (x) 8) 8) 8) 8)=n / 1461501637330902918203684832716283019655932542976%256:=by
  simp only [Z1o,Z0c]
  omega
theorem Z0m3 {n x:Int} (h:n / 340282366920938463463374607431768211456%18446744073709551616=x):IntKind.wrap .u8 (Zi .u64 (Zi .u64 (Zi .u64 (Zi .u64 (Zi .u64 (x) 8) 8) 8) 8) 8)=n / 374144419156711147060143317175368453031918731001856%256:=by
  simp only [Z1o,Z0c]
  omega
theorem Z0m4 {n x:Int} (h:n / 340282366920938463463374607431768211456%18446744073709551616=x):IntKind.wrap .u8 (Zi .u64 (Zi .u64 (Zi .u64 (Zi .u64 (Zi .u64 (Zi .u64 (x) 8) 8) 8) 8) 8) 8)=n / 95780971304118053647396689196894323976171195136475136%256:=by
  simp only [Z1o,Z0c]
  omega
theorem Z0m5 {n x:Int} (h:n / 340282366920938463463374607431768211456%18446744073709551616=x):IntKind.wrap .u8 (Zi .u64 (Zi .u64 (Zi .u64 (Zi .u64 (Zi .u64 (Zi .u64 (Zi .u64 (x) 8) 8) 8) 8) 8) 8) 8)=n / 24519928653854221733733552434404946937899825954937634816%256:=by
  simp only [Z1o,Z0c]
  omega
theorem Z0m6 {n x:Int} (h:n / 6277101735386680763835789423207666416102355444464034512896%18446744073709551616=x):IntKind.wrap .u8 (x)=n / 6277101735386680763835789423207666416102355444464034512896%256:=by
  simp only [Z1o,Z0c]
  omega
theorem Z0m7 {n x:Int} (h:n / 6277101735386680763835789423207666416102355444464034512896%18446744073709551616=x):IntKind.wrap .u8 (Zi .u64 (x) 8)=n / 1606938044258990275541962092341162602522202993782792835301376%256:=by
  simp only [Z1o,Z0c]
  omega
theorem Z0m8 {n x:Int} (h:n / 6277101735386680763835789423207666416102355444464034512896%18446744073709551616=x):IntKind.wrap .u8 (Zi .u64 (Zi .u64 (x) 8) 8)=n / 411376139330301510538742295639337626245683966408394965837152256%256:=by
  simp only [Z1o,Z0c]
  omega
theorem Z0m9 {n x:Int} (h:n / 6277101735386680763835789423207666416102355444464034512896%18446744073709551616=x):IntKind.wrap .u8 (Zi .u64 (Zi .u64 (Zi .u64 (x) 8) 8) 8)=n / 105312291668557186697918027683670432318895095400549111254310977536%256:=by
  simp only [Z1o,Z0c]
  omega
theorem Z0ma {n x:Int} (h:n / 6277101735386680763835789423207666416102355444464034512896%18446744073709551616=x):IntKind.wrap .u8 (Zi .u64 (Zi .u64 (Zi .u64 (Zi .u64 (x) 8) 8) 8) 8)=n / 26959946667150639794667015087019630673637144422540572481103610249216%256:=by
  simp only [Z1o,Z0c]
  omega
theorem Z0mb {n x:Int} (h:n / 6277101735386680763835789423207666416102355444464034512896%18446744073709551616=x):IntKind.wrap .u8 (Zi .u64 (Zi .u64 (Zi .u64 (Zi .u64 (Zi .u64 (x) 8) 8) 8) 8) 8)=n / 6901746346790563787434755862277025452451108972170386555162524223799296%256:=by
  simp only [Z1o,Z0c]
  omega
theorem Z0mc {n x:Int} (h:n / 6277101735386680763835789423207666416102355444464034512896%18446744073709551616=x):IntKind.wrap .u8 (Zi .u64 (Zi .u64 (Zi .u64 (Zi .u64 (Zi .u64 (Zi .u64 (x) 8) 8) 8) 8) 8) 8)=n / 1766847064778384329583297500742918515827483896875618958121606201292619776%256:=by
  simp only [Z1o,Z0c]
  omega
theorem Z0md {n x:Int} (h:n / 6277101735386680763835789423207666416102355444464034512896%18446744073709551616=x):IntKind.wrap .u8 (Zi .u64 (Zi .u64 (Zi .u64 (Zi .u64 (Zi .u64 (Zi .u64 (Zi .u64 (x) 8) 8) 8) 8) 8) 8) 8)=n / 452312848583266388373324160190187140051835877600158453279131187530910662656%256:=by
  simp only [Z1o,Z0c]
  omega
theorem Zj9 {p:List Int} (h:W64 p):Z4o p=some (byt (V4 p)):=by
  obtain ⟨e0,e1,e2,e3⟩:=Zsa h
  rw [Zj8]
  unfold byt
  rw [sb_0 e0,sb_1 e0,sb_2 e0,sb_3 e0,sb_4 e0,sb_5 e0,sb_6 e0,sb_7 e0,sb_8 e1,sb_9 e1,Z0ls e1,Z0lt e1,Z0lu e1,Z0lv e1,Z0lw e1,Z0lx e1,Z0ly e2,Z0lz e2,Z0m0 e2,Z0m1 e2,Z0m2 e2,Z0m3 e2,Z0m4 e2,Z0m5 e2,Z0m6 e3,Z0m7 e3,Z0m8 e3,Z0m9 e3,Z0ma e3,Z0mb e3,Z0mc e3,Z0md e3]
theorem Zqt {n:Int} (h0:0≤n) (h1:n<115792089237316195423570985008687907853269984665640564039457584007913129639936):Zdr (byt n)=n:=by
  simp only [Zdr,byt,List.getD_cons_zero,List.getD_cons_succ]
  omega
theorem Zty (r:List Int):pV r 4=V4 r:=by
  simp only [pV,V4]
  have e1:(18446744073709551616:Int)^0=1:=by decide
  have e2:(18446744073709551616:Int)^1=18446744073709551616:=by decide
  have e3:(18446744073709551616:Int)^2=340282366920938463463374607431768211456:=by decide
  have e4:(18446744073709551616:Int)^3=6277101735386680763835789423207666416102355444464034512896:=by decide
  rw [e1,e2,e3,e4]
  omega
theorem Zg7 {p:List Int} (h:Byt p) : ∃ r,Z5u p=some r∧W64 r∧r.length=4∧pV r r.length=Zdr p:=by
  obtain ⟨r,e,w,l,v⟩:=Zpu h
  refine ⟨r,?_,w,l,by rw [l,Zty,v]⟩
  rw [Z5u,Z3 e,Zg4 l]
theorem Znk {p:List Int} (h:Byt p) : ∃ r,Z8z p=some r∧W64 r∧V4 r=Zdr p%VL:=by
  obtain ⟨r,e,w,l,v⟩:=Zg7 h
  obtain ⟨s,e2,w2,v2⟩:=Zh0 w (by omega)
  exact ⟨s,by rw [Z8z,Z3 e,Z3 e2],w2,by rw [v2,v]⟩
theorem Zmq (n:Int):0≤n%VL∧n%VL<VL:=⟨Int.emod_nonneg _ (by decide),Int.emod_lt_of_pos _ (by decide)⟩
theorem Zqo {p q:List Int} (hp:Byt p) (hq:Byt q):Zai p q=some (byt (Zdr p*Zdr q%VL)):=by
  obtain ⟨a,e1,w1,l1,v1⟩:=Zg7 hp
  obtain ⟨b,e2,w2,l2,v2⟩:=Zg7 hq
  obtain ⟨c,e3,l3,w3,v3⟩:=Zjd w1 w2 (by omega)
  obtain ⟨d,e4,w4,v4⟩:=Zh0 w3 (by omega)
  rw [Zai,Z3 e1,Z3 e2,Z3 e3,Z3 e4,Z3 (Zj9 w4),v4,v3,v1,v2]
theorem Zqn {p q:List Int} (hp:Byt p) (hq:Byt q):Zah p q=some (byt ((Zdr p+Zdr q)%VL)):=by
  obtain ⟨a,e1,w1,v1⟩:=Znk hp
  obtain ⟨b,e2,w2,v2⟩:=Znk hq
  obtain ⟨c,o,e3,w3,ho,v3⟩:=Zcy w1 w2
  obtain ⟨d,e4,w4,v4⟩:=Zhl w3
  have h1:=Zmq (Zdr p)
  have h2:=Zmq (Zdr q)
  have h3:=Zba w3
  have e:V4 c=Zdr p%VL+Zdr q%VL:=by
    rw [v1,v2] at v3
    unfold VL B4 at *
    rcases ho with h | h <;> subst h <;> omega
  rw [Zah,Z3 e1,Z3 e2,Z3 e3,Z3 e4,Z3 (Zj9 w4),v4,e,← Int.add_emod]
theorem Zk5 {p q r:List Int} (hp:Byt p) (hq:Byt q) (hr:Byt r):Z7c p q r=some (byt ((Zdr p*Zdr q+Zdr r)%VL)):=by
  have h:=Zmq (Zdr p*Zdr q)
  rw [Z7c,Z3 (Zqo hp hq),Z3 (Zqn (Zsh _) hr),Zqt h.1 (by unfold VL at h ⊢; omega),Int.emod_add_emod]
theorem Zog {α:Type} {o:Option α} (h:o.isSome=true) : ∃ r,o=some r:=by
  cases o with
  | none=>cases h
  | some r=>exact ⟨r,rfl⟩
theorem Zmw (s h:List Int):(Z9r s h).isSome=true:=by kernel_rfl
theorem Zg3 (x:Int) : ∃ r,Z1c x=some r∧r.length=8:=by
  have:((Z1c x).map (·.length))=some 8:=by kernel_rfl
  cases h:Z1c x with
  | none=>rw [h] at this; cases this
  | some r=>exact ⟨r,rfl,by rw [h] at this; simpa using this⟩
theorem Zmk (z:Int) (m:Nat) : ∀ (l a h:List Int) (c:Int),l.length≤m→0≤c→c<128→∀ n,∃ r,Z0k z (n+1+m) l a h c=some r∧r.glength=z∧0≤r.ghave∧r.ghave<128:=by
  induction m with
  | zero =>
    intro l a h c hl h0 h1 n
    refine ⟨⟨a,h,c,z⟩,?_,rfl,h0,h1⟩
    rw [Nat.add_zero,Z0k,Z1l,Z1q (decide_eq_false (by omega))]
  | succ m ih =>
    intro l a h c hl h0 h1 n
    by_cases he:l.length=0
    · refine ⟨⟨a,h,c,z⟩,?_,rfl,h0,h1⟩
      rw [← Nat.add_assoc,Z0k,Z1l,Z1q (decide_eq_false (by omega))]
    · have hmin:0<Nat.min l.length (128-c.toNat)∧Nat.min l.length (128-c.toNat)≤l.length∧Nat.min l.length (128-c.toNat)≤128-c.toNat:=by
        refine ⟨?_,Nat.min_le_left _ _,Nat.min_le_right _ _⟩
        show 0<min l.length (128-c.toNat)
        omega
      have ew:IntKind.wrap .i64 (c+((Nat.min l.length (128-c.toNat):Nat):Int))=c+((Nat.min l.length (128-c.toNat):Nat):Int):=Zs (by omega) (by omega)
      have hlen:(((l.drop (((Nat.min l.length (128-c.toNat):Nat):Int)).toNat).take (((l.length:Int)).toNat-(((Nat.min l.length (128-c.toNat):Nat):Int)).toNat))).length≤m:=by
        simp only [List.length_take,List.length_drop,Int.toNat_natCast]; omega
      rw [← Nat.add_assoc,Z0k,Z1l,Z21 (decide_eq_true (by omega)),Z06 (by unfold Zjj; simp; omega),Zf,Z06 (by unfold Zjj; simp only [Bool.and_eq_true,decide_eq_true_eq]; omega),Zf,ew]
      by_cases h128:c+((Nat.min l.length (128-c.toNat):Nat):Int)=128
      · obtain ⟨b,eb⟩:=Zog (Zmw a (wr h c.toNat (l.take (128-c.toNat))))
        rw [Z21 (by simpa using h128),Z3 eb]
        exact ih _ _ _ 0 hlen (by omega) (by omega) n
      · rw [Z1q (by simpa using h128)]
        exact ih _ _ _ _ hlen (by omega) (by omega) n
theorem Zdu (d:Zj) (l:List Int) (hl:l.length<18446744073709551615) (h0:0≤d.ghave) (h1:d.ghave<128) : ∃ r,Z0v d l=some r∧0≤r.ghave∧r.ghave<128∧r.glength=IntKind.wrap .u64 (d.glength+IntKind.wrap .u64 (l.length:Int)):=by
  obtain ⟨n,hn⟩ : ∃ n',big=n'+1+l.length:=⟨18446744073709551615-l.length,by have:big=18446744073709551616:=Z4i; omega⟩
  rw [Z0v,Zf,Zf,hn]
  obtain ⟨r,e,hz,hh⟩:=Zmk (IntKind.wrap .u64 (d.glength+IntKind.wrap .u64 (l.length:Int))) l.length l d.gstate d.gheld d.ghave (Nat.le_refl _) h0 h1 n
  exact ⟨r,e,hh.1,hh.2,hz⟩
theorem Zny (x:Int) : ∃ r,Z83 x=some r∧r.length≤1000:=by
  have hz3:=Zov (x+17)
  obtain ⟨y1,e1,l1⟩:=Zg3 (Zi .u64 x 61)
  obtain ⟨y2,e2,l2⟩:=Zg3 (Zq .u64 x 3)
  generalize hz:IntKind.wrap .u64 (x+17)=z3 at hz3
  have et:Int.tmod z3 128=z3%128:=Int.tmod_eq_emod_of_nonneg hz3.1
  have ew:IntKind.wrap .i64 (z3%128)=z3%128:=Zs (by omega) (by omega)
  have ew2:IntKind.wrap .i64 (128-z3%128)=128-z3%128:=Zs (by omega) (by omega)
  have et2:Int.tmod (128-z3%128) 128=(128-z3%128)%128:=Int.tmod_eq_emod_of_nonneg (by omega)
  simp only [Z83,Zf,hz,et,ew,ew2,et2]
  have hr:0≤(128-z3%128)%128∧(128-z3%128)%128<128:=by omega
  generalize (128-z3%128)%128=w at hr
  have ew3:IntKind.wrap .i64 (17+w)=17+w:=Zs (by omega) (by omega)
  simp only [ew3]
  refine ⟨(((List.replicate 0 0 ++ [128])++List.replicate w.toNat 0)++y1)++y2,?_,?_⟩
  · rw [Z06 (by unfold mkB; simp only [Bool.and_eq_true,decide_eq_true_eq]; omega),Z06 (by simp),Z06 (by simp; omega),Z06 (by simp; omega),Z3 e1,Z06 (by simp [l1]; omega),Z3 e2,Z06 (by simp [l1,l2]; omega)]
  · simp [l1,l2]; omega
theorem Zvn (y d:Zj):(Z1j y (fun a74=>some (a74,d)) big 0 (List.replicate 64 0)).isSome=true:=by kernel_rfl
theorem Zvo (d:Zj) (h0:0≤d.ghave) (h1:d.ghave<128) : ∃ r,Z1w d=some r:=by
  obtain ⟨p,e,hl⟩:=Zny d.glength
  obtain ⟨y,e2,_⟩:=Zdu d p (by omega) h0 h1
  obtain ⟨r,e3⟩:=Zog (Zvn y d)
  refine ⟨r,?_⟩
  rw [Z1w,Z3k,Z3 rfl]
  show opt (Z83 d.glength) _=_
  rw [Z3 e]
  show opt (Z0v d p) _=_
  rw [Z3 e2,Z2p,e3]
theorem Znc {p:List (List Int)} (hp : ∀ i,(p.getD i []).length<18446744073709551615) (hb:p.length<1000000) {k:List Int→List Int→Int→Int→Option (List Int)} (hk : ∀ a b c d,0≤c→c<128→∃ r,k a b c d=some r∧Byt r∧r.length=32) (m:Nat) : ∀ (n i:Nat) (a b:List Int) (c d:Int),i+m=p.length→0≤c→c<128 →
    ∃ r,Z4r p k (n+1+m) (i:Int) a b c d=some r∧Byt r∧r.length=32:=by
  induction m with
  | zero =>
    intro n i a b c d hi h0 h1
    rw [Nat.add_zero,Z4r,Z8o,Z1q (decide_eq_false (by omega))]
    exact hk a b c d h0 h1
  | succ m ih =>
    intro n i a b c d hi h0 h1
    have e1:IntKind.wrap .i64 ((i:Int)+1)=((i+1:Nat):Int):=by rw [Zs (by omega) (by omega)]; rfl
    obtain ⟨y,e,g0,g1,_⟩:=Zdu ⟨a,b,c,d⟩ (p.getD i []) (hp i) h0 h1
    rw [← Nat.add_assoc,Z4r,Z8o,Z21 (decide_eq_true (by omega)),Z06 (Z28 (by omega) (by omega)),Int.toNat_natCast,Z3 e,Zf,e1]
    exact ih n (i+1) _ _ _ _ (by omega) g0 g1
theorem Zhq {p:List (List Int)} (hp : ∀ i,(p.getD i []).length<18446744073709551615) (hb:p.length<1000000) : ∃ r,Z8n p=some r∧Byt r∧r.length=32:=by
  obtain ⟨n,hn⟩ : ∃ n',big=n'+1+p.length:=⟨18446744073709551615-p.length,by have:big=18446744073709551616:=Z4i; omega⟩
  rw [Z8n,Z90,Z3 rfl,Z2p,hn]
  refine Znc hp hb ?_ p.length n 0 _ _ _ _ (by omega) (by decide) (by decide)
  intro a b c d h0 h1
  obtain ⟨r,e⟩:=Zvo ⟨a,b,c,d⟩ h0 h1
  obtain ⟨s,e2,hs⟩:=Zlp r.1
  refine ⟨s,?_,hs⟩
  rw [Z3 e,Z3 e2]
theorem Zor {p:List Int} (h:Byt p) (o n:Nat):Byt (tk p o n):=by
  intro i
  rw [Zg5]
  split
  · exact h _
  · decide
theorem Zmi {k m s:List Int} (hk:Byt k) (hm:m.length<18446744073709551615) (hs:Byt s) : ∃ b,Z4v k m s=some b:=by
  rw [Z4v,Z3 (Zn6 hk)]
  obtain ⟨c,hc⟩:=Zhm (tk (tk s 32 (64-32)) 0 32)
  rw [Z06 (by rw [Z08]; decide),Zf,hc,Z06 (by simp [imp])]
  by_cases hd:dok k=true
  · rw [if_pos hd]
    cases c
    · exact ⟨false,Z21 rfl⟩
    · obtain ⟨h,eh,hb,hl⟩:=Zhq (p:=[(tk s 0 32),(tk k 0 32),m]) (by
        intro i
        match i with
        | 0=>show (tk s 0 32).length<_; rw [Z08]; decide
        | 1=>show (tk k 0 32).length<_; rw [Z08]; decide
        | 2=>exact hm
        | i+3=>show ([]:List Int).length<_; decide) (by simp)
      rw [Z1q (c:=(!(pt (dpt k),true).snd || !(some true).getD false)) rfl,Z2p,Z3 eh]
      show ∃ b,opt (Za9 (pt (dpt k))) _=some b
      rw [Z3 (Zt8 _),Z3 (Zlw hb (Zor (Zor hs _ _) _ _) _),Z3 (Zif _),Z06 (by rw [Z08]; decide),Zf]
      exact ⟨_,rfl⟩
  · rw [if_neg hd]
    exact ⟨false,Z21 rfl⟩
noncomputable def Zw3:G:=⟨fi BX,fi BY,⟨by decide +kernel⟩⟩
theorem Zqh:Rep Zm9 Zw3:=by
  constructor
  · show fi 1≠0; decide +kernel
  · show fi BX=fi BX*fi 1; decide +kernel
  · show fi BY=fi BY*fi 1; decide +kernel
  · show fi (BX*BY)=fi BX*fi BY*fi 1; decide +kernel
def be8 (x:Int):List Int:=[IntKind.wrap .u8 (Zi .u64 (Zi .u64 (Zi .u64 (Zi .u64 (Zi .u64 (Zi .u64 (Zi .u64 x 8) 8) 8) 8) 8) 8) 8),IntKind.wrap .u8 (Zi .u64 (Zi .u64 (Zi .u64 (Zi .u64 (Zi .u64 (Zi .u64 x 8) 8) 8) 8) 8) 8),IntKind.wrap .u8 (Zi .u64 (Zi .u64 (Zi .u64 (Zi .u64 (Zi .u64 x 8) 8) 8) 8) 8),IntKind.wrap .u8 (Zi .u64 (Zi .u64 (Zi .u64 (Zi .u64 x 8) 8) 8) 8),IntKind.wrap .u8 (Zi .u64 (Zi .u64 (Zi .u64 x 8) 8) 8),IntKind.wrap .u8 (Zi .u64 (Zi .u64 x 8) 8),IntKind.wrap .u8 (Zi .u64 x 8),IntKind.wrap .u8 x]
theorem Zsg (x:Int) : ∀ y∈be8 x,0≤y∧y<256:=by
  unfold be8
  repeat' (first | exact List.forall_mem_nil _ | refine List.forall_mem_cons.2 ⟨Zje _,?_⟩)
def told (s:List Int):List Int:=be8 (s.getD 0 0)++(be8 (s.getD 1 0)++(be8 (s.getD 2 0)++(be8 (s.getD 3 0)++(be8 (s.getD 4 0)++(be8 (s.getD 5 0)++(be8 (s.getD 6 0)++be8 (s.getD 7 0)))))))
theorem Zqs (y d:Zj):Z1j y (fun a74=>some (a74,d)) big 0 (List.replicate 64 0)=some (told y.gstate,d):=by kernel_rfl
theorem Zqv (s:List Int):Byt (told s):=by
  apply byt_of
  unfold told
  intro x hx
  simp only [List.mem_append] at hx
  rcases hx with h | h | h | h | h | h | h | h <;> exact Zsg _ _ h
theorem Zvm (d:Zj) (h0:0≤d.ghave) (h1:d.ghave<128) : ∃ r,Z1w d=some r∧Byt r.1∧r.1.length=64:=by
  obtain ⟨p,e,hl⟩:=Zny d.glength
  obtain ⟨y,e2,_⟩:=Zdu d p (by omega) h0 h1
  refine ⟨(told y.gstate,d),?_,Zqv _,rfl⟩
  rw [Z1w,Z3k,Z3 rfl]
  show opt (Z83 d.glength) _=_
  rw [Z3 e]
  show opt (Z0v d p) _=_
  rw [Z3 e2,Z2p,Zqs]
theorem Zs9 {p:List Int} (hp:p.length<18446744073709551615) : ∃ r,Z91 p=some r∧Byt r∧r.length=64:=by
  obtain ⟨y,e,h0,h1,_⟩:=Zdu ⟨G_first,List.replicate 128 0,0,0⟩ p hp (by decide) (by decide)
  obtain ⟨r,e2,hb,hl⟩:=Zvm y h0 h1
  refine ⟨r.1,?_,hb,hl⟩
  rw [Z91,Z90,Z3 rfl]
  show opt (Z0v ⟨G_first,List.replicate 128 0,0,0⟩ p) _=_
  rw [Z3 e,Z3 e2]
theorem Zi8 (o:BinOp) (x y:Int) (h:o = .and∨o = .or∨o = .andNot):0≤Z4 o .u8 x y∧Z4 o .u8 x y<256:=by
  rcases h with h | h | h <;> subst h
  · show 0≤IntKind.u8.wrap _∧IntKind.u8.wrap _<_; exact Zje _
  · show 0≤IntKind.u8.wrap _∧IntKind.u8.wrap _<_; exact Zje _
  · show 0≤IntKind.u8.wrap _∧IntKind.u8.wrap _<_; exact Zje _
def Zkn (p:List Int):List Int:=Z4q (Z4q p 0 (Z4 .andNot .u8 (p.getD 0 0) 7)) 31 (Z4 .or .u8 (Z4 .and .u8 ((Z4q p 0 (Z4 .andNot .u8 (p.getD 0 0) 7)).getD 31 0) 127) 64)
theorem Zpf (p:List Int):Z8m p=some (Zkn p):=by
  rw [Z8m]
  simp only [Zf]
  rfl
theorem Zn3 {p:List Int} (h:Byt p):Byt (Zkn p):=Zi0 (Zi0 h (Zi8 _ _ _ (.inr (.inr rfl)))) (Zi8 _ _ _ (.inr (.inl rfl)))
theorem Zm1 (s:List Int) : ∃ h,Z91 (tk s 0 32)=some h∧Byt h∧h.length=64∧Z84 s=some (Zkn (tk h 0 32),tk h 32 32):=by
  obtain ⟨h,e,hb,hl⟩:=Zs9 (p:=tk s 0 32) (by rw [Z08]; decide)
  refine ⟨h,e,hb,hl,?_⟩
  have e2:tk (tk h 0 32) 0 32=tk h 0 32:=Zg4 (Z08 _ _ _)
  rw [Z84,Z3 e,Z06 (by rw [Z08]; rfl),Zf,e2,Z3 (Zpf _)]
noncomputable def pB (a:List Int):G:=Zil (Zdr a).toNat Zw3
theorem Zfn {a:List Int} (h:Byt a) : ∃ q,Z3u a=some (pt q)∧Rep q (pB a):=by
  refine ⟨_,Zm3 h,?_⟩
  have:=Zld a Zqh 64
  rw [Ztq h] at this
  exact this
theorem Ze0 {q:Q4} {P:G} (h:Rep q P):Z3t (pt q)=some (Zmn P):=by rw [Zif,Ztd h]
theorem Zap (P:G):(Zmn P).length=32:=Zly _ _
theorem Zs4 (P:G):tk (Zmn P) 0 32=Zmn P:=Zg4 (Zap P)
theorem Z0ai {x y:List Int} (hx:x.length=32) (hy:y.length=32):wr (wr (List.replicate 64 0) 0 (x.take 32)) 32 (y.take (64-32))=x++y:=by
  have h1:x.take 32=x:=List.take_of_length_le (by omega)
  have h2:y.take (64-32)=y:=List.take_of_length_le (by omega)
  rw [h1,h2]
  have h3:wr (List.replicate 64 0) 0 x=x++List.replicate 32 0:=by
    unfold wr
    rw [hx]
    rfl
  have h4:tk (x++List.replicate 32 0) 0 32=x:=by
    apply List.ext_getElem
    · rw [Z08,hx]
    · intro i h1 h2
      simp only [tk,List.getElem_map,List.getElem_range,Nat.zero_add]
      rw [List.getD_eq_getElem?_getD,List.getElem?_append_left h2,List.getElem?_eq_getElem h2]
      rfl
  have h5:(x++List.replicate 32 (0:Int)).drop (32+32) = []:=List.drop_eq_nil_of_le (by simp [hx])
  rw [h3]
  unfold wr
  rw [h4,hy,h5,List.append_nil]
theorem Z0cy {a b m:List Int} (ha:a.length=32) (hb:b.length=32) (hm:m.length<18446744073709551615) : ∀ i,(([a,b,m]:List (List Int)).getD i []).length<18446744073709551615:=by
  intro i
  match i with
  | 0=>show a.length<_; omega
  | 1=>show b.length<_; omega
  | 2=>exact hm
  | i+3=>show ([]:List Int).length<_; decide
theorem Z0cx {a m:List Int} (ha:a.length=32) (hm:m.length<18446744073709551615) : ∀ i,(([a,m]:List (List Int)).getD i []).length<18446744073709551615:=by
  intro i
  match i with
  | 0=>show a.length<_; omega
  | 1=>exact hm
  | i+2=>show ([]:List Int).length<_; decide
structure Sgn (s m:List Int) (a r k:List Int):Prop where
  ba:Byt a
  br:Byt r
  bk:Byt k
  pub:Zg1 s=some (Zmn (pB a))
  hash:Z8n [Zmn (pB r),Zmn (pB a),m]=some k
  sig:Zbz s m=some (Zmn (pB r)++byt ((Zdr k*Zdr a+Zdr r)%VL))
theorem Zvh (s:List Int) {m:List Int} (hm:m.length<18446744073709551615) : ∃ a r k,Sgn s m a r k:=by
  obtain ⟨h,e,hb,hl,eh⟩:=Zm1 s
  have ba:=Zn3 (Zor hb 0 32)
  obtain ⟨q,eq1,rq⟩:=Zfn ba
  obtain ⟨r,er,br,lr⟩:=Zhq (p:=[tk h 32 32,m]) (Z0cx (Z08 _ _ _) hm) (by simp)
  obtain ⟨q2,eq2,rq2⟩:=Zfn br
  obtain ⟨k,ek,bk,lk⟩:=Zhq (p:=[Zmn (pB r),Zmn (pB (Zkn (tk h 0 32))),m]) (Z0cy (Zap _) (Zap _) hm) (by simp)
  refine ⟨_,r,k,ba,br,bk,?_,ek,?_⟩
  · rw [Zg1,Z3 eh,Z3 eq1,Z3 (Ze0 rq)]
  · rw [Zbz,Z3 eh,Z3 eq1,Z3 (Ze0 rq),Z3 er,Z3 eq2,Z3 (Ze0 rq2),Z2p,Zs4,Zs4,Z3 ek]
    dsimp only
    rw [Z3 (Zk5 bk ba br),Zf,Zf,Zg4 (Za5 _),Z0ai (Zap _) (Za5 _)]
def Zdf (l:api_Link):Bool:=decide (1≤l.gEpoch)&&decide (l.gEpoch≤64)
def Zhz (l:api_Link):List Int:=if Zdf l=true then [70,66,1,11,0,0,0,l.gEpoch]++tk l.gKey 0 32 else []
theorem Zj3 (l:api_Link):(Zhz l).length≤40:=by
  unfold Zhz
  split
  · rw [List.length_append,Z08]; simp
  · simp
theorem Z0ae {e:Int} (h0:1≤e) (h1:e≤64):IntKind.wrap .u32 e=e∧Z3e e=some [0,0,0,e]:=by
  have h : ∀ n:Fin 65,IntKind.wrap .u32 (n.val:Int)=(n.val:Int)∧Z3e (n.val:Int)=some [0,0,0,(n.val:Int)]:=by decide +kernel
  have:=h ⟨e.toNat,by omega⟩
  have e2:((e.toNat:Nat):Int)=e:=by omega
  simp only [e2] at this
  exact this
theorem Zrl {b xs:List Int} (h:b.length+xs.length≤140737488355328):Z4g ⟨b,0⟩ xs=some ⟨b++xs,0⟩:=by
  rw [Z4g,Z21 (by rfl),Z06 (by simpa using h),Zf]
theorem Zkr {b xs:List Int} (h:b.length+xs.length≤140737488355328):Z3c ⟨b,0⟩ xs=some ⟨b++xs,0⟩:=by
  rw [Z3c,Z3 (Zrl h)]
theorem Zqf {l:api_Link}:((decide (l.gEpoch<1))||(decide (l.gEpoch>64))) = !Zdf l:=by
  have h:((decide (l.gEpoch<1))||(decide (l.gEpoch>64)))=true↔(!Zdf l)=true   := by simp [Zdf]; try omega
  exact Bool.eq_iff_iff.2 h
theorem Zzj (l:api_Link):Z61 l=some (!Zdf l,Zhz l):=by
  have hl:(tk l.gKey 0 32).length=32:=Z08 _ _ _
  rw [Z61,Zqf]
  unfold Zhz
  cases hi:Zdf l
  · rfl
  · have h2:1≤l.gEpoch∧l.gEpoch≤64:=by simpa [Zdf] using hi
    obtain ⟨e1,e2⟩:=Z0ae h2.1 h2.2
    rw [Z1q (by rfl),Z3 (show Z89=some ⟨[],0⟩ from rfl),Z3 (show Zds 11=some (false,[70,66,1,11]) by kernel_rfl),Z3 (Zkr (by simp)),Zf,e1]
    rw [Z7i,e2,Z3 rfl,Z3 (Zrl (by simp)),Z3 rfl,Z3 (Zkr (by simp [hl])),Z6h,Z1q (by rfl)]
    rw [Z06 (by simp [hl]),Zf,Z3 rfl,Z06 (by simp [hl])]
    rfl
theorem Z0ep (s k:List Int) (e:Int) : ∃ a r kk,Sgn s (Zhz ⟨e,k,List.replicate 64 0⟩) a r kk∧Z9c s e k =
    some (if Zdf ⟨e,k,List.replicate 64 0⟩=true then (⟨e,k,Zmn (pB r)++byt ((Zdr kk*Zdr a+Zdr r)%VL)⟩,true) else (⟨0,List.replicate 32 0,List.replicate 64 0⟩,false)):=by
  have hL:=Zj3 ⟨e,k,List.replicate 64 0⟩
  obtain ⟨a,r,kk,h⟩:=Zvh s (m:=Zhz ⟨e,k,List.replicate 64 0⟩) (by omega)
  refine ⟨a,r,kk,h,?_⟩
  rw [Z9c,Zzj,Z3 rfl]
  cases hi:Zdf ⟨e,k,List.replicate 64 0⟩
  · rfl
  · dsimp only
    rw [Z1q (by rfl),Z3 h.sig]
    rfl
theorem walk {α:Type} (F:Nat→Nat→Option α) {j:Nat} {R:Option α} (hj:j<18446744073709551616) (hs : ∀ i f,i<j→F (f+1) i=F f (i+1)) (he : ∀ f,F (f+1) j=R):F big 0=R:=by
  have key : ∀ d i f,i+d=j→F (f+1+d) i=R:=by
    intro d
    induction d with
    | zero => intro i f h; obtain rfl : i = j := by omega
              exact he f
    | succ d ih=>intro i f h; rw [show f+1+(d+1)=(f+1+d)+1 by omega,hs i _ (by omega)]; exact ih (i+1) f (by omega)
  obtain ⟨f,hf⟩ : ∃ f,big=f+1+j:=⟨18446744073709551615-j,by have:big=18446744073709551616:=Z4i; omega⟩
  rw [hf]; exact key j 0 f (by omega)
theorem Zoe {α:Type} (F:Nat→Nat→Option α) {n:Nat} {p:Nat→Bool} {R:Nat→Option α} {E:Option α} (hn:n<18446744073709551616)
    (hs : ∀ i f,i<n→F (f+1) i=bif p i then R i else F f (i+1)) (he : ∀ f,F (f+1) n=E) :
    (∃ i,i<n∧p i=true∧(∀ j,j<i→p j=false)∧F big 0=R i)∨((∀ i,i<n→p i=false)∧F big 0=E):=by
  by_cases h : ∃ i,i<n∧p i=true
  · obtain ⟨i,hi⟩:=h
    have hex : ∃ i,i<n∧p i=true:=⟨i,hi⟩
    have hmin : ∃ i,i<n∧p i=true ∧ ∀ j,j<i→p j=false:=by
      clear hs he hex
      induction i using Nat.strongRecOn with
      | _ i ih =>
        by_cases h2 : ∃ j,j<i∧p j=true
        · obtain ⟨j,hj1,hj2⟩:=h2
          exact ih j hj1 ⟨by omega,hj2⟩
        · exact ⟨i,hi.1,hi.2,fun j hj=>by
            cases hp:p j with
            | false=>rfl
            | true=>exact absurd ⟨j,hj,hp⟩ h2⟩
    obtain ⟨i,h1,h2,h3⟩:=hmin
    refine .inl ⟨i,h1,h2,h3,walk F (j:=i) (by omega) (fun k f hk=>?_) (fun f=>?_)⟩
    · rw [hs k f (by omega),h3 k hk]; rfl
    · rw [hs i f h1,h2]; rfl
  · have h' : ∀ i,i<n→p i=false:=fun i hi=>by
      cases hp:p i with
      | false=>rfl
      | true=>exact absurd ⟨i,hi,hp⟩ h
    exact .inr ⟨h',walk F hn (fun k f hk=>by rw [hs k f hk,h' k hk]; rfl) he⟩
theorem Zml {i:Nat} (h:i<9223372036854775807):IntKind.wrap .i64 ((i:Int)+1)=((i+1:Nat):Int):=by rw [Zs (by omega) (by omega)]; omega
theorem br_c {β:Type} (c:Bool) (a b:Option β):br c a b=bif c then a else b:=rfl
def KeyOk (k:List Int):Prop:=Byt k∧k.length=32
def LkOk (l:api_Link):Prop:=KeyOk l.gKey∧Byt l.gSig∧l.gSig.length=64
def LksOk (xs:List api_Link):Prop:=∀ l∈xs,LkOk l
theorem Zjx {n:Nat} {a b:List Int} (ha:a.length=n) (hb:b.length=n):ieq n a b=decide (a=b):=by
  unfold ieq
  rw [show tk a 0 n=a by rw [← ha]; exact Zg4 rfl,show tk b 0 n=b by rw [← hb]; exact Zg4 rfl]
theorem Z6m {xs:List api_Link} (h:LksOk xs) {i:Nat} (hi:i<xs.length):LkOk (xs.getD i api_Link_z):=by
  rw [List.getD_eq_getElem?_getD,List.getElem?_eq_getElem hi]
  exact h _ (List.getElem_mem hi)
def eqL (a b:api_Link):Bool:=(a.gEpoch==b.gEpoch)&&((ieq 32 a.gKey b.gKey)&&(ieq 64 a.gSig b.gSig))
theorem Ze1 {a b:api_Link} (ha:LkOk a) (hb:LkOk b):eqL a b=true↔a=b:=by
  unfold eqL
  rw [Zjx ha.1.2 hb.1.2,Zjx ha.2.2 hb.2.2]
  cases a; cases b
  simp
theorem Zhn (a:api_Link):eqL a a=true:=by simp [eqL,ieq]
theorem Z9x {α:Type} {z:α} {xs:List α} {i:Nat} (h:i<xs.length):xs.getD i z=xs[i]:=by rw [List.getD_eq_getElem?_getD,List.getElem?_eq_getElem h]; rfl
def Zr4 (ks:List (List Int)):Prop:=∀ k∈ks,KeyOk k
theorem Zyh {ks:List (List Int)} {k:List Int} (h:Zr4 ks) (hk:KeyOk k):Zr4 (ks ++ [k]):=by
  intro x hx
  rcases List.mem_append.1 hx with h1 | h1
  · exact h x h1
  · rw [List.mem_singleton.1 h1]; exact hk
theorem kget {ks:List (List Int)} (h:Zr4 ks) {i:Nat} (hi:i<ks.length):KeyOk (ks.getD i (List.replicate 32 0)):=by
  rw [Z9x hi]; exact h _ (List.getElem_mem hi)
theorem Znj {ks:List (List Int)} {k z:List Int}:k∈ks ↔ ∃ i,i<ks.length∧k=ks.getD i z:=by
  rw [List.mem_iff_getElem]
  exact ⟨fun ⟨i,hi,e⟩=>⟨i,hi,by rw [Z9x hi,e]⟩,fun ⟨i,hi,e⟩=>⟨i,hi,by rw [e,Z9x hi]⟩⟩
theorem Z0en {ks:List (List Int)} {k:List Int} (h:Zr4 ks) (hk:KeyOk k) (hn:ks.length<9223372036854775807):Z0g ks k=some (decide (k∈ks)):=by
  rw [Z0g,Z1y,Z2p]
  rcases Zoe (fun f i=>Zr ks k (fun (_:Unit)=>some (-1)) f (i:Int)) (n:=ks.length) (p:=fun i=>decide (k=ks.getD i (List.replicate 32 0))) (R:=fun i=>some (i:Int)) (E:=some (-1)) (by omega)
    (fun i f hi=>by
      show Z02 ks k _ (Zr ks k _ f) _=_
      rw [Z02,Z21 (decide_eq_true (by omega)),Z06 (Z28 (by omega) (by omega)),Zf,Int.toNat_natCast,Zjx hk.2 (kget h hi).2,Zf,Zml (by omega),br_c])
    (fun f=>by
      show Z02 ks k _ _ _=_
      rw [Z02,Z1q (decide_eq_false (by omega))]) with ⟨i,h1,h2,h3,h4⟩ | ⟨h1,h2⟩
  · have h4':Zr ks k (fun (_:Unit)=>some (-1)) big 0=some (i:Int):=h4
    rw [h4',Z3 rfl]
    have hm:k∈ks:=Znj.2 ⟨i,h1,of_decide_eq_true h2⟩
    simp [hm]
  · have h2':Zr ks k (fun (_:Unit)=>some (-1)) big 0=some (-1):=h2
    rw [h2',Z3 rfl]
    have hm:k∉ks:=fun hc=>by
      obtain ⟨i,hi,e⟩:=(Znj (z:=List.replicate 32 0)).1 hc
      exact absurd e (of_decide_eq_false (h1 i hi))
    simp [hm]
def fol (V:List Int→api_Link→Bool):List Int→List (List Int)→List api_Link→List (List Int)×Int
  | _,ks,[]=>(ks,0)
  | ah,ks,l::r=>bif (l.gEpoch != (ks.length:Int))||decide (l.gKey∈ks) then ([],171) else bif !(V ah l) then ([],110) else fol V l.gKey (ks ++ [l.gKey]) r
def vf (k:List Int) (l:api_Link):Bool:=(Z4v k (Zhz l) l.gSig).getD false
def Z5k (root:List Int) (ls:List api_Link):List (List Int)×Int:=bif decide ((ls.length:Int)>64) then ([],1) else fol vf root [root] ls
theorem pver {k:List Int} {l:api_Link} (hk:KeyOk k) (hl:LkOk l):Z4v k (Zhz l) l.gSig=some (vf k l):=by
  obtain ⟨b,hb⟩:=Zmi (m:=Zhz l) hk.1 (by have:=Zj3 l; omega) hl.2.1
  unfold vf
  rw [hb]; rfl
theorem Zl3 {ls:List api_Link} (hl:LksOk ls) (hn:ls.length≤64) : ∀ (d i f:Nat) (ah:List Int) (ks:List (List Int)),i+d=ls.length→KeyOk ah→Zr4 ks→ks.length=i+1 →
    Z30 ls (f+1+d) (i:Int) ah ks=some (fol vf ah ks (ls.drop i))
  | 0,i,f,ah,ks,hi,ha,hk,hkl=>by
    show Z2z ls _ _ ah ks=_
    rw [Z2z,Z1q (decide_eq_false (by omega)),List.drop_eq_nil_of_le (by omega)]
    rfl
  | d+1,i,f,ah,ks,hi,ha,hk,hkl=>by
    show Z2z ls (Z30 ls (f+1+d)) _ ah ks=_
    have hlt:i<ls.length:=by omega
    have hx:=Z6m hl hlt
    have hd:ls.drop i=ls.getD i api_Link_z::ls.drop (i+1):=by rw [Z9x hlt]; exact List.drop_eq_getElem_cons hlt
    rw [Z2z,Z21 (decide_eq_true (by omega)),Z06 (Z28 (by omega) (by omega)),Zf,Int.toNat_natCast,hd,Z0en hk hx.1 (by omega),Z06 (by simp [imp])]
    show br ((((ls.getD i api_Link_z).gEpoch != (ks.length:Int))||decide ((ls.getD i api_Link_z).gKey∈ks))) _ _=_
    unfold fol
    cases hc:((ls.getD i api_Link_z).gEpoch != (ks.length:Int))||decide ((ls.getD i api_Link_z).gKey∈ks)
    · rw [Z1q rfl,Z3 (Zzj _)]
      dsimp only
      rw [Z3 (pver ha hx),cond_false]
      cases hv:vf ah (ls.getD i api_Link_z)
      · rfl
      · rw [Z1q (by rfl),Z06 (by simp; omega),Zf,Zf,Zml (by omega)]
        exact Zl3 hl hn d (i+1) f _ _ (by omega) hx.1 (Zyh hk hx.1) (by simp [hkl])
    · rfl
theorem Zfp {root:List Int} {ls:List api_Link} (hr:KeyOk root) (hl:LksOk ls):Z2h root ls=some (Z5k root ls):=by
  rw [Z2h]
  unfold Z5k
  cases hc:decide ((ls.length:Int)>64)
  · have hc':=of_decide_eq_false hc
    obtain ⟨f,hf⟩ : ∃ f,big=f+1+ls.length:=⟨18446744073709551615-ls.length,by have:big=18446744073709551616:=Z4i; omega⟩
    rw [Z1q rfl,hf]
    exact Zl3 hl (by omega) ls.length 0 f root [root] (by omega) hr (fun k hk=>by rw [List.mem_singleton.1 hk]; exact hr) rfl
  · rfl
theorem Zrg {V:List Int→api_Link→Bool} : ∀ {ls:List api_Link} {ah:List Int} {ks:List (List Int)} {r:List (List Int)} {i:Nat},fol V ah ks ls=(r,0)→ks.length=i+1→ah=ks.getD i (List.replicate 32 0) →
    r=ks++ls.map (·.gKey) ∧ ∀ j,j<ls.length→(ls.getD j api_Link_z).gEpoch=((i+j+1:Nat):Int)∧V (r.getD (i+j) (List.replicate 32 0)) (ls.getD j api_Link_z)=true
  | [],ah,ks,r,i,h,_,_=>by
    unfold fol at h
    injection h with h1 h2
    subst h1
    exact ⟨by simp,fun j hj=>absurd hj (Nat.not_lt_zero _)⟩
  | l::ls,ah,ks,r,i,h,hk,ha=>by
    unfold fol at h
    cases hc:(l.gEpoch != (ks.length:Int))||decide (l.gKey∈ks)
    · rw [hc,cond_false] at h
      simp only [Bool.or_eq_false_iff,bne_eq_false_iff_eq] at hc
      cases hv:V ah l
      · rw [hv] at h; simp at h
      · rw [hv] at h
        simp only [Bool.not_true,cond_false] at h
        obtain ⟨h1,h2⟩:=Zrg (i:=i+1) h (by simp [hk]) (by rw [← hk]; simp)
        refine ⟨by rw [h1]; simp,?_⟩
        intro j hj
        match j with
        | 0 =>
          refine ⟨by show l.gEpoch=_; rw [hc.1]; omega,?_⟩
          show V (r.getD i _) l=true
          have:r.getD i (List.replicate 32 0)=ah:=by
            rw [h1,ha,List.getD_eq_getElem?_getD,List.getD_eq_getElem?_getD,List.append_assoc,List.getElem?_append_left (by omega)]
          rw [this]; exact hv
        | j+1 =>
          have:=h2 j (by simpa using hj)
          rw [show i+1+j+1=i+(j+1)+1 by omega,show i+1+j=i+(j+1) by omega] at this
          exact this
    · rw [hc,cond_true] at h; injection h with _ h2; cases h2
theorem Zc7 {root:List Int} {ls:List api_Link} (h:(Z5k root ls).2=0):ls.length≤64∧(Z5k root ls).1=root::ls.map (·.gKey) ∧
    ∀ j,j<ls.length→(ls.getD j api_Link_z).gEpoch=((j+1:Nat):Int)∧vf ((root::ls.map (·.gKey)).getD j (List.replicate 32 0)) (ls.getD j api_Link_z)=true:=by
  unfold Z5k at h ⊢
  cases hc:decide ((ls.length:Int)>64)
  · rw [hc,cond_false] at h
    have hc':=of_decide_eq_false hc
    obtain ⟨h1,h2⟩:=Zrg (V:=vf) (ah:=root) (ks:=[root]) (ls:=ls) (r:=(fol vf root [root] ls).1) (i:=0) (Prod.ext rfl h) rfl rfl
    rw [cond_false]
    refine ⟨by omega,h1,fun j hj=>?_⟩
    have:=h2 j hj
    rw [h1] at this
    simpa using this
  · rw [hc] at h; cases h
theorem Zrf {V:List Int→api_Link→Bool} : ∀ {ls:List api_Link} {ah:List Int} {ks:List (List Int)},LksOk ls→Zr4 ks→Zr4 (fol V ah ks ls).1
  | [],_,_,_,h=>h
  | l::ls,ah,ks,hl,h=>by
    unfold fol
    cases hc:(l.gEpoch != (ks.length:Int))||decide (l.gKey∈ks)
    · rw [cond_false]
      cases hv:V ah l
      · exact fun k hk=>by cases hk
      · exact Zrf (fun x hx=>hl x (List.mem_cons_of_mem _ hx)) (Zyh h (hl l (List.mem_cons_self ..)).1)
    · exact fun k hk=>by cases hk
theorem Zpp {root:List Int} {ls:List api_Link} (hr:KeyOk root) (hl:LksOk ls):Zr4 (Z5k root ls).1:=by
  unfold Z5k
  cases hc:decide ((ls.length:Int)>64)
  · exact Zrf hl (fun k hk=>by rw [List.mem_singleton.1 hk]; exact hr)
  · exact fun k hk=>by cases hk
theorem Zh6 {p:List api_Link} (hb:p.length≤9223372036854775806):Zh p p=some true:=by
  rw [Zh,Z1q (by simp),Z2p]
  exact walk (fun f i=>Z0u p p (fun (_:Unit)=>some true) f (i:Int)) (j:=p.length) (by omega)
    (fun i f hi=>by
      show Z0t p p _ (Z0u p p _ f) _=_
      rw [Z0t,Z21 (decide_eq_true (by omega)),Z06 (Z28 (by omega) (by omega)),Zf,Z06 (Z28 (by omega) (by omega)),Zf,Z1q (by simp [ieq]),Zf,Zml (by omega)])
    (fun f=>by
      show Z0t p p _ _ _=_
      rw [Z0t,Z1q (decide_eq_false (by omega))])
theorem Ze8 {a b:List api_Link} (ha:LksOk a) (hb:LksOk b):a <+: b ↔ ∀ i,i<a.length→i<b.length∧eqL (a.getD i api_Link_z) (b.getD i api_Link_z)=true:=by
  rw [List.prefix_iff_getElem]
  constructor
  · rintro ⟨hl,h⟩ i hi
    refine ⟨by omega,?_⟩
    rw [Z9x hi,Z9x (show i<b.length by omega),h i hi]
    exact Zhn _
  · intro h
    have hl:a.length≤b.length:=by
      rcases Nat.lt_or_ge b.length a.length with h1 | h1
      · exact absurd (h b.length h1).1 (Nat.lt_irrefl _)
      · exact h1
    refine ⟨hl,fun i hi=>?_⟩
    have:=(Ze1 (Z6m ha hi) (Z6m hb (h i hi).1)).1 (h i hi).2
    rwa [Z9x hi,Z9x (h i hi).1] at this
open Classical in
theorem Znz {a b:List api_Link} (ha:LksOk a) (hb:LksOk b) (hn:a.length<9223372036854775807):Z62 a b=some (decide (a <+: b)):=by
  rw [Z62,Z2p]
  rcases Zoe (fun f i=>Z32 a b (fun (_:Unit)=>some true) f (i:Int)) (n:=a.length) (p:=fun i=>decide (b.length≤i) || !(eqL (a.getD i api_Link_z) (b.getD i api_Link_z))) (R:=fun i=>some false) (E:=some true) (by omega)
    (fun i f hi=>by
      show Z31 a b _ (Z32 a b _ f) _=_
      have e:decide ((i:Int)≥(b.length:Int))=decide (b.length≤i):=by
        by_cases h:b.length≤i
        · rw [decide_eq_true h,decide_eq_true (by omega)]
        · rw [decide_eq_false h,decide_eq_false (by omega)]
      rw [Z31,Z21 (decide_eq_true (by omega)),Z06 (Z28 (by omega) (by omega)),Zf,Int.toNat_natCast,e,Z06 (by
        by_cases h:b.length≤i
        · simp [imp,h]
        · simp [imp,h,inB]; omega),Zf,Zml (by omega),br_c]
      rfl)
    (fun f=>by
      show Z31 a b _ _ _=_
      rw [Z31,Z1q (decide_eq_false (by omega))]) with ⟨i,h1,h2,h3,h4⟩ | ⟨h1,h2⟩
  · have hm : ¬ a <+: b:=fun hc=>by
      have:=(Ze8 ha hb).1 hc i h1
      rw [this.2] at h2
      simp at h2; omega
    rw [decide_eq_false hm]; exact h4
  · have hm:a <+: b:=(Ze8 ha hb).2 fun i hi=>by
      have:=h1 i hi
      simp only [Bool.or_eq_false_iff,decide_eq_false_iff_not,Bool.not_eq_false'] at this
      exact ⟨by omega,this.2⟩
    rw [decide_eq_true hm]; exact h2
theorem Zow {a b:List api_Link} (ha:LksOk a) (hb:LksOk b) (hn:a.length<9223372036854775807) (hn2:b.length<9223372036854775807) :
    (∃ i,i<a.length∧i<b.length∧a.getD i api_Link_z≠b.getD i api_Link_z∧(∀ j,j<i→a.getD j api_Link_z=b.getD j api_Link_z)∧Z2c a b=some (i:Int)) ∨
    ((a <+: b∨b <+: a)∧Z2c a b=some (-1)):=by
  have hm1:min a.length b.length≤a.length:=Nat.min_le_left _ _
  have hm2:min a.length b.length≤b.length:=Nat.min_le_right _ _
  rw [Z2c,Z2p]
  rcases Zoe (fun f i=>Z18 a b (fun (_:Unit)=>some (-1)) f (i:Int)) (n:=min a.length b.length) (p:=fun i => !(eqL (a.getD i api_Link_z) (b.getD i api_Link_z))) (R:=fun i=>some (i:Int)) (E:=some (-1)) (by omega)
    (fun i f hi=>by
      show Z17 a b _ (Z18 a b _ f) _=_
      rw [Z17,Z21 (by simp; omega),Z06 (Z28 (by omega) (by omega)),Zf,Z06 (Z28 (by omega) (by omega)),Zf,Int.toNat_natCast,Zf,Zml (by omega),br_c]
      rfl)
    (fun f=>by
      show Z17 a b _ _ _=_
      rw [Z17,Z1q (by simp; omega)]) with ⟨i,h1,h2,h3,h4⟩ | ⟨h1,h2⟩
  · refine .inl ⟨i,by omega,by omega,?_,?_,h4⟩
    · intro e
      rw [(Ze1 (Z6m ha (by omega)) (Z6m hb (by omega))).2 e] at h2; cases h2
    · intro j hj
      have:=h3 j hj
      rw [Bool.not_eq_false'] at this
      exact (Ze1 (Z6m ha (by omega)) (Z6m hb (by omega))).1 this
  · refine .inr ⟨?_,h2⟩
    have key : ∀ j,j<min a.length b.length→a.getD j api_Link_z=b.getD j api_Link_z:=fun j hj=>by
      have:=h1 j hj
      rw [Bool.not_eq_false'] at this
      exact (Ze1 (Z6m ha (by omega)) (Z6m hb (by omega))).1 this
    rcases Nat.le_total a.length b.length with h | h
    · refine .inl ((Ze8 ha hb).2 fun i hi=>⟨by omega,?_⟩)
      rw [key i (by omega)]; exact Zhn _
    · refine .inr ((Ze8 hb ha).2 fun i hi=>⟨by omega,?_⟩)
      rw [key i (by omega)]; exact Zhn _
open Classical in
noncomputable def Z04 (root:List Int) (a b:List api_Link):List api_Link×Int :=
  if (Z5k root a).2≠0 then ([],(Z5k root a).2) else if (Z5k root b).2≠0 then ([],(Z5k root b).2) else if a <+: b then (b,0) else if b <+: a then (a,0) else ([],171)
theorem Zko {a:List api_Link} (h:a.length≤64):Z0l a=some a:=by
  rw [Z0l,Z06 (by simp; omega)]
open Classical in
theorem Zfs {root:List Int} {a b:List api_Link} (hr:KeyOk root) (ha:LksOk a) (hb:LksOk b):Z2t root a b=some (Z04 root a b):=by
  obtain ⟨f,hf⟩ : ∃ f,big=f+3:=⟨18446744073709551613,Z4i⟩
  have l2:(([a,b]:List (List api_Link)).length:Int)=2:=rfl
  rw [Z2t,Z2p,hf]
  show Z25 root a b _ (Z2u root a b _ (f+2)) 0=_
  rw [Z25,l2,Z21 (by decide),Z06 (by rfl)]
  show opt (Z2h root a) _=_
  rw [Z3 (Zfp hr ha)]
  unfold Z04
  by_cases h1:(Z5k root a).2≠0
  · rw [Z21 (by simpa using h1),if_pos h1]
  · have h1':(Z5k root a).2=0:=Classical.not_not.1 h1
    rw [Z1q (by simpa using h1'),if_neg h1,Zf,show IntKind.wrap .i64 (0+1)=1 by decide]
    show Z25 root a b _ (Z2u root a b _ (f+1)) 1=_
    rw [Z25,l2,Z21 (by decide),Z06 (by rfl)]
    show opt (Z2h root b) _=_
    rw [Z3 (Zfp hr hb)]
    by_cases h2:(Z5k root b).2≠0
    · rw [Z21 (by simpa using h2),if_pos h2]
    · have h2':(Z5k root b).2=0:=Classical.not_not.1 h2
      have la:=(Zc7 h1').1
      have lb:=(Zc7 h2').1
      rw [Z1q (by simpa using h2'),if_neg h2,Zf,show IntKind.wrap .i64 (1+1)=2 by decide]
      show Z25 root a b _ (Z2u root a b _ f) 2=_
      rw [Z25,l2,Z1q (by decide),Z3 (Znz ha hb (by omega))]
      by_cases h3:a <+: b
      · rw [Z21 (decide_eq_true h3),if_pos h3,Z3 (Zko lb)]
      · rw [Z1q (decide_eq_false h3),if_neg h3,Z3 (Znz hb ha (by omega))]
        by_cases h4:b <+: a
        · rw [Z21 (decide_eq_true h4),if_pos h4,Z3 (Zko la)]
        · rw [Z1q (decide_eq_false h4),if_neg h4]
theorem Zgx {root:List Int} {a b:List api_Link} (ha:LksOk a) (hb:LksOk b):LksOk (Z04 root a b).1:=by
  unfold Z04
  split
  · exact fun l hl=>by cases hl
  · split
    · exact fun l hl=>by cases hl
    · split
      · exact hb
      · split
        · exact ha
        · exact fun l hl=>by cases hl
theorem Zbo {root:List Int} {a b:List api_Link} (h:(Z04 root a b).2=0):(Z5k root a).2=0∧(Z5k root b).2=0∧((a <+: b∧(Z04 root a b).1=b)∨(b <+: a∧(Z04 root a b).1=a)):=by
  unfold Z04 at h ⊢
  by_cases h1:(Z5k root a).2≠0
  · rw [if_pos h1] at h; exact absurd h h1
  · rw [if_neg h1] at h ⊢
    by_cases h2:(Z5k root b).2≠0
    · rw [if_pos h2] at h; exact absurd h h2
    · rw [if_neg h2] at h ⊢
      refine ⟨Classical.not_not.1 h1,Classical.not_not.1 h2,?_⟩
      by_cases h3:a <+: b
      · rw [if_pos h3]; exact .inl ⟨h3,rfl⟩
      · rw [if_neg h3] at h ⊢
        by_cases h4:b <+: a
        · rw [if_pos h4]; exact .inr ⟨h4,rfl⟩
        · rw [if_neg h4] at h; cases h
theorem Z8y {root:List Int} {a b:List api_Link} (h1:(Z5k root a).2=0) (h2:(Z5k root b).2=0) (h:a <+: b∨b <+: a):(Z04 root a b).2=0∧a <+: (Z04 root a b).1∧b <+: (Z04 root a b).1∧((Z04 root a b).1=a∨(Z04 root a b).1=b):=by
  unfold Z04
  rw [if_neg (by simpa using h1),if_neg (by simpa using h2)]
  by_cases h3:a <+: b
  · rw [if_pos h3]; exact ⟨rfl,h3,List.prefix_rfl,.inr rfl⟩
  · have h4:b <+: a:=h.resolve_left h3
    rw [if_neg h3,if_pos h4]; exact ⟨rfl,List.prefix_rfl,h4,.inl rfl⟩
theorem Zl6 {a b:List api_Link} (h1:a <+: b) (h2:b <+: a):a=b:=h1.eq_of_length_le h2.length_le
theorem Zjm {root:List Int} {a b c:List api_Link} (hr:KeyOk root) (ha:LksOk a) (hb:LksOk b) (hc:LksOk c):Z2n root a b c=some true:=by
  rw [Z2n,Z3 (Zfs hr ha hb),Z3 (Zfs hr hb hc),Z3 (Zfs hr ha hc)]
  by_cases h0:(Z04 root a b).2=0∧(Z04 root b c).2=0∧(Z04 root a c).2=0
  · obtain ⟨h1,h2,h3⟩:=h0
    rw [Z1q (by simp [h1,h2,h3]),Z3 (Zfs hr (Zgx ha hb) hc),Z3 (Zfs hr ha (Zgx hb hc))]
    obtain ⟨fa,fb,ab⟩:=Zbo h1
    obtain ⟨_,fc,bc⟩:=Zbo h2
    obtain ⟨_,_,ac⟩:=Zbo h3
    have cab:a <+: b∨b <+: a:=ab.imp (·.1) (·.1)
    have cbc:b <+: c∨c <+: b:=bc.imp (·.1) (·.1)
    have cac:a <+: c∨c <+: a:=ac.imp (·.1) (·.1)
    obtain ⟨_,p1,p2,p3⟩:=Z8y fa fb cab
    obtain ⟨_,q1,q2,q3⟩:=Z8y fb fc cbc
    have fab:(Z5k root (Z04 root a b).1).2=0:=by rcases p3 with e | e <;> rw [e] <;> assumption
    have fbc:(Z5k root (Z04 root b c).1).2=0:=by rcases q3 with e | e <;> rw [e] <;> assumption
    have c1:(Z04 root a b).1 <+: c∨c <+: (Z04 root a b).1:=by rcases p3 with e | e <;> rw [e] <;> assumption
    have c2:a <+: (Z04 root b c).1∨(Z04 root b c).1 <+: a:=by rcases q3 with e | e <;> rw [e] <;> assumption
    obtain ⟨u0,u1,u2,u3⟩:=Z8y fab fc c1
    obtain ⟨v0,v1,v2,v3⟩:=Z8y fa fbc c2
    have e:(Z04 root (Z04 root a b).1 c).1=(Z04 root a (Z04 root b c).1).1:=by
      have xa:=p1.trans u1
      have xb:=p2.trans u1
      have yb:=q1.trans v2
      have yc:=q2.trans v2
      refine Zl6 ?_ ?_
      · rcases u3 with e | e
        · rw [e]
          rcases p3 with e2 | e2
          · rw [e2]; exact v1
          · rw [e2]; exact yb
        · rw [e]; exact yc
      · rcases v3 with e | e
        · rw [e]; exact xa
        · rw [e]
          rcases q3 with e2 | e2
          · rw [e2]; exact xb
          · rw [e2]; exact u2
    have hl:(Z04 root a (Z04 root b c).1).1.length≤64:=by
      rcases v3 with e | e
      · rw [e]; exact (Zc7 fa).1
      · rw [e]; exact (Zc7 fbc).1
    rw [e,Zh6 (by omega),u0,v0]
    rfl
  · have h0':((((Z04 root a b).2 != 0)||((Z04 root b c).2 != 0))||((Z04 root a c).2 != 0))=true:=by
      cases hh:((((Z04 root a b).2 != 0)||((Z04 root b c).2 != 0))||((Z04 root a c).2 != 0)) with
      | true=>rfl
      | false =>
        simp only [Bool.or_eq_false_iff,bne_eq_false_iff_eq] at hh
        exact absurd ⟨hh.1.1,hh.1.2,hh.2⟩ h0
    rw [Z21 h0']
theorem Zr1:Z0i=some true:=by
  have hk5:KeyOk [5,0,0,0,0,0,0,0,0,0,0,0,0,0,0,0,0,0,0,0,0,0,0,0,0,0,0,0,0,0,0,0]:=⟨byt_of (by decide),rfl⟩
  rw [Z0i,Zf,Z3 (Zfp (ls:=[]) hk5 (fun l hl=>by cases hl)),Zf,Zf]
  have e1:Z5k [5,0,0,0,0,0,0,0,0,0,0,0,0,0,0,0,0,0,0,0,0,0,0,0,0,0,0,0,0,0,0,0] []=([[5,0,0,0,0,0,0,0,0,0,0,0,0,0,0,0,0,0,0,0,0,0,0,0,0,0,0,0,0,0,0,0]],0):=rfl
  obtain ⟨_,_,_,_,e2⟩:=Z0ep [1,0,0,0,0,0,0,0,0,0,0,0,0,0,0,0,0,0,0,0,0,0,0,0,0,0,0,0,0,0,0,0] [6,0,0,0,0,0,0,0,0,0,0,0,0,0,0,0,0,0,0,0,0,0,0,0,0,0,0,0,0,0,0,0] 1
  rw [if_pos (by decide)] at e2
  rw [Z3 e2,Z2p,e1,Z06 (by rfl),Z21 (by rfl),Z3 (Zzj _)]
  rfl
theorem Zpq {root:List Int} {a b:List api_Link} {i:Nat} (h : ∀ j,j<i→a.getD j api_Link_z=b.getD j api_Link_z) (ha:i≤a.length) (hb:i≤b.length) :
    (root::a.map (·.gKey)).getD i (List.replicate 32 0)=(root::b.map (·.gKey)).getD i (List.replicate 32 0):=by
  match i with
  | 0=>rfl
  | i+1 =>
    have:=h i (Nat.lt_succ_self _)
    rw [Z9x (show i<a.length by omega),Z9x (show i<b.length by omega)] at this
    simp [List.getD_eq_getElem?_getD,List.getElem?_eq_getElem (show i<a.length by omega),List.getElem?_eq_getElem (show i<b.length by omega),this]
theorem rotateOneWay_eq {root:List Int} {a b c:List api_Link} (hr:KeyOk root) (ha:LksOk a) (hb:LksOk b) (hc:LksOk c):Z2f root a b c=some true:=by
  rw [Z2f,Z3 (Zjm hr ha hb hc),Z1q (by rfl),Z3 (Zfp hr ha),Z3 (Zfp hr hb),Z3 (Zfs hr ha hb),Z3 (Zfs hr hb ha),Zr1]
  by_cases h0:(Z5k root a).2=0∧(Z5k root b).2=0
  · obtain ⟨fa,fb⟩:=h0
    obtain ⟨la,ka,oa⟩:=Zc7 fa
    obtain ⟨lb,kb,ob⟩:=Zc7 fb
    rw [Z1q (by simp [fa,fb])]
    rcases Zow ha hb (by omega) (by omega) with ⟨i,i1,i2,i3,i4,hu⟩ | ⟨hp,hu⟩
    · rw [Z3 hu,Z1q (decide_eq_false (by omega))]
      have hne : ¬ a <+: b:=fun hpre=>i3 ((Ze1 (Z6m ha i1) (Z6m hb i2)).1 ((Ze8 ha hb).1 hpre i i1).2)
      have hne2 : ¬ b <+: a:=fun hpre=>i3 ((Ze1 (Z6m hb i2) (Z6m ha i1)).1 ((Ze8 hb ha).1 hpre i i2).2).symm
      have m1:Z04 root a b=([],171):=by unfold Z04; rw [if_neg (by simpa using fa),if_neg (by simpa using fb),if_neg hne,if_neg hne2]
      have m2:Z04 root b a=([],171):=by unfold Z04; rw [if_neg (by simpa using fb),if_neg (by simpa using fa),if_neg hne2,if_neg hne]
      have hka:(Z5k root a).1.length=a.length+1:=by rw [ka]; simp
      have ea:=(oa i i1).1
      have eb:=(ob i i2).1
      have va:=(oa i i1).2
      have vb:=(ob i i2).2
      rw [← Zpq i4 (by omega) (by omega)] at vb
      have kx:KeyOk ((root::a.map (·.gKey)).getD i (List.replicate 32 0)):=by
        have:=kget (Zpp hr ha) (i:=i) (by omega)
        rwa [ka] at this
      rw [m1,m2,Z06 (by simp [imp,inB]; omega),Z06 (by simp [imp,inB]; omega)]
      rw [Z1q (by
        rw [Int.toNat_natCast,ea,eb,Zml (by omega)]
        simp; omega)]
      rw [Z2p,Z06 (Z28 (by omega) (by omega)),Zf,Z06 (Z28 (by omega) (by omega)),Zf,Z06 (Z28 (by omega) (by omega)),Zf,Z3 (Zzj _)]
      dsimp only
      rw [Int.toNat_natCast,ka,Z3 (pver kx (Z6m ha i1)),Z21 va,Z06 (Z28 (by omega) (by simp; omega)),Zf,Z06 (Z28 (by omega) (by omega)),Zf,Z06 (Z28 (by omega) (by omega)),Zf,Z3 (Zzj _)]
      dsimp only
      rw [Z3 (pver kx (Z6m hb i2)),vb]
      rfl
    · obtain ⟨z1,p1,p2,p3⟩:=Z8y fa fb hp
      obtain ⟨z2,q1,q2,q3⟩:=Z8y fb fa hp.symm
      have hll:(Z04 root b a).1=(Z04 root a b).1:=by
        refine Zl6 ?_ ?_
        · rcases q3 with e | e <;> rw [e] <;> assumption
        · rcases p3 with e | e <;> rw [e] <;> assumption
      have hlen:(Z04 root a b).1.length≤64:=by rcases p3 with e | e <;> rw [e] <;> assumption
      rw [Z3 hu,Z21 (by decide),Z2p,z1,z2,hll]
      have fin : ∀ l,l=(Z04 root a b).1→((fun (l48:List api_Link)=>chk (imp (((0:Int)==0)&&((0:Int)==0)) ((Zh (Z04 root a b).1 l48).isSome)) <|
          chk (imp ((((0:Int)==0)&&((0:Int)==0))&&((Zh (Z04 root a b).1 l48).getD false)) ((Zh (Z04 root a b).1 l48).isSome)) <|
          chk (imp (((((0:Int)==0)&&((0:Int)==0))&&((Zh (Z04 root a b).1 l48).getD false))&&((Zh (Z04 root a b).1 l48).getD false)) ((some true).isSome)) <|
          some ((((((0:Int)==0)&&((0:Int)==0))&&((Zh (Z04 root a b).1 l48).getD false))&&((Zh (Z04 root a b).1 l48).getD false))&&((some true).getD false))) l:Option Bool)=some true:=by
        rintro l rfl
        simp only [Zh6 (show (Z04 root a b).1.length≤9223372036854775806 by omega)]
        rfl
      by_cases hlt:a.length<b.length
      · rw [Z21 (decide_eq_true (by omega))]
        refine fin b ?_
        rcases p3 with e | e
        · have:=p2.length_le; rw [e] at this; omega
        · exact e.symm
      · rw [Z1q (decide_eq_false (by omega))]
        refine fin a ?_
        rcases p3 with e | e
        · exact e.symm
        · rw [e]; exact (p1.eq_of_length_le (by rw [e]; omega)).trans e
  · have hm : ∀ {x y:List api_Link},¬ ((Z5k root x).2=0∧(Z5k root y).2=0)→(Z04 root x y).1 = []∧(Z04 root x y).2≠0:=by
      intro x y h
      unfold Z04
      by_cases h1:(Z5k root x).2≠0
      · rw [if_pos h1]; exact ⟨rfl,h1⟩
      · rw [if_neg h1]
        have h2:(Z5k root y).2≠0:=fun h2=>h ⟨Classical.not_not.1 h1,h2⟩
        rw [if_pos h2]; exact ⟨rfl,h2⟩
    obtain ⟨e1,n1⟩:=hm h0
    obtain ⟨e2,n2⟩:=hm (x:=b) (y:=a) (fun h=>h0 h.symm)
    have hb0:(((Z5k root a).2 != 0)||((Z5k root b).2 != 0))=true:=by
      cases h1:((Z5k root a).2 != 0) <;> cases h2:((Z5k root b).2 != 0) <;> first | rfl | skip
      exact absurd ⟨by simpa using h1,by simpa using h2⟩ h0
    rw [Z21 hb0,e1,e2,Z06 (by simp [imp])]
    simp [n1,n2]
end Go.Proofs.YtiflckckekjbnaaGreatDoor
namespace Go.Sx
open Go Go.RowKit Go.ChangeShapes
set_option linter.all false
section
variable {H:Type} {enc:TypeId×Value→H}
theorem Zd6 {P:Program} (hl:laidOutB P=true) {W W':World} (hb:Below W.heap.size W W') :
    ∀ {ts:List TypeId} {vs:List Value} {ds:List (DataW H)} {ps:List MemPlace},(ts.all fun t=>P.readableRec t&&decide (t<P.types.size))=true→(∀ x∈ps,x.block<W.heap.size) →
      DataW.TrodAll enc P W 0 (fun _=>true) true ts vs ds ps→DataW.TrodAll enc P W' 0 (fun b=>decide (b<W.heap.size)) true ts vs ds ps
  | [],[],[],_,_,_,h=>h
  | t::ts,v::vs,d::ds,ps,hr,hlt,h=>by
    obtain ⟨p,q,h1,h2,rfl⟩:=h
    simp only [List.all_cons,Bool.and_eq_true,decide_eq_true_eq] at hr
    exact ⟨p,q,Below.trod hl hr.1.1 hr.1.2 h1 hb (fun x hx=>hlt x (by simp [hx])),Zd6 hl hb hr.2 (fun x hx=>hlt x (by simp [hx])) h2,rfl⟩
  | [],_::_,_,_,_,_,h=>h.elim
  | [],[],_::_,_,_,_,h=>h.elim
  | _::_,[],_,_,_,_,h=>h.elim
  | _::_,_::_,[],_,_,_,h=>h.elim
def LawAt (P:Program) (f:FuncId) (args:Array Value) (W:World):Prop:=Calls P f args W fun e w'=>e = .returned (.bool true)∧Below W.heap.size W w'
theorem Zax {P:Program} {W:World} {base:Nat} {sp:Nat→Bool} {held:Bool} : ∀ {ts:List TypeId} {vs:List Value} {ds:List (DataW H)} {ps:List MemPlace},DataW.TrodAll enc P W base sp held ts vs ds ps→ds.length=ts.length∧vs.length=ts.length
  | [],[],[],_,_=>⟨rfl,rfl⟩
  | t::ts,v::vs,d::ds,ps,h=>by
    obtain ⟨p,q,_,h2,_⟩:=h
    have:=Zax h2
    simp [this]
  | [],_::_,_,_,h=>h.elim
  | [],[],_::_,_,h=>h.elim
  | _::_,[],_,_,h=>h.elim
  | _::_,_::_,[],_,h=>h.elim
theorem Zpr {C:Checked} {f:FuncId} {fn:Func} {s:ChangeSpec} {tb:TypeId} (hvars:s.vars = [])
    (hs : ∀ ds:List (DataW H),ds.length=fn.params.size→s.fn H ds = { results:=[.lit (.bool true)],args:=ds }) (hres:fn.resultTypes = #[tb]) (htb:C.prog.underlying tb=some .bool)
    (hl:laidOutB C.prog=true) (hpar:(fn.params.toList.all fun t=>C.prog.readableRec t&&decide (t<C.prog.types.size))=true)
    {W:World} {args:Array Value} {ds gs:List (DataW H)} {before:List MemPlace} (hW:DataW.Whole enc C.prog fn.params.toList s.vars false W args.toList ds gs before)
    (h:LawAt C.prog f args W):Calls C.prog f args W fun e W'=>∃ v,e = .returned v∧s.post enc C.prog fn false true false false W args v W':=by
  have hW':=hW
  have hlt:=hW.lt
  obtain ⟨p,q,hA,hV,rfl,hfz,hnd⟩:=hW
  rw [hvars] at hV
  obtain ⟨rfl,rfl⟩:=trodVars_none hV
  refine h.mono fun e W' ⟨he,bel⟩=>⟨_,he,ds,[],p ++ [],[],p,[],hW',?_,?_,?_,bel.frame _,fun h=>by cases h⟩
  · rw [List.append_nil,hs ds (by simpa using (Zax hA).1),hres]
    exact trodAll_mk1 (shut_bool htb true)
  · rw [List.append_nil,hs ds (by simpa using (Zax hA).1)]
    exact Zd6 hl bel hpar (fun x hx=>hlt x (by simp [hx])) hA
  · rw [List.append_nil,hs ds (by simpa using (Zax hA).1),hvars]
    rfl
structure Given (C:Checked) (fn:Func) (W:World) (args:Array Value):Prop where
  wide : ∃ base,∀ (j:Nat) t v,fn.params[j]? = some t→args[j]? = some v→Value.okWide C.prog W .any base t v
  read : ∃ (H:Type) (enc:TypeId×Value→H) (ds:List (DataW H)) (p:List MemPlace),DataW.TrodAll enc C.prog W 0 (fun _=>true) true fn.params.toList args.toList ds p ∧
    ((DataW.weightsEach C.prog fn.params.toList ds).all (· ≤ reachBytes)=true)
theorem law_laid {C:Checked} {os:Os} {f:FuncId} {fn:Func} {s:ChangeSpec} {tb:TypeId} {conds:List PathCond} {laid:List (String×DataW Unit)}
    (own:ownKnob C.prog.godebug=none) (started:os.Started) (noInit:C.prog.inits.idxOf? f=none) (hfn:C.prog.funcs[f]? = some fn) (hvars:s.vars = [])
    (hs : ∀ ds:List (DataW H),ds.length=fn.params.size→s.fn H ds = { results:=[.lit (.bool true)],args:=ds }) (hres:fn.resultTypes = #[tb]) (htb:C.prog.underlying tb=some .bool)
    (hl:laidOutB C.prog=true) (hpar:(fn.params.toList.all fun t=>C.prog.readableRec t&&decide (t<C.prog.types.size))=true)
    (witness : ∃ (w:World) (tape:Tape) (i:Input),w.os=os∧(w.forCall tape i).Shaped C.prog∧i.vars = []∧Input.okWide C.prog (w.forCall tape i) .any w.heap.size f i ∧
      ((s.pre enc C.prog fn conds false (w.forCall tape i).memory i.args∧laidMetH C.prog laid (w.forCall tape i).memory)∧sizedMet enc C.prog fn (OpenSpec.ofChange s) false (w.forCall tape i).memory i.args)∧({}:Assume).holds C.prog (lone (Frame.enter C.prog f i.args .normal) [] (w.forCall tape i)))
    (h : ∀ (W:World) (args:Array Value),laidMetH C.prog laid W→Given C fn W args→LawAt C.prog f args W) :
    ReturnsInHanded {} C os f .any (fun w args=>(s.pre enc C.prog fn conds false w args∧laidMetH C.prog laid w)∧sizedMet enc C.prog fn (OpenSpec.ofChange s) false w args) (s.post enc C.prog fn false true false false):=by
  refine returnsInHanded_of_change_and (X:=fun w _=>laidMetH C.prog laid w) (fun _ _ _ hh h=>h.of_heap hh) own started noInit hfn witness ?_
  intro W base args ds gs before hval hW _ hsz hL _
  refine Zpr hvars hs hres htb hl hpar hW (h W args hL ⟨⟨base,hval⟩,?_⟩)
  obtain ⟨p,q,hA,hV,rfl,hfz,hnd⟩:=hW
  rw [hvars] at hV
  obtain ⟨rfl,rfl⟩:=trodVars_none hV
  refine ⟨H,enc,ds,p,hA,?_⟩
  simpa [ChangeSpec.plain,DataSpec.varTypes,hvars] using hsz
end
theorem Zih {H:Type} {enc:TypeId×Value→H} {P:Program} {W:World} {n:Nat} {t:TypeId} {v:Value} {d:DataW H} {p:List MemPlace} {L:Lay}
    (hL:lay P n t .nil=some L) (h:DataW.Trod enc P W 0 (fun _=>true) true t v d p):Fits W maxLen L v.cells.toList:=by
  obtain ⟨fuel,hf⟩:=h
  have:=Zot (Small.all) n t .nil L hL fuel v.cells.toList d p hf trivial [] rfl
  simpa using this
def Open (C:Checked) (W:World) (n:Nat):List TypeId→List Value→Prop
  | [],vs=>vs = []
  | t::ts,vs=>∃ v vs',vs=v::vs'∧(∃ base,Value.okWide C.prog W .any base t v)∧(∀ L,lay C.prog n t .nil=some L→Fits W maxLen L v.cells.toList)∧Open C W n ts vs'
theorem Given.open {C:Checked} {fn:Func} {W:World} {args:Array Value} (h:Given C fn W args) (n:Nat):Open C W n fn.params.toList args.toList:=by
  obtain ⟨⟨base,hw⟩,⟨H,enc,ds,p,hA,_⟩⟩:=h
  have key : ∀ (ts:List TypeId) (vs:List Value) (ds:List (DataW H)) (p:List MemPlace),DataW.TrodAll enc C.prog W 0 (fun _=>true) true ts vs ds p →
      (∀ (j:Nat) t v,ts[j]? = some t→vs[j]? = some v→Value.okWide C.prog W .any base t v)→Open C W n ts vs:=by
    intro ts
    induction ts with
    | nil =>
      intro vs ds p h _
      cases vs with
      | nil=>rfl
      | cons v vs=>cases ds <;> exact h.elim
    | cons t ts ih =>
      intro vs ds p h hv
      cases vs with
      | nil=>cases ds <;> exact h.elim
      | cons v vs =>
        cases ds with
        | nil=>exact h.elim
        | cons d ds =>
          obtain ⟨p1,q1,h1,h2,rfl⟩:=h
          exact ⟨v,vs,rfl,⟨base,hv 0 t v rfl rfl⟩,fun L hL=>Zih hL h1,ih vs ds q1 h2 fun j t v h3 h4=>hv (j+1) t v h3 h4⟩
  exact key _ _ ds p hA fun j t v h1 h2=>hw j t v (by simpa using h1) (by simpa using h2)
theorem wide_one {P:Program} {W:World} {base:Nat} {t:TypeId} {v x:Value} (hw:Value.okWide P W .any base t v) (hn:(match P.underlying t with | some (.struct _) | some (.array _ _)=>false | _=>true)=true)
    (h:v.cells.toList = [x]):v=x:=by
  cases v with
  | agg cs =>
    exfalso
    unfold Value.okWide at hw
    split at hw
    · rename_i hu; rw [hu] at hn; cases hn
    · rename_i hu; rw [hu] at hn; cases hn
    · unfold Cell.okWide at hw
      split at hw <;> first | (rename_i h2; cases h2; done) | skip
      simp only [Cell.ok] at hw
      split at hw <;> simp_all
  | _=>simpa [Value.cells] using h
theorem wide_agg {P:Program} {W:World} {base:Nat} {t:TypeId} {v:Value} (hw:Value.okWide P W .any base t v) (hn:(match P.underlying t with | some (.struct _) | some (.array _ _)=>true | _=>false)=true):v = .agg v.cells.toList.toArray:=by
  unfold Value.okWide at hw
  split at hw
  · obtain ⟨cs,rfl,_⟩:=hw; simp [Value.cells]
  · obtain ⟨cs,rfl,_⟩:=hw; simp [Value.cells]
  · rename_i h1 h2
    split at hn
    · rename_i hu; exact absurd hu (h1 _)
    · rename_i hu; exact absurd hu (h2 _ _)
    · cases hn
theorem Zij {k:IntKind} {cs:List Value} {xs:List Int} (hl:cs.length=xs.length) (h : ∀ i,i<xs.length→cs[i]? = some (.int k (xs.getD i 0))):cs=intsCells k xs.length xs:=by
  apply List.ext_getElem?
  intro i
  by_cases hi:i<xs.length
  · rw [h i hi]
    simp [intsCells,hi]
  · rw [List.getElem?_eq_none (by omega),List.getElem?_eq_none (by simp [intsCells]; omega)]
theorem laid_ints {P:Program} {W:World} {l:List (String×DataW Unit)} (h:laidMet P l W) {name:String} {k:IntKind} {xs:List Int} (hm:(name,DataW.agg (xs.map fun x=>.lit (.int k x)))∈l) {g:Nat} {t e:TypeId} {m:Nat}
    (hg:P.globalNamed name=some g) (ht:(P.globals[g]?).map (·.type)=some t) (hu:P.underlying t=some (.array m e)) (he:P.underlying e=some (.int k)) (hc:P.cellsOf e=1) (hn:P.cellsOf t=m) (h0:0<m) :
    Mem W g 0 [.ints k xs.length xs]:=by
  obtain ⟨ps,hv,-,-⟩:=h
  induction l generalizing ps with
  | nil=>cases hm
  | cons x l ih =>
    obtain ⟨n,d⟩:=x
    obtain ⟨g',t',cs,fuel,p,q,h1,h2,h3,h4,h5,_⟩:=hv
    rcases List.mem_cons.1 hm with hx | hx
    · cases hx
      obtain rfl:g'=g:=Option.some.inj (h1.symm.trans hg)
      obtain rfl:t'=t:=Option.some.inj (h2.symm.trans ht)
      obtain ⟨ys,m',_,hy,hlen,hyl,hel⟩:=DataW.trod_array hu h4
      simp only [Prod.mk.injEq,DataW.agg.injEq] at hy
      have hm':m=xs.length:=by rw [← hyl]; have:=congrArg List.length hy.1; simpa using this.symm
      have hcs:cs.toList=intsCells k xs.length xs:=by
        refine Zij (by omega) fun i hi=>?_
        have h6:=hel i (by omega)
        have h7:i<ys.length:=by omega
        rw [List.getElem?_eq_getElem h7] at h6
        obtain ⟨z,h8,h9,_⟩:=DataW.trod_int he h6
        have h10:(ys.map (·.1))[i]? = some (.lit (.int k (xs.getD i 0))):=by rw [← hy.1]; simp [hi]
        rw [List.getElem?_map,List.getElem?_eq_getElem h7,Option.map_some,h9] at h10
        simp only [Option.some.injEq,DataW.lit.injEq,Lit.int.injEq,true_and] at h10
        subst h10
        rw [hc] at h8
        have:=congrArg (fun l=>l[0]?) h8
        simpa using this
      refine Zbn (n:=xs.length) (cs:=cs.toList) (fun i hi=>?_) (by rw [hlen,hn,hm']) (by omega) (by rw [hcs]; simp [cells,Seg.cells]) (by simp [width,Seg.width])
      have:=World.var?_cell hg h3 i
      simpa using this
    · exact ih hx _ h5
end Go.Sx
namespace Go.Sx
open Go Go.RowKit
set_option linter.all false
theorem rd_of_SlR {α:Type} {E:El α} {W:World} {a:Option Addr} {len cap:Nat} {g:Nat→List Value} {xs:List α} (h:SlR W E.w a cap g) (hl:len≤cap) (hx:xs.length=len) (hf : ∀ i,i<len→g i=E.cell (xs.getD i E.z)) :
    RdSl E W (slV (a,len,cap)) xs:=by
  rcases h.at_ with h0 | h0 | ⟨b,off,rfl,hm⟩
  · subst h0
    obtain rfl:len=0:=by omega
    have:xs = []:=List.eq_nil_of_length_eq_zero hx
    cases a with
    | none=>exact .inl ⟨rfl,this⟩
    | some a=>exact .inr (.inr ⟨a,rfl,this⟩)
  · exact absurd h0 (by have:=E.pos; omega)
  · refine .inr (.inl ⟨b,off,cap,by rw [hx]; rfl,by omega,fun i hi j hj=>?_⟩)
    rw [hx] at hi
    have hlt:i*E.w+j<cap*E.w:=by
      have:i*E.w+E.w≤cap*E.w:=by rw [← Nat.succ_mul]; exact Nat.mul_le_mul_right E.w (by omega)
      omega
    have:=hm.cell (i*E.w+j) (by simp only [width,Seg.width,Nat.add_zero]; exact hlt)
    simp only [cells,Seg.cells,List.append_nil] at this
    rw [this,Z52 (by omega) hj,Z78 (h.len i (by omega)),hf i hi]
end Go.Sx
