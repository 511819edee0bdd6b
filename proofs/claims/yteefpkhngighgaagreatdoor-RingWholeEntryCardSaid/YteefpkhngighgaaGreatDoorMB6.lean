/- Texts of a proof, one behind the other: F6 C1 C2 C3 G1 G2 V1 V2 N1 N2 N3 N7 N8 N9 N10 N11 N12 H1 H2 V3 G3 H3 HB. -/
import Derived.Test.YteefpkhngighgaaGreatDoorMB5
import Derived.KernelRfl
namespace Go.Proofs.YteefpkhngighgaaGreatDoor
open Go Go.Sx Go.RowKit
open Go.IntKind (wrap)
set_option linter.all false
set_option maxRecDepth 100000
set_option maxHeartbeats 1000000
theorem Z0w (k:Nat) {x y a:Int} (hx:x=a*((2^k:Nat):Int)) (ha:0<=a) (h0:0<=y) (hy:y<((2^k:Nat):Int)) (h1:y+x<18446744073709551616):Z7 .or .u64 y x=y+x:=by
 have hp:(0:Int)<=((2^k:Nat):Int):=Int.natCast_nonneg _
 have hx0:0<=x:=by rw [hx]; exact Int.mul_nonneg ha hp
 have:=Zxx k hx ha h0 hy (by omega)
 rw [or64 y.toNat x.toNat (by omega) (by omega) (by omega) (by omega)]
 rw [or64 x.toNat y.toNat (by omega) (by omega) (by omega) (by omega)] at this
 rw [Nat.or_comm,this,Int.add_comm]
def byt (n:Int):LI:=[n%256,n / 256%256,n / 65536%256,n / 16777216%256,n / 4294967296%256,n / 1099511627776%256,n / 281474976710656%256,n / 72057594037927936%256,n / 18446744073709551616%256,n / 4722366482869645213696%256,n / 1208925819614629174706176%256,n / 309485009821345068724781056%256,n / 79228162514264337593543950336%256,n / 20282409603651670423947251286016%256,n / 5192296858534827628530496329220096%256,n / 1329227995784915872903807060280344576%256,n / 340282366920938463463374607431768211456%256,n / 87112285931760246646623899502532662132736%256,n / 22300745198530623141535718272648361505980416%256,n / 5708990770823839524233143877797980545530986496%256,n / 1461501637330902918203684832716283019655932542976%256,n / 374144419156711147060143317175368453031918731001856%256,n / 95780971304118053647396689196894323976171195136475136%256,n / 24519928653854221733733552434404946937899825954937634816%256,n / 6277101735386680763835789423207666416102355444464034512896%256,n / 1606938044258990275541962092341162602522202993782792835301376%256,n / 411376139330301510538742295639337626245683966408394965837152256%256,n / 105312291668557186697918027683670432318895095400549111254310977536%256,n / 26959946667150639794667015087019630673637144422540572481103610249216%256,n / 6901746346790563787434755862277025452451108972170386555162524223799296%256,n / 1766847064778384329583297500742918515827483896875618958121606201292619776%256,n / 452312848583266388373324160190187140051835877600158453279131187530910662656%256]
theorem Zwa (k:LI->Option (LI)) (y0 y1 y2 y3 y4:Int):Z6z [y0,y1,y2,y3,y4] k big 0 (List.replicate 32 0)=k [wrap .u8 (Zr .u64 y0 0),wrap .u8 (Zr .u64 y0 8),wrap .u8 (Zr .u64 y0 16),wrap .u8 (Zr .u64 y0 24),wrap .u8 (Zr .u64 y0 32),wrap .u8 (Zr .u64 y0 40),wrap .u8 (Z7 .or .u64 (Zr .u64 y0 48) (Z02 .u64 y1 3)),wrap .u8 (Zr .u64 y1 5),wrap .u8 (Zr .u64 y1 13),wrap .u8 (Zr .u64 y1 21),wrap .u8 (Zr .u64 y1 29),wrap .u8 (Zr .u64 y1 37),wrap .u8 (Z7 .or .u64 (Zr .u64 y1 45) (Z02 .u64 y2 6)),wrap .u8 (Zr .u64 y2 2),wrap .u8 (Zr .u64 y2 10),wrap .u8 (Zr .u64 y2 18),wrap .u8 (Zr .u64 y2 26),wrap .u8 (Zr .u64 y2 34),wrap .u8 (Zr .u64 y2 42),wrap .u8 (Z7 .or .u64 (Zr .u64 y2 50) (Z02 .u64 y3 1)),wrap .u8 (Zr .u64 y3 7),wrap .u8 (Zr .u64 y3 15),wrap .u8 (Zr .u64 y3 23),wrap .u8 (Zr .u64 y3 31),wrap .u8 (Zr .u64 y3 39),wrap .u8 (Z7 .or .u64 (Zr .u64 y3 47) (Z02 .u64 y4 4)),wrap .u8 (Zr .u64 y4 4),wrap .u8 (Zr .u64 y4 12),wrap .u8 (Zr .u64 y4 20),wrap .u8 (Zr .u64 y4 28),wrap .u8 (Zr .u64 y4 36),wrap .u8 (Zr .u64 y4 44)]:=by kernel_rfl
theorem Z2m (x:Int) (n:Nat) (h:n<=64):Zr .u64 x (n:Int)=x / ((2^n:Nat):Int):=Zh4 .u64 h
theorem Z08h {n:Int} (h0:0<=n):wrap .u8 (Zr .u64 (n%2251799813685248) 0)=n%256:=by
 have:=Z2m (n%2251799813685248) 0 (by decide)
 rw [show ((2^0:Nat):Int)=1 from rfl] at this
 refine (congrArg _ this).trans ?_
 rw [Z0v]
 omega
theorem Z08i {n:Int} (h0:0<=n):wrap .u8 (Zr .u64 (n%2251799813685248) 8)=n / 256%256:=by
 have:=Z2m (n%2251799813685248) 8 (by decide)
 rw [show ((2^8:Nat):Int)=256 from rfl] at this
 refine (congrArg _ this).trans ?_
 rw [Z0v]
 omega
theorem Z08j {n:Int} (h0:0<=n):wrap .u8 (Zr .u64 (n%2251799813685248) 16)=n / 65536%256:=by
 have:=Z2m (n%2251799813685248) 16 (by decide)
 rw [show ((2^16:Nat):Int)=65536 from rfl] at this
 refine (congrArg _ this).trans ?_
 rw [Z0v]
 omega
theorem Z08k {n:Int} (h0:0<=n):wrap .u8 (Zr .u64 (n%2251799813685248) 24)=n / 16777216%256:=by
 have:=Z2m (n%2251799813685248) 24 (by decide)
 rw [show ((2^24:Nat):Int)=16777216 from rfl] at this
 refine (congrArg _ this).trans ?_
 rw [Z0v]
 omega
theorem Z08l {n:Int} (h0:0<=n):wrap .u8 (Zr .u64 (n%2251799813685248) 32)=n / 4294967296%256:=by
 have:=Z2m (n%2251799813685248) 32 (by decide)
 rw [show ((2^32:Nat):Int)=4294967296 from rfl] at this
 refine (congrArg _ this).trans ?_
 rw [Z0v]
 omega
theorem Z08m {n:Int} (h0:0<=n):wrap .u8 (Zr .u64 (n%2251799813685248) 40)=n / 1099511627776%256:=by
 have:=Z2m (n%2251799813685248) 40 (by decide)
 rw [show ((2^40:Nat):Int)=1099511627776 from rfl] at this
 refine (congrArg _ this).trans ?_
 rw [Z0v]
 omega
theorem Z08n {n:Int} (h0:0<=n):wrap .u8 (Z7 .or .u64 (Zr .u64 (n%2251799813685248) 48) (Z02 .u64 (n / 2251799813685248%2251799813685248) 3))=n / 281474976710656%256:=by
 have e1:Zr .u64 (n%2251799813685248) 48=n / 281474976710656%8:=by
  have:=Z2m (n%2251799813685248) 48 (by decide)
  rw [show ((2^48:Nat):Int)=281474976710656 from rfl] at this
  refine this.trans ?_
  omega
 have e2:Z02 .u64 (n / 2251799813685248%2251799813685248) 3=(n / 2251799813685248%2251799813685248)*8:=by
  have:=Zjj .u64 (x:=n / 2251799813685248%2251799813685248) (n:=3) (by decide)
  rw [show ((2^3:Nat):Int)=8 from rfl] at this
  refine this.trans (Z03 (by omega) (by omega))
 rw [e1,e2,Z0w 3 (x:=(n / 2251799813685248%2251799813685248)*8) (y:=n / 281474976710656%8) (a:=n / 2251799813685248%2251799813685248) rfl (by omega) (by omega) (by show _<(8:Int); omega) (by omega),Z0v]
 omega
theorem Z08o {n:Int} (h0:0<=n):wrap .u8 (Zr .u64 (n / 2251799813685248%2251799813685248) 5)=n / 72057594037927936%256:=by
 have:=Z2m (n / 2251799813685248%2251799813685248) 5 (by decide)
 rw [show ((2^5:Nat):Int)=32 from rfl] at this
 refine (congrArg _ this).trans ?_
 rw [Z0v]
 omega
theorem Z08p {n:Int} (h0:0<=n):wrap .u8 (Zr .u64 (n / 2251799813685248%2251799813685248) 13)=n / 18446744073709551616%256:=by
 have:=Z2m (n / 2251799813685248%2251799813685248) 13 (by decide)
 rw [show ((2^13:Nat):Int)=8192 from rfl] at this
 refine (congrArg _ this).trans ?_
 rw [Z0v]
 omega
theorem Z08q {n:Int} (h0:0<=n):wrap .u8 (Zr .u64 (n / 2251799813685248%2251799813685248) 21)=n / 4722366482869645213696%256:=by
 have:=Z2m (n / 2251799813685248%2251799813685248) 21 (by decide)
 rw [show ((2^21:Nat):Int)=2097152 from rfl] at this
 refine (congrArg _ this).trans ?_
 rw [Z0v]
 omega
theorem Z03n {n:Int} (h0:0<=n):wrap .u8 (Zr .u64 (n / 2251799813685248%2251799813685248) 29)=n / 1208925819614629174706176%256:=by
 have:=Z2m (n / 2251799813685248%2251799813685248) 29 (by decide)
 rw [show ((2^29:Nat):Int)=536870912 from rfl] at this
 refine (congrArg _ this).trans ?_
 rw [Z0v]
 omega
theorem Z03o {n:Int} (h0:0<=n):wrap .u8 (Zr .u64 (n / 2251799813685248%2251799813685248) 37)=n / 309485009821345068724781056%256:=by
 have:=Z2m (n / 2251799813685248%2251799813685248) 37 (by decide)
 rw [show ((2^37:Nat):Int)=137438953472 from rfl] at this
 refine (congrArg _ this).trans ?_
 rw [Z0v]
 omega
theorem Z03p {n:Int} (h0:0<=n):wrap .u8 (Z7 .or .u64 (Zr .u64 (n / 2251799813685248%2251799813685248) 45) (Z02 .u64 (n / 5070602400912917605986812821504%2251799813685248) 6))=n / 79228162514264337593543950336%256:=by
 have e1:Zr .u64 (n / 2251799813685248%2251799813685248) 45=n / 79228162514264337593543950336%64:=by
  have:=Z2m (n / 2251799813685248%2251799813685248) 45 (by decide)
  rw [show ((2^45:Nat):Int)=35184372088832 from rfl] at this
  refine this.trans ?_
  omega
 have e2:Z02 .u64 (n / 5070602400912917605986812821504%2251799813685248) 6=(n / 5070602400912917605986812821504%2251799813685248)*64:=by
  have:=Zjj .u64 (x:=n / 5070602400912917605986812821504%2251799813685248) (n:=6) (by decide)
  rw [show ((2^6:Nat):Int)=64 from rfl] at this
  refine this.trans (Z03 (by omega) (by omega))
 rw [e1,e2,Z0w 6 (x:=(n / 5070602400912917605986812821504%2251799813685248)*64) (y:=n / 79228162514264337593543950336%64) (a:=n / 5070602400912917605986812821504%2251799813685248) rfl (by omega) (by omega) (by show _<(64:Int); omega) (by omega),Z0v]
 omega
theorem Z03q {n:Int} (h0:0<=n):wrap .u8 (Zr .u64 (n / 5070602400912917605986812821504%2251799813685248) 2)=n / 20282409603651670423947251286016%256:=by
 have:=Z2m (n / 5070602400912917605986812821504%2251799813685248) 2 (by decide)
 rw [show ((2^2:Nat):Int)=4 from rfl] at this
 refine (congrArg _ this).trans ?_
 rw [Z0v]
 omega
theorem Z03r {n:Int} (h0:0<=n):wrap .u8 (Zr .u64 (n / 5070602400912917605986812821504%2251799813685248) 10)=n / 5192296858534827628530496329220096%256:=by
 have:=Z2m (n / 5070602400912917605986812821504%2251799813685248) 10 (by decide)
 rw [show ((2^10:Nat):Int)=1024 from rfl] at this
 refine (congrArg _ this).trans ?_
 rw [Z0v]
 omega
theorem Z03s {n:Int} (h0:0<=n):wrap .u8 (Zr .u64 (n / 5070602400912917605986812821504%2251799813685248) 18)=n / 1329227995784915872903807060280344576%256:=by
 have:=Z2m (n / 5070602400912917605986812821504%2251799813685248) 18 (by decide)
 rw [show ((2^18:Nat):Int)=262144 from rfl] at this
 refine (congrArg _ this).trans ?_
 rw [Z0v]
 omega
theorem Z03t {n:Int} (h0:0<=n):wrap .u8 (Zr .u64 (n / 5070602400912917605986812821504%2251799813685248) 26)=n / 340282366920938463463374607431768211456%256:=by
 have:=Z2m (n / 5070602400912917605986812821504%2251799813685248) 26 (by decide)
 rw [show ((2^26:Nat):Int)=67108864 from rfl] at this
 refine (congrArg _ this).trans ?_
 rw [Z0v]
 omega
theorem Z03u {n:Int} (h0:0<=n):wrap .u8 (Zr .u64 (n / 5070602400912917605986812821504%2251799813685248) 34)=n / 87112285931760246646623899502532662132736%256:=by
 have:=Z2m (n / 5070602400912917605986812821504%2251799813685248) 34 (by decide)
 rw [show ((2^34:Nat):Int)=17179869184 from rfl] at this
 refine (congrArg _ this).trans ?_
 rw [Z0v]
 omega
theorem Z03v {n:Int} (h0:0<=n):wrap .u8 (Zr .u64 (n / 5070602400912917605986812821504%2251799813685248) 42)=n / 22300745198530623141535718272648361505980416%256:=by
 have:=Z2m (n / 5070602400912917605986812821504%2251799813685248) 42 (by decide)
 rw [show ((2^42:Nat):Int)=4398046511104 from rfl] at this
 refine (congrArg _ this).trans ?_
 rw [Z0v]
 omega
theorem Z03w {n:Int} (h0:0<=n):wrap .u8 (Z7 .or .u64 (Zr .u64 (n / 5070602400912917605986812821504%2251799813685248) 50) (Z02 .u64 (n / 11417981541647679048466287755595961091061972992%2251799813685248) 1))=n / 5708990770823839524233143877797980545530986496%256:=by
 have e1:Zr .u64 (n / 5070602400912917605986812821504%2251799813685248) 50=n / 5708990770823839524233143877797980545530986496%2:=by
  have:=Z2m (n / 5070602400912917605986812821504%2251799813685248) 50 (by decide)
  rw [show ((2^50:Nat):Int)=1125899906842624 from rfl] at this
  refine this.trans ?_
  omega
 have e2:Z02 .u64 (n / 11417981541647679048466287755595961091061972992%2251799813685248) 1=(n / 11417981541647679048466287755595961091061972992%2251799813685248)*2:=by
  have:=Zjj .u64 (x:=n / 11417981541647679048466287755595961091061972992%2251799813685248) (n:=1) (by decide)
  rw [show ((2^1:Nat):Int)=2 from rfl] at this
  refine this.trans (Z03 (by omega) (by omega))
 rw [e1,e2,Z0w 1 (x:=(n / 11417981541647679048466287755595961091061972992%2251799813685248)*2) (y:=n / 5708990770823839524233143877797980545530986496%2) (a:=n / 11417981541647679048466287755595961091061972992%2251799813685248) rfl (by omega) (by omega) (by show _<(2:Int); omega) (by omega),Z0v]
 omega
theorem Z03x {n:Int} (h0:0<=n):wrap .u8 (Zr .u64 (n / 11417981541647679048466287755595961091061972992%2251799813685248) 7)=n / 1461501637330902918203684832716283019655932542976%256:=by
 have:=Z2m (n / 11417981541647679048466287755595961091061972992%2251799813685248) 7 (by decide)
 rw [show ((2^7:Nat):Int)=128 from rfl] at this
 refine (congrArg _ this).trans ?_
 rw [Z0v]
 omega
theorem Z03y {n:Int} (h0:0<=n):wrap .u8 (Zr .u64 (n / 11417981541647679048466287755595961091061972992%2251799813685248) 15)=n / 374144419156711147060143317175368453031918731001856%256:=by
 have:=Z2m (n / 11417981541647679048466287755595961091061972992%2251799813685248) 15 (by decide)
 rw [show ((2^15:Nat):Int)=32768 from rfl] at this
 refine (congrArg _ this).trans ?_
 rw [Z0v]
 omega
theorem Z03z {n:Int} (h0:0<=n):wrap .u8 (Zr .u64 (n / 11417981541647679048466287755595961091061972992%2251799813685248) 23)=n / 95780971304118053647396689196894323976171195136475136%256:=by
 have:=Z2m (n / 11417981541647679048466287755595961091061972992%2251799813685248) 23 (by decide)
 rw [show ((2^23:Nat):Int)=8388608 from rfl] at this
 refine (congrArg _ this).trans ?_
 rw [Z0v]
 omega
theorem Z040 {n:Int} (h0:0<=n):wrap .u8 (Zr .u64 (n / 11417981541647679048466287755595961091061972992%2251799813685248) 31)=n / 24519928653854221733733552434404946937899825954937634816%256:=by
 have:=Z2m (n / 11417981541647679048466287755595961091061972992%2251799813685248) 31 (by decide)
 rw [show ((2^31:Nat):Int)=2147483648 from rfl] at this
 refine (congrArg _ this).trans ?_
 rw [Z0v]
 omega
theorem Z041 {n:Int} (h0:0<=n):wrap .u8 (Zr .u64 (n / 11417981541647679048466287755595961091061972992%2251799813685248) 39)=n / 6277101735386680763835789423207666416102355444464034512896%256:=by
 have:=Z2m (n / 11417981541647679048466287755595961091061972992%2251799813685248) 39 (by decide)
 rw [show ((2^39:Nat):Int)=549755813888 from rfl] at this
 refine (congrArg _ this).trans ?_
 rw [Z0v]
 omega
theorem Z042 {n:Int} (h0:0<=n):wrap .u8 (Z7 .or .u64 (Zr .u64 (n / 11417981541647679048466287755595961091061972992%2251799813685248) 47) (Z02 .u64 (n / 25711008708143844408671393477458601640355247900524685364822016%2251799813685248) 4))=n / 1606938044258990275541962092341162602522202993782792835301376%256:=by
 have e1:Zr .u64 (n / 11417981541647679048466287755595961091061972992%2251799813685248) 47=n / 1606938044258990275541962092341162602522202993782792835301376%16:=by
  have:=Z2m (n / 11417981541647679048466287755595961091061972992%2251799813685248) 47 (by decide)
  rw [show ((2^47:Nat):Int)=140737488355328 from rfl] at this
  refine this.trans ?_
  omega
 have e2:Z02 .u64 (n / 25711008708143844408671393477458601640355247900524685364822016%2251799813685248) 4=(n / 25711008708143844408671393477458601640355247900524685364822016%2251799813685248)*16:=by
  have:=Zjj .u64 (x:=n / 25711008708143844408671393477458601640355247900524685364822016%2251799813685248) (n:=4) (by decide)
  rw [show ((2^4:Nat):Int)=16 from rfl] at this
  refine this.trans (Z03 (by omega) (by omega))
 rw [e1,e2,Z0w 4 (x:=(n / 25711008708143844408671393477458601640355247900524685364822016%2251799813685248)*16) (y:=n / 1606938044258990275541962092341162602522202993782792835301376%16) (a:=n / 25711008708143844408671393477458601640355247900524685364822016%2251799813685248) rfl (by omega) (by omega) (by show _<(16:Int); omega) (by omega),Z0v]
 omega
theorem Z043 {n:Int} (h0:0<=n) (h1:n<57896044618658097711785492504343953926634992332820282019728792003956564819949):wrap .u8 (Zr .u64 (n / 25711008708143844408671393477458601640355247900524685364822016%2251799813685248) 4)=n / 411376139330301510538742295639337626245683966408394965837152256%256:=by
 have:=Z2m (n / 25711008708143844408671393477458601640355247900524685364822016%2251799813685248) 4 (by decide)
 rw [show ((2^4:Nat):Int)=16 from rfl] at this
 refine (congrArg _ this).trans ?_
 rw [Z0v]
 omega
theorem Z044 {n:Int} (h0:0<=n) (h1:n<57896044618658097711785492504343953926634992332820282019728792003956564819949):wrap .u8 (Zr .u64 (n / 25711008708143844408671393477458601640355247900524685364822016%2251799813685248) 12)=n / 105312291668557186697918027683670432318895095400549111254310977536%256:=by
 have:=Z2m (n / 25711008708143844408671393477458601640355247900524685364822016%2251799813685248) 12 (by decide)
 rw [show ((2^12:Nat):Int)=4096 from rfl] at this
 refine (congrArg _ this).trans ?_
 rw [Z0v]
 omega
theorem Z045 {n:Int} (h0:0<=n) (h1:n<57896044618658097711785492504343953926634992332820282019728792003956564819949):wrap .u8 (Zr .u64 (n / 25711008708143844408671393477458601640355247900524685364822016%2251799813685248) 20)=n / 26959946667150639794667015087019630673637144422540572481103610249216%256:=by
 have:=Z2m (n / 25711008708143844408671393477458601640355247900524685364822016%2251799813685248) 20 (by decide)
 rw [show ((2^20:Nat):Int)=1048576 from rfl] at this
 refine (congrArg _ this).trans ?_
 rw [Z0v]
 omega
theorem Z046 {n:Int} (h0:0<=n) (h1:n<57896044618658097711785492504343953926634992332820282019728792003956564819949):wrap .u8 (Zr .u64 (n / 25711008708143844408671393477458601640355247900524685364822016%2251799813685248) 28)=n / 6901746346790563787434755862277025452451108972170386555162524223799296%256:=by
 have:=Z2m (n / 25711008708143844408671393477458601640355247900524685364822016%2251799813685248) 28 (by decide)
 rw [show ((2^28:Nat):Int)=268435456 from rfl] at this
 refine (congrArg _ this).trans ?_
 rw [Z0v]
 omega
theorem Z047 {n:Int} (h0:0<=n) (h1:n<57896044618658097711785492504343953926634992332820282019728792003956564819949):wrap .u8 (Zr .u64 (n / 25711008708143844408671393477458601640355247900524685364822016%2251799813685248) 36)=n / 1766847064778384329583297500742918515827483896875618958121606201292619776%256:=by
 have:=Z2m (n / 25711008708143844408671393477458601640355247900524685364822016%2251799813685248) 36 (by decide)
 rw [show ((2^36:Nat):Int)=68719476736 from rfl] at this
 refine (congrArg _ this).trans ?_
 rw [Z0v]
 omega
theorem Z048 {n:Int} (h0:0<=n) (h1:n<57896044618658097711785492504343953926634992332820282019728792003956564819949):wrap .u8 (Zr .u64 (n / 25711008708143844408671393477458601640355247900524685364822016%2251799813685248) 44)=n / 452312848583266388373324160190187140051835877600158453279131187530910662656%256:=by
 have:=Z2m (n / 25711008708143844408671393477458601640355247900524685364822016%2251799813685248) 44 (by decide)
 rw [show ((2^44:Nat):Int)=17592186044416 from rfl] at this
 refine (congrArg _ this).trans ?_
 rw [Z0v]
 omega
theorem Zss {x:LI} (hx:U5 x):Zal x=some (byt (Z7b x%PP)):=by
 rw [Zal,Z3 (Z64 hx),Z2a]
 have h0:0<=Z7b x%PP:=Int.emod_nonneg _ (by decide)
 have h1:Z7b x%PP<PP:=Int.emod_lt_of_pos _ Ziq
 unfold Zn1
 generalize Z7b x%PP=n at *
 have e:Zjx n = [n%2251799813685248,n / 2251799813685248%2251799813685248,n / 5070602400912917605986812821504%2251799813685248,n / 11417981541647679048466287755595961091061972992%2251799813685248,n / 25711008708143844408671393477458601640355247900524685364822016%2251799813685248]:=rfl
 rw [e,Zwa,Z08h h0,Z08i h0,Z08j h0,Z08k h0,Z08l h0,Z08m h0,Z08n h0,Z08o h0,Z08p h0,Z08q h0,Z03n h0,Z03o h0,Z03p h0,Z03q h0,Z03r h0,Z03s h0,Z03t h0,Z03u h0,Z03v h0,Z03w h0,Z03x h0,Z03y h0,Z03z h0,Z040 h0,Z041 h0,Z042 h0,Z043 h0 h1,Z044 h0 h1,Z045 h0 h1,Z046 h0 h1,Z047 h0 h1,Z048 h0 h1]
 rfl
theorem Z095 (k:LI->Option (LI)) (x:LI):Z43 x k big 0 (List.replicate 5 0)=k [Z7 .or .u64 (Z7 .or .u64 (Z7 .or .u64 (Z7 .or .u64 (Z7 .or .u64 (Z7 .or .u64 (Z7 .or .u64 (0) (Z7 .and .u64 (Z02 .u64 (wrap .u64 (x.getD 0 0)) 0) 2251799813685247)) (Z7 .and .u64 (Z02 .u64 (wrap .u64 (x.getD 1 0)) 8) 2251799813685247)) (Z7 .and .u64 (Z02 .u64 (wrap .u64 (x.getD 2 0)) 16) 2251799813685247)) (Z7 .and .u64 (Z02 .u64 (wrap .u64 (x.getD 3 0)) 24) 2251799813685247)) (Z7 .and .u64 (Z02 .u64 (wrap .u64 (x.getD 4 0)) 32) 2251799813685247)) (Z7 .and .u64 (Z02 .u64 (wrap .u64 (x.getD 5 0)) 40) 2251799813685247)) (Z7 .and .u64 (Z02 .u64 (wrap .u64 (x.getD 6 0)) 48) 2251799813685247),
 Z7 .or .u64 (Z7 .or .u64 (Z7 .or .u64 (Z7 .or .u64 (Z7 .or .u64 (Z7 .or .u64 (Z7 .or .u64 (0) (Zr .u64 (wrap .u64 (x.getD 6 0)) 3)) (Z7 .and .u64 (Z02 .u64 (wrap .u64 (x.getD 7 0)) 5) 2251799813685247)) (Z7 .and .u64 (Z02 .u64 (wrap .u64 (x.getD 8 0)) 13) 2251799813685247)) (Z7 .and .u64 (Z02 .u64 (wrap .u64 (x.getD 9 0)) 21) 2251799813685247)) (Z7 .and .u64 (Z02 .u64 (wrap .u64 (x.getD 10 0)) 29) 2251799813685247)) (Z7 .and .u64 (Z02 .u64 (wrap .u64 (x.getD 11 0)) 37) 2251799813685247)) (Z7 .and .u64 (Z02 .u64 (wrap .u64 (x.getD 12 0)) 45) 2251799813685247),
 Z7 .or .u64 (Z7 .or .u64 (Z7 .or .u64 (Z7 .or .u64 (Z7 .or .u64 (Z7 .or .u64 (Z7 .or .u64 (Z7 .or .u64 (0) (Zr .u64 (wrap .u64 (x.getD 12 0)) 6)) (Z7 .and .u64 (Z02 .u64 (wrap .u64 (x.getD 13 0)) 2) 2251799813685247)) (Z7 .and .u64 (Z02 .u64 (wrap .u64 (x.getD 14 0)) 10) 2251799813685247)) (Z7 .and .u64 (Z02 .u64 (wrap .u64 (x.getD 15 0)) 18) 2251799813685247)) (Z7 .and .u64 (Z02 .u64 (wrap .u64 (x.getD 16 0)) 26) 2251799813685247)) (Z7 .and .u64 (Z02 .u64 (wrap .u64 (x.getD 17 0)) 34) 2251799813685247)) (Z7 .and .u64 (Z02 .u64 (wrap .u64 (x.getD 18 0)) 42) 2251799813685247)) (Z7 .and .u64 (Z02 .u64 (wrap .u64 (x.getD 19 0)) 50) 2251799813685247),
 Z7 .or .u64 (Z7 .or .u64 (Z7 .or .u64 (Z7 .or .u64 (Z7 .or .u64 (Z7 .or .u64 (Z7 .or .u64 (0) (Zr .u64 (wrap .u64 (x.getD 19 0)) 1)) (Z7 .and .u64 (Z02 .u64 (wrap .u64 (x.getD 20 0)) 7) 2251799813685247)) (Z7 .and .u64 (Z02 .u64 (wrap .u64 (x.getD 21 0)) 15) 2251799813685247)) (Z7 .and .u64 (Z02 .u64 (wrap .u64 (x.getD 22 0)) 23) 2251799813685247)) (Z7 .and .u64 (Z02 .u64 (wrap .u64 (x.getD 23 0)) 31) 2251799813685247)) (Z7 .and .u64 (Z02 .u64 (wrap .u64 (x.getD 24 0)) 39) 2251799813685247)) (Z7 .and .u64 (Z02 .u64 (wrap .u64 (x.getD 25 0)) 47) 2251799813685247),
 Z7 .or .u64 (Z7 .or .u64 (Z7 .or .u64 (Z7 .or .u64 (Z7 .or .u64 (Z7 .or .u64 (Z7 .or .u64 (0) (Zr .u64 (wrap .u64 (x.getD 25 0)) 4)) (Z7 .and .u64 (Z02 .u64 (wrap .u64 (x.getD 26 0)) 4) 2251799813685247)) (Z7 .and .u64 (Z02 .u64 (wrap .u64 (x.getD 27 0)) 12) 2251799813685247)) (Z7 .and .u64 (Z02 .u64 (wrap .u64 (x.getD 28 0)) 20) 2251799813685247)) (Z7 .and .u64 (Z02 .u64 (wrap .u64 (x.getD 29 0)) 28) 2251799813685247)) (Z7 .and .u64 (Z02 .u64 (wrap .u64 (x.getD 30 0)) 36) 2251799813685247)) (Z7 .and .u64 (Z02 .u64 (wrap .u64 (Z7 .and .u8 (x.getD 31 0) 127)) 44) 2251799813685247)]:=by kernel_rfl
theorem Z1s (k:Nat) {b:Int} (hk:k<=51) (hb:0<=b/\b<256):Z7 .and .u64 (Z02 .u64 (wrap .u64 b) (k:Int)) 2251799813685247=b%((2^(51-k):Nat):Int)*((2^k:Nat):Int):=by
 have hp:(0:Int)<((2^k:Nat):Int):=by have:=Nat.pow_pos (n:=k) (show 0<2 by decide); omega
 have hq:(0:Int)<((2^(51-k):Nat):Int):=by have:=Nat.pow_pos (n:=51-k) (show 0<2 by decide); omega
 have hle:((2^k:Nat):Int)<=2251799813685248:=by
  have:=Nat.pow_le_pow_right (show 0<2 by decide) hk
  have e:(2^51:Nat)=2251799813685248:=by decide
  omega
 have hprod:((2^k:Nat):Int)*((2^(51-k):Nat):Int)=2251799813685248:=by
  rw [<- Int.natCast_mul,<- Nat.pow_add,show k+(51-k)=51 by omega]; rfl
 have hbk:b*((2^k:Nat):Int)<=256*2251799813685248:=Int.mul_le_mul (by omega) hle (by omega) (by omega)
 have hbk0:0<=b*((2^k:Nat):Int):=Int.mul_nonneg hb.1 (by omega)
 rw [Z03 hb.1 (by omega),Zjj .u64 (n:=k) (by show k<=64; omega),Z03 hbk0 (by omega),Zo9 hbk0 (by omega)]
 rw [<- hprod,Int.mul_comm b,Int.mul_emod_mul_of_pos _ _ hp,Int.mul_comm]
theorem Zlb (k:Nat) {b:Int} (hk:k<=64) (hb:0<=b/\b<256):Zr .u64 (wrap .u64 b) (k:Int)=b / ((2^k:Nat):Int):=by
 rw [Z03 hb.1 (by omega),Zh4 .u64 hk]
theorem Z0d0 {b0 b1 b2 b3 b4 b5 b6:Int} (h0:0<=b0/\b0<256) (h1:0<=b1/\b1<256) (h2:0<=b2/\b2<256) (h3:0<=b3/\b3<256) (h4:0<=b4/\b4<256) (h5:0<=b5/\b5<256) (h6:0<=b6/\b6<256):Z7 .or .u64 (Z7 .or .u64 (Z7 .or .u64 (Z7 .or .u64 (Z7 .or .u64 (Z7 .or .u64 (Z7 .or .u64 (0) (Z7 .and .u64 (Z02 .u64 (wrap .u64 b0) 0) 2251799813685247)) (Z7 .and .u64 (Z02 .u64 (wrap .u64 b1) 8) 2251799813685247)) (Z7 .and .u64 (Z02 .u64 (wrap .u64 b2) 16) 2251799813685247)) (Z7 .and .u64 (Z02 .u64 (wrap .u64 b3) 24) 2251799813685247)) (Z7 .and .u64 (Z02 .u64 (wrap .u64 b4) 32) 2251799813685247)) (Z7 .and .u64 (Z02 .u64 (wrap .u64 b5) 40) 2251799813685247)) (Z7 .and .u64 (Z02 .u64 (wrap .u64 b6) 48) 2251799813685247)=0+b0*1+b1*256+b2*65536+b3*16777216+b4*4294967296+b5*1099511627776+b6%8*281474976710656:=by
 have p0:Z7 .and .u64 (Z02 .u64 (wrap .u64 b0) 0) 2251799813685247=b0*1:=by
  have:=Z1s 0 (by decide) h0
  refine this.trans ?_
  rw [show ((2^(51-0):Nat):Int)=2251799813685248 from rfl,show ((2^0:Nat):Int)=1 from rfl]
  rw [Int.emod_eq_of_lt h0.1 (by omega)]
 rw [p0,Z0w 0 (x:=b0*1) (y:=0) (a:=b0) (by simp) (by omega) (by omega) (by show _<(1:Int); omega) (by omega)]
 have p1:Z7 .and .u64 (Z02 .u64 (wrap .u64 b1) 8) 2251799813685247=b1*256:=by
  have:=Z1s 8 (by decide) h1
  refine this.trans ?_
  rw [show ((2^(51-8):Nat):Int)=8796093022208 from rfl,show ((2^8:Nat):Int)=256 from rfl]
  rw [Int.emod_eq_of_lt h1.1 (by omega)]
 rw [p1,Z0w 8 (x:=b1*256) (y:=0+b0*1) (a:=b1) (by simp) (by omega) (by omega) (by show _<(256:Int); omega) (by omega)]
 have p2:Z7 .and .u64 (Z02 .u64 (wrap .u64 b2) 16) 2251799813685247=b2*65536:=by
  have:=Z1s 16 (by decide) h2
  refine this.trans ?_
  rw [show ((2^(51-16):Nat):Int)=34359738368 from rfl,show ((2^16:Nat):Int)=65536 from rfl]
  rw [Int.emod_eq_of_lt h2.1 (by omega)]
 rw [p2,Z0w 16 (x:=b2*65536) (y:=0+b0*1+b1*256) (a:=b2) (by simp) (by omega) (by omega) (by show _<(65536:Int); omega) (by omega)]
 have p3:Z7 .and .u64 (Z02 .u64 (wrap .u64 b3) 24) 2251799813685247=b3*16777216:=by
  have:=Z1s 24 (by decide) h3
  refine this.trans ?_
  rw [show ((2^(51-24):Nat):Int)=134217728 from rfl,show ((2^24:Nat):Int)=16777216 from rfl]
  rw [Int.emod_eq_of_lt h3.1 (by omega)]
 rw [p3,Z0w 24 (x:=b3*16777216) (y:=0+b0*1+b1*256+b2*65536) (a:=b3) (by simp) (by omega) (by omega) (by show _<(16777216:Int); omega) (by omega)]
 have p4:Z7 .and .u64 (Z02 .u64 (wrap .u64 b4) 32) 2251799813685247=b4*4294967296:=by
  have:=Z1s 32 (by decide) h4
  refine this.trans ?_
  rw [show ((2^(51-32):Nat):Int)=524288 from rfl,show ((2^32:Nat):Int)=4294967296 from rfl]
  rw [Int.emod_eq_of_lt h4.1 (by omega)]
 rw [p4,Z0w 32 (x:=b4*4294967296) (y:=0+b0*1+b1*256+b2*65536+b3*16777216) (a:=b4) (by simp) (by omega) (by omega) (by show _<(4294967296:Int); omega) (by omega)]
 have p5:Z7 .and .u64 (Z02 .u64 (wrap .u64 b5) 40) 2251799813685247=b5*1099511627776:=by
  have:=Z1s 40 (by decide) h5
  refine this.trans ?_
  rw [show ((2^(51-40):Nat):Int)=2048 from rfl,show ((2^40:Nat):Int)=1099511627776 from rfl]
  rw [Int.emod_eq_of_lt h5.1 (by omega)]
 rw [p5,Z0w 40 (x:=b5*1099511627776) (y:=0+b0*1+b1*256+b2*65536+b3*16777216+b4*4294967296) (a:=b5) (by simp) (by omega) (by omega) (by show _<(1099511627776:Int); omega) (by omega)]
 have p6:Z7 .and .u64 (Z02 .u64 (wrap .u64 b6) 48) 2251799813685247=b6%8*281474976710656:=by
  have:=Z1s 48 (by decide) h6
  refine this.trans ?_
  rw [show ((2^(51-48):Nat):Int)=8 from rfl,show ((2^48:Nat):Int)=281474976710656 from rfl]
 rw [p6,Z0w 48 (x:=b6%8*281474976710656) (y:=0+b0*1+b1*256+b2*65536+b3*16777216+b4*4294967296+b5*1099511627776) (a:=b6%8) (by simp) (by omega) (by omega) (by show _<(281474976710656:Int); omega) (by omega)]
theorem Z0d1 {b6 b7 b8 b9 b10 b11 b12:Int} (h6:0<=b6/\b6<256) (h7:0<=b7/\b7<256) (h8:0<=b8/\b8<256) (h9:0<=b9/\b9<256) (h10:0<=b10/\b10<256) (h11:0<=b11/\b11<256) (h12:0<=b12/\b12<256):Z7 .or .u64 (Z7 .or .u64 (Z7 .or .u64 (Z7 .or .u64 (Z7 .or .u64 (Z7 .or .u64 (Z7 .or .u64 (0) (Zr .u64 (wrap .u64 b6) 3)) (Z7 .and .u64 (Z02 .u64 (wrap .u64 b7) 5) 2251799813685247)) (Z7 .and .u64 (Z02 .u64 (wrap .u64 b8) 13) 2251799813685247)) (Z7 .and .u64 (Z02 .u64 (wrap .u64 b9) 21) 2251799813685247)) (Z7 .and .u64 (Z02 .u64 (wrap .u64 b10) 29) 2251799813685247)) (Z7 .and .u64 (Z02 .u64 (wrap .u64 b11) 37) 2251799813685247)) (Z7 .and .u64 (Z02 .u64 (wrap .u64 b12) 45) 2251799813685247)=0+b6 / 8+b7*32+b8*8192+b9*2097152+b10*536870912+b11*137438953472+b12%64*35184372088832:=by
 have p0:Zr .u64 (wrap .u64 b6) 3=b6 / 8:=by
  have:=Zlb 3 (by decide) h6
  refine this.trans ?_
  rw [show ((2^3:Nat):Int)=8 from rfl]
 rw [p0,Z0w 0 (x:=b6 / 8) (y:=0) (a:=b6 / 8) (by simp) (by omega) (by omega) (by show _<(1:Int); omega) (by omega)]
 have p1:Z7 .and .u64 (Z02 .u64 (wrap .u64 b7) 5) 2251799813685247=b7*32:=by
  have:=Z1s 5 (by decide) h7
  refine this.trans ?_
  rw [show ((2^(51-5):Nat):Int)=70368744177664 from rfl,show ((2^5:Nat):Int)=32 from rfl]
  rw [Int.emod_eq_of_lt h7.1 (by omega)]
 rw [p1,Z0w 5 (x:=b7*32) (y:=0+b6 / 8) (a:=b7) (by simp) (by omega) (by omega) (by show _<(32:Int); omega) (by omega)]
 have p2:Z7 .and .u64 (Z02 .u64 (wrap .u64 b8) 13) 2251799813685247=b8*8192:=by
  have:=Z1s 13 (by decide) h8
  refine this.trans ?_
  rw [show ((2^(51-13):Nat):Int)=274877906944 from rfl,show ((2^13:Nat):Int)=8192 from rfl]
  rw [Int.emod_eq_of_lt h8.1 (by omega)]
 rw [p2,Z0w 13 (x:=b8*8192) (y:=0+b6 / 8+b7*32) (a:=b8) (by simp) (by omega) (by omega) (by show _<(8192:Int); omega) (by omega)]
 have p3:Z7 .and .u64 (Z02 .u64 (wrap .u64 b9) 21) 2251799813685247=b9*2097152:=by
  have:=Z1s 21 (by decide) h9
  refine this.trans ?_
  rw [show ((2^(51-21):Nat):Int)=1073741824 from rfl,show ((2^21:Nat):Int)=2097152 from rfl]
  rw [Int.emod_eq_of_lt h9.1 (by omega)]
 rw [p3,Z0w 21 (x:=b9*2097152) (y:=0+b6 / 8+b7*32+b8*8192) (a:=b9) (by simp) (by omega) (by omega) (by show _<(2097152:Int); omega) (by omega)]
 have p4:Z7 .and .u64 (Z02 .u64 (wrap .u64 b10) 29) 2251799813685247=b10*536870912:=by
  have:=Z1s 29 (by decide) h10
  refine this.trans ?_
  rw [show ((2^(51-29):Nat):Int)=4194304 from rfl,show ((2^29:Nat):Int)=536870912 from rfl]
  rw [Int.emod_eq_of_lt h10.1 (by omega)]
 rw [p4,Z0w 29 (x:=b10*536870912) (y:=0+b6 / 8+b7*32+b8*8192+b9*2097152) (a:=b10) (by simp) (by omega) (by omega) (by show _<(536870912:Int); omega) (by omega)]
 have p5:Z7 .and .u64 (Z02 .u64 (wrap .u64 b11) 37) 2251799813685247=b11*137438953472:=by
  have:=Z1s 37 (by decide) h11
  refine this.trans ?_
  rw [show ((2^(51-37):Nat):Int)=16384 from rfl,show ((2^37:Nat):Int)=137438953472 from rfl]
  rw [Int.emod_eq_of_lt h11.1 (by omega)]
 rw [p5,Z0w 37 (x:=b11*137438953472) (y:=0+b6 / 8+b7*32+b8*8192+b9*2097152+b10*536870912) (a:=b11) (by simp) (by omega) (by omega) (by show _<(137438953472:Int); omega) (by omega)]
 have p6:Z7 .and .u64 (Z02 .u64 (wrap .u64 b12) 45) 2251799813685247=b12%64*35184372088832:=by
  have:=Z1s 45 (by decide) h12
  refine this.trans ?_
  rw [show ((2^(51-45):Nat):Int)=64 from rfl,show ((2^45:Nat):Int)=35184372088832 from rfl]
 rw [p6,Z0w 45 (x:=b12%64*35184372088832) (y:=0+b6 / 8+b7*32+b8*8192+b9*2097152+b10*536870912+b11*137438953472) (a:=b12%64) (by simp) (by omega) (by omega) (by show _<(35184372088832:Int); omega) (by omega)]
theorem Z0d2 {b12 b13 b14 b15 b16 b17 b18 b19:Int} (h12:0<=b12/\b12<256) (h13:0<=b13/\b13<256) (h14:0<=b14/\b14<256) (h15:0<=b15/\b15<256) (h16:0<=b16/\b16<256) (h17:0<=b17/\b17<256) (h18:0<=b18/\b18<256) (h19:0<=b19/\b19<256):Z7 .or .u64 (Z7 .or .u64 (Z7 .or .u64 (Z7 .or .u64 (Z7 .or .u64 (Z7 .or .u64 (Z7 .or .u64 (Z7 .or .u64 (0) (Zr .u64 (wrap .u64 b12) 6)) (Z7 .and .u64 (Z02 .u64 (wrap .u64 b13) 2) 2251799813685247)) (Z7 .and .u64 (Z02 .u64 (wrap .u64 b14) 10) 2251799813685247)) (Z7 .and .u64 (Z02 .u64 (wrap .u64 b15) 18) 2251799813685247)) (Z7 .and .u64 (Z02 .u64 (wrap .u64 b16) 26) 2251799813685247)) (Z7 .and .u64 (Z02 .u64 (wrap .u64 b17) 34) 2251799813685247)) (Z7 .and .u64 (Z02 .u64 (wrap .u64 b18) 42) 2251799813685247)) (Z7 .and .u64 (Z02 .u64 (wrap .u64 b19) 50) 2251799813685247)=0+b12 / 64+b13*4+b14*1024+b15*262144+b16*67108864+b17*17179869184+b18*4398046511104+b19%2*1125899906842624:=by
 have p0:Zr .u64 (wrap .u64 b12) 6=b12 / 64:=by
  have:=Zlb 6 (by decide) h12
  refine this.trans ?_
  rw [show ((2^6:Nat):Int)=64 from rfl]
 rw [p0,Z0w 0 (x:=b12 / 64) (y:=0) (a:=b12 / 64) (by simp) (by omega) (by omega) (by show _<(1:Int); omega) (by omega)]
 have p1:Z7 .and .u64 (Z02 .u64 (wrap .u64 b13) 2) 2251799813685247=b13*4:=by
  have:=Z1s 2 (by decide) h13
  refine this.trans ?_
  rw [show ((2^(51-2):Nat):Int)=562949953421312 from rfl,show ((2^2:Nat):Int)=4 from rfl]
  rw [Int.emod_eq_of_lt h13.1 (by omega)]
 rw [p1,Z0w 2 (x:=b13*4) (y:=0+b12 / 64) (a:=b13) (by simp) (by omega) (by omega) (by show _<(4:Int); omega) (by omega)]
 have p2:Z7 .and .u64 (Z02 .u64 (wrap .u64 b14) 10) 2251799813685247=b14*1024:=by
  have:=Z1s 10 (by decide) h14
  refine this.trans ?_
  rw [show ((2^(51-10):Nat):Int)=2199023255552 from rfl,show ((2^10:Nat):Int)=1024 from rfl]
  rw [Int.emod_eq_of_lt h14.1 (by omega)]
 rw [p2,Z0w 10 (x:=b14*1024) (y:=0+b12 / 64+b13*4) (a:=b14) (by simp) (by omega) (by omega) (by show _<(1024:Int); omega) (by omega)]
 have p3:Z7 .and .u64 (Z02 .u64 (wrap .u64 b15) 18) 2251799813685247=b15*262144:=by
  have:=Z1s 18 (by decide) h15
  refine this.trans ?_
  rw [show ((2^(51-18):Nat):Int)=8589934592 from rfl,show ((2^18:Nat):Int)=262144 from rfl]
  rw [Int.emod_eq_of_lt h15.1 (by omega)]
 rw [p3,Z0w 18 (x:=b15*262144) (y:=0+b12 / 64+b13*4+b14*1024) (a:=b15) (by simp) (by omega) (by omega) (by show _<(262144:Int); omega) (by omega)]
 have p4:Z7 .and .u64 (Z02 .u64 (wrap .u64 b16) 26) 2251799813685247=b16*67108864:=by
  have:=Z1s 26 (by decide) h16
  refine this.trans ?_
  rw [show ((2^(51-26):Nat):Int)=33554432 from rfl,show ((2^26:Nat):Int)=67108864 from rfl]
  rw [Int.emod_eq_of_lt h16.1 (by omega)]
 rw [p4,Z0w 26 (x:=b16*67108864) (y:=0+b12 / 64+b13*4+b14*1024+b15*262144) (a:=b16) (by simp) (by omega) (by omega) (by show _<(67108864:Int); omega) (by omega)]
 have p5:Z7 .and .u64 (Z02 .u64 (wrap .u64 b17) 34) 2251799813685247=b17*17179869184:=by
  have:=Z1s 34 (by decide) h17
  refine this.trans ?_
  rw [show ((2^(51-34):Nat):Int)=131072 from rfl,show ((2^34:Nat):Int)=17179869184 from rfl]
  rw [Int.emod_eq_of_lt h17.1 (by omega)]
 rw [p5,Z0w 34 (x:=b17*17179869184) (y:=0+b12 / 64+b13*4+b14*1024+b15*262144+b16*67108864) (a:=b17) (by simp) (by omega) (by omega) (by show _<(17179869184:Int); omega) (by omega)]
 have p6:Z7 .and .u64 (Z02 .u64 (wrap .u64 b18) 42) 2251799813685247=b18*4398046511104:=by
  have:=Z1s 42 (by decide) h18
  refine this.trans ?_
  rw [show ((2^(51-42):Nat):Int)=512 from rfl,show ((2^42:Nat):Int)=4398046511104 from rfl]
  rw [Int.emod_eq_of_lt h18.1 (by omega)]
 rw [p6,Z0w 42 (x:=b18*4398046511104) (y:=0+b12 / 64+b13*4+b14*1024+b15*262144+b16*67108864+b17*17179869184) (a:=b18) (by simp) (by omega) (by omega) (by show _<(4398046511104:Int); omega) (by omega)]
 have p7:Z7 .and .u64 (Z02 .u64 (wrap .u64 b19) 50) 2251799813685247=b19%2*1125899906842624:=by
  have:=Z1s 50 (by decide) h19
  refine this.trans ?_
  rw [show ((2^(51-50):Nat):Int)=2 from rfl,show ((2^50:Nat):Int)=1125899906842624 from rfl]
 rw [p7,Z0w 50 (x:=b19%2*1125899906842624) (y:=0+b12 / 64+b13*4+b14*1024+b15*262144+b16*67108864+b17*17179869184+b18*4398046511104) (a:=b19%2) (by simp) (by omega) (by omega) (by show _<(1125899906842624:Int); omega) (by omega)]
theorem Z0d3 {b19 b20 b21 b22 b23 b24 b25:Int} (h19:0<=b19/\b19<256) (h20:0<=b20/\b20<256) (h21:0<=b21/\b21<256) (h22:0<=b22/\b22<256) (h23:0<=b23/\b23<256) (h24:0<=b24/\b24<256) (h25:0<=b25/\b25<256):Z7 .or .u64 (Z7 .or .u64 (Z7 .or .u64 (Z7 .or .u64 (Z7 .or .u64 (Z7 .or .u64 (Z7 .or .u64 (0) (Zr .u64 (wrap .u64 b19) 1)) (Z7 .and .u64 (Z02 .u64 (wrap .u64 b20) 7) 2251799813685247)) (Z7 .and .u64 (Z02 .u64 (wrap .u64 b21) 15) 2251799813685247)) (Z7 .and .u64 (Z02 .u64 (wrap .u64 b22) 23) 2251799813685247)) (Z7 .and .u64 (Z02 .u64 (wrap .u64 b23) 31) 2251799813685247)) (Z7 .and .u64 (Z02 .u64 (wrap .u64 b24) 39) 2251799813685247)) (Z7 .and .u64 (Z02 .u64 (wrap .u64 b25) 47) 2251799813685247)=0+b19 / 2+b20*128+b21*32768+b22*8388608+b23*2147483648+b24*549755813888+b25%16*140737488355328:=by
 have p0:Zr .u64 (wrap .u64 b19) 1=b19 / 2:=by
  have:=Zlb 1 (by decide) h19
  refine this.trans ?_
  rw [show ((2^1:Nat):Int)=2 from rfl]
 rw [p0,Z0w 0 (x:=b19 / 2) (y:=0) (a:=b19 / 2) (by simp) (by omega) (by omega) (by show _<(1:Int); omega) (by omega)]
 have p1:Z7 .and .u64 (Z02 .u64 (wrap .u64 b20) 7) 2251799813685247=b20*128:=by
  have:=Z1s 7 (by decide) h20
  refine this.trans ?_
  rw [show ((2^(51-7):Nat):Int)=17592186044416 from rfl,show ((2^7:Nat):Int)=128 from rfl]
  rw [Int.emod_eq_of_lt h20.1 (by omega)]
 rw [p1,Z0w 7 (x:=b20*128) (y:=0+b19 / 2) (a:=b20) (by simp) (by omega) (by omega) (by show _<(128:Int); omega) (by omega)]
 have p2:Z7 .and .u64 (Z02 .u64 (wrap .u64 b21) 15) 2251799813685247=b21*32768:=by
  have:=Z1s 15 (by decide) h21
  refine this.trans ?_
  rw [show ((2^(51-15):Nat):Int)=68719476736 from rfl,show ((2^15:Nat):Int)=32768 from rfl]
  rw [Int.emod_eq_of_lt h21.1 (by omega)]
 rw [p2,Z0w 15 (x:=b21*32768) (y:=0+b19 / 2+b20*128) (a:=b21) (by simp) (by omega) (by omega) (by show _<(32768:Int); omega) (by omega)]
 have p3:Z7 .and .u64 (Z02 .u64 (wrap .u64 b22) 23) 2251799813685247=b22*8388608:=by
  have:=Z1s 23 (by decide) h22
  refine this.trans ?_
  rw [show ((2^(51-23):Nat):Int)=268435456 from rfl,show ((2^23:Nat):Int)=8388608 from rfl]
  rw [Int.emod_eq_of_lt h22.1 (by omega)]
 rw [p3,Z0w 23 (x:=b22*8388608) (y:=0+b19 / 2+b20*128+b21*32768) (a:=b22) (by simp) (by omega) (by omega) (by show _<(8388608:Int); omega) (by omega)]
 have p4:Z7 .and .u64 (Z02 .u64 (wrap .u64 b23) 31) 2251799813685247=b23*2147483648:=by
  have:=Z1s 31 (by decide) h23
  refine this.trans ?_
  rw [show ((2^(51-31):Nat):Int)=1048576 from rfl,show ((2^31:Nat):Int)=2147483648 from rfl]
  rw [Int.emod_eq_of_lt h23.1 (by omega)]
 rw [p4,Z0w 31 (x:=b23*2147483648) (y:=0+b19 / 2+b20*128+b21*32768+b22*8388608) (a:=b23) (by simp) (by omega) (by omega) (by show _<(2147483648:Int); omega) (by omega)]
 have p5:Z7 .and .u64 (Z02 .u64 (wrap .u64 b24) 39) 2251799813685247=b24*549755813888:=by
  have:=Z1s 39 (by decide) h24
  refine this.trans ?_
  rw [show ((2^(51-39):Nat):Int)=4096 from rfl,show ((2^39:Nat):Int)=549755813888 from rfl]
  rw [Int.emod_eq_of_lt h24.1 (by omega)]
 rw [p5,Z0w 39 (x:=b24*549755813888) (y:=0+b19 / 2+b20*128+b21*32768+b22*8388608+b23*2147483648) (a:=b24) (by simp) (by omega) (by omega) (by show _<(549755813888:Int); omega) (by omega)]
 have p6:Z7 .and .u64 (Z02 .u64 (wrap .u64 b25) 47) 2251799813685247=b25%16*140737488355328:=by
  have:=Z1s 47 (by decide) h25
  refine this.trans ?_
  rw [show ((2^(51-47):Nat):Int)=16 from rfl,show ((2^47:Nat):Int)=140737488355328 from rfl]
 rw [p6,Z0w 47 (x:=b25%16*140737488355328) (y:=0+b19 / 2+b20*128+b21*32768+b22*8388608+b23*2147483648+b24*549755813888) (a:=b25%16) (by simp) (by omega) (by omega) (by show _<(140737488355328:Int); omega) (by omega)]
theorem Z0d4 {b25 b26 b27 b28 b29 b30 b31:Int} (h25:0<=b25/\b25<256) (h26:0<=b26/\b26<256) (h27:0<=b27/\b27<256) (h28:0<=b28/\b28<256) (h29:0<=b29/\b29<256) (h30:0<=b30/\b30<256) (h31:0<=b31/\b31<256):Z7 .or .u64 (Z7 .or .u64 (Z7 .or .u64 (Z7 .or .u64 (Z7 .or .u64 (Z7 .or .u64 (Z7 .or .u64 (0) (Zr .u64 (wrap .u64 b25) 4)) (Z7 .and .u64 (Z02 .u64 (wrap .u64 b26) 4) 2251799813685247)) (Z7 .and .u64 (Z02 .u64 (wrap .u64 b27) 12) 2251799813685247)) (Z7 .and .u64 (Z02 .u64 (wrap .u64 b28) 20) 2251799813685247)) (Z7 .and .u64 (Z02 .u64 (wrap .u64 b29) 28) 2251799813685247)) (Z7 .and .u64 (Z02 .u64 (wrap .u64 b30) 36) 2251799813685247)) (Z7 .and .u64 (Z02 .u64 (wrap .u64 b31) 44) 2251799813685247)=0+b25 / 16+b26*16+b27*4096+b28*1048576+b29*268435456+b30*68719476736+b31%128*17592186044416:=by
 have p0:Zr .u64 (wrap .u64 b25) 4=b25 / 16:=by
  have:=Zlb 4 (by decide) h25
  refine this.trans ?_
  rw [show ((2^4:Nat):Int)=16 from rfl]
 rw [p0,Z0w 0 (x:=b25 / 16) (y:=0) (a:=b25 / 16) (by simp) (by omega) (by omega) (by show _<(1:Int); omega) (by omega)]
 have p1:Z7 .and .u64 (Z02 .u64 (wrap .u64 b26) 4) 2251799813685247=b26*16:=by
  have:=Z1s 4 (by decide) h26
  refine this.trans ?_
  rw [show ((2^(51-4):Nat):Int)=140737488355328 from rfl,show ((2^4:Nat):Int)=16 from rfl]
  rw [Int.emod_eq_of_lt h26.1 (by omega)]
 rw [p1,Z0w 4 (x:=b26*16) (y:=0+b25 / 16) (a:=b26) (by simp) (by omega) (by omega) (by show _<(16:Int); omega) (by omega)]
 have p2:Z7 .and .u64 (Z02 .u64 (wrap .u64 b27) 12) 2251799813685247=b27*4096:=by
  have:=Z1s 12 (by decide) h27
  refine this.trans ?_
  rw [show ((2^(51-12):Nat):Int)=549755813888 from rfl,show ((2^12:Nat):Int)=4096 from rfl]
  rw [Int.emod_eq_of_lt h27.1 (by omega)]
 rw [p2,Z0w 12 (x:=b27*4096) (y:=0+b25 / 16+b26*16) (a:=b27) (by simp) (by omega) (by omega) (by show _<(4096:Int); omega) (by omega)]
 have p3:Z7 .and .u64 (Z02 .u64 (wrap .u64 b28) 20) 2251799813685247=b28*1048576:=by
  have:=Z1s 20 (by decide) h28
  refine this.trans ?_
  rw [show ((2^(51-20):Nat):Int)=2147483648 from rfl,show ((2^20:Nat):Int)=1048576 from rfl]
  rw [Int.emod_eq_of_lt h28.1 (by omega)]
 rw [p3,Z0w 20 (x:=b28*1048576) (y:=0+b25 / 16+b26*16+b27*4096) (a:=b28) (by simp) (by omega) (by omega) (by show _<(1048576:Int); omega) (by omega)]
 have p4:Z7 .and .u64 (Z02 .u64 (wrap .u64 b29) 28) 2251799813685247=b29*268435456:=by
  have:=Z1s 28 (by decide) h29
  refine this.trans ?_
  rw [show ((2^(51-28):Nat):Int)=8388608 from rfl,show ((2^28:Nat):Int)=268435456 from rfl]
  rw [Int.emod_eq_of_lt h29.1 (by omega)]
 rw [p4,Z0w 28 (x:=b29*268435456) (y:=0+b25 / 16+b26*16+b27*4096+b28*1048576) (a:=b29) (by simp) (by omega) (by omega) (by show _<(268435456:Int); omega) (by omega)]
 have p5:Z7 .and .u64 (Z02 .u64 (wrap .u64 b30) 36) 2251799813685247=b30*68719476736:=by
  have:=Z1s 36 (by decide) h30
  refine this.trans ?_
  rw [show ((2^(51-36):Nat):Int)=32768 from rfl,show ((2^36:Nat):Int)=68719476736 from rfl]
  rw [Int.emod_eq_of_lt h30.1 (by omega)]
 rw [p5,Z0w 36 (x:=b30*68719476736) (y:=0+b25 / 16+b26*16+b27*4096+b28*1048576+b29*268435456) (a:=b30) (by simp) (by omega) (by omega) (by show _<(68719476736:Int); omega) (by omega)]
 have p6:Z7 .and .u64 (Z02 .u64 (wrap .u64 b31) 44) 2251799813685247=b31%128*17592186044416:=by
  have:=Z1s 44 (by decide) h31
  refine this.trans ?_
  rw [show ((2^(51-44):Nat):Int)=128 from rfl,show ((2^44:Nat):Int)=17592186044416 from rfl]
 rw [p6,Z0w 44 (x:=b31%128*17592186044416) (y:=0+b25 / 16+b26*16+b27*4096+b28*1048576+b29*268435456+b30*68719476736) (a:=b31%128) (by simp) (by omega) (by omega) (by show _<(17592186044416:Int); omega) (by omega)]
def Zi4 (x:LI):Int:=x.getD 0 0+x.getD 1 0*256+x.getD 2 0*65536+x.getD 3 0*16777216+x.getD 4 0*4294967296+x.getD 5 0*1099511627776+x.getD 6 0*281474976710656+x.getD 7 0*72057594037927936+x.getD 8 0*18446744073709551616+x.getD 9 0*4722366482869645213696+x.getD 10 0*1208925819614629174706176+x.getD 11 0*309485009821345068724781056+x.getD 12 0*79228162514264337593543950336+x.getD 13 0*20282409603651670423947251286016+x.getD 14 0*5192296858534827628530496329220096+x.getD 15 0*1329227995784915872903807060280344576+x.getD 16 0*340282366920938463463374607431768211456+x.getD 17 0*87112285931760246646623899502532662132736+x.getD 18 0*22300745198530623141535718272648361505980416+x.getD 19 0*5708990770823839524233143877797980545530986496+x.getD 20 0*1461501637330902918203684832716283019655932542976+x.getD 21 0*374144419156711147060143317175368453031918731001856+x.getD 22 0*95780971304118053647396689196894323976171195136475136+x.getD 23 0*24519928653854221733733552434404946937899825954937634816+x.getD 24 0*6277101735386680763835789423207666416102355444464034512896+x.getD 25 0*1606938044258990275541962092341162602522202993782792835301376+x.getD 26 0*411376139330301510538742295639337626245683966408394965837152256+x.getD 27 0*105312291668557186697918027683670432318895095400549111254310977536+x.getD 28 0*26959946667150639794667015087019630673637144422540572481103610249216+x.getD 29 0*6901746346790563787434755862277025452451108972170386555162524223799296+x.getD 30 0*1766847064778384329583297500742918515827483896875618958121606201292619776+x.getD 31 0%128*452312848583266388373324160190187140051835877600158453279131187530910662656
theorem Zdh {x:LI} (h:Byt x):Z35 x=some (fe (Zi4 x)):=by
 rw [Z35,Z2a,Z095]
 have e31:Z7 .and .u8 (x.getD 31 0) 127=x.getD 31 0%128:=Zis 7 (by decide) (by decide) (h 31).1 (h 31).2
 have h31:0<=x.getD 31 0%128/\x.getD 31 0%128<256:=by have:=h 31; omega
 rw [e31,Z0d0 (h 0) (h 1) (h 2) (h 3) (h 4) (h 5) (h 6),Z0d1 (h 6) (h 7) (h 8) (h 9) (h 10) (h 11) (h 12),Z0d2 (h 12) (h 13) (h 14) (h 15) (h 16) (h 17) (h 18) (h 19),Z0d3 (h 19) (h 20) (h 21) (h 22) (h 23) (h 24) (h 25),Z0d4 (h 25) (h 26) (h 27) (h 28) (h 29) (h 30) h31]
 have g0:=h 0
 have g1:=h 1
 have g2:=h 2
 have g3:=h 3
 have g4:=h 4
 have g5:=h 5
 have g6:=h 6
 have g7:=h 7
 have g8:=h 8
 have g9:=h 9
 have g10:=h 10
 have g11:=h 11
 have g12:=h 12
 have g13:=h 13
 have g14:=h 14
 have g15:=h 15
 have g16:=h 16
 have g17:=h 17
 have g18:=h 18
 have g19:=h 19
 have g20:=h 20
 have g21:=h 21
 have g22:=h 22
 have g23:=h 23
 have g24:=h 24
 have g25:=h 25
 have g26:=h 26
 have g27:=h 27
 have g28:=h 28
 have g29:=h 29
 have g30:=h 30
 have g31:=h 31
 rw [Z3 (Z64 (U5.mk5 (by omega) (by omega) (by omega) (by omega) (by omega)))]
 unfold Zn1 fe
 congr 3
 simp only [Z7b,Zi4,List.getD_cons_zero,List.getD_cons_succ]
 omega
end Go.Proofs.YteefpkhngighgaaGreatDoor
namespace Go.Proofs.YteefpkhngighgaaGreatDoor
open Go Go.Sx Go.RowKit
set_option linter.all false
set_option maxRecDepth 100000
theorem Zjw (a:Int):a%PP%PP=a%PP:=Int.emod_emod_of_dvd _ (Int.dvd_refl _)
theorem Zmt (a b:Int):Z0t (fe a) (fe b)=some (fe (a*b)):=by
 rw [Zxn (Zef a) (Zef b),Z5o,Z5o,<- Int.mul_emod]; rfl
theorem Zgg (a:Int):Z1j (fe a)=some (fe (a*a)):=by
 rw [Zqz (Zef a),Z5o,<- Int.mul_emod]; rfl
theorem Zzw (a b:Int):Z2w (fe a) (fe b)=some (fe (a+b)):=by
 rw [Z02g (Zef a) (Zef b),Z5o,Z5o,Zhf]
 exact (Int.add_emod _ _ _).symm
theorem fsub (a b:Int):Z5h (fe a) (fe b)=some (fe (a-b)):=by
 rw [Z0hn (Zef a) (Zef b),Z5o,Z5o,Zhf]
 exact (Int.sub_emod _ _ _).symm
theorem fneg (a:Int):Z60 (fe a)=some (fe (-a)):=by
 rw [Z02t (Zef a),Z5o,Zhf]
 have h:=Int.sub_emod 0 a PP
 simp only [Int.zero_sub] at h
 rw [h]
 simp
structure Q4 where
 x:Int
 y:Int
 z:Int
 t:Int
 deriving DecidableEq
def pt (q:Q4):Z9:=⟨fe q.x,fe q.y,fe q.z,fe q.t⟩
def qred (q:Q4):Q4:=⟨q.x%PP,q.y%PP,q.z%PP,q.t%PP⟩
theorem Z032 (q:Q4):pt (qred q)=pt q:=by simp only [pt,qred,Z02m]
def D2:Int:=16295367250680780974490674513165176452449235426866156013048779062215315747161
def Zox (e f g h:Int):Q4:=⟨e*f,g*h,f*g,e*h⟩
def qadd (p q:Q4):Q4 :=
 let a:=(p.y-p.x)*(q.y-q.x)
 let b:=(p.y+p.x)*(q.y+q.x)
 let c:=p.t*D2*q.t
 let d:=(p.z+p.z)*q.z
 Zox (b-a) (d-c) (d+c) (b+a)
def qdbl (p:Q4):Q4 :=
 let a:=p.x*p.x
 let b:=p.y*p.y
 let z:=p.z*p.z
 let h:=a+b
 let e:=h-(p.x+p.y)*(p.x+p.y)
 let g:=a-b
 Zox e (z+z+g) g h
theorem Zpo (e f g h:Int):Z92 (fe e) (fe f) (fe g) (fe h)=some (pt (Zox e f g h)):=by
 rw [Z92,Z3 (Zmt e f),Z3 (Zmt g h),Z3 (Zmt f g),Z3 (Zmt e h)]; rfl
theorem Zup:Z9o=some (fe D2):=by
 rw [Z9o,Zj]
 congr 1
theorem Z049 (p q:Q4):Z9l (pt p) (pt q)=some (pt (qadd p q)):=by
 rw [Z9l]
 show opt (Z5h (fe p.y) (fe p.x)) _=_
 rw [Z3 (fsub p.y p.x)]
 show opt (Z5h (fe q.y) (fe q.x)) _=_
 rw [Z3 (fsub q.y q.x),Z3 (Zmt _ _)]
 show opt (Z2w (fe p.y) (fe p.x)) _=_
 rw [Z3 (Zzw p.y p.x)]
 show opt (Z2w (fe q.y) (fe q.x)) _=_
 rw [Z3 (Zzw q.y q.x),Z3 (Zmt _ _),Z3 Zup]
 show opt (Z0t (fe p.t) (fe D2)) _=_
 rw [Z3 (Zmt _ _)]
 show opt (Z0t (fe (p.t*D2)) (fe q.t)) _=_
 rw [Z3 (Zmt _ _)]
 show opt (Z2w (fe p.z) (fe p.z)) _=_
 rw [Z3 (Zzw _ _)]
 show opt (Z0t (fe (p.z+p.z)) (fe q.z)) _=_
 rw [Z3 (Zmt _ _),Z3 (fsub _ _),Z3 (fsub _ _),Z3 (Zzw _ _),Z3 (Zzw _ _),Z3 (Zpo _ _ _ _)]
 rfl
theorem Z04c (p:Q4):Z7j (pt p)=some (pt (qdbl p)):=by
 rw [Z7j]
 show opt (Z1j (fe p.x)) _=_
 rw [Z3 (Zgg _)]
 show opt (Z1j (fe p.y)) _=_
 rw [Z3 (Zgg _)]
 show opt (Z1j (fe p.z)) _=_
 rw [Z3 (Zgg _),Z3 (Zzw _ _)]
 show opt (Z2w (fe p.x) (fe p.y)) _=_
 rw [Z3 (Zzw _ _),Z3 (Zgg _),Z3 (fsub _ _),Z3 (fsub _ _),Z3 (Zzw _ _),Z3 (Zzw _ _),Z3 (Zpo _ _ _ _)]
 rfl
def Zs6:Q4:=⟨0,1,1,0⟩
theorem Zp9:Z93=some (fe 1):=by rw [Z93,Zj]; congr 1
theorem Zsi:Zai=some (pt Zs6):=by
 rw [Zai,Z3 Zp9,Z3 Zp9]
 have:(List.replicate 5 0:LI)=fe 0:=by decide
 rw [this]; rfl
theorem Z04e (p:Q4):Zeb (pt p)=some (pt ⟨-p.x,p.y,p.z,-p.t⟩):=by
 rw [Zeb]
 show opt (Z60 (fe p.x)) _=_
 rw [Z3 (fneg _)]
 show opt (Z60 (fe p.t)) _=_
 rw [Z3 (fneg _)]
 rfl
def Zku (p q:Q4):Q4:=qred (qadd p q)
def Zar (p:Q4):Q4:=qred (qdbl p)
theorem Zl3 (p q:Q4):Z9l (pt p) (pt q)=some (pt (Zku p q)):=by rw [Z049]; unfold Zku; rw [Z032]
theorem Zsu (p:Q4):Z7j (pt p)=some (pt (Zar p)):=by rw [Z04c]; unfold Zar; rw [Z032]
def tab (p:Q4):Nat->Q4
 | 0=>Zs6
 | i+1=>Zku (tab p i) p
def Zrb (f:Nat->Z9) (i:Nat):List Z9:=(List.range 16).map fun j=>if j<=i then f j else Z11
theorem Z021 (f:Nat->Z9) {i:Nat} (hi:i<15):Zji Z11 (Zrb f i) (i+1) (f (i+1))=Zrb f (i+1):=by
 rw [Zd2 (by simp [Zrb]; omega)]
 apply List.ext_getElem
 ·simp [Zrb]
 ·intro j h1 h2
  simp only [Zrb,List.getElem_set,List.getElem_map,List.getElem_range]
  by_cases hj:i+1=j
  ·subst hj; simp
  ·rw [if_neg hj]
   by_cases h:j<=i
   ·rw [if_pos h,if_pos (by omega)]
   ·rw [if_neg h,if_neg (by omega)]
theorem Zlg (f:Nat->Z9) {i j:Nat} (hj:j<=i) (hi:i<16):(Zrb f i).getD j Z11=f j:=by
 simp only [Zrb,List.getD,List.getElem?_map,List.getElem?_range (show j<16 by omega),Option.map_some,Option.getD_some,if_pos hj]
theorem Zv6 (p:Q4) {kk:List Z9->Option (List Z9)} {k':Int->List Z9->Option (List Z9)} {i:Nat} (hi:i<15) :
  Z41 (pt p) kk k' (i:Int) (Zrb (fun j=>pt (tab p j)) i)=k' ((i+1:Nat):Int) (Zrb (fun j=>pt (tab p j)) (i+1)):=by
 rw [Z41,Z2e (by simp; omega)]
 simp only [Zj]
 rw [Zp (by omega) (by omega),Z0h (Z3l (by omega) (by omega)),Int.toNat_natCast,Zlg _ (Nat.le_refl i) (by omega),Z3 (Zl3 _ _),Z0h (Z3l (by omega) (by omega))]
 have e:((i:Int)+1).toNat=i+1:=by omega
 have e2:(i:Int)+1=((i+1:Nat):Int):=by omega
 rw [e]
 have:=Z021 (fun j=>pt (tab p j)) hi
 rw [show pt (Zku (tab p i) p)=pt (tab p (i+1)) from rfl,this,e2]
theorem Zq8 (p:Q4) : ∀ (k n:Nat),k<=15->Z2c (pt p) some (n+1+k) ((15-k:Nat):Int) (Zrb (fun j=>pt (tab p j)) (15-k))=some (Zrb (fun j=>pt (tab p j)) 15)
 | 0,n,_=>by
  rw [show n+1+0=n+1 from rfl,Z2c,Z41,Z1p (by decide)]
 | k+1,n,hk=>by
  have ih:=Zq8 p k n (by omega)
  rw [<- Nat.add_assoc,Z2c,Zv6 p (by omega)]
  rw [show 15-(k+1)+1=15-k by omega]
  exact ih
theorem Zgo (p:Q4):Z4q (pt p)=some (Zrb (fun j=>pt (tab p j)) 15):=by
 rw [Z4q,Z3 Zsi,Zj,Z2a]
 obtain ⟨n,hn⟩ : ∃ n,big=n+1+15:=⟨18446744073709551600,Z6d⟩
 have:=Zq8 p 15 n (by decide)
 rw [<- hn] at this
 have e:Zji Z11 (List.replicate 16 Z11) 0 (pt Zs6)=Zrb (fun j=>pt (tab p j)) (15-15):=by
  rw [Zd2 (by simp)]
  rfl
 rw [e]
 exact this
def nib (k:LI) (i:Nat):Int:=if i%2=0 then k.getD (31-i / 2) 0 / 16%16 else k.getD (31-i / 2) 0%16
theorem Zm2 {k:LI} (hk:Byt k) {i:Nat} (hi:i<64):Z7k k (i:Int)=some (nib k i):=by
 rw [Z7k]
 simp only [Zj]
 have h1:IntKind.wrap .i64 (Int.tdiv (i:Int) 2)=((i / 2:Nat):Int):=by
  rw [Int.tdiv_eq_ediv_of_nonneg (by omega),Zp (by omega) (by omega)]; omega
 have h2:Int.tmod (i:Int) 2=((i%2:Nat):Int):=by
  rw [Int.tmod_eq_emod_of_nonneg (by omega)]; omega
 rw [h1,h2,Zp (x:=31-((i / 2:Nat):Int)) (by omega) (by omega),Z0h (Z3l (by omega) (by omega))]
 have h3:(31-((i / 2:Nat):Int)).toNat=31-i / 2:=by omega
 rw [h3]
 have hb:=hk (31-i / 2)
 rw [Zp (x:=1-((i%2:Nat):Int)) (by omega) (by omega),Zp (by omega) (by omega)]
 rcases Nat.mod_two_eq_zero_or_one i with h | h
 ·rw [h,Z0h (by decide)]
  have e:Zr .u8 (k.getD (31-i / 2) 0) (4*(1-((0:Nat):Int)))=k.getD (31-i / 2) 0 / 16:=Zh4 .u8 (n:=4) (by decide)
  rw [e]
  have e2:Z7 .and .u8 (k.getD (31-i / 2) 0 / 16) 15=k.getD (31-i / 2) 0 / 16%16:=Zis 4 (by decide) (by decide) (by omega) (by omega)
  rw [e2,nib,if_pos h]
 ·rw [h,Z0h (by decide)]
  have e:Zr .u8 (k.getD (31-i / 2) 0) (4*(1-((1:Nat):Int)))=k.getD (31-i / 2) 0:=by
   have:=Zh4 .u8 (x:=k.getD (31-i / 2) 0) (n:=0) (by decide)
   simpa using this
  rw [e]
  have e2:Z7 .and .u8 (k.getD (31-i / 2) 0) 15=k.getD (31-i / 2) 0%16:=Zis 4 (by decide) (by decide) (by omega) (by omega)
  rw [e2,nib,if_neg (by omega)]
theorem Zs1 (k:LI) (i:Nat):0<=nib k i/\nib k i<16:=by unfold nib; split <;> omega
def Zmz (q:Q4):Q4:=Zar (Zar (Zar (Zar q)))
def Z0ee (k:LI) (p:Q4) (q:Q4) (i:Nat):Q4:=Zku (Zmz q) (tab p (nib k i).toNat)
def Znl (k:LI) (p:Q4):Nat->Q4
 | 0=>Zs6
 | i+1=>Z0ee k p (Znl k p i) i
theorem Zv5 (q:Q4) {kk:LI->LI->LI->LI->Option Z9} :
  Z4k kk big 0 (pt q).gX (pt q).gY (pt q).gZ (pt q).gT=kk (pt (Zmz q)).gX (pt (Zmz q)).gY (pt (Zmz q)).gZ (pt (Zmz q)).gT:=by
 obtain ⟨n,hn⟩ : ∃ n,big=n+1+1+1+1+1:=⟨18446744073709551611,Z6d⟩
 have step : ∀ (n j:Nat) (q:Q4),j<4->Z4k kk (n+1) (j:Int) (pt q).gX (pt q).gY (pt q).gZ (pt q).gT =
   Z4k kk n ((j+1:Nat):Int) (pt (Zar q)).gX (pt (Zar q)).gY (pt (Zar q)).gZ (pt (Zar q)).gT:=by
  intro n j q hj
  rw [Z4k,Zbg,Z2e (by simp; omega)]
  have:=Zsu q
  rw [show (⟨(pt q).gX,(pt q).gY,(pt q).gZ,(pt q).gT⟩:Z9)=pt q from rfl,Z3 this]
  simp only [Zj]
  rw [Zp (by omega) (by omega)]
  rfl
 rw [hn]
 have s0:=step (n+1+1+1+1) 0 q (by decide)
 have s1:=step (n+1+1+1) 1 (Zar q) (by decide)
 have s2:=step (n+1+1) 2 (Zar (Zar q)) (by decide)
 have s3:=step (n+1) 3 (Zar (Zar (Zar q))) (by decide)
 refine s0.trans (s1.trans (s2.trans (s3.trans ?_)))
 rw [Z4k,Zbg,Z1p (by decide)]
 rfl
theorem Znj {k:LI} (hk:Byt k) (p:Q4) : ∀ (j n:Nat),j<=64->Z6e k (Zrb (fun j=>pt (tab p j)) 15) (fun a b c d=>some ⟨a,b,c,d⟩) (n+1+j) ((64-j:Nat):Int) (pt (Znl k p (64-j))).gX (pt (Znl k p (64-j))).gY (pt (Znl k p (64-j))).gZ (pt (Znl k p (64-j))).gT=some (pt (Znl k p 64))
 | 0,n,_=>by
  rw [show n+1+0=n+1 from rfl,Z6e,Zbf,Z1p (by decide)]
 | j+1,n,hj=>by
  have ih:=Znj hk p j n (by omega)
  have hr:=Zs1 k (64-(j+1))
  rw [<- Nat.add_assoc,Z6e,Zbf,Z2e (by simp; omega),Z2a,Zv5]
  rw [Z3 (Zm2 hk (by omega)),Z0h (Z3l hr.1 hr.2),Zj,Zlg _ (by omega) (by decide)]
  have hadd:=Zl3 (Zmz (Znl k p (64-(j+1)))) (tab p (nib k (64-(j+1))).toNat)
  rw [show (⟨(pt (Zmz (Znl k p (64-(j+1))))).gX,(pt (Zmz (Znl k p (64-(j+1))))).gY,(pt (Zmz (Znl k p (64-(j+1))))).gZ,(pt (Zmz (Znl k p (64-(j+1))))).gT⟩:Z9)=pt (Zmz (Znl k p (64-(j+1)))) from rfl,Z3 hadd,Zj,Zp (by omega) (by omega)]
  have ei:((64-(j+1):Nat):Int)+1=((64-(j+1)+1:Nat):Int):=by omega
  rw [ei]
  have e:64-(j+1)+1=64-j:=by omega
  rw [e]
  have e2:Zku (Zmz (Znl k p (64-(j+1)))) (tab p (nib k (64-(j+1))).toNat)=Znl k p (64-j):=by rw [<- e]; rfl
  rw [e2]
  exact ih
theorem Z04d {k:LI} (hk:Byt k) (p:Q4):Zgb k (pt p)=some (pt (Znl k p 64)):=by
 rw [Zgb,Z3 (Zgo p),Z3 Zsi,Z2a]
 obtain ⟨n,hn⟩ : ∃ n,big=n+1+64:=⟨18446744073709551551,Z6d⟩
 have:=Znj hk p 64 n (by decide)
 rw [<- hn] at this
 exact this
theorem byt_of {l:LI} (h : ∀ x∈l,0<=x/\x<256):Byt l:=by
 intro i
 simp only [List.getD]
 cases hi:l[i]? with
 | none=>simp
 | some v=>exact h v (List.mem_of_getElem? hi)
def BX:Int:=15112221349535400772501151409588531511454012693041857206046113283949847762202
def BY:Int:=46316835694926478169428394003475163141307993866256225615783033603165251855960
def Zow:Q4:=⟨BX,BY,1,BX*BY⟩
theorem Zz4 (k:LI->Option Z9):Z6y k big 0 [88,0,0,0,0,0,0,0,0,0,0,0,0,0,0,0,0,0,0,0,0,0,0,0,0,0,0,0,0,0,0,0]=k [88,102,102,102,102,102,102,102,102,102,102,102,102,102,102,102,102,102,102,102,102,102,102,102,102,102,102,102,102,102,102,102]:=by kernel_rfl
theorem Zu7:Zak=some (pt Zow):=by
 rw [Zak,Zj,Z3 (Zdh (byt_of (by decide))),Zj,Z2a,Zz4,Z3 (Zdh (byt_of (by decide))),Z3 Zp9]
 have e1:Zi4 [26,213,37,143,96,45,86,201,178,167,37,149,96,199,44,105,92,220,214,253,49,226,164,192,254,83,110,205,211,54,105,33]=BX:=by decide
 have e2:Zi4 [88,102,102,102,102,102,102,102,102,102,102,102,102,102,102,102,102,102,102,102,102,102,102,102,102,102,102,102,102,102,102,102]=BY:=by decide
 rw [e1,e2,Z3 (Zmt _ _)]
 rfl
theorem Zv4 {k:LI} (hk:Byt k):Z5e k=some (pt (Znl k Zow 64)):=by
 rw [Z5e,Z3 Zu7,Z3 (Z04d hk _)]
def einv:LI:=[235,255,255,255,255,255,255,255,255,255,255,255,255,255,255,255,255,255,255,255,255,255,255,255,255,255,255,255,255,255,255,127]
theorem Zy7:Z7o 235 127=some einv:=by kernel_rfl
theorem Z00b:Byt einv:=byt_of (by decide)
def Zx0 (a:Int):Int:=pw (a%PP) einv 256
theorem Z02n {n:Int} (h:0<=n/\n<PP):Zjx n=fe n:=(Z00h h.1 h.2).symm
theorem Z09d (a:Int):Z96 (fe a)=some (fe (Zx0 a)):=by
 rw [Z96,Z3 Zy7,Z3 (Z031 (Zef _) Z00b),Z5o,Z02n (Zyf _ _ _)]
 rfl
def Zhr (x y:Int):LI:=if x%PP%2=1 then Z3z (byt (y%PP)) 31 (Z7 .or .u8 ((byt (y%PP)).getD 31 0) 128) else byt (y%PP)
def encQ (q:Q4):LI:=Zhr (q.x*Zx0 q.z) (q.y*Zx0 q.z)
theorem Zwt (q:Q4):Z5d (pt q)=some (encQ q):=by
 rw [Z5d]
 show opt (Z96 (fe q.z)) _=_
 rw [Z3 (Z09d _)]
 show opt (Z0t (fe q.y) (fe (Zx0 q.z))) _=_
 rw [Z3 (Zmt _ _),Z3 (Zss (Zef _))]
 show opt (Z0t (fe q.x) (fe (Zx0 q.z))) _=_
 rw [Z3 (Zmt _ _),Z3 (Zt8 (Zef _)),Z2a,Z5o,Z5o]
 simp only [Zj,Zjw]
 unfold encQ Zhr
 by_cases h:q.x*Zx0 q.z%PP%2=1
 ·rw [Z2e (by rw [h]; rfl),if_pos h]
 ·rw [Z1p (by simpa using h),if_neg h]
theorem Zrl (q:Q4) {kk:LI->LI->LI->LI->Option Z9} :
  Z22 kk big 0 (pt q).gX (pt q).gY (pt q).gZ (pt q).gT=kk (pt (Zmz q)).gX (pt (Zmz q)).gY (pt (Zmz q)).gZ (pt (Zmz q)).gT:=by
 obtain ⟨n,hn⟩ : ∃ n,big=n+1+1+1+1+1:=⟨18446744073709551611,Z6d⟩
 have step : ∀ (n j:Nat) (q:Q4),j<4->Z22 kk (n+1) (j:Int) (pt q).gX (pt q).gY (pt q).gZ (pt q).gT =
   Z22 kk n ((j+1:Nat):Int) (pt (Zar q)).gX (pt (Zar q)).gY (pt (Zar q)).gZ (pt (Zar q)).gT:=by
  intro n j q hj
  rw [Z22,Z6v,Z2e (by simp; omega)]
  have:=Zsu q
  rw [show (⟨(pt q).gX,(pt q).gY,(pt q).gZ,(pt q).gT⟩:Z9)=pt q from rfl,Z3 this]
  simp only [Zj]
  rw [Zp (by omega) (by omega)]
  rfl
 rw [hn]
 have s0:=step (n+1+1+1+1) 0 q (by decide)
 have s1:=step (n+1+1+1) 1 (Zar q) (by decide)
 have s2:=step (n+1+1) 2 (Zar (Zar q)) (by decide)
 have s3:=step (n+1) 3 (Zar (Zar (Zar q))) (by decide)
 refine s0.trans (s1.trans (s2.trans (s3.trans ?_)))
 rw [Z22,Z6v,Z1p (by decide)]
 rfl
def Z06g (k l:LI) (p r:Q4) (q:Q4) (i:Nat):Q4:=Zku (Zku (Zmz q) (tab p (nib k i).toNat)) (tab r (nib l i).toNat)
def Zkt (k l:LI) (p r:Q4):Nat->Q4
 | 0=>Zs6
 | i+1=>Z06g k l p r (Zkt k l p r i) i
theorem Z01g (q:Q4):(⟨(pt q).gX,(pt q).gY,(pt q).gZ,(pt q).gT⟩:Z9)=pt q:=rfl
theorem Zlm {k l:LI} (hk:Byt k) (hl:Byt l) (p r:Q4) : ∀ (j n:Nat),j<=64->Z3e k l (Zrb (fun j=>pt (tab p j)) 15) (Zrb (fun j=>pt (tab r j)) 15) (fun a b c d=>some ⟨a,b,c,d⟩) (n+1+j) ((64-j:Nat):Int) (pt (Zkt k l p r (64-j))).gX (pt (Zkt k l p r (64-j))).gY (pt (Zkt k l p r (64-j))).gZ (pt (Zkt k l p r (64-j))).gT=some (pt (Zkt k l p r 64))
 | 0,n,_=>by
  rw [show n+1+0=n+1 from rfl,Z3e,Z6u,Z1p (by decide)]
 | j+1,n,hj=>by
  have ih:=Zlm hk hl p r j n (by omega)
  have hr:=Zs1 k (64-(j+1))
  have hr2:=Zs1 l (64-(j+1))
  rw [<- Nat.add_assoc,Z3e,Z6u,Z2e (by simp; omega),Z2a,Zrl]
  rw [Z3 (Zm2 hk (by omega)),Z0h (Z3l hr.1 hr.2),Zj,Zlg _ (by omega) (by decide)]
  have hadd:=Zl3 (Zmz (Zkt k l p r (64-(j+1)))) (tab p (nib k (64-(j+1))).toNat)
  rw [Z01g,Z3 hadd]
  rw [Z3 (Zm2 hl (by omega)),Z0h (Z3l hr2.1 hr2.2),Zj,Zlg _ (by omega) (by decide)]
  have hadd2:=Zl3 (Zku (Zmz (Zkt k l p r (64-(j+1)))) (tab p (nib k (64-(j+1))).toNat)) (tab r (nib l (64-(j+1))).toNat)
  rw [Z3 hadd2,Zj,Zp (by omega) (by omega)]
  have ei:((64-(j+1):Nat):Int)+1=((64-(j+1)+1:Nat):Int):=by omega
  rw [ei]
  have e:64-(j+1)+1=64-j:=by omega
  rw [e]
  have e2:Zku (Zku (Zmz (Zkt k l p r (64-(j+1)))) (tab p (nib k (64-(j+1))).toNat)) (tab r (nib l (64-(j+1))).toNat)=Zkt k l p r (64-j):=by rw [<- e]; rfl
  rw [e2]
  exact ih
theorem Zun {k l:LI} (hk:Byt k) (hl:Byt l) (p:Q4):Z9m k (pt p) l=some (pt (Zkt k l p Zow 64)):=by
 rw [Z9m,Z3 Zu7,Z2a,Z3 (Zgo p),Z3 (Zgo Zow)]
 dsimp only
 rw [Z3 Zsi,Z2a]
 obtain ⟨n,hn⟩ : ∃ n,big=n+1+64:=⟨18446744073709551551,Z6d⟩
 have:=Zlm hk hl p Zow 64 n (by decide)
 rw [<- hn] at this
 exact this
theorem Zwb {x:LI} (h:Byt x):Z5z x=some (ieq 32 (byt (Z7b (fe (Zi4 x))%PP)) x):=by
 rw [Z5z,Z3 (Zdh h),Z3 (Zss (Zef _))]
def esq:LI:=[253,255,255,255,255,255,255,255,255,255,255,255,255,255,255,255,255,255,255,255,255,255,255,255,255,255,255,255,255,255,255,15]
def ert:LI:=[251,255,255,255,255,255,255,255,255,255,255,255,255,255,255,255,255,255,255,255,255,255,255,255,255,255,255,255,255,255,255,31]
theorem Z01e:Z7o 253 15=some esq:=by kernel_rfl
theorem Z01d:Z7o 251 31=some ert:=by kernel_rfl
theorem fpow (a:Int) {e:LI} (he:Byt e):Zbj (fe a) e=some (fe (pw (a%PP) e 256)):=by
 rw [Z031 (Zef _) he,Z02n (Zyf _ _ _),Z5o]
theorem fodd (a:Int):Z8u (fe a)=some (a%PP%2==1):=by rw [Zt8 (Zef _),Z5o,Zjw]
theorem Z05b (a:Int):Z5f (fe a)=some (decide (a%PP=0)):=by rw [Zxd (Zef _),Z5o,Zjw]
theorem feq (a b:Int):Z8t (fe a) (fe b)=some (decide (a%PP=b%PP)):=by rw [Z00e (Zef _) (Zef _),Z5o,Z5o,Zjw,Zjw]
theorem Zx3 (c:Bool) (a b:Int):Z9a c (fe a) (fe b)=some (fe (bif c then a else b)):=by
 rw [Zyy (Zef _) (Zef _),Z5o,Z5o]; cases c <;> simp [Z02m]
def fabs (a:Int):Int:=bif a%PP%2==1 then -a else a
def Zpd (a b:Int):Int:=a*(b*b*b)*pw ((a*((b*b*b)*(b*b*b))*b)%PP) esq 256
def Z01u:Int:=pw (2%PP) ert 256
def Zvu (a b:Int):Int×Bool :=
 if b%PP=0 then (0,decide (a%PP=0))
 else if (b*(Zpd a b*Zpd a b))%PP=a%PP then (fabs (Zpd a b),true)
 else if (b*(Zpd a b*Zpd a b))%PP=(-a)%PP then (fabs (Zpd a b*Z01u),true)
 else (0,false)
theorem fe0:([0,0,0,0,0]:LI)=fe 0:=by decide
theorem Z07k (a b:Int):Z7n (fe a) (fe b)=some (fe (Zvu a b).1,(Zvu a b).2):=by
 rw [Z7n,Z3 (Z05b b)]
 unfold Zvu
 by_cases h:b%PP=0
 ·rw [if_pos h,Z2e (by simpa using h),Zj,Z3 (Z05b a),fe0]
 ·rw [if_neg h,Z1p (by simpa using h),Z3 (Zgg b),Z3 (Zmt _ _),Z3 (Zgg _),Z3 (Zmt _ _),Z3 (Zmt _ _),Z3 (Zmt _ _),Z3 Z01e,Z3 (fpow _ (byt_of (by decide))),Z3 (Zmt _ _)]
  have e0:a*(b*b*b)*pw ((a*((b*b*b)*(b*b*b))*b)%PP) esq 256=Zpd a b:=rfl
  rw [e0,Z3 (Zgg _),Z3 (Zmt _ _),Z2a,Z3 (feq _ _)]
  by_cases h1:(b*(Zpd a b*Zpd a b))%PP=a%PP
  ·rw [if_pos h1,Z2e (by simpa using h1)]
   dsimp only
   rw [Z3 (fodd _),Z3 (fneg _),Z3 (Zx3 _ _ _)]
   rfl
  ·rw [if_neg h1,Z1p (by simpa using h1),Z3 (fneg _),Z3 (feq _ _)]
   by_cases h2:(b*(Zpd a b*Zpd a b))%PP=(-a)%PP
   ·rw [if_pos h2,Z2e (by simpa using h2),Z3 (Zu5 (n:=2) (by decide)),Z3 Z01d,Z3 (fpow _ (byt_of (by decide))),Z3 (Zmt _ _)]
    dsimp only
    rw [Z3 (fodd _),Z3 (fneg _),Z3 (Zx3 _ _ _)]
    rfl
   ·rw [if_neg h2,Z1p (by simpa using h2),Zj,fe0]
def DD:Int:=37095705934669439343138083508754565189542113879843219016388785533085940283555
theorem Z00q:Zcr=some (fe DD):=by rw [Zcr,Zj]; decide
def Z50 (p:LI):LI:=Z3z p 31 (p.getD 31 0%128)
def Zzu (p:LI):Int:=p.getD 31 0 / 128
def dcan (p:LI):Bool:=ieq 32 (byt (Z7b (fe (Zi4 (Z50 p)))%PP)) (Z50 p)
def Zee (y:Int):Int×Bool:=Zvu (y*y-1) (DD*(y*y)+1)
def dx (p:LI):Int:=if Zzu p=1 then-(Zee (Zi4 (Z50 p))).1 else (Zee (Zi4 (Z50 p))).1
def dok (p:LI):Bool:=dcan p&&(Zee (Zi4 (Z50 p))).2 && !(Zzu p==1&&decide ((Zee (Zi4 (Z50 p))).1%PP=0))
def dpt (p:LI):Q4:=⟨dx p,Zi4 (Z50 p),1,dx p*Zi4 (Z50 p)⟩
theorem Zjh {p:LI} (h:Byt p) {j:Nat} {v:Int} (hv:0<=v/\v<256):Byt (Z3z p j v):=by
 intro i
 rw [Z8j]
 split
 ·exact hv
 ·exact h i
theorem Z08f {x:Int} (h0:0<=x) (h1:x<256):Z7 .and .u8 x 127=x%128:=Zis 7 (by decide) (by decide) h0 h1
theorem Zps {p:LI} (h:Byt p):Zbe p=some (if dok p then (pt (dpt p),true) else (Z11,false)):=by
 have h31:=h 31
 have hy:Byt (Z50 p):=Zjh h (by omega)
 have hs:Zr .u8 (p.getD 31 0) 7=Zzu p:=by have:=Zh4 .u8 (x:=p.getD 31 0) (n:=7) (by decide); simpa [Zzu] using this
 rw [Zbe,Zj,Zj,Zj,Zj,Zj,Z08f h31.1 h31.2,hs]
 show opt (Z5z (Z50 p)) _=_
 rw [Z3 (Zwb hy)]
 have ec:ieq 32 (byt (Z7b (fe (Zi4 (Z50 p)))%PP)) (Z50 p)=dcan p:=rfl
 rw [ec]
 unfold dok
 cases hc:dcan p
 ·rw [Z2e (by rfl)]; rfl
 ·rw [Z1p (by rfl)]
  show opt (Z35 (Z50 p)) _=_
  rw [Z3 (Zdh hy),Z3 (Zgg _),Z3 Zp9,Z3 (fsub _ _),Z3 Z00q,Z3 (Zmt _ _),Z3 (Zzw _ _),Z3 (Z07k _ _)]
  have er:Zvu (Zi4 (Z50 p)*Zi4 (Z50 p)-1) (DD*(Zi4 (Z50 p)*Zi4 (Z50 p))+1)=Zee (Zi4 (Z50 p)):=rfl
  rw [er]
  simp only [Z05b]
  cases hd:(Zee (Zi4 (Z50 p))).2
  ·rw [Z0h (by simp [imp]),Z2e (by simp)]; rfl
  ·rw [Z0h (by simp [imp])]
   by_cases hz:(Zzu p==1&&decide ((Zee (Zi4 (Z50 p))).1%PP=0))=true
   ·rw [Z2e (by simpa using hz),if_neg (by simp [hz])]; rfl
   ·have hz':(Zzu p==1&&decide ((Zee (Zi4 (Z50 p))).1%PP=0))=false:=by simpa using hz
    rw [Z1p (by simpa using hz'),if_pos (by simp [hz']),Z2a]
    unfold dpt dx
    by_cases ht:Zzu p=1
    ·rw [Z2e (by simp [ht]),Z3 (fneg _),if_pos ht]
     dsimp only
     rw [Z3 (Zmt _ _)]; rfl
    ·rw [Z1p (by simpa using ht),if_neg ht]
     dsimp only
     rw [Z3 (Zmt _ _)]; rfl
def W64 (l:LI):Prop:=∀ i,0<=l.getD i 0/\l.getD i 0<18446744073709551616
def V4 (l:LI):Int:=l.getD 0 0+l.getD 1 0*18446744073709551616+l.getD 2 0*340282366920938463463374607431768211456+l.getD 3 0*6277101735386680763835789423207666416102355444464034512896
def B4:Int:=115792089237316195423570985008687907853269984665640564039457584007913129639936
def VL:Int:=7237005577332262213973186563042994240857116359379907606001950938285454250989
theorem Zo4:V4 G_order=VL:=by decide
theorem Zo0 {l:LI} (h : ∀ x∈l,0<=x/\x<18446744073709551616):W64 l:=by
 intro i
 simp only [List.getD]
 cases hi:l[i]? with
 | none=>simp
 | some v=>exact h v (List.mem_of_getElem? hi)
theorem Ze4:W64 G_order:=Zo0 (by decide)
theorem Zcn {l:LI} (h:W64 l) {i:Nat} {z:Int} (hz:0<=z/\z<18446744073709551616):W64 (Z3z l i z):=by
 intro j; rw [Z8j]; split
 ·exact hz
 ·exact h j
theorem Zl0 {l:LI} (h:W64 l) {i:Nat} {z:Int} (hz:0<=z/\z<18446744073709551616):W64 (Zji 0 l i z):=by
 intro j; rw [Z7p]; split
 ·exact hz
 ·exact h j
theorem Z5b (n:Nat):W64 (List.replicate n 0):=Zo0 (by intro x hx; rw [List.mem_replicate] at hx; omega)
theorem Zth (x y:Int):0<=Z7 .or .u64 x y/\Z7 .or .u64 x y<18446744073709551616:=by
 show 0<=IntKind.u64.wrap _/\IntKind.u64.wrap _<_
 rw [Zha]; omega
theorem Zre (x y:Int):0<=Z7 .and .u64 x y/\Z7 .and .u64 x y<18446744073709551616:=by
 show 0<=IntKind.u64.wrap _/\IntKind.u64.wrap _<_
 rw [Zha]; omega
theorem Z03f {x y c:Int} (hx:0<=x/\x<18446744073709551616) (hy:0<=y/\y<18446744073709551616) (hc:c=0∨c=1):Zfu x y c=true:=by
 unfold Zfu
 rw [decide_eq_true hx.1,decide_eq_true hy.1,decide_eq_true (show 0<=c by omega),decide_eq_true (show c<=1 by omega)]; rfl
theorem Z07m {x y c:Int} (hx:0<=x/\x<18446744073709551616) (hy:0<=y/\y<18446744073709551616) (hc:c=0∨c=1):Zz6 x y c=true:=by
 unfold Zz6
 rw [decide_eq_true hx.1,decide_eq_true hy.1,decide_eq_true hy.2,decide_eq_true (show 0<=c by omega),decide_eq_true (show c<=1 by omega)]; rfl
theorem Zhj {q:LI} {k:Int->LI->Option (LI×Int)} {a:LI} {c:Int} (n:Nat) {i:Nat} (hi:i<4) (ha:W64 a) (hq:W64 q) (hc:c=0∨c=1) :
  ∃ c' lo,Z37 q k (n+1) c (i:Int) a=Z37 q k n c' ((i+1:Nat):Int) (Z3z a i lo)/\0<=lo/\lo<18446744073709551616/\(c'=0∨c'=1)/\lo=a.getD i 0-q.getD i 0-c+c'*18446744073709551616:=by
 have h1:=ha i
 have h2:=hq i
 refine ⟨Z01x (a.getD i 0) (q.getD i 0) c,Z01y (a.getD i 0) (q.getD i 0) c,?_,?_⟩
 ·rw [Z37,Z7z,Z2e (by simp; omega),Z0h (Z3l (by omega) (by omega)),Z0h (Z3l (by omega) (by omega)),Zj,Zj]
  simp only [Int.toNat_natCast]
  rw [Z0h (Z07m h1 h2 hc),Zj,Zj,Z0h (Z3l (by omega) (by omega)),Zj,Zj,Zp (by omega) (by omega)]
  rfl
 ·unfold Z01x Z01y
  generalize a.getD i 0=x at *
  generalize q.getD i 0=y at *
  split <;> omega
theorem Zl8 {p q:LI} (hp:W64 p) (hq:W64 q) : ∃ a c,Z6h p q=some (a,c)/\W64 a/\(c=0∨c=1)/\V4 a=V4 p-V4 q+c*B4:=by
 obtain ⟨n,hn⟩ : ∃ n,big=n+1+1+1+1+1:=⟨18446744073709551611,Z6d⟩
 rw [Z6h,Z2a,hn]
 obtain ⟨c0,l0,e0,b0,b0',hc0,v0⟩:=Zhj (k:=fun i a=>some (a,i)) (n+1+1+1+1) (i:=0) (by decide) hp hq (.inl rfl)
 have w0:=Zcn hp (i:=0) ⟨b0,b0'⟩
 obtain ⟨c1,l1,e1,b1,b1',hc1,v1⟩:=Zhj (k:=fun i a=>some (a,i)) (n+1+1+1) (i:=1) (by decide) w0 hq hc0
 have w1:=Zcn w0 (i:=1) ⟨b1,b1'⟩
 obtain ⟨c2,l2,e2,b2,b2',hc2,v2⟩:=Zhj (k:=fun i a=>some (a,i)) (n+1+1) (i:=2) (by decide) w1 hq hc1
 have w2:=Zcn w1 (i:=2) ⟨b2,b2'⟩
 obtain ⟨c3,l3,e3,b3,b3',hc3,v3⟩:=Zhj (k:=fun i a=>some (a,i)) (n+1) (i:=3) (by decide) w2 hq hc2
 have w3:=Zcn w2 (i:=3) ⟨b3,b3'⟩
 refine ⟨_,c3,(e0.trans (e1.trans (e2.trans (e3.trans ?_)))),w3,hc3,?_⟩
 ·rw [Z37,Z7z,Z1p (by decide)]
 ·simp only [V4,Z8j] at v1 v2 v3 ⊢
  simp [-List.getD_eq_getElem?_getD] at v1 v2 v3 ⊢
  unfold B4
  omega
theorem Zj8 {q:LI} {k:Int->LI->Option (LI×Int)} {a:LI} {c:Int} (n:Nat) {i:Nat} (hi:i<4) (ha:W64 a) (hq:W64 q) (hc:c=0∨c=1) :
  ∃ c' lo,Z3q q k (n+1) c (i:Int) a=Z3q q k n c' ((i+1:Nat):Int) (Z3z a i lo)/\0<=lo/\lo<18446744073709551616/\(c'=0∨c'=1)/\lo=a.getD i 0+q.getD i 0+c-c'*18446744073709551616:=by
 have h1:=ha i
 have h2:=hq i
 refine ⟨Zg6 (a.getD i 0) (q.getD i 0) c,Zbb (a.getD i 0) (q.getD i 0) c,?_,?_⟩
 ·rw [Z3q,Z8n,Z2e (by simp; omega),Z0h (Z3l (by omega) (by omega)),Z0h (Z3l (by omega) (by omega)),Zj,Zj]
  simp only [Int.toNat_natCast]
  rw [Z0h (Z03f h1 h2 hc),Zj,Zj,Z0h (Z3l (by omega) (by omega)),Zj,Zj,Zp (by omega) (by omega)]
  rfl
 ·unfold Zg6 Zbb
  generalize a.getD i 0=x at *
  generalize q.getD i 0=y at *
  omega
theorem Zig {p q:LI} (hp:W64 p) (hq:W64 q) : ∃ a c,Z5p p q=some (a,c)/\W64 a/\(c=0∨c=1)/\V4 a=V4 p+V4 q-c*B4:=by
 obtain ⟨n,hn⟩ : ∃ n,big=n+1+1+1+1+1:=⟨18446744073709551611,Z6d⟩
 rw [Z5p,Z2a,hn]
 obtain ⟨c0,l0,e0,b0,b0',hc0,v0⟩:=Zj8 (k:=fun i a=>some (a,i)) (n+1+1+1+1) (i:=0) (by decide) hp hq (.inl rfl)
 have w0:=Zcn hp (i:=0) ⟨b0,b0'⟩
 obtain ⟨c1,l1,e1,b1,b1',hc1,v1⟩:=Zj8 (k:=fun i a=>some (a,i)) (n+1+1+1) (i:=1) (by decide) w0 hq hc0
 have w1:=Zcn w0 (i:=1) ⟨b1,b1'⟩
 obtain ⟨c2,l2,e2,b2,b2',hc2,v2⟩:=Zj8 (k:=fun i a=>some (a,i)) (n+1+1) (i:=2) (by decide) w1 hq hc1
 have w2:=Zcn w1 (i:=2) ⟨b2,b2'⟩
 obtain ⟨c3,l3,e3,b3,b3',hc3,v3⟩:=Zj8 (k:=fun i a=>some (a,i)) (n+1) (i:=3) (by decide) w2 hq hc2
 have w3:=Zcn w2 (i:=3) ⟨b3,b3'⟩
 refine ⟨_,c3,(e0.trans (e1.trans (e2.trans (e3.trans ?_)))),w3,hc3,?_⟩
 ·rw [Z3q,Z8n,Z1p (by decide)]
 ·simp only [V4,Z8j] at v1 v2 v3 ⊢
  simp [-List.getD_eq_getElem?_getD] at v1 v2 v3 ⊢
  unfold B4
  omega
theorem Ze3 {l:LI} (h:W64 l):0<=V4 l/\V4 l<B4:=by
 have h0:=h 0
 have h1:=h 1
 have h2:=h 2
 have h3:=h 3
 unfold V4 B4
 omega
theorem Zhb {k2:LI->Option (LI)} {k5:Unit->Option (LI)} {a:LI} (n:Nat) {i:Nat} (hi:i<4) :
  Z0u k2 a k5 (n+1) (i:Int)=if a.getD i 0<G_order.getD i 0 then k2 a else if a.getD i 0>G_order.getD i 0 then k5 () else Z0u k2 a k5 n ((i:Int)-1):=by
 rw [Z0u,Z7y,Z2e (by simp),Z0h (Z3l (by omega) (by omega)),Z0h (Z3l (by omega) (by omega)),Zj,Zj]
 simp only [Int.toNat_natCast]
 by_cases h1:a.getD i 0<G_order.getD i 0
 ·rw [Z2e (by simpa using h1),if_pos h1]
 ·rw [Z1p (by simpa using h1),if_neg h1,Z0h (Z3l (by omega) (by omega)),Z0h (Z3l (by omega) (by omega)),Zj,Zj]
  by_cases h2:a.getD i 0>G_order.getD i 0
  ·rw [Z2e (by simpa using h2),if_pos h2]
  ·rw [Z1p (by simpa using h2),if_neg h2,Zj,Zp (by omega) (by omega)]
theorem Zpl {k2:LI->Option (LI)} {k5:Unit->Option (LI)} {a:LI} (ha:W64 a):Z0u k2 a k5 big 3=if V4 a<VL then k2 a else k5 ():=by
 obtain ⟨n,hn⟩ : ∃ n,big=n+1+1+1+1+1:=⟨18446744073709551611,Z6d⟩
 rw [hn]
 have s3:=Zhb (k2:=k2) (k5:=k5) (a:=a) (n+1+1+1+1) (i:=3) (by decide)
 have s2:=Zhb (k2:=k2) (k5:=k5) (a:=a) (n+1+1+1) (i:=2) (by decide)
 have s1:=Zhb (k2:=k2) (k5:=k5) (a:=a) (n+1+1) (i:=1) (by decide)
 have s0:=Zhb (k2:=k2) (k5:=k5) (a:=a) (n+1) (i:=0) (by decide)
 have e:Z0u k2 a k5 (n+1) (-1)=k5 ():=by
  rw [Z0u,Z7y,Z1p (by decide)]
 have o0:G_order.getD 0 0=6346243789798364141:=rfl
 have o1:G_order.getD 1 0=1503914060200516822:=rfl
 have o2:G_order.getD 2 0=0:=rfl
 have o3:G_order.getD 3 0=1152921504606846976:=rfl
 rw [o0] at s0
 rw [o1] at s1
 rw [o2] at s2
 rw [o3] at s3
 have s0':Z0u k2 a k5 (n+1+1) (1-1)=_:=s0
 have s1':Z0u k2 a k5 (n+1+1+1) (2-1)=_:=s1
 have s2':Z0u k2 a k5 (n+1+1+1+1) (3-1)=_:=s2
 have e':Z0u k2 a k5 (n+1) (0-1)=k5 ():=e
 have f3:Z0u k2 a k5 (n+1+1+1+1+1) 3=_:=s3
 rw [f3]
 rw [show ((3:Nat):Int)-1=3-1 from rfl,s2',show ((2:Nat):Int)-1=2-1 from rfl,s1',show ((1:Nat):Int)-1=1-1 from rfl,s0',show ((0:Nat):Int)-1=0-1 from rfl,e']
 have h0:=ha 0
 have h1:=ha 1
 have h2:=ha 2
 have h3:=ha 3
 unfold V4 VL
 generalize a.getD 0 0=a0 at *
 generalize a.getD 1 0=a1 at *
 generalize a.getD 2 0=a2 at *
 generalize a.getD 3 0=a3 at *
 by_cases hv:a0+a1*18446744073709551616+a2*340282366920938463463374607431768211456+a3*6277101735386680763835789423207666416102355444464034512896<7237005577332262213973186563042994240857116359379907606001950938285454250989
 ·rw [if_pos hv]
  repeat' split
  all_goals first | rfl | (exfalso; omega)
 ·rw [if_neg hv]
  repeat' split
  all_goals first | rfl | (exfalso; omega)
theorem Zul (m:Nat) : ∀ (n:Nat) {a:LI},W64 a->V4 a<((m:Int)+1)*VL->∃ r,Z3x some (n+1+m) a=some r/\W64 r/\V4 r=V4 a%VL:=by
 induction m with
 | zero =>
  intro n a ha hv
  have h0:=Ze3 ha
  have hv':V4 a<VL:=by omega
  refine ⟨a,?_,ha,?_⟩
  ·rw [Nat.add_zero,Z3x,Z7x,Z2a,Zpl ha,if_pos hv']
  ·rw [Int.emod_eq_of_lt h0.1 hv']
 | succ m ih =>
  intro n a ha hv
  have h0:=Ze3 ha
  rw [<- Nat.add_assoc,Z3x,Z7x,Z2a,Zpl ha]
  by_cases h:V4 a<VL
  ·rw [if_pos h]
   exact ⟨a,rfl,ha,by rw [Int.emod_eq_of_lt h0.1 h]⟩
  ·rw [if_neg h]
   obtain ⟨b,c,e,hb,hc,hv2⟩:=Zl8 ha Ze4
   have hbr:=Ze3 hb
   rw [Zo4] at hv2
   have hc0:c=0:=by
    unfold B4 VL at *
    rcases hc with h | h
    ·exact h
    ·exfalso; subst h; omega
   rw [Z3 e]
   have hv3:V4 b=V4 a-VL:=by rw [hv2,hc0]; omega
   have hlt:V4 b<((m:Int)+1)*VL:=by
    rw [hv3]
    have:((m+1:Nat):Int)+1=((m:Int)+1)+1:=by omega
    rw [this,Int.add_mul ((m:Int)+1) 1 VL] at hv
    omega
   obtain ⟨r,er,hr,vr⟩:=ih n hb hlt
   exact ⟨r,er,hr,by rw [vr,hv3,Int.sub_emod_right]⟩
theorem Zoc {a:LI} (ha:W64 a) : ∃ r,Z7w a=some r/\W64 r/\V4 r=V4 a%VL:=by
 rw [Z7w,Z2a]
 obtain ⟨n,hn⟩ : ∃ n,big=n+1+16:=⟨18446744073709551599,Z6d⟩
 rw [hn]
 have h:=Ze3 ha
 exact Zul 16 n ha (by unfold B4 at h; unfold VL; omega)
end Go.Proofs.YteefpkhngighgaaGreatDoor
namespace Go.Proofs.YteefpkhngighgaaGreatDoor
open Go Go.Sx Go.RowKit
open List (replicate)
open Go.IntKind (wrap)
set_option linter.all false
set_option maxRecDepth 100000
theorem Zv2 (p:LI):Zaw p=some [Z7 .or .u64 (Z7 .or .u64 (Z7 .or .u64 (Z7 .or .u64 (Z7 .or .u64 (Z7 .or .u64 (Z7 .or .u64 (Z7 .or .u64 (0) (Z02 .u64 (wrap .u64 (p.getD 0 0)) 0)) (Z02 .u64 (wrap .u64 (p.getD 1 0)) 8)) (Z02 .u64 (wrap .u64 (p.getD 2 0)) 16)) (Z02 .u64 (wrap .u64 (p.getD 3 0)) 24)) (Z02 .u64 (wrap .u64 (p.getD 4 0)) 32)) (Z02 .u64 (wrap .u64 (p.getD 5 0)) 40)) (Z02 .u64 (wrap .u64 (p.getD 6 0)) 48)) (Z02 .u64 (wrap .u64 (p.getD 7 0)) 56),Z7 .or .u64 (Z7 .or .u64 (Z7 .or .u64 (Z7 .or .u64 (Z7 .or .u64 (Z7 .or .u64 (Z7 .or .u64 (Z7 .or .u64 (0) (Z02 .u64 (wrap .u64 (p.getD 8 0)) 0)) (Z02 .u64 (wrap .u64 (p.getD 9 0)) 8)) (Z02 .u64 (wrap .u64 (p.getD 10 0)) 16)) (Z02 .u64 (wrap .u64 (p.getD 11 0)) 24)) (Z02 .u64 (wrap .u64 (p.getD 12 0)) 32)) (Z02 .u64 (wrap .u64 (p.getD 13 0)) 40)) (Z02 .u64 (wrap .u64 (p.getD 14 0)) 48)) (Z02 .u64 (wrap .u64 (p.getD 15 0)) 56),Z7 .or .u64 (Z7 .or .u64 (Z7 .or .u64 (Z7 .or .u64 (Z7 .or .u64 (Z7 .or .u64 (Z7 .or .u64 (Z7 .or .u64 (0) (Z02 .u64 (wrap .u64 (p.getD 16 0)) 0)) (Z02 .u64 (wrap .u64 (p.getD 17 0)) 8)) (Z02 .u64 (wrap .u64 (p.getD 18 0)) 16)) (Z02 .u64 (wrap .u64 (p.getD 19 0)) 24)) (Z02 .u64 (wrap .u64 (p.getD 20 0)) 32)) (Z02 .u64 (wrap .u64 (p.getD 21 0)) 40)) (Z02 .u64 (wrap .u64 (p.getD 22 0)) 48)) (Z02 .u64 (wrap .u64 (p.getD 23 0)) 56),Z7 .or .u64 (Z7 .or .u64 (Z7 .or .u64 (Z7 .or .u64 (Z7 .or .u64 (Z7 .or .u64 (Z7 .or .u64 (Z7 .or .u64 (0) (Z02 .u64 (wrap .u64 (p.getD 24 0)) 0)) (Z02 .u64 (wrap .u64 (p.getD 25 0)) 8)) (Z02 .u64 (wrap .u64 (p.getD 26 0)) 16)) (Z02 .u64 (wrap .u64 (p.getD 27 0)) 24)) (Z02 .u64 (wrap .u64 (p.getD 28 0)) 32)) (Z02 .u64 (wrap .u64 (p.getD 29 0)) 40)) (Z02 .u64 (wrap .u64 (p.getD 30 0)) 48)) (Z02 .u64 (wrap .u64 (p.getD 31 0)) 56)]:=by kernel_rfl
theorem Zuh (p:LI) (k:LI->Option (LI)):Z5a p k big 0 (replicate 8 0)=k [Z7 .or .u64 (Z7 .or .u64 (Z7 .or .u64 (Z7 .or .u64 (Z7 .or .u64 (Z7 .or .u64 (Z7 .or .u64 (Z7 .or .u64 (0) (Z02 .u64 (wrap .u64 (p.getD 0 0)) 0)) (Z02 .u64 (wrap .u64 (p.getD 1 0)) 8)) (Z02 .u64 (wrap .u64 (p.getD 2 0)) 16)) (Z02 .u64 (wrap .u64 (p.getD 3 0)) 24)) (Z02 .u64 (wrap .u64 (p.getD 4 0)) 32)) (Z02 .u64 (wrap .u64 (p.getD 5 0)) 40)) (Z02 .u64 (wrap .u64 (p.getD 6 0)) 48)) (Z02 .u64 (wrap .u64 (p.getD 7 0)) 56),Z7 .or .u64 (Z7 .or .u64 (Z7 .or .u64 (Z7 .or .u64 (Z7 .or .u64 (Z7 .or .u64 (Z7 .or .u64 (Z7 .or .u64 (0) (Z02 .u64 (wrap .u64 (p.getD 8 0)) 0)) (Z02 .u64 (wrap .u64 (p.getD 9 0)) 8)) (Z02 .u64 (wrap .u64 (p.getD 10 0)) 16)) (Z02 .u64 (wrap .u64 (p.getD 11 0)) 24)) (Z02 .u64 (wrap .u64 (p.getD 12 0)) 32)) (Z02 .u64 (wrap .u64 (p.getD 13 0)) 40)) (Z02 .u64 (wrap .u64 (p.getD 14 0)) 48)) (Z02 .u64 (wrap .u64 (p.getD 15 0)) 56),Z7 .or .u64 (Z7 .or .u64 (Z7 .or .u64 (Z7 .or .u64 (Z7 .or .u64 (Z7 .or .u64 (Z7 .or .u64 (Z7 .or .u64 (0) (Z02 .u64 (wrap .u64 (p.getD 16 0)) 0)) (Z02 .u64 (wrap .u64 (p.getD 17 0)) 8)) (Z02 .u64 (wrap .u64 (p.getD 18 0)) 16)) (Z02 .u64 (wrap .u64 (p.getD 19 0)) 24)) (Z02 .u64 (wrap .u64 (p.getD 20 0)) 32)) (Z02 .u64 (wrap .u64 (p.getD 21 0)) 40)) (Z02 .u64 (wrap .u64 (p.getD 22 0)) 48)) (Z02 .u64 (wrap .u64 (p.getD 23 0)) 56),Z7 .or .u64 (Z7 .or .u64 (Z7 .or .u64 (Z7 .or .u64 (Z7 .or .u64 (Z7 .or .u64 (Z7 .or .u64 (Z7 .or .u64 (0) (Z02 .u64 (wrap .u64 (p.getD 24 0)) 0)) (Z02 .u64 (wrap .u64 (p.getD 25 0)) 8)) (Z02 .u64 (wrap .u64 (p.getD 26 0)) 16)) (Z02 .u64 (wrap .u64 (p.getD 27 0)) 24)) (Z02 .u64 (wrap .u64 (p.getD 28 0)) 32)) (Z02 .u64 (wrap .u64 (p.getD 29 0)) 40)) (Z02 .u64 (wrap .u64 (p.getD 30 0)) 48)) (Z02 .u64 (wrap .u64 (p.getD 31 0)) 56),Z7 .or .u64 (Z7 .or .u64 (Z7 .or .u64 (Z7 .or .u64 (Z7 .or .u64 (Z7 .or .u64 (Z7 .or .u64 (Z7 .or .u64 (0) (Z02 .u64 (wrap .u64 (p.getD 32 0)) 0)) (Z02 .u64 (wrap .u64 (p.getD 33 0)) 8)) (Z02 .u64 (wrap .u64 (p.getD 34 0)) 16)) (Z02 .u64 (wrap .u64 (p.getD 35 0)) 24)) (Z02 .u64 (wrap .u64 (p.getD 36 0)) 32)) (Z02 .u64 (wrap .u64 (p.getD 37 0)) 40)) (Z02 .u64 (wrap .u64 (p.getD 38 0)) 48)) (Z02 .u64 (wrap .u64 (p.getD 39 0)) 56),Z7 .or .u64 (Z7 .or .u64 (Z7 .or .u64 (Z7 .or .u64 (Z7 .or .u64 (Z7 .or .u64 (Z7 .or .u64 (Z7 .or .u64 (0) (Z02 .u64 (wrap .u64 (p.getD 40 0)) 0)) (Z02 .u64 (wrap .u64 (p.getD 41 0)) 8)) (Z02 .u64 (wrap .u64 (p.getD 42 0)) 16)) (Z02 .u64 (wrap .u64 (p.getD 43 0)) 24)) (Z02 .u64 (wrap .u64 (p.getD 44 0)) 32)) (Z02 .u64 (wrap .u64 (p.getD 45 0)) 40)) (Z02 .u64 (wrap .u64 (p.getD 46 0)) 48)) (Z02 .u64 (wrap .u64 (p.getD 47 0)) 56),Z7 .or .u64 (Z7 .or .u64 (Z7 .or .u64 (Z7 .or .u64 (Z7 .or .u64 (Z7 .or .u64 (Z7 .or .u64 (Z7 .or .u64 (0) (Z02 .u64 (wrap .u64 (p.getD 48 0)) 0)) (Z02 .u64 (wrap .u64 (p.getD 49 0)) 8)) (Z02 .u64 (wrap .u64 (p.getD 50 0)) 16)) (Z02 .u64 (wrap .u64 (p.getD 51 0)) 24)) (Z02 .u64 (wrap .u64 (p.getD 52 0)) 32)) (Z02 .u64 (wrap .u64 (p.getD 53 0)) 40)) (Z02 .u64 (wrap .u64 (p.getD 54 0)) 48)) (Z02 .u64 (wrap .u64 (p.getD 55 0)) 56),Z7 .or .u64 (Z7 .or .u64 (Z7 .or .u64 (Z7 .or .u64 (Z7 .or .u64 (Z7 .or .u64 (Z7 .or .u64 (Z7 .or .u64 (0) (Z02 .u64 (wrap .u64 (p.getD 56 0)) 0)) (Z02 .u64 (wrap .u64 (p.getD 57 0)) 8)) (Z02 .u64 (wrap .u64 (p.getD 58 0)) 16)) (Z02 .u64 (wrap .u64 (p.getD 59 0)) 24)) (Z02 .u64 (wrap .u64 (p.getD 60 0)) 32)) (Z02 .u64 (wrap .u64 (p.getD 61 0)) 40)) (Z02 .u64 (wrap .u64 (p.getD 62 0)) 48)) (Z02 .u64 (wrap .u64 (p.getD 63 0)) 56)]:=by kernel_rfl
theorem Zr0 (p:LI):Z6j p=some [wrap .u8 (p.getD 0 0),wrap .u8 (Zr .u64 (p.getD 0 0) 8),wrap .u8 (Zr .u64 (Zr .u64 (p.getD 0 0) 8) 8),wrap .u8 (Zr .u64 (Zr .u64 (Zr .u64 (p.getD 0 0) 8) 8) 8),wrap .u8 (Zr .u64 (Zr .u64 (Zr .u64 (Zr .u64 (p.getD 0 0) 8) 8) 8) 8),wrap .u8 (Zr .u64 (Zr .u64 (Zr .u64 (Zr .u64 (Zr .u64 (p.getD 0 0) 8) 8) 8) 8) 8),wrap .u8 (Zr .u64 (Zr .u64 (Zr .u64 (Zr .u64 (Zr .u64 (Zr .u64 (p.getD 0 0) 8) 8) 8) 8) 8) 8),wrap .u8 (Zr .u64 (Zr .u64 (Zr .u64 (Zr .u64 (Zr .u64 (Zr .u64 (Zr .u64 (p.getD 0 0) 8) 8) 8) 8) 8) 8) 8),wrap .u8 (p.getD 1 0),wrap .u8 (Zr .u64 (p.getD 1 0) 8),wrap .u8 (Zr .u64 (Zr .u64 (p.getD 1 0) 8) 8),wrap .u8 (Zr .u64 (Zr .u64 (Zr .u64 (p.getD 1 0) 8) 8) 8),wrap .u8 (Zr .u64 (Zr .u64 (Zr .u64 (Zr .u64 (p.getD 1 0) 8) 8) 8) 8),wrap .u8 (Zr .u64 (Zr .u64 (Zr .u64 (Zr .u64 (Zr .u64 (p.getD 1 0) 8) 8) 8) 8) 8),wrap .u8 (Zr .u64 (Zr .u64 (Zr .u64 (Zr .u64 (Zr .u64 (Zr .u64 (p.getD 1 0) 8) 8) 8) 8) 8) 8),wrap .u8 (Zr .u64 (Zr .u64 (Zr .u64 (Zr .u64 (Zr .u64 (Zr .u64 (Zr .u64 (p.getD 1 0) 8) 8) 8) 8) 8) 8) 8),wrap .u8 (p.getD 2 0),wrap .u8 (Zr .u64 (p.getD 2 0) 8),wrap .u8 (Zr .u64 (Zr .u64 (p.getD 2 0) 8) 8),wrap .u8 (Zr .u64 (Zr .u64 (Zr .u64 (p.getD 2 0) 8) 8) 8),wrap .u8 (Zr .u64 (Zr .u64 (Zr .u64 (Zr .u64 (p.getD 2 0) 8) 8) 8) 8),wrap .u8 (Zr .u64 (Zr .u64 (Zr .u64 (Zr .u64 (Zr .u64 (p.getD 2 0) 8) 8) 8) 8) 8),wrap .u8 (Zr .u64 (Zr .u64 (Zr .u64 (Zr .u64 (Zr .u64 (Zr .u64 (p.getD 2 0) 8) 8) 8) 8) 8) 8),wrap .u8 (Zr .u64 (Zr .u64 (Zr .u64 (Zr .u64 (Zr .u64 (Zr .u64 (Zr .u64 (p.getD 2 0) 8) 8) 8) 8) 8) 8) 8),wrap .u8 (p.getD 3 0),wrap .u8 (Zr .u64 (p.getD 3 0) 8),wrap .u8 (Zr .u64 (Zr .u64 (p.getD 3 0) 8) 8),wrap .u8 (Zr .u64 (Zr .u64 (Zr .u64 (p.getD 3 0) 8) 8) 8),wrap .u8 (Zr .u64 (Zr .u64 (Zr .u64 (Zr .u64 (p.getD 3 0) 8) 8) 8) 8),wrap .u8 (Zr .u64 (Zr .u64 (Zr .u64 (Zr .u64 (Zr .u64 (p.getD 3 0) 8) 8) 8) 8) 8),wrap .u8 (Zr .u64 (Zr .u64 (Zr .u64 (Zr .u64 (Zr .u64 (Zr .u64 (p.getD 3 0) 8) 8) 8) 8) 8) 8),wrap .u8 (Zr .u64 (Zr .u64 (Zr .u64 (Zr .u64 (Zr .u64 (Zr .u64 (Zr .u64 (p.getD 3 0) 8) 8) 8) 8) 8) 8) 8)]:=by kernel_rfl
theorem Znz (x:Int):0<=wrap .u8 x/\wrap .u8 x<256:=by rw [Z0v]; omega
theorem Zz5 (p:LI) : ∃ r,Z6j p=some r/\Byt r/\r.length=32:=by
  refine ⟨_,Zr0 p,byt_of ?_,rfl⟩
  repeat' (first | exact Znz _ | exact List.forall_mem_nil _ | refine List.forall_mem_cons.2 ⟨?_,?_⟩)
theorem Zl2 {x y:Int} (hx:0<=x) (hy:0<=y):Zfu x y 0=true:=by
  unfold Zfu
  rw [decide_eq_true hx,decide_eq_true hy]; rfl
theorem Zzd (x:Int):0<=wrap .u64 x/\wrap .u64 x<18446744073709551616:=by rw [Zha]; omega
theorem Zir (x y c:Int):0<=Zbb x y c/\Zbb x y c<18446744073709551616:=by unfold Zbb; omega
theorem Zsd {q:LI} (hq:W64 q) {i:Nat} {z:Int} (hz:0<=z/\z<18446744073709551616) {L:Nat} (hL:i+q.length<=L) (hb:L<1000000) (m:Nat) : ∀ (n:Nat) (j:Nat) (l:LI) (c:Int),j+m=q.length->l.length=L->W64 l->(0<=c/\c<18446744073709551616) ->
    ∃ l' c',(∀ k,Z21 q (i:Int) z k (n+1+m) l c (j:Int)=k l' c')/\l'.length=L/\W64 l'/\(0<=c'/\c'<18446744073709551616):=by
  induction m with
  | zero =>
    intro n j l c hj hl hw hc
    refine ⟨l,c,fun k=>?_,hl,hw,hc⟩
    rw [Nat.add_zero,Z21,Z4w,Z1p (by simp; omega)]
  | succ m ih =>
    intro n j l c hj hl hw hc
    have hqj:=hq j
    have hmul:=Zoq hz hqj
    have hlj:=hw (i+j)
    have hp:0<=z*q.getD j 0:=Int.mul_nonneg hz.1 hqj.1
    have e1:wrap .i64 ((i:Int)+(j:Int))=((i+j:Nat):Int):=by rw [Zp (by omega) (by omega)]; omega
    have e2:wrap .i64 ((j:Int)+1)=((j+1:Nat):Int):=by rw [Zp (by omega) (by omega)]; rfl
    have hj':j<q.length:=by omega
    have hbr:decide ((j:Int)<(q.length:Int))=true:=by simp; omega
    have hlo:0<=z*q.getD j 0%18446744073709551616:=by omega
    obtain ⟨l',c',e,h1,h2,h3⟩:=ih n (j+1) (Zji 0 l (i+j) (Zbb (Zbb (z*q.getD j 0%18446744073709551616) (l.getD (i+j) 0) 0) c 0)) (wrap .u64 (wrap .u64 (z*q.getD j 0 / 18446744073709551616+Zg6 (z*q.getD j 0%18446744073709551616) (l.getD (i+j) 0) 0)+Zg6 (Zbb (z*q.getD j 0%18446744073709551616) (l.getD (i+j) 0) 0) c 0)) (by omega) (by rw [Zd2 (by omega),List.length_set,hl]) (Zl0 hw (Zir _ _ _)) (Zzd _)
    refine ⟨l',c',fun k=>?_,h1,h2,h3⟩
    rw [<- Nat.add_assoc,Z21,Z4w,Z2e hbr,Z0h (Z3l (by omega) (by omega)),Zj]
    simp only [Int.toNat_natCast]
    rw [Z3 hmul,Zj,e1,Z0h (Z3l (by omega) (by omega)),Zj]
    simp only [Int.toNat_natCast]
    rw [Z0h (Zl2 hlo hlj.1),Zj,Zj,Zj,Z0h (Zl2 (Zir _ _ _).1 hc.1),Zj,Zj,Zj,Zj,Z0h (Z3l (by omega) (by omega)),Zj,Zj,e2]
    exact e k
theorem Zse {p q:LI} (hp:W64 p) (hq:W64 q) {L:Nat} (hL:p.length+q.length=L) (hb:L<1000000) (m:Nat) : ∀ (n:Nat) (i:Nat) (l:LI),i+m=p.length->l.length=L->W64 l ->
    ∃ l',Z20 p q some (n+1+m) l (i:Int)=some l'/\l'.length=L/\W64 l':=by
  induction m with
  | zero =>
    intro n i l hi hl hw
    refine ⟨l,?_,hl,hw⟩
    rw [Nat.add_zero,Z20,Z4v,Z1p (by simp; omega)]
  | succ m ih =>
    intro n i l hi hl hw
    have hbr:decide ((i:Int)<(p.length:Int))=true:=by simp; omega
    obtain ⟨n',hn⟩ : ∃ n',big=n'+1+q.length:=⟨18446744073709551615-q.length,by have:big=18446744073709551616:=Z6d; omega⟩
    obtain ⟨l',c',e,hl',hw',hc'⟩:=Zsd hq (i:=i) (hp i) (L:=L) (by omega) hb q.length n' 0 l 0 (by omega) hl hw (by decide)
    have e1:wrap .i64 ((i:Int)+(q.length:Int))=((i+q.length:Nat):Int):=by rw [Zp (by omega) (by omega)]; omega
    have e2:wrap .i64 ((i:Int)+1)=((i+1:Nat):Int):=by rw [Zp (by omega) (by omega)]; rfl
    obtain ⟨l2,e3,hl2,hw2⟩:=ih n (i+1) (Zji 0 l' (i+q.length) c') (by omega) (by rw [Zd2 (by omega),List.length_set,hl']) (Zl0 hw' hc')
    refine ⟨l2,?_,hl2,hw2⟩
    rw [<- Nat.add_assoc,Z20,Z4v,Z2e hbr,Z0h (Z3l (by omega) (by omega)),Zj,Z2a]
    simp only [Int.toNat_natCast]
    rw [hn]
    refine (e _).trans ?_
    simp only [Zj,e1,e2]
    rw [Z0h (Z3l (by omega) (by omega))]
    exact e3
theorem Zz8 {p q:LI} (hp:W64 p) (hq:W64 q) (hb:p.length+q.length<1000000) : ∃ r,Z6k p q=some r/\r.length=p.length+q.length/\W64 r:=by
  have e1:wrap .i64 ((p.length:Int)+(q.length:Int))=((p.length+q.length:Nat):Int):=by rw [Zp (by omega) (by omega)]; omega
  obtain ⟨n,hn⟩ : ∃ n',big=n'+1+p.length:=⟨18446744073709551615-p.length,by have:big=18446744073709551616:=Z6d; omega⟩
  obtain ⟨r,e,h1,h2⟩:=Zse hp hq (L:=p.length+q.length) rfl hb p.length n 0 (replicate (p.length+q.length) 0) (by omega) (by simp) (Z5b _)
  refine ⟨r,?_,h1,h2⟩
  rw [Z6k,Zj,e1,Z0h (by unfold mkB; simp; omega),Z2a,Int.toNat_natCast,hn]
  exact e
theorem Zqu {x:Int} (h:0<=x/\x<18446744073709551616):0<=Zr .u64 x 60/\Zr .u64 x 60<18446744073709551616:=by
  have:=Zh4 .u64 (x:=x) (n:=60) (by decide)
  rw [show ((60:Nat):Int)=60 from rfl] at this
  rw [this]
  have:((2^60:Nat):Int)=1152921504606846976:=by decide
  rw [this]; omega
theorem Zo5 {l r:LI} (h:W64 l) (hr:W64 r):W64 (l++r):=by
  intro i
  by_cases hi:i<l.length
  · have:(l++r).getD i 0=l.getD i 0:=by simp [List.getD_eq_getElem?_getD,List.getElem?_append_left hi]
    rw [this]; exact h i
  · have:(l++r).getD i 0=r.getD (i-l.length) 0:=by simp [List.getD_eq_getElem?_getD,List.getElem?_append_right (Nat.le_of_not_lt hi)]
    rw [this]; exact hr _
theorem Zo6 {z:Int} (h:0<=z/\z<18446744073709551616):W64 [z]:=Zo0 (by simpa using h)
theorem Zvj {p:LI} (hp:W64 p) (hb:p.length<1000000) {k:LI->Option (LI×LI)} (m:Nat) : ∀ (n i:Nat) (l:LI),i+m=p.length->l.length<=i->W64 l ->
    ∃ l',Z1b p k (n+1+m) l (i:Int)=k l'/\l'.length=l.length+m/\W64 l':=by
  induction m with
  | zero =>
    intro n i l hi hl hw
    refine ⟨l,?_,rfl,hw⟩
    rw [Nat.add_zero,Z1b,Z2k,Z1p (by simp; omega)]
  | succ m ih =>
    intro n i l hi hl hw
    have hbr:decide ((i:Int)<(p.length:Int))=true:=by simp; omega
    have e2:wrap .i64 ((i:Int)+1)=((i+1:Nat):Int):=by rw [Zp (by omega) (by omega)]; rfl
    have hs:=Zqu (hp i)
    by_cases h:i+1<p.length
    · obtain ⟨l',e,h1,h2⟩:=ih n (i+1) (l ++ [Z7 .or .u64 (Zr .u64 (p.getD i 0) 60) (Z02 .u64 (p.getD (i+1) 0) 4)]) (by omega) (by simp; omega) (Zo5 hw (Zo6 (Zth _ _)))
      refine ⟨l',?_,by rw [h1]; simp; omega,h2⟩
      rw [<- Nat.add_assoc,Z1b,Z2k,Z2e hbr,Z0h (Z3l (by omega) (by omega))]
      simp only [Zj,e2,Z2a,Int.toNat_natCast]
      rw [Z2e (by simp; omega),Z0h (Z3l (by omega) (by omega))]
      rw [Z0h (by simp; omega)]
      exact e
    · obtain ⟨l',e,h1,h2⟩:=ih n (i+1) (l ++ [Zr .u64 (p.getD i 0) 60]) (by omega) (by simp; omega) (Zo5 hw (Zo6 hs))
      refine ⟨l',?_,by rw [h1]; simp; omega,h2⟩
      rw [<- Nat.add_assoc,Z1b,Z2k,Z2e hbr,Z0h (Z3l (by omega) (by omega))]
      simp only [Zj,e2,Z2a,Int.toNat_natCast]
      rw [Z1p (by simp; omega)]
      rw [Z0h (by simp; omega)]
      exact e
theorem Zz2 {p:LI} (hp:W64 p) (h4:4<=p.length) (hb:p.length<1000000) : ∃ a h,Z6i p=some (a,h)/\W64 a/\W64 h/\h.length=p.length-3:=by
  obtain ⟨n,hn⟩ : ∃ n',big=n'+1+(p.length-3):=⟨18446744073709551615-(p.length-3),by have:big=18446744073709551616:=Z6d; omega⟩
  have hw0:W64 (wr (replicate 4 0) 0 (p.take 4)):=by
    intro i
    rw [Zkf]
    split
    · rename_i h
      have:(p.take 4).getD (i-0) 0=p.getD i 0:=by
        simp only [List.length_take] at h
        have h4':i<4:=by omega
        simp [List.getD_eq_getElem?_getD,List.getElem?_take,h4']
      rw [this]; exact hp i
    · exact Z5b 4 i
  obtain ⟨l',e,h1,h2⟩:=Zvj hp hb (k:=fun l128=>some (Z3z (wr (replicate 4 0) 0 (p.take 4)) 3 (Z7 .and .u64 ((wr (replicate 4 0) 0 (p.take 4)).getD 3 0) 1152921504606846975),l128)) (p.length-3) n 3 [] (by omega) (by simp) (Z5b 0)
  refine ⟨Z3z (wr (replicate 4 0) 0 (p.take 4)) 3 (Z7 .and .u64 ((wr (replicate 4 0) 0 (p.take 4)).getD 3 0) 1152921504606846975),l',?_,Zcn hw0 (Zre _ _),h2,by simpa using h1⟩
  simp only [Z6i,Zj,Z2a]
  rw [hn]
  exact e
theorem Zsn:W64 [6346243789798364141,1503914060200516822]:=Zo0 (by decide)
theorem Zdl {l:LI} (n:Nat) {i:Nat} {a:List (LI)} {k:List (LI)->Option (LI)} (hi:i<4) (hl:W64 l) (h4:4<=l.length) (hb:l.length<1000) (ha : ∀ i,W64 (a.getD i (replicate 4 0))) :
    ∃ l' a',Z1a k (n+1) l (i:Int) a=Z1a k n l' ((i+1:Nat):Int) a'/\W64 l'/\l'.length=l.length-1/\(∀ i,W64 (a'.getD i (replicate 4 0))):=by
  obtain ⟨lo,h,e,w1,w2,w3⟩:=Zz2 hl h4 (by omega)
  obtain ⟨s,c,e2,ws,_,_⟩:=Zig (ha (i%2)) w1
  obtain ⟨t,e3,l3,wt⟩:=Zz8 w2 Zsn (by simp; omega)
  have em:Int.tmod (i:Int) 2=((i%2:Nat):Int):=by rw [Int.tmod_eq_emod_of_nonneg (by omega)]; omega
  have e1:wrap .i64 ((i:Int)+1)=((i+1:Nat):Int):=by rw [Zp (by omega) (by omega)]; rfl
  refine ⟨t,Zji (replicate 4 0) a (i%2) s,?_,wt,by rw [l3,w3]; simp; omega,?_⟩
  · rw [Z1a,Z49,Z2e (by simp; omega),Z3 e]
    simp only [Zj,em,e1,Int.toNat_natCast]
    rw [Z0h (Z3l (by omega) (by omega)),Z3 e2,Z0h (Z3l (by omega) (by omega)),Zcz,Z3 rfl,Z3 e3]
  · intro j
    rw [Z7p]
    split
    · exact ws
    · exact ha j
theorem Zvd {p:LI} (hp:W64 p) (h8:p.length=8) : ∃ r,Z4j p=some r/\W64 r/\0<=V4 r/\V4 r<VL:=by
  obtain ⟨n,hn⟩ : ∃ n,big=n+1+1+1+1+1:=⟨18446744073709551611,Z6d⟩
  rw [Z4j,Z2a,hn]
  have ha0 : ∀ i,W64 ((replicate 2 (replicate 4 0):List (LI)).getD i (replicate 4 0)):=by
    intro i
    have:(replicate 2 (replicate 4 0):List (LI)).getD i (replicate 4 0)=replicate 4 0:=by
      match i with
      | 0=>rfl
      | 1=>rfl
      | i+2=>rfl
    rw [this]; exact Z5b 4
  obtain ⟨l1,a1,f1,w1,n1,h1⟩:=Zdl (n+1+1+1+1) (i:=0) (k:=fun (a121:List (LI))=>opt (Z5p G_order G_order) fun y239 =>
 bnd (a121.getD 0 (replicate 4 0)) fun x242 =>
 opt (Z5p x242 y239.1) fun y243 =>
 bnd (a121.getD 1 (replicate 4 0)) fun x246 =>
 opt (Z6h y243.1 x246) fun y247 =>
 opt (Z7w y247.1) fun y249 =>
 some y249) (by decide) hp (by omega) (by omega) ha0
  obtain ⟨l2,a2,f2,w2,n2,h2⟩:=Zdl (n+1+1+1) (i:=1) (k:=_) (by decide) w1 (by omega) (by omega) h1
  obtain ⟨l3,a3,f3,w3,n3,h3⟩:=Zdl (n+1+1) (i:=2) (k:=_) (by decide) w2 (by omega) (by omega) h2
  obtain ⟨l4,a4,f4,w4,n4,h4⟩:=Zdl (n+1) (i:=3) (k:=_) (by decide) w3 (by omega) (by omega) h3
  obtain ⟨g1,c1,q1,v1,_,_⟩:=Zig Ze4 Ze4
  obtain ⟨g2,c2,q2,v2,_,_⟩:=Zig (h4 0) v1
  obtain ⟨g3,c3,q3,v3,_,_⟩:=Zl8 v2 (h4 1)
  obtain ⟨r,q4,v4,v5⟩:=Zoc v3
  refine ⟨r,?_,v4,(Ze3 v4).1,by rw [v5]; exact Int.emod_lt_of_pos _ (by decide)⟩
  refine f1.trans (f2.trans (f3.trans (f4.trans ?_)))
  rw [Z1a,Z49,Z1p (by decide),Z3 q1,Zj,Z3 q2,Zj,Z3 q3,Z3 q4]
theorem tk8 (a b c d e f g h:Int):tk [a,b,c,d,e,f,g,h] 0 8 = [a,b,c,d,e,f,g,h]:=rfl
theorem Zui (p:LI) : ∃ r,Za1 p=some r/\Byt r/\r.length=32:=by
  rw [Za1,Z2a,Zuh]
  obtain ⟨r,e,w,_⟩:=Zvd (p:=[Z7 .or .u64 (Z7 .or .u64 (Z7 .or .u64 (Z7 .or .u64 (Z7 .or .u64 (Z7 .or .u64 (Z7 .or .u64 (Z7 .or .u64 (0) (Z02 .u64 (wrap .u64 (p.getD 0 0)) 0)) (Z02 .u64 (wrap .u64 (p.getD 1 0)) 8)) (Z02 .u64 (wrap .u64 (p.getD 2 0)) 16)) (Z02 .u64 (wrap .u64 (p.getD 3 0)) 24)) (Z02 .u64 (wrap .u64 (p.getD 4 0)) 32)) (Z02 .u64 (wrap .u64 (p.getD 5 0)) 40)) (Z02 .u64 (wrap .u64 (p.getD 6 0)) 48)) (Z02 .u64 (wrap .u64 (p.getD 7 0)) 56),Z7 .or .u64 (Z7 .or .u64 (Z7 .or .u64 (Z7 .or .u64 (Z7 .or .u64 (Z7 .or .u64 (Z7 .or .u64 (Z7 .or .u64 (0) (Z02 .u64 (wrap .u64 (p.getD 8 0)) 0)) (Z02 .u64 (wrap .u64 (p.getD 9 0)) 8)) (Z02 .u64 (wrap .u64 (p.getD 10 0)) 16)) (Z02 .u64 (wrap .u64 (p.getD 11 0)) 24)) (Z02 .u64 (wrap .u64 (p.getD 12 0)) 32)) (Z02 .u64 (wrap .u64 (p.getD 13 0)) 40)) (Z02 .u64 (wrap .u64 (p.getD 14 0)) 48)) (Z02 .u64 (wrap .u64 (p.getD 15 0)) 56),Z7 .or .u64 (Z7 .or .u64 (Z7 .or .u64 (Z7 .or .u64 (Z7 .or .u64 (Z7 .or .u64 (Z7 .or .u64 (Z7 .or .u64 (0) (Z02 .u64 (wrap .u64 (p.getD 16 0)) 0)) (Z02 .u64 (wrap .u64 (p.getD 17 0)) 8)) (Z02 .u64 (wrap .u64 (p.getD 18 0)) 16)) (Z02 .u64 (wrap .u64 (p.getD 19 0)) 24)) (Z02 .u64 (wrap .u64 (p.getD 20 0)) 32)) (Z02 .u64 (wrap .u64 (p.getD 21 0)) 40)) (Z02 .u64 (wrap .u64 (p.getD 22 0)) 48)) (Z02 .u64 (wrap .u64 (p.getD 23 0)) 56),Z7 .or .u64 (Z7 .or .u64 (Z7 .or .u64 (Z7 .or .u64 (Z7 .or .u64 (Z7 .or .u64 (Z7 .or .u64 (Z7 .or .u64 (0) (Z02 .u64 (wrap .u64 (p.getD 24 0)) 0)) (Z02 .u64 (wrap .u64 (p.getD 25 0)) 8)) (Z02 .u64 (wrap .u64 (p.getD 26 0)) 16)) (Z02 .u64 (wrap .u64 (p.getD 27 0)) 24)) (Z02 .u64 (wrap .u64 (p.getD 28 0)) 32)) (Z02 .u64 (wrap .u64 (p.getD 29 0)) 40)) (Z02 .u64 (wrap .u64 (p.getD 30 0)) 48)) (Z02 .u64 (wrap .u64 (p.getD 31 0)) 56),Z7 .or .u64 (Z7 .or .u64 (Z7 .or .u64 (Z7 .or .u64 (Z7 .or .u64 (Z7 .or .u64 (Z7 .or .u64 (Z7 .or .u64 (0) (Z02 .u64 (wrap .u64 (p.getD 32 0)) 0)) (Z02 .u64 (wrap .u64 (p.getD 33 0)) 8)) (Z02 .u64 (wrap .u64 (p.getD 34 0)) 16)) (Z02 .u64 (wrap .u64 (p.getD 35 0)) 24)) (Z02 .u64 (wrap .u64 (p.getD 36 0)) 32)) (Z02 .u64 (wrap .u64 (p.getD 37 0)) 40)) (Z02 .u64 (wrap .u64 (p.getD 38 0)) 48)) (Z02 .u64 (wrap .u64 (p.getD 39 0)) 56),Z7 .or .u64 (Z7 .or .u64 (Z7 .or .u64 (Z7 .or .u64 (Z7 .or .u64 (Z7 .or .u64 (Z7 .or .u64 (Z7 .or .u64 (0) (Z02 .u64 (wrap .u64 (p.getD 40 0)) 0)) (Z02 .u64 (wrap .u64 (p.getD 41 0)) 8)) (Z02 .u64 (wrap .u64 (p.getD 42 0)) 16)) (Z02 .u64 (wrap .u64 (p.getD 43 0)) 24)) (Z02 .u64 (wrap .u64 (p.getD 44 0)) 32)) (Z02 .u64 (wrap .u64 (p.getD 45 0)) 40)) (Z02 .u64 (wrap .u64 (p.getD 46 0)) 48)) (Z02 .u64 (wrap .u64 (p.getD 47 0)) 56),Z7 .or .u64 (Z7 .or .u64 (Z7 .or .u64 (Z7 .or .u64 (Z7 .or .u64 (Z7 .or .u64 (Z7 .or .u64 (Z7 .or .u64 (0) (Z02 .u64 (wrap .u64 (p.getD 48 0)) 0)) (Z02 .u64 (wrap .u64 (p.getD 49 0)) 8)) (Z02 .u64 (wrap .u64 (p.getD 50 0)) 16)) (Z02 .u64 (wrap .u64 (p.getD 51 0)) 24)) (Z02 .u64 (wrap .u64 (p.getD 52 0)) 32)) (Z02 .u64 (wrap .u64 (p.getD 53 0)) 40)) (Z02 .u64 (wrap .u64 (p.getD 54 0)) 48)) (Z02 .u64 (wrap .u64 (p.getD 55 0)) 56),Z7 .or .u64 (Z7 .or .u64 (Z7 .or .u64 (Z7 .or .u64 (Z7 .or .u64 (Z7 .or .u64 (Z7 .or .u64 (Z7 .or .u64 (0) (Z02 .u64 (wrap .u64 (p.getD 56 0)) 0)) (Z02 .u64 (wrap .u64 (p.getD 57 0)) 8)) (Z02 .u64 (wrap .u64 (p.getD 58 0)) 16)) (Z02 .u64 (wrap .u64 (p.getD 59 0)) 24)) (Z02 .u64 (wrap .u64 (p.getD 60 0)) 32)) (Z02 .u64 (wrap .u64 (p.getD 61 0)) 40)) (Z02 .u64 (wrap .u64 (p.getD 62 0)) 48)) (Z02 .u64 (wrap .u64 (p.getD 63 0)) 56)]) (Zo0 (by
    repeat' (first | exact Zth _ _ | exact List.forall_mem_nil _ | refine List.forall_mem_cons.2 ⟨?_,?_⟩))) rfl
  obtain ⟨s,e2,b⟩:=Zz5 r
  refine ⟨s,?_,b⟩
  rw [tk8,Z3 e,Z3 e2]
end Go.Proofs.YteefpkhngighgaaGreatDoor
namespace Go.Proofs.YteefpkhngighgaaGreatDoor
open Go Go.Sx Go.RowKit
open Go.IntKind (wrap)
set_option linter.all false
set_option maxRecDepth 100000
def pV (l:LI):Nat->Int
 | 0=>0
 | n+1=>pV l n+l.getD n 0*(18446744073709551616:Int)^n
theorem Zap (l:LI) (n:Nat):pV l (n+1)=pV l n+l.getD n 0*(18446744073709551616:Int)^n:=rfl
theorem Zqd (l:LI) (i:Nat) (v:Int) : ∀ n,n<=i->pV (Zji 0 l i v) n=pV l n
 | 0,_=>rfl
 | n+1,h=>by rw [Zap,Zap,Zqd l i v n (by omega),Z7p,if_neg (by omega)]
theorem Zy0 (l:LI) (i:Nat) (v:Int) : ∀ n,i<n->pV (Zji 0 l i v) n=pV l n+(v-l.getD i 0)*(18446744073709551616:Int)^i
 | 0,h=>by omega
 | n+1,h=>by
  rw [Zap,Zap,Z7p]
  by_cases hi:n=i
  ·subst hi
   rw [if_pos rfl,Zqd l n v n (Nat.le_refl _),Int.sub_mul]
   omega
  ·rw [if_neg hi,Zy0 l i v n (by omega)]
   omega
theorem Zy1 {l:LI} {m:Nat} (h : ∀ t,m<=t->l.getD t 0=0) : ∀ n,m<=n->pV l n=pV l m
 | 0,hn=>by rw [show m=0 by omega]
 | n+1,hn=>by
  by_cases e:m=n+1
  ·rw [e]
  ·rw [Zap,h n (by omega),Zy1 h n (by omega)]; omega
theorem Zqc (n m:Nat):pV (List.replicate m 0) n=0:=by
 induction n with
 | zero=>rfl
 | succ n ih =>
  have:(List.replicate m (0:Int)).getD n 0=0:=by
   simp only [List.getD]
   cases hi:(List.replicate m (0:Int))[n]? with
   | none=>rfl
   | some v=>simpa using (List.mem_replicate.1 (List.mem_of_getElem? hi)).2
  rw [Zap,ih,this]; omega
theorem Zy5 (n:Nat):0<(18446744073709551616:Int)^n:=Int.pow_pos (by decide)
theorem Z02x {l:LI} (h:W64 l) : ∀ n,0<=pV l n/\pV l n<(18446744073709551616:Int)^n
 | 0=>by show (0:Int)<=0/\(0:Int)<1; omega
 | n+1=>by
  have ih:=Z02x h n
  have h1:=h n
  have hp:=Zy5 n
  rw [Zap,Int.pow_succ]
  generalize (18446744073709551616:Int)^n=w at *
  generalize l.getD n 0=x at *
  generalize pV l n=v at *
  have a:0<=x*w:=Int.mul_nonneg h1.1 (by omega)
  have b:x*w<=18446744073709551615*w:=Int.mul_le_mul_of_nonneg_right (by omega) (by omega)
  omega
theorem Zwd {z q o c:Int} (hz:0<=z/\z<18446744073709551616) (hq:0<=q/\q<18446744073709551616) (ho:0<=o/\o<18446744073709551616) (hc:0<=c/\c<18446744073709551616) :
  ∃ n,wrap .u64 (wrap .u64 (z*q / 18446744073709551616+Zg6 (z*q%18446744073709551616) o 0)+Zg6 (Zbb (z*q%18446744073709551616) o 0) c 0)=n/\0<=n/\n<18446744073709551616/\Zbb (Zbb (z*q%18446744073709551616) o 0) c 0+n*18446744073709551616=z*q+o+c:=by
 have h0:0<=z*q:=Int.mul_nonneg hz.1 hq.1
 have h1:z*q<=18446744073709551615*18446744073709551615:=Int.mul_le_mul (by omega) (by omega) hq.1 (by omega)
 generalize z*q=p at *
 refine ⟨_,rfl,?_⟩
 unfold Zbb Zg6
 have e1:wrap .u64 (p / 18446744073709551616+(p%18446744073709551616+o+0) / 18446744073709551616)=p / 18446744073709551616+(p%18446744073709551616+o+0) / 18446744073709551616:=Z03 (by omega) (by omega)
 rw [e1]
 rw [Z03 (by omega) (by omega)]
 omega
theorem Zr4 {q:LI} (hq:W64 q) {i:Nat} {z:Int} (hz:0<=z/\z<18446744073709551616) {L:Nat} (hL:i+q.length<=L) (hb:L<1000000) (m:Nat) : ∀ (n:Nat) (j:Nat) (l:LI) (c:Int),j+m=q.length->l.length=L->W64 l->(0<=c/\c<18446744073709551616) ->
  ∃ l' c',(∀ k,Z21 q (i:Int) z k (n+1+m) l c (j:Int)=k l' c')/\l'.length=L/\W64 l'/\(0<=c'/\c'<18446744073709551616) /\
   pV l' L+c'*(18446744073709551616:Int)^(i+q.length)+z*pV q j*(18446744073709551616:Int)^i=pV l L+c*(18446744073709551616:Int)^(i+j)+z*pV q q.length*(18446744073709551616:Int)^i/\(∀ t,i+q.length<=t->l'.getD t 0=l.getD t 0):=by
 induction m with
 | zero =>
  intro n j l c hj hl hw hc
  refine ⟨l,c,fun k=>?_,hl,hw,hc,?_,fun _ _=>rfl⟩
  ·rw [Nat.add_zero,Z21,Z4w,Z1p (by simp; omega)]
  ·rw [show j=q.length by omega]
 | succ m ih =>
  intro n j l c hj hl hw hc
  have hqj:=hq j
  have hmul:=Zoq hz hqj
  have hlj:=hw (i+j)
  have hp:0<=z*q.getD j 0:=Int.mul_nonneg hz.1 hqj.1
  have e1:wrap .i64 ((i:Int)+(j:Int))=((i+j:Nat):Int):=by rw [Zp (by omega) (by omega)]; omega
  have e2:wrap .i64 ((j:Int)+1)=((j+1:Nat):Int):=by rw [Zp (by omega) (by omega)]; rfl
  have hj':j<q.length:=by omega
  have hbr:decide ((j:Int)<(q.length:Int))=true:=by simp; omega
  have hlo:0<=z*q.getD j 0%18446744073709551616:=by omega
  obtain ⟨c1,ec,c1a,c1b,ev⟩:=Zwd hz hqj hlj hc
  obtain ⟨l',c',e,h1,h2,h3,h4,h5⟩:=ih n (j+1) (Zji 0 l (i+j) (Zbb (Zbb (z*q.getD j 0%18446744073709551616) (l.getD (i+j) 0) 0) c 0)) c1 (by omega) (by rw [Zd2 (by omega),List.length_set,hl]) (Zl0 hw (Zir _ _ _)) ⟨c1a,c1b⟩
  refine ⟨l',c',fun k=>?_,h1,h2,h3,?_,?_⟩
  ·rw [<- Nat.add_assoc,Z21,Z4w,Z2e hbr,Z0h (Z3l (by omega) (by omega)),Zj]
   simp only [Int.toNat_natCast]
   rw [Z3 hmul,Zj,e1,Z0h (Z3l (by omega) (by omega)),Zj]
   simp only [Int.toNat_natCast]
   rw [Z0h (Zl2 hlo hlj.1),Zj,Zj,Zj,Z0h (Zl2 (Zir _ _ _).1 hc.1),Zj,Zj,Zj,Zj,Z0h (Z3l (by omega) (by omega)),Zj,Zj,e2,ec]
   exact e k
  ·rw [Zy0 _ _ _ _ (by omega),Zap,<- Nat.add_assoc,Int.pow_succ,Int.pow_add 18446744073709551616 i j] at h4
   rw [Int.pow_add 18446744073709551616 i j]
   generalize (18446744073709551616:Int)^(i+q.length)=w1 at *
   generalize (18446744073709551616:Int)^i=w2 at *
   generalize (18446744073709551616:Int)^j=w3 at *
   generalize Zbb (Zbb (z*q.getD j 0%18446744073709551616) (l.getD (i+j) 0) 0) c 0=lo at *
   generalize q.getD j 0=qj at *
   generalize l.getD (i+j) 0=o at *
   generalize pV l' L=a1 at *
   generalize pV l L=a2 at *
   generalize pV q j=a3 at *
   generalize pV q q.length=a4 at *
   clear e ec ih
   grind -lia -linarith (splits:=0)
  ·intro t ht
   rw [h5 t ht,Z7p,if_neg (by omega)]
theorem Zr5 {p q:LI} (hp:W64 p) (hq:W64 q) {L:Nat} (hL:p.length+q.length=L) (hb:L<1000000) (m:Nat) : ∀ (n:Nat) (i:Nat) (l:LI),i+m=p.length->l.length=L->W64 l->(∀ t,i+q.length<=t->l.getD t 0=0)->pV l L=pV p i*pV q q.length ->
  ∃ l',Z20 p q some (n+1+m) l (i:Int)=some l'/\l'.length=L/\W64 l'/\pV l' L=pV p p.length*pV q q.length:=by
 induction m with
 | zero =>
  intro n i l hi hl hw hz hv
  refine ⟨l,?_,hl,hw,by rw [hv,show i=p.length by omega]⟩
  rw [Nat.add_zero,Z20,Z4v,Z1p (by simp; omega)]
 | succ m ih =>
  intro n i l hi hl hw hz hv
  have hbr:decide ((i:Int)<(p.length:Int))=true:=by simp; omega
  obtain ⟨n',hn⟩ : ∃ n',big=n'+1+q.length:=⟨18446744073709551615-q.length,by have:big=18446744073709551616:=Z6d; omega⟩
  obtain ⟨l',c',e,hl',hw',hc',v',z'⟩:=Zr4 hq (i:=i) (hp i) (L:=L) (by omega) hb q.length n' 0 l 0 (by omega) hl hw (by decide)
  have e1:wrap .i64 ((i:Int)+(q.length:Int))=((i+q.length:Nat):Int):=by rw [Zp (by omega) (by omega)]; omega
  have e2:wrap .i64 ((i:Int)+1)=((i+1:Nat):Int):=by rw [Zp (by omega) (by omega)]; rfl
  have hz0:l'.getD (i+q.length) 0=0:=by rw [z' _ (Nat.le_refl _),hz _ (Nat.le_refl _)]
  obtain ⟨l2,e3,hl2,hw2,v2⟩:=ih n (i+1) (Zji 0 l' (i+q.length) c') (by omega) (by rw [Zd2 (by omega),List.length_set,hl']) (Zl0 hw' hc') (by
   intro t ht
   rw [Z7p,if_neg (by omega),z' t (by omega),hz t (by omega)]) (by
   rw [Zy0 _ _ _ _ (by omega),hz0,Zap]
   rw [hv] at v'
   have e0:pV q 0=0:=rfl
   rw [e0] at v'
   generalize (18446744073709551616:Int)^(i+q.length)=w1 at *
   generalize (18446744073709551616:Int)^i=w2 at *
   generalize pV l' L=a1 at *
   generalize pV q q.length=a4 at *
   generalize pV p i=a5 at *
   generalize p.getD i 0=a6 at *
   clear e ih
   grind -lia -linarith (splits:=0))
  refine ⟨l2,?_,hl2,hw2,v2⟩
  rw [<- Nat.add_assoc,Z20,Z4v,Z2e hbr,Z0h (Z3l (by omega) (by omega)),Zj,Z2a]
  simp only [Int.toNat_natCast]
  rw [hn]
  refine (e _).trans ?_
  simp only [Zj,e1,e2]
  rw [Z0h (Z3l (by omega) (by omega))]
  exact e3
theorem Zr6 {p q:LI} (hp:W64 p) (hq:W64 q) (hb:p.length+q.length<1000000) : ∃ r,Z6k p q=some r/\r.length=p.length+q.length/\W64 r/\pV r r.length=pV p p.length*pV q q.length:=by
 have e1:wrap .i64 ((p.length:Int)+(q.length:Int))=((p.length+q.length:Nat):Int):=by rw [Zp (by omega) (by omega)]; omega
 obtain ⟨n,hn⟩ : ∃ n',big=n'+1+p.length:=⟨18446744073709551615-p.length,by have:big=18446744073709551616:=Z6d; omega⟩
 obtain ⟨r,e,h1,h2,h3⟩:=Zr5 hp hq (L:=p.length+q.length) rfl hb p.length n 0 (List.replicate (p.length+q.length) 0) (by omega) (by simp) (Z5b _) (by
  intro t _
  simp only [List.getD]
  cases hi:(List.replicate (p.length+q.length) (0:Int))[t]? with
  | none=>rfl
  | some v=>simpa using (List.mem_replicate.1 (List.mem_of_getElem? hi)).2) (by
  rw [Zqc]
  show 0=0*_
  omega)
 refine ⟨r,?_,h1,h2,by rw [h1]; exact h3⟩
 rw [Z6k,Zj,e1,Z0h (by unfold mkB; simp; omega),Z2a,Int.toNat_natCast,hn]
 exact e
theorem Ztz (x:Int):Zr .u64 x 60=x / 1152921504606846976:=by
 have:=Zh4 .u64 (x:=x) (n:=60) (by decide)
 simpa using this
theorem Z07h (x:Int):Z02 .u64 x 4=(x*16)%18446744073709551616:=by
 have:=Zjj .u64 (x:=x) (n:=4) (by decide); rw [Zha] at this; simpa using this
theorem Zxg {x y:Int} (hx:0<=x/\x<18446744073709551616) (hy:0<=y/\y<18446744073709551616):Z7 .or .u64 (Zr .u64 x 60) (Z02 .u64 y 4)=x / 1152921504606846976+y%1152921504606846976*16:=by
 rw [Ztz,Z07h]
 have e:y*16%18446744073709551616=y%1152921504606846976*16:=by omega
 rw [e]
 exact Z0w 4 (x:=y%1152921504606846976*16) (a:=y%1152921504606846976) rfl (by omega) (by omega) (by
  show _<(16:Int)
  omega) (by omega)
theorem Z0ds (l:LI) (v:Int):pV (l ++ [v]) l.length=pV l l.length:=by
 have h : ∀ n,n<=l.length->pV (l ++ [v]) n=pV l n:=by
  intro n
  induction n with
  | zero=>intro _; rfl
  | succ n ih =>
   intro hn
   have:(l ++ [v]).getD n 0=l.getD n 0:=by simp [List.getD_eq_getElem?_getD,List.getElem?_append_left (show n<l.length by omega)]
   rw [Zap,Zap,ih (by omega),this]
 exact h _ (Nat.le_refl _)
theorem Z065 (l:LI) (v:Int):pV (l ++ [v]) (l ++ [v]).length=pV l l.length+v*(18446744073709551616:Int)^l.length:=by
 have e:(l ++ [v]).length=l.length+1:=by simp
 rw [e,Zap,Z0ds]
 have:(l ++ [v]).getD l.length 0=v:=by simp [List.getD_eq_getElem?_getD]
 rw [this]
theorem Zz1 (x d r y w2 w3 b1 b2 b3:Int) {b4:Int} (hx:1152921504606846976*d+r=x)
  (h:b1+w3*1152921504606846976*(b2+(d+y*16)*w2)=b4+x*(w3*w2)+y*(w3*w2*18446744073709551616)+w3*1152921504606846976*b3) :
  b1+w3*1152921504606846976*b2=b4+r*(w3*w2)+w3*1152921504606846976*b3:=by grind -lia -linarith (splits:=0)
theorem Zsb {p:LI} (hp:W64 p) (hb:p.length<1000000) {k:LI->Option (LI×LI)} (m:Nat) : ∀ (n i:Nat) (l:LI),3+i+m=p.length->l.length=i->W64 l ->
  ∃ l',Z1b p k (n+1+m) l ((3+i:Nat):Int)=k l'/\l'.length=i+m/\W64 l' /\
   pV p p.length+7237005577332262213973186563042994240829374041602535252466099000494570602496*pV l l.length=pV p (3+i)+p.getD (3+i) 0%1152921504606846976*(18446744073709551616:Int)^(3+i)+7237005577332262213973186563042994240829374041602535252466099000494570602496*pV l' l'.length:=by
 induction m with
 | zero =>
  intro n i l hi hl hw
  refine ⟨l,?_,by omega,hw,?_⟩
  ·rw [Nat.add_zero,Z1b,Z2k,Z1p (by simp; omega)]
  ·have e:p.getD (3+i) 0=0:=by simp [List.getD_eq_getElem?_getD,List.getElem?_eq_none (show p.length<=3+i by omega)]
   rw [e,show 3+i=p.length by omega]
   omega
 | succ m ih =>
  intro n i l hi hl hw
  have hbr:decide (((3+i:Nat):Int)<(p.length:Int))=true:=by simp; omega
  have e2:wrap .i64 (((3+i:Nat):Int)+1)=((3+(i+1):Nat):Int):=by rw [Zp (by omega) (by omega)]; omega
  have hs:=Zqu (hp (3+i))
  have e3:((3+(i+1):Nat):Int).toNat=3+i+1:=by omega
  have hw3:(18446744073709551616:Int)^3*1152921504606846976=7237005577332262213973186563042994240829374041602535252466099000494570602496:=by decide
  have fin : ∀ (w:Int) (l':LI),w=p.getD (3+i) 0 / 1152921504606846976+p.getD (3+i+1) 0%1152921504606846976*16 ->
    pV p p.length+7237005577332262213973186563042994240829374041602535252466099000494570602496*pV (l ++ [w]) (l ++ [w]).length=pV p (3+(i+1))+p.getD (3+(i+1)) 0%1152921504606846976*(18446744073709551616:Int)^(3+(i+1))+7237005577332262213973186563042994240829374041602535252466099000494570602496*pV l' l'.length ->
    pV p p.length+7237005577332262213973186563042994240829374041602535252466099000494570602496*pV l l.length=pV p (3+i)+p.getD (3+i) 0%1152921504606846976*(18446744073709551616:Int)^(3+i)+7237005577332262213973186563042994240829374041602535252466099000494570602496*pV l' l'.length:=by
   intro w l' hw' h
   rw [Z065,hl,<- Nat.add_assoc,Zap,Int.pow_succ,Int.pow_add 18446744073709551616 3 i,hw',<- hw3] at h
   rw [hl,Int.pow_add 18446744073709551616 3 i,<- hw3]
   exact Zz1 _ _ _ _ _ _ _ _ _ (Int.mul_ediv_add_emod (p.getD (3+i) 0) 1152921504606846976) h
  by_cases h:3+i+1<p.length
  ·obtain ⟨l',e,h1,h2,h3⟩:=ih n (i+1) (l ++ [Z7 .or .u64 (Zr .u64 (p.getD (3+i) 0) 60) (Z02 .u64 (p.getD (3+i+1) 0) 4)]) (by omega) (by simp; omega) (Zo5 hw (Zo6 (Zth _ _)))
   refine ⟨l',?_,by omega,h2,fin _ _ (Zxg (hp _) (hp _)) h3⟩
   rw [<- Nat.add_assoc,Z1b,Z2k,Z2e hbr,Z0h (Z3l (by omega) (by omega))]
   simp only [Zj,e2,Z2a,Int.toNat_natCast,e3]
   rw [Z2e (by simp; omega),Z0h (Z3l (by omega) (by omega))]
   rw [Z0h (by simp; omega)]
   exact e
  ·obtain ⟨l',e,h1,h2,h3⟩:=ih n (i+1) (l ++ [Zr .u64 (p.getD (3+i) 0) 60]) (by omega) (by simp; omega) (Zo5 hw (Zo6 hs))
   have e0:p.getD (3+i+1) 0=0:=by simp [List.getD_eq_getElem?_getD,List.getElem?_eq_none (show p.length<=3+i+1 by omega)]
   refine ⟨l',?_,by omega,h2,fin _ _ (by rw [e0,Ztz]; omega) h3⟩
   rw [<- Nat.add_assoc,Z1b,Z2k,Z2e hbr,Z0h (Z3l (by omega) (by omega))]
   simp only [Zj,e2,Z2a,Int.toNat_natCast]
   rw [Z1p (by simp; omega)]
   rw [Z0h (by simp; omega)]
   exact e
end Go.Proofs.YteefpkhngighgaaGreatDoor
namespace Go.Proofs.YteefpkhngighgaaGreatDoor
open Go Go.Sx Go.RowKit
open List (replicate)
set_option linter.all false
set_option maxRecDepth 100000
theorem Zl4 {l:LI} {i:Nat} (h:l.length<=i):l.getD i 0=0:=by simp [List.getD_eq_getElem?_getD,List.getElem?_eq_none h]
theorem Zxz {l:LI} {n:Nat} (h:l.length<=n):pV l n=pV l l.length:=Zy1 (fun t ht=>Zl4 ht) n h
theorem Zz3 {p:LI} (hp:W64 p) (hb:p.length<1000000) : ∃ a h,Z6i p=some (a,h)/\W64 a/\W64 h/\h.length=p.length-3 /\
  V4 a=pV p p.length%7237005577332262213973186563042994240829374041602535252466099000494570602496/\pV h h.length=pV p p.length / 7237005577332262213973186563042994240829374041602535252466099000494570602496:=by
 obtain ⟨n,hn⟩ : ∃ n',big=n'+1+(p.length-3):=⟨18446744073709551615-(p.length-3),by have:big=18446744073709551616:=Z6d; omega⟩
 have hw0g : ∀ i,(wr (replicate 4 0) 0 (p.take 4)).getD i 0=if i<4 then p.getD i 0 else 0:=by
  intro i
  rw [Zkf]
  have hr:(replicate 4 (0:Int)).getD i 0=0:=by
   match i with
   | 0=>rfl
   | 1=>rfl
   | 2=>rfl
   | 3=>rfl
   | i+4=>rfl
  by_cases h:0<=i/\i<0+(p.take 4).length
  ·rw [if_pos h]
   simp only [List.length_take] at h
   have h4':i<4:=by omega
   rw [if_pos h4']
   simp [List.getD_eq_getElem?_getD,List.getElem?_take,h4']
  ·rw [if_neg h,hr]
   simp only [List.length_take] at h
   split
   ·rw [Zl4 (by omega)]
   ·rfl
 have hw0:W64 (wr (replicate 4 0) 0 (p.take 4)):=by
  intro i
  rw [hw0g]
  split
  ·exact hp i
  ·decide
 have hmask:Z7 .and .u64 ((wr (replicate 4 0) 0 (p.take 4)).getD 3 0) 1152921504606846975=p.getD 3 0%1152921504606846976:=by
  rw [hw0g,if_pos (by decide)]
  exact Zoa 60 (by decide) (by decide) (hp 3).1 (hp 3).2
 have hlow:V4 (Z3z (wr (replicate 4 0) 0 (p.take 4)) 3 (Z7 .and .u64 ((wr (replicate 4 0) 0 (p.take 4)).getD 3 0) 1152921504606846975))=p.getD 0 0+p.getD 1 0*18446744073709551616+p.getD 2 0*340282366920938463463374607431768211456+(p.getD 3 0%1152921504606846976)*6277101735386680763835789423207666416102355444464034512896:=by
  unfold V4
  rw [hmask]
  simp only [Z8j,hw0g]
  simp
 have h3:pV p 3=p.getD 0 0+p.getD 1 0*18446744073709551616+p.getD 2 0*340282366920938463463374607431768211456:=by
  simp only [pV]
  omega
 have hr0:=hp 0
 have hr1:=hp 1
 have hr2:=hp 2
 have hr3:=hp 3
 by_cases hlen:3<=p.length
 ·obtain ⟨l',e,h1,h2,h4⟩:=Zsb hp hb (k:=fun l128=>some (Z3z (wr (replicate 4 0) 0 (p.take 4)) 3 (Z7 .and .u64 ((wr (replicate 4 0) 0 (p.take 4)).getD 3 0) 1152921504606846975),l128)) (p.length-3) n 0 [] (by omega) rfl (Z5b 0)
  refine ⟨(Z3z (wr (replicate 4 0) 0 (p.take 4)) 3 (Z7 .and .u64 ((wr (replicate 4 0) 0 (p.take 4)).getD 3 0) 1152921504606846975)),l',?_,Zcn hw0 (Zre _ _),h2,by omega,?_⟩
  ·simp only [Z6i,Zj,Z2a]
   rw [hn]
   exact e
  ·rw [hlow]
   rw [Nat.add_zero,h3] at h4
   have e0:pV ([]:LI) ([]:LI).length=0:=rfl
   have e3:(18446744073709551616:Int)^3=6277101735386680763835789423207666416102355444464034512896:=by decide
   rw [e0,e3] at h4
   generalize pV p p.length=X at *
   generalize pV l' l'.length=Y at *
   omega
 ·have e3:p.getD 3 0=0:=Zl4 (by omega)
  have hx:pV p p.length=pV p 3:=(Zxz (by omega)).symm
  refine ⟨(Z3z (wr (replicate 4 0) 0 (p.take 4)) 3 (Z7 .and .u64 ((wr (replicate 4 0) 0 (p.take 4)).getD 3 0) 1152921504606846975)),[],?_,Zcn hw0 (Zre _ _),Z5b 0,by simp; omega,?_⟩
  ·simp only [Z6i,Zj,Z2a]
   rw [hn,show p.length-3=0 by omega,Nat.add_zero,Z1b,Z2k,Z1p (by simp; omega)]
  ·rw [hlow,hx,h3,e3]
   have e0:pV ([]:LI) ([]:LI).length=0:=rfl
   rw [e0]
   omega
theorem Zc7 {l:LI} (n:Nat) {i:Nat} {a:List (LI)} (hi:i<4) (hl:W64 l) (hb:l.length<1000) (ha : ∀ i,W64 (a.getD i (replicate 4 0)))
  (hs:V4 (a.getD (i%2) (replicate 4 0))+pV l l.length%7237005577332262213973186563042994240829374041602535252466099000494570602496<B4) :
  ∃ l' a',(∀ k:List (LI)->Option (LI),Z1a k (n+1) l (i:Int) a=Z1a k n l' ((i+1:Nat):Int) a')/\W64 l'/\l'.length=l.length-3+2/\(∀ i,W64 (a'.getD i (replicate 4 0))) /\
   pV l' l'.length=pV l l.length / 7237005577332262213973186563042994240829374041602535252466099000494570602496*27742317777372353535851937790883648493 /\
   V4 (a'.getD (i%2) (replicate 4 0))=V4 (a.getD (i%2) (replicate 4 0))+pV l l.length%7237005577332262213973186563042994240829374041602535252466099000494570602496 /\
   (∀ j,j≠i%2->a'.getD j (replicate 4 0)=a.getD j (replicate 4 0)):=by
 obtain ⟨lo,h,e,w1,w2,w3,v1,v2⟩:=Zz3 hl (by omega)
 obtain ⟨s,c,e2,ws,hc,vs⟩:=Zig (ha (i%2)) w1
 obtain ⟨t,e3,l3,wt,vt⟩:=Zr6 w2 Zsn (by simp; omega)
 have em:Int.tmod (i:Int) 2=((i%2:Nat):Int):=by rw [Int.tmod_eq_emod_of_nonneg (by omega)]; omega
 have e1:IntKind.wrap .i64 ((i:Int)+1)=((i+1:Nat):Int):=by rw [Zp (by omega) (by omega)]; rfl
 refine ⟨t,Zji (replicate 4 0) a (i%2) s,?_,wt,by rw [l3,w3]; rfl,?_,?_,?_,?_⟩
 ·intro k
  rw [Z1a,Z49,Z2e (by simp; omega),Z3 e]
  simp only [Zj,em,e1,Int.toNat_natCast]
  rw [Z0h (Z3l (by omega) (by omega)),Z3 e2,Z0h (Z3l (by omega) (by omega)),Zcz,Z3 rfl,Z3 e3]
 ·intro j
  rw [Z7p]
  split
  ·exact ws
  ·exact ha j
 ·rw [vt,v2]; rfl
 ·rw [Z7p,if_pos rfl]
  have hr:=Ze3 ws
  have hr2:=Ze3 (ha (i%2))
  rw [<- v1] at hs ⊢
  have hc0:c=0:=by
   unfold B4 at *
   rcases hc with h | h
   ·exact h
   ·exfalso; subst h; omega
  rw [vs,hc0]; omega
 ·intro j hj
  rw [Z7p,if_neg hj]
theorem Zsm:V4 (replicate 4 0)=0:=by decide
theorem Znm {p:LI} (hp:W64 p) (h8:p.length<=8) : ∃ r,Z4j p=some r/\W64 r/\V4 r=pV p p.length%VL:=by
 obtain ⟨n,hn⟩ : ∃ n,big=n+1+1+1+1+1:=⟨18446744073709551611,Z6d⟩
 rw [Z4j,Z2a,hn]
 have ha0 : ∀ i,(replicate 2 (replicate 4 0):List (LI)).getD i (replicate 4 0)=replicate 4 0:=by
  intro i
  match i with
  | 0=>rfl
  | 1=>rfl
  | i+2=>rfl
 have hX:=Z02x hp 8
 rw [Zxz h8] at hX
 have e8:(18446744073709551616:Int)^8=13407807929942597099574024998205846127479365820592393377723561443721764030073546976801874298166903427690031858186486050853753882811946569946433649006084096:=by decide
 rw [e8] at hX
 obtain ⟨l1,a1,f1,w1,n1,h1,x1,s1,o1⟩:=Zc7 (n+1+1+1+1) (i:=0) (l:=p) (a:=replicate 2 (replicate 4 0)) (by decide) hp (by omega) (by intro i; rw [ha0]; exact Z5b 4) (by
  rw [ha0,Zsm]
  generalize pV p p.length=X at *
  unfold B4
  omega)
 rw [ha0,Zsm] at s1
 have t1:=o1 1 (by decide)
 rw [ha0] at t1
 obtain ⟨l2,a2,f2,w2,n2,h2,x2,s2,o2⟩:=Zc7 (n+1+1+1) (i:=1) (by decide) w1 (by omega) h1 (by
  rw [t1,Zsm]
  generalize pV l1 l1.length=X at *
  unfold B4
  omega)
 rw [t1,Zsm] at s2
 have t2:=o2 0 (by decide)
 obtain ⟨l3,a3,f3,w3,n3,h3,x3,s3,o3⟩:=Zc7 (n+1+1) (i:=2) (by decide) w2 (by omega) h2 (by
  have e:a2.getD (2%2) (replicate 4 0)=a1.getD 0 (replicate 4 0):=t2
  have s1':V4 (a1.getD 0 (replicate 4 0))=_:=s1
  rw [e,s1']
  generalize pV p p.length=X at *
  generalize pV l2 l2.length=Y at *
  unfold B4
  omega)
 have t3:=o3 1 (by decide)
 obtain ⟨l4,a4,f4,w4,n4,h4,x4,s4,o4⟩:=Zc7 (n+1) (i:=3) (by decide) w3 (by omega) h3 (by
  have e:a3.getD (3%2) (replicate 4 0)=a2.getD 1 (replicate 4 0):=t3
  have s2':V4 (a2.getD 1 (replicate 4 0))=_:=s2
  rw [e,s2']
  generalize pV l1 l1.length=X at *
  generalize pV l3 l3.length=Y at *
  unfold B4
  omega)
 have t4:=o4 0 (by decide)
 have v0:V4 (a4.getD 0 (replicate 4 0))=pV p p.length%7237005577332262213973186563042994240829374041602535252466099000494570602496+pV l2 l2.length%7237005577332262213973186563042994240829374041602535252466099000494570602496:=by
  have s3':V4 (a3.getD 0 (replicate 4 0))=V4 (a2.getD 0 (replicate 4 0))+_:=s3
  have s1':V4 (a1.getD 0 (replicate 4 0))=_:=s1
  rw [t4,s3',t2,s1']
  omega
 have v1:V4 (a4.getD 1 (replicate 4 0))=pV l1 l1.length%7237005577332262213973186563042994240829374041602535252466099000494570602496+pV l3 l3.length%7237005577332262213973186563042994240829374041602535252466099000494570602496:=by
  have s4':V4 (a4.getD 1 (replicate 4 0))=V4 (a3.getD 1 (replicate 4 0))+_:=s4
  have s2':V4 (a2.getD 1 (replicate 4 0))=_:=s2
  rw [s4',t3,s2']
  omega
 obtain ⟨g1,c1,q1,z1,hc1,y1⟩:=Zig Ze4 Ze4
 obtain ⟨g2,c2,q2,z2,hc2,y2⟩:=Zig (h4 0) z1
 obtain ⟨g3,c3,q3,z3,hc3,y3⟩:=Zl8 z2 (h4 1)
 obtain ⟨r,q4,z4,y4⟩:=Zoc z3
 refine ⟨r,?_,z4,?_⟩
 ·refine (f1 _).trans ((f2 _).trans ((f3 _).trans ((f4 _).trans ?_)))
  rw [Z1a,Z49,Z1p (by decide),Z3 q1,Zj,Z3 q2,Zj,Z3 q3,Z3 q4]
 ·have r1:=Ze3 z1
  have r2:=Ze3 z2
  have r3:=Ze3 z3
  rw [y4]
  rw [Zo4] at y1
  rw [v0] at y2
  rw [v1] at y3
  generalize V4 g1=G1 at *
  generalize V4 g2=G2 at *
  generalize V4 g3=G3 at *
  generalize pV p p.length=X at *
  generalize pV l1 l1.length=X1 at *
  generalize pV l2 l2.length=X2 at *
  generalize pV l3 l3.length=X3 at *
  clear f1 f2 f3 f4 q1 q2 q3 q4 e8
  unfold VL at *
  unfold B4 at *
  have k1:c1=0:=by rcases hc1 with h | h <;> omega
  subst k1
  have b1:X1<51397454971639728862728594851412511588645886491167898648663828096174877345658614143171087801555262538602929264263168:=by omega
  have b2:X2<197026866089141791222560432227205258386878298291626920115022677913390379788544:=by omega
  have b3:X3<776784897766425899003854258144742157804:=by omega
  have k2:c2=0:=by rcases hc2 with h | h <;> omega
  subst k2
  have k3:c3=0:=by rcases hc3 with h | h <;> omega
  subst k3
  have e:G3=X-7237005577332262213973186563042994240857116359379907606001950938285454250989*(X / 7237005577332262213973186563042994240829374041602535252466099000494570602496-X1 / 7237005577332262213973186563042994240829374041602535252466099000494570602496+X2 / 7237005577332262213973186563042994240829374041602535252466099000494570602496-2):=by omega
  rw [e,Int.sub_mul_emod_self_left]
end Go.Proofs.YteefpkhngighgaaGreatDoor
namespace Go.Proofs.YteefpkhngighgaaGreatDoor
set_option linter.all false
set_option maxRecDepth 100000
def Prm (n:Nat):Prop:=2<=n /\ ∀ d,d∣n->d=1∨d=n
theorem Z030 (n:Nat) : ∀ (m:Nat) (f:Nat->Nat),(∀ i,i<n->f i<m)->(∀ i j,i<n->j<n->f i=f j->i=j)->n<=m:=by
 induction n with
 | zero=>intros; omega
 | succ n ih =>
  intro m f h1 h2
  have hm:=h1 n (by omega)
  have:=ih (m-1) (fun i=>if f i=m-1 then f n else f i) (by
   intro i hi
   have a1:=h1 i (by omega)
   have a2:f i≠f n:=fun e=>by have:=h2 i n (by omega) (by omega) e; omega
   split <;> omega) (by
   intro i j hi hj e
   have a1:f i≠f n:=fun e=>by have:=h2 i n (by omega) (by omega) e; omega
   have a2:f j≠f n:=fun e=>by have:=h2 j n (by omega) (by omega) e; omega
   split at e <;> split at e
   ·rename_i x y; exact h2 i j (by omega) (by omega) (x.trans y.symm)
   ·exact absurd e.symm a2
   ·exact absurd e a1
   ·exact h2 i j (by omega) (by omega) e)
  omega
theorem surj {n:Nat} {f:Nat->Nat} (h1 : ∀ i,i<n->f i<n) (h2 : ∀ i j,i<n->j<n->f i=f j->i=j) {v:Nat} (hv:v<n) : ∃ i,i<n/\f i=v:=by
 false_or_by_contra
 rename_i hc
 have hc : ∀ i,i<n->f i≠v:=fun i hi e=>hc ⟨i,hi,e⟩
 have:=Z030 (n+1) n (fun i=>if i=n then v else f i) (by
  intro i hi
  split
  ·exact hv
  ·exact h1 i (by omega)) (by
  intro i j hi hj e
  split at e <;> split at e
  ·omega
  ·exact absurd e.symm (hc j (by omega))
  ·exact absurd e (hc i (by omega))
  ·exact h2 i j (by omega) (by omega) e)
 omega
theorem Zlc {a n e:Nat}:(a%n)^e%n=a^e%n:=by rw [<- Nat.pow_mod]
def One (a m k:Nat):Prop:=a^k%m=1%m
theorem One.mul {a m k:Nat} (h:One a m k) (l:Nat):One a m (k*l):=by
 unfold One at *
 rw [Nat.pow_mul,Nat.pow_mod,h,<- Nat.pow_mod,Nat.one_pow]
theorem One.rest {a m k l:Nat} (h:One a m k) (h2:One a m l):One a m (k%l):=by
 have h3:=h2.mul (k / l)
 unfold One at *
 have e:k=l*(k / l)+k%l:=(Nat.div_add_mod k l).symm
 rw [e,Nat.pow_add,Nat.mul_mod,h3,<- Nat.mul_mod,Nat.one_mul] at h
 exact h
theorem One.gcd {a m:Nat} (k:Nat) : ∀ l,One a m k->One a m l->One a m (Nat.gcd k l):=by
 induction k using Nat.strongRecOn with
 | ind k ih =>
  intro l h h2
  by_cases hk:k=0
  ·subst hk; rw [Nat.gcd_zero_left]; exact h2
  ·rw [Nat.gcd_rec]
   exact ih (l%k) (Nat.mod_lt _ (by omega)) k (h2.rest h) h
def Zs5:List Nat->Nat
 | []=>1
 | r::rs=>r*Zs5 rs
theorem Ztm {m:Nat} (hm:1<m) : ∀ (rs:List Nat),(∀ r∈rs,Prm r)->m∣Zs5 rs->∃ r,r∈rs/\r∣m
 | [],_,h=>by
  have:=Nat.le_of_dvd (by decide) h
  simp [Zs5] at this
  omega
 | r::rs,hp,h=>by
  have hr:=hp r List.mem_cons_self
  rcases hr.2 (Nat.gcd m r) (Nat.gcd_dvd_right m r) with h1 | h1
  ·have h2:m∣Zs5 rs:=Nat.Coprime.dvd_of_dvd_mul_left h1 h
   obtain ⟨s,hs,hd⟩:=Ztm hm rs (fun x hx=>hp x (List.mem_cons_of_mem _ hx)) h2
   exact ⟨s,List.mem_cons_of_mem _ hs,hd⟩
  ·exact ⟨r,List.mem_cons_self,by rw [<- h1]; exact Nat.gcd_dvd_left m r⟩
theorem Zti {a m n:Nat} {rs:List Nat} (hp : ∀ r∈rs,Prm r) (hn:Zs5 rs=n) (h0:0<n) (h1:One a m n) (hr : ∀ r∈rs,¬ One a m (n / r)) {k:Nat} (hk:0<k) (hkn:k<n) : ¬ One a m k:=by
 intro h
 have hg:=One.gcd k n h h1
 have hd:Nat.gcd k n∣n:=Nat.gcd_dvd_right k n
 have hle:Nat.gcd k n<=k:=Nat.le_of_dvd hk (Nat.gcd_dvd_left k n)
 obtain ⟨q,hq⟩:=hd
 generalize Nat.gcd k n=g at *
 have hq1:1<q:=by
  rcases Nat.lt_or_ge 1 q with h | h
  ·exact h
  ·have:g*q<=g*1:=Nat.mul_le_mul_left g h
   omega
 obtain ⟨r,hrm,s,hs⟩:=Ztm hq1 rs hp (by rw [hn,hq]; exact Nat.dvd_mul_left q g)
 have hr0:0<r:=by have:=(hp r hrm).1; omega
 apply hr r hrm
 have e:n / r=g*s:=by
  rw [hq,hs,<- Nat.mul_assoc,Nat.mul_comm g r,Nat.mul_assoc,Nat.mul_div_cancel_left _ hr0]
 rw [e]
 exact hg.mul s
theorem Znk {a m n:Nat} (h1:One a m n) (ho : ∀ k,0<k->k<n->¬ One a m k) {i j:Nat} (hi:i<n) (hj:j<n) (e:a^i%m=a^j%m):i=j:=by
 have key : ∀ i j,i<j->j<n->a^i%m=a^j%m->False:=by
  intro i j hij hj e
  apply ho (j-i) (by omega) (by omega)
  have e2:a^(n-i)*a^i%m=a^(n-i)*a^j%m:=by rw [Nat.mul_mod,e,<- Nat.mul_mod]
  rw [<- Nat.pow_add,<- Nat.pow_add,show n-i+i=n by omega,show n-i+j=n+(j-i) by omega] at e2
  unfold One at h1 ⊢
  rw [h1,Nat.pow_add,Nat.mul_mod,h1,<- Nat.mul_mod,Nat.one_mul] at e2
  exact e2.symm
 rcases Nat.lt_trichotomy i j with h | h | h
 ·exact (key i j h hj e).elim
 ·exact h
 ·exact (key j i h hi e.symm).elim
theorem One.dvd {a m l k:Nat} (h:One a m k) (hl:l∣m):One a l k:=by
 unfold One at *
 obtain ⟨q,rfl⟩:=hl
 have:=congrArg (· % l) h
 simpa [Nat.mod_mul_right_mod] using this
theorem pock {n F c:Nat} {rs:List Nat} (h2:2<=n) (hp : ∀ r∈rs,Prm r) (hF:Zs5 rs=F) (hF0:0<F) (hFn:n<F*F) (h1:One c n F) (hr : ∀ r∈rs,Nat.gcd (c^(F / r)%n+(n-1)) n=1):Prm n:=by
 have key : ∀ l,l∣n->2<=l->F<=l:=by
  intro l hl h2l
  have h1l:=h1.dvd hl
  have hol : ∀ k,0<k->k<F->¬ One c l k:=fun k hk hkF=>Zti hp hF hF0 h1l (fun r hrm hone=>by
   have hg:=hr r hrm
   have hd:l∣c^(F / r)%n+(n-1):=by
    unfold One at hone
    have e1:c^(F / r)%n%l=1%l:=by
     obtain ⟨q,rfl⟩:=hl
     rw [Nat.mod_mul_right_mod]; exact hone
    obtain ⟨q,rfl⟩:=hl
    apply Nat.dvd_of_mod_eq_zero
    rw [Nat.add_mod,e1,<- Nat.add_mod,show 1+(l*q-1)=l*q by omega,Nat.mul_mod_right]
   have:=Nat.dvd_gcd hd hl
   rw [hg] at this
   have:=Nat.le_of_dvd (by decide) this
   omega) hk hkF
  exact Z030 F l (fun i=>c^i%l) (fun i _=>Nat.mod_lt _ (by omega)) (fun i j hi hj e=>Znk h1l hol hi hj e)
 refine ⟨h2,fun d hd=>?_⟩
 obtain ⟨q,hq⟩:=hd
 by_cases hd1:d=1
 ·exact .inl hd1
 by_cases hq1:q=1
 ·subst hq1; exact .inr (by omega)
 exfalso
 have hd0:d≠0:=fun h=>by subst h; simp at hq; omega
 have hq0:q≠0:=fun h=>by subst h; simp at hq; omega
 have a1:=key d ⟨q,hq⟩ (by omega)
 have a2:=key q ⟨d,by rw [hq,Nat.mul_comm]⟩ (by omega)
 have:=Nat.mul_le_mul a1 a2
 omega
def pm (m:Nat):Nat->Nat->Nat->Nat->Nat
  | 0,_,_,acc=>acc
  | f+1,a,e,acc=>pm m f (a*a%m) (e / 2) (if e%2=0 then acc else acc*a%m)
theorem Z069 (m f:Nat) : ∀ (a e acc:Nat),e<2^f->pm m f a e acc%m=acc*a^e%m:=by
  induction f with
  | zero => intro a e acc h; have : e = 0 := by simpa using h
            subst this; simp [pm]
  | succ f ih =>
    intro a e acc h
    have h2:e / 2<2^f:=by rw [Nat.pow_succ] at h; omega
    rw [pm,ih _ _ _ h2]
    have e1:e=2*(e / 2)+e%2:=(Nat.div_add_mod e 2).symm
    have e2:(a*a%m)^(e / 2)%m=a^(2*(e / 2))%m:=by rw [<- Nat.pow_mod,<- Nat.pow_two,<- Nat.pow_mul]
    by_cases hz:e%2=0
    · rw [if_pos hz,Nat.mul_mod,e2,<- Nat.mul_mod,show 2*(e / 2)=e by omega]
    · have e3:a^e=a*a^(2*(e / 2)):=by
        conv=>lhs; rw [e1,show e%2=1 by omega,Nat.pow_succ,Nat.mul_comm]
      rw [if_neg hz,Nat.mul_mod,e2,Nat.mod_mod,<- Nat.mul_mod,e3,Nat.mul_assoc]
theorem Z02w {a m e:Nat} (f:Nat) (h:e<2^f) (h1:(pm m f a e 1%m==1%m)=true):One a m e:=by
  have:=Z069 m f a e 1 h
  unfold One
  rw [Nat.one_mul] at this
  rw [<- this]
  simpa using h1
def chkP (n F c:Nat) (rs:List Nat):Bool :=
  Nat.ble 2 n&&(Zs5 rs==F)&&Nat.ble 1 F&&Nat.blt n (F*F)&&Nat.blt F (2^256)&&(pm n 256 c F 1%n==1%n)&&rs.all fun r=>Nat.blt (F / r) (2^256)&&Nat.gcd (pm n 256 c (F / r) 1%n+(n-1)) n==1
theorem Zqf {n F c:Nat} {rs:List Nat} (hp : ∀ r∈rs,Prm r) (h:chkP n F c rs=true):Prm n:=by
  unfold chkP at h
  simp only [Bool.and_eq_true,List.all_eq_true] at h
  obtain ⟨⟨⟨⟨⟨⟨h1,h2⟩,h3⟩,h4⟩,h5⟩,h6⟩,h7⟩:=h
  refine pock (F:=F) (c:=c) (rs:=rs) (Nat.le_of_ble_eq_true h1) hp (by simpa using h2) (Nat.le_of_ble_eq_true h3) (Nat.le_of_ble_eq_true h4) (Z02w 256 (Nat.le_of_ble_eq_true h5) h6) ?_
  intro r hr
  obtain ⟨a1,a2⟩:=h7 r hr
  have:=Z069 n 256 c (F / r) 1 (Nat.le_of_ble_eq_true a1)
  rw [Nat.one_mul] at this
  rw [<- this]
  simpa using a2
def tryD (n:Nat):Nat->Nat->Bool
  | 0,_=>true
  | f+1,d => !(n%d==0)&&tryD n f (d+1)
theorem Z07s (n f:Nat) : ∀ d,tryD n f d=true->∀ i,i<f->n%(d+i)≠0:=by
  induction f with
  | zero=>intros; omega
  | succ f ih =>
    intro d h i hi
    simp only [tryD,Bool.and_eq_true] at h
    cases i with
    | zero=>simpa using h.1
    | succ i=>have:=ih (d+1) h.2 i (by omega); rwa [show d+(i+1)=d+1+i by omega]
theorem Zbn (n f:Nat) (h:(Nat.ble 2 n&&tryD n f 2&&Nat.blt n ((f+2)*(f+2)))=true):Prm n:=by
  simp only [Bool.and_eq_true] at h
  obtain ⟨⟨h1,h2⟩,h3⟩:=h
  have h1:=Nat.le_of_ble_eq_true h1
  have h3:n<(f+2)*(f+2):=Nat.le_of_ble_eq_true h3
  have key : ∀ d,2<=d->d<f+2->¬ d∣n:=fun d a b hd=>by
    have:=Z07s n f 2 h2 (d-2) (by omega)
    rw [show 2+(d-2)=d by omega] at this
    exact this (Nat.mod_eq_zero_of_dvd hd)
  refine ⟨h1,fun d hd=>?_⟩
  obtain ⟨q,hq⟩:=hd
  by_cases hd1:d=1
  · exact .inl hd1
  by_cases hq1:q=1
  · subst hq1; exact .inr (by omega)
  exfalso
  have hd0:d≠0:=fun h=>by subst h; simp at hq; omega
  have hq0:q≠0:=fun h=>by subst h; simp at hq; omega
  have a1:f+2<=d:=by
    rcases Nat.lt_or_ge d (f+2) with h | h
    · exact absurd ⟨q,hq⟩ (key d (by omega) h)
    · exact h
  have a2:f+2<=q:=by
    rcases Nat.lt_or_ge q (f+2) with h | h
    · exact absurd ⟨d,by rw [hq,Nat.mul_comm]⟩ (key q (by omega) h)
    · exact h
  have:=Nat.mul_le_mul a1 a2
  omega
theorem Z03h {P:Nat->Prop} {a:Nat} (h:P a) : ∀ r ∈ [a],P r:=by intro r hr; rw [List.mem_singleton] at hr; subst hr; exact h
theorem Zo8 {P:Nat->Prop} {a b:Nat} (h:P a) (h2:P b) : ∀ r ∈ [a,b],P r:=by
  intro r hr
  simp only [List.mem_cons,List.not_mem_nil,or_false] at hr
  rcases hr with rfl | rfl
  · exact h
  · exact h2
theorem Zn5:Prm 2773320623:=Zbn 2773320623 52662 (by decide +kernel)
theorem Zm5:Prm 72106336199:=Zqf (F:=2773320623) (c:=67108864) (rs:=[2773320623]) (Z03h Zn5) (by decide +kernel)
theorem Zs4:Prm 8574133:=Zbn 8574133 2928 (by decide +kernel)
theorem Z06b:Prm 127:=Zbn 127 11 (by decide +kernel)
theorem Zhu:Prm 1919519569386763:=Zqf (F:=1088914891) (c:=354538099852037) (rs:=[8574133,127]) (Zo8 Zs4 Z06b) (by decide +kernel)
theorem Zvb:Prm 430751:=Zbn 430751 656 (by decide +kernel)
theorem Z01f:Prm 4153:=Zbn 4153 64 (by decide +kernel)
theorem Zgp:Prm 31757755568855353:=Zqf (F:=1788908903) (c:=26222887164197666) (rs:=[430751,4153]) (Zo8 Zvb Z01f) (by decide +kernel)
theorem Z7t:Prm 75445702479781427272750846543864801:=Zqf (F:=138409523410761641138333837) (c:=23520671056837248616447561120497838) (rs:=[1919519569386763,72106336199]) (Zo8 Zhu Zm5) (by decide +kernel)
theorem Z1z:Prm 74058212732561358302231226437062788676166966415465897661863160754340907:=Zqf (F:=2395986178073482737347378734667165195040796357129753) (c:=32917242187670345156894797748588826076355976820526874250530785709567478) (rs:=[75445702479781427272750846543864801,31757755568855353]) (Zo8 Z7t Zgp) (by decide +kernel)
abbrev pN:Nat:=57896044618658097711785492504343953926634992332820282019728792003956564819949
abbrev qN:Nat:=74058212732561358302231226437062788676166966415465897661863160754340907
theorem Z0du:Prm 2:=Zbn 2 0 (by decide +kernel)
theorem Z0pg:Prm 3:=Zbn 3 1 (by decide +kernel)
theorem Zy8:Prm 65147:=Zbn 65147 255 (by decide +kernel)
theorem Zxt {a m e:Nat} (f:Nat) (h:e<2^f) (h1:(pm m f a e 1%m==1%m)=false) : ¬ One a m e:=by
 have:=Z069 m f a e 1 h
 intro h2
 unfold One at h2
 rw [Nat.one_mul,h2] at this
 rw [this] at h1
 simp at h1
theorem Zjc:One 2 pN (pN-1):=Z02w 256 (by decide +kernel) (by decide +kernel)
theorem Zve {k:Nat} (hk:0<k) (hk2:k<pN-1) : ¬ One 2 pN k:=by
 refine Zti (rs:=[2,2,3,65147,qN]) ?_ (by decide +kernel) (by decide +kernel) Zjc ?_ hk hk2
 ·intro r hr
  simp only [List.mem_cons,List.not_mem_nil,or_false] at hr
  rcases hr with rfl | rfl | rfl | rfl | rfl
  ·exact Z0du
  ·exact Z0du
  ·exact Z0pg
  ·exact Zy8
  ·exact Z1z
 ·intro r hr
  simp only [List.mem_cons,List.not_mem_nil,or_false] at hr
  rcases hr with rfl | rfl | rfl | rfl | rfl
  all_goals exact Zxt 256 (by decide +kernel) (by decide +kernel)
theorem Zp3 {i:Nat} (hi:i<pN-1):2^i%pN≠0:=by
 intro h
 have h1:=Zjc
 unfold One at h1
 rw [show pN-1=i+(pN-1-i) by omega,Nat.pow_add,Nat.mul_mod,h,Nat.zero_mul,Nat.zero_mod] at h1
 exact absurd h1 (by decide +kernel)
theorem Z01n {a:Nat} (ha:a%pN≠0) : ∃ i,i<pN-1/\2^i%pN=a%pN:=by
 have hlt : ∀ x,x%pN<pN:=fun x=>Nat.mod_lt _ (by decide +kernel)
 obtain ⟨i,hi,e⟩:=surj (n:=pN-1) (f:=fun i=>2^i%pN-1) (fun i hi=>by
  have:=hlt (2^i)
  have:=Zp3 hi
  omega) (fun i j hi hj e=>by
  have:=Zp3 hi
  have:=Zp3 hj
  exact Znk Zjc (fun k a b=>Zve a b) hi hj (by omega)) (v:=a%pN-1) (by have:=hlt a; omega)
 refine ⟨i,hi,?_⟩
 have:=Zp3 hi
 omega
theorem Zwy {a:Nat} (ha:a%pN≠0):One a pN (pN-1):=by
 obtain ⟨i,_,e⟩:=Z01n ha
 have h:=Zjc.mul i
 unfold One at h ⊢
 rw [<- Zlc,<- e,Zlc,<- Nat.pow_mul,Nat.mul_comm]
 exact h
theorem Z05h {a:Nat} (ha:a%pN≠0):a*a^(pN-2)%pN=1:=by
 have h:=Zwy ha
 unfold One at h
 rw [show pN-1=(pN-2)+1 by decide +kernel,Nat.pow_succ,Nat.mul_comm] at h
 rw [h]
 decide +kernel
theorem Z05s {d:Nat} (hd:(pm pN 256 d ((pN-1) / 2) 1%pN==1%pN)=false) (x:Nat) (hx:x%pN≠0):x*x%pN≠d%pN:=by
 intro e
 refine Zxt 256 (by decide +kernel) hd ?_
 have h:=Zwy hx
 unfold One at h ⊢
 rw [<- Zlc,<- e,Zlc,<- Nat.pow_two,<- Nat.pow_mul,show 2*((pN-1) / 2)=pN-1 by decide +kernel]
 exact h
abbrev dN:Nat:=37095705934669439343138083508754565189542113879843219016388785533085940283555
theorem Zwk (x:Nat) (hx:x%pN≠0):x*x%pN≠dN%pN:=Z05s (by decide +kernel) x hx
abbrev F:=Fin pN
theorem Zvz (a:F) (ha:a≠0) : ∃ i:F,a*i=1:=by
 have h0:a.val%pN≠0:=by
  intro h
  apply ha
  rw [Nat.mod_eq_of_lt a.isLt] at h
  exact Fin.ext h
 have h:=Z05h h0
 refine ⟨⟨a.val^(pN-2)%pN,Nat.mod_lt _ (by decide +kernel)⟩,Fin.ext ?_⟩
 rw [Fin.val_mul]
 show a.val*(a.val^(pN-2)%pN)%pN=_
 generalize a.val^(pN-2)=z at *
 rw [Nat.mul_mod,Nat.mod_mod,<- Nat.mul_mod,h]
 decide +kernel
theorem Zb5 {a b:F} (h:a*b=0):a=0∨b=0:=by
 by_cases ha:a=0
 ·exact .inl ha
 ·obtain ⟨i,hi⟩:=Zvz a ha
  exact .inr (by grind -lia -linarith (splits:=0))
def dF:F:=⟨dN,by decide +kernel⟩
def iF:F:=⟨19681161376707505956807079304988542015446066515923890162744021073123829784752,by decide +kernel⟩
theorem Z09c:iF*iF+1=0:=by decide +kernel
theorem Zpq (s t:F) (h:s*s=dF*(t*t)):t=0:=by
 false_or_by_contra
 rename_i ht
 obtain ⟨i,hi⟩:=Zvz t ht
 have hx:(s*i)*(s*i)=dF:=by grind -lia -linarith (splits:=0)
 have h1:(s*i).val*(s*i).val%pN=dN%pN:=by
  have:=congrArg Fin.val hx
  rw [Fin.val_mul] at this
  rw [this]
  decide +kernel
 by_cases hz:(s*i).val%pN=0
 ·rw [Nat.mul_mod,hz] at h1
  exact absurd h1 (by decide +kernel)
 ·exact Zwk _ hz h1
structure On (x y:F):Prop where
 eq:y*y-x*x=1+dF*x*x*y*y
theorem Z0ho (a:F) (h:a+a=0):a=0:=by
 obtain ⟨i,hi⟩:=Zvz 2 (by decide +kernel)
 grind -lia -linarith (splits:=0)
theorem Z02j {x1 y1 x2 y2:F} (h1:On x1 y1) (h2:On x2 y2):dF*x1*x2*y1*y2*(dF*x1*x2*y1*y2)≠1:=by
 intro h3
 have e1:=h1.eq
 have e2:=h2.eq
 have hi:=Z09c
 obtain ⟨j,hj⟩ : ∃ j,j=iF:=⟨_,rfl⟩
 rw [<- hj] at hi
 obtain ⟨d,hd⟩ : ∃ d,d=dF:=⟨_,rfl⟩
 have nr : ∀ s t:F,s*s=d*(t*t)->t=0:=by rw [hd]; exact Zpq
 rw [<- hd] at e1 e2 h3
 clear hd hj h1 h2
 obtain ⟨e,he⟩ : ∃ e,e=d*x1*x2*y1*y2:=⟨_,rfl⟩
 rw [<- he] at h3
 -- with u = j x the curve is u u + y y = 1 - d u u y y
 have a1:x1*y1*(j*x2+y2)=0:=by
  refine nr (j*x1+e*y1) _ ?_
  grind -lia -linarith (splits:=0)
 have a2:x1*y1*(j*x2-y2)=0:=by
  refine nr (j*x1-e*y1) _ ?_
  grind -lia -linarith (splits:=0)
 have n1:x1*y1≠0:=fun h=>absurd (show (1:F)=0 by grind -lia -linarith (splits:=0)) (by decide +kernel)
 have b1:=(Zb5 a1).resolve_left n1
 have b2:=(Zb5 a2).resolve_left n1
 have b3:y2=0:=Z0ho y2 (by grind -lia -linarith (splits:=0))
 exact absurd (show (1:F)=0 by grind -lia -linarith (splits:=0)) (by decide +kernel)
noncomputable def Zt6 (a:F):F:=if h:a=0 then 0 else Classical.choose (Zvz a h)
theorem Z7c {a:F} (ha:a≠0):a*Zt6 a=1:=by
 unfold Zt6
 rw [dif_neg ha]
 exact Classical.choose_spec (Zvz a ha)
theorem Zzr {x1 y1 x2 y2:F} (h1:On x1 y1) (h2:On x2 y2):1+dF*x1*x2*y1*y2≠0:=by
 intro h
 refine Z02j h1 h2 ?_
 generalize dF*x1*x2*y1*y2=e at *
 grind -lia -linarith (splits:=0)
theorem Zzs {x1 y1 x2 y2:F} (h1:On x1 y1) (h2:On x2 y2):1-dF*x1*x2*y1*y2≠0:=by
 intro h
 refine Z02j h1 h2 ?_
 generalize dF*x1*x2*y1*y2=e at *
 grind -lia -linarith (splits:=0)
structure G where
 x:F
 y:F
 on:On x y
theorem Zug {P Q:G} (hx:P.x=Q.x) (hy:P.y=Q.y):P=Q:=by
 cases P; cases Q
 simp only at hx hy
 subst hx; subst hy; rfl
theorem Z05z (a b u v d:F) (h1:b*b-a*a=1+d*a*a*b*b) (h2:v*v-u*u=1+d*u*u*v*v) :
  (b*v+a*u)*(b*v+a*u)*(1+d*a*u*b*v)*(1+d*a*u*b*v)-(a*v+b*u)*(a*v+b*u)*(1-d*a*u*b*v)*(1-d*a*u*b*v)-(1+d*a*u*b*v)*(1+d*a*u*b*v)*(1-d*a*u*b*v)*(1-d*a*u*b*v)-d*(a*v+b*u)*(a*v+b*u)*(b*v+a*u)*(b*v+a*u)=0:=by
 grind -lia -linarith (splits:=0)
theorem Z05y (A B C D i1 i2 d:F) (hB:B*i1=1) (hD:D*i2=1) (h:C*C*B*B-A*A*D*D-B*B*D*D-d*A*A*C*C=0) :
  C*i2*(C*i2)-A*i1*(A*i1)=1+d*(A*i1)*(A*i1)*(C*i2)*(C*i2):=by
 grind -lia -linarith (splits:=0)
noncomputable def Zbw (P Q:G):G :=
 ⟨(P.x*Q.y+P.y*Q.x)*Zt6 (1+dF*P.x*Q.x*P.y*Q.y),(P.y*Q.y+P.x*Q.x)*Zt6 (1-dF*P.x*Q.x*P.y*Q.y),
  ⟨Z05y _ _ _ _ _ _ _ (Z7c (Zzr P.on Q.on)) (Z7c (Zzs P.on Q.on)) (Z05z P.x P.y Q.x Q.y dF P.on.eq Q.on.eq)⟩⟩
def Za8:G:=⟨0,1,⟨by decide +kernel⟩⟩
theorem Zph (P Q:G):Zbw P Q=Zbw Q P:=by
 have e1:dF*P.x*Q.x*P.y*Q.y=dF*Q.x*P.x*Q.y*P.y:=by generalize dF=d; grind -lia -linarith (splits:=0)
 refine Zug ?_ ?_
 ·show (P.x*Q.y+P.y*Q.x)*_=(Q.x*P.y+Q.y*P.x)*_
  rw [e1]; generalize Zt6 _=i; grind -lia -linarith (splits:=0)
 ·show (P.y*Q.y+P.x*Q.x)*_=(Q.y*P.y+Q.x*P.x)*_
  rw [e1]; generalize Zt6 _=i; grind -lia -linarith (splits:=0)
theorem Zzy (a b u v x y d:F) (h1:b*b-a*a=1+d*a*a*b*b) (h2:v*v-u*u=1+d*u*u*v*v) (h3:y*y-x*x=1+d*x*x*y*y):((a*v+b*u)*(1-d*a*u*b*v)*y+(b*v+a*u)*(1+d*a*u*b*v)*x)*((1+d*u*x*v*y)*(1-d*u*x*v*y)+d*(u*y+v*x)*(v*y+u*x)*a*b)-((u*y+v*x)*(1-d*u*x*v*y)*b+(v*y+u*x)*(1+d*u*x*v*y)*a)*((1+d*a*u*b*v)*(1-d*a*u*b*v)+d*(a*v+b*u)*(b*v+a*u)*x*y)=0:=by
 grind -lia -linarith (splits:=0)
theorem Zzz (a b u v x y d:F) (h1:b*b-a*a=1+d*a*a*b*b) (h2:v*v-u*u=1+d*u*u*v*v) (h3:y*y-x*x=1+d*x*x*y*y):((b*v+a*u)*(1+d*a*u*b*v)*y+(a*v+b*u)*(1-d*a*u*b*v)*x)*((1+d*u*x*v*y)*(1-d*u*x*v*y)-d*(u*y+v*x)*(v*y+u*x)*a*b)-((v*y+u*x)*(1+d*u*x*v*y)*b+(u*y+v*x)*(1-d*u*x*v*y)*a)*((1+d*a*u*b*v)*(1-d*a*u*b*v)-d*(a*v+b*u)*(b*v+a*u)*x*y)=0:=by
 grind -lia -linarith (splits:=0)
theorem Z097 (A B C D A2 B2 C2 D2 i1 i2 i3 i4 x1 y1 x3 y3 d j k:F) (hB:B*i1=1) (hD:D*i2=1) (hB2:B2*i3=1) (hD2:D2*i4=1)
  (h:(A*D*y3+C*B*x3)*(B2*D2+d*A2*C2*x1*y1)-(A2*D2*y1+C2*B2*x1)*(B*D+d*A*C*x3*y3)=0) :
  (A*i1*y3+C*i2*x3)*(1+d*(A2*i3)*(C2*i4)*x1*y1)=(A2*i3*y1+C2*i4*x1)*(1+d*(A*i1)*(C*i2)*x3*y3):=by
 grind -lia -linarith (splits:=0)
theorem Z098 (A B C D A2 B2 C2 D2 i1 i2 i3 i4 x1 y1 x3 y3 d j k:F) (hB:B*i1=1) (hD:D*i2=1) (hB2:B2*i3=1) (hD2:D2*i4=1)
  (h:(C*B*y3+A*D*x3)*(B2*D2-d*A2*C2*x1*y1)-(C2*B2*y1+A2*D2*x1)*(B*D-d*A*C*x3*y3)=0) :
  (C*i2*y3+A*i1*x3)*(1-d*(A2*i3)*(C2*i4)*x1*y1)=(C2*i4*y1+A2*i3*x1)*(1-d*(A*i1)*(C*i2)*x3*y3):=by
 grind -lia -linarith (splits:=0)
theorem Z0iz (X Y U V x1 y1 x3 y3 d j k:F) (h:(X*y3+Y*x3)*(1+d*U*V*x1*y1)=(U*y1+V*x1)*(1+d*X*Y*x3*y3)) (hj:(1+d*X*x3*Y*y3)*j=1) (hk:(1+d*x1*U*y1*V)*k=1) :
  (X*y3+Y*x3)*j=(x1*V+y1*U)*k:=by grind -lia -linarith (splits:=0)
theorem Z0j0 (X Y U V x1 y1 x3 y3 d j k:F) (h:(Y*y3+X*x3)*(1-d*U*V*x1*y1)=(V*y1+U*x1)*(1-d*X*Y*x3*y3)) (hj:(1-d*X*x3*Y*y3)*j=1) (hk:(1-d*x1*U*y1*V)*k=1) :
  (Y*y3+X*x3)*j=(y1*V+x1*U)*k:=by grind -lia -linarith (splits:=0)
theorem Zah (P Q R:G):Zbw (Zbw P Q) R=Zbw P (Zbw Q R):=by
 have b1:=Z7c (Zzr P.on Q.on)
 have b2:=Z7c (Zzs P.on Q.on)
 have b3:=Z7c (Zzr Q.on R.on)
 have b4:=Z7c (Zzs Q.on R.on)
 refine Zug ?_ ?_
 ·refine Z0iz _ _ _ _ P.x P.y R.x R.y dF _ _ ?_ (Z7c (Zzr (Zbw P Q).on R.on)) (Z7c (Zzr P.on (Zbw Q R).on))
  exact Z097 _ _ _ _ _ _ _ _ _ _ _ _ P.x P.y R.x R.y dF 0 0 b1 b2 b3 b4 (Zzy P.x P.y Q.x Q.y R.x R.y dF P.on.eq Q.on.eq R.on.eq)
 ·refine Z0j0 _ _ _ _ P.x P.y R.x R.y dF _ _ ?_ (Z7c (Zzs (Zbw P Q).on R.on)) (Z7c (Zzs P.on (Zbw Q R).on))
  exact Z098 _ _ _ _ _ _ _ _ _ _ _ _ P.x P.y R.x R.y dF 0 0 b1 b2 b3 b4 (Zzz P.x P.y Q.x Q.y R.x R.y dF P.on.eq Q.on.eq R.on.eq)
theorem Zg5 (P:G):Zbw P Za8=P:=by
 have b1:=Z7c (Zzr P.on Za8.on)
 have b2:=Z7c (Zzs P.on Za8.on)
 have z1:Za8.x=0:=rfl
 have z2:Za8.y=1:=rfl
 refine Zug ?_ ?_
 ·show (P.x*Za8.y+P.y*Za8.x)*Zt6 _=P.x
  generalize Zt6 (1+dF*P.x*Za8.x*P.y*Za8.y)=i at *
  rw [z1,z2] at *
  generalize dF=d at *
  grind -lia -linarith (splits:=0)
 ·show (P.y*Za8.y+P.x*Za8.x)*Zt6 _=P.y
  generalize Zt6 (1-dF*P.x*Za8.x*P.y*Za8.y)=i at *
  rw [z1,z2] at *
  generalize dF=d at *
  grind -lia -linarith (splits:=0)
theorem Zmq (P:G):Zbw Za8 P=P:=by rw [Zph,Zg5]
noncomputable def Zg0:Nat->G->G
 | 0,_=>Za8
 | n+1,P=>Zbw (Zg0 n P) P
theorem Zhk (m n:Nat) (P:G):Zg0 (m+n) P=Zbw (Zg0 m P) (Zg0 n P):=by
 induction n with
 | zero=>exact (Zg5 _).symm
 | succ n ih =>
  show Zbw (Zg0 (m+n) P) P=Zbw (Zg0 m P) (Zbw (Zg0 n P) P)
  rw [ih,Zah]
theorem Zdk (m n:Nat) (P:G):Zg0 (m*n) P=Zg0 m (Zg0 n P):=by
 induction m with
 | zero=>rw [Nat.zero_mul]; rfl
 | succ m ih=>rw [Nat.succ_mul,Zhk,ih]; rfl
theorem Zq7 (n:Nat):Zg0 n Za8=Za8:=by
 induction n with
 | zero=>rfl
 | succ n ih=>show Zbw (Zg0 n Za8) Za8=_; rw [ih,Zg5]
theorem Zpi (P Q R S:G):Zbw (Zbw P Q) (Zbw R S)=Zbw (Zbw P R) (Zbw Q S):=by
 rw [Zah,<- Zah Q R S,Zph Q R,Zah R Q S,<- Zah]
theorem Zq6 (n:Nat) (P Q:G):Zg0 n (Zbw P Q)=Zbw (Zg0 n P) (Zg0 n Q):=by
 induction n with
 | zero=>exact (Zg5 _).symm
 | succ n ih =>
  show Zbw (Zg0 n (Zbw P Q)) (Zbw P Q)=Zbw (Zbw (Zg0 n P) P) (Zbw (Zg0 n Q) Q)
  rw [ih,Zpi]
def fi (n:Int):F:=⟨(n%57896044618658097711785492504343953926634992332820282019728792003956564819949).toNat,by
 show _<57896044618658097711785492504343953926634992332820282019728792003956564819949
 omega⟩
theorem Zfh (n:Int):((fi n).val:Int)=n%57896044618658097711785492504343953926634992332820282019728792003956564819949:=by
 show (((n%_).toNat:Nat):Int)=_
 omega
theorem Z062:(pN:Int)=57896044618658097711785492504343953926634992332820282019728792003956564819949:=by decide +kernel
theorem Zuu {a b:Int}:fi a=fi b↔a%57896044618658097711785492504343953926634992332820282019728792003956564819949=b%57896044618658097711785492504343953926634992332820282019728792003956564819949:=by
 constructor
 ·intro h
  rw [<- Zfh,<- Zfh,h]
 ·intro h
  apply Fin.ext
  have:((fi a).val:Int)=((fi b).val:Int):=by rw [Zfh,Zfh,h]
  omega
theorem Zeg (a b:Int):fi (a+b)=fi a+fi b:=by
 apply Fin.ext
 rw [Fin.val_add]
 apply Int.ofNat_inj.1
 rw [Zfh,Int.natCast_emod,Int.natCast_add,Zfh,Zfh,Z062]
 exact Int.add_emod _ _ _
theorem Z34 (a b:Int):fi (a*b)=fi a*fi b:=by
 apply Fin.ext
 rw [Fin.val_mul]
 apply Int.ofNat_inj.1
 rw [Zfh,Int.natCast_emod,Int.natCast_mul,Zfh,Zfh,Z062]
 exact Int.mul_emod _ _ _
theorem fi_0:fi 0=0:=by decide +kernel
theorem fi_1:fi 1=1:=by decide +kernel
theorem Zi5 (a b:Int):fi (a-b)=fi a-fi b:=by
 have h:=Zeg (a-b) b
 rw [Int.sub_add_cancel] at h
 grind -lia -linarith (splits:=0)
theorem Zkk (a:Int):fi (-a) = - fi a:=by
 have h:=Zeg (-a) a
 rw [Int.add_left_neg,fi_0] at h
 grind -lia -linarith (splits:=0)
theorem Zfg (a:Int):fi (a%57896044618658097711785492504343953926634992332820282019728792003956564819949)=fi a:=by
 rw [Zuu]; exact Int.emod_emod_of_dvd _ (Int.dvd_refl _)
def fv (x:F):Int:=(x.val:Int)
theorem Zj2 (x:F):0<=fv x/\fv x<57896044618658097711785492504343953926634992332820282019728792003956564819949:=by
 have:=x.isLt
 have h:=Z062
 unfold fv
 omega
theorem Zuv (x:F):fi (fv x)=x:=by
 apply Fin.ext
 have h1:=Zfh (fv x)
 have h:=Zj2 x
 rw [Int.emod_eq_of_lt h.1 h.2] at h1
 unfold fv at *
 omega
theorem Z00l (n:Int):fv (fi n)=n%57896044618658097711785492504343953926634992332820282019728792003956564819949:=Zfh n
theorem Z099 {x y:F} (h:fv x=fv y):x=y:=by rw [<- Zuv x,<- Zuv y,h]
def pwF (x:F):Nat->F
 | 0=>1
 | n+1=>pwF x n*x
theorem Zou (x:F):pwF x 0=1:=rfl
theorem Zc6 (x:F) (n:Nat):pwF x (n+1)=pwF x n*x:=rfl
theorem Zot (x:F) (m n:Nat):pwF x (m+n)=pwF x m*pwF x n:=by
 induction n with
 | zero=>rw [Nat.add_zero,Zou]; generalize pwF x m=z; grind -lia -linarith (splits:=0)
 | succ n ih=>rw [<- Nat.add_assoc,Zc6,Zc6,ih]; generalize pwF x m=z; generalize pwF x n=w; grind -lia -linarith (splits:=0)
theorem Zyd (x:F) (m n:Nat):pwF x (m*n)=pwF (pwF x m) n:=by
 induction n with
 | zero=>rfl
 | succ n ih=>rw [Nat.mul_succ,Zot,ih,Zc6]
theorem Zye (x:F):pwF x 2=x*x:=by rw [show 2=0+1+1 from rfl,Zc6,Zc6,Zou]; grind -lia -linarith (splits:=0)
theorem Z06f (x:F) (n:Nat):(pwF x n).val=x.val^n%pN:=by
 induction n with
 | zero=>rw [Zou,Nat.pow_zero]; decide +kernel
 | succ n ih=>rw [Zc6,Fin.val_mul,ih,Nat.mod_mul_mod,Nat.pow_succ]
theorem Zwz {x:F} {n:Nat} (hn:n=pN-1) (hx:x≠0):pwF x n=1:=by
 have h0:x.val%pN≠0:=by
  intro h
  apply hx
  rw [Nat.mod_eq_of_lt x.isLt] at h
  exact Fin.ext h
 have h:=Zwy h0
 rw [<- hn] at h
 unfold One at h
 apply Fin.ext
 rw [Z06f,h]
 decide +kernel
theorem Z05g {x:F} {n:Nat} (hn:n+2=pN) (hx:x≠0):x*pwF x n=1:=by
 have h:=Zwz (n:=n+1) (by omega) hx
 rw [Zc6] at h
 rw [<- h]
 generalize pwF x n=z
 grind -lia -linarith (splits:=0)
theorem Z06l {s:F} {n:Nat} (hn:4*n=pN-1) (hs:s≠0):pwF (s*s) n=1∨pwF (s*s) n = -1:=by
 have h:=Zwz (n:=4*n) hn hs
 have e:pwF (s*s) n*pwF (s*s) n=1:=by
  rw [<- Zye s,<- Zyd,<- Zot,<- h]
  congr 1
  omega
 generalize pwF (s*s) n=w at *
 have h2:(w-1)*(w+1)=0:=by grind -lia -linarith (splits:=0)
 rcases Zb5 h2 with h3 | h3
 ·exact .inl (by grind -lia -linarith (splits:=0))
 ·exact .inr (by grind -lia -linarith (splits:=0))
theorem cand {u v:F} {n m:Nat} (hn:8*n+5=pN) (hm:m=2*n+1) :
  v*(u*(v*v*v)*pwF (u*((v*v*v)*(v*v*v))*v) n*(u*(v*v*v)*pwF (u*((v*v*v)*(v*v*v))*v) n))=u*pwF (u*((v*v*v)*(v*v*v))*v) m:=by
 obtain ⟨a,ha⟩ : ∃ a,a=u*((v*v*v)*(v*v*v))*v:=⟨_,rfl⟩
 rw [<- ha,hm,Zc6,Nat.mul_comm,Zyd,Zye]
 generalize pwF a n=z
 rw [ha]
 grind -lia -linarith (splits:=0)
end Go.Proofs.YteefpkhngighgaaGreatDoor
namespace Go.Proofs.YteefpkhngighgaaGreatDoor
open Go Go.Sx Go.RowKit
set_option linter.all false
set_option maxRecDepth 100000
structure Rep (q:Q4) (P:G):Prop where
 z:fi q.z≠0
 x:fi q.x=P.x*fi q.z
 y:fi q.y=P.y*fi q.z
 t:fi q.t=P.x*P.y*fi q.z
theorem Z096:fi D2=dF+dF:=by decide +kernel
theorem Z055:fi DD=dF:=by decide +kernel
theorem Zfm {a b:F} (ha:a≠0) (hb:b≠0):a*b≠0:=fun h=>(Zb5 h).elim ha hb
theorem Z0se:(1:F)+1≠0:=by decide +kernel
theorem Znn {e f g h:Int} {P:G} (hf:fi f≠0) (hg:fi g≠0) (he:fi e=P.x*fi g) (hh:fi h=P.y*fi f):Rep (Zox e f g h) P:=by
 constructor
 ·show fi (f*g)≠0
  rw [Z34]; exact Zfm hf hg
 ·show fi (e*f)=_*fi (f*g)
  rw [Z34,Z34,he]; grind -lia -linarith (splits:=0)
 ·show fi (g*h)=_*fi (f*g)
  rw [Z34,Z34,hh]; grind -lia -linarith (splits:=0)
 ·show fi (e*h)=_*fi (f*g)
  rw [Z34,Z34,he,hh]; grind -lia -linarith (splits:=0)
theorem Zw1 (P Q:G):(Zbw P Q).x*(1+dF*P.x*Q.x*P.y*Q.y)=P.x*Q.y+P.y*Q.x:=by
 have h:=Z7c (Zzr P.on Q.on)
 show (P.x*Q.y+P.y*Q.x)*Zt6 (1+dF*P.x*Q.x*P.y*Q.y)*_=_
 generalize Zt6 (1+dF*P.x*Q.x*P.y*Q.y)=i at *
 generalize dF=d at *
 grind -lia -linarith (splits:=0)
theorem Zw2 (P Q:G):(Zbw P Q).y*(1-dF*P.x*Q.x*P.y*Q.y)=P.y*Q.y+P.x*Q.x:=by
 have h:=Z7c (Zzs P.on Q.on)
 show (P.y*Q.y+P.x*Q.x)*Zt6 (1-dF*P.x*Q.x*P.y*Q.y)*_=_
 generalize Zt6 (1-dF*P.x*Q.x*P.y*Q.y)=i at *
 generalize dF=d at *
 grind -lia -linarith (splits:=0)
theorem Z07a {p q:Q4} {P Q:G} (hp:Rep p P) (hq:Rep q Q):Rep (qadd p q) (Zbw P Q):=by
 have d1:=Zzr P.on Q.on
 have d2:=Zzs P.on Q.on
 have ax:=Zw1 P Q
 have ay:=Zw2 P Q
 have hz:=Zfm Z0se (Zfm hp.z hq.z)
 have ef:fi ((p.z+p.z)*q.z-p.t*D2*q.t)=(1+1)*(fi p.z*fi q.z)*(1-dF*P.x*Q.x*P.y*Q.y):=by
  simp only [Z34,Zi5,Zeg,Z096,hp.t,hq.t]
  generalize dF=d at *
  grind -lia -linarith (splits:=0)
 have eg:fi ((p.z+p.z)*q.z+p.t*D2*q.t)=(1+1)*(fi p.z*fi q.z)*(1+dF*P.x*Q.x*P.y*Q.y):=by
  simp only [Z34,Zi5,Zeg,Z096,hp.t,hq.t]
  generalize dF=d at *
  grind -lia -linarith (splits:=0)
 refine Znn ?_ ?_ ?_ ?_
 ·rw [ef]; exact Zfm hz d2
 ·rw [eg]; exact Zfm hz d1
 ·rw [eg]
  simp only [Z34,Zi5,Zeg,hp.x,hq.x,hp.y,hq.y]
  generalize dF=d at *
  generalize (Zbw P Q).x=X at *
  grind -lia -linarith (splits:=0)
 ·rw [ef]
  simp only [Z34,Zi5,Zeg,hp.x,hq.x,hp.y,hq.y]
  generalize dF=d at *
  generalize (Zbw P Q).y=Y at *
  grind -lia -linarith (splits:=0)
theorem Z07c {p:Q4} {P:G} (hp:Rep p P):Rep (qdbl p) (Zbw P P):=by
 have d1:=Zzr P.on P.on
 have d2:=Zzs P.on P.on
 have ax:=Zw1 P P
 have ay:=Zw2 P P
 have on:=P.on.eq
 have ef:fi (p.z*p.z+p.z*p.z+(p.x*p.x-p.y*p.y))=(fi p.z*fi p.z)*(1-dF*P.x*P.x*P.y*P.y):=by
  simp only [Z34,Zi5,Zeg,hp.x,hp.y]
  generalize dF=d at *
  grind -lia -linarith (splits:=0)
 have eg:fi (p.x*p.x-p.y*p.y) = - (fi p.z*fi p.z)*(1+dF*P.x*P.x*P.y*P.y):=by
  simp only [Z34,Zi5,Zeg,hp.x,hp.y]
  generalize dF=d at *
  grind -lia -linarith (splits:=0)
 have hz:=Zfm hp.z hp.z
 have hz' : - (fi p.z*fi p.z)≠0:=by
  intro h; apply hz
  grind -lia -linarith (splits:=0)
 refine Znn ?_ ?_ ?_ ?_
 ·rw [ef]; exact Zfm hz d2
 ·rw [eg]; exact Zfm hz' d1
 ·rw [eg]
  simp only [Z34,Zi5,Zeg,hp.x,hp.y]
  generalize dF=d at *
  generalize (Zbw P P).x=X at *
  grind -lia -linarith (splits:=0)
 ·rw [ef]
  simp only [Z34,Zi5,Zeg,hp.x,hp.y]
  generalize dF=d at *
  generalize (Zbw P P).y=Y at *
  grind -lia -linarith (splits:=0)
theorem Zyp {q:Q4} {P:G} (h:Rep q P):Rep (qred q) P:=by
 constructor
 ·show fi (q.z%PP)≠0; rw [Zfg]; exact h.z
 ·show fi (q.x%PP)=_*fi (q.z%PP); rw [Zfg,Zfg]; exact h.x
 ·show fi (q.y%PP)=_*fi (q.z%PP); rw [Zfg,Zfg]; exact h.y
 ·show fi (q.t%PP)=_*fi (q.z%PP); rw [Zfg,Zfg]; exact h.t
theorem Zp1:Rep Zs6 Za8:=by
 constructor
 ·show fi 1≠0; decide +kernel
 ·show fi 0=0*fi 1; decide +kernel
 ·show fi 1=1*fi 1; decide +kernel
 ·show fi 0=0*1*fi 1; decide +kernel
def Zra (P:G):G:=⟨-P.x,P.y,⟨by have h:=P.on.eq; generalize dF=d at *; grind -lia -linarith (splits:=0)⟩⟩
theorem Z07d {p:Q4} {P:G} (h:Rep p P):Rep ⟨-p.x,p.y,p.z,-p.t⟩ (Zra P):=by
 constructor
 ·exact h.z
 ·show fi (-p.x) = -P.x*_; rw [Zkk,h.x]; grind -lia -linarith (splits:=0)
 ·exact h.y
 ·show fi (-p.t) = -P.x*P.y*_; rw [Zkk,h.t]; grind -lia -linarith (splits:=0)
theorem Z011 (P:G):Zbw (Zra P) P=Za8:=by
 have d1:=Zzr (Zra P).on P.on
 have d2:=Zzs (Zra P).on P.on
 have ax:=Zw1 (Zra P) P
 have ay:=Zw2 (Zra P) P
 have n1:(Zra P).x = -P.x:=rfl
 have n2:(Zra P).y=P.y:=rfl
 have on:=P.on.eq
 have z1:Za8.x=0:=rfl
 have z2:Za8.y=1:=rfl
 generalize Zbw (Zra P) P=R at *
 refine Zug ?_ ?_
 ·rw [z1]
  refine (Zb5 (b:=1+dF*(Zra P).x*P.x*(Zra P).y*P.y) ?_).resolve_right d1
  rw [ax,n1,n2]; grind -lia -linarith (splits:=0)
 ·rw [z2]
  have e:(R.y-1)*(1-dF*(Zra P).x*P.x*(Zra P).y*P.y)=0:=by
   rw [n1,n2] at *
   generalize dF=d at *
   grind -lia -linarith (splits:=0)
  have:=(Zb5 e).resolve_right d2
  grind -lia -linarith (splits:=0)
theorem Zld {p q:Q4} {P Q:G} (hp:Rep p P) (hq:Rep q Q):Rep (Zku p q) (Zbw P Q):=Zyp (Z07a hp hq)
theorem Zle {p:Q4} {P:G} (hp:Rep p P):Rep (Zar p) (Zbw P P):=Zyp (Z07c hp)
theorem Zp0 {p:Q4} {P:G} (hp:Rep p P) : ∀ j,Rep (tab p j) (Zg0 j P)
 | 0=>Zp1
 | j+1=>Zld (Zp0 hp j) hp
theorem Z00y (P:G):Zg0 1 P=P:=Zmq P
theorem Zl9 (P:G):Zg0 2 P=Zbw P P:=by
 show Zbw (Zg0 1 P) P=_
 rw [Z00y]
theorem Ztr {p:Q4} {P:G} (hp:Rep p P):Rep (Zmz p) (Zg0 16 P):=by
 have h:=Zle (Zle (Zle (Zle hp)))
 rw [<- Zl9,<- Zl9,<- Zl9,<- Zl9,<- Zdk,<- Zdk,<- Zdk] at h
 exact h
def Zxr (k:LI):Nat->Nat
 | 0=>0
 | i+1=>16*Zxr k i+(nib k i).toNat
theorem Zoz {p:Q4} {P:G} (k:LI) (hp:Rep p P) : ∀ i,Rep (Znl k p i) (Zg0 (Zxr k i) P)
 | 0=>Zp1
 | i+1=>by
  have h:=Zld (Ztr (Zoz k hp i)) (Zp0 hp (nib k i).toNat)
  rw [<- Zdk,<- Zhk] at h
  exact h
theorem Zqk {p r:Q4} {P R:G} (k l:LI) (hp:Rep p P) (hr:Rep r R) : ∀ i,Rep (Zkt k l p r i) (Zbw (Zg0 (Zxr k i) P) (Zg0 (Zxr l i) R))
 | 0=>by
  show Rep Zs6 (Zbw Za8 Za8)
  rw [Zg5]; exact Zp1
 | i+1=>by
  have h:=Zld (Zld (Ztr (Zqk k l hp hr i)) (Zp0 hp (nib k i).toNat)) (Zp0 hr (nib l i).toNat)
  rw [Zq6,<- Zdk,<- Zdk,Zah,Zpi,<- Zhk,<- Zhk] at h
  exact h
def hacc (k:LI):Nat->Int
 | 0=>0
 | j+1=>hacc k j*256+k.getD (31-j) 0
theorem Zos {k:LI} (hk:Byt k) : ∀ j,(Zxr k (2*j):Int)=hacc k j
 | 0=>rfl
 | j+1=>by
  have ih:=Zos hk j
  have hb:=hk (31-j)
  have e1:nib k (2*j)=k.getD (31-j) 0 / 16%16:=by unfold nib; rw [if_pos (by omega),show 2*j / 2=j by omega]
  have e2:nib k (2*j+1)=k.getD (31-j) 0%16:=by unfold nib; rw [if_neg (by omega),show (2*j+1) / 2=j by omega]
  show ((16*(16*Zxr k (2*j)+(nib k (2*j)).toNat)+(nib k (2*j+1)).toNat:Nat):Int)=hacc k j*256+k.getD (31-j) 0
  rw [e1,e2]
  generalize k.getD (31-j) 0=b at *
  generalize Zxr k (2*j)=n at *
  generalize hacc k j=m at *
  omega
def Z9h (x:LI):Int:=x.getD 0 0+x.getD 1 0*256+x.getD 2 0*65536+x.getD 3 0*16777216+x.getD 4 0*4294967296+x.getD 5 0*1099511627776+x.getD 6 0*281474976710656+x.getD 7 0*72057594037927936+x.getD 8 0*18446744073709551616+x.getD 9 0*4722366482869645213696+x.getD 10 0*1208925819614629174706176+x.getD 11 0*309485009821345068724781056+x.getD 12 0*79228162514264337593543950336+x.getD 13 0*20282409603651670423947251286016+x.getD 14 0*5192296858534827628530496329220096+x.getD 15 0*1329227995784915872903807060280344576+x.getD 16 0*340282366920938463463374607431768211456+x.getD 17 0*87112285931760246646623899502532662132736+x.getD 18 0*22300745198530623141535718272648361505980416+x.getD 19 0*5708990770823839524233143877797980545530986496+x.getD 20 0*1461501637330902918203684832716283019655932542976+x.getD 21 0*374144419156711147060143317175368453031918731001856+x.getD 22 0*95780971304118053647396689196894323976171195136475136+x.getD 23 0*24519928653854221733733552434404946937899825954937634816+x.getD 24 0*6277101735386680763835789423207666416102355444464034512896+x.getD 25 0*1606938044258990275541962092341162602522202993782792835301376+x.getD 26 0*411376139330301510538742295639337626245683966408394965837152256+x.getD 27 0*105312291668557186697918027683670432318895095400549111254310977536+x.getD 28 0*26959946667150639794667015087019630673637144422540572481103610249216+x.getD 29 0*6901746346790563787434755862277025452451108972170386555162524223799296+x.getD 30 0*1766847064778384329583297500742918515827483896875618958121606201292619776+x.getD 31 0*452312848583266388373324160190187140051835877600158453279131187530910662656
theorem Zx6 (k:LI):hacc k 32=Z9h k:=by
 simp only [hacc,Z9h]
 simp only [Nat.reduceSub]
 omega
theorem Zor {k:LI} (hk:Byt k):Zxr k 64=(Z9h k).toNat:=by
 have h:(Zxr k 64:Int)=hacc k 32:=Zos hk 32
 rw [Zx6] at h
 omega
theorem Zil {k:LI} (hk:Byt k):0<=Z9h k:=by
 have h:(Zxr k 64:Int)=hacc k 32:=Zos hk 32
 rw [Zx6] at h
 omega
def bnum (e:LI):Nat->Nat
 | 0=>0
 | k+1=>if ebit e (255-k) then 2*bnum e k+1 else 2*bnum e k
theorem Z057 (x:Int) (e:LI) : ∀ k,fi (pw x e k)=pwF (fi x) (bnum e k)
 | 0=>fi_1
 | k+1=>by
  have ih:=Z057 x e k
  simp only [pw,bnum]
  split
  ·rw [Zfg,Z34,Zfg,Z34,ih,Zc6,Nat.two_mul,Zot]
  ·rw [Zfg,Z34,ih,Nat.two_mul,Zot]
theorem Z002:bnum einv 256+2=pN:=by decide +kernel
theorem Zw9:8*bnum esq 256+5=pN:=by decide +kernel
theorem Z056 {a:Int} (h:fi a≠0):fi a*fi (Zx0 a)=1:=by
 unfold Zx0
 rw [Z057,Zfg]
 exact Z05g Z002 h
theorem Z00j:fi Z01u*fi Z01u = -1:=by decide +kernel
def Zhd (P:G):LI:=Zhr (fv P.x) (fv P.y)
theorem Zro {x y u v:Int} (h1:x%PP=u%PP) (h2:y%PP=v%PP):Zhr x y=Zhr u v:=by
 unfold Zhr; rw [h1,h2]
theorem Z07b {q:Q4} {P:G} (h:Rep q P):fi (q.x*Zx0 q.z)=P.x/\fi (q.y*Zx0 q.z)=P.y:=by
 have hi:=Z056 h.z
 rw [Z34,Z34,h.x,h.y]
 generalize fi (Zx0 q.z)=i at *
 generalize fi q.z=z at *
 exact ⟨by grind -lia -linarith (splits:=0),by grind -lia -linarith (splits:=0)⟩
theorem Znf (x:F):fv x%PP=fv x:=Int.emod_eq_of_lt (Zj2 x).1 (Zj2 x).2
theorem Z04r {q:Q4} {P:G} (h:Rep q P):encQ q=Zhd P:=by
 have ha:=Z07b h
 refine Zro ?_ ?_
 ·rw [Znf,<- ha.1,Z00l]
 ·rw [Znf,<- ha.2,Z00l]
theorem Zoe (n:Int):Byt (byt n):=byt_of (by
 unfold byt
 repeat' (first | exact List.forall_mem_nil _ | refine List.forall_mem_cons.2 ⟨?_,?_⟩)
 all_goals omega)
theorem Z4o (n:Int):(byt n).length=32:=rfl
theorem Z0dr {x:Int} (h0:0<=x) (h1:x<128):Z7 .or .u8 x 128=x+128:=by
 have:x=((x.toNat:Nat):Int):=by omega
 rw [this]
 have hx:x.toNat<128:=by omega
 generalize x.toNat=n at *
 have h : ∀ n:Fin 128,Z7 .or .u8 ((n.val:Nat):Int) 128=(n.val:Int)+128:=by decide +kernel
 exact h ⟨n,hx⟩
theorem Z02i {n:Int} (h0:0<=n) (h1:n<PP):0<=(byt n).getD 31 0/\(byt n).getD 31 0<128:=by
 have e:(byt n).getD 31 0=n / 452312848583266388373324160190187140051835877600158453279131187530910662656%256:=rfl
 rw [e]
 unfold PP at h1
 omega
theorem Zsq {n:Int} (h0:0<=n) (h1:n<PP):Zi4 (byt n)=n:=by
 unfold PP at h1
 simp only [Zi4,byt,List.getD_cons_zero,List.getD_cons_succ]
 omega
theorem Zmf {l:LI} {i:Nat} {v:Int} (h:i<l.length):(Z3z l i v).length=l.length:=by rw [Zme h,List.length_set]
theorem Z04q (x y:Int):Byt (Zhr x y):=by
 unfold Zhr
 split
 ·refine Zjh (Zoe _) ?_
  have:=Z02i (n:=y%PP) (Int.emod_nonneg _ (by decide)) (Int.emod_lt_of_pos _ Ziq)
  rw [Z0dr this.1 this.2]
  omega
 ·exact Zoe _
theorem Zur (x y:Int):(Zhr x y).length=32:=by
 unfold Zhr
 split
 ·rw [Zmf (by rw [Z4o]; decide),Z4o]
 ·exact Z4o _
theorem Zty {l:LI} {i:Nat} (h:i<l.length):l.set i (l.getD i 0)=l:=by
 have e:l.getD i 0=l[i]:=by simp [List.getD_eq_getElem?_getD,List.getElem?_eq_getElem h]
 rw [e]
 exact List.set_getElem_self h
theorem Zpu (x y:Int):(Zhr x y).getD 31 0 / 128=x%PP%2/\Z3z (Zhr x y) 31 ((Zhr x y).getD 31 0%128)=byt (y%PP):=by
 have h31:=Z02i (n:=y%PP) (Int.emod_nonneg _ (by decide)) (Int.emod_lt_of_pos _ Ziq)
 unfold Zhr
 split
 ·next h =>
  rw [Z0dr h31.1 h31.2,Z8j,if_pos rfl]
  refine ⟨by omega,?_⟩
  have e:((byt (y%PP)).getD 31 0+128)%128=(byt (y%PP)).getD 31 0:=by omega
  rw [e,Zme (xs:=Z3z _ _ _) (by rw [Zmf (by rw [Z4o]; decide),Z4o]; decide),Zme (by rw [Z4o]; decide),List.set_set]
  exact Zty (by rw [Z4o]; decide)
 ·next h =>
  refine ⟨by omega,?_⟩
  have e:(byt (y%PP)).getD 31 0%128=(byt (y%PP)).getD 31 0:=by omega
  rw [e,Zme (by rw [Z4o]; decide)]
  exact Zty (by rw [Z4o]; decide)
theorem Z09a (y:F):fv (-y)=(- fv y)%57896044618658097711785492504343953926634992332820282019728792003956564819949:=by
 have h:=Z00l (- fv y)
 rw [Zkk,Zuv] at h
 exact h
theorem Z012 {b:Int} (hy:0<=b/\b<57896044618658097711785492504343953926634992332820282019728792003956564819949) (h0 : ¬ b=0) : -b%57896044618658097711785492504343953926634992332820282019728792003956564819949=57896044618658097711785492504343953926634992332820282019728792003956564819949-b:=by
 rw [<- Int.add_emod_right,Int.emod_eq_of_lt (by omega) (by omega)]; omega
theorem par {x y:F} (h:fv x%2=fv y%2) (h2:x = -y):x=y:=by
 have e:=Z09a y
 rw [<- h2] at e
 have hx:=Zj2 x
 have hy:=Zj2 y
 apply Z099
 clear h2
 generalize fv x=a at *
 generalize fv y=b at *
 by_cases h0:b=0
 ·subst h0; rw [e]; rfl
 ·rw [Z012 hy h0] at e
  omega
theorem Z008 (y d j:F) (h:1+d*y*y=0) (hj:j*j+1=0):j*j=d*(y*y):=by grind -lia -linarith (splits:=0)
theorem Z018 (y d:F) (hy:y=0) (h:1+d*y*y=0):(1:F)=0:=by grind -lia -linarith (splits:=0)
theorem Z08v (y:F):1+dF*y*y≠0:=by
 intro h
 have:=Zpq _ _ (Z008 y dF iF h Z09c)
 exact absurd (Z018 y dF this h) (by decide +kernel)
theorem Zyv (a b c d:F) (h1:c*c-a*a=1+d*a*a*c*c) (h2:c*c-b*b=1+d*b*b*c*c):((a-b)*(a+b))*(1+d*c*c)=0:=by grind -lia -linarith (splits:=0)
theorem Zmn (a b:F) (h:a-b=0):a=b:=by grind -lia -linarith (splits:=0)
theorem Zrd (a b:F) (h:a+b=0):a = -b:=by grind -lia -linarith (splits:=0)
theorem Z060 {P Q:G} (hy:P.y=Q.y):P.x=Q.x∨P.x = - Q.x:=by
 have h1:=P.on.eq
 have h2:=Q.on.eq
 rw [hy] at h1
 rcases Zb5 ((Zb5 (Zyv _ _ _ _ h1 h2)).resolve_right (Z08v Q.y)) with h | h
 ·exact .inl (Zmn _ _ h)
 ·exact .inr (Zrd _ _ h)
theorem Zie {a:Int}:fi a=0↔a%PP=0:=by
 rw [<- fi_0,Zuu]; rfl
theorem Zwr {a:Int} (h0 : ¬ a%57896044618658097711785492504343953926634992332820282019728792003956564819949=0) : -a%57896044618658097711785492504343953926634992332820282019728792003956564819949=57896044618658097711785492504343953926634992332820282019728792003956564819949-a%57896044618658097711785492504343953926634992332820282019728792003956564819949:=by omega
theorem Zt1 (a:Int):fabs a%PP%2=0:=by
 unfold fabs PP
 by_cases h:a%57896044618658097711785492504343953926634992332820282019728792003956564819949%2=1
 ·have hb:(a%57896044618658097711785492504343953926634992332820282019728792003956564819949%2==1)=true:=by simpa using h
  rw [hb]
  show -a%57896044618658097711785492504343953926634992332820282019728792003956564819949%2=0
  rw [Zwr (by intro h0; rw [h0] at h; exact absurd h (by decide))]
  generalize a%57896044618658097711785492504343953926634992332820282019728792003956564819949=b at *
  clear hb
  omega
 ·have hb:(a%57896044618658097711785492504343953926634992332820282019728792003956564819949%2==1)=false:=by simpa using h
  rw [hb]
  show a%57896044618658097711785492504343953926634992332820282019728792003956564819949%2=0
  generalize a%57896044618658097711785492504343953926634992332820282019728792003956564819949=b at *
  clear hb
  omega
theorem Zww (a:Int):fi (fabs a)*fi (fabs a)=fi a*fi a:=by
 unfold fabs
 cases h:(a%PP%2==1)
 ·rfl
 ·show fi (-a)*fi (-a)=_
  rw [Zkk]; grind -lia -linarith (splits:=0)
theorem Zqy {a b:Int} (hb:fi b≠0) (h:(Zvu a b).2=true):fi b*(fi (Zvu a b).1*fi (Zvu a b).1)=fi a/\(Zvu a b).1%PP%2=0:=by
 have hb' : ¬ b%PP=0:=fun e=>hb (Zie.2 e)
 unfold Zvu at h ⊢
 rw [if_neg hb'] at h ⊢
 split
 ·next h1 =>
  refine ⟨?_,Zt1 _⟩
  rw [Zww,<- Z34,<- Z34]
  exact Zuu.2 h1
 ·next h1 =>
  rw [if_neg h1] at h
  split
  ·next h2 =>
   refine ⟨?_,Zt1 _⟩
   rw [Zww]
   have e:=Zuu.2 h2
   have e2:=Z00j
   rw [Z34,Z34,Zkk] at e
   rw [Z34]
   generalize fi Z01u=j at *
   generalize fi (Zpd a b)=r at *
   grind -lia -linarith (splits:=0)
  ·next h2 =>
   rw [if_neg h2] at h
   cases h
theorem Zqx {a b:Int} (hb:fi b≠0) {x:F} (hx:fi b*(x*x)=fi a):(Zvu a b).2=true:=by
 have hb' : ¬ b%PP=0:=fun e=>hb (Zie.2 e)
 have hc:=cand (u:=fi a) (v:=fi b) (m:=2*bnum esq 256+1) Zw9 rfl
 have er:fi (Zpd a b)=fi a*(fi b*fi b*fi b)*pwF (fi a*((fi b*fi b*fi b)*(fi b*fi b*fi b))*fi b) (bnum esq 256):=by
  unfold Zpd
  simp only [Z34,Z057,Zfg]
 rw [<- er] at hc
 have hq:fi b*(fi (Zpd a b)*fi (Zpd a b))=fi a∨fi b*(fi (Zpd a b)*fi (Zpd a b)) = - fi a:=by
  rw [hc]
  by_cases hx0:x=0
  ·left
   have:fi a=0:=by rw [<- hx,hx0]; generalize fi b=v; grind -lia -linarith (splits:=0)
   rw [this]
   generalize pwF _ _=z
   grind -lia -linarith (splits:=0)
  ·have hs:fi a*((fi b*fi b*fi b)*(fi b*fi b*fi b))*fi b=(x*(fi b*fi b*fi b*fi b))*(x*(fi b*fi b*fi b*fi b)):=by
    rw [<- hx]; generalize fi b=v; grind -lia -linarith (splits:=0)
   rw [hs]
   have hn:x*(fi b*fi b*fi b*fi b)≠0:=Zfm hx0 (Zfm (Zfm (Zfm hb hb) hb) hb)
   rcases Z06l (n:=2*bnum esq 256+1) (by have:=Zw9; omega) hn with e | e
   ·left; rw [e]; grind -lia -linarith (splits:=0)
   ·right; rw [e]; grind -lia -linarith (splits:=0)
 unfold Zvu
 rw [if_neg hb']
 split
 ·rfl
 ·next h1 =>
  split
  ·rfl
  ·next h2 =>
   exfalso
   rcases hq with e | e
   ·apply h1; apply Zuu.1; rw [Z34,Z34]; exact e
   ·apply h2; apply Zuu.1; rw [Z34,Z34,Zkk]; exact e
theorem Zp2 (y:Int):fi (DD*(y*y)+1)≠0:=by
 have h:=Z08v (fi y)
 intro e
 apply h
 rw [Zeg,Z34,Z34,Z055,fi_1] at e
 generalize dF=d at *
 grind -lia -linarith (splits:=0)
theorem Zyr {y:Int} (h:(Zee y).2=true):On (fi (Zee y).1) (fi y):=by
 have hs:=(Zqy (Zp2 y) h).1
 constructor
 have e:fi (DD*(y*y)+1)*(fi (Zee y).1*fi (Zee y).1)=fi (y*y-1):=hs
 rw [Zeg,Z34,Z34,Z055,fi_1,Zi5,Z34,fi_1] at e
 generalize dF=d at *
 generalize fi (Zee y).1=x at *
 grind -lia -linarith (splits:=0)
theorem Z0dq {x y:F} (h:On x y):On (-x) y:=⟨by have e:=h.eq; generalize dF=d at *; grind -lia -linarith (splits:=0)⟩
theorem Zwm {p:LI} (h:dok p=true):dcan p=true/\(Zee (Zi4 (Z50 p))).2=true /\ ¬ (Zzu p=1/\(Zee (Zi4 (Z50 p))).1%PP=0):=by
 unfold dok at h
 simp only [Bool.and_eq_true,Bool.not_eq_true'] at h
 refine ⟨h.1.1,h.1.2,?_⟩
 intro hh
 have:=h.2
 simp [hh.1,hh.2] at this
theorem Zwn {p:LI} (h:dok p=true) : ∃ P:G,Rep (dpt p) P/\P.y=fi (Zi4 (Z50 p))/\P.x=fi (dx p):=by
 obtain ⟨_,h2,_⟩:=Zwm h
 have on:=Zyr h2
 have on2:On (fi (dx p)) (fi (Zi4 (Z50 p))):=by
  unfold dx
  split
  ·rw [Zkk]; exact Z0dq on
  ·exact on
 refine ⟨⟨_,_,on2⟩,⟨?_,?_,?_,?_⟩,rfl,rfl⟩
 ·show fi 1≠0; decide +kernel
 ·show fi (dx p)=fi (dx p)*fi 1; rw [fi_1]; grind -lia -linarith (splits:=0)
 ·show fi (Zi4 (Z50 p))=fi (Zi4 (Z50 p))*fi 1; rw [fi_1]; grind -lia -linarith (splits:=0)
 ·show fi (dx p*Zi4 (Z50 p))=fi (dx p)*fi (Zi4 (Z50 p))*fi 1; rw [fi_1,Z34]; grind -lia -linarith (splits:=0)
theorem Zo2 (x y:Int):Z50 (Zhr x y)=byt (y%PP):=(Zpu x y).2
theorem Z009 (x y:Int):Zzu (Zhr x y)=x%PP%2:=(Zpu x y).1
theorem Zwl (P:G):dok (Zhd P)=true/\Rep (dpt (Zhd P)) P:=by
 have ey:Zi4 (Z50 (Zhd P))=fv P.y:=by
  unfold Zhd; rw [Zo2,Znf,Zsq (Zj2 _).1 (Zj2 _).2]
 have et:Zzu (Zhd P)=fv P.x%2:=by unfold Zhd; rw [Z009,Znf]
 have hr:(Zee (fv P.y)).2=true:=by
  refine Zqx (Zp2 _) (x:=P.x) ?_
  rw [Zeg,Z34,Z34,Z055,fi_1,Zi5,Z34,fi_1,Zuv]
  have:=P.on.eq
  generalize dF=d at *
  grind -lia -linarith (splits:=0)
 have hs:=Zqy (Zp2 (fv P.y)) hr
 have hx:P.x=fi (Zee (fv P.y)).1∨P.x = - fi (Zee (fv P.y)).1 :=
  Z060 (P:=P) (Q:=⟨_,_,Zyr hr⟩) (Zuv P.y).symm
 have hpar:fv (fi (Zee (fv P.y)).1)%2=0:=by rw [Z00l]; exact hs.2
 have hdx:fi (dx (Zhd P))=P.x:=by
  unfold dx
  rw [ey,et]
  split
  ·next h =>
   rw [Zkk]
   rcases hx with e | e
   ·exfalso; rw [e] at h; omega
   ·exact e.symm
  ·next h =>
   refine (?_:P.x=_).symm
   rcases hx with e | e
   ·exact e
   ·exact par (by omega) e
 have hcan:dcan (Zhd P)=true:=by
  unfold dcan Zhd ieq
  rw [Zo2,Znf,Zsq (Zj2 _).1 (Zj2 _).2,Z5o,Zjw,Znf]
  simp
 have hok:dok (Zhd P)=true:=by
  unfold dok
  rw [hcan,ey,hr,et]
  simp only [Bool.and_self,Bool.true_and,Bool.not_eq_true',Bool.and_eq_false_iff,beq_eq_false_iff_ne,decide_eq_false_iff_not]
  by_cases h:fv P.x%2=1
  ·right
   intro h0
   have z:fi (Zee (fv P.y)).1=0:=Zie.2 h0
   rw [z] at hx
   have:P.x=0:=by rcases hx with e | e <;> rw [e] <;> decide +kernel
   rw [this] at h
   revert h
   decide +kernel
  ·left; exact h
 refine ⟨hok,?_⟩
 obtain ⟨Q,hQ,qy,qx⟩:=Zwn hok
 have:Q=P:=by
  refine Zug (by rw [qx,hdx]) (by rw [qy,ey,Zuv])
 rw [this] at hQ; exact hQ
end Go.Proofs.YteefpkhngighgaaGreatDoor
namespace Go.Proofs.YteefpkhngighgaaGreatDoor
open Go Go.Sx Go.RowKit
open Go.IntKind (wrap)
set_option linter.all false
set_option maxRecDepth 100000
set_option maxHeartbeats 1000000
theorem Zqt (k:Nat) {b:Int} (hk:k<=56) (h:0<=b/\b<256):Z02 .u64 (wrap .u64 b) (k:Int)=b*((2^k:Nat):Int):=by
 have hp:(0:Int)<((2^k:Nat):Int):=by have:=Nat.pow_pos (n:=k) (show 0<2 by decide); omega
 have hle:((2^k:Nat):Int)<=72057594037927936:=by
  have:=Nat.pow_le_pow_right (show 0<2 by decide) hk
  have e:(2^56:Nat)=72057594037927936:=by decide
  omega
 have h1:b*((2^k:Nat):Int)<=255*72057594037927936:=Int.mul_le_mul (by omega) hle (by omega) (by omega)
 have h0:0<=b*((2^k:Nat):Int):=Int.mul_nonneg h.1 (by omega)
 rw [Z03 h.1 (by omega),Zjj .u64 (n:=k) (by show k<=64; omega),Z03 h0 (by omega)]
theorem Zpb {b0 b1 b2 b3 b4 b5 b6 b7:Int} (h0:0<=b0/\b0<256) (h1:0<=b1/\b1<256) (h2:0<=b2/\b2<256) (h3:0<=b3/\b3<256) (h4:0<=b4/\b4<256) (h5:0<=b5/\b5<256) (h6:0<=b6/\b6<256) (h7:0<=b7/\b7<256):Z7 .or .u64 (Z7 .or .u64 (Z7 .or .u64 (Z7 .or .u64 (Z7 .or .u64 (Z7 .or .u64 (Z7 .or .u64 (Z7 .or .u64 (0) (Z02 .u64 (wrap .u64 (b0)) 0)) (Z02 .u64 (wrap .u64 (b1)) 8)) (Z02 .u64 (wrap .u64 (b2)) 16)) (Z02 .u64 (wrap .u64 (b3)) 24)) (Z02 .u64 (wrap .u64 (b4)) 32)) (Z02 .u64 (wrap .u64 (b5)) 40)) (Z02 .u64 (wrap .u64 (b6)) 48)) (Z02 .u64 (wrap .u64 (b7)) 56)=b0+b1*256+b2*65536+b3*16777216+b4*4294967296+b5*1099511627776+b6*281474976710656+b7*72057594037927936:=by
 have s0:=Zqt 0 (by decide) h0
 have s1:=Zqt 8 (by decide) h1
 have s2:=Zqt 16 (by decide) h2
 have s3:=Zqt 24 (by decide) h3
 have s4:=Zqt 32 (by decide) h4
 have s5:=Zqt 40 (by decide) h5
 have s6:=Zqt 48 (by decide) h6
 have s7:=Zqt 56 (by decide) h7
 have t0:Z02 .u64 (wrap .u64 b0) 0=b0*1:=s0
 have t1:Z02 .u64 (wrap .u64 b1) 8=b1*256:=s1
 have t2:Z02 .u64 (wrap .u64 b2) 16=b2*65536:=s2
 have t3:Z02 .u64 (wrap .u64 b3) 24=b3*16777216:=s3
 have t4:Z02 .u64 (wrap .u64 b4) 32=b4*4294967296:=s4
 have t5:Z02 .u64 (wrap .u64 b5) 40=b5*1099511627776:=s5
 have t6:Z02 .u64 (wrap .u64 b6) 48=b6*281474976710656:=s6
 have t7:Z02 .u64 (wrap .u64 b7) 56=b7*72057594037927936:=s7
 rw [t0,t1,t2,t3,t4,t5,t6,t7]
 rw [Z0w 0 (x:=b0*1) (y:=0) (a:=b0) rfl (by omega) (by omega) (by decide) (by omega)]
 rw [Z0w 8 (x:=b1*256) (a:=b1) rfl (by omega) (by omega) (by show _<(256:Int); omega) (by omega)]
 rw [Z0w 16 (x:=b2*65536) (a:=b2) rfl (by omega) (by omega) (by show _<(65536:Int); omega) (by omega)]
 rw [Z0w 24 (x:=b3*16777216) (a:=b3) rfl (by omega) (by omega) (by show _<(16777216:Int); omega) (by omega)]
 rw [Z0w 32 (x:=b4*4294967296) (a:=b4) rfl (by omega) (by omega) (by show _<(4294967296:Int); omega) (by omega)]
 rw [Z0w 40 (x:=b5*1099511627776) (a:=b5) rfl (by omega) (by omega) (by show _<(1099511627776:Int); omega) (by omega)]
 rw [Z0w 48 (x:=b6*281474976710656) (a:=b6) rfl (by omega) (by omega) (by show _<(281474976710656:Int); omega) (by omega)]
 rw [Z0w 56 (x:=b7*72057594037927936) (a:=b7) rfl (by omega) (by omega) (by show _<(72057594037927936:Int); omega) (by omega)]
 omega
theorem Zta {p:LI} (h:Byt p) : ∃ r,Zaw p=some r/\W64 r/\r.length=4/\V4 r=Z9h p:=by
 refine ⟨_,Zv2 p,Zo0 ?_,rfl,?_⟩
 ·repeat' (first | exact Zth _ _ | exact List.forall_mem_nil _ | refine List.forall_mem_cons.2 ⟨?_,?_⟩)
 ·unfold V4
  simp only [List.getD_cons_zero,List.getD_cons_succ]
  rw [Zpb (h 0) (h 1) (h 2) (h 3) (h 4) (h 5) (h 6) (h 7)]
  rw [Zpb (h 8) (h 9) (h 10) (h 11) (h 12) (h 13) (h 14) (h 15)]
  rw [Zpb (h 16) (h 17) (h 18) (h 19) (h 20) (h 21) (h 22) (h 23)]
  rw [Zpb (h 24) (h 25) (h 26) (h 27) (h 28) (h 29) (h 30) (h 31)]
  unfold Z9h
  omega
theorem Z2l (x:Int):Zr .u64 x 8=x / 256:=by have:=Zh4 .u64 (x:=x) (n:=8) (by decide); simpa using this
theorem Z03e {p:LI} (h:W64 p):V4 p%18446744073709551616=p.getD 0 0/\V4 p / 18446744073709551616%18446744073709551616=p.getD 1 0/\V4 p / 340282366920938463463374607431768211456%18446744073709551616=p.getD 2 0/\V4 p / 6277101735386680763835789423207666416102355444464034512896%18446744073709551616=p.getD 3 0:=by
 have h0:=h 0
 have h1:=h 1
 have h2:=h 2
 have h3:=h 3
 unfold V4
 refine ⟨by omega,by omega,by omega,by omega⟩
theorem sb_0 {n x:Int} (h:n%18446744073709551616=x):wrap .u8 (x)=n%256:=by
 simp only [Z2l,Z0v]
 omega
theorem sb_1 {n x:Int} (h:n%18446744073709551616=x):wrap .u8 (Zr .u64 (x) 8)=n / 256%256:=by
 simp only [Z2l,Z0v]
 omega
theorem sb_2 {n x:Int} (h:n%18446744073709551616=x):wrap .u8 (Zr .u64 (Zr .u64 (x) 8) 8)=n / 65536%256:=by
 simp only [Z2l,Z0v]
 omega
theorem sb_3 {n x:Int} (h:n%18446744073709551616=x):wrap .u8 (Zr .u64 (Zr .u64 (Zr .u64 (x) 8) 8) 8)=n / 16777216%256:=by
 simp only [Z2l,Z0v]
 omega
theorem sb_4 {n x:Int} (h:n%18446744073709551616=x):wrap .u8 (Zr .u64 (Zr .u64 (Zr .u64 (Zr .u64 (x) 8) 8) 8) 8)=n / 4294967296%256:=by
 simp only [Z2l,Z0v]
 omega
theorem sb_5 {n x:Int} (h:n%18446744073709551616=x):wrap .u8 (Zr .u64 (Zr .u64 (Zr .u64 (Zr .u64 (Zr .u64 (x) 8) 8) 8) 8) 8)=n / 1099511627776%256:=by
 simp only [Z2l,Z0v]
 omega
theorem sb_6 {n x:Int} (h:n%18446744073709551616=x):wrap .u8 (Zr .u64 (Zr .u64 (Zr .u64 (Zr .u64 (Zr .u64 (Zr .u64 (x) 8) 8) 8) 8) 8) 8)=n / 281474976710656%256:=by
 simp only [Z2l,Z0v]
 omega
theorem sb_7 {n x:Int} (h:n%18446744073709551616=x):wrap .u8 (Zr .u64 (Zr .u64 (Zr .u64 (Zr .u64 (Zr .u64 (Zr .u64 (Zr .u64 (x) 8) 8) 8) 8) 8) 8) 8)=n / 72057594037927936%256:=by
 simp only [Z2l,Z0v]
 omega
theorem sb_8 {n x:Int} (h:n / 18446744073709551616%18446744073709551616=x):wrap .u8 (x)=n / 18446744073709551616%256:=by
 simp only [Z2l,Z0v]
 omega
theorem sb_9 {n x:Int} (h:n / 18446744073709551616%18446744073709551616=x):wrap .u8 (Zr .u64 (x) 8)=n / 4722366482869645213696%256:=by
 simp only [Z2l,Z0v]
 omega
theorem Z0rp {n x:Int} (h:n / 18446744073709551616%18446744073709551616=x):wrap .u8 (Zr .u64 (Zr .u64 (x) 8) 8)=n / 1208925819614629174706176%256:=by
 simp only [Z2l,Z0v]
 omega
theorem Z0rq {n x:Int} (h:n / 18446744073709551616%18446744073709551616=x):wrap .u8 (Zr .u64 (Zr .u64 (Zr .u64 (x) 8) 8) 8)=n / 309485009821345068724781056%256:=by
 simp only [Z2l,Z0v]
 omega
theorem Z0rr {n x:Int} (h:n / 18446744073709551616%18446744073709551616=x):wrap .u8 (Zr .u64 (Zr .u64 (Zr .u64 (Zr .u64 (x) 8) 8) 8) 8)=n / 79228162514264337593543950336%256:=by
 simp only [Z2l,Z0v]
 omega
theorem Z0rs {n x:Int} (h:n / 18446744073709551616%18446744073709551616=x):wrap .u8 (Zr .u64 (Zr .u64 (Zr .u64 (Zr .u64 (Zr .u64 (x) 8) 8) 8) 8) 8)=n / 20282409603651670423947251286016%256:=by
 simp only [Z2l,Z0v]
 omega
theorem Z0rt {n x:Int} (h:n / 18446744073709551616%18446744073709551616=x):wrap .u8 (Zr .u64 (Zr .u64 (Zr .u64 (Zr .u64 (Zr .u64 (Zr .u64 (x) 8) 8) 8) 8) 8) 8)=n / 5192296858534827628530496329220096%256:=by
 simp only [Z2l,Z0v]
 omega
theorem Z0ru {n x:Int} (h:n / 18446744073709551616%18446744073709551616=x):wrap .u8 (Zr .u64 (Zr .u64 (Zr .u64 (Zr .u64 (Zr .u64 (Zr .u64 (Zr .u64 (x) 8) 8) 8) 8) 8) 8) 8)=n / 1329227995784915872903807060280344576%256:=by
 simp only [Z2l,Z0v]
 omega
theorem Z0rv {n x:Int} (h:n / 340282366920938463463374607431768211456%18446744073709551616=x):wrap .u8 (x)=n / 340282366920938463463374607431768211456%256:=by
 simp only [Z2l,Z0v]
 omega
theorem Z0rw {n x:Int} (h:n / 340282366920938463463374607431768211456%18446744073709551616=x):wrap .u8 (Zr .u64 (x) 8)=n / 87112285931760246646623899502532662132736%256:=by
 simp only [Z2l,Z0v]
 omega
theorem Z0rx {n x:Int} (h:n / 340282366920938463463374607431768211456%18446744073709551616=x):wrap .u8 (Zr .u64 (Zr .u64 (x) 8) 8)=n / 22300745198530623141535718272648361505980416%256:=by
 simp only [Z2l,Z0v]
 omega
theorem Z0ry {n x:Int} (h:n / 340282366920938463463374607431768211456%18446744073709551616=x):wrap .u8 (Zr .u64 (Zr .u64 (Zr .u64 (x) 8) 8) 8)=n / 5708990770823839524233143877797980545530986496%256:=by
 simp only [Z2l,Z0v]
 omega
theorem Z0rz {n x:Int} (h:n / 340282366920938463463374607431768211456%18446744073709551616=x):wrap .u8 (Zr .u64 (Zr .u64 (Zr .u64 (Zr .u64 (x) 8) 8) 8) 8)=n / 1461501637330902918203684832716283019655932542976%256:=by
 simp only [Z2l,Z0v]
 omega
theorem Z0s0 {n x:Int} (h:n / 340282366920938463463374607431768211456%18446744073709551616=x):wrap .u8 (Zr .u64 (Zr .u64 (Zr .u64 (Zr .u64 (Zr .u64 (x) 8) 8) 8) 8) 8)=n / 374144419156711147060143317175368453031918731001856%256:=by
 simp only [Z2l,Z0v]
 omega
theorem Z0s1 {n x:Int} (h:n / 340282366920938463463374607431768211456%18446744073709551616=x):wrap .u8 (Zr .u64 (Zr .u64 (Zr .u64 (Zr .u64 (Zr .u64 (Zr .u64 (x) 8) 8) 8) 8) 8) 8)=n / 95780971304118053647396689196894323976171195136475136%256:=by
 simp only [Z2l,Z0v]
 omega
theorem Z0s2 {n x:Int} (h:n / 340282366920938463463374607431768211456%18446744073709551616=x):wrap .u8 (Zr .u64 (Zr .u64 (Zr .u64 (Zr .u64 (Zr .u64 (Zr .u64 (Zr .u64 (x) 8) 8) 8) 8) 8) 8) 8)=n / 24519928653854221733733552434404946937899825954937634816%256:=by
 simp only [Z2l,Z0v]
 omega
theorem Z0s3 {n x:Int} (h:n / 6277101735386680763835789423207666416102355444464034512896%18446744073709551616=x):wrap .u8 (x)=n / 6277101735386680763835789423207666416102355444464034512896%256:=by
 simp only [Z2l,Z0v]
 omega
theorem Z0s4 {n x:Int} (h:n / 6277101735386680763835789423207666416102355444464034512896%18446744073709551616=x):wrap .u8 (Zr .u64 (x) 8)=n / 1606938044258990275541962092341162602522202993782792835301376%256:=by
 simp only [Z2l,Z0v]
 omega
theorem Z0s5 {n x:Int} (h:n / 6277101735386680763835789423207666416102355444464034512896%18446744073709551616=x):wrap .u8 (Zr .u64 (Zr .u64 (x) 8) 8)=n / 411376139330301510538742295639337626245683966408394965837152256%256:=by
 simp only [Z2l,Z0v]
 omega
theorem Z0s6 {n x:Int} (h:n / 6277101735386680763835789423207666416102355444464034512896%18446744073709551616=x):wrap .u8 (Zr .u64 (Zr .u64 (Zr .u64 (x) 8) 8) 8)=n / 105312291668557186697918027683670432318895095400549111254310977536%256:=by
 simp only [Z2l,Z0v]
 omega
theorem Z0s7 {n x:Int} (h:n / 6277101735386680763835789423207666416102355444464034512896%18446744073709551616=x):wrap .u8 (Zr .u64 (Zr .u64 (Zr .u64 (Zr .u64 (x) 8) 8) 8) 8)=n / 26959946667150639794667015087019630673637144422540572481103610249216%256:=by
 simp only [Z2l,Z0v]
 omega
theorem Z0s8 {n x:Int} (h:n / 6277101735386680763835789423207666416102355444464034512896%18446744073709551616=x):wrap .u8 (Zr .u64 (Zr .u64 (Zr .u64 (Zr .u64 (Zr .u64 (x) 8) 8) 8) 8) 8)=n / 6901746346790563787434755862277025452451108972170386555162524223799296%256:=by
 simp only [Z2l,Z0v]
 omega
theorem Z0s9 {n x:Int} (h:n / 6277101735386680763835789423207666416102355444464034512896%18446744073709551616=x):wrap .u8 (Zr .u64 (Zr .u64 (Zr .u64 (Zr .u64 (Zr .u64 (Zr .u64 (x) 8) 8) 8) 8) 8) 8)=n / 1766847064778384329583297500742918515827483896875618958121606201292619776%256:=by
 simp only [Z2l,Z0v]
 omega
theorem Z0sa {n x:Int} (h:n / 6277101735386680763835789423207666416102355444464034512896%18446744073709551616=x):wrap .u8 (Zr .u64 (Zr .u64 (Zr .u64 (Zr .u64 (Zr .u64 (Zr .u64 (Zr .u64 (x) 8) 8) 8) 8) 8) 8) 8)=n / 452312848583266388373324160190187140051835877600158453279131187530910662656%256:=by
 simp only [Z2l,Z0v]
 omega
theorem Zr1 {p:LI} (h:W64 p):Z6j p=some (byt (V4 p)):=by
 obtain ⟨e0,e1,e2,e3⟩:=Z03e h
 rw [Zr0]
 unfold byt
 rw [sb_0 e0,sb_1 e0,sb_2 e0,sb_3 e0,sb_4 e0,sb_5 e0,sb_6 e0,sb_7 e0,sb_8 e1,sb_9 e1,Z0rp e1,Z0rq e1,Z0rr e1,Z0rs e1,Z0rt e1,Z0ru e1,Z0rv e2,Z0rw e2,Z0rx e2,Z0ry e2,Z0rz e2,Z0s0 e2,Z0s1 e2,Z0s2 e2,Z0s3 e3,Z0s4 e3,Z0s5 e3,Z0s6 e3,Z0s7 e3,Z0s8 e3,Z0s9 e3,Z0sa e3]
theorem Zp8 {n:Int} (h0:0<=n) (h1:n<115792089237316195423570985008687907853269984665640564039457584007913129639936):Z9h (byt n)=n:=by
 simp only [Z9h,byt,List.getD_cons_zero,List.getD_cons_succ]
 omega
theorem Z064 (r:LI):pV r 4=V4 r:=by
 simp only [pV,V4]
 have e1:(18446744073709551616:Int)^0=1:=by decide
 have e2:(18446744073709551616:Int)^1=18446744073709551616:=by decide
 have e3:(18446744073709551616:Int)^2=340282366920938463463374607431768211456:=by decide
 have e4:(18446744073709551616:Int)^3=6277101735386680763835789423207666416102355444464034512896:=by decide
 rw [e1,e2,e3,e4]
 omega
theorem Zmo {p:LI} (h:Byt p) : ∃ r,Z81 p=some r/\W64 r/\r.length=4/\pV r r.length=Z9h p:=by
 obtain ⟨r,e,w,l,v⟩:=Zta h
 refine ⟨r,?_,w,l,by rw [l,Z064,v]⟩
 rw [Z81,Z3 e,Zdp l]
theorem Zxl {p:LI} (h:Byt p) : ∃ r,Zcg p=some r/\W64 r/\V4 r=Z9h p%VL:=by
 obtain ⟨r,e,w,l,v⟩:=Zmo h
 obtain ⟨s,e2,w2,v2⟩:=Znm w (by omega)
 exact ⟨s,by rw [Zcg,Z3 e,Z3 e2],w2,by rw [v2,v]⟩
theorem Zpg (n:Int):0<=n%VL/\n%VL<VL:=⟨Int.emod_nonneg _ (by decide),Int.emod_lt_of_pos _ (by decide)⟩
theorem Z01q {p q:LI} (hp:Byt p) (hq:Byt q):Zeq p q=some (byt (Z9h p*Z9h q%VL)):=by
 obtain ⟨a,e1,w1,l1,v1⟩:=Zmo hp
 obtain ⟨b,e2,w2,l2,v2⟩:=Zmo hq
 obtain ⟨c,e3,l3,w3,v3⟩:=Zr6 w1 w2 (by omega)
 obtain ⟨d,e4,w4,v4⟩:=Znm w3 (by omega)
 rw [Zeq,Z3 e1,Z3 e2,Z3 e3,Z3 e4,Z3 (Zr1 w4),v4,v3,v1,v2]
theorem Z01p {p q:LI} (hp:Byt p) (hq:Byt q):Zep p q=some (byt ((Z9h p+Z9h q)%VL)):=by
 obtain ⟨a,e1,w1,v1⟩:=Zxl hp
 obtain ⟨b,e2,w2,v2⟩:=Zxl hq
 obtain ⟨c,o,e3,w3,ho,v3⟩:=Zig w1 w2
 obtain ⟨d,e4,w4,v4⟩:=Zoc w3
 have h1:=Zpg (Z9h p)
 have h2:=Zpg (Z9h q)
 have h3:=Ze3 w3
 have e:V4 c=Z9h p%VL+Z9h q%VL:=by
  rw [v1,v2] at v3
  unfold VL B4 at *
  rcases ho with h | h <;> subst h <;> omega
 rw [Zep,Z3 e1,Z3 e2,Z3 e3,Z3 e4,Z3 (Zr1 w4),v4,e,<- Int.add_emod]
theorem Zs9 {p q r:LI} (hp:Byt p) (hq:Byt q) (hr:Byt r):Za0 p q r=some (byt ((Z9h p*Z9h q+Z9h r)%VL)):=by
 have h:=Zpg (Z9h p*Z9h q)
 rw [Za0,Z3 (Z01q hp hq),Z3 (Z01p (Zoe _) hr),Zp8 h.1 (by unfold VL at h ⊢; omega),Int.emod_add_emod]
theorem Znr {p:LI} (h:Byt p):Z59 p=some (decide (Z9h p<VL)):=by
 obtain ⟨r,e,w,l,v⟩:=Zta h
 obtain ⟨a,c,e2,wa,hc,va⟩:=Zl8 w Ze4
 have ha:=Ze3 wa
 have hr:=Ze3 w
 rw [Zo4] at va
 rw [Z59,Z3 e,Z3 e2,<- v]
 rcases hc with h | h
 ·subst h
  rw [decide_eq_false (by omega)]; rfl
 ·subst h
  rw [decide_eq_true (by unfold B4 at *; omega)]; rfl
theorem Zz0 {α:Type} {o:Option α} (h:o.isSome=true) : ∃ r,o=some r:=by
 cases o with
 | none=>cases h
 | some r=>exact ⟨r,rfl⟩
theorem Zw8 (s h:LI):(Zdn s h).isSome=true:=by kernel_rfl
theorem Zmm (x:Int) : ∃ r,Z0s x=some r/\r.length=8:=by
 have:((Z0s x).map (·.length))=some 8:=by kernel_rfl
 cases h:Z0s x with
 | none=>rw [h] at this; cases this
 | some r=>exact ⟨r,rfl,by rw [h] at this; simpa using this⟩
theorem Zvs (z:Int) (m:Nat) : ∀ (l a h:LI) (c:Int),l.length<=m->0<=c->c<128->∀ n,∃ r,Z14 z (n+1+m) l a h c=some r/\r.glength=z/\0<=r.ghave/\r.ghave<128:=by
 induction m with
 | zero =>
  intro l a h c hl h0 h1 n
  refine ⟨⟨a,h,c,z⟩,?_,rfl,h0,h1⟩
  rw [Nat.add_zero,Z14,Z2h,Z1p (decide_eq_false (by omega))]
 | succ m ih =>
  intro l a h c hl h0 h1 n
  by_cases he:l.length=0
  ·refine ⟨⟨a,h,c,z⟩,?_,rfl,h0,h1⟩
   rw [<- Nat.add_assoc,Z14,Z2h,Z1p (decide_eq_false (by omega))]
  ·have hmin:0<Nat.min l.length (128-c.toNat)/\Nat.min l.length (128-c.toNat)<=l.length/\Nat.min l.length (128-c.toNat)<=128-c.toNat:=by
    refine ⟨?_,Nat.min_le_left _ _,Nat.min_le_right _ _⟩
    show 0<min l.length (128-c.toNat)
    omega
   have ew:wrap .i64 (c+((Nat.min l.length (128-c.toNat):Nat):Int))=c+((Nat.min l.length (128-c.toNat):Nat):Int):=Zp (by omega) (by omega)
   have hlen:(((l.drop (((Nat.min l.length (128-c.toNat):Nat):Int)).toNat).take (((l.length:Int)).toNat-(((Nat.min l.length (128-c.toNat):Nat):Int)).toNat))).length<=m:=by
    simp only [List.length_take,List.length_drop,Int.toNat_natCast]; omega
   rw [<- Nat.add_assoc,Z14,Z2h,Z2e (decide_eq_true (by omega)),Z0h (by unfold Zki; simp; omega),Zj,Z0h (by unfold Zki; simp only [Bool.and_eq_true,decide_eq_true_eq]; omega),Zj,ew]
   by_cases h128:c+((Nat.min l.length (128-c.toNat):Nat):Int)=128
   ·obtain ⟨b,eb⟩:=Zz0 (Zw8 a (wr h c.toNat (l.take (128-c.toNat))))
    rw [Z2e (by simpa using h128),Z3 eb]
    exact ih _ _ _ 0 hlen (by omega) (by omega) n
   ·rw [Z1p (by simpa using h128)]
    exact ih _ _ _ _ hlen (by omega) (by omega) n
theorem Zjo (d:Zw) (l:LI) (hl:l.length<18446744073709551615) (h0:0<=d.ghave) (h1:d.ghave<128) : ∃ r,Z1g d l=some r/\0<=r.ghave/\r.ghave<128/\r.glength=wrap .u64 (d.glength+wrap .u64 (l.length:Int)):=by
 obtain ⟨n,hn⟩ : ∃ n',big=n'+1+l.length:=⟨18446744073709551615-l.length,by have:big=18446744073709551616:=Z6d; omega⟩
 rw [Z1g,Zj,Zj,hn]
 obtain ⟨r,e,hz,hh⟩:=Zvs (wrap .u64 (d.glength+wrap .u64 (l.length:Int))) l.length l d.gstate d.gheld d.ghave (Nat.le_refl _) h0 h1 n
 exact ⟨r,e,hh.1,hh.2,hz⟩
theorem Zy4 (x:Int) : ∃ r,Zb0 x=some r/\r.length<=1000:=by
 have hz3:=Zzd (x+17)
 obtain ⟨y1,e1,l1⟩:=Zmm (Zr .u64 x 61)
 obtain ⟨y2,e2,l2⟩:=Zmm (Z02 .u64 x 3)
 generalize hz:wrap .u64 (x+17)=z3 at hz3
 have et:Int.tmod z3 128=z3%128:=Int.tmod_eq_emod_of_nonneg hz3.1
 have ew:wrap .i64 (z3%128)=z3%128:=Zp (by omega) (by omega)
 have ew2:wrap .i64 (128-z3%128)=128-z3%128:=Zp (by omega) (by omega)
 have et2:Int.tmod (128-z3%128) 128=(128-z3%128)%128:=Int.tmod_eq_emod_of_nonneg (by omega)
 simp only [Zb0,Zj,hz,et,ew,ew2,et2]
 have hr:0<=(128-z3%128)%128/\(128-z3%128)%128<128:=by omega
 generalize (128-z3%128)%128=w at hr
 have ew3:wrap .i64 (17+w)=17+w:=Zp (by omega) (by omega)
 simp only [ew3]
 refine ⟨(((List.replicate 0 0 ++ [128])++List.replicate w.toNat 0)++y1)++y2,?_,?_⟩
 ·rw [Z0h (by unfold mkB; simp only [Bool.and_eq_true,decide_eq_true_eq]; omega),Z0h (by simp),Z0h (by simp; omega),Z0h (by simp; omega),Z3 e1,Z0h (by simp [l1]; omega),Z3 e2,Z0h (by simp [l1,l2]; omega)]
 ·simp [l1,l2]; omega
theorem Z07o (y d:Zw):(Z2b y (fun a74=>some (a74,d)) big 0 (List.replicate 64 0)).isSome=true:=by kernel_rfl
theorem Z07p (d:Zw) (h0:0<=d.ghave) (h1:d.ghave<128) : ∃ r,Z2x d=some r:=by
 obtain ⟨p,e,hl⟩:=Zy4 d.glength
 obtain ⟨y,e2,_⟩:=Zjo d p (by omega) h0 h1
 obtain ⟨r,e3⟩:=Zz0 (Z07o y d)
 refine ⟨r,?_⟩
 rw [Z2x,Z4y,Z3 rfl]
 show opt (Zb0 d.glength) _=_
 rw [Z3 e]
 show opt (Z1g d p) _=_
 rw [Z3 e2,Z2a,e3]
theorem Zx7 {p:List (LI)} (hp : ∀ i,(p.getD i []).length<18446744073709551615) (hb:p.length<1000000) {k:LI->LI->Int->Int->Option (LI)} (hk : ∀ a b c d,0<=c->c<128->∃ r,k a b c d=some r/\Byt r/\r.length=32) (m:Nat) : ∀ (n i:Nat) (a b:LI) (c d:Int),i+m=p.length->0<=c->c<128 ->
  ∃ r,Z6l p k (n+1+m) (i:Int) a b c d=some r/\Byt r/\r.length=32:=by
 induction m with
 | zero =>
  intro n i a b c d hi h0 h1
  rw [Nat.add_zero,Z6l,Zbt,Z1p (decide_eq_false (by omega))]
  exact hk a b c d h0 h1
 | succ m ih =>
  intro n i a b c d hi h0 h1
  have e1:wrap .i64 ((i:Int)+1)=((i+1:Nat):Int):=by rw [Zp (by omega) (by omega)]; rfl
  obtain ⟨y,e,g0,g1,_⟩:=Zjo ⟨a,b,c,d⟩ (p.getD i []) (hp i) h0 h1
  rw [<- Nat.add_assoc,Z6l,Zbt,Z2e (decide_eq_true (by omega)),Z0h (Z3l (by omega) (by omega)),Int.toNat_natCast,Z3 e,Zj,e1]
  exact ih n (i+1) _ _ _ _ (by omega) g0 g1
theorem Zt5 {p:List (LI)} (hp : ∀ i,(p.getD i []).length<18446744073709551615) (hb:p.length<1000000) : ∃ r,Za5 p=some r/\Byt r/\r.length=32:=by
 obtain ⟨n,hn⟩ : ∃ n',big=n'+1+p.length:=⟨18446744073709551615-p.length,by have:big=18446744073709551616:=Z6d; omega⟩
 rw [Za5,Zci,Z3 rfl,Z2a,hn]
 refine Zx7 hp hb ?_ p.length n 0 _ _ _ _ (by omega) (by decide) (by decide)
 intro a b c d h0 h1
 obtain ⟨r,e⟩:=Z07p ⟨a,b,c,d⟩ h0 h1
 obtain ⟨s,e2,hs⟩:=Zui r.1
 refine ⟨s,?_,hs⟩
 rw [Z3 e,Z3 e2]
theorem Zz9 {p:LI} (h:Byt p) (o n:Nat):Byt (tk p o n):=by
 intro i
 rw [Zh5]
 split
 ·exact h _
 ·decide
end Go.Proofs.YteefpkhngighgaaGreatDoor
namespace Go.Proofs.YteefpkhngighgaaGreatDoor
open Go Go.Sx Go.RowKit
open List (replicate)
open Go.IntKind (wrap)
set_option linter.all false
set_option maxRecDepth 100000
noncomputable def Zpk:G:=⟨fi BX,fi BY,⟨by decide +kernel⟩⟩
theorem Zoy:Rep Zow Zpk:=by
 constructor
 ·show fi 1≠0; decide +kernel
 ·show fi BX=fi BX*fi 1; decide +kernel
 ·show fi BY=fi BY*fi 1; decide +kernel
 ·show fi (BX*BY)=fi BX*fi BY*fi 1; decide +kernel
def lby:LI:=[237,211,245,92,26,99,18,88,214,156,247,162,222,249,222,20,0,0,0,0,0,0,0,0,0,0,0,0,0,0,0,16]
theorem Z05j:Byt lby:=byt_of (by decide)
theorem Z05k:Z9h lby=VL:=by decide +kernel
theorem lq_x:((Znl lby Zow 64).x,(Znl lby Zow 64).y-(Znl lby Zow 64).z)=(0,0):=by kernel_rfl
theorem Z01l {q:Q4} {P:G} (h:Rep q P) (hx:q.x=0) (hy:q.y-q.z=0):P=Za8:=by
 have e1:=h.x
 have e2:=h.y
 have hz:=h.z
 rw [hx,fi_0] at e1
 have hy':q.y=q.z:=by omega
 rw [hy'] at e2
 generalize fi q.z=z at *
 refine Zug ?_ ?_
 ·have z1:Za8.x=0:=rfl
  rw [z1]
  exact (Zb5 (a:=P.x) (b:=z) e1.symm).resolve_right hz
 ·have z2:Za8.y=1:=rfl
  rw [z2]
  have e3:(P.y-1)*z=0:=by
   generalize P.y=y at *
   clear e1 hx hy h
   grind -lia -linarith (splits:=0)
  exact Zmn _ _ ((Zb5 e3).resolve_right hz)
def VLn:Nat:=7237005577332262213973186563042994240857116359379907606001950938285454250989
theorem Z08e:VL=(VLn:Int):=by decide
theorem Zv8:Zg0 VLn Zpk=Za8:=by
 have h:=Zoz lby Zoy 64
 have e:Zxr lby 64=VLn:=by rw [Zor Z05j,Z05k]; decide
 rw [e] at h
 have hq:=lq_x
 simp only [Prod.mk.injEq] at hq
 exact Z01l h hq.1 hq.2
theorem Z00x (n:Nat):Zg0 (n%VLn) Zpk=Zg0 n Zpk:=by
 have h:=Nat.div_add_mod n VLn
 generalize n / VLn=q at *
 generalize hr:n%VLn=r at *
 rw [<- h,Nat.mul_comm,Zhk,Zdk,Zv8,Zq7,Zmq]
theorem Zvi (h a r s:Nat) (hs:s=(h*a+r)%VLn):Zbw (Zg0 h (Zra (Zg0 a Zpk))) (Zg0 s Zpk)=Zg0 r Zpk:=by
 rw [hs,Z00x,Zhk,Zdk,<- Zah,<- Zq6,Z011,Zq7,Zmq]
def be8 (x:Int):LI:=[wrap .u8 (Zr .u64 (Zr .u64 (Zr .u64 (Zr .u64 (Zr .u64 (Zr .u64 (Zr .u64 x 8) 8) 8) 8) 8) 8) 8),wrap .u8 (Zr .u64 (Zr .u64 (Zr .u64 (Zr .u64 (Zr .u64 (Zr .u64 x 8) 8) 8) 8) 8) 8),wrap .u8 (Zr .u64 (Zr .u64 (Zr .u64 (Zr .u64 (Zr .u64 x 8) 8) 8) 8) 8),wrap .u8 (Zr .u64 (Zr .u64 (Zr .u64 (Zr .u64 x 8) 8) 8) 8),wrap .u8 (Zr .u64 (Zr .u64 (Zr .u64 x 8) 8) 8),wrap .u8 (Zr .u64 (Zr .u64 x 8) 8),wrap .u8 (Zr .u64 x 8),wrap .u8 x]
theorem Zkd (x:Int):Z0s x=some (be8 x):=by kernel_rfl
theorem Zw7 (x:Int) : ∀ y∈be8 x,0<=y/\y<256:=by
 unfold be8
 repeat' (first | exact List.forall_mem_nil _ | refine List.forall_mem_cons.2 ⟨Znz _,?_⟩)
def told (s:LI):LI:=be8 (s.getD 0 0)++(be8 (s.getD 1 0)++(be8 (s.getD 2 0)++(be8 (s.getD 3 0)++(be8 (s.getD 4 0)++(be8 (s.getD 5 0)++(be8 (s.getD 6 0)++be8 (s.getD 7 0)))))))
theorem Z01z (y d:Zw):Z2b y (fun a74=>some (a74,d)) big 0 (replicate 64 0)=some (told y.gstate,d):=by kernel_rfl
theorem Z025 (s:LI):Byt (told s):=by
 apply byt_of
 unfold told
 intro x hx
 simp only [List.mem_append] at hx
 rcases hx with h | h | h | h | h | h | h | h <;> exact Zw7 _ _ h
theorem Z07n (d:Zw) (h0:0<=d.ghave) (h1:d.ghave<128) : ∃ r,Z2x d=some r/\Byt r.1/\r.1.length=64:=by
 obtain ⟨p,e,hl⟩:=Zy4 d.glength
 obtain ⟨y,e2,_⟩:=Zjo d p (by omega) h0 h1
 refine ⟨(told y.gstate,d),?_,Z025 _,rfl⟩
 rw [Z2x,Z4y,Z3 rfl]
 show opt (Zb0 d.glength) _=_
 rw [Z3 e]
 show opt (Z1g d p) _=_
 rw [Z3 e2,Z2a,Z01z]
theorem Z03d {p:LI} (hp:p.length<18446744073709551615) : ∃ r,Zcj p=some r/\Byt r/\r.length=64:=by
 obtain ⟨y,e,h0,h1,_⟩:=Zjo ⟨G_first,replicate 128 0,0,0⟩ p hp (by decide) (by decide)
 obtain ⟨r,e2,hb,hl⟩:=Z07n y h0 h1
 refine ⟨r.1,?_,hb,hl⟩
 rw [Zcj,Zci,Z3 rfl]
 show opt (Z1g ⟨G_first,replicate 128 0,0,0⟩ p) _=_
 rw [Z3 e,Z3 e2]
theorem Zpm (o:BinOp) (x y:Int) (h:o = .and∨o = .or∨o = .andNot):0<=Z7 o .u8 x y/\Z7 o .u8 x y<256:=by
 rcases h with h | h | h <;> subst h
 ·show 0<=IntKind.u8.wrap _/\IntKind.u8.wrap _<_; exact Znz _
 ·show 0<=IntKind.u8.wrap _/\IntKind.u8.wrap _<_; exact Znz _
 ·show 0<=IntKind.u8.wrap _/\IntKind.u8.wrap _<_; exact Znz _
def Zsv (p:LI):LI:=Z3z (Z3z p 0 (Z7 .andNot .u8 (p.getD 0 0) 7)) 31 (Z7 .or .u8 (Z7 .and .u8 ((Z3z p 0 (Z7 .andNot .u8 (p.getD 0 0) 7)).getD 31 0) 127) 64)
theorem Z005 (p:LI):Zbr p=some (Zsv p):=by
 rw [Zbr]
 simp only [Zj]
 rfl
theorem Zwf {p:LI} (h:Byt p):Byt (Zsv p):=Zjh (Zjh h (Zpm _ _ _ (.inr (.inr rfl)))) (Zpm _ _ _ (.inr (.inl rfl)))
theorem Zuy (s:LI) : ∃ h,Zcj (tk s 0 32)=some h/\Byt h/\h.length=64/\Zb1 s=some (Zsv (tk h 0 32),tk h 32 32):=by
 obtain ⟨h,e,hb,hl⟩:=Z03d (p:=tk s 0 32) (by rw [Z0c]; decide)
 refine ⟨h,e,hb,hl,?_⟩
 have e2:tk (tk h 0 32) 0 32=tk h 0 32:=Zdp (Z0c _ _ _)
 rw [Zb1,Z3 e,Z0h (by rw [Z0c]; rfl),Zj,e2,Z3 (Z005 _)]
noncomputable def pB (a:LI):G:=Zg0 (Z9h a).toNat Zpk
theorem Zm1 {a:LI} (h:Byt a) : ∃ q,Z5e a=some (pt q)/\Rep q (pB a):=by
 refine ⟨_,Zv4 h,?_⟩
 have:=Zoz a Zoy 64
 rw [Zor h] at this
 exact this
theorem Zhe {q:Q4} {P:G} (h:Rep q P):Z5d (pt q)=some (Zhd P):=by rw [Zwt,Z04r h]
theorem Zof (P:G):Byt (Zhd P):=Z04q _ _
theorem Z4r (P:G):(Zhd P).length=32:=Zur _ _
theorem Zu9 (P:G):tk (Zhd P) 0 32=Zhd P:=Zdp (Z4r P)
theorem Z0ht {x y:LI} (hx:x.length=32) (hy:y.length=32):wr (wr (replicate 64 0) 0 (x.take 32)) 32 (y.take (64-32))=x++y:=by
 have h1:x.take 32=x:=List.take_of_length_le (by omega)
 have h2:y.take (64-32)=y:=List.take_of_length_le (by omega)
 rw [h1,h2]
 have h3:wr (replicate 64 0) 0 x=x++replicate 32 0:=by
  unfold wr
  rw [hx]
  rfl
 have h4:tk (x++replicate 32 0) 0 32=x:=by
  apply List.ext_getElem
  ·rw [Z0c,hx]
  ·intro i h1 h2
   simp only [tk,List.getElem_map,List.getElem_range,Nat.zero_add]
   rw [List.getD_eq_getElem?_getD,List.getElem?_append_left h2,List.getElem?_eq_getElem h2]
   rfl
 have h5:(x++replicate 32 (0:Int)).drop (32+32) = []:=List.drop_eq_nil_of_le (by simp [hx])
 rw [h3]
 unfold wr
 rw [h4,hy,h5,List.append_nil]
theorem Z07r {x y:LI} (hx:x.length=32):tk (x++y) 0 32=x:=by
 apply List.ext_getElem
 ·rw [Z0c,hx]
 ·intro i h1 h2
  simp only [tk,List.getElem_map,List.getElem_range,Nat.zero_add]
  rw [List.getD_eq_getElem?_getD,List.getElem?_append_left h2,List.getElem?_eq_getElem h2]
  rfl
theorem Z023 {x y:LI} (hx:x.length=32) (hy:y.length=32):tk (x++y) 32 32=y:=by
 apply List.ext_getElem
 ·rw [Z0c,hy]
 ·intro i h1 h2
  simp only [tk,List.getElem_map,List.getElem_range]
  rw [List.getD_eq_getElem?_getD,List.getElem?_append_right (by omega),show 32+i-x.length=i by omega,List.getElem?_eq_getElem h2]
  rfl
theorem Z0jy {a b m:LI} (ha:a.length=32) (hb:b.length=32) (hm:m.length<18446744073709551615) : ∀ i,(([a,b,m]:List (LI)).getD i []).length<18446744073709551615:=by
 intro i
 match i with
 | 0=>show a.length<_; omega
 | 1=>show b.length<_; omega
 | 2=>exact hm
 | i+3=>show ([]:LI).length<_; decide
theorem Z0jx {a m:LI} (ha:a.length=32) (hm:m.length<18446744073709551615) : ∀ i,(([a,m]:List (LI)).getD i []).length<18446744073709551615:=by
 intro i
 match i with
 | 0=>show a.length<_; omega
 | 1=>exact hm
 | i+2=>show ([]:LI).length<_; decide
structure Sgn (s m:LI) (a r k:LI):Prop where
 ba:Byt a
 br:Byt r
 bk:Byt k
 pub:Z5q s=some (Zhd (pB a))
 hash:Za5 [Zhd (pB r),Zhd (pB a),m]=some k
 sig:Za4 s m=some (Zhd (pB r)++byt ((Z9h k*Z9h a+Z9h r)%VL))
theorem Z07g (s:LI) {m:LI} (hm:m.length<18446744073709551615) : ∃ a r k,Sgn s m a r k:=by
 obtain ⟨h,e,hb,hl,eh⟩:=Zuy s
 have ba:=Zwf (Zz9 hb 0 32)
 obtain ⟨q,eq1,rq⟩:=Zm1 ba
 obtain ⟨r,er,br,lr⟩:=Zt5 (p:=[tk h 32 32,m]) (Z0jx (Z0c _ _ _) hm) (by simp)
 obtain ⟨q2,eq2,rq2⟩:=Zm1 br
 obtain ⟨k,ek,bk,lk⟩:=Zt5 (p:=[Zhd (pB r),Zhd (pB (Zsv (tk h 0 32))),m]) (Z0jy (Z4r _) (Z4r _) hm) (by simp)
 refine ⟨_,r,k,ba,br,bk,?_,ek,?_⟩
 ·rw [Z5q,Z3 eh,Z3 eq1,Z3 (Zhe rq)]
 ·rw [Za4,Z3 eh,Z3 eq1,Z3 (Zhe rq),Z3 er,Z3 eq2,Z3 (Zhe rq2),Z2a,Zu9,Zu9,Z3 ek]
  dsimp only
  rw [Z3 (Zs9 bk ba br),Zj,Zj,Zdp (Z4o _),Z0ht (Z4r _) (Z4o _)]
theorem Zvn {k m s h:LI} (hk:Byt k) (hs:Byt s) (hh:Za5 [tk s 0 32,tk k 0 32,m]=some h) (bh:Byt h) {A:G} (hA:dok k=true->Rep (dpt k) A) :
  Z1h k m s=some (dok k&&(decide (Z9h (tk s 32 32)<VL)&&decide (Zhd (Zbw (Zg0 (Z9h h).toNat (Zra A)) (pB (tk s 32 32)))=tk s 0 32))):=by
 have e0:tk (tk s 32 (64-32)) 0 32=tk s 32 32:=Zdp (Z0c _ _ _)
 have e00:tk (tk s 0 32) 0 32=tk s 0 32:=Zdp (Z0c _ _ _)
 have bt:=Zz9 hs 32 32
 rw [Z1h,Z3 (Zps hk),Z0h (by rw [Z0c]; rfl),Zj,e0,Znr bt,Z0h (by simp [imp])]
 cases hd:dok k
 ·rw [Z2e (by rfl)]; rfl
 ·have rA:=hA hd
  rw [if_pos rfl]
  by_cases hc:Z9h (tk s 32 32)<VL
  ·rw [Z1p (by simp [hc]),Z2a,Z3 hh]
   show opt (Zeb (pt (dpt k))) _=_
   have rc:=Zqk h (tk s 32 32) (Z07d rA) Zoy 64
   rw [Zor bh,Zor bt] at rc
   rw [Z3 (Z04e _),Z3 (Zun bh bt _),Z3 (Zhe rc),Z0h (by rw [Z0c]; rfl),Zj,e00]
   unfold ieq pB
   rw [Zu9,Zdp (Z0c _ _ _)]
   simp [hc]
  ·rw [Z2e (by simp [hc])]
   simp [hc]
theorem Z07i {a r k:LI} (ba:Byt a) (br:Byt r) (bk:Byt k):Zbw (Zg0 (Z9h k).toNat (Zra (pB a))) (pB (byt ((Z9h k*Z9h a+Z9h r)%VL)))=pB r:=by
 have h:=Zpg (Z9h k*Z9h a+Z9h r)
 unfold pB
 refine Zvi _ _ _ _ ?_
 rw [Zp8 h.1 (by unfold VL at h ⊢; omega),Z08e]
 have h1:=Zil ba
 have h2:=Zil br
 have h3:=Zil bk
 generalize Z9h a=x at *
 generalize Z9h r=y at *
 generalize Z9h k=z at *
 obtain ⟨x',rfl⟩:=Int.eq_ofNat_of_zero_le h1
 obtain ⟨y',rfl⟩:=Int.eq_ofNat_of_zero_le h2
 obtain ⟨z',rfl⟩:=Int.eq_ofNat_of_zero_le h3
 rfl
theorem Zyz {P:G} {n:Int}:Byt (Zhd P++byt n):=by
 intro i
 by_cases h:i<32
 ·have e:(Zhd P++byt n).getD i 0=(Zhd P).getD i 0:=by
   simp [List.getD_eq_getElem?_getD,List.getElem?_append_left (show i<(Zhd P).length by rw [Z4r]; exact h)]
  rw [e]; exact Zof P i
 ·have e:(Zhd P++byt n).getD i 0=(byt n).getD (i-32) 0:=by
   simp only [List.getD_eq_getElem?_getD]
   rw [List.getElem?_append_right (by rw [Z4r]; omega),Z4r]
  rw [e]; exact Zoe n _
theorem Zqs {s m a r k:LI} (h:Sgn s m a r k):Z1h (Zhd (pB a)) m (Zhd (pB r)++byt ((Z9h k*Z9h a+Z9h r)%VL))=some true:=by
 have hv:=Zpg (Z9h k*Z9h a+Z9h r)
 have e1:tk (Zhd (pB r)++byt ((Z9h k*Z9h a+Z9h r)%VL)) 0 32=Zhd (pB r):=Z07r (Z4r _)
 have e2:tk (Zhd (pB r)++byt ((Z9h k*Z9h a+Z9h r)%VL)) 32 32=byt ((Z9h k*Z9h a+Z9h r)%VL):=Z023 (Z4r _) (Z4o _)
 rw [Zvn (Zof _) Zyz (h:=k) (by rw [e1,Zu9]; exact h.hash) h.bk (fun _=>(Zwl (pB a)).2)]
 rw [e1,e2,(Zwl _).1,Z07i h.ba h.br h.bk,Zp8 hv.1 (by unfold VL at hv ⊢; omega)]
 simp [hv.2]
end Go.Proofs.YteefpkhngighgaaGreatDoor
namespace Go.Proofs.YteefpkhngighgaaGreatDoor
open Go Go.Sx Go.RowKit
set_option linter.all false
set_option maxRecDepth 100000
end Go.Proofs.YteefpkhngighgaaGreatDoor
