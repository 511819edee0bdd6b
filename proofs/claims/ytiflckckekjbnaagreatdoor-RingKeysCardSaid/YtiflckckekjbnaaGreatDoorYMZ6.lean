/- Texts of a proof, one behind the other: F6 C1 C2 C3 G1 G2 V1 N1 N2 N3 N7 N8 N9 N10 N11 N12 H1 H2 R1 R2 V2 V3 HB R3 G3 H3 R4 R5 R6 R7 R8. -/
import Derived.Test.YtiflckckekjbnaaGreatDoorYMZ5
import Derived.KernelRfl
namespace Go.Proofs.YtiflckckekjbnaaGreatDoor
open Go Go.Sx Go.RowKit
open Go.IntKind (wrap)
set_option linter.all false
set_option maxRecDepth 100000
set_option maxHeartbeats 1000000
theorem Z1d (k:Nat) {x y a:Int} (hx:x=a*((2^k:Nat):Int)) (ha:0<=a) (h0:0<=y) (hy:y<((2^k:Nat):Int)) (h1:y+x<18446744073709551616):Za .or .u64 y x=y+x:=by
 have hp:(0:Int)<=((2^k:Nat):Int):=Int.natCast_nonneg _
 have hx0:0<=x:=by rw [hx]; exact Int.mul_nonneg ha hp
 have:=Zr3 k hx ha h0 hy (by omega)
 rw [or64 y.toNat x.toNat (by omega) (by omega) (by omega) (by omega)]
 rw [or64 x.toNat y.toNat (by omega) (by omega) (by omega) (by omega)] at this
 rw [Nat.or_comm,this,Int.add_comm]
def byt (n:Int):LI:=[n%256,n / 256%256,n / 65536%256,n / 16777216%256,n / 4294967296%256,n / 1099511627776%256,n / 281474976710656%256,n / 72057594037927936%256,n / 18446744073709551616%256,n / 4722366482869645213696%256,n / 1208925819614629174706176%256,n / 309485009821345068724781056%256,n / 79228162514264337593543950336%256,n / 20282409603651670423947251286016%256,n / 5192296858534827628530496329220096%256,n / 1329227995784915872903807060280344576%256,n / 340282366920938463463374607431768211456%256,n / 87112285931760246646623899502532662132736%256,n / 22300745198530623141535718272648361505980416%256,n / 5708990770823839524233143877797980545530986496%256,n / 1461501637330902918203684832716283019655932542976%256,n / 374144419156711147060143317175368453031918731001856%256,n / 95780971304118053647396689196894323976171195136475136%256,n / 24519928653854221733733552434404946937899825954937634816%256,n / 6277101735386680763835789423207666416102355444464034512896%256,n / 1606938044258990275541962092341162602522202993782792835301376%256,n / 411376139330301510538742295639337626245683966408394965837152256%256,n / 105312291668557186697918027683670432318895095400549111254310977536%256,n / 26959946667150639794667015087019630673637144422540572481103610249216%256,n / 6901746346790563787434755862277025452451108972170386555162524223799296%256,n / 1766847064778384329583297500742918515827483896875618958121606201292619776%256,n / 452312848583266388373324160190187140051835877600158453279131187530910662656%256]
theorem Ztl (k:LI->Option (LI)) (y0 y1 y2 y3 y4:Int):Z5s [y0,y1,y2,y3,y4] k big 0 (List.replicate 32 0)=k [wrap .u8 (Z0f .u64 y0 0),wrap .u8 (Z0f .u64 y0 8),wrap .u8 (Z0f .u64 y0 16),wrap .u8 (Z0f .u64 y0 24),wrap .u8 (Z0f .u64 y0 32),wrap .u8 (Z0f .u64 y0 40),wrap .u8 (Za .or .u64 (Z0f .u64 y0 48) (Z1v .u64 y1 3)),wrap .u8 (Z0f .u64 y1 5),wrap .u8 (Z0f .u64 y1 13),wrap .u8 (Z0f .u64 y1 21),wrap .u8 (Z0f .u64 y1 29),wrap .u8 (Z0f .u64 y1 37),wrap .u8 (Za .or .u64 (Z0f .u64 y1 45) (Z1v .u64 y2 6)),wrap .u8 (Z0f .u64 y2 2),wrap .u8 (Z0f .u64 y2 10),wrap .u8 (Z0f .u64 y2 18),wrap .u8 (Z0f .u64 y2 26),wrap .u8 (Z0f .u64 y2 34),wrap .u8 (Z0f .u64 y2 42),wrap .u8 (Za .or .u64 (Z0f .u64 y2 50) (Z1v .u64 y3 1)),wrap .u8 (Z0f .u64 y3 7),wrap .u8 (Z0f .u64 y3 15),wrap .u8 (Z0f .u64 y3 23),wrap .u8 (Z0f .u64 y3 31),wrap .u8 (Z0f .u64 y3 39),wrap .u8 (Za .or .u64 (Z0f .u64 y3 47) (Z1v .u64 y4 4)),wrap .u8 (Z0f .u64 y4 4),wrap .u8 (Z0f .u64 y4 12),wrap .u8 (Z0f .u64 y4 20),wrap .u8 (Z0f .u64 y4 28),wrap .u8 (Z0f .u64 y4 36),wrap .u8 (Z0f .u64 y4 44)]:=by kernel_rfl
theorem Z29 (x:Int) (n:Nat) (h:n<=64):Z0f .u64 x (n:Int)=x / ((2^n:Nat):Int):=Z9r .u64 h
theorem Z04b {n:Int} (h0:0<=n):wrap .u8 (Z0f .u64 (n%2251799813685248) 0)=n%256:=by
 have:=Z29 (n%2251799813685248) 0 (by decide)
 rw [show ((2^0:Nat):Int)=1 from rfl] at this
 refine (congrArg _ this).trans ?_
 rw [Z2c]
 omega
theorem Z04c {n:Int} (h0:0<=n):wrap .u8 (Z0f .u64 (n%2251799813685248) 8)=n / 256%256:=by
 have:=Z29 (n%2251799813685248) 8 (by decide)
 rw [show ((2^8:Nat):Int)=256 from rfl] at this
 refine (congrArg _ this).trans ?_
 rw [Z2c]
 omega
theorem Z04d {n:Int} (h0:0<=n):wrap .u8 (Z0f .u64 (n%2251799813685248) 16)=n / 65536%256:=by
 have:=Z29 (n%2251799813685248) 16 (by decide)
 rw [show ((2^16:Nat):Int)=65536 from rfl] at this
 refine (congrArg _ this).trans ?_
 rw [Z2c]
 omega
theorem Z04e {n:Int} (h0:0<=n):wrap .u8 (Z0f .u64 (n%2251799813685248) 24)=n / 16777216%256:=by
 have:=Z29 (n%2251799813685248) 24 (by decide)
 rw [show ((2^24:Nat):Int)=16777216 from rfl] at this
 refine (congrArg _ this).trans ?_
 rw [Z2c]
 omega
theorem Z04f {n:Int} (h0:0<=n):wrap .u8 (Z0f .u64 (n%2251799813685248) 32)=n / 4294967296%256:=by
 have:=Z29 (n%2251799813685248) 32 (by decide)
 rw [show ((2^32:Nat):Int)=4294967296 from rfl] at this
 refine (congrArg _ this).trans ?_
 rw [Z2c]
 omega
theorem Z04g {n:Int} (h0:0<=n):wrap .u8 (Z0f .u64 (n%2251799813685248) 40)=n / 1099511627776%256:=by
 have:=Z29 (n%2251799813685248) 40 (by decide)
 rw [show ((2^40:Nat):Int)=1099511627776 from rfl] at this
 refine (congrArg _ this).trans ?_
 rw [Z2c]
 omega
theorem Z04h {n:Int} (h0:0<=n):wrap .u8 (Za .or .u64 (Z0f .u64 (n%2251799813685248) 48) (Z1v .u64 (n / 2251799813685248%2251799813685248) 3))=n / 281474976710656%256:=by
 have e1:Z0f .u64 (n%2251799813685248) 48=n / 281474976710656%8:=by
  have:=Z29 (n%2251799813685248) 48 (by decide)
  rw [show ((2^48:Nat):Int)=281474976710656 from rfl] at this
  refine this.trans ?_
  omega
 have e2:Z1v .u64 (n / 2251799813685248%2251799813685248) 3=(n / 2251799813685248%2251799813685248)*8:=by
  have:=Zfg .u64 (x:=n / 2251799813685248%2251799813685248) (n:=3) (by decide)
  rw [show ((2^3:Nat):Int)=8 from rfl] at this
  refine this.trans (Zb (by omega) (by omega))
 rw [e1,e2,Z1d 3 (x:=(n / 2251799813685248%2251799813685248)*8) (y:=n / 281474976710656%8) (a:=n / 2251799813685248%2251799813685248) rfl (by omega) (by omega) (by show _<(8:Int); omega) (by omega),Z2c]
 omega
theorem Z04i {n:Int} (h0:0<=n):wrap .u8 (Z0f .u64 (n / 2251799813685248%2251799813685248) 5)=n / 72057594037927936%256:=by
 have:=Z29 (n / 2251799813685248%2251799813685248) 5 (by decide)
 rw [show ((2^5:Nat):Int)=32 from rfl] at this
 refine (congrArg _ this).trans ?_
 rw [Z2c]
 omega
theorem Z04j {n:Int} (h0:0<=n):wrap .u8 (Z0f .u64 (n / 2251799813685248%2251799813685248) 13)=n / 18446744073709551616%256:=by
 have:=Z29 (n / 2251799813685248%2251799813685248) 13 (by decide)
 rw [show ((2^13:Nat):Int)=8192 from rfl] at this
 refine (congrArg _ this).trans ?_
 rw [Z2c]
 omega
theorem Z04k {n:Int} (h0:0<=n):wrap .u8 (Z0f .u64 (n / 2251799813685248%2251799813685248) 21)=n / 4722366482869645213696%256:=by
 have:=Z29 (n / 2251799813685248%2251799813685248) 21 (by decide)
 rw [show ((2^21:Nat):Int)=2097152 from rfl] at this
 refine (congrArg _ this).trans ?_
 rw [Z2c]
 omega
theorem Z00l {n:Int} (h0:0<=n):wrap .u8 (Z0f .u64 (n / 2251799813685248%2251799813685248) 29)=n / 1208925819614629174706176%256:=by
 have:=Z29 (n / 2251799813685248%2251799813685248) 29 (by decide)
 rw [show ((2^29:Nat):Int)=536870912 from rfl] at this
 refine (congrArg _ this).trans ?_
 rw [Z2c]
 omega
theorem Z00m {n:Int} (h0:0<=n):wrap .u8 (Z0f .u64 (n / 2251799813685248%2251799813685248) 37)=n / 309485009821345068724781056%256:=by
 have:=Z29 (n / 2251799813685248%2251799813685248) 37 (by decide)
 rw [show ((2^37:Nat):Int)=137438953472 from rfl] at this
 refine (congrArg _ this).trans ?_
 rw [Z2c]
 omega
theorem Z00n {n:Int} (h0:0<=n):wrap .u8 (Za .or .u64 (Z0f .u64 (n / 2251799813685248%2251799813685248) 45) (Z1v .u64 (n / 5070602400912917605986812821504%2251799813685248) 6))=n / 79228162514264337593543950336%256:=by
 have e1:Z0f .u64 (n / 2251799813685248%2251799813685248) 45=n / 79228162514264337593543950336%64:=by
  have:=Z29 (n / 2251799813685248%2251799813685248) 45 (by decide)
  rw [show ((2^45:Nat):Int)=35184372088832 from rfl] at this
  refine this.trans ?_
  omega
 have e2:Z1v .u64 (n / 5070602400912917605986812821504%2251799813685248) 6=(n / 5070602400912917605986812821504%2251799813685248)*64:=by
  have:=Zfg .u64 (x:=n / 5070602400912917605986812821504%2251799813685248) (n:=6) (by decide)
  rw [show ((2^6:Nat):Int)=64 from rfl] at this
  refine this.trans (Zb (by omega) (by omega))
 rw [e1,e2,Z1d 6 (x:=(n / 5070602400912917605986812821504%2251799813685248)*64) (y:=n / 79228162514264337593543950336%64) (a:=n / 5070602400912917605986812821504%2251799813685248) rfl (by omega) (by omega) (by show _<(64:Int); omega) (by omega),Z2c]
 omega
theorem Z00o {n:Int} (h0:0<=n):wrap .u8 (Z0f .u64 (n / 5070602400912917605986812821504%2251799813685248) 2)=n / 20282409603651670423947251286016%256:=by
 have:=Z29 (n / 5070602400912917605986812821504%2251799813685248) 2 (by decide)
 rw [show ((2^2:Nat):Int)=4 from rfl] at this
 refine (congrArg _ this).trans ?_
 rw [Z2c]
 omega
theorem Z00p {n:Int} (h0:0<=n):wrap .u8 (Z0f .u64 (n / 5070602400912917605986812821504%2251799813685248) 10)=n / 5192296858534827628530496329220096%256:=by
 have:=Z29 (n / 5070602400912917605986812821504%2251799813685248) 10 (by decide)
 rw [show ((2^10:Nat):Int)=1024 from rfl] at this
 refine (congrArg _ this).trans ?_
 rw [Z2c]
 omega
theorem Z00q {n:Int} (h0:0<=n):wrap .u8 (Z0f .u64 (n / 5070602400912917605986812821504%2251799813685248) 18)=n / 1329227995784915872903807060280344576%256:=by
 have:=Z29 (n / 5070602400912917605986812821504%2251799813685248) 18 (by decide)
 rw [show ((2^18:Nat):Int)=262144 from rfl] at this
 refine (congrArg _ this).trans ?_
 rw [Z2c]
 omega
theorem Z00r {n:Int} (h0:0<=n):wrap .u8 (Z0f .u64 (n / 5070602400912917605986812821504%2251799813685248) 26)=n / 340282366920938463463374607431768211456%256:=by
 have:=Z29 (n / 5070602400912917605986812821504%2251799813685248) 26 (by decide)
 rw [show ((2^26:Nat):Int)=67108864 from rfl] at this
 refine (congrArg _ this).trans ?_
 rw [Z2c]
 omega
theorem Z00s {n:Int} (h0:0<=n):wrap .u8 (Z0f .u64 (n / 5070602400912917605986812821504%2251799813685248) 34)=n / 87112285931760246646623899502532662132736%256:=by
 have:=Z29 (n / 5070602400912917605986812821504%2251799813685248) 34 (by decide)
 rw [show ((2^34:Nat):Int)=17179869184 from rfl] at this
 refine (congrArg _ this).trans ?_
 rw [Z2c]
 omega
theorem Z00t {n:Int} (h0:0<=n):wrap .u8 (Z0f .u64 (n / 5070602400912917605986812821504%2251799813685248) 42)=n / 22300745198530623141535718272648361505980416%256:=by
 have:=Z29 (n / 5070602400912917605986812821504%2251799813685248) 42 (by decide)
 rw [show ((2^42:Nat):Int)=4398046511104 from rfl] at this
 refine (congrArg _ this).trans ?_
 rw [Z2c]
 omega
theorem Z00u {n:Int} (h0:0<=n):wrap .u8 (Za .or .u64 (Z0f .u64 (n / 5070602400912917605986812821504%2251799813685248) 50) (Z1v .u64 (n / 11417981541647679048466287755595961091061972992%2251799813685248) 1))=n / 5708990770823839524233143877797980545530986496%256:=by
 have e1:Z0f .u64 (n / 5070602400912917605986812821504%2251799813685248) 50=n / 5708990770823839524233143877797980545530986496%2:=by
  have:=Z29 (n / 5070602400912917605986812821504%2251799813685248) 50 (by decide)
  rw [show ((2^50:Nat):Int)=1125899906842624 from rfl] at this
  refine this.trans ?_
  omega
 have e2:Z1v .u64 (n / 11417981541647679048466287755595961091061972992%2251799813685248) 1=(n / 11417981541647679048466287755595961091061972992%2251799813685248)*2:=by
  have:=Zfg .u64 (x:=n / 11417981541647679048466287755595961091061972992%2251799813685248) (n:=1) (by decide)
  rw [show ((2^1:Nat):Int)=2 from rfl] at this
  refine this.trans (Zb (by omega) (by omega))
 rw [e1,e2,Z1d 1 (x:=(n / 11417981541647679048466287755595961091061972992%2251799813685248)*2) (y:=n / 5708990770823839524233143877797980545530986496%2) (a:=n / 11417981541647679048466287755595961091061972992%2251799813685248) rfl (by omega) (by omega) (by show _<(2:Int); omega) (by omega),Z2c]
 omega
theorem Z00v {n:Int} (h0:0<=n):wrap .u8 (Z0f .u64 (n / 11417981541647679048466287755595961091061972992%2251799813685248) 7)=n / 1461501637330902918203684832716283019655932542976%256:=by
 have:=Z29 (n / 11417981541647679048466287755595961091061972992%2251799813685248) 7 (by decide)
 rw [show ((2^7:Nat):Int)=128 from rfl] at this
 refine (congrArg _ this).trans ?_
 rw [Z2c]
 omega
theorem Z00w {n:Int} (h0:0<=n):wrap .u8 (Z0f .u64 (n / 11417981541647679048466287755595961091061972992%2251799813685248) 15)=n / 374144419156711147060143317175368453031918731001856%256:=by
 have:=Z29 (n / 11417981541647679048466287755595961091061972992%2251799813685248) 15 (by decide)
 rw [show ((2^15:Nat):Int)=32768 from rfl] at this
 refine (congrArg _ this).trans ?_
 rw [Z2c]
 omega
theorem Z00x {n:Int} (h0:0<=n):wrap .u8 (Z0f .u64 (n / 11417981541647679048466287755595961091061972992%2251799813685248) 23)=n / 95780971304118053647396689196894323976171195136475136%256:=by
 have:=Z29 (n / 11417981541647679048466287755595961091061972992%2251799813685248) 23 (by decide)
 rw [show ((2^23:Nat):Int)=8388608 from rfl] at this
 refine (congrArg _ this).trans ?_
 rw [Z2c]
 omega
theorem Z00y {n:Int} (h0:0<=n):wrap .u8 (Z0f .u64 (n / 11417981541647679048466287755595961091061972992%2251799813685248) 31)=n / 24519928653854221733733552434404946937899825954937634816%256:=by
 have:=Z29 (n / 11417981541647679048466287755595961091061972992%2251799813685248) 31 (by decide)
 rw [show ((2^31:Nat):Int)=2147483648 from rfl] at this
 refine (congrArg _ this).trans ?_
 rw [Z2c]
 omega
theorem Z00z {n:Int} (h0:0<=n):wrap .u8 (Z0f .u64 (n / 11417981541647679048466287755595961091061972992%2251799813685248) 39)=n / 6277101735386680763835789423207666416102355444464034512896%256:=by
 have:=Z29 (n / 11417981541647679048466287755595961091061972992%2251799813685248) 39 (by decide)
 rw [show ((2^39:Nat):Int)=549755813888 from rfl] at this
 refine (congrArg _ this).trans ?_
 rw [Z2c]
 omega
theorem Z010 {n:Int} (h0:0<=n):wrap .u8 (Za .or .u64 (Z0f .u64 (n / 11417981541647679048466287755595961091061972992%2251799813685248) 47) (Z1v .u64 (n / 25711008708143844408671393477458601640355247900524685364822016%2251799813685248) 4))=n / 1606938044258990275541962092341162602522202993782792835301376%256:=by
 have e1:Z0f .u64 (n / 11417981541647679048466287755595961091061972992%2251799813685248) 47=n / 1606938044258990275541962092341162602522202993782792835301376%16:=by
  have:=Z29 (n / 11417981541647679048466287755595961091061972992%2251799813685248) 47 (by decide)
  rw [show ((2^47:Nat):Int)=140737488355328 from rfl] at this
  refine this.trans ?_
  omega
 have e2:Z1v .u64 (n / 25711008708143844408671393477458601640355247900524685364822016%2251799813685248) 4=(n / 25711008708143844408671393477458601640355247900524685364822016%2251799813685248)*16:=by
  have:=Zfg .u64 (x:=n / 25711008708143844408671393477458601640355247900524685364822016%2251799813685248) (n:=4) (by decide)
  rw [show ((2^4:Nat):Int)=16 from rfl] at this
  refine this.trans (Zb (by omega) (by omega))
 rw [e1,e2,Z1d 4 (x:=(n / 25711008708143844408671393477458601640355247900524685364822016%2251799813685248)*16) (y:=n / 1606938044258990275541962092341162602522202993782792835301376%16) (a:=n / 25711008708143844408671393477458601640355247900524685364822016%2251799813685248) rfl (by omega) (by omega) (by show _<(16:Int); omega) (by omega),Z2c]
 omega
theorem Z011 {n:Int} (h0:0<=n) (h1:n<57896044618658097711785492504343953926634992332820282019728792003956564819949):wrap .u8 (Z0f .u64 (n / 25711008708143844408671393477458601640355247900524685364822016%2251799813685248) 4)=n / 411376139330301510538742295639337626245683966408394965837152256%256:=by
 have:=Z29 (n / 25711008708143844408671393477458601640355247900524685364822016%2251799813685248) 4 (by decide)
 rw [show ((2^4:Nat):Int)=16 from rfl] at this
 refine (congrArg _ this).trans ?_
 rw [Z2c]
 omega
theorem Z012 {n:Int} (h0:0<=n) (h1:n<57896044618658097711785492504343953926634992332820282019728792003956564819949):wrap .u8 (Z0f .u64 (n / 25711008708143844408671393477458601640355247900524685364822016%2251799813685248) 12)=n / 105312291668557186697918027683670432318895095400549111254310977536%256:=by
 have:=Z29 (n / 25711008708143844408671393477458601640355247900524685364822016%2251799813685248) 12 (by decide)
 rw [show ((2^12:Nat):Int)=4096 from rfl] at this
 refine (congrArg _ this).trans ?_
 rw [Z2c]
 omega
theorem Z013 {n:Int} (h0:0<=n) (h1:n<57896044618658097711785492504343953926634992332820282019728792003956564819949):wrap .u8 (Z0f .u64 (n / 25711008708143844408671393477458601640355247900524685364822016%2251799813685248) 20)=n / 26959946667150639794667015087019630673637144422540572481103610249216%256:=by
 have:=Z29 (n / 25711008708143844408671393477458601640355247900524685364822016%2251799813685248) 20 (by decide)
 rw [show ((2^20:Nat):Int)=1048576 from rfl] at this
 refine (congrArg _ this).trans ?_
 rw [Z2c]
 omega
theorem Z014 {n:Int} (h0:0<=n) (h1:n<57896044618658097711785492504343953926634992332820282019728792003956564819949):wrap .u8 (Z0f .u64 (n / 25711008708143844408671393477458601640355247900524685364822016%2251799813685248) 28)=n / 6901746346790563787434755862277025452451108972170386555162524223799296%256:=by
 have:=Z29 (n / 25711008708143844408671393477458601640355247900524685364822016%2251799813685248) 28 (by decide)
 rw [show ((2^28:Nat):Int)=268435456 from rfl] at this
 refine (congrArg _ this).trans ?_
 rw [Z2c]
 omega
theorem Z015 {n:Int} (h0:0<=n) (h1:n<57896044618658097711785492504343953926634992332820282019728792003956564819949):wrap .u8 (Z0f .u64 (n / 25711008708143844408671393477458601640355247900524685364822016%2251799813685248) 36)=n / 1766847064778384329583297500742918515827483896875618958121606201292619776%256:=by
 have:=Z29 (n / 25711008708143844408671393477458601640355247900524685364822016%2251799813685248) 36 (by decide)
 rw [show ((2^36:Nat):Int)=68719476736 from rfl] at this
 refine (congrArg _ this).trans ?_
 rw [Z2c]
 omega
theorem Z016 {n:Int} (h0:0<=n) (h1:n<57896044618658097711785492504343953926634992332820282019728792003956564819949):wrap .u8 (Z0f .u64 (n / 25711008708143844408671393477458601640355247900524685364822016%2251799813685248) 44)=n / 452312848583266388373324160190187140051835877600158453279131187530910662656%256:=by
 have:=Z29 (n / 25711008708143844408671393477458601640355247900524685364822016%2251799813685248) 44 (by decide)
 rw [show ((2^44:Nat):Int)=17592186044416 from rfl] at this
 refine (congrArg _ this).trans ?_
 rw [Z2c]
 omega
theorem Zx4 {x:LI} (hx:U5 x):Za9 x=some (byt (Z7b x%PP)):=by
 rw [Za9,Z3 (Z9i hx),Z19]
 have h0:0<=Z7b x%PP:=Int.emod_nonneg _ (by decide)
 have h1:Z7b x%PP<PP:=Int.emod_lt_of_pos _ Zl5
 unfold Zkr
 generalize Z7b x%PP=n at *
 have e:Zj5 n = [n%2251799813685248,n / 2251799813685248%2251799813685248,n / 5070602400912917605986812821504%2251799813685248,n / 11417981541647679048466287755595961091061972992%2251799813685248,n / 25711008708143844408671393477458601640355247900524685364822016%2251799813685248]:=rfl
 rw [e,Ztl,Z04b h0,Z04c h0,Z04d h0,Z04e h0,Z04f h0,Z04g h0,Z04h h0,Z04i h0,Z04j h0,Z04k h0,Z00l h0,Z00m h0,Z00n h0,Z00o h0,Z00p h0,Z00q h0,Z00r h0,Z00s h0,Z00t h0,Z00u h0,Z00v h0,Z00w h0,Z00x h0,Z00y h0,Z00z h0,Z010 h0,Z011 h0 h1,Z012 h0 h1,Z013 h0 h1,Z014 h0 h1,Z015 h0 h1,Z016 h0 h1]
 rfl
theorem Z04t (k:LI->Option (LI)) (x:LI):Z3k x k big 0 (List.replicate 5 0)=k [Za .or .u64 (Za .or .u64 (Za .or .u64 (Za .or .u64 (Za .or .u64 (Za .or .u64 (Za .or .u64 (0) (Za .and .u64 (Z1v .u64 (wrap .u64 (x.getD 0 0)) 0) 2251799813685247)) (Za .and .u64 (Z1v .u64 (wrap .u64 (x.getD 1 0)) 8) 2251799813685247)) (Za .and .u64 (Z1v .u64 (wrap .u64 (x.getD 2 0)) 16) 2251799813685247)) (Za .and .u64 (Z1v .u64 (wrap .u64 (x.getD 3 0)) 24) 2251799813685247)) (Za .and .u64 (Z1v .u64 (wrap .u64 (x.getD 4 0)) 32) 2251799813685247)) (Za .and .u64 (Z1v .u64 (wrap .u64 (x.getD 5 0)) 40) 2251799813685247)) (Za .and .u64 (Z1v .u64 (wrap .u64 (x.getD 6 0)) 48) 2251799813685247),
 Za .or .u64 (Za .or .u64 (Za .or .u64 (Za .or .u64 (Za .or .u64 (Za .or .u64 (Za .or .u64 (0) (Z0f .u64 (wrap .u64 (x.getD 6 0)) 3)) (Za .and .u64 (Z1v .u64 (wrap .u64 (x.getD 7 0)) 5) 2251799813685247)) (Za .and .u64 (Z1v .u64 (wrap .u64 (x.getD 8 0)) 13) 2251799813685247)) (Za .and .u64 (Z1v .u64 (wrap .u64 (x.getD 9 0)) 21) 2251799813685247)) (Za .and .u64 (Z1v .u64 (wrap .u64 (x.getD 10 0)) 29) 2251799813685247)) (Za .and .u64 (Z1v .u64 (wrap .u64 (x.getD 11 0)) 37) 2251799813685247)) (Za .and .u64 (Z1v .u64 (wrap .u64 (x.getD 12 0)) 45) 2251799813685247),
 Za .or .u64 (Za .or .u64 (Za .or .u64 (Za .or .u64 (Za .or .u64 (Za .or .u64 (Za .or .u64 (Za .or .u64 (0) (Z0f .u64 (wrap .u64 (x.getD 12 0)) 6)) (Za .and .u64 (Z1v .u64 (wrap .u64 (x.getD 13 0)) 2) 2251799813685247)) (Za .and .u64 (Z1v .u64 (wrap .u64 (x.getD 14 0)) 10) 2251799813685247)) (Za .and .u64 (Z1v .u64 (wrap .u64 (x.getD 15 0)) 18) 2251799813685247)) (Za .and .u64 (Z1v .u64 (wrap .u64 (x.getD 16 0)) 26) 2251799813685247)) (Za .and .u64 (Z1v .u64 (wrap .u64 (x.getD 17 0)) 34) 2251799813685247)) (Za .and .u64 (Z1v .u64 (wrap .u64 (x.getD 18 0)) 42) 2251799813685247)) (Za .and .u64 (Z1v .u64 (wrap .u64 (x.getD 19 0)) 50) 2251799813685247),
 Za .or .u64 (Za .or .u64 (Za .or .u64 (Za .or .u64 (Za .or .u64 (Za .or .u64 (Za .or .u64 (0) (Z0f .u64 (wrap .u64 (x.getD 19 0)) 1)) (Za .and .u64 (Z1v .u64 (wrap .u64 (x.getD 20 0)) 7) 2251799813685247)) (Za .and .u64 (Z1v .u64 (wrap .u64 (x.getD 21 0)) 15) 2251799813685247)) (Za .and .u64 (Z1v .u64 (wrap .u64 (x.getD 22 0)) 23) 2251799813685247)) (Za .and .u64 (Z1v .u64 (wrap .u64 (x.getD 23 0)) 31) 2251799813685247)) (Za .and .u64 (Z1v .u64 (wrap .u64 (x.getD 24 0)) 39) 2251799813685247)) (Za .and .u64 (Z1v .u64 (wrap .u64 (x.getD 25 0)) 47) 2251799813685247),
 Za .or .u64 (Za .or .u64 (Za .or .u64 (Za .or .u64 (Za .or .u64 (Za .or .u64 (Za .or .u64 (0) (Z0f .u64 (wrap .u64 (x.getD 25 0)) 4)) (Za .and .u64 (Z1v .u64 (wrap .u64 (x.getD 26 0)) 4) 2251799813685247)) (Za .and .u64 (Z1v .u64 (wrap .u64 (x.getD 27 0)) 12) 2251799813685247)) (Za .and .u64 (Z1v .u64 (wrap .u64 (x.getD 28 0)) 20) 2251799813685247)) (Za .and .u64 (Z1v .u64 (wrap .u64 (x.getD 29 0)) 28) 2251799813685247)) (Za .and .u64 (Z1v .u64 (wrap .u64 (x.getD 30 0)) 36) 2251799813685247)) (Za .and .u64 (Z1v .u64 (wrap .u64 (Za .and .u8 (x.getD 31 0) 127)) 44) 2251799813685247)]:=by kernel_rfl
theorem Z1c (k:Nat) {b:Int} (hk:k<=51) (hb:0<=b/\b<256):Za .and .u64 (Z1v .u64 (wrap .u64 b) (k:Int)) 2251799813685247=b%((2^(51-k):Nat):Int)*((2^k:Nat):Int):=by
 have hp:(0:Int)<((2^k:Nat):Int):=by have:=Nat.pow_pos (n:=k) (show 0<2 by decide); omega
 have hq:(0:Int)<((2^(51-k):Nat):Int):=by have:=Nat.pow_pos (n:=51-k) (show 0<2 by decide); omega
 have hle:((2^k:Nat):Int)<=2251799813685248:=by
  have:=Nat.pow_le_pow_right (show 0<2 by decide) hk
  have e:(2^51:Nat)=2251799813685248:=by decide
  omega
 have hprod:((2^k:Nat):Int)*((2^(51-k):Nat):Int)=2251799813685248:=by
  rw [<- Int.natCast_mul,<- Nat.pow_add,show k+(51-k)=51 by omega]; rfl
 have hbk:b*((2^k:Nat):Int)<=256*2251799813685248:=Int.mul_le_mul (by omega) hle (by omega) (by omega)
 have hbk0:0<=b*((2^k:Nat):Int):=Int.mul_nonneg hb.1 (by omega)
 rw [Zb hb.1 (by omega),Zfg .u64 (n:=k) (by show k<=64; omega),Zb hbk0 (by omega),Zm3 hbk0 (by omega)]
 rw [<- hprod,Int.mul_comm b,Int.mul_emod_mul_of_pos _ _ hp,Int.mul_comm]
theorem Zim (k:Nat) {b:Int} (hk:k<=64) (hb:0<=b/\b<256):Z0f .u64 (wrap .u64 b) (k:Int)=b / ((2^k:Nat):Int):=by
 rw [Zb hb.1 (by omega),Z9r .u64 hk]
theorem Z0aj {b0 b1 b2 b3 b4 b5 b6:Int} (h0:0<=b0/\b0<256) (h1:0<=b1/\b1<256) (h2:0<=b2/\b2<256) (h3:0<=b3/\b3<256) (h4:0<=b4/\b4<256) (h5:0<=b5/\b5<256) (h6:0<=b6/\b6<256):Za .or .u64 (Za .or .u64 (Za .or .u64 (Za .or .u64 (Za .or .u64 (Za .or .u64 (Za .or .u64 (0) (Za .and .u64 (Z1v .u64 (wrap .u64 b0) 0) 2251799813685247)) (Za .and .u64 (Z1v .u64 (wrap .u64 b1) 8) 2251799813685247)) (Za .and .u64 (Z1v .u64 (wrap .u64 b2) 16) 2251799813685247)) (Za .and .u64 (Z1v .u64 (wrap .u64 b3) 24) 2251799813685247)) (Za .and .u64 (Z1v .u64 (wrap .u64 b4) 32) 2251799813685247)) (Za .and .u64 (Z1v .u64 (wrap .u64 b5) 40) 2251799813685247)) (Za .and .u64 (Z1v .u64 (wrap .u64 b6) 48) 2251799813685247)=0+b0*1+b1*256+b2*65536+b3*16777216+b4*4294967296+b5*1099511627776+b6%8*281474976710656:=by
 have p0:Za .and .u64 (Z1v .u64 (wrap .u64 b0) 0) 2251799813685247=b0*1:=by
  have:=Z1c 0 (by decide) h0
  refine this.trans ?_
  rw [show ((2^(51-0):Nat):Int)=2251799813685248 from rfl,show ((2^0:Nat):Int)=1 from rfl]
  rw [Int.emod_eq_of_lt h0.1 (by omega)]
 rw [p0,Z1d 0 (x:=b0*1) (y:=0) (a:=b0) (by simp) (by omega) (by omega) (by show _<(1:Int); omega) (by omega)]
 have p1:Za .and .u64 (Z1v .u64 (wrap .u64 b1) 8) 2251799813685247=b1*256:=by
  have:=Z1c 8 (by decide) h1
  refine this.trans ?_
  rw [show ((2^(51-8):Nat):Int)=8796093022208 from rfl,show ((2^8:Nat):Int)=256 from rfl]
  rw [Int.emod_eq_of_lt h1.1 (by omega)]
 rw [p1,Z1d 8 (x:=b1*256) (y:=0+b0*1) (a:=b1) (by simp) (by omega) (by omega) (by show _<(256:Int); omega) (by omega)]
 have p2:Za .and .u64 (Z1v .u64 (wrap .u64 b2) 16) 2251799813685247=b2*65536:=by
  have:=Z1c 16 (by decide) h2
  refine this.trans ?_
  rw [show ((2^(51-16):Nat):Int)=34359738368 from rfl,show ((2^16:Nat):Int)=65536 from rfl]
  rw [Int.emod_eq_of_lt h2.1 (by omega)]
 rw [p2,Z1d 16 (x:=b2*65536) (y:=0+b0*1+b1*256) (a:=b2) (by simp) (by omega) (by omega) (by show _<(65536:Int); omega) (by omega)]
 have p3:Za .and .u64 (Z1v .u64 (wrap .u64 b3) 24) 2251799813685247=b3*16777216:=by
  have:=Z1c 24 (by decide) h3
  refine this.trans ?_
  rw [show ((2^(51-24):Nat):Int)=134217728 from rfl,show ((2^24:Nat):Int)=16777216 from rfl]
  rw [Int.emod_eq_of_lt h3.1 (by omega)]
 rw [p3,Z1d 24 (x:=b3*16777216) (y:=0+b0*1+b1*256+b2*65536) (a:=b3) (by simp) (by omega) (by omega) (by show _<(16777216:Int); omega) (by omega)]
 have p4:Za .and .u64 (Z1v .u64 (wrap .u64 b4) 32) 2251799813685247=b4*4294967296:=by
  have:=Z1c 32 (by decide) h4
  refine this.trans ?_
  rw [show ((2^(51-32):Nat):Int)=524288 from rfl,show ((2^32:Nat):Int)=4294967296 from rfl]
  rw [Int.emod_eq_of_lt h4.1 (by omega)]
 rw [p4,Z1d 32 (x:=b4*4294967296) (y:=0+b0*1+b1*256+b2*65536+b3*16777216) (a:=b4) (by simp) (by omega) (by omega) (by show _<(4294967296:Int); omega) (by omega)]
 have p5:Za .and .u64 (Z1v .u64 (wrap .u64 b5) 40) 2251799813685247=b5*1099511627776:=by
  have:=Z1c 40 (by decide) h5
  refine this.trans ?_
  rw [show ((2^(51-40):Nat):Int)=2048 from rfl,show ((2^40:Nat):Int)=1099511627776 from rfl]
  rw [Int.emod_eq_of_lt h5.1 (by omega)]
 rw [p5,Z1d 40 (x:=b5*1099511627776) (y:=0+b0*1+b1*256+b2*65536+b3*16777216+b4*4294967296) (a:=b5) (by simp) (by omega) (by omega) (by show _<(1099511627776:Int); omega) (by omega)]
 have p6:Za .and .u64 (Z1v .u64 (wrap .u64 b6) 48) 2251799813685247=b6%8*281474976710656:=by
  have:=Z1c 48 (by decide) h6
  refine this.trans ?_
  rw [show ((2^(51-48):Nat):Int)=8 from rfl,show ((2^48:Nat):Int)=281474976710656 from rfl]
 rw [p6,Z1d 48 (x:=b6%8*281474976710656) (y:=0+b0*1+b1*256+b2*65536+b3*16777216+b4*4294967296+b5*1099511627776) (a:=b6%8) (by simp) (by omega) (by omega) (by show _<(281474976710656:Int); omega) (by omega)]
theorem Z0ak {b6 b7 b8 b9 b10 b11 b12:Int} (h6:0<=b6/\b6<256) (h7:0<=b7/\b7<256) (h8:0<=b8/\b8<256) (h9:0<=b9/\b9<256) (h10:0<=b10/\b10<256) (h11:0<=b11/\b11<256) (h12:0<=b12/\b12<256):Za .or .u64 (Za .or .u64 (Za .or .u64 (Za .or .u64 (Za .or .u64 (Za .or .u64 (Za .or .u64 (0) (Z0f .u64 (wrap .u64 b6) 3)) (Za .and .u64 (Z1v .u64 (wrap .u64 b7) 5) 2251799813685247)) (Za .and .u64 (Z1v .u64 (wrap .u64 b8) 13) 2251799813685247)) (Za .and .u64 (Z1v .u64 (wrap .u64 b9) 21) 2251799813685247)) (Za .and .u64 (Z1v .u64 (wrap .u64 b10) 29) 2251799813685247)) (Za .and .u64 (Z1v .u64 (wrap .u64 b11) 37) 2251799813685247)) (Za .and .u64 (Z1v .u64 (wrap .u64 b12) 45) 2251799813685247)=0+b6 / 8+b7*32+b8*8192+b9*2097152+b10*536870912+b11*137438953472+b12%64*35184372088832:=by
 have p0:Z0f .u64 (wrap .u64 b6) 3=b6 / 8:=by
  have:=Zim 3 (by decide) h6
  refine this.trans ?_
  rw [show ((2^3:Nat):Int)=8 from rfl]
 rw [p0,Z1d 0 (x:=b6 / 8) (y:=0) (a:=b6 / 8) (by simp) (by omega) (by omega) (by show _<(1:Int); omega) (by omega)]
 have p1:Za .and .u64 (Z1v .u64 (wrap .u64 b7) 5) 2251799813685247=b7*32:=by
  have:=Z1c 5 (by decide) h7
  refine this.trans ?_
  rw [show ((2^(51-5):Nat):Int)=70368744177664 from rfl,show ((2^5:Nat):Int)=32 from rfl]
  rw [Int.emod_eq_of_lt h7.1 (by omega)]
 rw [p1,Z1d 5 (x:=b7*32) (y:=0+b6 / 8) (a:=b7) (by simp) (by omega) (by omega) (by show _<(32:Int); omega) (by omega)]
 have p2:Za .and .u64 (Z1v .u64 (wrap .u64 b8) 13) 2251799813685247=b8*8192:=by
  have:=Z1c 13 (by decide) h8
  refine this.trans ?_
  rw [show ((2^(51-13):Nat):Int)=274877906944 from rfl,show ((2^13:Nat):Int)=8192 from rfl]
  rw [Int.emod_eq_of_lt h8.1 (by omega)]
 rw [p2,Z1d 13 (x:=b8*8192) (y:=0+b6 / 8+b7*32) (a:=b8) (by simp) (by omega) (by omega) (by show _<(8192:Int); omega) (by omega)]
 have p3:Za .and .u64 (Z1v .u64 (wrap .u64 b9) 21) 2251799813685247=b9*2097152:=by
  have:=Z1c 21 (by decide) h9
  refine this.trans ?_
  rw [show ((2^(51-21):Nat):Int)=1073741824 from rfl,show ((2^21:Nat):Int)=2097152 from rfl]
  rw [Int.emod_eq_of_lt h9.1 (by omega)]
 rw [p3,Z1d 21 (x:=b9*2097152) (y:=0+b6 / 8+b7*32+b8*8192) (a:=b9) (by simp) (by omega) (by omega) (by show _<(2097152:Int); omega) (by omega)]
 have p4:Za .and .u64 (Z1v .u64 (wrap .u64 b10) 29) 2251799813685247=b10*536870912:=by
  have:=Z1c 29 (by decide) h10
  refine this.trans ?_
  rw [show ((2^(51-29):Nat):Int)=4194304 from rfl,show ((2^29:Nat):Int)=536870912 from rfl]
  rw [Int.emod_eq_of_lt h10.1 (by omega)]
 rw [p4,Z1d 29 (x:=b10*536870912) (y:=0+b6 / 8+b7*32+b8*8192+b9*2097152) (a:=b10) (by simp) (by omega) (by omega) (by show _<(536870912:Int); omega) (by omega)]
 have p5:Za .and .u64 (Z1v .u64 (wrap .u64 b11) 37) 2251799813685247=b11*137438953472:=by
  have:=Z1c 37 (by decide) h11
  refine this.trans ?_
  rw [show ((2^(51-37):Nat):Int)=16384 from rfl,show ((2^37:Nat):Int)=137438953472 from rfl]
  rw [Int.emod_eq_of_lt h11.1 (by omega)]
 rw [p5,Z1d 37 (x:=b11*137438953472) (y:=0+b6 / 8+b7*32+b8*8192+b9*2097152+b10*536870912) (a:=b11) (by simp) (by omega) (by omega) (by show _<(137438953472:Int); omega) (by omega)]
 have p6:Za .and .u64 (Z1v .u64 (wrap .u64 b12) 45) 2251799813685247=b12%64*35184372088832:=by
  have:=Z1c 45 (by decide) h12
  refine this.trans ?_
  rw [show ((2^(51-45):Nat):Int)=64 from rfl,show ((2^45:Nat):Int)=35184372088832 from rfl]
 rw [p6,Z1d 45 (x:=b12%64*35184372088832) (y:=0+b6 / 8+b7*32+b8*8192+b9*2097152+b10*536870912+b11*137438953472) (a:=b12%64) (by simp) (by omega) (by omega) (by show _<(35184372088832:Int); omega) (by omega)]
theorem Z0al {b12 b13 b14 b15 b16 b17 b18 b19:Int} (h12:0<=b12/\b12<256) (h13:0<=b13/\b13<256) (h14:0<=b14/\b14<256) (h15:0<=b15/\b15<256) (h16:0<=b16/\b16<256) (h17:0<=b17/\b17<256) (h18:0<=b18/\b18<256) (h19:0<=b19/\b19<256):Za .or .u64 (Za .or .u64 (Za .or .u64 (Za .or .u64 (Za .or .u64 (Za .or .u64 (Za .or .u64 (Za .or .u64 (0) (Z0f .u64 (wrap .u64 b12) 6)) (Za .and .u64 (Z1v .u64 (wrap .u64 b13) 2) 2251799813685247)) (Za .and .u64 (Z1v .u64 (wrap .u64 b14) 10) 2251799813685247)) (Za .and .u64 (Z1v .u64 (wrap .u64 b15) 18) 2251799813685247)) (Za .and .u64 (Z1v .u64 (wrap .u64 b16) 26) 2251799813685247)) (Za .and .u64 (Z1v .u64 (wrap .u64 b17) 34) 2251799813685247)) (Za .and .u64 (Z1v .u64 (wrap .u64 b18) 42) 2251799813685247)) (Za .and .u64 (Z1v .u64 (wrap .u64 b19) 50) 2251799813685247)=0+b12 / 64+b13*4+b14*1024+b15*262144+b16*67108864+b17*17179869184+b18*4398046511104+b19%2*1125899906842624:=by
 have p0:Z0f .u64 (wrap .u64 b12) 6=b12 / 64:=by
  have:=Zim 6 (by decide) h12
  refine this.trans ?_
  rw [show ((2^6:Nat):Int)=64 from rfl]
 rw [p0,Z1d 0 (x:=b12 / 64) (y:=0) (a:=b12 / 64) (by simp) (by omega) (by omega) (by show _<(1:Int); omega) (by omega)]
 have p1:Za .and .u64 (Z1v .u64 (wrap .u64 b13) 2) 2251799813685247=b13*4:=by
  have:=Z1c 2 (by decide) h13
  refine this.trans ?_
  rw [show ((2^(51-2):Nat):Int)=562949953421312 from rfl,show ((2^2:Nat):Int)=4 from rfl]
  rw [Int.emod_eq_of_lt h13.1 (by omega)]
 rw [p1,Z1d 2 (x:=b13*4) (y:=0+b12 / 64) (a:=b13) (by simp) (by omega) (by omega) (by show _<(4:Int); omega) (by omega)]
 have p2:Za .and .u64 (Z1v .u64 (wrap .u64 b14) 10) 2251799813685247=b14*1024:=by
  have:=Z1c 10 (by decide) h14
  refine this.trans ?_
  rw [show ((2^(51-10):Nat):Int)=2199023255552 from rfl,show ((2^10:Nat):Int)=1024 from rfl]
  rw [Int.emod_eq_of_lt h14.1 (by omega)]
 rw [p2,Z1d 10 (x:=b14*1024) (y:=0+b12 / 64+b13*4) (a:=b14) (by simp) (by omega) (by omega) (by show _<(1024:Int); omega) (by omega)]
 have p3:Za .and .u64 (Z1v .u64 (wrap .u64 b15) 18) 2251799813685247=b15*262144:=by
  have:=Z1c 18 (by decide) h15
  refine this.trans ?_
  rw [show ((2^(51-18):Nat):Int)=8589934592 from rfl,show ((2^18:Nat):Int)=262144 from rfl]
  rw [Int.emod_eq_of_lt h15.1 (by omega)]
 rw [p3,Z1d 18 (x:=b15*262144) (y:=0+b12 / 64+b13*4+b14*1024) (a:=b15) (by simp) (by omega) (by omega) (by show _<(262144:Int); omega) (by omega)]
 have p4:Za .and .u64 (Z1v .u64 (wrap .u64 b16) 26) 2251799813685247=b16*67108864:=by
  have:=Z1c 26 (by decide) h16
  refine this.trans ?_
  rw [show ((2^(51-26):Nat):Int)=33554432 from rfl,show ((2^26:Nat):Int)=67108864 from rfl]
  rw [Int.emod_eq_of_lt h16.1 (by omega)]
 rw [p4,Z1d 26 (x:=b16*67108864) (y:=0+b12 / 64+b13*4+b14*1024+b15*262144) (a:=b16) (by simp) (by omega) (by omega) (by show _<(67108864:Int); omega) (by omega)]
 have p5:Za .and .u64 (Z1v .u64 (wrap .u64 b17) 34) 2251799813685247=b17*17179869184:=by
  have:=Z1c 34 (by decide) h17
  refine this.trans ?_
  rw [show ((2^(51-34):Nat):Int)=131072 from rfl,show ((2^34:Nat):Int)=17179869184 from rfl]
  rw [Int.emod_eq_of_lt h17.1 (by omega)]
 rw [p5,Z1d 34 (x:=b17*17179869184) (y:=0+b12 / 64+b13*4+b14*1024+b15*262144+b16*67108864) (a:=b17) (by simp) (by omega) (by omega) (by show _<(17179869184:Int); omega) (by omega)]
 have p6:Za .and .u64 (Z1v .u64 (wrap .u64 b18) 42) 2251799813685247=b18*4398046511104:=by
  have:=Z1c 42 (by decide) h18
  refine this.trans ?_
  rw [show ((2^(51-42):Nat):Int)=512 from rfl,show ((2^42:Nat):Int)=4398046511104 from rfl]
  rw [Int.emod_eq_of_lt h18.1 (by omega)]
 rw [p6,Z1d 42 (x:=b18*4398046511104) (y:=0+b12 / 64+b13*4+b14*1024+b15*262144+b16*67108864+b17*17179869184) (a:=b18) (by simp) (by omega) (by omega) (by show _<(4398046511104:Int); omega) (by omega)]
 have p7:Za .and .u64 (Z1v .u64 (wrap .u64 b19) 50) 2251799813685247=b19%2*1125899906842624:=by
  have:=Z1c 50 (by decide) h19
  refine this.trans ?_
  rw [show ((2^(51-50):Nat):Int)=2 from rfl,show ((2^50:Nat):Int)=1125899906842624 from rfl]
 rw [p7,Z1d 50 (x:=b19%2*1125899906842624) (y:=0+b12 / 64+b13*4+b14*1024+b15*262144+b16*67108864+b17*17179869184+b18*4398046511104) (a:=b19%2) (by simp) (by omega) (by omega) (by show _<(1125899906842624:Int); omega) (by omega)]
theorem Z0am {b19 b20 b21 b22 b23 b24 b25:Int} (h19:0<=b19/\b19<256) (h20:0<=b20/\b20<256) (h21:0<=b21/\b21<256) (h22:0<=b22/\b22<256) (h23:0<=b23/\b23<256) (h24:0<=b24/\b24<256) (h25:0<=b25/\b25<256):Za .or .u64 (Za .or .u64 (Za .or .u64 (Za .or .u64 (Za .or .u64 (Za .or .u64 (Za .or .u64 (0) (Z0f .u64 (wrap .u64 b19) 1)) (Za .and .u64 (Z1v .u64 (wrap .u64 b20) 7) 2251799813685247)) (Za .and .u64 (Z1v .u64 (wrap .u64 b21) 15) 2251799813685247)) (Za .and .u64 (Z1v .u64 (wrap .u64 b22) 23) 2251799813685247)) (Za .and .u64 (Z1v .u64 (wrap .u64 b23) 31) 2251799813685247)) (Za .and .u64 (Z1v .u64 (wrap .u64 b24) 39) 2251799813685247)) (Za .and .u64 (Z1v .u64 (wrap .u64 b25) 47) 2251799813685247)=0+b19 / 2+b20*128+b21*32768+b22*8388608+b23*2147483648+b24*549755813888+b25%16*140737488355328:=by
 have p0:Z0f .u64 (wrap .u64 b19) 1=b19 / 2:=by
  have:=Zim 1 (by decide) h19
  refine this.trans ?_
  rw [show ((2^1:Nat):Int)=2 from rfl]
 rw [p0,Z1d 0 (x:=b19 / 2) (y:=0) (a:=b19 / 2) (by simp) (by omega) (by omega) (by show _<(1:Int); omega) (by omega)]
 have p1:Za .and .u64 (Z1v .u64 (wrap .u64 b20) 7) 2251799813685247=b20*128:=by
  have:=Z1c 7 (by decide) h20
  refine this.trans ?_
  rw [show ((2^(51-7):Nat):Int)=17592186044416 from rfl,show ((2^7:Nat):Int)=128 from rfl]
  rw [Int.emod_eq_of_lt h20.1 (by omega)]
 rw [p1,Z1d 7 (x:=b20*128) (y:=0+b19 / 2) (a:=b20) (by simp) (by omega) (by omega) (by show _<(128:Int); omega) (by omega)]
 have p2:Za .and .u64 (Z1v .u64 (wrap .u64 b21) 15) 2251799813685247=b21*32768:=by
  have:=Z1c 15 (by decide) h21
  refine this.trans ?_
  rw [show ((2^(51-15):Nat):Int)=68719476736 from rfl,show ((2^15:Nat):Int)=32768 from rfl]
  rw [Int.emod_eq_of_lt h21.1 (by omega)]
 rw [p2,Z1d 15 (x:=b21*32768) (y:=0+b19 / 2+b20*128) (a:=b21) (by simp) (by omega) (by omega) (by show _<(32768:Int); omega) (by omega)]
 have p3:Za .and .u64 (Z1v .u64 (wrap .u64 b22) 23) 2251799813685247=b22*8388608:=by
  have:=Z1c 23 (by decide) h22
  refine this.trans ?_
  rw [show ((2^(51-23):Nat):Int)=268435456 from rfl,show ((2^23:Nat):Int)=8388608 from rfl]
  rw [Int.emod_eq_of_lt h22.1 (by omega)]
 rw [p3,Z1d 23 (x:=b22*8388608) (y:=0+b19 / 2+b20*128+b21*32768) (a:=b22) (by simp) (by omega) (by omega) (by show _<(8388608:Int); omega) (by omega)]
 have p4:Za .and .u64 (Z1v .u64 (wrap .u64 b23) 31) 2251799813685247=b23*2147483648:=by
  have:=Z1c 31 (by decide) h23
  refine this.trans ?_
  rw [show ((2^(51-31):Nat):Int)=1048576 from rfl,show ((2^31:Nat):Int)=2147483648 from rfl]
  rw [Int.emod_eq_of_lt h23.1 (by omega)]
 rw [p4,Z1d 31 (x:=b23*2147483648) (y:=0+b19 / 2+b20*128+b21*32768+b22*8388608) (a:=b23) (by simp) (by omega) (by omega) (by show _<(2147483648:Int); omega) (by omega)]
 have p5:Za .and .u64 (Z1v .u64 (wrap .u64 b24) 39) 2251799813685247=b24*549755813888:=by
  have:=Z1c 39 (by decide) h24
  refine this.trans ?_
  rw [show ((2^(51-39):Nat):Int)=4096 from rfl,show ((2^39:Nat):Int)=549755813888 from rfl]
  rw [Int.emod_eq_of_lt h24.1 (by omega)]
 rw [p5,Z1d 39 (x:=b24*549755813888) (y:=0+b19 / 2+b20*128+b21*32768+b22*8388608+b23*2147483648) (a:=b24) (by simp) (by omega) (by omega) (by show _<(549755813888:Int); omega) (by omega)]
 have p6:Za .and .u64 (Z1v .u64 (wrap .u64 b25) 47) 2251799813685247=b25%16*140737488355328:=by
  have:=Z1c 47 (by decide) h25
  refine this.trans ?_
  rw [show ((2^(51-47):Nat):Int)=16 from rfl,show ((2^47:Nat):Int)=140737488355328 from rfl]
 rw [p6,Z1d 47 (x:=b25%16*140737488355328) (y:=0+b19 / 2+b20*128+b21*32768+b22*8388608+b23*2147483648+b24*549755813888) (a:=b25%16) (by simp) (by omega) (by omega) (by show _<(140737488355328:Int); omega) (by omega)]
theorem Z0an {b25 b26 b27 b28 b29 b30 b31:Int} (h25:0<=b25/\b25<256) (h26:0<=b26/\b26<256) (h27:0<=b27/\b27<256) (h28:0<=b28/\b28<256) (h29:0<=b29/\b29<256) (h30:0<=b30/\b30<256) (h31:0<=b31/\b31<256):Za .or .u64 (Za .or .u64 (Za .or .u64 (Za .or .u64 (Za .or .u64 (Za .or .u64 (Za .or .u64 (0) (Z0f .u64 (wrap .u64 b25) 4)) (Za .and .u64 (Z1v .u64 (wrap .u64 b26) 4) 2251799813685247)) (Za .and .u64 (Z1v .u64 (wrap .u64 b27) 12) 2251799813685247)) (Za .and .u64 (Z1v .u64 (wrap .u64 b28) 20) 2251799813685247)) (Za .and .u64 (Z1v .u64 (wrap .u64 b29) 28) 2251799813685247)) (Za .and .u64 (Z1v .u64 (wrap .u64 b30) 36) 2251799813685247)) (Za .and .u64 (Z1v .u64 (wrap .u64 b31) 44) 2251799813685247)=0+b25 / 16+b26*16+b27*4096+b28*1048576+b29*268435456+b30*68719476736+b31%128*17592186044416:=by
 have p0:Z0f .u64 (wrap .u64 b25) 4=b25 / 16:=by
  have:=Zim 4 (by decide) h25
  refine this.trans ?_
  rw [show ((2^4:Nat):Int)=16 from rfl]
 rw [p0,Z1d 0 (x:=b25 / 16) (y:=0) (a:=b25 / 16) (by simp) (by omega) (by omega) (by show _<(1:Int); omega) (by omega)]
 have p1:Za .and .u64 (Z1v .u64 (wrap .u64 b26) 4) 2251799813685247=b26*16:=by
  have:=Z1c 4 (by decide) h26
  refine this.trans ?_
  rw [show ((2^(51-4):Nat):Int)=140737488355328 from rfl,show ((2^4:Nat):Int)=16 from rfl]
  rw [Int.emod_eq_of_lt h26.1 (by omega)]
 rw [p1,Z1d 4 (x:=b26*16) (y:=0+b25 / 16) (a:=b26) (by simp) (by omega) (by omega) (by show _<(16:Int); omega) (by omega)]
 have p2:Za .and .u64 (Z1v .u64 (wrap .u64 b27) 12) 2251799813685247=b27*4096:=by
  have:=Z1c 12 (by decide) h27
  refine this.trans ?_
  rw [show ((2^(51-12):Nat):Int)=549755813888 from rfl,show ((2^12:Nat):Int)=4096 from rfl]
  rw [Int.emod_eq_of_lt h27.1 (by omega)]
 rw [p2,Z1d 12 (x:=b27*4096) (y:=0+b25 / 16+b26*16) (a:=b27) (by simp) (by omega) (by omega) (by show _<(4096:Int); omega) (by omega)]
 have p3:Za .and .u64 (Z1v .u64 (wrap .u64 b28) 20) 2251799813685247=b28*1048576:=by
  have:=Z1c 20 (by decide) h28
  refine this.trans ?_
  rw [show ((2^(51-20):Nat):Int)=2147483648 from rfl,show ((2^20:Nat):Int)=1048576 from rfl]
  rw [Int.emod_eq_of_lt h28.1 (by omega)]
 rw [p3,Z1d 20 (x:=b28*1048576) (y:=0+b25 / 16+b26*16+b27*4096) (a:=b28) (by simp) (by omega) (by omega) (by show _<(1048576:Int); omega) (by omega)]
 have p4:Za .and .u64 (Z1v .u64 (wrap .u64 b29) 28) 2251799813685247=b29*268435456:=by
  have:=Z1c 28 (by decide) h29
  refine this.trans ?_
  rw [show ((2^(51-28):Nat):Int)=8388608 from rfl,show ((2^28:Nat):Int)=268435456 from rfl]
  rw [Int.emod_eq_of_lt h29.1 (by omega)]
 rw [p4,Z1d 28 (x:=b29*268435456) (y:=0+b25 / 16+b26*16+b27*4096+b28*1048576) (a:=b29) (by simp) (by omega) (by omega) (by show _<(268435456:Int); omega) (by omega)]
 have p5:Za .and .u64 (Z1v .u64 (wrap .u64 b30) 36) 2251799813685247=b30*68719476736:=by
  have:=Z1c 36 (by decide) h30
  refine this.trans ?_
  rw [show ((2^(51-36):Nat):Int)=32768 from rfl,show ((2^36:Nat):Int)=68719476736 from rfl]
  rw [Int.emod_eq_of_lt h30.1 (by omega)]
 rw [p5,Z1d 36 (x:=b30*68719476736) (y:=0+b25 / 16+b26*16+b27*4096+b28*1048576+b29*268435456) (a:=b30) (by simp) (by omega) (by omega) (by show _<(68719476736:Int); omega) (by omega)]
 have p6:Za .and .u64 (Z1v .u64 (wrap .u64 b31) 44) 2251799813685247=b31%128*17592186044416:=by
  have:=Z1c 44 (by decide) h31
  refine this.trans ?_
  rw [show ((2^(51-44):Nat):Int)=128 from rfl,show ((2^44:Nat):Int)=17592186044416 from rfl]
 rw [p6,Z1d 44 (x:=b31%128*17592186044416) (y:=0+b25 / 16+b26*16+b27*4096+b28*1048576+b29*268435456+b30*68719476736) (a:=b31%128) (by simp) (by omega) (by omega) (by show _<(17592186044416:Int); omega) (by omega)]
def Zs0 (x:LI):Int:=x.getD 0 0+x.getD 1 0*256+x.getD 2 0*65536+x.getD 3 0*16777216+x.getD 4 0*4294967296+x.getD 5 0*1099511627776+x.getD 6 0*281474976710656+x.getD 7 0*72057594037927936+x.getD 8 0*18446744073709551616+x.getD 9 0*4722366482869645213696+x.getD 10 0*1208925819614629174706176+x.getD 11 0*309485009821345068724781056+x.getD 12 0*79228162514264337593543950336+x.getD 13 0*20282409603651670423947251286016+x.getD 14 0*5192296858534827628530496329220096+x.getD 15 0*1329227995784915872903807060280344576+x.getD 16 0*340282366920938463463374607431768211456+x.getD 17 0*87112285931760246646623899502532662132736+x.getD 18 0*22300745198530623141535718272648361505980416+x.getD 19 0*5708990770823839524233143877797980545530986496+x.getD 20 0*1461501637330902918203684832716283019655932542976+x.getD 21 0*374144419156711147060143317175368453031918731001856+x.getD 22 0*95780971304118053647396689196894323976171195136475136+x.getD 23 0*24519928653854221733733552434404946937899825954937634816+x.getD 24 0*6277101735386680763835789423207666416102355444464034512896+x.getD 25 0*1606938044258990275541962092341162602522202993782792835301376+x.getD 26 0*411376139330301510538742295639337626245683966408394965837152256+x.getD 27 0*105312291668557186697918027683670432318895095400549111254310977536+x.getD 28 0*26959946667150639794667015087019630673637144422540572481103610249216+x.getD 29 0*6901746346790563787434755862277025452451108972170386555162524223799296+x.getD 30 0*1766847064778384329583297500742918515827483896875618958121606201292619776+x.getD 31 0%128*452312848583266388373324160190187140051835877600158453279131187530910662656
theorem Zhq {x:LI} (h:Byt x):Z4v x=some (fe (Zs0 x)):=by
 rw [Z4v,Z19,Z04t]
 have e31:Za .and .u8 (x.getD 31 0) 127=x.getD 31 0%128:=Zih 7 (by decide) (by decide) (h 31).1 (h 31).2
 have h31:0<=x.getD 31 0%128/\x.getD 31 0%128<256:=by have:=h 31; omega
 rw [e31,Z0aj (h 0) (h 1) (h 2) (h 3) (h 4) (h 5) (h 6),Z0ak (h 6) (h 7) (h 8) (h 9) (h 10) (h 11) (h 12),Z0al (h 12) (h 13) (h 14) (h 15) (h 16) (h 17) (h 18) (h 19),Z0am (h 19) (h 20) (h 21) (h 22) (h 23) (h 24) (h 25),Z0an (h 25) (h 26) (h 27) (h 28) (h 29) (h 30) h31]
 have g0:=h 0
 have g1:=h 1
 have g2:=h 2
 have g3:=h 3
 have g4:=h 4
 have g5:=h 5
 have g6:=h 6
 have g7:=h 7
 have g8:=h 8
 have g9:=h 9
 have g10:=h 10
 have g11:=h 11
 have g12:=h 12
 have g13:=h 13
 have g14:=h 14
 have g15:=h 15
 have g16:=h 16
 have g17:=h 17
 have g18:=h 18
 have g19:=h 19
 have g20:=h 20
 have g21:=h 21
 have g22:=h 22
 have g23:=h 23
 have g24:=h 24
 have g25:=h 25
 have g26:=h 26
 have g27:=h 27
 have g28:=h 28
 have g29:=h 29
 have g30:=h 30
 have g31:=h 31
 rw [Z3 (Z9i (U5.mk5 (by omega) (by omega) (by omega) (by omega) (by omega)))]
 unfold Zkr fe
 congr 3
 simp only [Z7b,Zs0,List.getD_cons_zero,List.getD_cons_succ]
 omega
end Go.Proofs.YtiflckckekjbnaaGreatDoor
namespace Go.Proofs.YtiflckckekjbnaaGreatDoor
open Go Go.Sx Go.RowKit
set_option linter.all false
set_option maxRecDepth 100000
theorem Zpa (a:Int):a%PP%PP=a%PP:=Int.emod_emod_of_dvd _ (Int.dvd_refl _)
theorem Zt2 (a b:Int):Z1k (fe a) (fe b)=some (fe (a*b)):=by
 rw [Zuk (Zj6 a) (Zj6 b),Z9n,Z9n,<- Int.mul_emod]; rfl
theorem Zmd (a:Int):Z24 (fe a)=some (fe (a*a)):=by
 rw [Zot (Zj6 a),Z9n,<- Int.mul_emod]; rfl
theorem Zxc (a b:Int):Z2r (fe a) (fe b)=some (fe (a+b)):=by
 rw [Zzd (Zj6 a) (Zj6 b),Z9n,Z9n,Zg6]
 exact (Int.add_emod _ _ _).symm
theorem fsub (a b:Int):Z4x (fe a) (fe b)=some (fe (a-b)):=by
 rw [Z0fx (Zj6 a) (Zj6 b),Z9n,Z9n,Zg6]
 exact (Int.sub_emod _ _ _).symm
structure Q4 where
 x:Int
 y:Int
 z:Int
 t:Int
 deriving DecidableEq
def pt (q:Q4):Zi:=⟨fe q.x,fe q.y,fe q.z,fe q.t⟩
def qred (q:Q4):Q4:=⟨q.x%PP,q.y%PP,q.z%PP,q.t%PP⟩
theorem Zzu (q:Q4):pt (qred q)=pt q:=by simp only [pt,qred,Z04u]
def D2:Int:=16295367250680780974490674513165176452449235426866156013048779062215315747161
def Zmu (e f g h:Int):Q4:=⟨e*f,g*h,f*g,e*h⟩
def qadd (p q:Q4):Q4 :=
 let a:=(p.y-p.x)*(q.y-q.x)
 let b:=(p.y+p.x)*(q.y+q.x)
 let c:=p.t*D2*q.t
 let d:=(p.z+p.z)*q.z
 Zmu (b-a) (d-c) (d+c) (b+a)
def qdbl (p:Q4):Q4 :=
 let a:=p.x*p.x
 let b:=p.y*p.y
 let z:=p.z*p.z
 let h:=a+b
 let e:=h-(p.x+p.y)*(p.x+p.y)
 let g:=a-b
 Zmu e (z+z+g) g h
theorem Znd (e f g h:Int):Z7j (fe e) (fe f) (fe g) (fe h)=some (pt (Zmu e f g h)):=by
 rw [Z7j,Z3 (Zt2 e f),Z3 (Zt2 g h),Z3 (Zt2 f g),Z3 (Zt2 e h)]; rfl
theorem Zs5:Z7v=some (fe D2):=by
 rw [Z7v,Zk]
 congr 1
theorem Z018 (p q:Q4):Za4 (pt p) (pt q)=some (pt (qadd p q)):=by
 rw [Za4]
 show opt (Z4x (fe p.y) (fe p.x)) _=_
 rw [Z3 (fsub p.y p.x)]
 show opt (Z4x (fe q.y) (fe q.x)) _=_
 rw [Z3 (fsub q.y q.x),Z3 (Zt2 _ _)]
 show opt (Z2r (fe p.y) (fe p.x)) _=_
 rw [Z3 (Zxc p.y p.x)]
 show opt (Z2r (fe q.y) (fe q.x)) _=_
 rw [Z3 (Zxc q.y q.x),Z3 (Zt2 _ _),Z3 Zs5]
 show opt (Z1k (fe p.t) (fe D2)) _=_
 rw [Z3 (Zt2 _ _)]
 show opt (Z1k (fe (p.t*D2)) (fe q.t)) _=_
 rw [Z3 (Zt2 _ _)]
 show opt (Z2r (fe p.z) (fe p.z)) _=_
 rw [Z3 (Zxc _ _)]
 show opt (Z1k (fe (p.z+p.z)) (fe q.z)) _=_
 rw [Z3 (Zt2 _ _),Z3 (fsub _ _),Z3 (fsub _ _),Z3 (Zxc _ _),Z3 (Zxc _ _),Z3 (Znd _ _ _ _)]
 rfl
theorem Z01b (p:Q4):Z7h (pt p)=some (pt (qdbl p)):=by
 rw [Z7h]
 show opt (Z24 (fe p.x)) _=_
 rw [Z3 (Zmd _)]
 show opt (Z24 (fe p.y)) _=_
 rw [Z3 (Zmd _)]
 show opt (Z24 (fe p.z)) _=_
 rw [Z3 (Zmd _),Z3 (Zxc _ _)]
 show opt (Z2r (fe p.x) (fe p.y)) _=_
 rw [Z3 (Zxc _ _),Z3 (Zmd _),Z3 (fsub _ _),Z3 (fsub _ _),Z3 (Zxc _ _),Z3 (Zxc _ _),Z3 (Znd _ _ _ _)]
 rfl
def Zv5:Q4:=⟨0,1,1,0⟩
theorem Zq7:Z8g=some (fe 1):=by rw [Z8g,Zk]; congr 1
theorem Zwr:Z9v=some (pt Zv5):=by
 rw [Z9v,Z3 Zq7,Z3 Zq7]
 have:(List.replicate 5 0:LI)=fe 0:=by decide
 rw [this]; rfl
def Zq0 (p q:Q4):Q4:=qred (qadd p q)
def Zeb (p:Q4):Q4:=qred (qdbl p)
theorem Zqh (p q:Q4):Za4 (pt p) (pt q)=some (pt (Zq0 p q)):=by rw [Z018]; unfold Zq0; rw [Zzu]
theorem Zx5 (p:Q4):Z7h (pt p)=some (pt (Zeb p)):=by rw [Z01b]; unfold Zeb; rw [Zzu]
def tab (p:Q4):Nat->Q4
 | 0=>Zv5
 | i+1=>Zq0 (tab p i) p
def Zro (f:Nat->Zi) (i:Nat):List Zi:=(List.range 16).map fun j=>if j<=i then f j else Z1z
theorem Zz4 (f:Nat->Zi) {i:Nat} (hi:i<15):Zkm Z1z (Zro f i) (i+1) (f (i+1))=Zro f (i+1):=by
 rw [Zct (by simp [Zro]; omega)]
 apply List.ext_getElem
 ·simp [Zro]
 ·intro j h1 h2
  simp only [Zro,List.getElem_set,List.getElem_map,List.getElem_range]
  by_cases hj:i+1=j
  ·subst hj; simp
  ·rw [if_neg hj]
   by_cases h:j<=i
   ·rw [if_pos h,if_pos (by omega)]
   ·rw [if_neg h,if_neg (by omega)]
theorem Zrp (f:Nat->Zi) {i j:Nat} (hj:j<=i) (hi:i<16):(Zro f i).getD j Z1z=f j:=by
 simp only [Zro,List.getD,List.getElem?_map,List.getElem?_range (show j<16 by omega),Option.map_some,Option.getD_some,if_pos hj]
theorem Zsf (p:Q4) {kk:List Zi->Option (List Zi)} {k':Int->List Zi->Option (List Zi)} {i:Nat} (hi:i<15) :
  Z3h (pt p) kk k' (i:Int) (Zro (fun j=>pt (tab p j)) i)=k' ((i+1:Nat):Int) (Zro (fun j=>pt (tab p j)) (i+1)):=by
 rw [Z3h,Z1n (by simp; omega)]
 simp only [Zk]
 rw [Zl (by omega) (by omega),Zu (Z0v (by omega) (by omega)),Int.toNat_natCast,Zrp _ (Nat.le_refl i) (by omega),Z3 (Zqh _ _),Zu (Z0v (by omega) (by omega))]
 have e:((i:Int)+1).toNat=i+1:=by omega
 have e2:(i:Int)+1=((i+1:Nat):Int):=by omega
 rw [e]
 have:=Zz4 (fun j=>pt (tab p j)) hi
 rw [show pt (Zq0 (tab p i) p)=pt (tab p (i+1)) from rfl,this,e2]
theorem Zns (p:Q4) : ∀ (k n:Nat),k<=15->Z22 (pt p) some (n+1+k) ((15-k:Nat):Int) (Zro (fun j=>pt (tab p j)) (15-k))=some (Zro (fun j=>pt (tab p j)) 15)
 | 0,n,_=>by
  rw [show n+1+0=n+1 from rfl,Z22,Z3h,Z0u (by decide)]
 | k+1,n,hk=>by
  have ih:=Zns p k n (by omega)
  rw [<- Nat.add_assoc,Z22,Zsf p (by omega)]
  rw [show 15-(k+1)+1=15-k by omega]
  exact ih
theorem Znt (p:Q4):Z64 (pt p)=some (Zro (fun j=>pt (tab p j)) 15):=by
 rw [Z64,Z3 Zwr,Zk,Z19]
 obtain ⟨n,hn⟩ : ∃ n,big=n+1+15:=⟨18446744073709551600,Z38⟩
 have:=Zns p 15 n (by decide)
 rw [<- hn] at this
 have e:Zkm Z1z (List.replicate 16 Z1z) 0 (pt Zv5)=Zro (fun j=>pt (tab p j)) (15-15):=by
  rw [Zct (by simp)]
  rfl
 rw [e]
 exact this
def nib (k:LI) (i:Nat):Int:=if i%2=0 then k.getD (31-i / 2) 0 / 16%16 else k.getD (31-i / 2) 0%16
theorem Zuo {k:LI} (hk:Byt k) {i:Nat} (hi:i<64):Z8z k (i:Int)=some (nib k i):=by
 rw [Z8z]
 simp only [Zk]
 have h1:IntKind.wrap .i64 (Int.tdiv (i:Int) 2)=((i / 2:Nat):Int):=by
  rw [Int.tdiv_eq_ediv_of_nonneg (by omega),Zl (by omega) (by omega)]; omega
 have h2:Int.tmod (i:Int) 2=((i%2:Nat):Int):=by
  rw [Int.tmod_eq_emod_of_nonneg (by omega)]; omega
 rw [h1,h2,Zl (x:=31-((i / 2:Nat):Int)) (by omega) (by omega),Zu (Z0v (by omega) (by omega))]
 have h3:(31-((i / 2:Nat):Int)).toNat=31-i / 2:=by omega
 rw [h3]
 have hb:=hk (31-i / 2)
 rw [Zl (x:=1-((i%2:Nat):Int)) (by omega) (by omega),Zl (by omega) (by omega)]
 rcases Nat.mod_two_eq_zero_or_one i with h | h
 ·rw [h,Zu (by decide)]
  have e:Z0f .u8 (k.getD (31-i / 2) 0) (4*(1-((0:Nat):Int)))=k.getD (31-i / 2) 0 / 16:=Z9r .u8 (n:=4) (by decide)
  rw [e]
  have e2:Za .and .u8 (k.getD (31-i / 2) 0 / 16) 15=k.getD (31-i / 2) 0 / 16%16:=Zih 4 (by decide) (by decide) (by omega) (by omega)
  rw [e2,nib,if_pos h]
 ·rw [h,Zu (by decide)]
  have e:Z0f .u8 (k.getD (31-i / 2) 0) (4*(1-((1:Nat):Int)))=k.getD (31-i / 2) 0:=by
   have:=Z9r .u8 (x:=k.getD (31-i / 2) 0) (n:=0) (by decide)
   simpa using this
  rw [e]
  have e2:Za .and .u8 (k.getD (31-i / 2) 0) 15=k.getD (31-i / 2) 0%16:=Zih 4 (by decide) (by decide) (by omega) (by omega)
  rw [e2,nib,if_neg (by omega)]
theorem Z01z (k:LI) (i:Nat):0<=nib k i/\nib k i<16:=by unfold nib; split <;> omega
def Zs2 (q:Q4):Q4:=Zeb (Zeb (Zeb (Zeb q)))
def Z0b9 (k:LI) (p:Q4) (q:Q4) (i:Nat):Q4:=Zq0 (Zs2 q) (tab p (nib k i).toNat)
def Zoa (k:LI) (p:Q4):Nat->Q4
 | 0=>Zv5
 | i+1=>Z0b9 k p (Zoa k p i) i
theorem Zse (q:Q4) {kk:LI->LI->LI->LI->Option Zi} :
  Z3s kk big 0 (pt q).gX (pt q).gY (pt q).gZ (pt q).gT=kk (pt (Zs2 q)).gX (pt (Zs2 q)).gY (pt (Zs2 q)).gZ (pt (Zs2 q)).gT:=by
 obtain ⟨n,hn⟩ : ∃ n,big=n+1+1+1+1+1:=⟨18446744073709551611,Z38⟩
 have step : ∀ (n j:Nat) (q:Q4),j<4->Z3s kk (n+1) (j:Int) (pt q).gX (pt q).gY (pt q).gZ (pt q).gT =
   Z3s kk n ((j+1:Nat):Int) (pt (Zeb q)).gX (pt (Zeb q)).gY (pt (Zeb q)).gZ (pt (Zeb q)).gT:=by
  intro n j q hj
  rw [Z3s,Z8y,Z1n (by simp; omega)]
  have:=Zx5 q
  rw [show (⟨(pt q).gX,(pt q).gY,(pt q).gZ,(pt q).gT⟩:Zi)=pt q from rfl,Z3 this]
  simp only [Zk]
  rw [Zl (by omega) (by omega)]
  rfl
 rw [hn]
 have s0:=step (n+1+1+1+1) 0 q (by decide)
 have s1:=step (n+1+1+1) 1 (Zeb q) (by decide)
 have s2:=step (n+1+1) 2 (Zeb (Zeb q)) (by decide)
 have s3:=step (n+1) 3 (Zeb (Zeb (Zeb q))) (by decide)
 refine s0.trans (s1.trans (s2.trans (s3.trans ?_)))
 rw [Z3s,Z8y,Z0u (by decide)]
 rfl
theorem Zle {k:LI} (hk:Byt k) (p:Q4) : ∀ (j n:Nat),j<=64->Z59 k (Zro (fun j=>pt (tab p j)) 15) (fun a b c d=>some ⟨a,b,c,d⟩) (n+1+j) ((64-j:Nat):Int) (pt (Zoa k p (64-j))).gX (pt (Zoa k p (64-j))).gY (pt (Zoa k p (64-j))).gZ (pt (Zoa k p (64-j))).gT=some (pt (Zoa k p 64))
 | 0,n,_=>by
  rw [show n+1+0=n+1 from rfl,Z59,Z8x,Z0u (by decide)]
 | j+1,n,hj=>by
  have ih:=Zle hk p j n (by omega)
  have hr:=Z01z k (64-(j+1))
  rw [<- Nat.add_assoc,Z59,Z8x,Z1n (by simp; omega),Z19,Zse]
  rw [Z3 (Zuo hk (by omega)),Zu (Z0v hr.1 hr.2),Zk,Zrp _ (by omega) (by decide)]
  have hadd:=Zqh (Zs2 (Zoa k p (64-(j+1)))) (tab p (nib k (64-(j+1))).toNat)
  rw [show (⟨(pt (Zs2 (Zoa k p (64-(j+1))))).gX,(pt (Zs2 (Zoa k p (64-(j+1))))).gY,(pt (Zs2 (Zoa k p (64-(j+1))))).gZ,(pt (Zs2 (Zoa k p (64-(j+1))))).gT⟩:Zi)=pt (Zs2 (Zoa k p (64-(j+1)))) from rfl,Z3 hadd,Zk,Zl (by omega) (by omega)]
  have ei:((64-(j+1):Nat):Int)+1=((64-(j+1)+1:Nat):Int):=by omega
  rw [ei]
  have e:64-(j+1)+1=64-j:=by omega
  rw [e]
  have e2:Zq0 (Zs2 (Zoa k p (64-(j+1)))) (tab p (nib k (64-(j+1))).toNat)=Zoa k p (64-j):=by rw [<- e]; rfl
  rw [e2]
  exact ih
theorem Z01c {k:LI} (hk:Byt k) (p:Q4):Zdh k (pt p)=some (pt (Zoa k p 64)):=by
 rw [Zdh,Z3 (Znt p),Z3 Zwr,Z19]
 obtain ⟨n,hn⟩ : ∃ n,big=n+1+64:=⟨18446744073709551551,Z38⟩
 have:=Zle hk p 64 n (by decide)
 rw [<- hn] at this
 exact this
theorem Z9p {l:LI} (h : ∀ x∈l,0<=x/\x<256):Byt l:=by
 intro i
 simp only [List.getD]
 cases hi:l[i]? with
 | none=>simp
 | some v=>exact h v (List.mem_of_getElem? hi)
def BX:Int:=15112221349535400772501151409588531511454012693041857206046113283949847762202
def BY:Int:=46316835694926478169428394003475163141307993866256225615783033603165251855960
def Z02i:Q4:=⟨BX,BY,1,BX*BY⟩
theorem Zw8 (k:LI->Option Zi):Z5r k big 0 [88,0,0,0,0,0,0,0,0,0,0,0,0,0,0,0,0,0,0,0,0,0,0,0,0,0,0,0,0,0,0,0]=k [88,102,102,102,102,102,102,102,102,102,102,102,102,102,102,102,102,102,102,102,102,102,102,102,102,102,102,102,102,102,102,102]:=by kernel_rfl
theorem Zyz:Za5=some (pt Z02i):=by
 rw [Za5,Zk,Z3 (Zhq (Z9p (by decide))),Zk,Z19,Zw8,Z3 (Zhq (Z9p (by decide))),Z3 Zq7]
 have e1:Zs0 [26,213,37,143,96,45,86,201,178,167,37,149,96,199,44,105,92,220,214,253,49,226,164,192,254,83,110,205,211,54,105,33]=BX:=by decide
 have e2:Zs0 [88,102,102,102,102,102,102,102,102,102,102,102,102,102,102,102,102,102,102,102,102,102,102,102,102,102,102,102,102,102,102,102]=BY:=by decide
 rw [e1,e2,Z3 (Zt2 _ _)]
 rfl
theorem Zsd {k:LI} (hk:Byt k):Z6p k=some (pt (Zoa k Z02i 64)):=by
 rw [Z6p,Z3 Zyz,Z3 (Z01c hk _)]
def Zp2:LI:=[235,255,255,255,255,255,255,255,255,255,255,255,255,255,255,255,255,255,255,255,255,255,255,255,255,255,255,255,255,255,255,127]
theorem Zuw:Zch 235 127=some Zp2:=by kernel_rfl
theorem Zqo:Byt Zp2:=Z9p (by decide)
def Zu2 (a:Int):Int:=pw (a%PP) Zp2 256
theorem Z04v {n:Int} (h:0<=n/\n<PP):Zj5 n=fe n:=(Zxd h.1 h.2).symm
theorem Z050 (a:Int):Z7m (fe a)=some (fe (Zu2 a)):=by
 rw [Z7m,Z3 Zuw,Z3 (Z0ar (Zj6 _) Zqo),Z9n,Z04v (Zzv _ _ _)]
 rfl
def Zpb (x y:Int):LI:=if x%PP%2=1 then Z28 (byt (y%PP)) 31 (Za .or .u8 ((byt (y%PP)).getD 31 0) 128) else byt (y%PP)
def encQ (q:Q4):LI:=Zpb (q.x*Zu2 q.z) (q.y*Zu2 q.z)
theorem Zty (q:Q4):Z7i (pt q)=some (encQ q):=by
 rw [Z7i]
 show opt (Z7m (fe q.z)) _=_
 rw [Z3 (Z050 _)]
 show opt (Z1k (fe q.y) (fe (Zu2 q.z))) _=_
 rw [Z3 (Zt2 _ _),Z3 (Zx4 (Zj6 _))]
 show opt (Z1k (fe q.x) (fe (Zu2 q.z))) _=_
 rw [Z3 (Zt2 _ _),Z3 (Zxj (Zj6 _)),Z19,Z9n,Z9n]
 simp only [Zk,Zpa]
 unfold encQ Zpb
 by_cases h:q.x*Zu2 q.z%PP%2=1
 ·rw [Z1n (by rw [h]; rfl),if_pos h]
 ·rw [Z0u (by simpa using h),if_neg h]
def ert:LI:=[251,255,255,255,255,255,255,255,255,255,255,255,255,255,255,255,255,255,255,255,255,255,255,255,255,255,255,255,255,255,255,31]
def fabs (a:Int):Int:=bif a%PP%2==1 then -a else a
def Zsw:Int:=pw (2%PP) ert 256
def DD:Int:=37095705934669439343138083508754565189542113879843219016388785533085940283555
theorem Zgq {p:LI} (h:Byt p) {j:Nat} {v:Int} (hv:0<=v/\v<256):Byt (Z28 p j v):=by
 intro i
 rw [Z17]
 split
 ·exact hv
 ·exact h i
end Go.Proofs.YtiflckckekjbnaaGreatDoor
namespace Go.Proofs.YtiflckckekjbnaaGreatDoor
open Go Go.Sx Go.RowKit
open Go.IntKind (wrap)
set_option linter.all false
set_option maxRecDepth 100000
theorem Zov (x:Int):0<=wrap .u8 x/\wrap .u8 x<256:=by rw [Z2c]; omega
theorem Z03p (x:Int):0<=wrap .u64 x/\wrap .u64 x<18446744073709551616:=by rw [Zhn]; omega
end Go.Proofs.YtiflckckekjbnaaGreatDoor
namespace Go.Proofs.YtiflckckekjbnaaGreatDoor
open Go Go.Sx Go.RowKit
set_option linter.all false
set_option maxRecDepth 100000
end Go.Proofs.YtiflckckekjbnaaGreatDoor
namespace Go.Proofs.YtiflckckekjbnaaGreatDoor
set_option linter.all false
set_option maxRecDepth 100000
def Prm (n:Nat):Prop:=2<=n /\ ∀ d,d∣n->d=1∨d=n
theorem Zzt (n:Nat) : ∀ (m:Nat) (f:Nat->Nat),(∀ i,i<n->f i<m)->(∀ i j,i<n->j<n->f i=f j->i=j)->n<=m:=by
 induction n with
 | zero=>intros; omega
 | succ n ih =>
  intro m f h1 h2
  have hm:=h1 n (by omega)
  have:=ih (m-1) (fun i=>if f i=m-1 then f n else f i) (by
   intro i hi
   have a1:=h1 i (by omega)
   have a2:f i≠f n:=fun e=>by have:=h2 i n (by omega) (by omega) e; omega
   split <;> omega) (by
   intro i j hi hj e
   have a1:f i≠f n:=fun e=>by have:=h2 i n (by omega) (by omega) e; omega
   have a2:f j≠f n:=fun e=>by have:=h2 j n (by omega) (by omega) e; omega
   split at e <;> split at e
   ·rename_i x y; exact h2 i j (by omega) (by omega) (x.trans y.symm)
   ·exact absurd e.symm a2
   ·exact absurd e a1
   ·exact h2 i j (by omega) (by omega) e)
  omega
theorem surj {n:Nat} {f:Nat->Nat} (h1 : ∀ i,i<n->f i<n) (h2 : ∀ i j,i<n->j<n->f i=f j->i=j) {v:Nat} (hv:v<n) : ∃ i,i<n/\f i=v:=by
 false_or_by_contra
 rename_i hc
 have hc : ∀ i,i<n->f i≠v:=fun i hi e=>hc ⟨i,hi,e⟩
 have:=Zzt (n+1) n (fun i=>if i=n then v else f i) (by
  intro i hi
  split
  ·exact hv
  ·exact h1 i (by omega)) (by
  intro i j hi hj e
  split at e <;> split at e
  ·omega
  ·exact absurd e.symm (hc j (by omega))
  ·exact absurd e (hc i (by omega))
  ·exact h2 i j (by omega) (by omega) e)
 omega
theorem Zin {a n e:Nat}:(a%n)^e%n=a^e%n:=by rw [<- Nat.pow_mod]
def One (a m k:Nat):Prop:=a^k%m=1%m
theorem One.mul {a m k:Nat} (h:One a m k) (l:Nat):One a m (k*l):=by
 unfold One at *
 rw [Nat.pow_mul,Nat.pow_mod,h,<- Nat.pow_mod,Nat.one_pow]
theorem One.rest {a m k l:Nat} (h:One a m k) (h2:One a m l):One a m (k%l):=by
 have h3:=h2.mul (k / l)
 unfold One at *
 have e:k=l*(k / l)+k%l:=(Nat.div_add_mod k l).symm
 rw [e,Nat.pow_add,Nat.mul_mod,h3,<- Nat.mul_mod,Nat.one_mul] at h
 exact h
theorem One.gcd {a m:Nat} (k:Nat) : ∀ l,One a m k->One a m l->One a m (Nat.gcd k l):=by
 induction k using Nat.strongRecOn with
 | ind k ih =>
  intro l h h2
  by_cases hk:k=0
  ·subst hk; rw [Nat.gcd_zero_left]; exact h2
  ·rw [Nat.gcd_rec]
   exact ih (l%k) (Nat.mod_lt _ (by omega)) k (h2.rest h) h
def Zpu:List Nat->Nat
 | []=>1
 | r::rs=>r*Zpu rs
theorem Zr7 {m:Nat} (hm:1<m) : ∀ (rs:List Nat),(∀ r∈rs,Prm r)->m∣Zpu rs->∃ r,r∈rs/\r∣m
 | [],_,h=>by
  have:=Nat.le_of_dvd (by decide) h
  simp [Zpu] at this
  omega
 | r::rs,hp,h=>by
  have hr:=hp r List.mem_cons_self
  rcases hr.2 (Nat.gcd m r) (Nat.gcd_dvd_right m r) with h1 | h1
  ·have h2:m∣Zpu rs:=Nat.Coprime.dvd_of_dvd_mul_left h1 h
   obtain ⟨s,hs,hd⟩:=Zr7 hm rs (fun x hx=>hp x (List.mem_cons_of_mem _ hx)) h2
   exact ⟨s,List.mem_cons_of_mem _ hs,hd⟩
  ·exact ⟨r,List.mem_cons_self,by rw [<- h1]; exact Nat.gcd_dvd_left m r⟩
theorem Zr4 {a m n:Nat} {rs:List Nat} (hp : ∀ r∈rs,Prm r) (hn:Zpu rs=n) (h0:0<n) (h1:One a m n) (hr : ∀ r∈rs,¬ One a m (n / r)) {k:Nat} (hk:0<k) (hkn:k<n) : ¬ One a m k:=by
 intro h
 have hg:=One.gcd k n h h1
 have hd:Nat.gcd k n∣n:=Nat.gcd_dvd_right k n
 have hle:Nat.gcd k n<=k:=Nat.le_of_dvd hk (Nat.gcd_dvd_left k n)
 obtain ⟨q,hq⟩:=hd
 generalize Nat.gcd k n=g at *
 have hq1:1<q:=by
  rcases Nat.lt_or_ge 1 q with h | h
  ·exact h
  ·have:g*q<=g*1:=Nat.mul_le_mul_left g h
   omega
 obtain ⟨r,hrm,s,hs⟩:=Zr7 hq1 rs hp (by rw [hn,hq]; exact Nat.dvd_mul_left q g)
 have hr0:0<r:=by have:=(hp r hrm).1; omega
 apply hr r hrm
 have e:n / r=g*s:=by
  rw [hq,hs,<- Nat.mul_assoc,Nat.mul_comm g r,Nat.mul_assoc,Nat.mul_div_cancel_left _ hr0]
 rw [e]
 exact hg.mul s
theorem Zlg {a m n:Nat} (h1:One a m n) (ho : ∀ k,0<k->k<n->¬ One a m k) {i j:Nat} (hi:i<n) (hj:j<n) (e:a^i%m=a^j%m):i=j:=by
 have key : ∀ i j,i<j->j<n->a^i%m=a^j%m->False:=by
  intro i j hij hj e
  apply ho (j-i) (by omega) (by omega)
  have e2:a^(n-i)*a^i%m=a^(n-i)*a^j%m:=by rw [Nat.mul_mod,e,<- Nat.mul_mod]
  rw [<- Nat.pow_add,<- Nat.pow_add,show n-i+i=n by omega,show n-i+j=n+(j-i) by omega] at e2
  unfold One at h1 ⊢
  rw [h1,Nat.pow_add,Nat.mul_mod,h1,<- Nat.mul_mod,Nat.one_mul] at e2
  exact e2.symm
 rcases Nat.lt_trichotomy i j with h | h | h
 ·exact (key i j h hj e).elim
 ·exact h
 ·exact (key j i h hi e.symm).elim
theorem One.dvd {a m l k:Nat} (h:One a m k) (hl:l∣m):One a l k:=by
 unfold One at *
 obtain ⟨q,rfl⟩:=hl
 have:=congrArg (· % l) h
 simpa [Nat.mod_mul_right_mod] using this
theorem pock {n F c:Nat} {rs:List Nat} (h2:2<=n) (hp : ∀ r∈rs,Prm r) (hF:Zpu rs=F) (hF0:0<F) (hFn:n<F*F) (h1:One c n F) (hr : ∀ r∈rs,Nat.gcd (c^(F / r)%n+(n-1)) n=1):Prm n:=by
 have key : ∀ l,l∣n->2<=l->F<=l:=by
  intro l hl h2l
  have h1l:=h1.dvd hl
  have hol : ∀ k,0<k->k<F->¬ One c l k:=fun k hk hkF=>Zr4 hp hF hF0 h1l (fun r hrm hone=>by
   have hg:=hr r hrm
   have hd:l∣c^(F / r)%n+(n-1):=by
    unfold One at hone
    have e1:c^(F / r)%n%l=1%l:=by
     obtain ⟨q,rfl⟩:=hl
     rw [Nat.mod_mul_right_mod]; exact hone
    obtain ⟨q,rfl⟩:=hl
    apply Nat.dvd_of_mod_eq_zero
    rw [Nat.add_mod,e1,<- Nat.add_mod,show 1+(l*q-1)=l*q by omega,Nat.mul_mod_right]
   have:=Nat.dvd_gcd hd hl
   rw [hg] at this
   have:=Nat.le_of_dvd (by decide) this
   omega) hk hkF
  exact Zzt F l (fun i=>c^i%l) (fun i _=>Nat.mod_lt _ (by omega)) (fun i j hi hj e=>Zlg h1l hol hi hj e)
 refine ⟨h2,fun d hd=>?_⟩
 obtain ⟨q,hq⟩:=hd
 by_cases hd1:d=1
 ·exact .inl hd1
 by_cases hq1:q=1
 ·subst hq1; exact .inr (by omega)
 exfalso
 have hd0:d≠0:=fun h=>by subst h; simp at hq; omega
 have hq0:q≠0:=fun h=>by subst h; simp at hq; omega
 have a1:=key d ⟨q,hq⟩ (by omega)
 have a2:=key q ⟨d,by rw [hq,Nat.mul_comm]⟩ (by omega)
 have:=Nat.mul_le_mul a1 a2
 omega
def pm (m:Nat):Nat->Nat->Nat->Nat->Nat
  | 0,_,_,acc=>acc
  | f+1,a,e,acc=>pm m f (a*a%m) (e / 2) (if e%2=0 then acc else acc*a%m)
theorem Z02b (m f:Nat) : ∀ (a e acc:Nat),e<2^f->pm m f a e acc%m=acc*a^e%m:=by
  induction f with
  | zero => intro a e acc h; have : e = 0 := by simpa using h
            subst this; simp [pm]
  | succ f ih =>
    intro a e acc h
    have h2:e / 2<2^f:=by rw [Nat.pow_succ] at h; omega
    rw [pm,ih _ _ _ h2]
    have e1:e=2*(e / 2)+e%2:=(Nat.div_add_mod e 2).symm
    have e2:(a*a%m)^(e / 2)%m=a^(2*(e / 2))%m:=by rw [<- Nat.pow_mod,<- Nat.pow_two,<- Nat.pow_mul]
    by_cases hz:e%2=0
    · rw [if_pos hz,Nat.mul_mod,e2,<- Nat.mul_mod,show 2*(e / 2)=e by omega]
    · have e3:a^e=a*a^(2*(e / 2)):=by
        conv=>lhs; rw [e1,show e%2=1 by omega,Nat.pow_succ,Nat.mul_comm]
      rw [if_neg hz,Nat.mul_mod,e2,Nat.mod_mod,<- Nat.mul_mod,e3,Nat.mul_assoc]
theorem Zzq {a m e:Nat} (f:Nat) (h:e<2^f) (h1:(pm m f a e 1%m==1%m)=true):One a m e:=by
  have:=Z02b m f a e 1 h
  unfold One
  rw [Nat.one_mul] at this
  rw [<- this]
  simpa using h1
def chkP (n F c:Nat) (rs:List Nat):Bool :=
  Nat.ble 2 n&&(Zpu rs==F)&&Nat.ble 1 F&&Nat.blt n (F*F)&&Nat.blt F (2^256)&&(pm n 256 c F 1%n==1%n)&&rs.all fun r=>Nat.blt (F / r) (2^256)&&Nat.gcd (pm n 256 c (F / r) 1%n+(n-1)) n==1
theorem Zny {n F c:Nat} {rs:List Nat} (hp : ∀ r∈rs,Prm r) (h:chkP n F c rs=true):Prm n:=by
  unfold chkP at h
  simp only [Bool.and_eq_true,List.all_eq_true] at h
  obtain ⟨⟨⟨⟨⟨⟨h1,h2⟩,h3⟩,h4⟩,h5⟩,h6⟩,h7⟩:=h
  refine pock (F:=F) (c:=c) (rs:=rs) (Nat.le_of_ble_eq_true h1) hp (by simpa using h2) (Nat.le_of_ble_eq_true h3) (Nat.le_of_ble_eq_true h4) (Zzq 256 (Nat.le_of_ble_eq_true h5) h6) ?_
  intro r hr
  obtain ⟨a1,a2⟩:=h7 r hr
  have:=Z02b n 256 c (F / r) 1 (Nat.le_of_ble_eq_true a1)
  rw [Nat.one_mul] at this
  rw [<- this]
  simpa using a2
def tryD (n:Nat):Nat->Nat->Bool
  | 0,_=>true
  | f+1,d => !(n%d==0)&&tryD n f (d+1)
theorem Z03n (n f:Nat) : ∀ d,tryD n f d=true->∀ i,i<f->n%(d+i)≠0:=by
  induction f with
  | zero=>intros; omega
  | succ f ih =>
    intro d h i hi
    simp only [tryD,Bool.and_eq_true] at h
    cases i with
    | zero=>simpa using h.1
    | succ i=>have:=ih (d+1) h.2 i (by omega); rwa [show d+(i+1)=d+1+i by omega]
theorem Z96 (n f:Nat) (h:(Nat.ble 2 n&&tryD n f 2&&Nat.blt n ((f+2)*(f+2)))=true):Prm n:=by
  simp only [Bool.and_eq_true] at h
  obtain ⟨⟨h1,h2⟩,h3⟩:=h
  have h1:=Nat.le_of_ble_eq_true h1
  have h3:n<(f+2)*(f+2):=Nat.le_of_ble_eq_true h3
  have key : ∀ d,2<=d->d<f+2->¬ d∣n:=fun d a b hd=>by
    have:=Z03n n f 2 h2 (d-2) (by omega)
    rw [show 2+(d-2)=d by omega] at this
    exact this (Nat.mod_eq_zero_of_dvd hd)
  refine ⟨h1,fun d hd=>?_⟩
  obtain ⟨q,hq⟩:=hd
  by_cases hd1:d=1
  · exact .inl hd1
  by_cases hq1:q=1
  · subst hq1; exact .inr (by omega)
  exfalso
  have hd0:d≠0:=fun h=>by subst h; simp at hq; omega
  have hq0:q≠0:=fun h=>by subst h; simp at hq; omega
  have a1:f+2<=d:=by
    rcases Nat.lt_or_ge d (f+2) with h | h
    · exact absurd ⟨q,hq⟩ (key d (by omega) h)
    · exact h
  have a2:f+2<=q:=by
    rcases Nat.lt_or_ge q (f+2) with h | h
    · exact absurd ⟨d,by rw [hq,Nat.mul_comm]⟩ (key q (by omega) h)
    · exact h
  have:=Nat.mul_le_mul a1 a2
  omega
theorem Z00d {P:Nat->Prop} {a:Nat} (h:P a) : ∀ r ∈ [a],P r:=by intro r hr; rw [List.mem_singleton] at hr; subst hr; exact h
theorem Zm2 {P:Nat->Prop} {a b:Nat} (h:P a) (h2:P b) : ∀ r ∈ [a,b],P r:=by
  intro r hr
  simp only [List.mem_cons,List.not_mem_nil,or_false] at hr
  rcases hr with rfl | rfl
  · exact h
  · exact h2
theorem Zku:Prm 2773320623:=Z96 2773320623 52662 (by decide +kernel)
theorem Zjl:Prm 72106336199:=Zny (F:=2773320623) (c:=67108864) (rs:=[2773320623]) (Z00d Zku) (by decide +kernel)
theorem Zpt:Prm 8574133:=Z96 8574133 2928 (by decide +kernel)
theorem Z02d:Prm 127:=Z96 127 11 (by decide +kernel)
theorem Zf2:Prm 1919519569386763:=Zny (F:=1088914891) (c:=354538099852037) (rs:=[8574133,127]) (Zm2 Zpt Z02d) (by decide +kernel)
theorem Zsi:Prm 430751:=Z96 430751 656 (by decide +kernel)
theorem Zy8:Prm 4153:=Z96 4153 64 (by decide +kernel)
theorem Zdt:Prm 31757755568855353:=Zny (F:=1788908903) (c:=26222887164197666) (rs:=[430751,4153]) (Zm2 Zsi Zy8) (by decide +kernel)
theorem Z6a:Prm 75445702479781427272750846543864801:=Zny (F:=138409523410761641138333837) (c:=23520671056837248616447561120497838) (rs:=[1919519569386763,72106336199]) (Zm2 Zf2 Zjl) (by decide +kernel)
theorem Z1s:Prm 74058212732561358302231226437062788676166966415465897661863160754340907:=Zny (F:=2395986178073482737347378734667165195040796357129753) (c:=32917242187670345156894797748588826076355976820526874250530785709567478) (rs:=[75445702479781427272750846543864801,31757755568855353]) (Zm2 Z6a Zdt) (by decide +kernel)
abbrev pN:Nat:=57896044618658097711785492504343953926634992332820282019728792003956564819949
abbrev qN:Nat:=74058212732561358302231226437062788676166966415465897661863160754340907
theorem Z0as:Prm 2:=Z96 2 0 (by decide +kernel)
theorem Z0m0:Prm 3:=Z96 3 1 (by decide +kernel)
theorem Zux:Prm 65147:=Z96 65147 255 (by decide +kernel)
theorem Zup {a m e:Nat} (f:Nat) (h:e<2^f) (h1:(pm m f a e 1%m==1%m)=false) : ¬ One a m e:=by
 have:=Z02b m f a e 1 h
 intro h2
 unfold One at h2
 rw [Nat.one_mul,h2] at this
 rw [this] at h1
 simp at h1
theorem Zgn:One 2 pN (pN-1):=Zzq 256 (by decide +kernel) (by decide +kernel)
theorem Zsq {k:Nat} (hk:0<k) (hk2:k<pN-1) : ¬ One 2 pN k:=by
 refine Zr4 (rs:=[2,2,3,65147,qN]) ?_ (by decide +kernel) (by decide +kernel) Zgn ?_ hk hk2
 ·intro r hr
  simp only [List.mem_cons,List.not_mem_nil,or_false] at hr
  rcases hr with rfl | rfl | rfl | rfl | rfl
  ·exact Z0as
  ·exact Z0as
  ·exact Z0m0
  ·exact Zux
  ·exact Z1s
 ·intro r hr
  simp only [List.mem_cons,List.not_mem_nil,or_false] at hr
  rcases hr with rfl | rfl | rfl | rfl | rfl
  all_goals exact Zup 256 (by decide +kernel) (by decide +kernel)
theorem Zmy {i:Nat} (hi:i<pN-1):2^i%pN≠0:=by
 intro h
 have h1:=Zgn
 unfold One at h1
 rw [show pN-1=i+(pN-1-i) by omega,Nat.pow_add,Nat.mul_mod,h,Nat.zero_mul,Nat.zero_mod] at h1
 exact absurd h1 (by decide +kernel)
theorem Zyr {a:Nat} (ha:a%pN≠0) : ∃ i,i<pN-1/\2^i%pN=a%pN:=by
 have hlt : ∀ x,x%pN<pN:=fun x=>Nat.mod_lt _ (by decide +kernel)
 obtain ⟨i,hi,e⟩:=surj (n:=pN-1) (f:=fun i=>2^i%pN-1) (fun i hi=>by
  have:=hlt (2^i)
  have:=Zmy hi
  omega) (fun i j hi hj e=>by
  have:=Zmy hi
  have:=Zmy hj
  exact Zlg Zgn (fun k a b=>Zsq a b) hi hj (by omega)) (v:=a%pN-1) (by have:=hlt a; omega)
 refine ⟨i,hi,?_⟩
 have:=Zmy hi
 omega
theorem Zu1 {a:Nat} (ha:a%pN≠0):One a pN (pN-1):=by
 obtain ⟨i,_,e⟩:=Zyr ha
 have h:=Zgn.mul i
 unfold One at h ⊢
 rw [<- Zin,<- e,Zin,<- Nat.pow_mul,Nat.mul_comm]
 exact h
theorem Z01s {a:Nat} (ha:a%pN≠0):a*a^(pN-2)%pN=1:=by
 have h:=Zu1 ha
 unfold One at h
 rw [show pN-1=(pN-2)+1 by decide +kernel,Nat.pow_succ,Nat.mul_comm] at h
 rw [h]
 decide +kernel
theorem Z020 {d:Nat} (hd:(pm pN 256 d ((pN-1) / 2) 1%pN==1%pN)=false) (x:Nat) (hx:x%pN≠0):x*x%pN≠d%pN:=by
 intro e
 refine Zup 256 (by decide +kernel) hd ?_
 have h:=Zu1 hx
 unfold One at h ⊢
 rw [<- Zin,<- e,Zin,<- Nat.pow_two,<- Nat.pow_mul,show 2*((pN-1) / 2)=pN-1 by decide +kernel]
 exact h
abbrev dN:Nat:=37095705934669439343138083508754565189542113879843219016388785533085940283555
theorem Ztq (x:Nat) (hx:x%pN≠0):x*x%pN≠dN%pN:=Z020 (by decide +kernel) x hx
abbrev F:=Fin pN
theorem Zt6 (a:F) (ha:a≠0) : ∃ i:F,a*i=1:=by
 have h0:a.val%pN≠0:=by
  intro h
  apply ha
  rw [Nat.mod_eq_of_lt a.isLt] at h
  exact Fin.ext h
 have h:=Z01s h0
 refine ⟨⟨a.val^(pN-2)%pN,Nat.mod_lt _ (by decide +kernel)⟩,Fin.ext ?_⟩
 rw [Fin.val_mul]
 show a.val*(a.val^(pN-2)%pN)%pN=_
 generalize a.val^(pN-2)=z at *
 rw [Nat.mul_mod,Nat.mod_mod,<- Nat.mul_mod,h]
 decide +kernel
theorem Zlz {a b:F} (h:a*b=0):a=0∨b=0:=by
 by_cases ha:a=0
 ·exact .inl ha
 ·obtain ⟨i,hi⟩:=Zt6 a ha
  exact .inr (by grind -lia -linarith (splits:=0))
def dF:F:=⟨dN,by decide +kernel⟩
def iF:F:=⟨19681161376707505956807079304988542015446066515923890162744021073123829784752,by decide +kernel⟩
theorem Z0h0:iF*iF+1=0:=by decide +kernel
theorem Ztp (s t:F) (h:s*s=dF*(t*t)):t=0:=by
 false_or_by_contra
 rename_i ht
 obtain ⟨i,hi⟩:=Zt6 t ht
 have hx:(s*i)*(s*i)=dF:=by grind -lia -linarith (splits:=0)
 have h1:(s*i).val*(s*i).val%pN=dN%pN:=by
  have:=congrArg Fin.val hx
  rw [Fin.val_mul] at this
  rw [this]
  decide +kernel
 by_cases hz:(s*i).val%pN=0
 ·rw [Nat.mul_mod,hz] at h1
  exact absurd h1 (by decide +kernel)
 ·exact Ztq _ hz h1
structure On (x y:F):Prop where
 eq:y*y-x*x=1+dF*x*x*y*y
theorem Z0g0 (a:F) (h:a+a=0):a=0:=by
 obtain ⟨i,hi⟩:=Zt6 2 (by decide +kernel)
 grind -lia -linarith (splits:=0)
theorem Zzg {x1 y1 x2 y2:F} (h1:On x1 y1) (h2:On x2 y2):dF*x1*x2*y1*y2*(dF*x1*x2*y1*y2)≠1:=by
 intro h3
 have e1:=h1.eq
 have e2:=h2.eq
 have hi:=Z0h0
 obtain ⟨j,hj⟩ : ∃ j,j=iF:=⟨_,rfl⟩
 rw [<- hj] at hi
 obtain ⟨d,hd⟩ : ∃ d,d=dF:=⟨_,rfl⟩
 have nr : ∀ s t:F,s*s=d*(t*t)->t=0:=by rw [hd]; exact Ztp
 rw [<- hd] at e1 e2 h3
 clear hd hj h1 h2
 obtain ⟨e,he⟩ : ∃ e,e=d*x1*x2*y1*y2:=⟨_,rfl⟩
 rw [<- he] at h3
 -- with u = j x the curve is u u + y y = 1 - d u u y y
 have a1:x1*y1*(j*x2+y2)=0:=by
  refine nr (j*x1+e*y1) _ ?_
  grind -lia -linarith (splits:=0)
 have a2:x1*y1*(j*x2-y2)=0:=by
  refine nr (j*x1-e*y1) _ ?_
  grind -lia -linarith (splits:=0)
 have n1:x1*y1≠0:=fun h=>absurd (show (1:F)=0 by grind -lia -linarith (splits:=0)) (by decide +kernel)
 have b1:=(Zlz a1).resolve_left n1
 have b2:=(Zlz a2).resolve_left n1
 have b3:y2=0:=Z0g0 y2 (by grind -lia -linarith (splits:=0))
 exact absurd (show (1:F)=0 by grind -lia -linarith (splits:=0)) (by decide +kernel)
noncomputable def Zqw (a:F):F:=if h:a=0 then 0 else Classical.choose (Zt6 a h)
theorem Z5z {a:F} (ha:a≠0):a*Zqw a=1:=by
 unfold Zqw
 rw [dif_neg ha]
 exact Classical.choose_spec (Zt6 a ha)
theorem Ztr {x1 y1 x2 y2:F} (h1:On x1 y1) (h2:On x2 y2):1+dF*x1*x2*y1*y2≠0:=by
 intro h
 refine Zzg h1 h2 ?_
 generalize dF*x1*x2*y1*y2=e at *
 grind -lia -linarith (splits:=0)
theorem Zts {x1 y1 x2 y2:F} (h1:On x1 y1) (h2:On x2 y2):1-dF*x1*x2*y1*y2≠0:=by
 intro h
 refine Zzg h1 h2 ?_
 generalize dF*x1*x2*y1*y2=e at *
 grind -lia -linarith (splits:=0)
structure G where
 x:F
 y:F
 on:On x y
theorem Z00a {P Q:G} (hx:P.x=Q.x) (hy:P.y=Q.y):P=Q:=by
 cases P; cases Q
 simp only at hx hy
 subst hx; subst hy; rfl
theorem Z024 (a b u v d:F) (h1:b*b-a*a=1+d*a*a*b*b) (h2:v*v-u*u=1+d*u*u*v*v) :
  (b*v+a*u)*(b*v+a*u)*(1+d*a*u*b*v)*(1+d*a*u*b*v)-(a*v+b*u)*(a*v+b*u)*(1-d*a*u*b*v)*(1-d*a*u*b*v)-(1+d*a*u*b*v)*(1+d*a*u*b*v)*(1-d*a*u*b*v)*(1-d*a*u*b*v)-d*(a*v+b*u)*(a*v+b*u)*(b*v+a*u)*(b*v+a*u)=0:=by
 grind -lia -linarith (splits:=0)
theorem Z023 (A B C D i1 i2 d:F) (hB:B*i1=1) (hD:D*i2=1) (h:C*C*B*B-A*A*D*D-B*B*D*D-d*A*A*C*C=0) :
  C*i2*(C*i2)-A*i1*(A*i1)=1+d*(A*i1)*(A*i1)*(C*i2)*(C*i2):=by
 grind -lia -linarith (splits:=0)
noncomputable def Zcb (P Q:G):G :=
 ⟨(P.x*Q.y+P.y*Q.x)*Zqw (1+dF*P.x*Q.x*P.y*Q.y),(P.y*Q.y+P.x*Q.x)*Zqw (1-dF*P.x*Q.x*P.y*Q.y),
  ⟨Z023 _ _ _ _ _ _ _ (Z5z (Ztr P.on Q.on)) (Z5z (Zts P.on Q.on)) (Z024 P.x P.y Q.x Q.y dF P.on.eq Q.on.eq)⟩⟩
def Zeg:G:=⟨0,1,⟨by decide +kernel⟩⟩
theorem Zt8 (P Q:G):Zcb P Q=Zcb Q P:=by
 have e1:dF*P.x*Q.x*P.y*Q.y=dF*Q.x*P.x*Q.y*P.y:=by generalize dF=d; grind -lia -linarith (splits:=0)
 refine Z00a ?_ ?_
 ·show (P.x*Q.y+P.y*Q.x)*_=(Q.x*P.y+Q.y*P.x)*_
  rw [e1]; generalize Zqw _=i; grind -lia -linarith (splits:=0)
 ·show (P.y*Q.y+P.x*Q.x)*_=(Q.y*P.y+Q.x*P.x)*_
  rw [e1]; generalize Zqw _=i; grind -lia -linarith (splits:=0)
theorem Zwy (a b u v x y d:F) (h1:b*b-a*a=1+d*a*a*b*b) (h2:v*v-u*u=1+d*u*u*v*v) (h3:y*y-x*x=1+d*x*x*y*y):((a*v+b*u)*(1-d*a*u*b*v)*y+(b*v+a*u)*(1+d*a*u*b*v)*x)*((1+d*u*x*v*y)*(1-d*u*x*v*y)+d*(u*y+v*x)*(v*y+u*x)*a*b)-((u*y+v*x)*(1-d*u*x*v*y)*b+(v*y+u*x)*(1+d*u*x*v*y)*a)*((1+d*a*u*b*v)*(1-d*a*u*b*v)+d*(a*v+b*u)*(b*v+a*u)*x*y)=0:=by
 grind -lia -linarith (splits:=0)
theorem Zwz (a b u v x y d:F) (h1:b*b-a*a=1+d*a*a*b*b) (h2:v*v-u*u=1+d*u*u*v*v) (h3:y*y-x*x=1+d*x*x*y*y):((b*v+a*u)*(1+d*a*u*b*v)*y+(a*v+b*u)*(1-d*a*u*b*v)*x)*((1+d*u*x*v*y)*(1-d*u*x*v*y)-d*(u*y+v*x)*(v*y+u*x)*a*b)-((v*y+u*x)*(1+d*u*x*v*y)*b+(u*y+v*x)*(1-d*u*x*v*y)*a)*((1+d*a*u*b*v)*(1-d*a*u*b*v)-d*(a*v+b*u)*(b*v+a*u)*x*y)=0:=by
 grind -lia -linarith (splits:=0)
theorem Z04y (A B C D A2 B2 C2 D2 i1 i2 i3 i4 x1 y1 x3 y3 d j k:F) (hB:B*i1=1) (hD:D*i2=1) (hB2:B2*i3=1) (hD2:D2*i4=1)
  (h:(A*D*y3+C*B*x3)*(B2*D2+d*A2*C2*x1*y1)-(A2*D2*y1+C2*B2*x1)*(B*D+d*A*C*x3*y3)=0) :
  (A*i1*y3+C*i2*x3)*(1+d*(A2*i3)*(C2*i4)*x1*y1)=(A2*i3*y1+C2*i4*x1)*(1+d*(A*i1)*(C*i2)*x3*y3):=by
 grind -lia -linarith (splits:=0)
theorem Z04z (A B C D A2 B2 C2 D2 i1 i2 i3 i4 x1 y1 x3 y3 d j k:F) (hB:B*i1=1) (hD:D*i2=1) (hB2:B2*i3=1) (hD2:D2*i4=1)
  (h:(C*B*y3+A*D*x3)*(B2*D2-d*A2*C2*x1*y1)-(C2*B2*y1+A2*D2*x1)*(B*D-d*A*C*x3*y3)=0) :
  (C*i2*y3+A*i1*x3)*(1-d*(A2*i3)*(C2*i4)*x1*y1)=(C2*i4*y1+A2*i3*x1)*(1-d*(A*i1)*(C*i2)*x3*y3):=by
 grind -lia -linarith (splits:=0)
theorem Z0gy (X Y U V x1 y1 x3 y3 d j k:F) (h:(X*y3+Y*x3)*(1+d*U*V*x1*y1)=(U*y1+V*x1)*(1+d*X*Y*x3*y3)) (hj:(1+d*X*x3*Y*y3)*j=1) (hk:(1+d*x1*U*y1*V)*k=1) :
  (X*y3+Y*x3)*j=(x1*V+y1*U)*k:=by grind -lia -linarith (splits:=0)
theorem Z0gz (X Y U V x1 y1 x3 y3 d j k:F) (h:(Y*y3+X*x3)*(1-d*U*V*x1*y1)=(V*y1+U*x1)*(1-d*X*Y*x3*y3)) (hj:(1-d*X*x3*Y*y3)*j=1) (hk:(1-d*x1*U*y1*V)*k=1) :
  (Y*y3+X*x3)*j=(y1*V+x1*U)*k:=by grind -lia -linarith (splits:=0)
theorem Zrx (P Q R:G):Zcb (Zcb P Q) R=Zcb P (Zcb Q R):=by
 have b1:=Z5z (Ztr P.on Q.on)
 have b2:=Z5z (Zts P.on Q.on)
 have b3:=Z5z (Ztr Q.on R.on)
 have b4:=Z5z (Zts Q.on R.on)
 refine Z00a ?_ ?_
 ·refine Z0gy _ _ _ _ P.x P.y R.x R.y dF _ _ ?_ (Z5z (Ztr (Zcb P Q).on R.on)) (Z5z (Ztr P.on (Zcb Q R).on))
  exact Z04y _ _ _ _ _ _ _ _ _ _ _ _ P.x P.y R.x R.y dF 0 0 b1 b2 b3 b4 (Zwy P.x P.y Q.x Q.y R.x R.y dF P.on.eq Q.on.eq R.on.eq)
 ·refine Z0gz _ _ _ _ P.x P.y R.x R.y dF _ _ ?_ (Z5z (Zts (Zcb P Q).on R.on)) (Z5z (Zts P.on (Zcb Q R).on))
  exact Z04z _ _ _ _ _ _ _ _ _ _ _ _ P.x P.y R.x R.y dF 0 0 b1 b2 b3 b4 (Zwz P.x P.y Q.x Q.y R.x R.y dF P.on.eq Q.on.eq R.on.eq)
theorem Zn7 (P:G):Zcb P Zeg=P:=by
 have b1:=Z5z (Ztr P.on Zeg.on)
 have b2:=Z5z (Zts P.on Zeg.on)
 have z1:Zeg.x=0:=rfl
 have z2:Zeg.y=1:=rfl
 refine Z00a ?_ ?_
 ·show (P.x*Zeg.y+P.y*Zeg.x)*Zqw _=P.x
  generalize Zqw (1+dF*P.x*Zeg.x*P.y*Zeg.y)=i at *
  rw [z1,z2] at *
  generalize dF=d at *
  grind -lia -linarith (splits:=0)
 ·show (P.y*Zeg.y+P.x*Zeg.x)*Zqw _=P.y
  generalize Zqw (1-dF*P.x*Zeg.x*P.y*Zeg.y)=i at *
  rw [z1,z2] at *
  generalize dF=d at *
  grind -lia -linarith (splits:=0)
theorem Zwq (P:G):Zcb Zeg P=P:=by rw [Zt8,Zn7]
noncomputable def Zjf:Nat->G->G
 | 0,_=>Zeg
 | n+1,P=>Zcb (Zjf n P) P
theorem Zil (m n:Nat) (P:G):Zjf (m+n) P=Zcb (Zjf m P) (Zjf n P):=by
 induction n with
 | zero=>exact (Zn7 _).symm
 | succ n ih =>
  show Zcb (Zjf (m+n) P) P=Zcb (Zjf m P) (Zcb (Zjf n P) P)
  rw [ih,Zrx]
theorem Z9s (m n:Nat) (P:G):Zjf (m*n) P=Zjf m (Zjf n P):=by
 induction m with
 | zero=>rw [Nat.zero_mul]; rfl
 | succ m ih=>rw [Nat.succ_mul,Zil,ih]; rfl
def fi (n:Int):F:=⟨(n%57896044618658097711785492504343953926634992332820282019728792003956564819949).toNat,by
 show _<57896044618658097711785492504343953926634992332820282019728792003956564819949
 omega⟩
theorem Zdk (n:Int):((fi n).val:Int)=n%57896044618658097711785492504343953926634992332820282019728792003956564819949:=by
 show (((n%_).toNat:Nat):Int)=_
 omega
theorem Z025:(pN:Int)=57896044618658097711785492504343953926634992332820282019728792003956564819949:=by decide +kernel
theorem Z0gx {a b:Int}:fi a=fi b↔a%57896044618658097711785492504343953926634992332820282019728792003956564819949=b%57896044618658097711785492504343953926634992332820282019728792003956564819949:=by
 constructor
 ·intro h
  rw [<- Zdk,<- Zdk,h]
 ·intro h
  apply Fin.ext
  have:((fi a).val:Int)=((fi b).val:Int):=by rw [Zdk,Zdk,h]
  omega
theorem Za8 (a b:Int):fi (a+b)=fi a+fi b:=by
 apply Fin.ext
 rw [Fin.val_add]
 apply Int.ofNat_inj.1
 rw [Zdk,Int.natCast_emod,Int.natCast_add,Zdk,Zdk,Z025]
 exact Int.add_emod _ _ _
theorem Z2b (a b:Int):fi (a*b)=fi a*fi b:=by
 apply Fin.ext
 rw [Fin.val_mul]
 apply Int.ofNat_inj.1
 rw [Zdk,Int.natCast_emod,Int.natCast_mul,Zdk,Zdk,Z025]
 exact Int.mul_emod _ _ _
theorem fi_1:fi 1=1:=by decide +kernel
theorem Zdj (a b:Int):fi (a-b)=fi a-fi b:=by
 have h:=Za8 (a-b) b
 rw [Int.sub_add_cancel] at h
 grind -lia -linarith (splits:=0)
theorem Zcz (a:Int):fi (a%57896044618658097711785492504343953926634992332820282019728792003956564819949)=fi a:=by
 rw [Z0gx]; exact Int.emod_emod_of_dvd _ (Int.dvd_refl _)
def fv (x:F):Int:=(x.val:Int)
theorem Zqs (x:F):0<=fv x/\fv x<57896044618658097711785492504343953926634992332820282019728792003956564819949:=by
 have:=x.isLt
 have h:=Z025
 unfold fv
 omega
theorem Zxh (n:Int):fv (fi n)=n%57896044618658097711785492504343953926634992332820282019728792003956564819949:=Zdk n
def pwF (x:F):Nat->F
 | 0=>1
 | n+1=>pwF x n*x
theorem Zr8 (x:F):pwF x 0=1:=rfl
theorem Zgc (x:F) (n:Nat):pwF x (n+1)=pwF x n*x:=rfl
theorem Zv1 (x:F) (m n:Nat):pwF x (m+n)=pwF x m*pwF x n:=by
 induction n with
 | zero=>rw [Nat.add_zero,Zr8]; generalize pwF x m=z; grind -lia -linarith (splits:=0)
 | succ n ih=>rw [<- Nat.add_assoc,Zgc,Zgc,ih]; generalize pwF x m=z; generalize pwF x n=w; grind -lia -linarith (splits:=0)
theorem Z02g (x:F) (n:Nat):(pwF x n).val=x.val^n%pN:=by
 induction n with
 | zero=>rw [Zr8,Nat.pow_zero]; decide +kernel
 | succ n ih=>rw [Zgc,Fin.val_mul,ih,Nat.mod_mul_mod,Nat.pow_succ]
theorem Z01n {x:F} {n:Nat} (hn:n=pN-1) (hx:x≠0):pwF x n=1:=by
 have h0:x.val%pN≠0:=by
  intro h
  apply hx
  rw [Nat.mod_eq_of_lt x.isLt] at h
  exact Fin.ext h
 have h:=Zu1 h0
 rw [<- hn] at h
 unfold One at h
 apply Fin.ext
 rw [Z02g,h]
 decide +kernel
theorem Zu9 {x:F} {n:Nat} (hn:n+2=pN) (hx:x≠0):x*pwF x n=1:=by
 have h:=Z01n (n:=n+1) (by omega) hx
 rw [Zgc] at h
 rw [<- h]
 generalize pwF x n=z
 grind -lia -linarith (splits:=0)
end Go.Proofs.YtiflckckekjbnaaGreatDoor
namespace Go.Proofs.YtiflckckekjbnaaGreatDoor
open Go Go.Sx Go.RowKit
set_option linter.all false
set_option maxRecDepth 100000
structure Rep (q:Q4) (P:G):Prop where
 z:fi q.z≠0
 x:fi q.x=P.x*fi q.z
 y:fi q.y=P.y*fi q.z
 t:fi q.t=P.x*P.y*fi q.z
theorem Z04w:fi D2=dF+dF:=by decide +kernel
theorem Z04x:fi DD=dF:=by decide +kernel
theorem Z95 {a b:F} (ha:a≠0) (hb:b≠0):a*b≠0:=fun h=>(Zlz h).elim ha hb
theorem Z0o1:(1:F)+1≠0:=by decide +kernel
theorem Zlj {e f g h:Int} {P:G} (hf:fi f≠0) (hg:fi g≠0) (he:fi e=P.x*fi g) (hh:fi h=P.y*fi f):Rep (Zmu e f g h) P:=by
 constructor
 ·show fi (f*g)≠0
  rw [Z2b]; exact Z95 hf hg
 ·show fi (e*f)=_*fi (f*g)
  rw [Z2b,Z2b,he]; grind -lia -linarith (splits:=0)
 ·show fi (g*h)=_*fi (f*g)
  rw [Z2b,Z2b,hh]; grind -lia -linarith (splits:=0)
 ·show fi (e*h)=_*fi (f*g)
  rw [Z2b,Z2b,he,hh]; grind -lia -linarith (splits:=0)
theorem Zqc (P Q:G):(Zcb P Q).x*(1+dF*P.x*Q.x*P.y*Q.y)=P.x*Q.y+P.y*Q.x:=by
 have h:=Z5z (Ztr P.on Q.on)
 show (P.x*Q.y+P.y*Q.x)*Zqw (1+dF*P.x*Q.x*P.y*Q.y)*_=_
 generalize Zqw (1+dF*P.x*Q.x*P.y*Q.y)=i at *
 generalize dF=d at *
 grind -lia -linarith (splits:=0)
theorem Zqd (P Q:G):(Zcb P Q).y*(1-dF*P.x*Q.x*P.y*Q.y)=P.y*Q.y+P.x*Q.x:=by
 have h:=Z5z (Zts P.on Q.on)
 show (P.y*Q.y+P.x*Q.x)*Zqw (1-dF*P.x*Q.x*P.y*Q.y)*_=_
 generalize Zqw (1-dF*P.x*Q.x*P.y*Q.y)=i at *
 generalize dF=d at *
 grind -lia -linarith (splits:=0)
theorem Z038 {p q:Q4} {P Q:G} (hp:Rep p P) (hq:Rep q Q):Rep (qadd p q) (Zcb P Q):=by
 have d1:=Ztr P.on Q.on
 have d2:=Zts P.on Q.on
 have ax:=Zqc P Q
 have ay:=Zqd P Q
 have hz:=Z95 Z0o1 (Z95 hp.z hq.z)
 have ef:fi ((p.z+p.z)*q.z-p.t*D2*q.t)=(1+1)*(fi p.z*fi q.z)*(1-dF*P.x*Q.x*P.y*Q.y):=by
  simp only [Z2b,Zdj,Za8,Z04w,hp.t,hq.t]
  generalize dF=d at *
  grind -lia -linarith (splits:=0)
 have eg:fi ((p.z+p.z)*q.z+p.t*D2*q.t)=(1+1)*(fi p.z*fi q.z)*(1+dF*P.x*Q.x*P.y*Q.y):=by
  simp only [Z2b,Zdj,Za8,Z04w,hp.t,hq.t]
  generalize dF=d at *
  grind -lia -linarith (splits:=0)
 refine Zlj ?_ ?_ ?_ ?_
 ·rw [ef]; exact Z95 hz d2
 ·rw [eg]; exact Z95 hz d1
 ·rw [eg]
  simp only [Z2b,Zdj,Za8,hp.x,hq.x,hp.y,hq.y]
  generalize dF=d at *
  generalize (Zcb P Q).x=X at *
  grind -lia -linarith (splits:=0)
 ·rw [ef]
  simp only [Z2b,Zdj,Za8,hp.x,hq.x,hp.y,hq.y]
  generalize dF=d at *
  generalize (Zcb P Q).y=Y at *
  grind -lia -linarith (splits:=0)
theorem Z03a {p:Q4} {P:G} (hp:Rep p P):Rep (qdbl p) (Zcb P P):=by
 have d1:=Ztr P.on P.on
 have d2:=Zts P.on P.on
 have ax:=Zqc P P
 have ay:=Zqd P P
 have on:=P.on.eq
 have ef:fi (p.z*p.z+p.z*p.z+(p.x*p.x-p.y*p.y))=(fi p.z*fi p.z)*(1-dF*P.x*P.x*P.y*P.y):=by
  simp only [Z2b,Zdj,Za8,hp.x,hp.y]
  generalize dF=d at *
  grind -lia -linarith (splits:=0)
 have eg:fi (p.x*p.x-p.y*p.y) = - (fi p.z*fi p.z)*(1+dF*P.x*P.x*P.y*P.y):=by
  simp only [Z2b,Zdj,Za8,hp.x,hp.y]
  generalize dF=d at *
  grind -lia -linarith (splits:=0)
 have hz:=Z95 hp.z hp.z
 have hz' : - (fi p.z*fi p.z)≠0:=by
  intro h; apply hz
  grind -lia -linarith (splits:=0)
 refine Zlj ?_ ?_ ?_ ?_
 ·rw [ef]; exact Z95 hz d2
 ·rw [eg]; exact Z95 hz' d1
 ·rw [eg]
  simp only [Z2b,Zdj,Za8,hp.x,hp.y]
  generalize dF=d at *
  generalize (Zcb P P).x=X at *
  grind -lia -linarith (splits:=0)
 ·rw [ef]
  simp only [Z2b,Zdj,Za8,hp.x,hp.y]
  generalize dF=d at *
  generalize (Zcb P P).y=Y at *
  grind -lia -linarith (splits:=0)
theorem Zvh {q:Q4} {P:G} (h:Rep q P):Rep (qred q) P:=by
 constructor
 ·show fi (q.z%PP)≠0; rw [Zcz]; exact h.z
 ·show fi (q.x%PP)=_*fi (q.z%PP); rw [Zcz,Zcz]; exact h.x
 ·show fi (q.y%PP)=_*fi (q.z%PP); rw [Zcz,Zcz]; exact h.y
 ·show fi (q.t%PP)=_*fi (q.z%PP); rw [Zcz,Zcz]; exact h.t
theorem Zre:Rep Zv5 Zeg:=by
 constructor
 ·show fi 1≠0; decide +kernel
 ·show fi 0=0*fi 1; decide +kernel
 ·show fi 1=1*fi 1; decide +kernel
 ·show fi 0=0*1*fi 1; decide +kernel
theorem Zrc {p q:Q4} {P Q:G} (hp:Rep p P) (hq:Rep q Q):Rep (Zq0 p q) (Zcb P Q):=Zvh (Z038 hp hq)
theorem Zir {p:Q4} {P:G} (hp:Rep p P):Rep (Zeb p) (Zcb P P):=Zvh (Z03a hp)
theorem Zvi {p:Q4} {P:G} (hp:Rep p P) : ∀ j,Rep (tab p j) (Zjf j P)
 | 0=>Zre
 | j+1=>Zrc (Zvi hp j) hp
theorem Zxr (P:G):Zjf 1 P=P:=Zwq P
theorem Zb4 (P:G):Zjf 2 P=Zcb P P:=by
 show Zcb (Zjf 1 P) P=_
 rw [Zxr]
theorem Zyl {p:Q4} {P:G} (hp:Rep p P):Rep (Zs2 p) (Zjf 16 P):=by
 have h:=Zir (Zir (Zir (Zir hp)))
 rw [<- Zb4,<- Zb4,<- Zb4,<- Zb4,<- Z9s,<- Z9s,<- Z9s] at h
 exact h
def Zzn (k:LI):Nat->Nat
 | 0=>0
 | i+1=>16*Zzn k i+(nib k i).toNat
theorem Zrd {p:Q4} {P:G} (k:LI) (hp:Rep p P) : ∀ i,Rep (Zoa k p i) (Zjf (Zzn k i) P)
 | 0=>Zre
 | i+1=>by
  have h:=Zrc (Zyl (Zrd k hp i)) (Zvi hp (nib k i).toNat)
  rw [<- Z9s,<- Zil] at h
  exact h
def Zj9 (k:LI):Nat->Int
 | 0=>0
 | j+1=>Zj9 k j*256+k.getD (31-j) 0
theorem Zmg {k:LI} (hk:Byt k) : ∀ j,(Zzn k (2*j):Int)=Zj9 k j
 | 0=>rfl
 | j+1=>by
  have ih:=Zmg hk j
  have hb:=hk (31-j)
  have e1:nib k (2*j)=k.getD (31-j) 0 / 16%16:=by unfold nib; rw [if_pos (by omega),show 2*j / 2=j by omega]
  have e2:nib k (2*j+1)=k.getD (31-j) 0%16:=by unfold nib; rw [if_neg (by omega),show (2*j+1) / 2=j by omega]
  show ((16*(16*Zzn k (2*j)+(nib k (2*j)).toNat)+(nib k (2*j+1)).toNat:Nat):Int)=Zj9 k j*256+k.getD (31-j) 0
  rw [e1,e2]
  generalize k.getD (31-j) 0=b at *
  generalize Zzn k (2*j)=n at *
  generalize Zj9 k j=m at *
  omega
def Zlu (x:LI):Int:=x.getD 0 0+x.getD 1 0*256+x.getD 2 0*65536+x.getD 3 0*16777216+x.getD 4 0*4294967296+x.getD 5 0*1099511627776+x.getD 6 0*281474976710656+x.getD 7 0*72057594037927936+x.getD 8 0*18446744073709551616+x.getD 9 0*4722366482869645213696+x.getD 10 0*1208925819614629174706176+x.getD 11 0*309485009821345068724781056+x.getD 12 0*79228162514264337593543950336+x.getD 13 0*20282409603651670423947251286016+x.getD 14 0*5192296858534827628530496329220096+x.getD 15 0*1329227995784915872903807060280344576+x.getD 16 0*340282366920938463463374607431768211456+x.getD 17 0*87112285931760246646623899502532662132736+x.getD 18 0*22300745198530623141535718272648361505980416+x.getD 19 0*5708990770823839524233143877797980545530986496+x.getD 20 0*1461501637330902918203684832716283019655932542976+x.getD 21 0*374144419156711147060143317175368453031918731001856+x.getD 22 0*95780971304118053647396689196894323976171195136475136+x.getD 23 0*24519928653854221733733552434404946937899825954937634816+x.getD 24 0*6277101735386680763835789423207666416102355444464034512896+x.getD 25 0*1606938044258990275541962092341162602522202993782792835301376+x.getD 26 0*411376139330301510538742295639337626245683966408394965837152256+x.getD 27 0*105312291668557186697918027683670432318895095400549111254310977536+x.getD 28 0*26959946667150639794667015087019630673637144422540572481103610249216+x.getD 29 0*6901746346790563787434755862277025452451108972170386555162524223799296+x.getD 30 0*1766847064778384329583297500742918515827483896875618958121606201292619776+x.getD 31 0*452312848583266388373324160190187140051835877600158453279131187530910662656
theorem Zfj (k:LI):Zj9 k 32=Zlu k:=by
 simp only [Zj9,Zlu]
 simp only [Nat.reduceSub]
 omega
theorem Z01x {k:LI} (hk:Byt k):Zzn k 64=(Zlu k).toNat:=by
 have h:(Zzn k 64:Int)=Zj9 k 32:=Zmg hk 32
 rw [Zfj] at h
 omega
theorem Zcv {k:LI} (hk:Byt k):0<=Zlu k:=by
 have h:(Zzn k 64:Int)=Zj9 k 32:=Zmg hk 32
 rw [Zfj] at h
 omega
def bnum (e:LI):Nat->Nat
 | 0=>0
 | k+1=>if ebit e (255-k) then 2*bnum e k+1 else 2*bnum e k
theorem Zxe (x:Int) (e:LI) : ∀ k,fi (pw x e k)=pwF (fi x) (bnum e k)
 | 0=>fi_1
 | k+1=>by
  have ih:=Zxe x e k
  simp only [pw,bnum]
  split
  ·rw [Zcz,Z2b,Zcz,Z2b,ih,Zgc,Nat.two_mul,Zv1]
  ·rw [Zcz,Z2b,ih,Nat.two_mul,Zv1]
theorem Zqf:bnum Zp2 256+2=pN:=by decide +kernel
theorem Z01o {a:Int} (h:fi a≠0):fi a*fi (Zu2 a)=1:=by
 unfold Zu2
 rw [Zxe,Zcz]
 exact Zu9 Zqf h
def encG (P:G):LI:=Zpb (fv P.x) (fv P.y)
theorem Zpc {x y u v:Int} (h1:x%PP=u%PP) (h2:y%PP=v%PP):Zpb x y=Zpb u v:=by
 unfold Zpb; rw [h1,h2]
theorem Z039 {q:Q4} {P:G} (h:Rep q P):fi (q.x*Zu2 q.z)=P.x/\fi (q.y*Zu2 q.z)=P.y:=by
 have hi:=Z01o h.z
 rw [Z2b,Z2b,h.x,h.y]
 generalize fi (Zu2 q.z)=i at *
 generalize fi q.z=z at *
 exact ⟨by grind -lia -linarith (splits:=0),by grind -lia -linarith (splits:=0)⟩
theorem Zqr (x:F):fv x%PP=fv x:=Int.emod_eq_of_lt (Zqs x).1 (Zqs x).2
theorem Z01k {q:Q4} {P:G} (h:Rep q P):encQ q=encG P:=by
 have ha:=Z039 h
 refine Zpc ?_ ?_
 ·rw [Zqr,<- ha.1,Zxh]
 ·rw [Zqr,<- ha.2,Zxh]
theorem Z00k (n:Int):Byt (byt n):=Z9p (by
 unfold byt
 repeat' (first | exact List.forall_mem_nil _ | refine List.forall_mem_cons.2 ⟨?_,?_⟩)
 all_goals omega)
theorem Zs1 (n:Int):(byt n).length=32:=rfl
theorem Z0lu {x:Int} (h0:0<=x) (h1:x<128):Za .or .u8 x 128=x+128:=by
 have:x=((x.toNat:Nat):Int):=by omega
 rw [this]
 have hx:x.toNat<128:=by omega
 generalize x.toNat=n at *
 have h : ∀ n:Fin 128,Za .or .u8 ((n.val:Nat):Int) 128=(n.val:Int)+128:=by decide +kernel
 exact h ⟨n,hx⟩
theorem Z04a {n:Int} (h0:0<=n) (h1:n<PP):0<=(byt n).getD 31 0/\(byt n).getD 31 0<128:=by
 have e:(byt n).getD 31 0=n / 452312848583266388373324160190187140051835877600158453279131187530910662656%256:=rfl
 rw [e]
 unfold PP at h1
 omega
end Go.Proofs.YtiflckckekjbnaaGreatDoor
namespace Go.Proofs.YtiflckckekjbnaaGreatDoor
open Go Go.Sx Go.RowKit
open Go.IntKind (wrap)
set_option linter.all false
set_option maxRecDepth 100000
set_option maxHeartbeats 1000000
def rV (l:LI):Nat->Int
  | 0=>0
  | n+1=>rV l n+l.getD n 0*(67108864:Int)^n
theorem Z8k (l:LI) (n:Nat):rV l (n+1)=rV l n+l.getD n 0*(67108864:Int)^n:=rfl
theorem Zk4 (l:LI) (i:Nat) (v:Int) : ∀ n,n<=i->rV (Z28 l i v) n=rV l n
  | 0,_=>rfl
  | n+1,h=>by rw [Z8k,Z8k,Zk4 l i v n (by omega),Z17,if_neg (by omega)]
theorem Zhx (l:LI) (i:Nat) (v:Int) : ∀ n,i<n->rV (Z28 l i v) n=rV l n+(v-l.getD i 0)*(67108864:Int)^i
  | 0,h=>by omega
  | n+1,h=>by
    rw [Z8k,Z8k,Z17]
    by_cases hi:n=i
    · subst hi
      rw [if_pos rfl,Zk4 l n v n (Nat.le_refl _),Int.sub_mul]
      omega
    · rw [if_neg hi,Zhx l i v n (by omega)]
      omega
theorem Zrf (n:Nat):0<(67108864:Int)^n:=Int.pow_pos (by decide)
theorem Zk3 {l:LI} : ∀ n,(∀ i,i<n->0<=l.getD i 0/\l.getD i 0<67108864)->0<=rV l n/\rV l n<(67108864:Int)^n
  | 0,_=>by show (0:Int)<=0/\(0:Int)<1; omega
  | n+1,h=>by
    have ih:=Zk3 n (fun i hi=>h i (by omega))
    have h1:=h n (by omega)
    have hp:=Zrf n
    rw [Z8k,Int.pow_succ]
    generalize (67108864:Int)^n=w at *
    generalize l.getD n 0=x at *
    generalize rV l n=v at *
    have a:0<=x*w:=Int.mul_nonneg h1.1 (by omega)
    have b:x*w<=67108863*w:=Int.mul_le_mul_of_nonneg_right (by omega) (by omega)
    omega
theorem Ztc {x:Int} (h0:0<=x) (h1:x<18446744073709551616):Za .and .u64 x 67108863=x%67108864:=Ziw 26 (by decide) (by decide) h0 h1
theorem Z0gl {x:Int} (h0:0<=x) (h1:x<18446744073709551616):Za .and .u64 x 2097151=x%2097152:=Ziw 21 (by decide) (by decide) h0 h1
theorem Zyx (x:Int):Z0f .u64 x 26=x / 67108864:=by have:=Z9r .u64 (x:=x) (n:=26) (by decide); simpa using this
theorem Z0nw (x:Int):Z0f .u64 x 21=x / 2097152:=by have:=Z9r .u64 (x:=x) (n:=21) (by decide); simpa using this
theorem Z0ny (x:Int):Z0f .u64 x 52=x / 4503599627370496:=by have:=Z9r .u64 (x:=x) (n:=52) (by decide); simpa using this
theorem Z4s {l:LI} {i:Nat} {v:Int} (h:i<l.length):(Z28 l i v).length=l.length:=by rw [Zw2 h,List.length_set]
theorem Z5g {i:Nat} (h:i<1000000):wrap .i64 ((i:Int)+1)=((i+1:Nat):Int):=by rw [Zl (by omega) (by omega)]; rfl
def Zwv (n:Int):LI:=[n%67108864,n / 67108864%67108864,n / 4503599627370496%67108864,n / 302231454903657293676544%67108864,n / 20282409603651670423947251286016%67108864,n / 1361129467683753853853498429727072845824%67108864,n / 91343852333181432387730302044767688728495783936%67108864,n / 6129982163463555433433388108601236734474956488734408704%67108864,n / 411376139330301510538742295639337626245683966408394965837152256%67108864,n / 27606985387162255149739023449108101809804435888681546220650096895197184%67108864]
def rn (n:Int):LI:=Zwv (n%PP)
theorem Zoc (l:LI):rV l 10=l.getD 0 0+l.getD 1 0*67108864+l.getD 2 0*4503599627370496+l.getD 3 0*302231454903657293676544+l.getD 4 0*20282409603651670423947251286016+l.getD 5 0*1361129467683753853853498429727072845824+l.getD 6 0*91343852333181432387730302044767688728495783936+l.getD 7 0*6129982163463555433433388108601236734474956488734408704+l.getD 8 0*411376139330301510538742295639337626245683966408394965837152256+l.getD 9 0*27606985387162255149739023449108101809804435888681546220650096895197184:=by
  simp only [rV]
  have e0:(67108864:Int)^0=1:=by decide
  have e1:(67108864:Int)^1=67108864:=by decide
  have e2:(67108864:Int)^2=4503599627370496:=by decide
  have e3:(67108864:Int)^3=302231454903657293676544:=by decide
  have e4:(67108864:Int)^4=20282409603651670423947251286016:=by decide
  have e5:(67108864:Int)^5=1361129467683753853853498429727072845824:=by decide
  have e6:(67108864:Int)^6=91343852333181432387730302044767688728495783936:=by decide
  have e7:(67108864:Int)^7=6129982163463555433433388108601236734474956488734408704:=by decide
  have e8:(67108864:Int)^8=411376139330301510538742295639337626245683966408394965837152256:=by decide
  have e9:(67108864:Int)^9=27606985387162255149739023449108101809804435888681546220650096895197184:=by decide
  rw [e0,e1,e2,e3,e4,e5,e6,e7,e8,e9]
  omega
theorem Zik {l:LI} (h:l.length=10):l = [l.getD 0 0,l.getD 1 0,l.getD 2 0,l.getD 3 0,l.getD 4 0,l.getD 5 0,l.getD 6 0,l.getD 7 0,l.getD 8 0,l.getD 9 0]:=by
  match l,h with
  | [a0,a1,a2,a3,a4,a5,a6,a7,a8,a9],_=>rfl
theorem Zk5 {l:LI} (hl:l.length=10) (hd : ∀ i,0<=l.getD i 0/\l.getD i 0<67108864):l=Zwv (rV l 10):=by
  rw [Zoc]
  have e:=Zik hl
  have h0:=hd 0
  have h1:=hd 1
  have h2:=hd 2
  have h3:=hd 3
  have h4:=hd 4
  have h5:=hd 5
  have h6:=hd 6
  have h7:=hd 7
  have h8:=hd 8
  have h9:=hd 9
  generalize hq:l.getD 0 0+l.getD 1 0*67108864+l.getD 2 0*4503599627370496+l.getD 3 0*302231454903657293676544+l.getD 4 0*20282409603651670423947251286016+l.getD 5 0*1361129467683753853853498429727072845824+l.getD 6 0*91343852333181432387730302044767688728495783936+l.getD 7 0*6129982163463555433433388108601236734474956488734408704+l.getD 8 0*411376139330301510538742295639337626245683966408394965837152256+l.getD 9 0*27606985387162255149739023449108101809804435888681546220650096895197184=n
  refine e.trans ?_
  clear e hd hl
  generalize l.getD 0 0=d0 at *
  generalize l.getD 1 0=d1 at *
  generalize l.getD 2 0=d2 at *
  generalize l.getD 3 0=d3 at *
  generalize l.getD 4 0=d4 at *
  generalize l.getD 5 0=d5 at *
  generalize l.getD 6 0=d6 at *
  generalize l.getD 7 0=d7 at *
  generalize l.getD 8 0=d8 at *
  generalize l.getD 9 0=d9 at *
  unfold Zwv
  simp only [List.cons.injEq,and_true]
  refine ⟨?_,?_,?_,?_,?_,?_,?_,?_,?_,?_⟩ <;> omega
theorem Zyh (n:Int) : ∀ i,0<=(Zwv n).getD i 0/\(Zwv n).getD i 0<67108864:=by
  intro i
  match i with
  | 0=>show 0<=_%_/\_%_<_; omega
  | 1=>show 0<=_%_/\_%_<_; omega
  | 2=>show 0<=_%_/\_%_<_; omega
  | 3=>show 0<=_%_/\_%_<_; omega
  | 4=>show 0<=_%_/\_%_<_; omega
  | 5=>show 0<=_%_/\_%_<_; omega
  | 6=>show 0<=_%_/\_%_<_; omega
  | 7=>show 0<=_%_/\_%_<_; omega
  | 8=>show 0<=_%_/\_%_<_; omega
  | 9=>show 0<=_%_/\_%_<_; omega
  | i+10=>show (0:Int)<=0/\(0:Int)<_; omega
theorem Zv6 {n:Int} (h0:0<=n) (h1:n<57896044618658097711785492504343953926634992332820282019728792003956564819968):rV (Zwv n) 10=n:=by
  rw [Zoc]
  simp only [Zwv,List.getD_cons_zero,List.getD_cons_succ]
  omega
theorem Ziu (n:Int):0<=n%PP/\n%PP<PP:=⟨Int.emod_nonneg _ (by decide),Int.emod_lt_of_pos _ Zl5⟩
theorem Zob (n:Int):rV (rn n) 10=n%PP:=Zv6 (Ziu n).1 (by have:=(Ziu n).2; unfold PP at this ⊢; omega)
theorem Zes {a b:Int} (h:a%PP=b%PP):rn a=rn b:=by unfold rn; rw [h]
theorem Zvk (a:Int):rn (a%PP)=rn a:=Zes (Zpa a)
theorem Z003 (n:Int):(rn n).length=10:=rfl
theorem Zk6 (n:Int) : ∀ i,0<=(rn n).getD i 0/\(rn n).getD i 0<67108864:=Zyh _
theorem Z0fj {a b:Int} (h:rn a=rn b):a%PP=b%PP:=by rw [<- Zob,<- Zob,h]
theorem Znb (k:LI->Option (LI)) (m:Nat) : ∀ (n i:Nat) (a:LI),i+m=9->a.length=10->(∀ j,0<=a.getD j 0)->(∀ j,j<i->a.getD j 0<67108864)->(∀ j,i<j->a.getD j 0<1152921504606846976)->a.getD i 0<1152921504606846976+34359738368 ->
    ∃ c,Z4h k (n+1+m) (i:Int) a=k c/\c.length=10/\(∀ j,0<=c.getD j 0)/\(∀ j,j<9->c.getD j 0<67108864)/\c.getD 9 0<1152921504606846976+34359738368/\rV c 10=rV a 10:=by
  induction m with
  | zero =>
    intro n i a hi hl h0 h1 h2 h3
    have e:i=9:=by omega
    subst e
    refine ⟨a,?_,hl,h0,h1,h3,rfl⟩
    rw [Nat.add_zero,Z4h,Z88,Z0u (by decide)]
  | succ m ih =>
    intro n i a hi hl h0 h1 h2 h3
    have e1:=Z5g (i:=i) (by omega)
    have a0:=h0 i
    have b0:=h0 (i+1)
    have b2:=h2 (i+1) (by omega)
    have hs:wrap .u64 (a.getD (i+1) 0+a.getD i 0 / 67108864)=a.getD (i+1) 0+a.getD i 0 / 67108864:=Zb (by omega) (by omega)
    have hg:(Z28 a (i+1) (a.getD (i+1) 0+a.getD i 0 / 67108864)).getD i 0=a.getD i 0:=by rw [Z17,if_neg (by omega)]
    have hgd : ∀ j,(Z28 (Z28 a (i+1) (a.getD (i+1) 0+a.getD i 0 / 67108864)) i (a.getD i 0%67108864)).getD j 0=if j=i then a.getD i 0%67108864 else if j=i+1 then a.getD (i+1) 0+a.getD i 0 / 67108864 else a.getD j 0:=by
      intro j; rw [Z17,Z17]
    have hlen:(Z28 (Z28 a (i+1) (a.getD (i+1) 0+a.getD i 0 / 67108864)) i (a.getD i 0%67108864)).length=10:=by rw [Z4s (by rw [Z4s (by omega)]; omega),Z4s (by omega),hl]
    obtain ⟨c,ec,c1,c2,c3,c4,c5⟩:=ih n (i+1) _ (by omega) hlen
      (by intro j; rw [hgd]; have:=h0 j; split <;> (try split) <;> omega)
      (by intro j hj; rw [hgd]; split
          · omega
          · rw [if_neg (by omega)]; exact h1 j (by omega))
      (by intro j hj; rw [hgd,if_neg (by omega),if_neg (by omega)]; exact h2 j (by omega))
      (by rw [hgd,if_neg (by omega),if_pos rfl]; omega)
    refine ⟨c,?_,c1,c2,c3,c4,?_⟩
    · rw [<- Nat.add_assoc,Z4h,Z88,Z1n (decide_eq_true (by omega))]
      simp only [Zk,e1,Int.toNat_natCast,Zyx,hs,hg]
      rw [Ztc a0 (by omega),Zu (Z0v (by omega) (by omega)),Zu (Z0v (by omega) (by omega)),Zu (Z0v (by omega) (by omega)),Zu (Z0v (by omega) (by omega)),Zu (Z0v (by omega) (by omega))]
      exact ec
    · rw [c5,Zhx _ _ _ _ (by omega),Zhx _ _ _ _ (by omega),hg,Int.pow_succ]
      have hd:=Int.mul_ediv_add_emod (a.getD i 0) 67108864
      generalize a.getD i 0 / 67108864=d at *
      generalize a.getD i 0%67108864=r at *
      generalize a.getD i 0=x at *
      generalize a.getD (i+1) 0=y at *
      generalize (67108864:Int)^i=w at *
      generalize rV a 10=v at *
      clear ih ec hgd hs hg c1 c2 c3 c4 c5 hlen
      grind -lia -linarith (splits:=0)
theorem Zl8 {a:LI} (hl:a.length=10) (h0 : ∀ j,0<=a.getD j 0/\a.getD j 0<1152921504606846976) : ∃ c,Z9y a=some c/\c.length=10/\(∀ j,0<=c.getD j 0)/\(∀ j,j<9->c.getD j 0<67108864)/\c.getD 9 0<1152921504606846976+34359738368/\rV c 10=rV a 10:=by
  obtain ⟨n,hn⟩ : ∃ n,big=n+1+9:=⟨18446744073709551606,Z38⟩
  rw [Z9y,Z19,hn]
  exact Znb some 9 n 0 a (by omega) hl (fun j=>(h0 j).1) (fun j h=>by omega) (fun j _=>(h0 j).2) (by have:=(h0 0).2; omega)
theorem Ziy {a b:LI} (ha : ∀ i,0<=a.getD i 0/\a.getD i 0<67108864) (hb : ∀ i,0<=b.getD i 0/\b.getD i 0<67108864) (k:Unit->Option Bool) (hk:k ()=some false) : ∀ (m n:Nat),m<=10 ->
    Z6i a b k (n+1+m) ((m:Int)-1)=some (decide (rV a m<rV b m))
  | 0,n,_=>by
    rw [Nat.add_zero,Z6i,Zaq,Z0u (by decide),hk]
    simp [rV]
  | m+1,n,hm=>by
    have ih:=Ziy ha hb k hk m n (by omega)
    have e0:((m+1:Nat):Int)-1=(m:Int):=by omega
    have e1:wrap .i64 ((m:Int)-1)=(m:Int)-1:=Zl (by omega) (by omega)
    have ra:=Zk3 m (fun i _=>ha i)
    have rb:=Zk3 m (fun i _=>hb i)
    rw [e0,<- Nat.add_assoc,Z6i,Zaq,Z1n (decide_eq_true (by omega)),Zu (Z0v (by omega) (by omega)),Zu (Z0v (by omega) (by omega))]
    simp only [Zk,e1,Int.toNat_natCast]
    rw [Z8k,Z8k]
    by_cases h:a.getD m 0=b.getD m 0
    · rw [Z0u (by rw [h]; simp),ih,h]
      congr 1
      by_cases h2:rV a m<rV b m
      · rw [decide_eq_true h2,decide_eq_true (by omega)]
      · rw [decide_eq_false h2,decide_eq_false (by omega)]
    · rw [Z1n (by simpa using h),Zu (Z0v (by omega) (by omega)),Zu (Z0v (by omega) (by omega))]
      congr 1
      generalize a.getD m 0=x at *
      generalize b.getD m 0=y at *
      generalize rV a m=v at *
      generalize rV b m=u at *
      have hp:=Zrf m
      generalize (67108864:Int)^m=w at *
      by_cases h2:x<y
      · have h3:(x+1)*w<=y*w:=Int.mul_le_mul_of_nonneg_right (by omega) (by omega)
        rw [Int.add_mul,Int.one_mul] at h3
        rw [decide_eq_true h2,decide_eq_true (by omega)]
      · have h3:(y+1)*w<=x*w:=Int.mul_le_mul_of_nonneg_right (by omega) (by omega)
        rw [Int.add_mul,Int.one_mul] at h3
        rw [decide_eq_false h2,decide_eq_false (by omega)]
theorem Zth {a b:LI} (ha : ∀ i,0<=a.getD i 0/\a.getD i 0<67108864) (hb : ∀ i,0<=b.getD i 0/\b.getD i 0<67108864):Zer a b=some (decide (rV a 10<rV b 10)):=by
  obtain ⟨n,hn⟩ : ∃ n,big=n+1+10:=⟨18446744073709551605,Z38⟩
  rw [Zer,Z19,hn]
  exact Ziy ha hb _ rfl 10 n (by omega)
theorem Zue {b:LI} (hb : ∀ i,0<=b.getD i 0/\b.getD i 0<67108864) (k:LI->Option (LI)) {a0:LI} (m:Nat) : ∀ (n i:Nat) (c:Int) (a:LI),i+m=10->a.length=10->(c=0∨c=1)->(∀ j,0<=a.getD j 0/\a.getD j 0<67108864)->(∀ j,i<=j->a.getD j 0=a0.getD j 0)->rV a i=rV a0 i-rV b i+c*(67108864:Int)^i ->
    ∃ r c',Z3u b k (n+1+m) c (i:Int) a=k r/\r.length=10/\(c'=0∨c'=1)/\(∀ j,0<=r.getD j 0/\r.getD j 0<67108864)/\rV r 10=rV a0 10-rV b 10+c'*(67108864:Int)^10:=by
  induction m with
  | zero =>
    intro n i c a hi hl hc ha hj hv
    have e:i=10:=by omega
    subst e
    refine ⟨a,c,?_,hl,hc,ha,hv⟩
    rw [Nat.add_zero,Z3u,Z75,Z0u (by decide)]
  | succ m ih =>
    intro n i c a hi hl hc ha hj hv
    have e1:=Z5g (i:=i) (by omega)
    have h1:=ha i
    have h2:=hb i
    have w1:wrap .u64 (a.getD i 0+67108863)=a.getD i 0+67108863:=Zb (by omega) (by omega)
    have w2:wrap .u64 (a.getD i 0+67108863+1)=a.getD i 0+67108864:=by rw [Zb (by omega) (by omega)]; omega
    have w3:wrap .u64 (a.getD i 0+67108864-b.getD i 0)=a.getD i 0+67108864-b.getD i 0:=Zb (by omega) (by omega)
    have w4:wrap .u64 (a.getD i 0+67108864-b.getD i 0-c)=a.getD i 0+67108864-b.getD i 0-c:=Zb (by omega) (by omega)
    have w5:wrap .u64 (1-(a.getD i 0+67108864-b.getD i 0-c) / 67108864)=1-(a.getD i 0+67108864-b.getD i 0-c) / 67108864:=Zb (by omega) (by omega)
    obtain ⟨r,c',er,r1,r2,r3,r4⟩:=ih n (i+1) (1-(a.getD i 0+67108864-b.getD i 0-c) / 67108864) (Z28 a i ((a.getD i 0+67108864-b.getD i 0-c)%67108864)) (by omega) (by rw [Z4s (by omega),hl]) (by omega)
      (by intro j; rw [Z17]; split
          · omega
          · exact ha j)
      (by intro j h; rw [Z17,if_neg (by omega)]; exact hj j (by omega)) (by
        rw [Z8k,Z8k,Z8k,Zk4 _ _ _ _ (Nat.le_refl _),Z17,if_pos rfl,hv,<- hj i (Nat.le_refl _),Int.pow_succ]
        have hd:=Int.mul_ediv_add_emod (a.getD i 0+67108864-b.getD i 0-c) 67108864
        generalize (a.getD i 0+67108864-b.getD i 0-c) / 67108864=d at *
        generalize (a.getD i 0+67108864-b.getD i 0-c)%67108864=q at *
        generalize a.getD i 0=x at *
        generalize b.getD i 0=y at *
        generalize (67108864:Int)^i=w at *
        generalize rV a0 i=v at *
        generalize rV b i=u at *
        clear ih w1 w2 w3 w4 w5 hj hv e1 ha hb
        grind -lia -linarith (splits:=0))
    refine ⟨r,c',?_,r1,r2,r3,r4⟩
    rw [<- Nat.add_assoc,Z3u,Z75,Z1n (decide_eq_true (by omega))]
    simp only [Zk,e1,Int.toNat_natCast,Zyx,w1,w2,w3,w4,w5]
    rw [Ztc (by omega) (by omega),Zu (Z0v (by omega) (by omega)),Zu (Z0v (by omega) (by omega)),Zu (Z0v (by omega) (by omega))]
    exact er
theorem Zjc {a b:LI} (hl:a.length=10) (ha : ∀ i,0<=a.getD i 0/\a.getD i 0<67108864) (hb : ∀ i,0<=b.getD i 0/\b.getD i 0<67108864) (hle:rV b 10<=rV a 10) :
    ∃ r,Z7e a b=some r/\r.length=10/\(∀ j,0<=r.getD j 0/\r.getD j 0<67108864)/\rV r 10=rV a 10-rV b 10:=by
  obtain ⟨n,hn⟩ : ∃ n,big=n+1+10:=⟨18446744073709551605,Z38⟩
  obtain ⟨r,c',er,r1,r2,r3,r4⟩:=Zue hb some (a0:=a) 10 n 0 0 a (by omega) hl (.inl rfl) ha (fun _ _=>rfl) (by show (0:Int)=0-0+0*1; omega)
  have hr:=Zk3 10 (fun i _=>r3 i)
  have h1:=Zk3 10 (fun i _=>ha i)
  have h2:=Zk3 10 (fun i _=>hb i)
  refine ⟨r,?_,r1,r3,?_⟩
  · rw [Z7e,Z19,hn]; exact er
  · generalize (67108864:Int)^10=w at *
    rcases r2 with h | h <;> subst h <;> omega
def Zhy:LI:=[67108845,67108863,67108863,67108863,67108863,67108863,67108863,67108863,67108863,2097151]
theorem Zhh : ∀ i,0<=Zhy.getD i 0/\Zhy.getD i 0<67108864:=by
  intro i
  simp only [List.getD]
  cases hi:Zhy[i]? with
  | none=>simp
  | some v =>
    have hm:=List.mem_of_getElem? hi
    have : ∀ x∈Zhy,0<=x/\x<67108864:=by decide
    exact this v hm
theorem Zc3:rV Zhy 10=PP:=by decide
structure Nrm (a:LI):Prop where
  len:a.length=10
  pos : ∀ j,0<=a.getD j 0
  low : ∀ j,j<9->a.getD j 0<67108864
  top:a.getD 9 0<2305843009213693952
theorem Nrm.val {a:LI} (h:Nrm a) : ∃ v,0<=v/\v<27606985387162255149739023449108101809804435888681546220650096895197184/\rV a 10=v+a.getD 9 0*27606985387162255149739023449108101809804435888681546220650096895197184:=by
  have hr:=Zk3 9 (fun i hi=>⟨h.pos i,h.low i hi⟩)
  have e:(67108864:Int)^9=27606985387162255149739023449108101809804435888681546220650096895197184:=by decide
  rw [e] at hr
  exact ⟨rV a 9,hr.1,hr.2,by rw [Z8k,e]⟩
theorem Zs9 {a:LI} (h:Nrm a) (h9 : ¬ a.getD 9 0>2097151) : ∃ v,rV a 10=v/\0<=v/\v<57896044618658097711785492504343953926634992332820282019728792003956564819968:=by
  obtain ⟨v,h0,h1,e⟩:=h.val
  have:=h.pos 9
  exact ⟨_,rfl,by omega,by omega⟩
theorem Zlc {a:LI} (h:Nrm a) (h9:a.getD 9 0>2097151) (k:LI->Option (LI)) (n:Nat) :
    ∃ c,Z44 k (n+1) a=Z44 k n c/\Nrm c/\rV c 10=rV a 10%57896044618658097711785492504343953926634992332820282019728792003956564819968+19*(rV a 10 / 57896044618658097711785492504343953926634992332820282019728792003956564819968):=by
  obtain ⟨v,v0,v1,ev⟩:=h.val
  have p9:=h.pos 9
  have t9:=h.top
  have p0:=h.pos 0
  have l0:=h.low 0 (by decide)
  have w1:wrap .u64 (19*(a.getD 9 0 / 2097152))=19*(a.getD 9 0 / 2097152):=Zb (by omega) (by omega)
  have w2:wrap .u64 (a.getD 0 0+19*(a.getD 9 0 / 2097152))=a.getD 0 0+19*(a.getD 9 0 / 2097152):=Zb (by omega) (by omega)
  have g9:(Z28 a 0 (a.getD 0 0+19*(a.getD 9 0 / 2097152))).getD 9 0=a.getD 9 0:=by rw [Z17,if_neg (by decide)]
  have hgd : ∀ j,(Z28 (Z28 a 0 (a.getD 0 0+19*(a.getD 9 0 / 2097152))) 9 (a.getD 9 0%2097152)).getD j 0=if j=9 then a.getD 9 0%2097152 else if j=0 then a.getD 0 0+19*(a.getD 9 0 / 2097152) else a.getD j 0:=by
    intro j; rw [Z17,Z17]
  have hlen:(Z28 (Z28 a 0 (a.getD 0 0+19*(a.getD 9 0 / 2097152))) 9 (a.getD 9 0%2097152)).length=10:=by rw [Z4s (by rw [Z4s (by rw [h.len]; decide),h.len]; decide),Z4s (by rw [h.len]; decide),h.len]
  obtain ⟨c,ec,c1,c2,c3,c4,c5⟩:=Zl8 hlen (by
    intro j; rw [hgd]
    have h1:=h.pos j
    by_cases hj:j=9
    · rw [if_pos hj]; omega
    · rw [if_neg hj]
      by_cases hj0:j=0
      · rw [if_pos hj0]; omega
      · rw [if_neg hj0]
        by_cases hj9:j<9
        · have:=h.low j hj9; omega
        · have:a.getD j 0=0:=by simp [List.getD_eq_getElem?_getD,List.getElem?_eq_none (show a.length<=j by have:=h.len; omega)]
          omega)
  refine ⟨c,?_,⟨c1,c2,c3,by omega⟩,?_⟩
  · rw [Z44,Zao]
    simp only [Zk,Z0nw,w1,w2,g9]
    rw [Z0gl p9 (by omega),Z1n (decide_eq_true h9),Z3 ec]
  · rw [c5,Zhx _ _ _ _ (by decide),Zhx _ _ _ _ (by decide),g9]
    have e0:(67108864:Int)^0=1:=by decide
    have e9:(67108864:Int)^9=27606985387162255149739023449108101809804435888681546220650096895197184:=by decide
    rw [e0,e9,ev]
    generalize a.getD 9 0=x at *
    generalize a.getD 0 0=y at *
    clear ec hgd hlen c1 c2 c3 c4 c5 w1 w2 g9
    omega
theorem Zsa {a:LI} (h:Nrm a) (hb:rV a 10<63657374260452690223495913149955322682597410751168609642183824931005961838254368963428352) (k:LI->Option (LI)) (n:Nat) : ∃ c,Z44 k (n+1+1+1) a=k c/\Nrm c /\ ¬ c.getD 9 0>2097151/\rV c 10%PP=rV a 10%PP:=by
  have stop : ∀ (n:Nat) (a:LI),¬ a.getD 9 0>2097151->Z44 k (n+1) a=k a:=by
    intro n a h
    rw [Z44,Zao]
    simp only [Zk]
    rw [Z0u (decide_eq_false h)]
  by_cases h1:a.getD 9 0>2097151
  · obtain ⟨c,ec,nc,vc⟩:=Zlc h h1 k (n+1+1)
    have p0:0<=rV a 10:=by obtain ⟨v,v0,_,ev⟩:=h.val; have:=h.pos 9; omega
    by_cases h2:c.getD 9 0>2097151
    · obtain ⟨d,ed,nd,vd⟩:=Zlc nc h2 k (n+1)
      obtain ⟨u,u0,u1,eu⟩:=nd.val
      have pd:=nd.pos 9
      have h3 : ¬ d.getD 9 0>2097151:=by
        intro h3
        obtain ⟨v,v0,v1,ev⟩:=nc.val
        clear ec ed stop
        generalize rV a 10=A at *
        generalize rV c 10=C at *
        generalize rV d 10=D at *
        generalize c.getD 9 0=c9 at *
        generalize d.getD 9 0=d9 at *
        clear nc nd h h1
        omega
      refine ⟨d,by rw [ec,ed,stop _ _ h3],nd,h3,?_⟩
      rw [vd,vc]
      clear ec ed stop
      generalize rV a 10=A at *
      unfold PP
      omega
    · refine ⟨c,by rw [ec,stop _ _ h2],nc,h2,?_⟩
      rw [vc]
      generalize rV a 10=A at *
      unfold PP
      omega
  · exact ⟨a,stop _ _ h1,h,h1,rfl⟩
theorem Zij {a:LI} (hl:a.length=10) (h0 : ∀ j,0<=a.getD j 0/\a.getD j 0<1152921504606846976):Z85 a=some (rn (rV a 10)):=by
  obtain ⟨c,ec,c1,c2,c3,c4,c5⟩:=Zl8 hl h0
  have nc:Nrm c:=⟨c1,c2,c3,by omega⟩
  obtain ⟨n,hn⟩ : ∃ n,big=n+1+1+1:=⟨18446744073709551613,Z38⟩
  have hb:rV c 10<63657374260452690223495913149955322682597410751168609642183824931005961838254368963428352:=by
    obtain ⟨v,v0,v1,ev⟩:=nc.val
    have:=nc.top
    rw [ev]
    omega
  rw [Z85,Z3 ec,Z19,hn]
  obtain ⟨d,ed,nd,h9,vd⟩:=Zsa nc hb (fun (a58:LI)=>opt (Zcq) fun y113 =>
 opt (Zer a58 y113) fun y116 =>
 jn (fun (a120:LI)=>some a120) fun k121=>br ((!y116)) (
 opt (Z7e a58 y113) fun y124 =>
 k121 y124
 ) (
 k121 a58
 )) n
  rw [ed]
  obtain ⟨v,ev,v0,v1⟩:=Zs9 nd h9
  have hd : ∀ j,0<=d.getD j 0/\d.getD j 0<67108864:=by
    intro j
    refine ⟨nd.pos j,?_⟩
    by_cases hj:j<9
    · exact nd.low j hj
    · by_cases hj2:j=9
      · subst hj2; omega
      · have:d.getD j 0=0:=by simp [List.getD_eq_getElem?_getD,List.getElem?_eq_none (show d.length<=j by have:=nd.len; omega)]
        omega
  have ep:Zcq=some Zhy:=rfl
  rw [Z3 ep,Z3 (Zth hd Zhh),Z19,Zc3,ev]
  by_cases hv:v<PP
  · rw [Z0u (by simp [hv]),Zk5 nd.len hd,ev]
    unfold rn
    rw [<- c5,<- vd,ev,Int.emod_eq_of_lt v0 hv]
  · obtain ⟨r,er,r1,r2,r3⟩:=Zjc nd.len hd Zhh (by rw [Zc3,ev]; omega)
    rw [Z1n (by simp [hv]),Z3 er,Zk5 r1 r2,r3,Zc3,ev]
    unfold rn
    rw [<- c5,<- vd,ev]
    congr 2
    unfold PP at *
    omega
end Go.Proofs.YtiflckckekjbnaaGreatDoor
namespace Go.Proofs.YtiflckckekjbnaaGreatDoor
open Go Go.Sx Go.RowKit
open List (replicate)
open Go.IntKind (wrap)
set_option linter.all false
set_option maxRecDepth 100000
set_option maxHeartbeats 1000000
theorem Zff {n:Int} (h0:0<=n) (h1:n<18446744073709551616):Z60 n=some (rn n):=by
  rw [Z60]
  simp only [Zk,Zyx,Z0ny]
  rw [Ztc h0 h1,Ztc (by omega) (by omega)]
  have e:n%PP=n:=Int.emod_eq_of_lt h0 (by unfold PP; omega)
  unfold rn
  rw [e]
  unfold Zwv
  congr 1
  simp only [List.cons.injEq,and_true,true_and]
  refine ⟨?_,?_,?_,?_,?_,?_,?_,?_⟩ <;> omega
theorem Zyf (k:LI->Option (LI)) (x0 x1 x2 x3 x4 x5 x6 x7 x8 x9 y0 y1 y2 y3 y4 y5 y6 y7 y8 y9:Int):Zbx [y0,y1,y2,y3,y4,y5,y6,y7,y8,y9] k big 0 [x0,x1,x2,x3,x4,x5,x6,x7,x8,x9]=k [wrap .u64 (x0+y0),wrap .u64 (x1+y1),wrap .u64 (x2+y2),wrap .u64 (x3+y3),wrap .u64 (x4+y4),wrap .u64 (x5+y5),wrap .u64 (x6+y6),wrap .u64 (x7+y7),wrap .u64 (x8+y8),wrap .u64 (x9+y9)]:=by kernel_rfl
theorem Zqu {P:Int->Prop} (h0:P 0) {x0 x1 x2 x3 x4 x5 x6 x7 x8 x9:Int} (h0_:P x0) (h1_:P x1) (h2_:P x2) (h3_:P x3) (h4_:P x4) (h5_:P x5) (h6_:P x6) (h7_:P x7) (h8_:P x8) (h9_:P x9) : ∀ j,P (([x0,x1,x2,x3,x4,x5,x6,x7,x8,x9]:LI).getD j 0):=by
  intro j
  match j with
  | 0=>exact h0_
  | 1=>exact h1_
  | 2=>exact h2_
  | 3=>exact h3_
  | 4=>exact h4_
  | 5=>exact h5_
  | 6=>exact h6_
  | 7=>exact h7_
  | 8=>exact h8_
  | 9=>exact h9_
  | j+10=>exact h0
theorem radd (a b:Int):Zd0 (rn a) (rn b)=some (rn (a+b)):=by
  have ha:=Zk6 a
  have hb:=Zk6 b
  have va:=Zob a
  have vb:=Zob b
  have ea:=Zik (Z003 a)
  have eb:=Zik (Z003 b)
  rw [Zoc] at va vb
  have a0:=ha 0
  have b0:=hb 0
  have a1:=ha 1
  have b1:=hb 1
  have a2:=ha 2
  have b2:=hb 2
  have a3:=ha 3
  have b3:=hb 3
  have a4:=ha 4
  have b4:=hb 4
  have a5:=ha 5
  have b5:=hb 5
  have a6:=ha 6
  have b6:=hb 6
  have a7:=ha 7
  have b7:=hb 7
  have a8:=ha 8
  have b8:=hb 8
  have a9:=ha 9
  have b9:=hb 9
  rw [ea,eb,Zd0,Z19,Zyf]
  clear ea eb ha hb
  generalize (rn a).getD 0 0=x0 at *
  generalize (rn b).getD 0 0=y0 at *
  generalize (rn a).getD 1 0=x1 at *
  generalize (rn b).getD 1 0=y1 at *
  generalize (rn a).getD 2 0=x2 at *
  generalize (rn b).getD 2 0=y2 at *
  generalize (rn a).getD 3 0=x3 at *
  generalize (rn b).getD 3 0=y3 at *
  generalize (rn a).getD 4 0=x4 at *
  generalize (rn b).getD 4 0=y4 at *
  generalize (rn a).getD 5 0=x5 at *
  generalize (rn b).getD 5 0=y5 at *
  generalize (rn a).getD 6 0=x6 at *
  generalize (rn b).getD 6 0=y6 at *
  generalize (rn a).getD 7 0=x7 at *
  generalize (rn b).getD 7 0=y7 at *
  generalize (rn a).getD 8 0=x8 at *
  generalize (rn b).getD 8 0=y8 at *
  generalize (rn a).getD 9 0=x9 at *
  generalize (rn b).getD 9 0=y9 at *
  rw [Zb (x:=x0+y0) (by omega) (by omega),Zb (x:=x1+y1) (by omega) (by omega),Zb (x:=x2+y2) (by omega) (by omega),Zb (x:=x3+y3) (by omega) (by omega),Zb (x:=x4+y4) (by omega) (by omega),Zb (x:=x5+y5) (by omega) (by omega),Zb (x:=x6+y6) (by omega) (by omega),Zb (x:=x7+y7) (by omega) (by omega),Zb (x:=x8+y8) (by omega) (by omega),Zb (x:=x9+y9) (by omega) (by omega)]
  rw [Z3 (Zij rfl (Zqu (P:=fun z=>0<=z/\z<1152921504606846976) (by omega) (by omega) (by omega) (by omega) (by omega) (by omega) (by omega) (by omega) (by omega) (by omega) (by omega)))]
  congr 1
  apply Zes
  rw [Zoc]
  simp only [List.getD_cons_zero,List.getD_cons_succ]
  have e:(x0+y0)+(x1+y1)*67108864+(x2+y2)*4503599627370496+(x3+y3)*302231454903657293676544+(x4+y4)*20282409603651670423947251286016+(x5+y5)*1361129467683753853853498429727072845824+(x6+y6)*91343852333181432387730302044767688728495783936+(x7+y7)*6129982163463555433433388108601236734474956488734408704+(x8+y8)*411376139330301510538742295639337626245683966408394965837152256+(x9+y9)*27606985387162255149739023449108101809804435888681546220650096895197184=a%PP+b%PP:=by omega
  rw [e,<- Int.add_emod]
theorem rneg (a:Int):Zli (rn a)=some (rn (-a)):=by
  have h:=Ziu a
  obtain ⟨r,er,r1,r2,r3⟩:=Zjc (a:=Zhy) (b:=rn a) rfl Zhh (Zk6 a) (by rw [Zc3,Zob]; omega)
  have ep:Zcq=some Zhy:=rfl
  rw [Zli,Z3 ep,Z3 er,Z3 (Zij r1 (fun j=>by have:=r2 j; omega))]
  congr 1
  apply Zes
  rw [r3,Zc3,Zob]
  unfold PP
  omega
theorem rsub (a b:Int):Zht (rn a) (rn b)=some (rn (a-b)):=by
  rw [Zht,Z3 (rneg b),Z3 (radd a (-b))]
  congr 2
theorem Zso {p q:LI} (hp : ∀ i,0<=p.getD i 0/\p.getD i 0<67108864) (hq : ∀ i,0<=q.getD i 0/\q.getD i 0<67108864) {i:Nat} (hi:i<10) (m:Nat) : ∀ (n j:Nat) (a:LI),j+m=10->a.length=20->(∀ t,0<=a.getD t 0/\a.getD t 0<=((i:Int)+1)*4503599493152769)->(∀ t,i+j<=t->a.getD t 0<=(i:Int)*4503599493152769) ->
    ∃ c,(∀ k,Z9d p q (i:Int) k (n+1+m) (j:Int) a=k c)/\c.length=20/\(∀ t,0<=c.getD t 0/\c.getD t 0<=((i:Int)+1)*4503599493152769)/\rV c 20+p.getD i 0*rV q j*(67108864:Int)^i=rV a 20+p.getD i 0*rV q 10*(67108864:Int)^i:=by
  induction m with
  | zero =>
    intro n j a hj hl h0 h1
    refine ⟨a,fun k=>?_,hl,h0,by rw [show j=10 by omega]⟩
    rw [Nat.add_zero,Z9d,Ze4,Z0u (decide_eq_false (by omega))]
  | succ m ih =>
    intro n j a hj hl h0 h1
    have e1:=Z5g (i:=j) (by omega)
    have e2:wrap .i64 ((i:Int)+(j:Int))=((i+j:Nat):Int):=by rw [Zl (by omega) (by omega)]; omega
    have x1:=hp i
    have x2:=hq j
    have x3:=h0 (i+j)
    have x4:=h1 (i+j) (Nat.le_refl _)
    have xp:0<=p.getD i 0*q.getD j 0:=Int.mul_nonneg x1.1 x2.1
    have xq:p.getD i 0*q.getD j 0<=67108863*67108863:=Int.mul_le_mul (by omega) (by omega) x2.1 (by omega)
    have w1:wrap .u64 (p.getD i 0*q.getD j 0)=p.getD i 0*q.getD j 0:=Zb xp (by omega)
    have w2:wrap .u64 (a.getD (i+j) 0+p.getD i 0*q.getD j 0)=a.getD (i+j) 0+p.getD i 0*q.getD j 0:=Zb (by omega) (by omega)
    obtain ⟨c,ec,c1,c2,c3⟩:=ih n (j+1) (Z28 a (i+j) (a.getD (i+j) 0+p.getD i 0*q.getD j 0)) (by omega) (by rw [Z4s (by omega),hl])
      (by intro t; rw [Z17]; split
          · omega
          · exact h0 t)
      (by intro t ht; rw [Z17,if_neg (by omega)]; exact h1 t (by omega))
    refine ⟨c,fun k=>?_,c1,c2,?_⟩
    · rw [<- Nat.add_assoc,Z9d,Ze4,Z1n (decide_eq_true (by omega))]
      simp only [Zk,e1,e2,Int.toNat_natCast,w1,w2]
      rw [Zu (Z0v (by omega) (by omega)),Zu (Z0v (by omega) (by omega)),Zu (Z0v (by omega) (by omega)),Zu (Z0v (by omega) (by omega))]
      exact ec k
    · rw [Zhx _ _ _ _ (by omega),Z8k q j,Int.pow_add] at c3
      generalize (67108864:Int)^i=w at *
      generalize (67108864:Int)^j=u at *
      generalize p.getD i 0=x at *
      generalize q.getD j 0=y at *
      generalize a.getD (i+j) 0=z at *
      generalize rV a 20=va at *
      generalize rV c 20=vc at *
      generalize rV q j=vj at *
      generalize rV q 10=vq at *
      clear ih ec w1 w2 e1 e2 h0 h1 c1 c2 hp hq xp xq
      grind -lia -linarith (splits:=0)
theorem Zsp {p q:LI} (hp : ∀ i,0<=p.getD i 0/\p.getD i 0<67108864) (hq : ∀ i,0<=q.getD i 0/\q.getD i 0<67108864) (k:LI->Option (LI)) (m:Nat) : ∀ (n i:Nat) (a:LI),i+m=10->a.length=20->(∀ t,0<=a.getD t 0/\a.getD t 0<=(i:Int)*4503599493152769)->rV a 20=rV p i*rV q 10 ->
    ∃ c,Z86 p q k (n+1+m) (i:Int) a=k c/\c.length=20/\(∀ t,0<=c.getD t 0/\c.getD t 0<=45035994931527690)/\rV c 20=rV p 10*rV q 10:=by
  induction m with
  | zero =>
    intro n i a hi hl h0 hv
    have e:i=10:=by omega
    subst e
    refine ⟨a,?_,hl,fun t=>by have:=h0 t; omega,hv⟩
    rw [Nat.add_zero,Z86,Ze3,Z0u (by decide)]
  | succ m ih =>
    intro n i a hi hl h0 hv
    have e1:=Z5g (i:=i) (by omega)
    obtain ⟨n',hn⟩ : ∃ n,big=n+1+10:=⟨18446744073709551605,Z38⟩
    obtain ⟨c,ec,c1,c2,c3⟩:=Zso hp hq (i:=i) (by omega) 10 n' 0 a (by omega) hl (fun t=>by have:=h0 t; omega) (fun t _=>(h0 t).2)
    obtain ⟨d,ed,d1,d2,d3⟩:=ih n (i+1) c (by omega) c1 (fun t=>by have:=c2 t; omega) (by
      have e0:rV q 0=0:=rfl
      rw [e0,hv] at c3
      rw [Z8k p i]
      generalize (67108864:Int)^i=w at *
      generalize p.getD i 0=x at *
      generalize rV c 20=vc at *
      generalize rV q 10=vq at *
      generalize rV p i=vp at *
      clear ih ec e1 h0 c1 c2 hp hq hv
      grind -lia -linarith (splits:=0))
    refine ⟨d,?_,d1,d2,d3⟩
    rw [<- Nat.add_assoc,Z86,Ze3,Z1n (decide_eq_true (by omega)),Z19,hn]
    refine (ec _).trans ?_
    simp only [Zk,e1]
    exact ed
theorem Zpl (k:LI->Option (LI)) (m:Nat) : ∀ (n i:Nat) (a:LI),i+m=19->a.length=20->(∀ j,0<=a.getD j 0)->(∀ j,j<i->a.getD j 0<67108864)->(∀ j,i<j->a.getD j 0<1152921504606846976)->a.getD i 0<1152921504606846976+34359738368 ->
    ∃ c,Z74 k (n+1+m) (i:Int) a=k c/\c.length=20/\(∀ j,0<=c.getD j 0)/\(∀ j,j<19->c.getD j 0<67108864)/\c.getD 19 0<1152921504606846976+34359738368/\rV c 20=rV a 20:=by
  induction m with
  | zero =>
    intro n i a hi hl h0 h1 h2 h3
    have e:i=19:=by omega
    subst e
    refine ⟨a,?_,hl,h0,h1,h3,rfl⟩
    rw [Nat.add_zero,Z74,Ze5,Z0u (by decide)]
  | succ m ih =>
    intro n i a hi hl h0 h1 h2 h3
    have e1:=Z5g (i:=i) (by omega)
    have a0:=h0 i
    have b0:=h0 (i+1)
    have b2:=h2 (i+1) (by omega)
    have hs:wrap .u64 (a.getD (i+1) 0+a.getD i 0 / 67108864)=a.getD (i+1) 0+a.getD i 0 / 67108864:=Zb (by omega) (by omega)
    have hg:(Z28 a (i+1) (a.getD (i+1) 0+a.getD i 0 / 67108864)).getD i 0=a.getD i 0:=by rw [Z17,if_neg (by omega)]
    have hgd : ∀ j,(Z28 (Z28 a (i+1) (a.getD (i+1) 0+a.getD i 0 / 67108864)) i (a.getD i 0%67108864)).getD j 0=if j=i then a.getD i 0%67108864 else if j=i+1 then a.getD (i+1) 0+a.getD i 0 / 67108864 else a.getD j 0:=by
      intro j; rw [Z17,Z17]
    have hlen:(Z28 (Z28 a (i+1) (a.getD (i+1) 0+a.getD i 0 / 67108864)) i (a.getD i 0%67108864)).length=20:=by rw [Z4s (by rw [Z4s (by omega)]; omega),Z4s (by omega),hl]
    obtain ⟨c,ec,c1,c2,c3,c4,c5⟩:=ih n (i+1) _ (by omega) hlen
      (by intro j; rw [hgd]; have:=h0 j; split <;> (try split) <;> omega)
      (by intro j hj; rw [hgd]; split
          · omega
          · rw [if_neg (by omega)]; exact h1 j (by omega))
      (by intro j hj; rw [hgd,if_neg (by omega),if_neg (by omega)]; exact h2 j (by omega))
      (by rw [hgd,if_neg (by omega),if_pos rfl]; omega)
    refine ⟨c,?_,c1,c2,c3,c4,?_⟩
    · rw [<- Nat.add_assoc,Z74,Ze5,Z1n (decide_eq_true (by omega))]
      simp only [Zk,e1,Int.toNat_natCast,Zyx,hs,hg]
      rw [Ztc a0 (by omega),Zu (Z0v (by omega) (by omega)),Zu (Z0v (by omega) (by omega)),Zu (Z0v (by omega) (by omega)),Zu (Z0v (by omega) (by omega)),Zu (Z0v (by omega) (by omega))]
      exact ec
    · rw [c5,Zhx _ _ _ _ (by omega),Zhx _ _ _ _ (by omega),hg,Int.pow_succ]
      have hd:=Int.mul_ediv_add_emod (a.getD i 0) 67108864
      generalize a.getD i 0 / 67108864=d at *
      generalize a.getD i 0%67108864=r at *
      generalize a.getD i 0=x at *
      generalize a.getD (i+1) 0=y at *
      generalize (67108864:Int)^i=w at *
      generalize rV a 20=v at *
      clear ih ec hgd hs hg c1 c2 c3 c4 c5 hlen
      grind -lia -linarith (splits:=0)
theorem Zyn (k:LI->Option (LI)) (d:LI):Z9e d k big 0 (replicate 10 0)=k [wrap .u64 (d.getD 0 0+wrap .u64 (608*d.getD 10 0)),wrap .u64 (d.getD 1 0+wrap .u64 (608*d.getD 11 0)),wrap .u64 (d.getD 2 0+wrap .u64 (608*d.getD 12 0)),wrap .u64 (d.getD 3 0+wrap .u64 (608*d.getD 13 0)),wrap .u64 (d.getD 4 0+wrap .u64 (608*d.getD 14 0)),wrap .u64 (d.getD 5 0+wrap .u64 (608*d.getD 15 0)),wrap .u64 (d.getD 6 0+wrap .u64 (608*d.getD 16 0)),wrap .u64 (d.getD 7 0+wrap .u64 (608*d.getD 17 0)),wrap .u64 (d.getD 8 0+wrap .u64 (608*d.getD 18 0)),wrap .u64 (d.getD 9 0+wrap .u64 (608*d.getD 19 0))]:=by kernel_rfl
theorem Zv7 (l:LI):rV l 20=l.getD 0 0+l.getD 1 0*67108864+l.getD 2 0*4503599627370496+l.getD 3 0*302231454903657293676544+l.getD 4 0*20282409603651670423947251286016+l.getD 5 0*1361129467683753853853498429727072845824+l.getD 6 0*91343852333181432387730302044767688728495783936+l.getD 7 0*6129982163463555433433388108601236734474956488734408704+l.getD 8 0*411376139330301510538742295639337626245683966408394965837152256+l.getD 9 0*27606985387162255149739023449108101809804435888681546220650096895197184+l.getD 10 0*1852673427797059126777135760139006525652319754650249024631321344126610074238976+l.getD 11 0*124330809102446660538845562036705210025114037699336929360115994223289874253133343883264+l.getD 12 0*8343699359066055009355553539724812947666814540455674882605631280555545803830627148527195652096+l.getD 13 0*559936185544451052639360570142111069530411374308662383724997275240947967795040236345219373317901778944+l.getD 14 0*37576681324381331646231689548629392438010920782533117931316655544515344401833735095419183974156299248510959616+l.getD 15 0*2521728396569246669585858566409191283525103313309788586748690777871726193375821479130513040312634601011624191379636224+l.getD 16 0*169230328010303641331690318856389386196071598838855992136870091590247882556495704531248437872567112920983350278405979725889536+l.getD 17 0*11356855067118857664833184498250070849275646260739344691898284362197488876771842551971735167402555711886914400097909030211478150447104+l.getD 18 0*762145642166990290864647761179972242614403843424065222377723867096038022172794340849684107193235344521442121855812163792833978437326241529856+l.getD 19 0*51146728248377216718956089012931236753385031969422887335676427626502090568823039920051095192592252455482604439493126109519019633529459266458258243584:=by
  simp only [rV]
  have e0:(67108864:Int)^0=1:=by decide
  have e1:(67108864:Int)^1=67108864:=by decide
  have e2:(67108864:Int)^2=4503599627370496:=by decide
  have e3:(67108864:Int)^3=302231454903657293676544:=by decide
  have e4:(67108864:Int)^4=20282409603651670423947251286016:=by decide
  have e5:(67108864:Int)^5=1361129467683753853853498429727072845824:=by decide
  have e6:(67108864:Int)^6=91343852333181432387730302044767688728495783936:=by decide
  have e7:(67108864:Int)^7=6129982163463555433433388108601236734474956488734408704:=by decide
  have e8:(67108864:Int)^8=411376139330301510538742295639337626245683966408394965837152256:=by decide
  have e9:(67108864:Int)^9=27606985387162255149739023449108101809804435888681546220650096895197184:=by decide
  have e10:(67108864:Int)^10=1852673427797059126777135760139006525652319754650249024631321344126610074238976:=by decide
  have e11:(67108864:Int)^11=124330809102446660538845562036705210025114037699336929360115994223289874253133343883264:=by decide
  have e12:(67108864:Int)^12=8343699359066055009355553539724812947666814540455674882605631280555545803830627148527195652096:=by decide
  have e13:(67108864:Int)^13=559936185544451052639360570142111069530411374308662383724997275240947967795040236345219373317901778944:=by decide
  have e14:(67108864:Int)^14=37576681324381331646231689548629392438010920782533117931316655544515344401833735095419183974156299248510959616:=by decide
  have e15:(67108864:Int)^15=2521728396569246669585858566409191283525103313309788586748690777871726193375821479130513040312634601011624191379636224:=by decide
  have e16:(67108864:Int)^16=169230328010303641331690318856389386196071598838855992136870091590247882556495704531248437872567112920983350278405979725889536:=by decide
  have e17:(67108864:Int)^17=11356855067118857664833184498250070849275646260739344691898284362197488876771842551971735167402555711886914400097909030211478150447104:=by decide
  have e18:(67108864:Int)^18=762145642166990290864647761179972242614403843424065222377723867096038022172794340849684107193235344521442121855812163792833978437326241529856:=by decide
  have e19:(67108864:Int)^19=51146728248377216718956089012931236753385031969422887335676427626502090568823039920051095192592252455482604439493126109519019633529459266458258243584:=by decide
  rw [e0,e1,e2,e3,e4,e5,e6,e7,e8,e9,e10,e11,e12,e13,e14,e15,e16,e17,e18,e19]
  omega
theorem Zyo {p q:LI} (hp : ∀ i,0<=p.getD i 0/\p.getD i 0<67108864) (hq : ∀ i,0<=q.getD i 0/\q.getD i 0<67108864) (k:LI->Option (LI)) :
    ∃ c,Z86 p q k big 0 (replicate 20 0)=k c/\c.length=20/\(∀ t,0<=c.getD t 0/\c.getD t 0<=45035994931527690)/\rV c 20=rV p 10*rV q 10:=by
  obtain ⟨n,hn⟩ : ∃ n,big=n+1+10:=⟨18446744073709551605,Z38⟩
  have hz : ∀ t,(replicate 20 (0:Int)).getD t 0=0:=by
    intro t
    simp only [List.getD]
    cases hi:(replicate 20 (0:Int))[t]? with
    | none=>rfl
    | some v=>simpa using (List.mem_replicate.1 (List.mem_of_getElem? hi)).2
  rw [hn]
  exact Zsp hp hq k 10 n 0 (replicate 20 0) (by omega) (by simp) (fun t=>by rw [hz]; omega) (by
      have:rV (replicate 20 0) 20=0:=by decide
      rw [this]
      show 0=0*_
      omega)
theorem Zsc (k:LI->Option (LI)) {c:LI} (hl:c.length=20) (h0 : ∀ t,0<=c.getD t 0/\c.getD t 0<=45035994931527690) :
    ∃ d,Z74 k big 0 c=k d/\d.length=20/\(∀ j,0<=d.getD j 0)/\(∀ j,j<19->d.getD j 0<67108864)/\d.getD 19 0<1152921504606846976+34359738368/\rV d 20=rV c 20:=by
  obtain ⟨n,hn⟩ : ∃ n,big=n+1+19:=⟨18446744073709551596,Z38⟩
  rw [hn]
  exact Zpl k 19 n 0 c (by omega) hl (fun j=>(h0 j).1) (fun j h=>by omega) (fun j _=>by have:=h0 j; omega) (by have:=h0 0; omega)
theorem Zft (a b:Int):Z1u (rn a) (rn b)=some (rn (a*b)):=by
  rw [Z1u,Z19]
  obtain ⟨c,ec,c1,c2,c3⟩:=Zyo (Zk6 a) (Zk6 b) (fun (a343:LI)=>jn (fun (a741:LI)=>jn (fun (a848:LI)=>opt (Z85 a848) fun y893 =>
 some y893) fun k849=>Z9e a741 k849 big 0 (replicate 10 0)) fun k742=>Z74 k742 big 0 a343)
  rw [ec]
  simp only [Z19]
  obtain ⟨d,ed,d1,d2,d3,d4,d5⟩:=Zsc (fun (a741:LI)=>Z9e a741 (fun (a848:LI)=>opt (Z85 a848) fun y893=>some y893) big 0 (replicate 10 0)) c1 c2
  rw [ed,Zyn]
  rw [Zob,Zob] at c3
  rw [c3,Zv7] at d5
  have ra:=Ziu a
  have rb:=Ziu b
  have hprod:a%PP*(b%PP)<3351951982485649274893506249551461531869841455148098344430890360930441007518386744200468574541725856922507964546621512713438470702986642486608412251521024:=by
    have:a%PP*(b%PP)<=PP*PP:=Int.mul_le_mul (by omega) (by omega) rb.1 (by decide)
    unfold PP at *
    omega
  have p0:=d2 0
  have p1:=d2 1
  have p2:=d2 2
  have p3:=d2 3
  have p4:=d2 4
  have p5:=d2 5
  have p6:=d2 6
  have p7:=d2 7
  have p8:=d2 8
  have p9:=d2 9
  have p10:=d2 10
  have p11:=d2 11
  have p12:=d2 12
  have p13:=d2 13
  have p14:=d2 14
  have p15:=d2 15
  have p16:=d2 16
  have p17:=d2 17
  have p18:=d2 18
  have p19:=d2 19
  have q0:=d3 0 (by decide)
  have q1:=d3 1 (by decide)
  have q2:=d3 2 (by decide)
  have q3:=d3 3 (by decide)
  have q4:=d3 4 (by decide)
  have q5:=d3 5 (by decide)
  have q6:=d3 6 (by decide)
  have q7:=d3 7 (by decide)
  have q8:=d3 8 (by decide)
  have q9:=d3 9 (by decide)
  have q10:=d3 10 (by decide)
  have q11:=d3 11 (by decide)
  have q12:=d3 12 (by decide)
  have q13:=d3 13 (by decide)
  have q14:=d3 14 (by decide)
  have q15:=d3 15 (by decide)
  have q16:=d3 16 (by decide)
  have q17:=d3 17 (by decide)
  have q18:=d3 18 (by decide)
  clear ec ed c1 c2 d1 d2 d3
  generalize d.getD 0 0=x0 at *
  generalize d.getD 1 0=x1 at *
  generalize d.getD 2 0=x2 at *
  generalize d.getD 3 0=x3 at *
  generalize d.getD 4 0=x4 at *
  generalize d.getD 5 0=x5 at *
  generalize d.getD 6 0=x6 at *
  generalize d.getD 7 0=x7 at *
  generalize d.getD 8 0=x8 at *
  generalize d.getD 9 0=x9 at *
  generalize d.getD 10 0=x10 at *
  generalize d.getD 11 0=x11 at *
  generalize d.getD 12 0=x12 at *
  generalize d.getD 13 0=x13 at *
  generalize d.getD 14 0=x14 at *
  generalize d.getD 15 0=x15 at *
  generalize d.getD 16 0=x16 at *
  generalize d.getD 17 0=x17 at *
  generalize d.getD 18 0=x18 at *
  generalize d.getD 19 0=x19 at *
  have q19:x19<65536:=by
    generalize a%PP*(b%PP)=w at *
    omega
  rw [Zb (x:=608*x10) (by omega) (by omega),Zb (x:=608*x11) (by omega) (by omega),Zb (x:=608*x12) (by omega) (by omega),Zb (x:=608*x13) (by omega) (by omega),Zb (x:=608*x14) (by omega) (by omega),Zb (x:=608*x15) (by omega) (by omega),Zb (x:=608*x16) (by omega) (by omega),Zb (x:=608*x17) (by omega) (by omega),Zb (x:=608*x18) (by omega) (by omega),Zb (x:=608*x19) (by omega) (by omega)]
  rw [Zb (x:=x0+608*x10) (by omega) (by omega),Zb (x:=x1+608*x11) (by omega) (by omega),Zb (x:=x2+608*x12) (by omega) (by omega),Zb (x:=x3+608*x13) (by omega) (by omega),Zb (x:=x4+608*x14) (by omega) (by omega),Zb (x:=x5+608*x15) (by omega) (by omega),Zb (x:=x6+608*x16) (by omega) (by omega),Zb (x:=x7+608*x17) (by omega) (by omega),Zb (x:=x8+608*x18) (by omega) (by omega),Zb (x:=x9+608*x19) (by omega) (by omega)]
  rw [Z3 (Zij rfl (Zqu (P:=fun z=>0<=z/\z<1152921504606846976) (by omega) (by omega) (by omega) (by omega) (by omega) (by omega) (by omega) (by omega) (by omega) (by omega) (by omega)))]
  congr 1
  apply Zes
  rw [Zoc]
  simp only [List.getD_cons_zero,List.getD_cons_succ]
  have e:(x0+608*x10)+(x1+608*x11)*67108864+(x2+608*x12)*4503599627370496+(x3+608*x13)*302231454903657293676544+(x4+608*x14)*20282409603651670423947251286016+(x5+608*x15)*1361129467683753853853498429727072845824+(x6+608*x16)*91343852333181432387730302044767688728495783936+(x7+608*x17)*6129982163463555433433388108601236734474956488734408704+(x8+608*x18)*411376139330301510538742295639337626245683966408394965837152256+(x9+608*x19)*27606985387162255149739023449108101809804435888681546220650096895197184=a%PP*(b%PP)-PP*(32*(x10+x11*67108864+x12*4503599627370496+x13*302231454903657293676544+x14*20282409603651670423947251286016+x15*1361129467683753853853498429727072845824+x16*91343852333181432387730302044767688728495783936+x17*6129982163463555433433388108601236734474956488734408704+x18*411376139330301510538742295639337626245683966408394965837152256+x19*27606985387162255149739023449108101809804435888681546220650096895197184)):=by
    generalize a%PP*(b%PP)=w at *
    unfold PP
    omega
  rw [e,Int.sub_mul_emod_self_left,<- Int.mul_emod]
theorem Zss {x:Int} {e:LI} (he:Byt e) {kk:LI->Option (LI)} {k':Int->LI->Option (LI)} {i:Nat} (hi:i<256) (a:Int) :
    Zbz (rn x) e kk k' (i:Int) (rn a)=k' ((i:Int)-1) (rn (if ebit e i then a*a%PP*x%PP else a*a%PP)):=by
  rw [Zbz,Z1n (by simp),Z19,Z3 (Zft a a)]
  simp only [Zk]
  have hd:wrap .i64 (Int.tdiv (i:Int) 8)=((i / 8:Nat):Int):=by
    rw [Int.tdiv_eq_ediv_of_nonneg (by omega),Zl (by omega) (by omega)]; omega
  have hm:Int.tmod (i:Int) 8=((i%8:Nat):Int):=by
    rw [Int.tmod_eq_emod_of_nonneg (by omega)]; omega
  rw [hd,hm,Zu (Z0v (by omega) (by omega)),Zu (by simp; omega)]
  have hb:=he (i / 8)
  simp only [Int.toNat_natCast]
  rw [Z9r .u8 (n:=i%8) (by show i%8<=8; omega)]
  have hp:(0:Int)<((2^(i%8):Nat):Int):=by have:=Nat.pow_pos (n:=i%8) (show 0<2 by decide); omega
  have hq0:=Int.ediv_nonneg hb.1 (Int.le_of_lt hp)
  have hq1:e.getD (i / 8) 0 / ((2^(i%8):Nat):Int)<256:=Int.lt_of_le_of_lt (Int.ediv_le_self _ hb.1) hb.2
  rw [Ztb hq0 hq1]
  have hw:wrap .i64 ((i:Int)-1)=(i:Int)-1:=Zl (by omega) (by omega)
  by_cases hbit:ebit e i=true
  · have hb':(e.getD (i / 8) 0 / ((2^(i%8):Nat):Int)%2==1)=true:=hbit
    rw [Z1n hb',if_pos hbit,Z3 (Zft (a*a) x),hw]
    have:rn (a*a*x)=rn (a*a%PP*x%PP):=by
      rw [Zvk]; apply Zes; rw [Int.mul_emod (a*a%PP),Zpa,<- Int.mul_emod]
    rw [this]
  · rw [Bool.not_eq_true] at hbit
    have hb':(e.getD (i / 8) 0 / ((2^(i%8):Nat):Int)%2==1)=false:=hbit
    rw [Z0u hb',if_neg (by rw [hbit]; decide),hw,Zvk]
theorem Zom {x:Int} {e:LI} (he:Byt e) : ∀ (k n:Nat),k<=256->Z87 (rn x) e some (n+1+k) ((k:Int)-1) (rn (pw x e (256-k)))=some (rn (pw x e 256))
  | 0,n,_=>by
    show Z87 (rn x) e some (n+1) _ _=_
    rw [Z87,Zbz,Z0u (by decide)]
  | k+1,n,hk=>by
    have ih:=Zom (x:=x) he k n (by omega)
    rw [<- Nat.add_assoc,Z87]
    have hi:((k+1:Nat):Int)-1=(k:Int):=by omega
    rw [hi,Zss he (by omega)]
    have e1:256-k=(256-(k+1))+1:=by omega
    have e2:255-(256-(k+1))=k:=by omega
    rw [e1,pw,e2] at ih
    exact ih
theorem rpow (x:Int) {e:LI} (he:Byt e):Zjy (rn x) e=some (rn (pw x e 256)):=by
  rw [Zjy,Z3 (Zff (by decide) (by decide)),Z19]
  obtain ⟨n,hn⟩ : ∃ n,big=n+1+256:=⟨18446744073709551359,Z38⟩
  have:=Zom (x:=x) he 256 n (Nat.le_refl _)
  rw [<- hn] at this
  exact this
theorem Zst:Zb6 235 127=some Zp2:=by kernel_rfl
def esq8:LI:=[254,255,255,255,255,255,255,255,255,255,255,255,255,255,255,255,255,255,255,255,255,255,255,255,255,255,255,255,255,255,255,15]
theorem Zvt:Zb6 254 15=some esq8:=by kernel_rfl
theorem Zvs:Zb6 251 31=some ert:=by kernel_rfl
theorem rinv (a:Int):Z9c (rn a)=some (rn (pw a Zp2 256)):=by
  rw [Z9c,Z3 Zst,Z3 (rpow a Zqo)]
theorem rn0:([0,0,0,0,0,0,0,0,0,0]:LI)=rn 0:=by decide
theorem Z0fz (n:Int):tk (rn n) 0 10=rn n:=rfl
theorem Zu5 (a b:Int):ieq 10 (rn a) (rn b)=decide (a%PP=b%PP):=by
  unfold ieq
  rw [Z0fz,Z0fz]
  by_cases h:a%PP=b%PP
  · rw [decide_eq_true h,decide_eq_true (Zes h)]
  · rw [decide_eq_false h,decide_eq_false (fun e=>h (Z0fj e))]
theorem Zvj (a:Int):Zby (rn a)=some (decide (a%PP=0)):=by
  rw [Zby,Zk,rn0,Zu5]; rfl
theorem Z002 (a:Int):Zeq (rn a)=some (a%PP%2==1):=by
  have h:=Zk6 a 0
  have e:(rn a).getD 0 0=a%PP%67108864:=rfl
  rw [Zeq,Zk,Zk,Zp5 h.1 (by omega),e]
  congr 2
  omega
theorem Z0fd (a:Int):Zhd (rn a)=some (rn (fabs a)):=by
  rw [Zhd,Z3 (Z002 a)]
  unfold fabs
  by_cases h:(a%PP%2==1)=true
  · rw [h,Z1n rfl,Z3 (rneg a)]; rfl
  · rw [Bool.not_eq_true] at h
    rw [h,Z0u rfl]; rfl
def rq (u v:Int):Int:=u*pw v Zp2 256
def rr (u v:Int):Int:=pw (rq u v) esq8 256
def Zww (u v:Int):Int×Bool :=
  if v%PP=0 then (0,decide (u%PP=0))
  else if rr u v*rr u v%PP=rq u v%PP then (fabs (rr u v),true)
  else if (rr u v*Zsw)*(rr u v*Zsw)%PP=rq u v%PP then (fabs (rr u v*Zsw),true)
  else (0,false)
theorem Zyu (u v:Int):Z9f (rn u) (rn v)=some (rn (Zww u v).1,(Zww u v).2):=by
  rw [Z9f,Z3 (Zvj v)]
  unfold Zww
  by_cases h:v%PP=0
  · rw [if_pos h,Z1n (by simpa using h),Zk,Z3 (Zvj u),rn0]
  · rw [if_neg h,Z0u (by simpa using h),Z3 (rinv v),Z3 (Zft _ _),Z3 Zvt]
    have e0:u*pw v Zp2 256=rq u v:=rfl
    rw [e0,Z3 (rpow _ (Z9p (by decide)))]
    have e1:pw (rq u v) esq8 256=rr u v:=rfl
    rw [e1,Z3 (Zft _ _),Zu5]
    by_cases h1:rr u v*rr u v%PP=rq u v%PP
    · rw [if_pos h1,Z1n (by simpa using h1),Z3 (Z0fd _)]
    · rw [if_neg h1,Z0u (by simpa using h1),Z3 (Zff (by decide) (by decide)),Z3 Zvs,Z3 (rpow _ (Z9p (by decide)))]
      have e2:pw 2 ert 256=Zsw:=rfl
      rw [e2,Z3 (Zft _ _),Z3 (Zft _ _),Zu5]
      by_cases h2:(rr u v*Zsw)*(rr u v*Zsw)%PP=rq u v%PP
      · rw [if_pos h2,Z1n (by simpa using h2),Z3 (Z0fd _)]
      · rw [if_neg h2,Z0u (by simpa using h2),Zk,rn0]
end Go.Proofs.YtiflckckekjbnaaGreatDoor
namespace Go.Proofs.YtiflckckekjbnaaGreatDoor
open Go Go.Sx Go.RowKit
set_option linter.all false
set_option maxRecDepth 100000
theorem Zg7 {l:LI} {i:Nat} (h:l.length<=i):l.getD i 0=0:=by simp [List.getD_eq_getElem?_getD,List.getElem?_eq_none h]
set_option maxHeartbeats 1000000
theorem Zw4 (x:Int):Z0f .u64 x 8=x / 256:=by have:=Z9r .u64 (x:=x) (n:=8) (by decide); simpa using this
theorem Zz1 {n:Int} (h0:0<=n) (h1:n<115792089237316195423570985008687907853269984665640564039457584007913129639936):Zlu (byt n)=n:=by
 simp only [Zlu,byt,List.getD_cons_zero,List.getD_cons_succ]
 omega
theorem Zqv {a b:LI} (ha:Byt a) (hb:Byt b) : ∀ j,Zj9 a j=Zj9 b j->∀ i,i<j->a.getD (31-i) 0=b.getD (31-i) 0
 | 0,_,i,hi=>by omega
 | j+1,h,i,hi=>by
  have h1:=ha (31-j)
  have h2:=hb (31-j)
  have h':Zj9 a j*256+a.getD (31-j) 0=Zj9 b j*256+b.getD (31-j) 0:=h
  by_cases e:i=j
  ·subst e; omega
  ·exact Zqv ha hb j (by omega) i (by omega)
theorem Zz2 {a b:LI} (ha:Byt a) (hb:Byt b) (la:a.length=32) (lb:b.length=32) (h:Zlu a=Zlu b):a=b:=by
 rw [<- Zfj,<- Zfj] at h
 apply List.ext_getElem
 ·rw [la,lb]
 ·intro i h1 h2
  have:=Zqv ha hb 32 h (31-i) (by omega)
  rw [show 31-(31-i)=i by omega] at this
  simpa [List.getD_eq_getElem?_getD,List.getElem?_eq_getElem h1,List.getElem?_eq_getElem h2] using this
theorem Zlv {a:LI} (ha:Byt a):Zlu a<115792089237316195423570985008687907853269984665640564039457584007913129639936:=by
 have key : ∀ j,j<=32->Zj9 a j<(256:Int)^j:=by
  intro j
  induction j with
  | zero=>intro _; show (0:Int)<1; omega
  | succ j ih =>
   intro hj
   have h1:=ha (31-j)
   have h2:=ih (by omega)
   show Zj9 a j*256+a.getD (31-j) 0<_
   rw [Int.pow_succ]
   omega
 have:=key 32 (Nat.le_refl _)
 rw [Zfj] at this
 have e2:(256:Int)^32=115792089237316195423570985008687907853269984665640564039457584007913129639936:=by decide
 omega
theorem Zx3 {a:LI} (h:Byt a) (la:a.length=32):byt (Zlu a)=a :=
 Zz2 (Z00k _) h (Zs1 _) la (Zz1 (Zcv h) (Zlv h))
theorem Zqg (n:Int) : ∀ j,j<32->(byt n).getD j 0=n / ((256^j:Nat):Int)%256:=by
 intro j hj
 match j,hj with
 | 0,_=>show n%256=n / 1%256; rw [Int.ediv_one]
 | 1,_=>rfl
 | 2,_=>rfl
 | 3,_=>rfl
 | 4,_=>rfl
 | 5,_=>rfl
 | 6,_=>rfl
 | 7,_=>rfl
 | 8,_=>rfl
 | 9,_=>rfl
 | 10,_=>rfl
 | 11,_=>rfl
 | 12,_=>rfl
 | 13,_=>rfl
 | 14,_=>rfl
 | 15,_=>rfl
 | 16,_=>rfl
 | 17,_=>rfl
 | 18,_=>rfl
 | 19,_=>rfl
 | 20,_=>rfl
 | 21,_=>rfl
 | 22,_=>rfl
 | 23,_=>rfl
 | 24,_=>rfl
 | 25,_=>rfl
 | 26,_=>rfl
 | 27,_=>rfl
 | 28,_=>rfl
 | 29,_=>rfl
 | 30,_=>rfl
 | 31,_=>rfl
 | j+32,h=>exact absurd h (by omega)
theorem Z017 {p:LI} (h:Byt p) (l:p.length=32) {j:Nat} (hj:j<32):p.getD j 0=Zlu p / ((256^j:Nat):Int)%256:=by
 have e:=Zqg (Zlu p) j hj
 rw [Zx3 h l] at e
 exact e
end Go.Proofs.YtiflckckekjbnaaGreatDoor
namespace Go.Proofs.YtiflckckekjbnaaGreatDoor
open Go Go.Sx Go.RowKit
open Go.IntKind (wrap)
set_option linter.all false
set_option maxRecDepth 100000
set_option maxHeartbeats 1000000
theorem Zx1 {w m b i j:Nat} (hw:0<w) (hm:m<2^i) (hb:b<=1):(m+b*2^i) / 2^(w*j)%2^w=m / 2^(w*j)%2^w+(if j=i / w then b*2^(i%w) else 0):=by
 have hpos:0<2^(w*j):=Nat.pow_pos (by decide)
 by_cases h:j=i / w
 ·rw [if_pos h]
  have hi:i=w*j+i%w:=by rw [h]; exact (Nat.div_add_mod i w).symm
  have ht:i%w<w:=Nat.mod_lt _ hw
  generalize i%w=t at *
  have hq:m / 2^(w*j)<2^t:=by
   rw [Nat.div_lt_iff_lt_mul hpos,<- Nat.pow_add,Nat.add_comm t,<- hi]; exact hm
  have e:m+b*2^i=m+b*2^t*2^(w*j):=by
   rw [hi,Nat.pow_add,Nat.mul_assoc,Nat.mul_comm (2^t)]
  rw [e,Nat.add_mul_div_right _ _ hpos]
  have h2:2^(t+1)<=2^w:=Nat.pow_le_pow_right (by decide) (by omega)
  have h3:b*2^t<=1*2^t:=Nat.mul_le_mul_right _ hb
  rw [Nat.pow_succ] at h2
  generalize 2^t=p at *
  generalize b*p=bp at *
  rw [Nat.mod_eq_of_lt (by omega),Nat.mod_eq_of_lt (by omega)]
 ·rw [if_neg h,Nat.add_zero]
  rcases Nat.lt_or_gt_of_ne h with h1 | h1
  ·have hle:w*(j+1)<=i:=by
    have h5:w*(j+1)<=w*(i / w):=Nat.mul_le_mul_left _ h1
    have h6:=Nat.mul_div_le i w
    omega
   obtain ⟨r,hr⟩:=Nat.exists_eq_add_of_le hle
   have e:m+b*2^i=m+b*2^r*2^w*2^(w*j):=by
    rw [hr,Nat.pow_add,Nat.mul_succ,Nat.pow_add]
    congr 1
    generalize 2^(w*j)=x
    generalize 2^w=y
    generalize 2^r=z
    ac_rfl
   rw [e,Nat.add_mul_div_right _ _ hpos,Nat.add_mul_mod_self_right]
  ·have hle:i+1<=w*j:=by
    have h5:i<w*(i / w+1):=by
     have:=Nat.div_add_mod i w
     have:=Nat.mod_lt i hw
     rw [Nat.mul_succ]
     omega
    have h6:w*(i / w+1)<=w*j:=Nat.mul_le_mul_left _ h1
    omega
   have h7:2^(i+1)<=2^(w*j):=Nat.pow_le_pow_right (by decide) hle
   have h8:b*2^i<=1*2^i:=Nat.mul_le_mul_right _ hb
   rw [Nat.pow_succ] at h7
   rw [Nat.div_eq_of_lt (by omega),Nat.div_eq_of_lt (by omega)]
theorem Zs4 {w N i j:Nat} (hw:0<w):N%2^(i+1) / 2^(w*j)%2^w=N%2^i / 2^(w*j)%2^w+(if j=i / w then (N / 2^i%2)*2^(i%w) else 0):=by
 rw [Nat.mod_pow_succ,Nat.mul_comm (2^i)]
 exact Zx1 hw (Nat.mod_lt _ (Nat.pow_pos (by decide))) (by omega)
theorem Z046 {w N j t:Nat} (ht:t<w):N / 2^(w*j)%2^w / 2^t%2=N / 2^(w*j+t)%2:=by
 have e:2^w=2^t*2^(w-t):=by rw [<- Nat.pow_add]; congr 1; omega
 rw [e,Nat.mod_mul_right_div_self,Nat.div_div_eq_div_mul,<- Nat.pow_add]
 refine Nat.mod_mod_of_dvd _ ?_
 have:w-t=(w-t-1)+1:=by omega
 rw [this,Nat.pow_succ]
 exact Nat.dvd_mul_left 2 _
structure Dgs (w L N i:Nat) (a:LI):Prop where
 len:a.length=L
 dig : ∀ j,j<L->a.getD j 0=((N%2^i / 2^(w*j)%2^w:Nat):Int)
theorem Dgs.start (w L N:Nat):Dgs w L N 0 (List.replicate L 0):=by
 refine ⟨by simp,fun j hj=>?_⟩
 rw [Nat.pow_zero,Nat.mod_one,Nat.zero_div,Nat.zero_mod]
 simp [List.getD_eq_getElem?_getD,hj]
theorem Dgs.put {w L N i:Nat} {a:LI} (h:Dgs w L N i a) (hw:0<w) (hi:i<w*L):Dgs w L N (i+1) (Z28 a (i / w) (a.getD (i / w) 0+((N / 2^i%2*2^(i%w):Nat):Int))):=by
 have hj:i / w<L:=by rw [Nat.div_lt_iff_lt_mul hw,Nat.mul_comm]; exact hi
 refine ⟨by rw [Z4s (by rw [h.len]; exact hj),h.len],fun j hjl=>?_⟩
 rw [Z17,Zs4 hw]
 by_cases e:j=i / w
 ·subst e
  rw [if_pos rfl,if_pos rfl,h.dig _ hjl,<- Int.natCast_add]
 ·rw [if_neg e,if_neg e,Nat.add_zero,h.dig _ hjl]
theorem Dgs.bound {w L N i:Nat} {a:LI} (h:Dgs w L N i a) (hw:0<w) (hi:i<w*L):0<=a.getD (i / w) 0+((N / 2^i%2*2^(i%w):Nat):Int)/\a.getD (i / w) 0+((N / 2^i%2*2^(i%w):Nat):Int)<((2^w:Nat):Int):=by
 have hj:i / w<L:=by rw [Nat.div_lt_iff_lt_mul hw,Nat.mul_comm]; exact hi
 have h2:=(h.put hw hi).dig _ hj
 rw [Z17,if_pos rfl] at h2
 rw [h2]
 have:=Nat.mod_lt (N%2^(i+1) / 2^(w*(i / w))) (Nat.pow_pos (n:=w) (show 0<2 by decide))
 omega
theorem Zw6 {w N:Nat} {l:LI} {i:Nat} {L:Nat} (hw:0<w) (hl : ∀ j,j<L->l.getD j 0=((N / 2^(w*j)%2^w:Nat):Int)) (hi:i<w*L) :
  l.getD (i / w) 0 / ((2^(i%w):Nat):Int)%2=((N / 2^i%2:Nat):Int):=by
 have hj:i / w<L:=by rw [Nat.div_lt_iff_lt_mul hw,Nat.mul_comm]; exact hi
 rw [hl _ hj]
 have e:=Z046 (w:=w) (N:=N) (j:=i / w) (t:=i%w) (Nat.mod_lt _ hw)
 rw [Nat.div_add_mod] at e
 rw [<- e]
 rfl
theorem Zw3 {k:IntKind} {b t:Nat} (hk:t<=k.bits) (hb:wrap k ((b*2^t:Nat):Int)=((b*2^t:Nat):Int)):Z1v k (b:Int) (t:Int)=((b*2^t:Nat):Int):=by
 rw [Zfg k hk,<- Int.natCast_mul,hb]
theorem Zti {b t:Nat} (hb:b<=1) (ht:t<26):b*2^t<67108864:=by
 have h1:2^t<=2^25:=Nat.pow_le_pow_right (by decide) (by omega)
 have h2:b*2^t<=1*2^t:=Nat.mul_le_mul_right _ hb
 omega
theorem Zrz {b t:Nat} (hb:b<=1) (ht:t<8):b*2^t<256:=by
 have h1:2^t<=2^7:=Nat.pow_le_pow_right (by decide) (by omega)
 have h2:b*2^t<=1*2^t:=Nat.mul_le_mul_right _ hb
 omega
theorem Ztt {i:Nat} (h:i<1000):wrap .i64 (Int.tdiv (i:Int) 8)=((i / 8:Nat):Int):=by
 rw [Int.tdiv_eq_ediv_of_nonneg (by omega),Zl (by omega) (by omega)]; omega
theorem Zui (i:Nat):Int.tmod (i:Int) 8=((i%8:Nat):Int):=by
 rw [Int.tmod_eq_emod_of_nonneg (by omega)]; omega
theorem Zqk {i:Nat} (h:i<1000):wrap .i64 (Int.tdiv (i:Int) 26)=((i / 26:Nat):Int):=by
 rw [Int.tdiv_eq_ediv_of_nonneg (by omega),Zl (by omega) (by omega)]; omega
theorem Zqy (i:Nat):Int.tmod (i:Int) 26=((i%26:Nat):Int):=by
 rw [Int.tmod_eq_emod_of_nonneg (by omega)]; omega
theorem Zsn {p:LI} (hp:Byt p) {N:Nat} (hN : ∀ j,j<32->p.getD j 0=((N / 2^(8*j)%2^8:Nat):Int)) (k:LI->Option (LI)) (m:Nat) : ∀ (n i:Nat) (a:LI),i+m=255->Dgs 26 10 N i a ->
  ∃ c,Z3e p k (n+1+m) (i:Int) a=k c/\Dgs 26 10 N 255 c:=by
 induction m with
 | zero =>
  intro n i a hi ha
  have e:i=255:=by omega
  subst e
  refine ⟨a,?_,ha⟩
  rw [Nat.add_zero,Z3e,Z6h,Z0u (by decide)]
 | succ m ih =>
  intro n i a hi ha
  have e1:=Z5g (i:=i) (by omega)
  have hb:=ha.bound (by decide) (i:=i) (by omega)
  have hs:=Zw6 (w:=8) (by decide) hN (i:=i) (by omega)
  have hpb:=hp (i / 8)
  have hpp:(0:Int)<((2^(i%8):Nat):Int):=by have:=Nat.pow_pos (n:=i%8) (show 0<2 by decide); omega
  have hq0:=Int.ediv_nonneg hpb.1 (Int.le_of_lt hpp)
  have hq1:p.getD (i / 8) 0 / ((2^(i%8):Nat):Int)<256:=Int.lt_of_le_of_lt (Int.ediv_le_self _ hpb.1) hpb.2
  have hbit:N / 2^i%2<=1:=by omega
  have hsm:=Zti hbit (Nat.mod_lt i (show 0<26 by decide))
  obtain ⟨c,ec,hc⟩:=ih n (i+1) _ (by omega) (ha.put (by decide) (by omega))
  refine ⟨c,?_,hc⟩
  rw [<- Nat.add_assoc,Z3e,Z6h,Z1n (decide_eq_true (by omega))]
  simp only [Zk,e1,Ztt (show i<1000 by omega),Zui,Zqk (show i<1000 by omega),Zqy,Int.toNat_natCast]
  have w1:wrap .u64 ((N / 2^i%2:Nat):Int)=((N / 2^i%2:Nat):Int):=Zb (by omega) (by omega)
  have w2:wrap .u64 ((N / 2^i%2*2^(i%26):Nat):Int)=((N / 2^i%2*2^(i%26):Nat):Int):=Zb (by omega) (by omega)
  have w3:wrap .u64 (a.getD (i / 26) 0+((N / 2^i%2*2^(i%26):Nat):Int))=a.getD (i / 26) 0+((N / 2^i%2*2^(i%26):Nat):Int):=by
   have h26:((2^26:Nat):Int)=67108864:=by decide
   have:=hb.2
   exact Zb hb.1 (by omega)
  rw [Z9r .u8 (n:=i%8) (by show i%8<=8; omega),Ztb hq0 hq1,hs,w1,Zw3 (by show i%26<=64; omega) w2,w3]
  rw [Zu (Z0v (by omega) (by omega)),Zu (by simp; omega),Zu (Z0v (by omega) (by omega)),Zu (by simp; omega),Zu (Z0v (by omega) (by omega))]
  exact ec
theorem pow8 (j:Nat):2^(8*j)=256^j:=by rw [Nat.pow_mul]
theorem Zw7 {p:LI} (hp:Byt p) (l:p.length=32) : ∀ j,j<32->p.getD j 0=(((Zlu p).toNat / 2^(8*j)%2^8:Nat):Int):=by
 intro j hj
 rw [Z017 hp l hj,pow8]
 have h:=Zcv hp
 obtain ⟨n,hn⟩:=Int.eq_ofNat_of_zero_le h
 rw [hn]
 rfl
theorem Zs3 {N:Nat} {c:LI} (h:Dgs 26 10 N 255 c):rV c 10=((N%2^255:Nat):Int):=by
 have e:c=Zwv ((N%2^255:Nat):Int):=by
  rw [Zik h.len]
  unfold Zwv
  have hh:=h.dig
  generalize N%2^255=M at *
  rw [hh 0 (by decide),hh 1 (by decide),hh 2 (by decide),hh 3 (by decide),hh 4 (by decide),hh 5 (by decide),hh 6 (by decide),hh 7 (by decide),hh 8 (by decide),hh 9 (by decide)]
  simp only [List.cons.injEq,and_true]
  refine ⟨?_,rfl,rfl,rfl,rfl,rfl,rfl,rfl,rfl,rfl⟩
  show ((M / 1%67108864:Nat):Int)=(M:Int)%67108864
  rw [Nat.div_one]; rfl
 have hlt:N%2^255<2^255:=Nat.mod_lt _ (by decide)
 have e2:(2^255:Nat)=57896044618658097711785492504343953926634992332820282019728792003956564819968:=by decide
 generalize N%2^255=M at *
 rw [e,Zv6 (by omega) (by omega)]
theorem Z01d {N i:Nat} {c:LI} (h:Dgs 26 10 N i c) : ∀ j,0<=c.getD j 0/\c.getD j 0<1152921504606846976:=by
 intro j
 by_cases hj:j<10
 ·rw [h.dig j hj]
  have:=Nat.mod_lt (N%2^i / 2^(26*j)) (Nat.pow_pos (n:=26) (show 0<2 by decide))
  omega
 ·have:c.getD j 0=0:=by simp [List.getD_eq_getElem?_getD,List.getElem?_eq_none (show c.length<=j by have:=h.len; omega)]
  omega
theorem Ztk (p:LI):Zs0 p=Zlu p-p.getD 31 0 / 128*57896044618658097711785492504343953926634992332820282019728792003956564819968:=by
 unfold Zs0 Zlu
 omega
theorem Zz3 {p:LI} (hp:Byt p):(((Zlu p).toNat%2^255:Nat):Int)=Zs0 p:=by
 have h:=Zcv hp
 have hb:0<=Zs0 p/\Zs0 p<57896044618658097711785492504343953926634992332820282019728792003956564819968:=by
  have h2:=Zcv (Zgq hp (j:=31) (v:=p.getD 31 0%128) (by omega))
  have h3:=Zlv (Zgq hp (j:=31) (v:=p.getD 31 0%128) (by omega))
  have e:Zlu (Z28 p 31 (p.getD 31 0%128))=Zs0 p:=by
   unfold Zs0 Zlu
   simp only [Z17]
   simp [-List.getD_eq_getElem?_getD]
  have h31:=hp 31
  rw [e] at h2
  refine ⟨h2,?_⟩
  have:Zj9 (Z28 p 31 (p.getD 31 0%128)) 32<128*(256:Int)^31:=by
   have key : ∀ j,j<32->Zj9 (Z28 p 31 (p.getD 31 0%128)) (j+1)<128*(256:Int)^j:=by
    intro j
    induction j with
    | zero =>
     intro _
     show 0*256+(Z28 p 31 (p.getD 31 0%128)).getD 31 0<128*1
     rw [Z17,if_pos rfl]; omega
    | succ j ih =>
     intro hj
     have i1:=ih (by omega)
     have i2:=Zgq hp (j:=31) (v:=p.getD 31 0%128) (by omega) (31-(j+1))
     show Zj9 _ (j+1)*256+(Z28 p 31 (p.getD 31 0%128)).getD (31-(j+1)) 0<_
     rw [Int.pow_succ]
     omega
   exact key 31 (by decide)
  rw [Zfj,e] at this
  have e3:128*(256:Int)^31=57896044618658097711785492504343953926634992332820282019728792003956564819968:=by decide
  omega
 have e:=Ztk p
 have e2:(2^255:Nat)=57896044618658097711785492504343953926634992332820282019728792003956564819968:=by decide
 obtain ⟨n,hn⟩:=Int.eq_ofNat_of_zero_le h
 rw [e2,hn]
 rw [hn] at e
 have h31:=hp 31
 generalize p.getD 31 0 / 128=q at *
 generalize Zs0 p=b at *
 show ((n%57896044618658097711785492504343953926634992332820282019728792003956564819968:Nat):Int)=b
 clear hn h h31 e2
 omega
theorem Z0nr {p:LI} (hp:Byt p) (l:p.length=32):Z9b p=some (rn (Zs0 p)):=by
 obtain ⟨n,hn⟩ : ∃ n,big=n+1+255:=⟨18446744073709551360,Z38⟩
 obtain ⟨c,ec,hc⟩:=Zsn hp (Zw7 hp l) (fun (a73:LI)=>opt (Z85 a73) fun y142=>some y142) 255 n 0 _ (by omega) (Dgs.start 26 10 _)
 rw [Z9b,Z19,hn]
 refine ec.trans ?_
 rw [Z3 (Zij hc.len (Z01d hc)),Zs3 hc,Zz3 hp]
theorem Zq2 {p:LI} {N:Nat} (hp : ∀ j,0<=p.getD j 0/\p.getD j 0<67108864) (hN : ∀ j,j<10->p.getD j 0=((N / 2^(26*j)%2^26:Nat):Int)) (k:LI->Option (LI)) (m:Nat) : ∀ (n i:Nat) (a:LI),i+m=255->Dgs 8 32 N i a ->
  ∃ c,Z6g p k (n+1+m) (i:Int) a=k c/\Dgs 8 32 N 255 c:=by
 induction m with
 | zero =>
  intro n i a hi ha
  have e:i=255:=by omega
  subst e
  refine ⟨a,?_,ha⟩
  rw [Nat.add_zero,Z6g,Zan,Z0u (by decide)]
 | succ m ih =>
  intro n i a hi ha
  have e1:=Z5g (i:=i) (by omega)
  have hb:=ha.bound (by decide) (i:=i) (by omega)
  have hs:=Zw6 (w:=26) (by decide) hN (i:=i) (by omega)
  have hpb:=hp (i / 26)
  have hpp:(0:Int)<((2^(i%26):Nat):Int):=by have:=Nat.pow_pos (n:=i%26) (show 0<2 by decide); omega
  have hq0:=Int.ediv_nonneg hpb.1 (Int.le_of_lt hpp)
  have hq1:p.getD (i / 26) 0 / ((2^(i%26):Nat):Int)<67108864:=Int.lt_of_le_of_lt (Int.ediv_le_self _ hpb.1) hpb.2
  have hbit:N / 2^i%2<=1:=by omega
  have hsm:=Zrz hbit (Nat.mod_lt i (show 0<8 by decide))
  obtain ⟨c,ec,hc⟩:=ih n (i+1) _ (by omega) (ha.put (by decide) (by omega))
  refine ⟨c,?_,hc⟩
  rw [<- Nat.add_assoc,Z6g,Zan,Z1n (decide_eq_true (by omega))]
  simp only [Zk,e1,Ztt (show i<1000 by omega),Zui,Zqk (show i<1000 by omega),Zqy,Int.toNat_natCast]
  have w1:wrap .u8 ((N / 2^i%2:Nat):Int)=((N / 2^i%2:Nat):Int):=by rw [Z2c]; omega
  have w2:wrap .u8 ((N / 2^i%2*2^(i%8):Nat):Int)=((N / 2^i%2*2^(i%8):Nat):Int):=by rw [Z2c]; omega
  have w3:wrap .u8 (a.getD (i / 8) 0+((N / 2^i%2*2^(i%8):Nat):Int))=a.getD (i / 8) 0+((N / 2^i%2*2^(i%8):Nat):Int):=by
   rw [Z2c]
   have h8:((2^8:Nat):Int)=256:=by decide
   have:=hb.2
   exact Int.emod_eq_of_lt hb.1 (by omega)
  rw [Z9r .u64 (n:=i%26) (by show i%26<=64; omega),Zp5 hq0 (by omega),hs,w1,Zw3 (by show i%8<=8; omega) w2,w3]
  rw [Zu (Z0v (by omega) (by omega)),Zu (by simp; omega),Zu (Z0v (by omega) (by omega)),Zu (by simp; omega),Zu (Z0v (by omega) (by omega))]
  exact ec
theorem Zsx (n:Int) : ∀ j,j<10->(rn n).getD j 0=(((n%PP).toNat / 2^(26*j)%2^26:Nat):Int):=by
 intro j hj
 have h:=(Ziu n).1
 unfold rn
 obtain ⟨m,hm⟩:=Int.eq_ofNat_of_zero_le h
 rw [hm]
 match j,hj with
 | 0,_=>show (m:Int)%67108864=((m / 1%67108864:Nat):Int); rw [Nat.div_one]; rfl
 | 1,_=>rfl
 | 2,_=>rfl
 | 3,_=>rfl
 | 4,_=>rfl
 | 5,_=>rfl
 | 6,_=>rfl
 | 7,_=>rfl
 | 8,_=>rfl
 | 9,_=>rfl
 | j+10,h=>exact absurd h (by omega)
theorem Zj8 {l:LI} {i:Nat} (h:i<l.length):l.getD i 0=l[i]:=by simp [List.getD_eq_getElem?_getD,List.getElem?_eq_getElem h]
theorem Z0f9 (n:Int):Zgi (rn n)=some (byt (n%PP)):=by
 obtain ⟨f,hf⟩ : ∃ n,big=n+1+255:=⟨18446744073709551360,Z38⟩
 obtain ⟨c,ec,hc⟩:=Zq2 (Zk6 n) (Zsx n) some 255 f 0 _ (by omega) (Dgs.start 8 32 _)
 rw [Zgi,Z19,hf]
 refine ec.trans ?_
 congr 1
 have h:=Ziu n
 obtain ⟨m,hm⟩:=Int.eq_ofNat_of_zero_le h.1
 have e:(n%PP).toNat=m:=by rw [hm]; rfl
 have h1:m<57896044618658097711785492504343953926634992332820282019728792003956564819949:=by
  have:=h.2
  rw [hm] at this
  unfold PP at this
  omega
 have e2:(2^255:Nat)=57896044618658097711785492504343953926634992332820282019728792003956564819968:=by decide
 rw [hm]
 apply List.ext_getElem
 ·rw [hc.len]; rfl
 ·intro i h2 h3
  have hi:i<32:=by rw [hc.len] at h2; exact h2
  have hd:=hc.dig i hi
  rw [e,Nat.mod_eq_of_lt (a:=m) (b:=2^255) (by rw [e2]; omega),pow8] at hd
  have hb:=Zqg (m:Int) i hi
  rw [<- Zj8 h2,<- Zj8 h3,hd,hb]
  rfl
end Go.Proofs.YtiflckckekjbnaaGreatDoor
namespace Go.Proofs.YtiflckckekjbnaaGreatDoor
open Go Go.Sx Go.RowKit
set_option linter.all false
set_option maxRecDepth 100000
theorem Z007 {p:LI} (h:Byt p) (o n:Nat):Byt (tk p o n):=by
 intro i
 rw [Zkg]
 split
 ·exact h _
 ·decide
end Go.Proofs.YtiflckckekjbnaaGreatDoor
namespace Go.Proofs.YtiflckckekjbnaaGreatDoor
open Go Go.Sx Go.RowKit
open Go.IntKind (wrap)
set_option linter.all false
set_option maxRecDepth 100000
noncomputable def Z00f:G:=⟨fi BX,fi BY,⟨by decide +kernel⟩⟩
theorem Zyk:Rep Z02i Z00f:=by
 constructor
 ·show fi 1≠0; decide +kernel
 ·show fi BX=fi BX*fi 1; decide +kernel
 ·show fi BY=fi BY*fi 1; decide +kernel
 ·show fi (BX*BY)=fi BX*fi BY*fi 1; decide +kernel
def be8 (x:Int):LI:=[wrap .u8 (Z0f .u64 (Z0f .u64 (Z0f .u64 (Z0f .u64 (Z0f .u64 (Z0f .u64 (Z0f .u64 x 8) 8) 8) 8) 8) 8) 8),wrap .u8 (Z0f .u64 (Z0f .u64 (Z0f .u64 (Z0f .u64 (Z0f .u64 (Z0f .u64 x 8) 8) 8) 8) 8) 8),wrap .u8 (Z0f .u64 (Z0f .u64 (Z0f .u64 (Z0f .u64 (Z0f .u64 x 8) 8) 8) 8) 8),wrap .u8 (Z0f .u64 (Z0f .u64 (Z0f .u64 (Z0f .u64 x 8) 8) 8) 8),wrap .u8 (Z0f .u64 (Z0f .u64 (Z0f .u64 x 8) 8) 8),wrap .u8 (Z0f .u64 (Z0f .u64 x 8) 8),wrap .u8 (Z0f .u64 x 8),wrap .u8 x]
theorem Zex (x:Int):Z1o x=some (be8 x):=by kernel_rfl
theorem Ztf (x:Int) : ∀ y∈be8 x,0<=y/\y<256:=by
 unfold be8
 repeat' (first | exact List.forall_mem_nil _ | refine List.forall_mem_cons.2 ⟨Zov _,?_⟩)
def told (s:LI):LI:=be8 (s.getD 0 0)++(be8 (s.getD 1 0)++(be8 (s.getD 2 0)++(be8 (s.getD 3 0)++(be8 (s.getD 4 0)++(be8 (s.getD 5 0)++(be8 (s.getD 6 0)++be8 (s.getD 7 0)))))))
theorem Zz0 (y d:Zy):Z2x y (fun a74=>some (a74,d)) big 0 (List.replicate 64 0)=some (told y.gstate,d):=by kernel_rfl
theorem Zz5 (s:LI):Byt (told s):=by
 apply Z9p
 unfold told
 intro x hx
 simp only [List.mem_append] at hx
 rcases hx with h | h | h | h | h | h | h | h <;> exact Ztf _ _ h
theorem Zna (o:BinOp) (x y:Int) (h:o = .and∨o = .or∨o = .andNot):0<=Za o .u8 x y/\Za o .u8 x y<256:=by
 rcases h with h | h | h <;> subst h
 ·show 0<=IntKind.u8.wrap _/\IntKind.u8.wrap _<_; exact Zov _
 ·show 0<=IntKind.u8.wrap _/\IntKind.u8.wrap _<_; exact Zov _
 ·show 0<=IntKind.u8.wrap _/\IntKind.u8.wrap _<_; exact Zov _
def Znc (p:LI):LI:=Z28 (Z28 p 0 (Za .andNot .u8 (p.getD 0 0) 7)) 31 (Za .or .u8 (Za .and .u8 ((Z28 p 0 (Za .andNot .u8 (p.getD 0 0) 7)).getD 31 0) 127) 64)
theorem Zx7 (p:LI):Z9k p=some (Znc p):=by
 rw [Z9k]
 simp only [Zk]
 rfl
theorem Zto {p:LI} (h:Byt p):Byt (Znc p):=Zgq (Zgq h (Zna _ _ _ (.inr (.inr rfl)))) (Zna _ _ _ (.inr (.inl rfl)))
noncomputable def pB (a:LI):G:=Zjf (Zlu a).toNat Z00f
theorem Zpn {a:LI} (h:Byt a) : ∃ q,Z6p a=some (pt q)/\Rep q (pB a):=by
 refine ⟨_,Zsd h,?_⟩
 have:=Zrd a Zyk 64
 rw [Z01x h] at this
 exact this
theorem Zs6 {q:Q4} {P:G} (h:Rep q P):Z7i (pt q)=some (encG P):=by rw [Zty,Z01k h]
end Go.Proofs.YtiflckckekjbnaaGreatDoor
namespace Go.Proofs.YtiflckckekjbnaaGreatDoor
open Go Go.Sx Go.RowKit
set_option linter.all false
set_option maxRecDepth 100000
structure Q3 where
 x:Int
 y:Int
 z:Int
def rp (q:Q3):Z1y:=⟨rn q.x,rn q.y,rn q.z⟩
structure Zl6 (q:Q3) (P:G):Prop where
 z:fi q.z≠0
 x:fi q.x=P.x*fi q.z
 y:fi q.y=P.y*fi q.z
theorem rD:q7_D=some (rn DD):=by
 rw [q7_D,Zk,Z3 (Z0nr (Z9p (by decide)) rfl)]
 decide
def Zon (p q:Q3):Q3 :=
 let a:=p.z*q.z
 let b:=a*a
 let c:=p.x*q.x
 let d:=p.y*q.y
 let e:=DD*(c*d)
 let f:=b-e
 let g:=b+e
 let s:=p.x*q.y+p.y*q.x
 ⟨a*f*s,a*g*(d+c),f*g⟩
theorem Zn0 (p q:Q3):Zjz (rp p) (rp q)=some (rp (Zon p q)):=by
 rw [Zjz]
 show opt (Z1u (rn p.z) (rn q.z)) _=_
 rw [Z3 (Zft _ _),Z3 (Zft _ _)]
 show opt (Z1u (rn p.x) (rn q.x)) _=_
 rw [Z3 (Zft _ _)]
 show opt (Z1u (rn p.y) (rn q.y)) _=_
 rw [Z3 (Zft _ _),Z3 rD,Z3 (Zft _ _),Z3 (Zft _ _),Z3 (rsub _ _),Z3 (radd _ _)]
 show opt (Z1u (rn p.x) (rn q.y)) _=_
 rw [Z3 (Zft _ _)]
 show opt (Z1u (rn p.y) (rn q.x)) _=_
 rw [Z3 (Zft _ _),Z3 (radd _ _),Z3 (Zft _ _),Z3 (Zft _ _),Z3 (Zft _ _),Z3 (radd _ _),Z3 (Zft _ _),Z3 (Zft _ _)]
 rfl
def Zgo (p:Q3):Q3 :=
 let xx:=p.x*p.x
 let yy:=p.y*p.y
 let zz:=p.z*p.z
 let l:=yy-xx
 let m:=zz+zz-l
 let xy:=p.x*p.y
 ⟨(xy+xy)*m,(xx+yy)*l,l*m⟩
theorem Zb7 (p:Q3):Z5o (rp p)=some (rp (Zgo p)):=by
 rw [Z5o]
 show opt (Z1u (rn p.x) (rn p.x)) _=_
 rw [Z3 (Zft _ _)]
 show opt (Z1u (rn p.y) (rn p.y)) _=_
 rw [Z3 (Zft _ _)]
 show opt (Z1u (rn p.z) (rn p.z)) _=_
 rw [Z3 (Zft _ _),Z3 (rsub _ _),Z3 (radd _ _),Z3 (rsub _ _)]
 show opt (Z1u (rn p.x) (rn p.y)) _=_
 rw [Z3 (Zft _ _),Z3 (radd _ _),Z3 (Zft _ _),Z3 (radd _ _),Z3 (Zft _ _),Z3 (Zft _ _)]
 rfl
theorem Zmv {p q:Q3} {P Q:G} (hp:Zl6 p P) (hq:Zl6 q Q):Zl6 (Zon p q) (Zcb P Q):=by
 have d1:=Ztr P.on Q.on
 have d2:=Zts P.on Q.on
 have ax:=Zqc P Q
 have ay:=Zqd P Q
 have hz:=Z95 hp.z hq.z
 have hb:=Z95 hz hz
 have ef:fi (p.z*q.z*(p.z*q.z)-DD*(p.x*q.x*(p.y*q.y)))=(fi p.z*fi q.z*(fi p.z*fi q.z))*(1-dF*P.x*Q.x*P.y*Q.y):=by
  simp only [Z2b,Zdj,Z04x,hp.x,hq.x,hp.y,hq.y]
  generalize dF=d at *
  clear d1 d2 ax ay hz hb
  grind -lia -linarith (splits:=0)
 have eg:fi (p.z*q.z*(p.z*q.z)+DD*(p.x*q.x*(p.y*q.y)))=(fi p.z*fi q.z*(fi p.z*fi q.z))*(1+dF*P.x*Q.x*P.y*Q.y):=by
  simp only [Z2b,Za8,Z04x,hp.x,hq.x,hp.y,hq.y]
  generalize dF=d at *
  clear d1 d2 ax ay hz hb
  grind -lia -linarith (splits:=0)
 constructor
 ·show fi ((p.z*q.z*(p.z*q.z)-DD*(p.x*q.x*(p.y*q.y)))*(p.z*q.z*(p.z*q.z)+DD*(p.x*q.x*(p.y*q.y))))≠0
  rw [Z2b,ef,eg]
  exact Z95 (Z95 hb d2) (Z95 hb d1)
 ·show fi (p.z*q.z*(p.z*q.z*(p.z*q.z)-DD*(p.x*q.x*(p.y*q.y)))*(p.x*q.y+p.y*q.x))=(Zcb P Q).x*fi ((p.z*q.z*(p.z*q.z)-DD*(p.x*q.x*(p.y*q.y)))*(p.z*q.z*(p.z*q.z)+DD*(p.x*q.x*(p.y*q.y))))
  rw [Z2b (p.z*q.z*(p.z*q.z)-_),Z2b,Z2b,ef,eg]
  simp only [Z2b,Za8,hp.x,hq.x,hp.y,hq.y]
  generalize (Zcb P Q).x=X at *
  generalize dF=d at *
  clear d1 d2 ay hz hb ef eg
  grind -lia -linarith (splits:=0)
 ·show fi (p.z*q.z*(p.z*q.z*(p.z*q.z)+DD*(p.x*q.x*(p.y*q.y)))*(p.y*q.y+p.x*q.x))=(Zcb P Q).y*fi ((p.z*q.z*(p.z*q.z)-DD*(p.x*q.x*(p.y*q.y)))*(p.z*q.z*(p.z*q.z)+DD*(p.x*q.x*(p.y*q.y))))
  rw [Z2b (p.z*q.z*(p.z*q.z)-_),Z2b,Z2b,ef,eg]
  simp only [Z2b,Za8,hp.x,hq.x,hp.y,hq.y]
  generalize (Zcb P Q).y=Y at *
  generalize dF=d at *
  clear d1 d2 ax hz hb ef eg
  grind -lia -linarith (splits:=0)
theorem Ziq {p:Q3} {P:G} (hp:Zl6 p P):Zl6 (Zgo p) (Zcb P P):=by
 have d1:=Ztr P.on P.on
 have d2:=Zts P.on P.on
 have ax:=Zqc P P
 have ay:=Zqd P P
 have on:=P.on.eq
 have hz:=Z95 hp.z hp.z
 have el:fi (p.y*p.y-p.x*p.x)=(fi p.z*fi p.z)*(1+dF*P.x*P.x*P.y*P.y):=by
  simp only [Z2b,Zdj,hp.x,hp.y]
  generalize dF=d at *
  clear d1 d2 ax ay hz
  grind -lia -linarith (splits:=0)
 have em:fi (p.z*p.z+p.z*p.z-(p.y*p.y-p.x*p.x))=(fi p.z*fi p.z)*(1-dF*P.x*P.x*P.y*P.y):=by
  simp only [Z2b,Zdj,Za8,hp.x,hp.y]
  generalize dF=d at *
  clear d1 d2 ax ay hz el
  grind -lia -linarith (splits:=0)
 constructor
 ·show fi ((p.y*p.y-p.x*p.x)*(p.z*p.z+p.z*p.z-(p.y*p.y-p.x*p.x)))≠0
  rw [Z2b,el,em]
  exact Z95 (Z95 hz d1) (Z95 hz d2)
 ·show fi ((p.x*p.y+p.x*p.y)*(p.z*p.z+p.z*p.z-(p.y*p.y-p.x*p.x)))=(Zcb P P).x*fi ((p.y*p.y-p.x*p.x)*(p.z*p.z+p.z*p.z-(p.y*p.y-p.x*p.x)))
  rw [Z2b,Z2b (p.y*p.y-p.x*p.x),el,em]
  simp only [Z2b,Za8,hp.x,hp.y]
  generalize (Zcb P P).x=X at *
  generalize dF=d at *
  clear d1 d2 ay hz el em
  grind -lia -linarith (splits:=0)
 ·show fi ((p.x*p.x+p.y*p.y)*(p.y*p.y-p.x*p.x))=(Zcb P P).y*fi ((p.y*p.y-p.x*p.x)*(p.z*p.z+p.z*p.z-(p.y*p.y-p.x*p.x)))
  rw [Z2b,Z2b (p.y*p.y-p.x*p.x),el,em]
  simp only [Z2b,Za8,hp.x,hp.y]
  generalize (Zcb P P).y=Y at *
  generalize dF=d at *
  clear d1 d2 ax hz el em
  grind -lia -linarith (splits:=0)
def Zoo:Q3:=⟨0,1,1⟩
theorem Zri:Zhe=some (rp Zoo):=by
 rw [Zhe,Z3 (Zff (by decide) (by decide)),Z3 (Zff (by decide) (by decide)),Z3 (Zff (by decide) (by decide))]
 rfl
theorem Zoh:Zl6 Zoo Zeg:=by
 constructor
 ·show fi 1≠0; decide +kernel
 ·show fi 0=0*fi 1; decide +kernel
 ·show fi 1=1*fi 1; decide +kernel
def Zrg (p:Q3):Nat->Q3
 | 0=>Zoo
 | i+1=>Zon (Zrg p i) p
theorem Zmw {p:Q3} {P:G} (hp:Zl6 p P) : ∀ j,Zl6 (Zrg p j) (Zjf j P)
 | 0=>Zoh
 | j+1=>Zmv (Zmw hp j) hp
def Zhi (f:Nat->Z1y) (i:Nat):List Z1y:=(List.range 16).map fun j=>if j<=i then f j else Z6j
theorem Zvx (f:Nat->Z1y) {i:Nat} (hi:i<15):Zkm Z6j (Zhi f i) (i+1) (f (i+1))=Zhi f (i+1):=by
 rw [Zct (by simp [Zhi]; omega)]
 apply List.ext_getElem
 ·simp [Zhi]
 ·intro j h1 h2
  simp only [Zhi,List.getElem_set,List.getElem_map,List.getElem_range]
  by_cases hj:i+1=j
  ·subst hj; simp
  ·rw [if_neg hj]
   by_cases h:j<=i
   ·rw [if_pos h,if_pos (by omega)]
   ·rw [if_neg h,if_neg (by omega)]
theorem Zk7 (f:Nat->Z1y) {i j:Nat} (hj:j<=i) (hi:i<16):(Zhi f i).getD j Z6j=f j:=by
 simp only [Zhi,List.getD,List.getElem?_map,List.getElem?_range (show j<16 by omega),Option.map_some,Option.getD_some,if_pos hj]
theorem Zlo (p:Q3) (k:List Z1y->Option (List Z1y)) : ∀ (m n i:Nat),i+m=15->Z5c (rp p) k (n+1+m) ((i+1:Nat):Int) (Zhi (fun j=>rp (Zrg p j)) i)=k (Zhi (fun j=>rp (Zrg p j)) 15)
 | 0,n,i,hi=>by
  have e:i=15:=by omega
  subst e
  rw [Nat.add_zero,Z5c,Z9h,Z0u (by decide)]
 | m+1,n,i,hi=>by
  have ih:=Zlo p k m n (i+1) (by omega)
  have e1:=Z5g (i:=i+1) (by omega)
  have e2:IntKind.wrap .i64 (((i+1:Nat):Int)-1)=(i:Int):=by rw [Zl (by omega) (by omega)]; omega
  rw [<- Nat.add_assoc,Z5c,Z9h,Z1n (decide_eq_true (by omega))]
  simp only [Zk,e1,e2,Int.toNat_natCast]
  rw [Zu (Z0v (by omega) (by omega)),Zk7 _ (Nat.le_refl i) (by omega),Z3 (Zn0 _ _),Zu (Z0v (by omega) (by omega))]
  have:=Zvx (fun j=>rp (Zrg p j)) (i:=i) (by omega)
  rw [show rp (Zon (Zrg p i) p)=rp (Zrg p (i+1)) from rfl,this]
  exact ih
theorem Z0nv (p:Q3):Zea (rp p)=some (Zhi (fun j=>rp (Zrg p j)) 15):=by
 obtain ⟨n,hn⟩ : ∃ n,big=n+1+15:=⟨18446744073709551600,Z38⟩
 rw [Zea,Z3 Zri,Zk,Z19,hn]
 have e:Zkm Z6j (List.replicate 16 Z6j) 0 (rp Zoo)=Zhi (fun j=>rp (Zrg p j)) 0:=by
  simp [Zkm,Zhi,List.range,List.range.loop,List.replicate]
  rfl
 rw [e]
 exact Zlo p some 15 n 0 (by omega)
def Z033 (q:Q3):Q3:=Zgo (Zgo (Zgo (Zgo q)))
theorem Zof {p:Q3} {P:G} (hp:Zl6 p P):Zl6 (Z033 p) (Zjf 16 P):=by
 have h:=Ziq (Ziq (Ziq (Ziq hp)))
 rw [<- Zb4,<- Zb4,<- Zb4,<- Zb4,<- Z9s,<- Z9s,<- Z9s] at h
 exact h
def Zvu (p q:Q3) (b:Int):Q3:=Zon (Z033 (Zon (Z033 q) (Zrg p (b / 16).toNat))) (Zrg p (b%16).toNat)
theorem Zsm {p q:Q3} {P:G} {n:Nat} (hp:Zl6 p P) (hq:Zl6 q (Zjf n P)) {b:Int} (hb:0<=b/\b<256):Zl6 (Zvu p q b) (Zjf (n*256+b.toNat) P):=by
 have h:=Zmv (Zof (Zmv (Zof hq) (Zmw hp (b / 16).toNat))) (Zmw hp (b%16).toNat)
 rw [<- Z9s,<- Zil,<- Z9s,<- Zil] at h
 have e:16*(16*n+(b / 16).toNat)+(b%16).toNat=n*256+b.toNat:=by omega
 rw [e] at h
 exact h
def Zoe (k:LI) (p:Q3):Nat->Q3
 | 0=>Zoo
 | j+1=>Zvu p (Zoe k p j) (k.getD (31-j) 0)
theorem Zja {k:LI} (hk:Byt k) : ∀ j,0<=Zj9 k j
 | 0=>Int.le_refl _
 | j+1=>by
  have h1:=Zja hk j
  have h2:=hk (31-j)
  show 0<=Zj9 k j*256+k.getD (31-j) 0
  omega
theorem Zog {k:LI} (hk:Byt k) {p:Q3} {P:G} (hp:Zl6 p P) : ∀ j,Zl6 (Zoe k p j) (Zjf (Zj9 k j).toNat P)
 | 0=>Zoh
 | j+1=>by
  have h:=Zsm hp (Zog hk hp j) (hk (31-j))
  have h1:=Zja hk j
  have h2:=hk (31-j)
  have e:(Zj9 k j).toNat*256+(k.getD (31-j) 0).toNat=(Zj9 k (j+1)).toNat:=by
   show _=(Zj9 k j*256+k.getD (31-j) 0).toNat
   omega
  rw [e] at h
  exact h
theorem Zok {k:LI} (hk:Byt k) (p:Q3) (kk:LI->LI->LI->Option Z1y) : ∀ (m n j:Nat),j+m=32->Z9g k (Zhi (fun j=>rp (Zrg p j)) 15) kk (n+1+m) ((m:Int)-1) (rp (Zoe k p j)).gX (rp (Zoe k p j)).gY (rp (Zoe k p j)).gZ=kk (rp (Zoe k p 32)).gX (rp (Zoe k p 32)).gY (rp (Zoe k p 32)).gZ
 | 0,n,j,hj=>by
  have e:j=32:=by omega
  subst e
  rw [Nat.add_zero,Z9g,Ze8,Z0u (by decide)]
 | m+1,n,j,hj=>by
  have ih:=Zok hk p kk m n (j+1) (by omega)
  have hb:=hk m
  have e0:((m+1:Nat):Int)-1=(m:Int):=by omega
  have e1:IntKind.wrap .i64 ((m:Int)-1)=(m:Int)-1:=Zl (by omega) (by omega)
  have e2:IntKind.wrap .u8 (Int.tdiv (k.getD m 0) 16)=k.getD m 0 / 16:=by
   rw [Int.tdiv_eq_ediv_of_nonneg hb.1,Z2c]; omega
  have e3:Int.tmod (k.getD m 0) 16=k.getD m 0%16:=Int.tmod_eq_emod_of_nonneg hb.1
  have em:31-j=m:=by omega
  rw [e0,<- Nat.add_assoc,Z9g,Ze8,Z1n (decide_eq_true (by omega)),Zu (Z0v (by omega) (by omega))]
  rw [show (⟨(rp (Zoe k p j)).gX,(rp (Zoe k p j)).gY,(rp (Zoe k p j)).gZ⟩:Z1y)=rp (Zoe k p j) from rfl]
  rw [Z3 (Zb7 _),Z3 (Zb7 _),Z3 (Zb7 _),Z3 (Zb7 _)]
  simp only [Zk,e1,e2,e3,Int.toNat_natCast]
  rw [Zu (Z0v (by omega) (by omega)),Zk7 _ (by omega) (by decide),Z3 (Zn0 _ _),Zu (Z0v (by omega) (by omega))]
  rw [Z3 (Zb7 _),Z3 (Zb7 _),Z3 (Zb7 _),Z3 (Zb7 _),Zu (Z0v (by omega) (by omega)),Zk7 _ (by omega) (by decide),Z3 (Zn0 _ _)]
  have er:rp (Zon (Zgo (Zgo (Zgo (Zgo (Zon (Zgo (Zgo (Zgo (Zgo (Zoe k p j))))) (Zrg p (k.getD m 0 / 16).toNat)))))) (Zrg p (k.getD m 0%16).toNat))=rp (Zoe k p (j+1)):=by
   show _=rp (Zvu p (Zoe k p j) (k.getD (31-j) 0))
   rw [em]; rfl
  rw [er]
  exact ih
theorem Z0nt {k:LI} (hk:Byt k) (p:Q3):Zo7 k (rp p)=some (rp (Zoe k p 32)):=by
 obtain ⟨n,hn⟩ : ∃ n,big=n+1+32:=⟨18446744073709551583,Z38⟩
 rw [Zo7,Z3 (Z0nv p),Z3 Zri,Z19,hn]
 exact Zok hk p _ 32 n 0 (by omega)
theorem Zyj {k:LI} (hk:Byt k) {p:Q3} {P:G} (hp:Zl6 p P):Zl6 (Zoe k p 32) (Zjf (Zlu k).toNat P):=by
 have h:=Zog hk hp 32
 rw [Zfj] at h
 exact h
theorem Z02z (y:Int):Ze9 (rn y)=some (rn (Zww (y*y-1) (DD*(y*y)+1)).1,(Zww (y*y-1) (DD*(y*y)+1)).2):=by
 rw [Ze9,Z3 (Zft _ _),Z3 (Zff (by decide) (by decide)),Z3 (rsub _ _),Z3 rD,Z3 (Zft _ _),Z3 (Zff (by decide) (by decide)),Z3 (radd _ _),Z3 (Zyu _ _)]
theorem Z030 (x y:Int):Zc1 (rn x) (rn y)=some (rp ⟨x,y,1⟩):=by
 rw [Zc1,Z3 (Zff (by decide) (by decide))]
 rfl
theorem Z045:(4*pw 5 Zp2 256)%PP=BY:=by decide +kernel
theorem Z044:(Zww (BY*BY-1) (DD*(BY*BY)+1)).1%PP=BX:=by decide +kernel
def Z004:Q3:=⟨(Zww (BY*BY-1) (DD*(BY*BY)+1)).1,BY,1⟩
theorem Zyg:Zk0=some (rp Z004):=by
 have e:rn (4*pw 5 Zp2 256)=rn BY:=by rw [<- Zvk,Z045]
 rw [Zk0,Z3 (Zff (by decide) (by decide)),Z3 (Zff (by decide) (by decide)),Z3 (rinv _),Z3 (Zft _ _),e,Z3 (Z02z _)]
 show opt (Zc1 (rn (Zww (BY*BY-1) (DD*(BY*BY)+1)).1) (rn BY)) _=_
 rw [Z3 (Z030 _ _)]
 rfl
theorem Zvg:Zl6 Z004 Z00f:=by
 constructor
 ·show fi 1≠0; decide +kernel
 ·show fi (Zww (BY*BY-1) (DD*(BY*BY)+1)).1=fi BX*fi 1
  rw [<- Zcz,show (Zww (BY*BY-1) (DD*(BY*BY)+1)).1%57896044618658097711785492504343953926634992332820282019728792003956564819949=BX from Z044]
  decide +kernel
 ·show fi BY=fi BY*fi 1; decide +kernel
theorem Zyp {k:LI} (hk:Byt k) : ∃ q,Zc0 k=some (rp q)/\Zl6 q (pB k):=by
 refine ⟨_,?_,Zyj hk Zvg⟩
 rw [Zc0,Z3 Zyg,Z3 (Z0nt hk _)]
theorem Z037 {q:Q3} {P:G} (h:Zl6 q P):Ze7 (rp q)=some (encG P):=by
 have hi:=Zu9 Zqf h.z
 have hx:fi (q.x*pw q.z Zp2 256)=P.x:=by
  rw [Z2b,Zxe,h.x]
  generalize pwF (fi q.z) (bnum Zp2 256)=i at *
  generalize fi q.z=z at *
  grind -lia -linarith (splits:=0)
 have hy:fi (q.y*pw q.z Zp2 256)=P.y:=by
  rw [Z2b,Zxe,h.y]
  generalize pwF (fi q.z) (bnum Zp2 256)=i at *
  generalize fi q.z=z at *
  grind -lia -linarith (splits:=0)
 have ex:q.x*pw q.z Zp2 256%PP=fv P.x:=by rw [<- hx,Zxh]
 have ey:q.y*pw q.z Zp2 256%PP=fv P.y:=by rw [<- hy,Zxh]
 rw [Ze7]
 show opt (Z9c (rn q.z)) _=_
 rw [Z3 (rinv _)]
 show opt (Z1u (rn q.y) _) _=_
 rw [Z3 (Zft _ _),Z3 (Z0f9 _)]
 show opt (Z1u (rn q.x) _) _=_
 rw [Z3 (Zft _ _),Z3 (Z002 _),Z19,ex,ey]
 have h31:=Z04a (n:=fv P.y) (Zqs _).1 (Zqs _).2
 unfold encG Zpb
 rw [Zqr,Zqr]
 by_cases ho:fv P.x%2=1
 ·rw [Z1n (by simpa using ho),if_pos ho,Z0lu h31.1 h31.2,Zk,Zk,Zk,Z2c,Int.emod_eq_of_lt (by omega) (by omega)]
 ·rw [Z0u (by simpa using ho),if_neg ho]
set_option maxHeartbeats 1000000
theorem Zt5:Byt []:=fun i=>by
 have:([]:LI).getD i 0=0:=rfl
 rw [this]; decide
theorem Zly (n:Nat):Byt (List.replicate n 0):=by
 intro t
 have:(List.replicate n (0:Int)).getD t 0=0:=by
  simp only [List.getD]
  cases hi:(List.replicate n (0:Int))[t]? with
  | none=>rfl
  | some v=>simpa using (List.mem_replicate.1 (List.mem_of_getElem? hi)).2
 rw [this]; decide
end Go.Proofs.YtiflckckekjbnaaGreatDoor
namespace Go.Proofs.YtiflckckekjbnaaGreatDoor
open Go Go.Sx Go.RowKit
open Go.IntKind (wrap)
set_option linter.all false
set_option maxRecDepth 100000
set_option maxHeartbeats 1000000
def beV (l:LI) (o:Nat):Int:=(((((((l.getD o 0*256+l.getD (o+1) 0)*256+l.getD (o+2) 0)*256+l.getD (o+3) 0)*256+l.getD (o+4) 0)*256+l.getD (o+5) 0)*256+l.getD (o+6) 0)*256+l.getD (o+7) 0)
theorem Z0gn {x b:Int} (hx:0<=x/\x<72057594037927936) (hb:0<=b/\b<256):Za .or .u64 (Z1v .u64 x 8) b=x*256+b:=by
 have h:=Zfg .u64 (x:=x) (n:=8) (by decide)
 have e:((2^8:Nat):Int)=256:=by decide
 rw [e,Zb (by omega) (by omega)] at h
 have h2:Z1v .u64 x 8=x*256:=h
 rw [h2]
 exact Zr3 8 (a:=x) rfl hx.1 hb.1 hb.2 (by omega)
theorem Zuh (y:Bool×LI) (hy:y.2.length=8) (hb:Byt y.2):Z0m y (fun i49=>some (i49,(!y.1))) big 0 0=some (beV y.2 0,!y.1):=by
 obtain ⟨n,hn⟩ : ∃ n,big=n+1+1+1+1+1+1+1+1+1:=⟨18446744073709551607,Z38⟩
 have step : ∀ (n i:Nat) (x:Int),i<8->(0<=x/\x<72057594037927936)->Z0m y (fun i49=>some (i49,(!y.1))) (n+1) x (i:Int)=Z0m y (fun i49=>some (i49,(!y.1))) n (x*256+y.2.getD i 0) ((i+1:Nat):Int):=by
  intro n i x hi hx
  have b:=hb i
  have e1:=Z5g (i:=i) (by omega)
  rw [Z0m,Z39,Z1n (decide_eq_true (by omega)),Zu (Z0v (by omega) (by omega))]
  simp only [Zk,e1,Int.toNat_natCast]
  rw [Zb b.1 (by omega),Z0gn hx b]
 have b0:=hb 0
 have b1:=hb 1
 have b2:=hb 2
 have b3:=hb 3
 have b4:=hb 4
 have b5:=hb 5
 have b6:=hb 6
 have b7:=hb 7
 rw [hn]
 have s0:=step (n+1+1+1+1+1+1+1+1) 0 0 (by decide) (by decide)
 have s1:=step (n+1+1+1+1+1+1+1) 1 (0*256+y.2.getD 0 0) (by decide) (by omega)
 have s2:=step (n+1+1+1+1+1+1) 2 ((0*256+y.2.getD 0 0)*256+y.2.getD 1 0) (by decide) (by omega)
 have s3:=step (n+1+1+1+1+1) 3 (((0*256+y.2.getD 0 0)*256+y.2.getD 1 0)*256+y.2.getD 2 0) (by decide) (by omega)
 have s4:=step (n+1+1+1+1) 4 ((((0*256+y.2.getD 0 0)*256+y.2.getD 1 0)*256+y.2.getD 2 0)*256+y.2.getD 3 0) (by decide) (by omega)
 have s5:=step (n+1+1+1) 5 (((((0*256+y.2.getD 0 0)*256+y.2.getD 1 0)*256+y.2.getD 2 0)*256+y.2.getD 3 0)*256+y.2.getD 4 0) (by decide) (by omega)
 have s6:=step (n+1+1) 6 ((((((0*256+y.2.getD 0 0)*256+y.2.getD 1 0)*256+y.2.getD 2 0)*256+y.2.getD 3 0)*256+y.2.getD 4 0)*256+y.2.getD 5 0) (by decide) (by omega)
 have s7:=step (n+1) 7 (((((((0*256+y.2.getD 0 0)*256+y.2.getD 1 0)*256+y.2.getD 2 0)*256+y.2.getD 3 0)*256+y.2.getD 4 0)*256+y.2.getD 5 0)*256+y.2.getD 6 0) (by decide) (by omega)
 refine s0.trans (s1.trans (s2.trans (s3.trans (s4.trans (s5.trans (s6.trans (s7.trans ?_)))))))
 rw [Z0m,Z39,Z0u (decide_eq_false (by rw [hy]; omega))]
 unfold beV
 simp only [Nat.zero_add]
 congr 2
 omega
theorem Zwi {l:LI} (hl:l.length=8) (hb:Byt l):Zjs l=some (beV l 0):=by
 obtain ⟨n,hn⟩ : ∃ n,big=n+1+1+1+1+1+1+1+1+1:=⟨18446744073709551607,Z38⟩
 have step : ∀ (n i:Nat) (x:Int),i<8->(0<=x/\x<72057594037927936)->Z6s l some (n+1) x (i:Int)=Z6s l some n (x*256+l.getD i 0) ((i+1:Nat):Int):=by
  intro n i x hi hx
  have b:=hb i
  have e1:=Z5g (i:=i) (by omega)
  rw [Z6s,Zbv,Z1n (decide_eq_true (by omega))]
  simp only [Zk,e1,Int.toNat_natCast]
  rw [Zu (Z0v (by omega) (by omega)),Zb (x:=x*256) (by omega) (by omega),Zb b.1 (by omega),Zb (by omega) (by omega)]
 have b0:=hb 0
 have b1:=hb 1
 have b2:=hb 2
 have b3:=hb 3
 have b4:=hb 4
 have b5:=hb 5
 have b6:=hb 6
 have b7:=hb 7
 rw [Zjs,Z19,hn]
 have s0:=step (n+1+1+1+1+1+1+1+1) 0 0 (by decide) (by decide)
 have s1:=step (n+1+1+1+1+1+1+1) 1 (0*256+l.getD 0 0) (by decide) (by omega)
 have s2:=step (n+1+1+1+1+1+1) 2 ((0*256+l.getD 0 0)*256+l.getD 1 0) (by decide) (by omega)
 have s3:=step (n+1+1+1+1+1) 3 (((0*256+l.getD 0 0)*256+l.getD 1 0)*256+l.getD 2 0) (by decide) (by omega)
 have s4:=step (n+1+1+1+1) 4 ((((0*256+l.getD 0 0)*256+l.getD 1 0)*256+l.getD 2 0)*256+l.getD 3 0) (by decide) (by omega)
 have s5:=step (n+1+1+1) 5 (((((0*256+l.getD 0 0)*256+l.getD 1 0)*256+l.getD 2 0)*256+l.getD 3 0)*256+l.getD 4 0) (by decide) (by omega)
 have s6:=step (n+1+1) 6 ((((((0*256+l.getD 0 0)*256+l.getD 1 0)*256+l.getD 2 0)*256+l.getD 3 0)*256+l.getD 4 0)*256+l.getD 5 0) (by decide) (by omega)
 have s7:=step (n+1) 7 (((((((0*256+l.getD 0 0)*256+l.getD 1 0)*256+l.getD 2 0)*256+l.getD 3 0)*256+l.getD 4 0)*256+l.getD 5 0)*256+l.getD 6 0) (by decide) (by omega)
 refine s0.trans (s1.trans (s2.trans (s3.trans (s4.trans (s5.trans (s6.trans (s7.trans ?_)))))))
 rw [Z6s,Zbv,Z0u (by decide)]
 unfold beV
 simp only [Nat.zero_add]
 congr 1
 omega
theorem Z7w (p:LI) (o i:Nat) (hi:i<8):((p.drop o).take 8).getD i 0=p.getD (o+i) 0:=by
 simp [List.getD_eq_getElem?_getD,List.getElem?_take,hi,List.getElem?_drop]
theorem Zqj {p:LI} (h:Byt p) (o:Nat):Byt ((p.drop o).take 8):=by
 intro i
 by_cases hi:i<8
 ·rw [Z7w p o i hi]; exact h _
 ·rw [Zg7 (by rw [List.length_take]; omega)]; decide
theorem Ztg (p:LI) (o:Nat):beV ((p.drop o).take 8) 0=beV p o:=by
 unfold beV
 simp only [Z7w _ _ _ (show 0<8 by decide),Z7w _ _ (0+1) (by decide),Z7w _ _ (0+2) (by decide),Z7w _ _ (0+3) (by decide),Z7w _ _ (0+4) (by decide),Z7w _ _ (0+5) (by decide),Z7w _ _ (0+6) (by decide),Z7w _ _ (0+7) (by decide),Nat.zero_add,Nat.add_zero]
theorem Zz7:Z3x=some 64:=by kernel_rfl
theorem Zug {p:LI} (h:Byt p) (l:p.length=128) {t:Nat} (ht:t<16):Z4e p ((8*t:Nat):Int)=some (beV p (8*t),true):=by
 have e1:wrap .i64 (Int.tdiv 64 8)=8:=by decide
 have e2:wrap .i64 ((p.length:Int)-8)=120:=by rw [l]; decide
 have e3:wrap .i64 (((8*t:Nat):Int)+8)=((8*t+8:Nat):Int):=by rw [Zl (by omega) (by omega)]; omega
 have hlen:((p.drop (8*t)).take (8*t+8-8*t)).length=8:=by rw [List.length_take,List.length_drop,l]; omega
 have hp:Z4u p ((8*t:Nat):Int)=some (false,(p.drop (8*t)).take (8*t+8-8*t)):=by
  rw [Z4u,Z3 Zz7]
  simp only [Zk,e1,e2]
  rw [Z0u (by simp; omega)]
  simp only [e3,Int.toNat_natCast]
  rw [Zu (by simp [Zfh]; omega),Zu (decide_eq_true (by rw [hlen]; decide))]
 have e8:8*t+8-8*t=8:=by omega
 rw [Z4e,Z3 hp,Z19,e8]
 have:=Zuh (false,(p.drop (8*t)).take 8) (by rw [e8] at hlen; exact hlen) (Zqj h _)
 refine this.trans ?_
 rw [Ztg]; rfl
theorem Z0fy {p:LI} (l:p.length=128):tk p 0 128=p:=Zd5 l
def rot (x:Int) (n m:Int):Int:=Za .or .u64 (Z0f .u64 x n) (Z1v .u64 x m)
def sg0 (x:Int):Int:=Za .xor .u64 (Za .xor .u64 (rot x 1 63) (rot x 8 56)) (Z0f .u64 x 7)
def sg1 (x:Int):Int:=Za .xor .u64 (Za .xor .u64 (rot x 19 45) (rot x 61 3)) (Z0f .u64 x 6)
def bs1 (x:Int):Int:=Za .xor .u64 (Za .xor .u64 (rot x 14 50) (rot x 18 46)) (rot x 41 23)
def bs0 (x:Int):Int:=Za .xor .u64 (Za .xor .u64 (rot x 28 36) (rot x 34 30)) (rot x 39 25)
theorem Z0gp (x:Int):Z8o x 19 61 6=some (sg1 x):=by kernel_rfl
theorem Z0go (x:Int):Z8o x 1 8 7=some (sg0 x):=by kernel_rfl
theorem mix1 (x:Int):Za1 x 14 18 41=some (bs1 x):=by kernel_rfl
theorem mix0 (x:Int):Za1 x 28 34 39=some (bs0 x):=by kernel_rfl
theorem Z0fm (x:Int):Zy9 x=some (sg0 x):=by kernel_rfl
theorem Z0fn (x:Int):Zya x=some (sg1 x):=by kernel_rfl
def Zmh (p l:LI) (n:Nat):Int:=if n<16 then beV p (8*n) else wrap .u64 (wrap .u64 (wrap .u64 (sg1 (l.getD (n-2) 0)+l.getD (n-7) 0)+sg0 (l.getD (n-15) 0))+l.getD (n-16) 0)
def wl (p:LI):Nat->LI
 | 0=>[]
 | n+1=>wl p n ++ [Zmh p (wl p n) n]
theorem Zkh (p:LI) : ∀ n,(wl p n).length=n
 | 0=>rfl
 | n+1=>by show (wl p n ++ [_]).length=_; rw [List.length_append,Zkh p n]; rfl
theorem Z03s (p:LI) (n j:Nat) (h:j<n):(wl p (n+1)).getD j 0=(wl p n).getD j 0:=by
 show (wl p n ++ [_]).getD j 0=_
 simp [List.getD_eq_getElem?_getD,List.getElem?_append_left (show j<(wl p n).length by rw [Zkh]; exact h)]
theorem Z03t (p:LI) (n:Nat):(wl p (n+1)).getD n 0=Zmh p (wl p n) n:=by
 show (wl p n ++ [_]).getD n 0=_
 have:=Zkh p n
 simp [List.getD_eq_getElem?_getD,this]
theorem Z7z {i k:Nat} (h:k<=i) (hi:i<1000000):wrap .i64 ((i:Int)-(k:Int))=((i-k:Nat):Int):=by rw [Zl (by omega) (by omega)]; omega
theorem Zsu {p:LI} (h:Byt p) (l:p.length=128) (k:LI->Option (LI)) (m:Nat) : ∀ (n i:Nat) (a:LI),i+m=80->a.length=80->(∀ j,j<i->a.getD j 0=(wl p i).getD j 0) ->
  ∃ c,Z1l p k (n+1+m) (i:Int) a=k c/\c.length=80/\(∀ j,j<80->c.getD j 0=(wl p 80).getD j 0):=by
 induction m with
 | zero =>
  intro n i a hi hl hj
  have e:i=80:=by omega
  subst e
  refine ⟨a,?_,hl,hj⟩
  rw [Nat.add_zero,Z1l,Z4i,Z0u (by decide)]
 | succ m ih =>
  intro n i a hi hl hj
  have e1:=Z5g (i:=i) (by omega)
  have fin : ∀ z,z=Zmh p (wl p i) i->∃ c,Z1l p k (n+1+m) ((i+1:Nat):Int) (Z28 a i z)=k c/\c.length=80/\(∀ j,j<80->c.getD j 0=(wl p 80).getD j 0):=by
   intro z hz
   refine ih n (i+1) (Z28 a i z) (by omega) (by rw [Z4s (by omega),hl]) ?_
   intro j hji
   rw [Z17]
   by_cases hjj:j=i
   ·subst hjj; rw [if_pos rfl,Z03t,hz]
   ·rw [if_neg hjj,Z03s p i j (by omega)]; exact hj j (by omega)
  rw [<- Nat.add_assoc,Z1l,Z4i,Z1n (decide_eq_true (by omega)),Z19]
  by_cases h16:i<16
  ·have e8:wrap .i64 (8*(i:Int))=((8*i:Nat):Int):=by rw [Zl (by omega) (by omega)]; omega
   rw [Z1n (decide_eq_true (by omega)),Zk,e8,Z0fy l,Z3 (Zug h l h16),Zu (Z0v (by omega) (by omega))]
   simp only [Zk,e1,Int.toNat_natCast]
   exact fin _ (by unfold Zmh; rw [if_pos h16])
  ·have m2:wrap .i64 ((i:Int)-2)=((i-2:Nat):Int):=Z7z (k:=2) (by omega) (by omega)
   have m7:wrap .i64 ((i:Int)-7)=((i-7:Nat):Int):=Z7z (k:=7) (by omega) (by omega)
   have m15:wrap .i64 ((i:Int)-15)=((i-15:Nat):Int):=Z7z (k:=15) (by omega) (by omega)
   have m16:wrap .i64 ((i:Int)-16)=((i-16:Nat):Int):=Z7z (k:=16) (by omega) (by omega)
   rw [Z0u (decide_eq_false (by omega))]
   simp only [Zk,m2,m7,m15,m16,e1,Int.toNat_natCast]
   rw [Zu (Z0v (by omega) (by omega)),Zu (Z0v (by omega) (by omega)),Zu (Z0v (by omega) (by omega)),Zu (Z0v (by omega) (by omega)),Z3 (Z0gp _),Z3 (Z0go _),Zu (Z0v (by omega) (by omega))]
   exact fin _ (by
    unfold Zmh
    rw [if_neg h16,hj (i-2) (by omega),hj (i-7) (by omega),hj (i-15) (by omega),hj (i-16) (by omega)])
theorem Zb3 {a b:LI} {n:Nat} (ha:a.length=n) (hb:b.length=n) (h : ∀ j,j<n->a.getD j 0=b.getD j 0):a=b:=by
 apply List.ext_getElem
 ·rw [ha,hb]
 ·intro i h1 h2
  rw [<- Zj8 h1,<- Zj8 h2,h i (by omega)]
theorem Zyv {p:LI} (h:Byt p) (l:p.length=128):Z6o p=some (wl p 80):=by
 obtain ⟨n,hn⟩ : ∃ n,big=n+1+80:=⟨18446744073709551535,Z38⟩
 obtain ⟨c,ec,c1,c2⟩:=Zsu h l some 80 n 0 (List.replicate 80 0) (by omega) (by simp) (fun j hj=>by omega)
 rw [Z6o,Z19,hn]
 exact ec.trans (congrArg some (Zb3 c1 (Zkh p 80) c2))
theorem Zq9 {p:LI} (h:Byt p) (l:p.length=128) (k:LI->Option (LI)) (m:Nat) : ∀ (n i:Nat),i+m=16->Z5j p k (n+1+m) (wl p i) (i:Int)=k (wl p 16):=by
 induction m with
 | zero =>
  intro n i hi
  have e:i=16:=by omega
  subst e
  rw [Nat.add_zero,Z5j,Zak,Z0u (by decide)]
 | succ m ih =>
  intro n i hi
  have e1:=Z5g (i:=i) (by omega)
  have e8:wrap .i64 (8*(i:Int))=((8*i:Nat):Int):=by rw [Zl (by omega) (by omega)]; omega
  have e9:wrap .i64 (((8*i:Nat):Int)+8)=((8*i+8:Nat):Int):=by rw [Zl (by omega) (by omega)]; omega
  have e10:8*i+8-8*i=8:=by omega
  have hlen:((p.drop (8*i)).take 8).length=8:=by rw [List.length_take,List.length_drop,l]; omega
  have hw:=Zkh p i
  rw [<- Nat.add_assoc,Z5j,Zak,Z1n (decide_eq_true (by omega))]
  simp only [Zk,e8,e9,e1,Int.toNat_natCast,e10]
  rw [Zu (by simp [Zfh]; omega),Z3 (Zwi hlen (Zqj h _)),Zu (decide_eq_true (by simp only [List.length_singleton]; omega)),Ztg]
  have e:wl p i ++ [beV p (8*i)]=wl p (i+1):=by
   show _=wl p i ++ [Zmh p (wl p i) i]
   unfold Zmh
   rw [if_pos (by omega)]
  rw [e]
  exact ih n (i+1) (by omega)
theorem Zqa {p:LI} (k:LI->Option (LI)) (m:Nat) : ∀ (n i:Nat),i+m=80->16<=i->Z5k k (n+1+m) (wl p i) (i:Int)=k (wl p 80):=by
 induction m with
 | zero =>
  intro n i hi h16
  have e:i=80:=by omega
  subst e
  rw [Nat.add_zero,Z5k,Zal,Z0u (by decide)]
 | succ m ih =>
  intro n i hi h16
  have e1:=Z5g (i:=i) (by omega)
  have hw:=Zkh p i
  have m2:wrap .i64 ((i:Int)-2)=((i-2:Nat):Int):=Z7z (k:=2) (by omega) (by omega)
  have m7:wrap .i64 ((i:Int)-7)=((i-7:Nat):Int):=Z7z (k:=7) (by omega) (by omega)
  have m15:wrap .i64 ((i:Int)-15)=((i-15:Nat):Int):=Z7z (k:=15) (by omega) (by omega)
  have m16:wrap .i64 ((i:Int)-16)=((i-16:Nat):Int):=Z7z (k:=16) (by omega) (by omega)
  rw [<- Nat.add_assoc,Z5k,Zal,Z1n (decide_eq_true (by omega))]
  simp only [Zk,m2,m7,m15,m16,e1,Int.toNat_natCast]
  rw [Zu (Z0v (by omega) (by omega)),Zu (Z0v (by omega) (by omega)),Zu (Z0v (by omega) (by omega)),Zu (Z0v (by omega) (by omega)),Z3 (Z0fn _),Z3 (Z0fm _),Zu (decide_eq_true (by simp only [List.length_singleton]; omega))]
  have e:wl p i ++ [wrap .u64 (wrap .u64 (wrap .u64 (sg1 ((wl p i).getD (i-2) 0)+(wl p i).getD (i-7) 0)+sg0 ((wl p i).getD (i-15) 0))+(wl p i).getD (i-16) 0)]=wl p (i+1):=by
   show _=wl p i ++ [Zmh p (wl p i) i]
   unfold Zmh
   rw [if_neg (by omega)]
  rw [e]
  exact ih n (i+1) (by omega) (by omega)
theorem Zwj {p:LI} (k:LI->Option (LI)):Z5k k big (wl p 16) 16=k (wl p 80):=by
 obtain ⟨n,hn⟩ : ∃ n,big=n+1+64:=⟨18446744073709551551,Z38⟩
 rw [hn]
 exact Zqa k 64 n 16 (by omega) (by omega)
theorem Zw0 {p:LI} (h:Byt p) (l:p.length=128):Zgg p=some (wl p 80):=by
 have key : ∀ k:LI->Option (LI),Z5j p k big [] 0=k (wl p 16):=by
  intro k
  obtain ⟨n,hn⟩ : ∃ n,big=n+1+16:=⟨18446744073709551599,Z38⟩
  rw [hn]
  exact Zq9 h l k 16 n 0 (by omega)
 rw [Zgg,Z19,key,Z19,Zwj]
def rnd (s:LI) (k w:Int):LI :=
 let x:=wrap .u64 (wrap .u64 (wrap .u64 (wrap .u64 (s.getD 7 0+bs1 (s.getD 4 0))+Za .xor .u64 (Za .and .u64 (s.getD 4 0) (s.getD 5 0)) (Za .and .u64 (Za .xor .u64 18446744073709551615 (s.getD 4 0)) (s.getD 6 0)))+k)+w)
 let y:=wrap .u64 (bs0 (s.getD 0 0)+Za .xor .u64 (Za .xor .u64 (Za .and .u64 (s.getD 0 0) (s.getD 1 0)) (Za .and .u64 (s.getD 0 0) (s.getD 2 0))) (Za .and .u64 (s.getD 1 0) (s.getD 2 0)))
 [wrap .u64 (x+y),s.getD 0 0,s.getD 1 0,s.getD 2 0,wrap .u64 (s.getD 3 0+x),s.getD 4 0,s.getD 5 0,s.getD 6 0]
def Zfe (w s:LI):Nat->LI
 | 0=>s
 | n+1=>rnd (Zfe w s n) (G_table.getD n 0) (w.getD n 0)
theorem Zvv (s:LI) (k w:Int):Zip s k w=some (rnd s k w):=by kernel_rfl
theorem Zwa:G_rtable=G_table:=by kernel_rfl
theorem Zu3:G_rfirst=G_first:=by kernel_rfl
theorem Z0fr {w:LI} (hw:w.length=80) (s:LI) (k:LI->Option (LI)) (m:Nat) : ∀ (n i:Nat),i+m=80->Z6r w k (n+1+m) (i:Int) (Zfe w s i)=k (Zfe w s 80):=by
 induction m with
 | zero =>
  intro n i hi
  have e:i=80:=by omega
  subst e
  rw [Nat.add_zero,Z6r,Zbt,Z0u (by decide)]
 | succ m ih =>
  intro n i hi
  have e1:=Z5g (i:=i) (by omega)
  rw [<- Nat.add_assoc,Z6r,Zbt,Z1n (decide_eq_true (by omega)),Zu (Z0v (by omega) (by omega)),Zu (Z0v (by omega) (by omega))]
  simp only [Zk,e1,Int.toNat_natCast]
  rw [Z3 (Zvv _ _ _),Zwa]
  exact ih n (i+1) (by omega)
theorem Z0av {w:LI} (s:LI) (k:Int->Int->Int->Int->Int->Int->Int->Int->Option (LI)) (m:Nat) : ∀ (n i:Nat),i+m=80 ->
  Z2v w k (n+1+m) ((Zfe w s i).getD 0 0) ((Zfe w s i).getD 1 0) ((Zfe w s i).getD 2 0) ((Zfe w s i).getD 3 0) ((Zfe w s i).getD 4 0) ((Zfe w s i).getD 5 0) ((Zfe w s i).getD 6 0) ((Zfe w s i).getD 7 0) (i:Int) =
  k ((Zfe w s 80).getD 0 0) ((Zfe w s 80).getD 1 0) ((Zfe w s 80).getD 2 0) ((Zfe w s 80).getD 3 0) ((Zfe w s 80).getD 4 0) ((Zfe w s 80).getD 5 0) ((Zfe w s 80).getD 6 0) ((Zfe w s 80).getD 7 0):=by
 induction m with
 | zero =>
  intro n i hi
  have e:i=80:=by omega
  subst e
  rw [Nat.add_zero,Z2v,Z6n,Z0u (by decide)]
 | succ m ih =>
  intro n i hi
  have e1:=Z5g (i:=i) (by omega)
  rw [<- Nat.add_assoc,Z2v,Z6n,Z1n (decide_eq_true (by omega)),Zu (Z0v (by omega) (by omega))]
  simp only [Zk,e1,Int.toNat_natCast]
  rw [Z3 (mix1 _),Zu (Z0v (by omega) (by omega)),Z3 (mix0 _)]
  exact ih n (i+1) (by omega)
def blk (s p:LI):LI :=
 let v:=Zfe (wl p 80) s 80
 [wrap .u64 (v.getD 0 0+s.getD 0 0),wrap .u64 (v.getD 1 0+s.getD 1 0),wrap .u64 (v.getD 2 0+s.getD 2 0),wrap .u64 (v.getD 3 0+s.getD 3 0),wrap .u64 (v.getD 4 0+s.getD 4 0),wrap .u64 (v.getD 5 0+s.getD 5 0),wrap .u64 (v.getD 6 0+s.getD 6 0),wrap .u64 (v.getD 7 0+s.getD 7 0)]
theorem Zy4 (k:LI->Option (LI)) (v s0 s1 s2 s3 s4 s5 s6 s7:Int) (a0 a1 a2 a3 a4 a5 a6 a7:Int):Z52 [a0,a1,a2,a3,a4,a5,a6,a7] k big 0 [s0,s1,s2,s3,s4,s5,s6,s7]=k [wrap .u64 (s0+a0),wrap .u64 (s1+a1),wrap .u64 (s2+a2),wrap .u64 (s3+a3),wrap .u64 (s4+a4),wrap .u64 (s5+a5),wrap .u64 (s6+a6),wrap .u64 (s7+a7)]:=by kernel_rfl
theorem Zv8 (k:LI->Option (LI)) (s:LI) (a0 a1 a2 a3 a4 a5 a6 a7:Int):Z9x s k big 0 [a0,a1,a2,a3,a4,a5,a6,a7]=k [wrap .u64 (a0+s.getD 0 0),wrap .u64 (a1+s.getD 1 0),wrap .u64 (a2+s.getD 2 0),wrap .u64 (a3+s.getD 3 0),wrap .u64 (a4+s.getD 4 0),wrap .u64 (a5+s.getD 5 0),wrap .u64 (a6+s.getD 6 0),wrap .u64 (a7+s.getD 7 0)]:=by kernel_rfl
theorem Zem {l:LI} (h:l.length=8):l = [l.getD 0 0,l.getD 1 0,l.getD 2 0,l.getD 3 0,l.getD 4 0,l.getD 5 0,l.getD 6 0,l.getD 7 0]:=by
 match l,h with
 | [a0,a1,a2,a3,a4,a5,a6,a7],_=>rfl
theorem Zyq (w s:LI) (hs:s.length=8) : ∀ n,(Zfe w s n).length=8
 | 0=>hs
 | n+1=>rfl
theorem Zx2 {s p:LI} (hs:s.length=8) (h:Byt p) (l:p.length=128):Z9m s p=some (blk s p):=by
 have key : ∀ k,Z2v (wl p 80) k big (s.getD 0 0) (s.getD 1 0) (s.getD 2 0) (s.getD 3 0) (s.getD 4 0) (s.getD 5 0) (s.getD 6 0) (s.getD 7 0) 0=k ((Zfe (wl p 80) s 80).getD 0 0) ((Zfe (wl p 80) s 80).getD 1 0) ((Zfe (wl p 80) s 80).getD 2 0) ((Zfe (wl p 80) s 80).getD 3 0) ((Zfe (wl p 80) s 80).getD 4 0) ((Zfe (wl p 80) s 80).getD 5 0) ((Zfe (wl p 80) s 80).getD 6 0) ((Zfe (wl p 80) s 80).getD 7 0):=by
  intro k
  obtain ⟨n,hn⟩ : ∃ n,big=n+1+80:=⟨18446744073709551535,Z38⟩
  rw [hn]
  exact Z0av s k 80 n 0 (by omega)
 rw [Z9m,Z3 (Zyv h l)]
 simp only [Zk,Z19]
 rw [key]
 unfold blk
 dsimp only
 generalize Zfe (wl p 80) s 80=v at *
 have e:=Zy4 some 0 (s.getD 0 0) (s.getD 1 0) (s.getD 2 0) (s.getD 3 0) (s.getD 4 0) (s.getD 5 0) (s.getD 6 0) (s.getD 7 0) (v.getD 0 0) (v.getD 1 0) (v.getD 2 0) (v.getD 3 0) (v.getD 4 0) (v.getD 5 0) (v.getD 6 0) (v.getD 7 0)
 rw [<- Zem hs] at e
 refine e.trans ?_
 rw [Int.add_comm (s.getD 0 0),Int.add_comm (s.getD 1 0),Int.add_comm (s.getD 2 0),Int.add_comm (s.getD 3 0),Int.add_comm (s.getD 4 0),Int.add_comm (s.getD 5 0),Int.add_comm (s.getD 6 0),Int.add_comm (s.getD 7 0)]
theorem Z03i {s p:LI} (hs:s.length=8) (h:Byt p) (l:p.length=128):Zjr s p=some (blk s p):=by
 have key : ∀ k,Z6r (wl p 80) k big 0 s=k (Zfe (wl p 80) s 80):=by
  intro k
  obtain ⟨n,hn⟩ : ∃ n,big=n+1+80:=⟨18446744073709551535,Z38⟩
  rw [hn]
  exact Z0fr (Zkh p 80) s k 80 n 0 (by omega)
 have hv:=Zyq (wl p 80) s hs 80
 rw [Zjr,Z3 (Zw0 h l)]
 simp only [Z19]
 rw [key]
 unfold blk
 dsimp only
 generalize Zfe (wl p 80) s 80=v at *
 have e:=Zv8 some s (v.getD 0 0) (v.getD 1 0) (v.getD 2 0) (v.getD 3 0) (v.getD 4 0) (v.getD 5 0) (v.getD 6 0) (v.getD 7 0)
 rw [<- Zem hv] at e
 exact e
end Go.Proofs.YtiflckckekjbnaaGreatDoor
namespace Go.Proofs.YtiflckckekjbnaaGreatDoor
open Go Go.Sx Go.RowKit
open List (replicate)
open Go.IntKind (wrap)
set_option linter.all false
set_option maxRecDepth 100000
set_option maxHeartbeats 1000000
theorem Z70 {M x:LI} {i:Nat} (h:i<M.length):(M++x).getD i 0=M.getD i 0:=by simp [List.getD_eq_getElem?_getD,List.getElem?_append_left h]
theorem Z8u {M x:LI} {i:Nat} (h:M.length<=i):(M++x).getD i 0=x.getD (i-M.length) 0:=by simp [List.getD_eq_getElem?_getD,List.getElem?_append_right h]
theorem Z62 {M x:LI} (h:Byt M) (hx:Byt x):Byt (M++x):=by
 intro i
 by_cases hi:i<M.length
 ·rw [Z70 hi]; exact h i
 ·rw [Z8u (by omega)]; exact hx _
theorem Zca {l:LI} {q i:Nat} (h:i<q):(l.take q).getD i 0=l.getD i 0:=by simp [List.getD_eq_getElem?_getD,List.getElem?_take,h]
theorem Zj2 {l:LI} {q i:Nat}:(l.drop q).getD i 0=l.getD (q+i) 0:=by simp [List.getD_eq_getElem?_getD,List.getElem?_drop]
theorem Zei {l:LI} (h:Byt l) (q:Nat):Byt (l.take q):=by
 intro i
 by_cases hi:i<q
 ·rw [Zca hi]; exact h i
 ·rw [Zg7 (by rw [List.length_take]; omega)]; decide
theorem Zeh {l:LI} (h:Byt l) (q:Nat):Byt (l.drop q):=by
 intro i
 rw [Zj2]; exact h _
def bk (M:LI) (n:Nat):LI:=(M.drop (128*n)).take 128
theorem Zqe {M:LI} {n:Nat} (h:128*n+128<=M.length):(bk M n).length=128:=by unfold bk; rw [List.length_take,List.length_drop]; omega
theorem Zp7 {M:LI} {n i:Nat} (hi:i<128):(bk M n).getD i 0=M.getD (128*n+i) 0:=by unfold bk; rw [Zca hi,Zj2]
theorem Z048 {M:LI} (h:Byt M) (n:Nat):Byt (bk M n):=Zei (Zeh h _) _
theorem Z047 {M x:LI} {n:Nat} (h:128*n+128<=M.length):bk (M++x) n=bk M n :=
 Zb3 (n:=128) (Zqe (by rw [List.length_append]; omega)) (Zqe h) (fun j hj=>by rw [Zp7 hj,Zp7 hj,Z70 (by omega)])
def fbn (M:LI):Nat->LI
 | 0=>G_first
 | n+1=>blk (fbn M n) (bk M n)
theorem Zu0 (M:LI) : ∀ n,(fbn M n).length=8
 | 0=>by show G_first.length=8; decide
 | n+1=>rfl
theorem Zpe {M x:LI} : ∀ n,128*n<=M.length->fbn (M++x) n=fbn M n
 | 0,_=>rfl
 | n+1,h=>by
  show blk (fbn (M++x) n) (bk (M++x) n)=blk (fbn M n) (bk M n)
  rw [Zpe n (by omega),Z047 (by omega)]
structure Dst (M:LI) (a h:LI) (c:Int):Prop where
 st:a=fbn M (M.length / 128)
 hv:c=((M.length%128:Nat):Int)
 hl:h.length=128
 hd : ∀ i,i<M.length%128->h.getD i 0=M.getD (128*(M.length / 128)+i) 0
 hb:Byt h
theorem Zwm {xs ys:LI} {i:Nat} (h:i+ys.length<=xs.length):(wr xs i ys).length=xs.length:=by
 unfold wr
 rw [List.length_append,List.length_append,Z1j,List.length_drop]; omega
theorem Z009 {xs ys:LI} {i:Nat} (hx:Byt xs) (hy:Byt ys):Byt (wr xs i ys):=by
 intro j
 rw [Zki]
 split
 ·exact hy _
 ·exact hx _
theorem Zwn (z:Int) (m:Nat) : ∀ (l a h:LI) (c:Int) (M:LI),l.length<=m->Byt l->Byt M->Dst M a h c->∀ n,∃ r,Z0p z (n+1+m) l a h c=some r/\r.glength=z/\Dst (M++l) r.gstate r.gheld r.ghave:=by
 induction m with
 | zero =>
  intro l a h c M hl hbl hbM hD n
  have e:l = []:=List.length_eq_zero_iff.1 (by omega)
  subst e
  refine ⟨⟨a,h,c,z⟩,?_,rfl,by rw [List.append_nil]; exact hD⟩
  rw [Nat.add_zero,Z0p,Z27,Z0u (decide_eq_false (by simp))]
 | succ m ih =>
  intro l a h c M hl hbl hbM hD n
  by_cases he:l.length=0
  ·have e:l = []:=List.length_eq_zero_iff.1 he
   subst e
   refine ⟨⟨a,h,c,z⟩,?_,rfl,by rw [List.append_nil]; exact hD⟩
   rw [<- Nat.add_assoc,Z0p,Z27,Z0u (decide_eq_false (by simp))]
  ·have hr:=Nat.mod_lt M.length (show 0<128 by decide)
   have hdm:=Nat.div_add_mod M.length 128
   have hc:=hD.hv
   have hcn:c.toNat=M.length%128:=by rw [hc,Int.toNat_natCast]
   obtain ⟨q,hq⟩ : ∃ q,q=Nat.min l.length (128-c.toNat):=⟨_,rfl⟩
   have hq1:0<q/\q<=l.length/\q<=128-M.length%128/\(q=l.length∨q=128-M.length%128):=by
    rw [hq,hcn]
    show 0<min l.length (128-M.length%128)/\min l.length (128-M.length%128)<=l.length/\min l.length (128-M.length%128)<=128-M.length%128/\(min l.length (128-M.length%128)=l.length∨min l.length (128-M.length%128)=128-M.length%128)
    omega
   have htake:l.take (128-c.toNat)=l.take q:=by
    rw [hq]
    rcases Nat.le_total l.length (128-c.toNat) with h1 | h1
    ·rw [List.take_of_length_le h1,List.take_of_length_le (by show l.length<=min l.length (128-c.toNat); omega)]
    ·congr 1; show _=min l.length (128-c.toNat); omega
   have hrest:(l.drop ((q:Int)).toNat).take (((l.length:Int)).toNat-((q:Int)).toNat)=l.drop q:=by
    rw [Int.toNat_natCast,Int.toNat_natCast,List.take_of_length_le (by rw [List.length_drop]; omega)]
   have hM:M++l=(M++l.take q)++l.drop q:=by rw [List.append_assoc,List.take_append_drop]
   have hlq:(l.take q).length=q:=by rw [List.length_take]; omega
   have hl1:(M++l.take q).length=M.length+q:=by rw [List.length_append,hlq]
   have hwl:(wr h c.toNat (l.take q)).length=128:=by rw [Zwm (by rw [hlq,hD.hl,hcn]; omega),hD.hl]
   have hwb:Byt (wr h c.toNat (l.take q)):=Z009 hD.hb (Zei hbl _)
   have hwd : ∀ i,i<M.length%128+q->(wr h c.toNat (l.take q)).getD i 0=(M++l.take q).getD (128*(M.length / 128)+i) 0:=by
    intro i hi
    rw [Zki,hlq,hcn]
    by_cases h1:M.length%128<=i/\i<M.length%128+q
    ·rw [if_pos h1,Z8u (by omega)]
     congr 1; omega
    ·rw [if_neg h1,hD.hd i (by omega),Z70 (by omega)]
   have ew:wrap .i64 (c+(q:Int))=c+(q:Int):=Zl (by omega) (by omega)
   have hbM1:Byt (M++l.take q):=Z62 hbM (Zei hbl _)
   rw [<- Nat.add_assoc,Z0p,Z27,Z1n (decide_eq_true (by omega)),Zu (by simp [Zfh]; omega),Zk,<- hq,Zu (by simp [Zfh]; omega),Zk,ew,htake,hrest]
   by_cases h128:c+(q:Int)=128
   ·have hblock:wr h c.toNat (l.take q)=bk (M++l.take q) (M.length / 128) :=
     Zb3 hwl (Zqe (by rw [hl1]; omega)) (fun j hj=>by rw [hwd j (by omega),Zp7 hj])
    have ha8:a.length=8:=by rw [hD.st]; exact Zu0 _ _
    rw [Z1n (by simpa using h128),Z3 (Zx2 ha8 hwb hwl)]
    have hdiv:(M.length+q) / 128=M.length / 128+1:=by omega
    have hmod:(M.length+q)%128=0:=by omega
    have hD2:Dst (M++l.take q) (blk a (wr h c.toNat (l.take q))) (wr h c.toNat (l.take q)) 0:=by
     refine ⟨?_,?_,hwl,?_,hwb⟩
     ·rw [hl1,hdiv,hblock,hD.st]
      show _=blk (fbn (M++l.take q) (M.length / 128)) _
      rw [Zpe _ (by omega)]
     ·rw [hl1,hmod]; rfl
     ·intro i hi
      rw [hl1,hmod] at hi
      omega
    obtain ⟨r,er,h1,h2⟩:=ih (l.drop q) _ _ 0 (M++l.take q) (by rw [List.length_drop]; omega) (Zeh hbl _) hbM1 hD2 n
    exact ⟨r,er,h1,by rw [hM]; exact h2⟩
   ·rw [Z0u (by simpa using h128)]
    have hdiv:(M.length+q) / 128=M.length / 128:=by omega
    have hmod:(M.length+q)%128=M.length%128+q:=by omega
    have hD2:Dst (M++l.take q) a (wr h c.toNat (l.take q)) (c+(q:Int)):=by
     refine ⟨?_,?_,hwl,?_,hwb⟩
     ·rw [hl1,hdiv,Zpe _ (by omega)]; exact hD.st
     ·rw [hl1,hmod,hc]; omega
     ·intro i hi
      rw [hl1,hmod] at hi
      rw [hl1,hdiv]
      exact hwd i hi
    obtain ⟨r,er,h1,h2⟩:=ih (l.drop q) _ _ _ (M++l.take q) (by rw [List.length_drop]; omega) (Zeh hbl _) hbM1 hD2 n
    exact ⟨r,er,h1,by rw [hM]; exact h2⟩
theorem Zp0 {d:Zy} {M l:LI} (hl:l.length<18446744073709551615) (hbl:Byt l) (hbM:Byt M) (hD:Dst M d.gstate d.gheld d.ghave) : ∃ r,Z1t d l=some r/\r.glength=wrap .u64 (d.glength+wrap .u64 (l.length:Int))/\Dst (M++l) r.gstate r.gheld r.ghave:=by
 obtain ⟨n,hn⟩ : ∃ n',big=n'+1+l.length:=⟨18446744073709551615-l.length,by have:big=18446744073709551616:=Z38; omega⟩
 rw [Z1t,Zk,Zk,hn]
 exact Zwn _ l.length l d.gstate d.gheld d.ghave M (Nat.le_refl _) hbl hbM hD n
theorem Dst.start:Dst [] G_first (replicate 128 0) 0:=⟨rfl,rfl,by simp,fun i hi=>by simp at hi,Zly _⟩
def Zgb (x:Int):Nat:=((128-(x+17)%128)%128).toNat
def Zwu (x:Int):LI:=(([128]++replicate (Zgb x) 0)++be8 (Z0f .u64 x 61))++be8 (Z1v .u64 x 3)
theorem Zdd (x:Int):(be8 x).length=8:=rfl
theorem Zmi (x:Int):(Zwu x).length=17+Zgb x:=by
 unfold Zwu
 simp [Zdd]
 omega
theorem Zm4 (x:Int):Byt (be8 x):=Z9p (Ztf x)
theorem Zr5 (x:Int):Byt (Zwu x):=Z62 (Z62 (Z62 (Z9p (by decide)) (Zly _)) (Zm4 _)) (Zm4 _)
theorem Z026 {x:Int} (h0:0<=x) (h1:x<18446744073709551616):Za0 x=some (Zwu x):=by
 have hz:wrap .u64 (x+17)%128=(x+17)%128:=by rw [Zhn]; omega
 have hz3:=Z03p (x+17)
 have et:Int.tmod (wrap .u64 (x+17)) 128=(x+17)%128:=by rw [Int.tmod_eq_emod_of_nonneg hz3.1,hz]
 have ew:wrap .i64 ((x+17)%128)=(x+17)%128:=Zl (by omega) (by omega)
 have ew2:wrap .i64 (128-(x+17)%128)=128-(x+17)%128:=Zl (by omega) (by omega)
 have et2:Int.tmod (128-(x+17)%128) 128=(128-(x+17)%128)%128:=Int.tmod_eq_emod_of_nonneg (by omega)
 have ew3:wrap .i64 (17+(128-(x+17)%128)%128)=17+(128-(x+17)%128)%128:=Zl (by omega) (by omega)
 simp only [Za0,Zk,et,ew,ew2,et2,ew3]
 have hp:((128-(x+17)%128)%128).toNat=Zgb x:=rfl
 rw [hp]
 have hpz:Zgb x<128:=by unfold Zgb; omega
 rw [Zu (by unfold mkB; simp only [Bool.and_eq_true,decide_eq_true_eq]; omega),Zu (by simp),Zu (by simp; omega),Zu (by simp; omega),Z3 (Zex _),Zu (by simp [Zdd]; omega),Z3 (Zex _),Zu (by simp [Zdd]; omega)]
 rfl
theorem Z0fs (x:Int):Zfo x=some [wrap .u8 (Z0f .u64 x 56),wrap .u8 (Z0f .u64 x 48),wrap .u8 (Z0f .u64 x 40),wrap .u8 (Z0f .u64 x 32),wrap .u8 (Z0f .u64 x 24),wrap .u8 (Z0f .u64 x 16),wrap .u8 (Z0f .u64 x 8),wrap .u8 (Z0f .u64 x 0)]:=by kernel_rfl
theorem shrl (x:Int) (n:Nat) (h:n<=64):Z0f .u64 x (n:Int)=x / ((2^n:Nat):Int):=Z9r .u64 h
theorem Zn1 (x:Int):Zfo x=some (be8 x):=by
 rw [Z0fs]
 have e56:Z0f .u64 x 56=x / 72057594037927936:=shrl x 56 (by decide)
 have e48:Z0f .u64 x 48=x / 281474976710656:=shrl x 48 (by decide)
 have e40:Z0f .u64 x 40=x / 1099511627776:=shrl x 40 (by decide)
 have e32:Z0f .u64 x 32=x / 4294967296:=shrl x 32 (by decide)
 have e24:Z0f .u64 x 24=x / 16777216:=shrl x 24 (by decide)
 have e16:Z0f .u64 x 16=x / 65536:=shrl x 16 (by decide)
 have e0:Z0f .u64 x 0=x:=by
  have:Z0f .u64 x 0=x / 1:=shrl x 0 (by decide)
  rw [this,Int.ediv_one]
 unfold be8
 simp only [Zw4,e56,e48,e40,e32,e24,e16,e0]
 congr 1
 simp only [List.cons.injEq,and_true,true_and]
 refine ⟨?_,?_,?_,?_,?_,?_⟩ <;> (congr 1; omega)
theorem Zvr (x:Int) (k:LI->Option (LI)) (hx:0<=x) (m:Nat) : ∀ (n t:Nat),t+m=Zgb x->Z99 (x%128) k (n+1+m) ([128]++replicate t 0)=k ([128]++replicate (Zgb x) 0):=by
 have hz:Zgb x<128:=by unfold Zgb; omega
 induction m with
 | zero =>
  intro n t ht
  have e:t=Zgb x:=by omega
  subst e
  have el:((([128]++replicate (Zgb x) 0:LI).length:Nat):Int)=1+(Zgb x:Int):=by simp; omega
  have w1:wrap .i64 (x%128+(1+(Zgb x:Int)))=x%128+(1+(Zgb x:Int)):=Zl (by omega) (by omega)
  have w2:wrap .i64 (x%128+(1+(Zgb x:Int))+16)=x%128+(1+(Zgb x:Int))+16:=Zl (by omega) (by omega)
  have w3:Int.tmod (x%128+(1+(Zgb x:Int))+16) 128=0:=by
   rw [Int.tmod_eq_emod_of_nonneg (by omega)]
   unfold Zgb
   omega
  rw [Nat.add_zero,Z99,Zdv]
  simp only [Zk,el,w1,w2,w3]
  rw [Z0u (by decide)]
 | succ m ih =>
  intro n t ht
  have el:((([128]++replicate t 0:LI).length:Nat):Int)=1+(t:Int):=by simp; omega
  have w1:wrap .i64 (x%128+(1+(t:Int)))=x%128+(1+(t:Int)):=Zl (by omega) (by omega)
  have w2:wrap .i64 (x%128+(1+(t:Int))+16)=x%128+(1+(t:Int))+16:=Zl (by omega) (by omega)
  have w3:Int.tmod (x%128+(1+(t:Int))+16) 128≠0:=by
   rw [Int.tmod_eq_emod_of_nonneg (by omega)]
   unfold Zgb at ht
   omega
  have ea:([128]++replicate t 0:LI) ++ [0] = [128]++replicate (t+1) 0:=by
   rw [List.append_assoc,List.replicate_succ']
  rw [<- Nat.add_assoc,Z99,Zdv]
  simp only [Zk,el,w1,w2]
  rw [Z1n (by simpa using w3),Zu (by simp; omega),ea]
  exact ih n (t+1) (by omega)
theorem Zyt {x:Int} (h0:0<=x) (h1:x<18446744073709551616):Zo2 x=some (Zwu x):=by
 have hz:Zgb x<128:=by unfold Zgb; omega
 obtain ⟨n,hn⟩ : ∃ n',big=n'+1+Zgb x:=⟨18446744073709551615-Zgb x,by have:big=18446744073709551616:=Z38; omega⟩
 have e1:Int.tmod x 128=x%128:=Int.tmod_eq_emod_of_nonneg h0
 have e2:wrap .i64 (x%128)=x%128:=Zl (by omega) (by omega)
 have e3:wrap .u64 (Int.tdiv x 2305843009213693952)=Z0f .u64 x 61:=by
  have:Z0f .u64 x 61=x / 2305843009213693952:=shrl x 61 (by decide)
  rw [this,Int.tdiv_eq_ediv_of_nonneg h0,Zb (by omega) (by omega)]
 have e4:wrap .u64 (x*8)=Z1v .u64 x 3:=(Zfg .u64 (x:=x) (n:=3) (by decide)).symm
 rw [Zo2]
 simp only [Zk,e1,e2,e3,e4,Z19]
 rw [hn]
 refine (Zvr x _ h0 (Zgb x) n 0 (by omega)).trans ?_
 rw [Z3 (Zn1 _),Zu (by simp [Zdd]; omega),Z3 (Zn1 _),Zu (by simp [Zdd]; omega)]
 rfl
def Zf6 (M:LI):LI:=M++Zwu (M.length:Int)
def Znj (M:LI):LI:=told (fbn (Zf6 M) ((Zf6 M).length / 128))
theorem Zwh (M:LI):(Zf6 M).length%128=0:=by
 unfold Zf6 Zwu
 rw [List.length_append]
 have:=Zmi (M.length:Int)
 unfold Zwu at this
 rw [this]
 unfold Zgb
 omega
theorem Znk (M:LI):Byt (Znj M):=Zz5 _
theorem Z03k {d:Zy} {M:LI} (hM:M.length<9223372036854775808) (hb:Byt M) (hD:Dst M d.gstate d.gheld d.ghave) (hl:d.glength=(M.length:Int)):Z53 d=some (Znj M,d):=by
 obtain ⟨r,er,_,hr⟩:=Zp0 (d:=d) (l:=Zwu d.glength) (by rw [Zmi]; unfold Zgb; omega) (Zr5 _) hb hD
 rw [Z53,Z5m,Z3 rfl]
 show opt (Za0 d.glength) _=_
 rw [Z3 (Z026 (by omega) (by omega))]
 show opt (Z1t d (Zwu d.glength)) _=_
 rw [Z3 er,Z19,Zz0]
 have e:r.gstate=fbn (Zf6 M) ((Zf6 M).length / 128):=by
  have:=hr.st
  rw [hl] at this
  exact this
 rw [e]
 rfl
theorem Z00b {M:LI} (hM:M.length<9223372036854775808) (hb:Byt M):Zc8 M=some (Znj M):=by
 obtain ⟨r,er,el,hr⟩:=Zp0 (d:=⟨G_first,replicate 128 0,0,0⟩) (l:=M) (by omega) hb Zt5 Dst.start
 have e1:r.glength=(M.length:Int):=by
  rw [el]
  show wrap .u64 (0+wrap .u64 (M.length:Int))=_
  rw [Int.zero_add,Zb (x:=(M.length:Int)) (by omega) (by omega),Zb (by omega) (by omega)]
 rw [Zc8,Zew,Z3 rfl]
 show opt (Z1t ⟨G_first,replicate 128 0,0,0⟩ M) _=_
 rw [Z3 er,Z3 (Z03k hM hb hr e1)]
theorem Zvw {L:LI} (hb:Byt L) (h128:L.length%128=0) (hL:L.length<9223372036854775000) (k:LI->Option (LI)) (m:Nat) : ∀ (n j:Nat),128*(j+m)=L.length->Z73 L k (n+1+m) ((128*j:Nat):Int) (fbn L j)=k (fbn L (L.length / 128)):=by
 induction m with
 | zero =>
  intro n j hj
  have e:j=L.length / 128:=by omega
  rw [Nat.add_zero,Z73,Zdw,Z0u (decide_eq_false (by omega)),<- e]
 | succ m ih =>
  intro n j hj
  have e1:wrap .i64 (((128*j:Nat):Int)+128)=((128*(j+1):Nat):Int):=by rw [Zl (by omega) (by omega)]; omega
  have e2:128*(j+1)-128*j=128:=by omega
  rw [<- Nat.add_assoc,Z73,Zdw,Z1n (decide_eq_true (by omega))]
  simp only [Zk,e1,Int.toNat_natCast,e2]
  have hbk:(L.drop (128*j)).take 128=bk L j:=rfl
  rw [Zu (by simp [Zfh]; omega),hbk,Z3 (Z03i (Zu0 L j) (Z048 hb j) (Zqe (by omega)))]
  exact ih n (j+1) (by omega)
def Zn4 (x:Int):LI:=[wrap .u8 (Z0f .u64 x 56),wrap .u8 (Z0f .u64 x 48),wrap .u8 (Z0f .u64 x 40),wrap .u8 (Z0f .u64 x 32),wrap .u8 (Z0f .u64 x 24),wrap .u8 (Z0f .u64 x 16),wrap .u8 (Z0f .u64 x 8),wrap .u8 (Z0f .u64 x 0)]
theorem Zrq (x:Int):Zn4 x=be8 x:=by
 have h:=Zn1 x
 rw [Z0fs] at h
 exact Option.some.inj h
theorem Zvy (a:LI) (k:LI->Option (LI)):Zbs a k big 0 (replicate 64 0)=k (Zn4 (a.getD 0 0)++(Zn4 (a.getD 1 0)++(Zn4 (a.getD 2 0)++(Zn4 (a.getD 3 0)++(Zn4 (a.getD 4 0)++(Zn4 (a.getD 5 0)++(Zn4 (a.getD 6 0)++Zn4 (a.getD 7 0)))))))):=by kernel_rfl
theorem Zye {M:LI} (hM:M.length+145<=140737488355328) (hb:Byt M):Zlh M=some (Znj M):=by
 have hz:Zgb (M.length:Int)<128:=by unfold Zgb; omega
 have hp:=Zmi (M.length:Int)
 have hw:(Zf6 M).length=M.length+(17+Zgb (M.length:Int)):=by unfold Zf6; rw [List.length_append,hp]
 have hm:=Zwh M
 have key : ∀ k,Z73 (Zf6 M) k big 0 G_rfirst=k (fbn (Zf6 M) ((Zf6 M).length / 128)):=by
  intro k
  obtain ⟨n,hn⟩ : ∃ n',big=n'+1+(Zf6 M).length / 128:=⟨18446744073709551615-(Zf6 M).length / 128,by have:big=18446744073709551616:=Z38; omega⟩
  rw [hn,Zu3]
  exact Zvw (show Byt (Zf6 M) from Z62 hb (Zr5 _)) hm (by omega) k ((Zf6 M).length / 128) n 0 (by omega)
 rw [Zlh,Zu (by simp; omega),Zk,Zk,List.nil_append,Zb (by omega) (by omega),Z3 (Zyt (by omega) (by omega)),Zu (by rw [hp]; simp; omega),Zk,Z19]
 show Z73 (Zf6 M) _ big 0 G_rfirst=_
 rw [key,Z19,Zvy]
 simp only [Zrq]
 rfl
end Go.Proofs.YtiflckckekjbnaaGreatDoor
namespace Go.Proofs.YtiflckckekjbnaaGreatDoor
open Go Go.Sx Go.RowKit
open Go.IntKind (wrap)
set_option linter.all false
set_option maxRecDepth 100000
set_option maxHeartbeats 1000000
theorem Z01q (p:LI):Zms p false=some (tk p 0 32):=by kernel_rfl
theorem Zsl (p:LI) (k:LI->Option (LI)):Z8j p k big 0 (List.replicate 32 0)=k (tk p 0 32):=by kernel_rfl
theorem Zx9 {x:Int} (h0:0<=x) (h1:x<256):wrap .u8 (x-Int.tmod x 8)=Za .andNot .u8 x 7:=by
 have h : ∀ n:Fin 256,wrap .u8 ((n.val:Int)-Int.tmod (n.val:Int) 8)=Za .andNot .u8 (n.val:Int) 7:=by decide +kernel
 have:=h ⟨x.toNat,by omega⟩
 have e:((x.toNat:Nat):Int)=x:=by omega
 simp only [e] at this
 exact this
theorem Zx8 {x:Int} (h0:0<=x) (h1:x<256):wrap .u8 (Int.tmod x 64+64)=Za .or .u8 (Za .and .u8 x 127) 64:=by
 have h : ∀ n:Fin 256,wrap .u8 (Int.tmod (n.val:Int) 64+64)=Za .or .u8 (Za .and .u8 (n.val:Int) 127) 64:=by decide +kernel
 have:=h ⟨x.toNat,by omega⟩
 have e:((x.toNat:Nat):Int)=x:=by omega
 simp only [e] at this
 exact this
theorem Zvb {p:LI} (h:Byt p) (l:p.length=32):Zgl p=some (Znc p):=by
 have e0:tk p 0 32=p:=Zd5 l
 have b0:=h 0
 have b31:=h 31
 rw [Zgl,Z19,Zsl,e0]
 simp only [Zk]
 rw [Zx9 b0.1 b0.2]
 have g31:(Z28 p 0 (Za .andNot .u8 (p.getD 0 0) 7)).getD 31 0=p.getD 31 0:=by rw [Z17,if_neg (by decide)]
 unfold Znc
 rw [g31,Zx8 b31.1 b31.2]
noncomputable def Zxs (s:LI):LI:=Znc (tk (Znj s) 0 32)
noncomputable def Z0lz (s:LI):LI:=tk (Znj s) 32 32
noncomputable def Z01t (s:LI):LI:=encG (pB (Zxs s))
theorem Znr (s:LI):Byt (Zxs s):=Zto (Z007 (Znk s) 0 32)
theorem Z02a {s:LI} (hs:Byt s) (l:s.length=32):Zay s=some (Zxs s,Z0lz s):=by
 have e0:tk s 0 32=s:=Zd5 l
 have e2:tk (tk (Znj s) 0 32) 0 32=tk (Znj s) 0 32:=Zd5 (Z1j _ _ _)
 rw [Zay,e0,Z3 (Z00b (by omega) hs),Zu (by rw [Z1j]; rfl),Zk,e2,Z3 (Zx7 _)]
 rfl
theorem Z02c {s:LI} (hs:Byt s) (l:s.length=32):Z8p s=some (Z01t s):=by
 obtain ⟨q,eq1,rq⟩:=Zpn (Znr s)
 rw [Z8p,Z3 (Z02a hs l)]
 dsimp only
 rw [Z3 eq1,Z3 (Zs6 rq)]
 rfl
theorem Zq3 {s:LI} (hs:Byt s) (l:s.length=32):Z89 s=some (Zxs s):=by
 have e0:tk s 0 32=s:=Zd5 l
 rw [Z89,e0,Z3 (Zye (by omega) hs),Z3 (Z01q _),Z3 (Zvb (Z007 (Znk s) 0 32) (Z1j _ _ _))]
 rfl
theorem Z03d {s:LI} (hs:Byt s) (l:s.length=32):Zar s=some (Z01t s):=by
 obtain ⟨q,eq1,rq⟩:=Zyp (Znr s)
 rw [Zar,Z3 (Zq3 hs l),Z3 eq1,Z3 (Z037 rq)]
 rfl
end Go.Proofs.YtiflckckekjbnaaGreatDoor
